/- KGH, KGM, KGF, KGI, KGJ, KBL, KMA, KMB, KMC, KMD: laid into one text. -/
import Derived.Test.YteagoafamjbpbaaQCircuitBackE
import Derived.RangeFuncNested
import Derived.RangeFuncBox
import Derived.RangeFuncLeaves
import Derived.Shelf.Abstract
import Derived.WalkKit
import Derived.OwnWalkIn
import Derived.TacticsInMore
import Derived.LoopNIn
import Derived.LoopIn
import Derived.Maps.AppendAt
import Derived.Deep.RegionLaw
import Derived.Shelf.RegionOpenPlain
import Derived.Laws.CopyRow
import Derived.LoopN
import Derived.Lib.SliceRun
import Derived.Lib.AppendZeros

/- The reference's gates: lines, valid gates, what they make of words. -/
namespace Go.Proofs.Yteagoafamjbpbaa
set_option linter.unusedVariables false
set_option linter.unusedSimpArgs false
set_option maxRecDepth 20000
open Go.RowKit
attribute [local irreducible] runA runX AW
theorem gq_KGH {H G : Prop} (k : H) (h : Hid H → G := by (intro hh; (first | (first | ((first | refine r_none ?_ | refine r_gt (by rfl) (by rfl) (by first | rfl | assumption | omega | (simp only [*, Bool.not_false, Bool.not_true]; first | done | fail) | (simp [*]; first | done | fail)) (by rfl) ?_ | refine r_gf (by rfl) (by rfl) (by first | rfl | assumption | omega | (simp only [*, Bool.not_false, Bool.not_true]; first | done | fail) | (simp [*]; first | done | fail)) (by rfl) ?_); (first | fail | ((first | (refine z_op (by rfl) ?_; first | refine z_ok ?_ ?_ | refine z_ex ?_ (by first | exact ft_raw rfl rfl | ((first | refine ft_rp rfl rfl rfl ?_ | refine ft_row rfl rfl rfl ?_ | refine ft_rpF rfl rfl rfl ?_ | refine ft_rowF rfl rfl rfl ?_ | refine up_row rfl rfl ?_ | refine up_rowF rfl rfl rfl ?_ | refine ct_0 rfl ?_ | refine ct_r rfl rfl ?_ | refine ct_c rfl rfl rfl ?_ | refine cu_all rfl ?_ | refine cu_to rfl ?_ | refine cu_from rfl ?_ | refine cu_p rfl ?_ | fail); (first | omega | (simp only [List.length_append, List.length_replicate, List.length_cons, List.length_nil, List.length_set, List.length_take, List.length_drop, true_and]; omega))) | exact up_raw rfl | exact pk_t (by first | rfl | assumption | omega | (simp only [*, Bool.not_false, Bool.not_true]; first | done | fail) | (simp [*]; first | done | fail)) rfl | exact pk_f (by first | rfl | assumption | omega | (simp only [*, Bool.not_false, Bool.not_true]; first | done | fail) | (simp [*]; first | done | fail)) rfl | exact rw_c Int rfl | exact rw_raw | exact pu_cv (fun w => rfl) (by omega) | exact pu_of (fun w => rfl) rfl | exact be_of (fun w => rfl) | exact nc_of (fun _ _ _ _ => rfl) rfl | exact bu_of (fun w => rfl) rfl | fail) ?_) | ((first | refine q_callE wsT wsZ (by rfl) ?_ | refine q_callVE wsT (by rfl) (by rfl) ?_); refine ⟨_, _, _, (by first | assumption | exact k_l1In _ _ _ | exact k_linesS _ | exact k_has _ _ (by omega) | exact k_wvS2 _ _ | exact k_bitS _ _ (by omega) | exact k_turnS _ _ (by omega)), _, by rfl, ?_, ?_⟩)); focus (first | exact trivial | fail | exact rfl | (first | omega | (simp only [List.length_append, List.length_replicate, List.length_cons, List.length_nil, List.length_set, List.length_take, List.length_drop, true_and]; omega)) | exact cvB (fun w => rfl) | ((repeat' (first | exact rfl | exact cV_len _ | exact cV_ln rfl (by omega) | exact Cel.pos | omega | exact trivial | refine And.intro ?_ ?_)); done) | (simp [*]; done) | (simp; omega))) | fail)) | refine r_nt (by rfl) (by rfl) (by first | rfl | assumption | omega | (simp only [*, Bool.not_false, Bool.not_true]; first | done | fail) | (simp [*]; first | done | fail)) (by rfl) ?_ | refine r_nf (by rfl) (by rfl) (by first | rfl | assumption | omega | (simp only [*, Bool.not_false, Bool.not_true]; first | done | fail) | (simp [*]; first | done | fail)) (by rfl) ?_ | refine r_gu (by rfl) (by rfl) (by rfl) ?_ | refine r_nil ?_) | (first | refine aw_seq ?_ | refine aw_ct (by rfl) (by first | rfl | assumption | omega | (simp only [*, Bool.not_false, Bool.not_true]; first | done | fail) | (simp [*]; first | done | fail)) ?_ | refine aw_cf (by rfl) (by first | rfl | assumption | omega | (simp only [*, Bool.not_false, Bool.not_true]; first | done | fail) | (simp [*]; first | done | fail)) ?_ | refine aw_block ?_ | refine aw_region T0ok cfU_ok (by rfl) ?_ | refine aw_skip ?_ | refine aw_exit ?_ | refine ra_step ?_)); (repeat (first | (first | ((first | refine r_none ?_ | refine r_gt (by rfl) (by rfl) (by first | rfl | assumption | omega | (simp only [*, Bool.not_false, Bool.not_true]; first | done | fail) | (simp [*]; first | done | fail)) (by rfl) ?_ | refine r_gf (by rfl) (by rfl) (by first | rfl | assumption | omega | (simp only [*, Bool.not_false, Bool.not_true]; first | done | fail) | (simp [*]; first | done | fail)) (by rfl) ?_); (first | fail | ((first | (refine z_op (by rfl) ?_; first | refine z_ok ?_ ?_ | refine z_ex ?_ (by first | exact ft_raw rfl rfl | ((first | refine ft_rp rfl rfl rfl ?_ | refine ft_row rfl rfl rfl ?_ | refine ft_rpF rfl rfl rfl ?_ | refine ft_rowF rfl rfl rfl ?_ | refine up_row rfl rfl ?_ | refine up_rowF rfl rfl rfl ?_ | refine ct_0 rfl ?_ | refine ct_r rfl rfl ?_ | refine ct_c rfl rfl rfl ?_ | refine cu_all rfl ?_ | refine cu_to rfl ?_ | refine cu_from rfl ?_ | refine cu_p rfl ?_ | fail); (first | omega | (simp only [List.length_append, List.length_replicate, List.length_cons, List.length_nil, List.length_set, List.length_take, List.length_drop, true_and]; omega))) | exact up_raw rfl | exact pk_t (by first | rfl | assumption | omega | (simp only [*, Bool.not_false, Bool.not_true]; first | done | fail) | (simp [*]; first | done | fail)) rfl | exact pk_f (by first | rfl | assumption | omega | (simp only [*, Bool.not_false, Bool.not_true]; first | done | fail) | (simp [*]; first | done | fail)) rfl | exact rw_c Int rfl | exact rw_raw | exact pu_cv (fun w => rfl) (by omega) | exact pu_of (fun w => rfl) rfl | exact be_of (fun w => rfl) | exact nc_of (fun _ _ _ _ => rfl) rfl | exact bu_of (fun w => rfl) rfl | fail) ?_) | ((first | refine q_callE wsT wsZ (by rfl) ?_ | refine q_callVE wsT (by rfl) (by rfl) ?_); refine ⟨_, _, _, (by first | assumption | exact k_l1In _ _ _ | exact k_linesS _ | exact k_has _ _ (by omega) | exact k_wvS2 _ _ | exact k_bitS _ _ (by omega) | exact k_turnS _ _ (by omega)), _, by rfl, ?_, ?_⟩)); focus (first | exact trivial | fail | exact rfl | (first | omega | (simp only [List.length_append, List.length_replicate, List.length_cons, List.length_nil, List.length_set, List.length_take, List.length_drop, true_and]; omega)) | exact cvB (fun w => rfl) | ((repeat' (first | exact rfl | exact cV_len _ | exact cV_ln rfl (by omega) | exact Cel.pos | omega | exact trivial | refine And.intro ?_ ?_)); done) | (simp [*]; done) | (simp; omega))) | fail)) | refine r_nt (by rfl) (by rfl) (by first | rfl | assumption | omega | (simp only [*, Bool.not_false, Bool.not_true]; first | done | fail) | (simp [*]; first | done | fail)) (by rfl) ?_ | refine r_nf (by rfl) (by rfl) (by first | rfl | assumption | omega | (simp only [*, Bool.not_false, Bool.not_true]; first | done | fail) | (simp [*]; first | done | fail)) (by rfl) ?_ | refine r_gu (by rfl) (by rfl) (by rfl) ?_ | refine r_nil ?_) | (first | refine aw_seq ?_ | refine aw_ct (by rfl) (by first | rfl | assumption | omega | (simp only [*, Bool.not_false, Bool.not_true]; first | done | fail) | (simp [*]; first | done | fail)) ?_ | refine aw_cf (by rfl) (by first | rfl | assumption | omega | (simp only [*, Bool.not_false, Bool.not_true]; first | done | fail) | (simp [*]; first | done | fail)) ?_ | refine aw_block ?_ | refine aw_region T0ok cfU_ok (by rfl) ?_ | refine aw_skip ?_ | refine aw_exit ?_ | refine ra_step ?_))); exact hh.out)) : G := h ⟨k⟩
theorem ga_KGH {H G : Prop} (k : H) (h : Hid H → G := by (intro hh; (first | refine r_none ?_ | refine r_gt (by rfl) (by rfl) (by first | rfl | assumption | omega | (simp only [*, Bool.not_false, Bool.not_true]; first | done | fail) | (simp [*]; first | done | fail)) (by rfl) ?_ | refine r_gf (by rfl) (by rfl) (by first | rfl | assumption | omega | (simp only [*, Bool.not_false, Bool.not_true]; first | done | fail) | (simp [*]; first | done | fail)) (by rfl) ?_); refine z_op (by rfl) ?_; refine z_alV ?_ hh.out; focus (first | exact trivial | fail | exact rfl | (first | omega | (simp only [List.length_append, List.length_replicate, List.length_cons, List.length_nil, List.length_set, List.length_take, List.length_drop, true_and]; omega)) | exact cvB (fun w => rfl) | ((repeat' (first | exact rfl | exact cV_len _ | exact cV_ln rfl (by omega) | exact Cel.pos | omega | exact trivial | refine And.intro ?_ ?_)); done) | (simp [*]; done) | (simp; omega)))) : G := h ⟨k⟩
theorem gs_KGH {H G : Prop} (k : H) (h : Hid H → G := by (intro hh; (first | ((first | refine r_none ?_ | refine r_gt (by rfl) (by rfl) (by first | rfl | assumption | omega | (simp only [*, Bool.not_false, Bool.not_true]; first | done | fail) | (simp [*]; first | done | fail)) (by rfl) ?_ | refine r_gf (by rfl) (by rfl) (by first | rfl | assumption | omega | (simp only [*, Bool.not_false, Bool.not_true]; first | done | fail) | (simp [*]; first | done | fail)) (by rfl) ?_); (first | fail | ((first | (refine z_op (by rfl) ?_; first | refine z_ok ?_ ?_ | refine z_ex ?_ (by first | exact ft_raw rfl rfl | ((first | refine ft_rp rfl rfl rfl ?_ | refine ft_row rfl rfl rfl ?_ | refine ft_rpF rfl rfl rfl ?_ | refine ft_rowF rfl rfl rfl ?_ | refine up_row rfl rfl ?_ | refine up_rowF rfl rfl rfl ?_ | refine ct_0 rfl ?_ | refine ct_r rfl rfl ?_ | refine ct_c rfl rfl rfl ?_ | refine cu_all rfl ?_ | refine cu_to rfl ?_ | refine cu_from rfl ?_ | refine cu_p rfl ?_ | fail); (first | omega | (simp only [List.length_append, List.length_replicate, List.length_cons, List.length_nil, List.length_set, List.length_take, List.length_drop, true_and]; omega))) | exact up_raw rfl | exact pk_t (by first | rfl | assumption | omega | (simp only [*, Bool.not_false, Bool.not_true]; first | done | fail) | (simp [*]; first | done | fail)) rfl | exact pk_f (by first | rfl | assumption | omega | (simp only [*, Bool.not_false, Bool.not_true]; first | done | fail) | (simp [*]; first | done | fail)) rfl | exact rw_c Int rfl | exact rw_raw | exact pu_cv (fun w => rfl) (by omega) | exact pu_of (fun w => rfl) rfl | exact be_of (fun w => rfl) | exact nc_of (fun _ _ _ _ => rfl) rfl | exact bu_of (fun w => rfl) rfl | fail) ?_) | ((first | refine q_callE wsT wsZ (by rfl) ?_ | refine q_callVE wsT (by rfl) (by rfl) ?_); refine ⟨_, _, _, (by first | assumption | exact k_l1In _ _ _ | exact k_linesS _ | exact k_has _ _ (by omega) | exact k_wvS2 _ _ | exact k_bitS _ _ (by omega) | exact k_turnS _ _ (by omega)), _, by rfl, ?_, ?_⟩)); focus (first | exact trivial | fail | exact rfl | (first | omega | (simp only [List.length_append, List.length_replicate, List.length_cons, List.length_nil, List.length_set, List.length_take, List.length_drop, true_and]; omega)) | exact cvB (fun w => rfl) | ((repeat' (first | exact rfl | exact cV_len _ | exact cV_ln rfl (by omega) | exact Cel.pos | omega | exact trivial | refine And.intro ?_ ?_)); done) | (simp [*]; done) | (simp; omega))) | fail)) | refine r_nt (by rfl) (by rfl) (by first | rfl | assumption | omega | (simp only [*, Bool.not_false, Bool.not_true]; first | done | fail) | (simp [*]; first | done | fail)) (by rfl) ?_ | refine r_nf (by rfl) (by rfl) (by first | rfl | assumption | omega | (simp only [*, Bool.not_false, Bool.not_true]; first | done | fail) | (simp [*]; first | done | fail)) (by rfl) ?_ | refine r_gu (by rfl) (by rfl) (by rfl) ?_ | refine r_nil ?_); (repeat (first | ((first | refine r_none ?_ | refine r_gt (by rfl) (by rfl) (by first | rfl | assumption | omega | (simp only [*, Bool.not_false, Bool.not_true]; first | done | fail) | (simp [*]; first | done | fail)) (by rfl) ?_ | refine r_gf (by rfl) (by rfl) (by first | rfl | assumption | omega | (simp only [*, Bool.not_false, Bool.not_true]; first | done | fail) | (simp [*]; first | done | fail)) (by rfl) ?_); (first | fail | ((first | (refine z_op (by rfl) ?_; first | refine z_ok ?_ ?_ | refine z_ex ?_ (by first | exact ft_raw rfl rfl | ((first | refine ft_rp rfl rfl rfl ?_ | refine ft_row rfl rfl rfl ?_ | refine ft_rpF rfl rfl rfl ?_ | refine ft_rowF rfl rfl rfl ?_ | refine up_row rfl rfl ?_ | refine up_rowF rfl rfl rfl ?_ | refine ct_0 rfl ?_ | refine ct_r rfl rfl ?_ | refine ct_c rfl rfl rfl ?_ | refine cu_all rfl ?_ | refine cu_to rfl ?_ | refine cu_from rfl ?_ | refine cu_p rfl ?_ | fail); (first | omega | (simp only [List.length_append, List.length_replicate, List.length_cons, List.length_nil, List.length_set, List.length_take, List.length_drop, true_and]; omega))) | exact up_raw rfl | exact pk_t (by first | rfl | assumption | omega | (simp only [*, Bool.not_false, Bool.not_true]; first | done | fail) | (simp [*]; first | done | fail)) rfl | exact pk_f (by first | rfl | assumption | omega | (simp only [*, Bool.not_false, Bool.not_true]; first | done | fail) | (simp [*]; first | done | fail)) rfl | exact rw_c Int rfl | exact rw_raw | exact pu_cv (fun w => rfl) (by omega) | exact pu_of (fun w => rfl) rfl | exact be_of (fun w => rfl) | exact nc_of (fun _ _ _ _ => rfl) rfl | exact bu_of (fun w => rfl) rfl | fail) ?_) | ((first | refine q_callE wsT wsZ (by rfl) ?_ | refine q_callVE wsT (by rfl) (by rfl) ?_); refine ⟨_, _, _, (by first | assumption | exact k_l1In _ _ _ | exact k_linesS _ | exact k_has _ _ (by omega) | exact k_wvS2 _ _ | exact k_bitS _ _ (by omega) | exact k_turnS _ _ (by omega)), _, by rfl, ?_, ?_⟩)); focus (first | exact trivial | fail | exact rfl | (first | omega | (simp only [List.length_append, List.length_replicate, List.length_cons, List.length_nil, List.length_set, List.length_take, List.length_drop, true_and]; omega)) | exact cvB (fun w => rfl) | ((repeat' (first | exact rfl | exact cV_len _ | exact cV_ln rfl (by omega) | exact Cel.pos | omega | exact trivial | refine And.intro ?_ ?_)); done) | (simp [*]; done) | (simp; omega))) | fail)) | refine r_nt (by rfl) (by rfl) (by first | rfl | assumption | omega | (simp only [*, Bool.not_false, Bool.not_true]; first | done | fail) | (simp [*]; first | done | fail)) (by rfl) ?_ | refine r_nf (by rfl) (by rfl) (by first | rfl | assumption | omega | (simp only [*, Bool.not_false, Bool.not_true]; first | done | fail) | (simp [*]; first | done | fail)) (by rfl) ?_ | refine r_gu (by rfl) (by rfl) (by rfl) ?_ | refine r_nil ?_)); exact hh.out)) : G := h ⟨k⟩
theorem gc_KGH {H G : Prop} (k : H) (h : Hid H → G := by (intro hh; (first | refine aw_seq ?_ | refine aw_ct (by rfl) (by first | rfl | assumption | omega | (simp only [*, Bool.not_false, Bool.not_true]; first | done | fail) | (simp [*]; first | done | fail)) ?_ | refine aw_cf (by rfl) (by first | rfl | assumption | omega | (simp only [*, Bool.not_false, Bool.not_true]; first | done | fail) | (simp [*]; first | done | fail)) ?_ | refine aw_block ?_ | refine aw_region T0ok cfU_ok (by rfl) ?_ | refine aw_skip ?_ | refine aw_exit ?_ | refine ra_step ?_); (repeat (first | refine aw_seq ?_ | refine aw_ct (by rfl) (by first | rfl | assumption | omega | (simp only [*, Bool.not_false, Bool.not_true]; first | done | fail) | (simp [*]; first | done | fail)) ?_ | refine aw_cf (by rfl) (by first | rfl | assumption | omega | (simp only [*, Bool.not_false, Bool.not_true]; first | done | fail) | (simp [*]; first | done | fail)) ?_ | refine aw_block ?_ | refine aw_region T0ok cfU_ok (by rfl) ?_ | refine aw_skip ?_ | refine aw_exit ?_ | refine ra_step ?_)); exact hh.out)) : G := h ⟨k⟩
theorem gd_KGH {H G : Prop} (k : H) (h : Hid H → G := by (intro hh; (refine aw_draw mixed T0ok cfU_ok [] (by rfl) (by kernel_rfl) ?_); exact hh.out)) : G := h ⟨k⟩
theorem k_linesS (g : Gt) : Kon Try.prog 99 [gV g] [] (slA 0 0 (lns g)) [iRow (lns g)] [] := by
  obtain ⟨k, a, b, c⟩ := g
  by_cases h0 : k = 0
  · subst h0
    (refine kon_mk T0ok (fn := Try.f99) (c := Try.f99.body.get rfl) Try.func99 rfl (by rfl) (by rfl) (by rfl) ?_; intro hfit hfe)
    (repeat (first | refine gq_KGH ?_ | (refine ga_KGH ?_; intro _hq)))
    ((try refine aw_ret ?_); refine ret_auto2 (by rfl) (by rfl) (by rfl) (by repeat (first | exact trivial | refine ⟨by first | rfl | omega, ?_⟩)) ?_ (by repeat (first | exact trivial | refine ⟨by rfl, by rfl, ?_⟩)) (by repeat (first | exact trivial | refine ⟨by rfl, by rfl, ?_⟩)); try rfl)
  by_cases h1 : k = 1
  · subst h1
    (refine kon_mk T0ok (fn := Try.f99) (c := Try.f99.body.get rfl) Try.func99 rfl (by rfl) (by rfl) (by rfl) ?_; intro hfit hfe)
    (repeat (first | refine gq_KGH ?_ | (refine ga_KGH ?_; intro _hq)))
    ((try refine aw_ret ?_); refine ret_auto2 (by rfl) (by rfl) (by rfl) (by repeat (first | exact trivial | refine ⟨by first | rfl | omega, ?_⟩)) ?_ (by repeat (first | exact trivial | refine ⟨by rfl, by rfl, ?_⟩)) (by repeat (first | exact trivial | refine ⟨by rfl, by rfl, ?_⟩)); try rfl)
  by_cases h2 : k = 2
  · subst h2
    (refine kon_mk T0ok (fn := Try.f99) (c := Try.f99.body.get rfl) Try.func99 rfl (by rfl) (by rfl) (by rfl) ?_; intro hfit hfe)
    (repeat (first | refine gq_KGH ?_ | (refine ga_KGH ?_; intro _hq)))
    ((try refine aw_ret ?_); refine ret_auto2 (by rfl) (by rfl) (by rfl) (by repeat (first | exact trivial | refine ⟨by first | rfl | omega, ?_⟩)) ?_ (by repeat (first | exact trivial | refine ⟨by rfl, by rfl, ?_⟩)) (by repeat (first | exact trivial | refine ⟨by rfl, by rfl, ?_⟩)); try rfl)
  by_cases h3 : k = 3
  · subst h3
    (refine kon_mk T0ok (fn := Try.f99) (c := Try.f99.body.get rfl) Try.func99 rfl (by rfl) (by rfl) (by rfl) ?_; intro hfit hfe)
    (repeat (first | refine gq_KGH ?_ | (refine ga_KGH ?_; intro _hq)))
    ((try refine aw_ret ?_); refine ret_auto2 (by rfl) (by rfl) (by rfl) (by repeat (first | exact trivial | refine ⟨by first | rfl | omega, ?_⟩)) ?_ (by repeat (first | exact trivial | refine ⟨by rfl, by rfl, ?_⟩)) (by repeat (first | exact trivial | refine ⟨by rfl, by rfl, ?_⟩)); try rfl)
  by_cases h4 : k = 4
  · subst h4
    (refine kon_mk T0ok (fn := Try.f99) (c := Try.f99.body.get rfl) Try.func99 rfl (by rfl) (by rfl) (by rfl) ?_; intro hfit hfe)
    (repeat (first | refine gq_KGH ?_ | (refine ga_KGH ?_; intro _hq)))
    ((try refine aw_ret ?_); refine ret_auto2 (by rfl) (by rfl) (by rfl) (by repeat (first | exact trivial | refine ⟨by first | rfl | omega, ?_⟩)) ?_ (by repeat (first | exact trivial | refine ⟨by rfl, by rfl, ?_⟩)) (by repeat (first | exact trivial | refine ⟨by rfl, by rfl, ?_⟩)); try rfl)
  have e : lns ⟨k, a, b, c⟩ = [] := by simp [lns, h0, h1, h2, h3, h4]
  have e0 : (k == 0) = false := by simpa using h0
  have e1 : (k == 1) = false := by simpa using h1
  have e2 : (k == 2) = false := by simpa using h2
  have e3 : (k == 3) = false := by simpa using h3
  have e4 : (k == 4) = false := by simpa using h4
  rw [e]
  clear e h0 h1 h2 h3 h4
  (refine kon_mk T0ok (fn := Try.f99) (c := Try.f99.body.get rfl) Try.func99 rfl (by rfl) (by rfl) (by rfl) ?_; intro hfit hfe)
  (repeat (first | refine gq_KGH ?_ | (refine ga_KGH ?_; intro _hq)))
  ((try refine aw_ret ?_); refine ret_auto2 (by rfl) (by rfl) (by rfl) (by repeat (first | exact trivial | refine ⟨by first | rfl | omega, ?_⟩)) ?_ (by repeat (first | exact trivial | refine ⟨by rfl, by rfl, ?_⟩)) (by repeat (first | exact trivial | refine ⟨by rfl, by rfl, ?_⟩)); try rfl)
def hasB (l : List Int) (x : Int) : Bool := l.any (· == x)
theorem has_drop {l : List Int} {x : Int} {i : Nat} (hi : i < l.length) : hasB (l.drop i) x = ((l.getD i 0 == x) || hasB (l.drop (i + 1)) x) := by
  have e : l.getD i 0 = l[i] := by simp [List.getD_eq_getElem?_getD, hi]
  rw [List.drop_eq_getElem_cons hi, e]; rfl
theorem k_has (l : List Int) (x : Int) (h : l.length ≤ 100000000) : Kon Try.prog 98 [roA l, vI x] [] (vB (hasB l x)) [] [] := by
  (refine kon_mk T0ok (fn := Try.f98) (c := Try.f98.body.get rfl) Try.func98 rfl (by rfl) (by rfl) (by rfl) ?_; intro hfit hfe)
  (repeat (first | refine gq_KGH ?_ | (refine ga_KGH ?_; intro _hq)))
  (refine aw_rd [0, 1] [] (fun i : Nat => [(5, vI i)]) (fun _ => []) (fun i => i ≤ l.length ∧ hasB (l.drop i) x = hasB l x) (fun i => l.length - i) 0 (by rfl) (by rfl) ?_ (by rfl) (by repeat (first | exact trivial | refine ⟨by rfl, ?_⟩ | refine ⟨vI_of (by rfl) (by omega), ?_⟩)) (by repeat (first | exact trivial | refine ⟨by rfl, ?_⟩ | refine ⟨vI_of (by rfl) (by omega), ?_⟩)) ?_)
  · exact ⟨Nat.zero_le _, by rw [List.drop_zero]⟩
  rintro i ⟨hi, hz⟩
  rcases Nat.lt_or_ge i l.length with h6 | h6
  · have hd : decide ((i : Int) < (l.length : Int)) = true := by simpa using h6
    have e := has_drop (x := x) h6
    rw [hz] at e
    cases hb : (l.getD i 0 == x) with
    | true =>
      have hb2 : (l.getD (i : Int).toNat (Cel.no : Int) == x) = true := hb
      rw [hb, Bool.true_or] at e
      rw [e]
      clear e hz
      (repeat (first | refine gq_KGH ?_ | (refine ga_KGH ?_; intro _hq)))
      ((try refine aw_ret ?_); refine ret_auto2 (by rfl) (by rfl) (by rfl) (by repeat (first | exact trivial | refine ⟨by first | rfl | omega, ?_⟩)) ?_ (by repeat (first | exact trivial | refine ⟨by rfl, by rfl, ?_⟩)) (by repeat (first | exact trivial | refine ⟨by rfl, by rfl, ?_⟩)); try rfl)
    | false =>
      have hb2 : (l.getD (i : Int).toNat (Cel.no : Int) == x) = false := hb
      rw [hb, Bool.false_or] at e
      have hinv : i + 1 ≤ l.length ∧ hasB (l.drop (i + 1)) x = hasB l x := ⟨h6, e.symm⟩
      clear e hz
      (repeat (first | refine gq_KGH ?_ | (refine ga_KGH ?_; intro _hq)))
      exact ⟨i + 1, hinv, ⟨by rfl, (by repeat (first | exact trivial | refine ⟨by rfl, ?_⟩ | refine ⟨vI_of (by rfl) (by omega), ?_⟩)), (by repeat (first | exact trivial | refine ⟨by rfl, ?_⟩ | refine ⟨vI_of (by rfl) (by omega), ?_⟩))⟩, (by first | omega | (dsimp only; omega))⟩
  · have hd : decide ((i : Int) < (l.length : Int)) = false := by simp; omega
    rw [List.drop_of_length_le h6] at hz
    rw [← hz]
    clear hz
    (repeat (first | refine gq_KGH ?_ | (refine ga_KGH ?_; intro _hq)))
    ((try refine aw_ret ?_); refine ret_auto2 (by rfl) (by rfl) (by rfl) (by repeat (first | exact trivial | refine ⟨by first | rfl | omega, ?_⟩)) ?_ (by repeat (first | exact trivial | refine ⟨by rfl, by rfl, ?_⟩)) (by repeat (first | exact trivial | refine ⟨by rfl, by rfl, ?_⟩)); try rfl)

































theorem k_wvS2 (n w : Int) : Kon Try.prog 67 [vI n, vI w] [] (vB (wvB n w)) [] [] := by
  (refine kon_mk T0ok (fn := Try.f67) (c := Try.f67.body.get rfl) Try.func67 rfl (by rfl) (by rfl) (by rfl) ?_; intro hfit hfe)
  unfold wvB
  cases h1 : btw n 1 8 with
  | false => (repeat (first | refine gq_KGH ?_ | (refine ga_KGH ?_; intro _hq))); ((try refine aw_ret ?_); refine ret_auto2 (by rfl) (by rfl) (by rfl) (by repeat (first | exact trivial | refine ⟨by first | rfl | omega, ?_⟩)) ?_ (by repeat (first | exact trivial | refine ⟨by rfl, by rfl, ?_⟩)) (by repeat (first | exact trivial | refine ⟨by rfl, by rfl, ?_⟩)); try rfl)
  | true =>
    have h1' := btw_t h1
    (repeat (first | refine gq_KGH ?_ | (refine ga_KGH ?_; intro _hq)))
    (subst_vars; ((try refine aw_ret ?_); refine ret_auto2 (by rfl) (by rfl) (by rfl) (by repeat (first | exact trivial | refine ⟨by first | rfl | omega, ?_⟩)) ?_ (by repeat (first | exact trivial | refine ⟨by rfl, by rfl, ?_⟩)) (by repeat (first | exact trivial | refine ⟨by rfl, by rfl, ?_⟩)); try rfl))
    rw [Int.one_mul]; rfl
theorem k_bitS (w a : Int) (h : 0 ≤ w ∧ w < 256 ∧ 0 ≤ a ∧ a ≤ 60) : Kon Try.prog 113 [vI w, vI a] [] (vI (if bt w a then 1 else 0)) [] [] := by
  rw [← sb_mod h.1]
  (refine kon_mk T0ok (fn := Try.f113) (c := Try.f113.body.get rfl) Try.func113 rfl (by rfl) (by rfl) (by rfl) ?_; intro hfit hfe)
  (repeat (first | refine gq_KGH ?_ | (refine ga_KGH ?_; intro _hq)))
  ((try refine aw_ret ?_); refine ret_auto2 (by rfl) (by rfl) (by rfl) (by repeat (first | exact trivial | refine ⟨by first | rfl | omega, ?_⟩)) ?_ (by repeat (first | exact trivial | refine ⟨by rfl, by rfl, ?_⟩)) (by repeat (first | exact trivial | refine ⟨by rfl, by rfl, ?_⟩)); try rfl)
theorem k_turnS (w a : Int) (h : 0 ≤ w ∧ w < 256 ∧ 0 ≤ a ∧ a ≤ 7) : Kon Try.prog 114 [vI w, vI a] [] (vI ((w.toNat ^^^ 2 ^ a.toNat : Nat) : Int)) [] [] := by
  have hp := pow_7 (n := a) (by omega)
  have e := turn_eq (w := w) (a := a) ⟨h.1, h.2.1⟩ (by omega)
  rw [← e]
  have hK := k_bitS w a (by omega)
  cases hb : bt w a <;> rw [hb] at hK <;> clear e
  all_goals
    (refine kon_mk T0ok (fn := Try.f114) (c := Try.f114.body.get rfl) Try.func114 rfl (by rfl) (by rfl) (by rfl) ?_; intro hfit hfe)
    (repeat (first | refine gq_KGH ?_ | (refine ga_KGH ?_; intro _hq)))
    ((try refine aw_ret ?_); refine ret_auto2 (by rfl) (by rfl) (by rfl) (by repeat (first | exact trivial | refine ⟨by first | rfl | omega, ?_⟩)) ?_ (by repeat (first | exact trivial | refine ⟨by rfl, by rfl, ?_⟩)) (by repeat (first | exact trivial | refine ⟨by rfl, by rfl, ?_⟩)); try rfl)
def gsL (n : Int) (L : List Int) : Nat → Nat → Bool
  | 0, _ => true
  | f + 1, i => btw (L.getD i 0) 0 (n - 1) && (!(hasB (L.take i) (L.getD i 0)) && gsL n L f (i + 1))
def gvS (n : Int) (g : Gt) : Bool := gsL n (lns g) (lns g).length 0 && (btw n 1 8 && (decide ((lns g).length > 0) && ((decide ((lns g).length > 1) || g.b == 0) && (decide ((lns g).length > 2) || g.c == 0))))
theorem beqC (a b : Int) : (a == b) = (b == a) := by rw [Bool.eq_iff_iff, beq_iff_eq, beq_iff_eq]; exact eq_comm
theorem gvS_eq (n : Int) (g : Gt) : gvS n g = gok n g := by
  cases hk : btw g.k 0 4 with
  | false =>
    have h := btw_f hk
    have e : lns g = [] := by simp [lns, show ¬ g.k = 0 by omega, show ¬ g.k = 1 by omega, show ¬ g.k = 2 by omega, show ¬ g.k = 3 by omega, show ¬ g.k = 4 by omega]
    unfold gvS
    rw [e, gok_k hk]
    simp
  | true =>
    have hk' := btw_t hk
    cases hn : btw n 1 8 with
    | false => rw [gok_n hn]; unfold gvS; rw [hn]; simp
    | true =>
      rw [gok_nt hk' hn]
      have h' : g.k = 0 ∨ g.k = 1 ∨ g.k = 2 ∨ g.k = 3 ∨ g.k = 4 := by omega
      unfold gvS ntL ntR lns
      rw [hn]
      rcases h' with h' | h' | h' | h' | h' <;> simp [h', gvL1, gvL2, gvL3, z0, gsL, btw8, hasB, Bool.and_assoc, bne, beqC g.a g.b, beqC g.a g.c, beqC g.b g.c]
set_option maxHeartbeats 1000000 in
theorem k_gvSa (n : Int) (g : Gt) (hr : -9223372036854775807 ≤ n ∧ n ≤ 9223372036854775807) : Kon Try.prog 76 [vI n, gV g] [] (vB (gok n g)) [] [] := by
  rw [← gvS_eq]
  have hK := k_linesS g
  have hL : (lns g).length ≤ 3 := by unfold lns; split <;> (try split) <;> (try split) <;> simp
  unfold gvS
  obtain ⟨L, eL⟩ : ∃ L, L = lns g := ⟨_, rfl⟩
  rw [← eL] at hK hL ⊢
  obtain ⟨k, a, b, c⟩ := g
  clear eL
  dsimp only
  (refine kon_mk T0ok (fn := Try.f76) (c := Try.f76.body.get rfl) Try.func76 rfl (by rfl) (by rfl) (by rfl) ?_; intro hfit hfe)
  (repeat refine gc_KGH ?_)
  (repeat (first | refine gs_KGH ?_ | (refine ga_KGH ?_; intro _hq)))
  (repeat refine gc_KGH ?_)
  (repeat (first | refine gs_KGH ?_ | (refine ga_KGH ?_; intro _hq)))
  (refine aw_freeze 128 (by rfl) (by rfl) ?_; refine aw_slot 5 1 (by rfl) (by rfl) (by first | exact trivial | omega | exact cvB (fun w => rfl) | ((repeat (any_goals (first | exact rfl | exact cV_len _ | exact cV_ln rfl (by omega) | exact Cel.pos | omega | exact trivial | refine And.intro ?_ ?_))); first | done | fail) | (simp [*]; first | done | fail)) ?_)
  (repeat (first | refine gq_KGH ?_ | (refine ga_KGH ?_; intro _hq)))
  (refine aw_rd [0, 3, 5] [48] (fun i : Nat => [(6, vI i)]) (fun _ => []) (fun i => i ≤ L.length ∧ gsL n L (L.length - i) i = gsL n L L.length 0) (fun i => L.length - i) 0 (by rfl) (by rfl) ?_ (by rfl) (by repeat (first | exact trivial | refine ⟨by rfl, ?_⟩ | refine ⟨vI_of (by rfl) (by omega), ?_⟩)) (by repeat (first | exact trivial | refine ⟨by rfl, ?_⟩ | refine ⟨vI_of (by rfl) (by omega), ?_⟩)) ?_)
  · exact ⟨Nat.zero_le _, rfl⟩
  rintro i ⟨hi, hz⟩
  rcases Nat.lt_or_ge i L.length with h6 | h6
  · have hd : decide ((i : Int) < (L.length : Int)) = true := by simpa using h6
    rw [show L.length - i = (L.length - (i + 1)) + 1 by omega, gsL] at hz
    replace hz : (btw (L.getD (i : Int).toNat (Cel.no : Int)) 0 (n - 1) && (!(hasB (L.take (i : Int).toNat) (L.getD (i : Int).toNat (Cel.no : Int))) && gsL n L (L.length - (i + 1)) (i + 1))) = gsL n L L.length 0 := hz
    cases hb : btw (L.getD (i : Int).toNat (Cel.no : Int)) 0 (n - 1) with
    | false =>
      rw [hb, Bool.false_and] at hz
      rw [← hz, Bool.false_and]
      clear hz
      (repeat (first | refine gq_KGH ?_ | (refine ga_KGH ?_; intro _hq) | refine gd_KGH ?_))
      ((try refine aw_ret ?_); refine ret_auto2 (by rfl) (by rfl) (by rfl) (by repeat (first | exact trivial | refine ⟨by first | rfl | omega, ?_⟩)) ?_ (by repeat (first | exact trivial | refine ⟨by rfl, by rfl, ?_⟩)) (by repeat (first | exact trivial | refine ⟨by rfl, by rfl, ?_⟩)); try rfl)
    | true =>
      rw [hb, Bool.true_and] at hz
      have hK2 : Kon Try.prog 98 [roA (L.take (i : Int).toNat), vI (L.getD (i : Int).toNat (Cel.no : Int))] [] (vB (hasB (L.take (i : Int).toNat) (L.getD (i : Int).toNat (Cel.no : Int)))) [] [] := k_has _ _ (by simp; omega)
      cases hv : hasB (L.take (i : Int).toNat) (L.getD (i : Int).toNat (Cel.no : Int)) with
      | true =>
        rw [hv, Bool.not_true, Bool.false_and] at hz
        rw [← hz, Bool.false_and]
        clear hz
        (repeat (first | refine gq_KGH ?_ | (refine ga_KGH ?_; intro _hq) | refine gd_KGH ?_))
        ((try refine aw_ret ?_); refine ret_auto2 (by rfl) (by rfl) (by rfl) (by repeat (first | exact trivial | refine ⟨by first | rfl | omega, ?_⟩)) ?_ (by repeat (first | exact trivial | refine ⟨by rfl, by rfl, ?_⟩)) (by repeat (first | exact trivial | refine ⟨by rfl, by rfl, ?_⟩)); try rfl)
      | false =>
        rw [hv, Bool.not_false, Bool.true_and] at hz
        have hinv : i + 1 ≤ L.length ∧ gsL n L (L.length - (i + 1)) (i + 1) = gsL n L L.length 0 := ⟨h6, hz⟩
        clear hz
        (repeat (first | refine gq_KGH ?_ | (refine ga_KGH ?_; intro _hq) | refine gd_KGH ?_))
        exact ⟨i + 1, hinv, ⟨by rfl, (by repeat (first | exact trivial | refine ⟨by rfl, ?_⟩ | refine ⟨vI_of (by rfl) (by omega), ?_⟩)), (by repeat (first | exact trivial | refine ⟨by rfl, ?_⟩ | refine ⟨vI_of (by rfl) (by omega), ?_⟩))⟩, (by first | omega | (dsimp only; omega))⟩
  · have hd : decide ((i : Int) < (L.length : Int)) = false := by simp; omega
    have e0 : L.length - i = 0 := by omega
    rw [e0, gsL] at hz
    rw [← hz, Bool.true_and]
    clear hz e0
    cases hn : btw n 1 8 with
    | false => 
      (repeat (first | refine gq_KGH ?_ | (refine ga_KGH ?_; intro _hq) | refine gd_KGH ?_))
      ((try refine aw_ret ?_); refine ret_auto2 (by rfl) (by rfl) (by rfl) (by repeat (first | exact trivial | refine ⟨by first | rfl | omega, ?_⟩)) ?_ (by repeat (first | exact trivial | refine ⟨by rfl, by rfl, ?_⟩)) (by repeat (first | exact trivial | refine ⟨by rfl, by rfl, ?_⟩)); try rfl)
    | true =>
      rw [Bool.true_and]
      cases h1 : decide ((L.length : Int) > 0) with
      | false =>
        have e : decide (L.length > 0) = false := by simpa using h1
        rw [e, Bool.false_and]
        (repeat (first | refine gq_KGH ?_ | (refine ga_KGH ?_; intro _hq) | refine gd_KGH ?_))
        ((try refine aw_ret ?_); refine ret_auto2 (by rfl) (by rfl) (by rfl) (by repeat (first | exact trivial | refine ⟨by first | rfl | omega, ?_⟩)) ?_ (by repeat (first | exact trivial | refine ⟨by rfl, by rfl, ?_⟩)) (by repeat (first | exact trivial | refine ⟨by rfl, by rfl, ?_⟩)); try rfl)
      | true =>
        have e : decide (L.length > 0) = true := by simpa using h1
        rw [e, Bool.true_and]
        clear e
        have e2 : decide ((L.length : Int) > 1) = decide (L.length > 1) := decide_eq_decide.2 (by omega)
        have e3 : decide ((L.length : Int) > 2) = decide (L.length > 2) := decide_eq_decide.2 (by omega)
        rw [← e2, ← e3]
        clear e2 e3
        cases h2 : decide ((L.length : Int) > 1) <;> cases h3 : decide ((L.length : Int) > 2) <;> cases h4 : (b == 0)
        all_goals
          (repeat (first | refine gq_KGH ?_ | (refine ga_KGH ?_; intro _hq) | refine gd_KGH ?_))
          ((try refine aw_ret ?_); refine ret_auto2 (by rfl) (by rfl) (by rfl) (by repeat (first | exact trivial | refine ⟨by first | rfl | omega, ?_⟩)) ?_ (by repeat (first | exact trivial | refine ⟨by rfl, by rfl, ?_⟩)) (by repeat (first | exact trivial | refine ⟨by rfl, by rfl, ?_⟩)); try rfl)
end Go.Proofs.Yteagoafamjbpbaa

/- The reference's GateValid at the least number of lines, and at all. -/
namespace Go.Proofs.Yteagoafamjbpbaa
set_option linter.unusedVariables false
set_option linter.unusedSimpArgs false
set_option maxRecDepth 20000
open Go.RowKit
attribute [local irreducible] runA runX AW
theorem gq_KGM {H G : Prop} (k : H) (h : Hid H → G := by (intro hh; (first | (first | ((first | refine r_none ?_ | refine r_gt (by rfl) (by rfl) (by first | rfl | assumption | omega | (simp only [*, Bool.not_false, Bool.not_true]; first | done | fail) | (simp [*]; first | done | fail)) (by rfl) ?_ | refine r_gf (by rfl) (by rfl) (by first | rfl | assumption | omega | (simp only [*, Bool.not_false, Bool.not_true]; first | done | fail) | (simp [*]; first | done | fail)) (by rfl) ?_); (first | (refine r_pure2 (o := .sub) (r := .int .i64 9223372036854775807) (by rfl) (by rfl) (fun w => by kernel_rfl) (by rfl) (by rfl) ?_) | ((first | (refine z_op (by rfl) ?_; first | refine z_ok ?_ ?_ | refine z_ex ?_ (by first | exact ft_raw rfl rfl | ((first | refine ft_rp rfl rfl rfl ?_ | refine ft_row rfl rfl rfl ?_ | refine ft_rpF rfl rfl rfl ?_ | refine ft_rowF rfl rfl rfl ?_ | refine up_row rfl rfl ?_ | refine up_rowF rfl rfl rfl ?_ | refine ct_0 rfl ?_ | refine ct_r rfl rfl ?_ | refine ct_c rfl rfl rfl ?_ | refine cu_all rfl ?_ | refine cu_to rfl ?_ | refine cu_from rfl ?_ | refine cu_p rfl ?_ | fail); (first | omega | (simp only [List.length_append, List.length_replicate, List.length_cons, List.length_nil, List.length_set, List.length_take, List.length_drop, true_and]; omega))) | exact up_raw rfl | exact pk_t (by first | rfl | assumption | omega | (simp only [*, Bool.not_false, Bool.not_true]; first | done | fail) | (simp [*]; first | done | fail)) rfl | exact pk_f (by first | rfl | assumption | omega | (simp only [*, Bool.not_false, Bool.not_true]; first | done | fail) | (simp [*]; first | done | fail)) rfl | fail | exact rw_raw | exact pu_cv (fun w => rfl) (by omega) | exact pu_of (fun w => rfl) rfl | exact be_of (fun w => rfl) | exact nc_of (fun _ _ _ _ => rfl) rfl | exact bu_of (fun w => rfl) rfl | fail) ?_) | ((first | refine q_callE wsT wsZ (by rfl) ?_ | refine q_callVE wsT (by rfl) (by rfl) ?_); refine ⟨_, _, _, (by first | assumption | exact k_l1In _ _ _ | exact k_linesS _), _, by rfl, ?_, ?_⟩)); focus (first | exact trivial | fail | exact rfl | (first | omega | (simp only [List.length_append, List.length_replicate, List.length_cons, List.length_nil, List.length_set, List.length_take, List.length_drop, true_and]; omega)) | exact cvB (fun w => rfl) | ((repeat' (first | exact rfl | exact cV_len _ | exact cV_ln rfl (by omega) | exact Cel.pos | omega | exact trivial | refine And.intro ?_ ?_)); done) | (simp [*]; done) | (simp; omega))) | fail)) | refine r_nt (by rfl) (by rfl) (by first | rfl | assumption | omega | (simp only [*, Bool.not_false, Bool.not_true]; first | done | fail) | (simp [*]; first | done | fail)) (by rfl) ?_ | refine r_nf (by rfl) (by rfl) (by first | rfl | assumption | omega | (simp only [*, Bool.not_false, Bool.not_true]; first | done | fail) | (simp [*]; first | done | fail)) (by rfl) ?_ | refine r_gu (by rfl) (by rfl) (by rfl) ?_ | refine r_nil ?_) | (first | refine aw_seq ?_ | refine aw_ct (by rfl) (by first | rfl | assumption | omega | (simp only [*, Bool.not_false, Bool.not_true]; first | done | fail) | (simp [*]; first | done | fail)) ?_ | refine aw_cf (by rfl) (by first | rfl | assumption | omega | (simp only [*, Bool.not_false, Bool.not_true]; first | done | fail) | (simp [*]; first | done | fail)) ?_ | refine aw_block ?_ | refine aw_region T0ok cfU_ok (by rfl) ?_ | refine aw_skip ?_ | refine aw_exit ?_ | refine ra_step ?_)); (repeat (first | (first | ((first | refine r_none ?_ | refine r_gt (by rfl) (by rfl) (by first | rfl | assumption | omega | (simp only [*, Bool.not_false, Bool.not_true]; first | done | fail) | (simp [*]; first | done | fail)) (by rfl) ?_ | refine r_gf (by rfl) (by rfl) (by first | rfl | assumption | omega | (simp only [*, Bool.not_false, Bool.not_true]; first | done | fail) | (simp [*]; first | done | fail)) (by rfl) ?_); (first | (refine r_pure2 (o := .sub) (r := .int .i64 9223372036854775807) (by rfl) (by rfl) (fun w => by kernel_rfl) (by rfl) (by rfl) ?_) | ((first | (refine z_op (by rfl) ?_; first | refine z_ok ?_ ?_ | refine z_ex ?_ (by first | exact ft_raw rfl rfl | ((first | refine ft_rp rfl rfl rfl ?_ | refine ft_row rfl rfl rfl ?_ | refine ft_rpF rfl rfl rfl ?_ | refine ft_rowF rfl rfl rfl ?_ | refine up_row rfl rfl ?_ | refine up_rowF rfl rfl rfl ?_ | refine ct_0 rfl ?_ | refine ct_r rfl rfl ?_ | refine ct_c rfl rfl rfl ?_ | refine cu_all rfl ?_ | refine cu_to rfl ?_ | refine cu_from rfl ?_ | refine cu_p rfl ?_ | fail); (first | omega | (simp only [List.length_append, List.length_replicate, List.length_cons, List.length_nil, List.length_set, List.length_take, List.length_drop, true_and]; omega))) | exact up_raw rfl | exact pk_t (by first | rfl | assumption | omega | (simp only [*, Bool.not_false, Bool.not_true]; first | done | fail) | (simp [*]; first | done | fail)) rfl | exact pk_f (by first | rfl | assumption | omega | (simp only [*, Bool.not_false, Bool.not_true]; first | done | fail) | (simp [*]; first | done | fail)) rfl | fail | exact rw_raw | exact pu_cv (fun w => rfl) (by omega) | exact pu_of (fun w => rfl) rfl | exact be_of (fun w => rfl) | exact nc_of (fun _ _ _ _ => rfl) rfl | exact bu_of (fun w => rfl) rfl | fail) ?_) | ((first | refine q_callE wsT wsZ (by rfl) ?_ | refine q_callVE wsT (by rfl) (by rfl) ?_); refine ⟨_, _, _, (by first | assumption | exact k_l1In _ _ _ | exact k_linesS _), _, by rfl, ?_, ?_⟩)); focus (first | exact trivial | fail | exact rfl | (first | omega | (simp only [List.length_append, List.length_replicate, List.length_cons, List.length_nil, List.length_set, List.length_take, List.length_drop, true_and]; omega)) | exact cvB (fun w => rfl) | ((repeat' (first | exact rfl | exact cV_len _ | exact cV_ln rfl (by omega) | exact Cel.pos | omega | exact trivial | refine And.intro ?_ ?_)); done) | (simp [*]; done) | (simp; omega))) | fail)) | refine r_nt (by rfl) (by rfl) (by first | rfl | assumption | omega | (simp only [*, Bool.not_false, Bool.not_true]; first | done | fail) | (simp [*]; first | done | fail)) (by rfl) ?_ | refine r_nf (by rfl) (by rfl) (by first | rfl | assumption | omega | (simp only [*, Bool.not_false, Bool.not_true]; first | done | fail) | (simp [*]; first | done | fail)) (by rfl) ?_ | refine r_gu (by rfl) (by rfl) (by rfl) ?_ | refine r_nil ?_) | (first | refine aw_seq ?_ | refine aw_ct (by rfl) (by first | rfl | assumption | omega | (simp only [*, Bool.not_false, Bool.not_true]; first | done | fail) | (simp [*]; first | done | fail)) ?_ | refine aw_cf (by rfl) (by first | rfl | assumption | omega | (simp only [*, Bool.not_false, Bool.not_true]; first | done | fail) | (simp [*]; first | done | fail)) ?_ | refine aw_block ?_ | refine aw_region T0ok cfU_ok (by rfl) ?_ | refine aw_skip ?_ | refine aw_exit ?_ | refine ra_step ?_))); exact hh.out)) : G := h ⟨k⟩
theorem ga_KGM {H G : Prop} (k : H) (h : Hid H → G := by (intro hh; (first | refine r_none ?_ | refine r_gt (by rfl) (by rfl) (by first | rfl | assumption | omega | (simp only [*, Bool.not_false, Bool.not_true]; first | done | fail) | (simp [*]; first | done | fail)) (by rfl) ?_ | refine r_gf (by rfl) (by rfl) (by first | rfl | assumption | omega | (simp only [*, Bool.not_false, Bool.not_true]; first | done | fail) | (simp [*]; first | done | fail)) (by rfl) ?_); refine z_op (by rfl) ?_; refine z_alV ?_ hh.out; focus (first | exact trivial | fail | exact rfl | (first | omega | (simp only [List.length_append, List.length_replicate, List.length_cons, List.length_nil, List.length_set, List.length_take, List.length_drop, true_and]; omega)) | exact cvB (fun w => rfl) | ((repeat' (first | exact rfl | exact cV_len _ | exact cV_ln rfl (by omega) | exact Cel.pos | omega | exact trivial | refine And.intro ?_ ?_)); done) | (simp [*]; done) | (simp; omega)))) : G := h ⟨k⟩
theorem gs_KGM {H G : Prop} (k : H) (h : Hid H → G := by (intro hh; (first | ((first | refine r_none ?_ | refine r_gt (by rfl) (by rfl) (by first | rfl | assumption | omega | (simp only [*, Bool.not_false, Bool.not_true]; first | done | fail) | (simp [*]; first | done | fail)) (by rfl) ?_ | refine r_gf (by rfl) (by rfl) (by first | rfl | assumption | omega | (simp only [*, Bool.not_false, Bool.not_true]; first | done | fail) | (simp [*]; first | done | fail)) (by rfl) ?_); (first | (refine r_pure2 (o := .sub) (r := .int .i64 9223372036854775807) (by rfl) (by rfl) (fun w => by kernel_rfl) (by rfl) (by rfl) ?_) | ((first | (refine z_op (by rfl) ?_; first | refine z_ok ?_ ?_ | refine z_ex ?_ (by first | exact ft_raw rfl rfl | ((first | refine ft_rp rfl rfl rfl ?_ | refine ft_row rfl rfl rfl ?_ | refine ft_rpF rfl rfl rfl ?_ | refine ft_rowF rfl rfl rfl ?_ | refine up_row rfl rfl ?_ | refine up_rowF rfl rfl rfl ?_ | refine ct_0 rfl ?_ | refine ct_r rfl rfl ?_ | refine ct_c rfl rfl rfl ?_ | refine cu_all rfl ?_ | refine cu_to rfl ?_ | refine cu_from rfl ?_ | refine cu_p rfl ?_ | fail); (first | omega | (simp only [List.length_append, List.length_replicate, List.length_cons, List.length_nil, List.length_set, List.length_take, List.length_drop, true_and]; omega))) | exact up_raw rfl | exact pk_t (by first | rfl | assumption | omega | (simp only [*, Bool.not_false, Bool.not_true]; first | done | fail) | (simp [*]; first | done | fail)) rfl | exact pk_f (by first | rfl | assumption | omega | (simp only [*, Bool.not_false, Bool.not_true]; first | done | fail) | (simp [*]; first | done | fail)) rfl | fail | exact rw_raw | exact pu_cv (fun w => rfl) (by omega) | exact pu_of (fun w => rfl) rfl | exact be_of (fun w => rfl) | exact nc_of (fun _ _ _ _ => rfl) rfl | exact bu_of (fun w => rfl) rfl | fail) ?_) | ((first | refine q_callE wsT wsZ (by rfl) ?_ | refine q_callVE wsT (by rfl) (by rfl) ?_); refine ⟨_, _, _, (by first | assumption | exact k_l1In _ _ _ | exact k_linesS _), _, by rfl, ?_, ?_⟩)); focus (first | exact trivial | fail | exact rfl | (first | omega | (simp only [List.length_append, List.length_replicate, List.length_cons, List.length_nil, List.length_set, List.length_take, List.length_drop, true_and]; omega)) | exact cvB (fun w => rfl) | ((repeat' (first | exact rfl | exact cV_len _ | exact cV_ln rfl (by omega) | exact Cel.pos | omega | exact trivial | refine And.intro ?_ ?_)); done) | (simp [*]; done) | (simp; omega))) | fail)) | refine r_nt (by rfl) (by rfl) (by first | rfl | assumption | omega | (simp only [*, Bool.not_false, Bool.not_true]; first | done | fail) | (simp [*]; first | done | fail)) (by rfl) ?_ | refine r_nf (by rfl) (by rfl) (by first | rfl | assumption | omega | (simp only [*, Bool.not_false, Bool.not_true]; first | done | fail) | (simp [*]; first | done | fail)) (by rfl) ?_ | refine r_gu (by rfl) (by rfl) (by rfl) ?_ | refine r_nil ?_); (repeat (first | ((first | refine r_none ?_ | refine r_gt (by rfl) (by rfl) (by first | rfl | assumption | omega | (simp only [*, Bool.not_false, Bool.not_true]; first | done | fail) | (simp [*]; first | done | fail)) (by rfl) ?_ | refine r_gf (by rfl) (by rfl) (by first | rfl | assumption | omega | (simp only [*, Bool.not_false, Bool.not_true]; first | done | fail) | (simp [*]; first | done | fail)) (by rfl) ?_); (first | (refine r_pure2 (o := .sub) (r := .int .i64 9223372036854775807) (by rfl) (by rfl) (fun w => by kernel_rfl) (by rfl) (by rfl) ?_) | ((first | (refine z_op (by rfl) ?_; first | refine z_ok ?_ ?_ | refine z_ex ?_ (by first | exact ft_raw rfl rfl | ((first | refine ft_rp rfl rfl rfl ?_ | refine ft_row rfl rfl rfl ?_ | refine ft_rpF rfl rfl rfl ?_ | refine ft_rowF rfl rfl rfl ?_ | refine up_row rfl rfl ?_ | refine up_rowF rfl rfl rfl ?_ | refine ct_0 rfl ?_ | refine ct_r rfl rfl ?_ | refine ct_c rfl rfl rfl ?_ | refine cu_all rfl ?_ | refine cu_to rfl ?_ | refine cu_from rfl ?_ | refine cu_p rfl ?_ | fail); (first | omega | (simp only [List.length_append, List.length_replicate, List.length_cons, List.length_nil, List.length_set, List.length_take, List.length_drop, true_and]; omega))) | exact up_raw rfl | exact pk_t (by first | rfl | assumption | omega | (simp only [*, Bool.not_false, Bool.not_true]; first | done | fail) | (simp [*]; first | done | fail)) rfl | exact pk_f (by first | rfl | assumption | omega | (simp only [*, Bool.not_false, Bool.not_true]; first | done | fail) | (simp [*]; first | done | fail)) rfl | fail | exact rw_raw | exact pu_cv (fun w => rfl) (by omega) | exact pu_of (fun w => rfl) rfl | exact be_of (fun w => rfl) | exact nc_of (fun _ _ _ _ => rfl) rfl | exact bu_of (fun w => rfl) rfl | fail) ?_) | ((first | refine q_callE wsT wsZ (by rfl) ?_ | refine q_callVE wsT (by rfl) (by rfl) ?_); refine ⟨_, _, _, (by first | assumption | exact k_l1In _ _ _ | exact k_linesS _), _, by rfl, ?_, ?_⟩)); focus (first | exact trivial | fail | exact rfl | (first | omega | (simp only [List.length_append, List.length_replicate, List.length_cons, List.length_nil, List.length_set, List.length_take, List.length_drop, true_and]; omega)) | exact cvB (fun w => rfl) | ((repeat' (first | exact rfl | exact cV_len _ | exact cV_ln rfl (by omega) | exact Cel.pos | omega | exact trivial | refine And.intro ?_ ?_)); done) | (simp [*]; done) | (simp; omega))) | fail)) | refine r_nt (by rfl) (by rfl) (by first | rfl | assumption | omega | (simp only [*, Bool.not_false, Bool.not_true]; first | done | fail) | (simp [*]; first | done | fail)) (by rfl) ?_ | refine r_nf (by rfl) (by rfl) (by first | rfl | assumption | omega | (simp only [*, Bool.not_false, Bool.not_true]; first | done | fail) | (simp [*]; first | done | fail)) (by rfl) ?_ | refine r_gu (by rfl) (by rfl) (by rfl) ?_ | refine r_nil ?_)); exact hh.out)) : G := h ⟨k⟩
theorem gc_KGM {H G : Prop} (k : H) (h : Hid H → G := by (intro hh; (first | refine aw_seq ?_ | refine aw_ct (by rfl) (by first | rfl | assumption | omega | (simp only [*, Bool.not_false, Bool.not_true]; first | done | fail) | (simp [*]; first | done | fail)) ?_ | refine aw_cf (by rfl) (by first | rfl | assumption | omega | (simp only [*, Bool.not_false, Bool.not_true]; first | done | fail) | (simp [*]; first | done | fail)) ?_ | refine aw_block ?_ | refine aw_region T0ok cfU_ok (by rfl) ?_ | refine aw_skip ?_ | refine aw_exit ?_ | refine ra_step ?_); (repeat (first | refine aw_seq ?_ | refine aw_ct (by rfl) (by first | rfl | assumption | omega | (simp only [*, Bool.not_false, Bool.not_true]; first | done | fail) | (simp [*]; first | done | fail)) ?_ | refine aw_cf (by rfl) (by first | rfl | assumption | omega | (simp only [*, Bool.not_false, Bool.not_true]; first | done | fail) | (simp [*]; first | done | fail)) ?_ | refine aw_block ?_ | refine aw_region T0ok cfU_ok (by rfl) ?_ | refine aw_skip ?_ | refine aw_exit ?_ | refine ra_step ?_)); exact hh.out)) : G := h ⟨k⟩
theorem gd_KGM {H G : Prop} (k : H) (h : Hid H → G := by (intro hh; (refine aw_draw mixed T0ok cfU_ok [] (by rfl) (by kernel_rfl) ?_); exact hh.out)) : G := h ⟨k⟩
set_option maxHeartbeats 1000000 in
theorem k_gvSm (g : Gt) : Kon Try.prog 76 [vI (-9223372036854775808), gV g] [] (vB false) [] [] := by
  have hK := k_linesS g
  have hL : (lns g).length ≤ 3 := by unfold lns; split <;> (try split) <;> (try split) <;> simp
  obtain ⟨L, eL⟩ : ∃ L, L = lns g := ⟨_, rfl⟩
  rw [← eL] at hK hL
  obtain ⟨k, a, b, c⟩ := g
  clear eL
  (refine kon_mk T0ok (fn := Try.f76) (c := Try.f76.body.get rfl) Try.func76 rfl (by rfl) (by rfl) (by rfl) ?_; intro hfit hfe)
  (repeat refine gc_KGM ?_)
  (repeat (first | refine gs_KGM ?_ | (refine ga_KGM ?_; intro _hq)))
  (repeat refine gc_KGM ?_)
  (repeat (first | refine gs_KGM ?_ | (refine ga_KGM ?_; intro _hq)))
  (refine aw_freeze 128 (by rfl) (by rfl) ?_; refine aw_slot 5 1 (by rfl) (by rfl) (by first | exact trivial | omega | exact cvB (fun w => rfl) | ((repeat (any_goals (first | exact rfl | exact cV_len _ | exact cV_ln rfl (by omega) | exact Cel.pos | omega | exact trivial | refine And.intro ?_ ?_))); first | done | fail) | (simp [*]; first | done | fail)) ?_)
  (repeat (first | refine gq_KGM ?_ | (refine ga_KGM ?_; intro _hq)))
  (refine aw_rd [0, 3, 5] [48] (fun i : Nat => [(6, vI i)]) (fun _ => []) (fun i => i ≤ L.length) (fun i => L.length - i) 0 (by rfl) (by rfl) ?_ (by rfl) (by repeat (first | exact trivial | refine ⟨by rfl, ?_⟩ | refine ⟨vI_of (by rfl) (by omega), ?_⟩)) (by repeat (first | exact trivial | refine ⟨by rfl, ?_⟩ | refine ⟨vI_of (by rfl) (by omega), ?_⟩)) ?_)
  · exact Nat.zero_le _
  rintro i hi
  rcases Nat.lt_or_ge i L.length with h6 | h6
  · have hd : decide ((i : Int) < (L.length : Int)) = true := by simpa using h6
    cases hb : btw (L.getD (i : Int).toNat (Cel.no : Int)) 0 9223372036854775807 with
    | false =>
      (repeat (first | refine gq_KGM ?_ | (refine ga_KGM ?_; intro _hq) | refine gd_KGM ?_))
      ((try refine aw_ret ?_); refine ret_auto2 (by rfl) (by rfl) (by rfl) (by repeat (first | exact trivial | refine ⟨by first | rfl | omega, ?_⟩)) ?_ (by repeat (first | exact trivial | refine ⟨by rfl, by rfl, ?_⟩)) (by repeat (first | exact trivial | refine ⟨by rfl, by rfl, ?_⟩)); try rfl)
    | true =>
      have hK2 : Kon Try.prog 98 [roA (L.take (i : Int).toNat), vI (L.getD (i : Int).toNat (Cel.no : Int))] [] (vB (hasB (L.take (i : Int).toNat) (L.getD (i : Int).toNat (Cel.no : Int)))) [] [] := k_has _ _ (by simp; omega)
      cases hv : hasB (L.take (i : Int).toNat) (L.getD (i : Int).toNat (Cel.no : Int)) with
      | true =>
        (repeat (first | refine gq_KGM ?_ | (refine ga_KGM ?_; intro _hq) | refine gd_KGM ?_))
        ((try refine aw_ret ?_); refine ret_auto2 (by rfl) (by rfl) (by rfl) (by repeat (first | exact trivial | refine ⟨by first | rfl | omega, ?_⟩)) ?_ (by repeat (first | exact trivial | refine ⟨by rfl, by rfl, ?_⟩)) (by repeat (first | exact trivial | refine ⟨by rfl, by rfl, ?_⟩)); try rfl)
      | false =>
        (repeat (first | refine gq_KGM ?_ | (refine ga_KGM ?_; intro _hq) | refine gd_KGM ?_))
        exact ⟨i + 1, h6, ⟨by rfl, (by repeat (first | exact trivial | refine ⟨by rfl, ?_⟩ | refine ⟨vI_of (by rfl) (by omega), ?_⟩)), (by repeat (first | exact trivial | refine ⟨by rfl, ?_⟩ | refine ⟨vI_of (by rfl) (by omega), ?_⟩))⟩, (by first | omega | (dsimp only; omega))⟩
  · have hd : decide ((i : Int) < (L.length : Int)) = false := by simp; omega
    have hn : btw (-9223372036854775808) 1 8 = false := rfl
    (repeat (first | refine gq_KGM ?_ | (refine ga_KGM ?_; intro _hq) | refine gd_KGM ?_))
    ((try refine aw_ret ?_); refine ret_auto2 (by rfl) (by rfl) (by rfl) (by repeat (first | exact trivial | refine ⟨by first | rfl | omega, ?_⟩)) ?_ (by repeat (first | exact trivial | refine ⟨by rfl, by rfl, ?_⟩)) (by repeat (first | exact trivial | refine ⟨by rfl, by rfl, ?_⟩)); try rfl)
theorem k_gvS (n : Int) (g : Gt) (hr : -9223372036854775808 ≤ n ∧ n ≤ 9223372036854775807) : Kon Try.prog 76 [vI n, gV g] [] (vB (gok n g)) [] [] := by
  by_cases h : n = -9223372036854775808
  · subst h
    rw [gok_n rfl]
    exact k_gvSm g
  · exact k_gvSa n g (by omega)
end Go.Proofs.Yteagoafamjbpbaa

/- What a gate makes of a word: impl's run. -/
namespace Go.Proofs.Yteagoafamjbpbaa
set_option linter.unusedVariables false
set_option linter.unusedSimpArgs false
set_option maxRecDepth 20000
open Go.RowKit
attribute [local irreducible] runA runX AW
theorem gq_KGF {H G : Prop} (k : H) (h : Hid H → G := by (intro hh; (first | (first | ((first | refine r_none ?_ | refine r_gt (by rfl) (by rfl) (by first | rfl | assumption | omega | (simp only [*, Bool.not_false, Bool.not_true]; first | done | fail) | (simp [*]; first | done | fail)) (by rfl) ?_ | refine r_gf (by rfl) (by rfl) (by first | rfl | assumption | omega | (simp only [*, Bool.not_false, Bool.not_true]; first | done | fail) | (simp [*]; first | done | fail)) (by rfl) ?_); (first | fail | ((first | (refine z_op (by rfl) ?_; first | refine z_ok ?_ ?_ | refine z_ex ?_ (by first | exact ft_raw rfl rfl | ((first | refine ft_rp rfl rfl rfl ?_ | refine ft_row rfl rfl rfl ?_ | refine ft_rpF rfl rfl rfl ?_ | refine ft_rowF rfl rfl rfl ?_ | refine up_row rfl rfl ?_ | refine up_rowF rfl rfl rfl ?_ | refine ct_0 rfl ?_ | refine ct_r rfl rfl ?_ | refine ct_c rfl rfl rfl ?_ | refine cu_all rfl ?_ | refine cu_to rfl ?_ | refine cu_from rfl ?_ | refine cu_p rfl ?_ | fail); (first | omega | (simp only [List.length_append, List.length_replicate, List.length_cons, List.length_nil, List.length_set, List.length_take, List.length_drop, true_and]; omega))) | exact up_raw rfl | exact pk_t (by first | rfl | assumption | omega | (simp only [*, Bool.not_false, Bool.not_true]; first | done | fail) | (simp [*]; first | done | fail)) rfl | exact pk_f (by first | rfl | assumption | omega | (simp only [*, Bool.not_false, Bool.not_true]; first | done | fail) | (simp [*]; first | done | fail)) rfl | fail | exact rw_raw | exact pu_cv (fun w => rfl) (by omega) | exact pu_of (fun w => rfl) rfl | exact be_of (fun w => rfl) | exact nc_of (fun _ _ _ _ => rfl) rfl | exact bu_of (fun w => rfl) rfl | fail) ?_) | ((first | refine q_callE wsT wsZ (by rfl) ?_ | refine q_callVE wsT (by rfl) (by rfl) ?_); refine ⟨_, _, _, (by first | assumption), _, by rfl, ?_, ?_⟩)); focus (first | exact trivial | fail | exact rfl | (first | omega | (simp only [List.length_append, List.length_replicate, List.length_cons, List.length_nil, List.length_set, List.length_take, List.length_drop, true_and]; omega)) | exact cvB (fun w => rfl) | ((repeat' (first | exact rfl | exact cV_len _ | exact cV_ln rfl (by omega) | exact Cel.pos | omega | exact trivial | refine And.intro ?_ ?_)); done) | (simp [*]; done) | (simp; omega))) | fail)) | refine r_nt (by rfl) (by rfl) (by first | rfl | assumption | omega | (simp only [*, Bool.not_false, Bool.not_true]; first | done | fail) | (simp [*]; first | done | fail)) (by rfl) ?_ | refine r_nf (by rfl) (by rfl) (by first | rfl | assumption | omega | (simp only [*, Bool.not_false, Bool.not_true]; first | done | fail) | (simp [*]; first | done | fail)) (by rfl) ?_ | refine r_gu (by rfl) (by rfl) (by rfl) ?_ | refine r_nil ?_) | (first | refine aw_seq ?_ | refine aw_ct (by rfl) (by first | rfl | assumption | omega | (simp only [*, Bool.not_false, Bool.not_true]; first | done | fail) | (simp [*]; first | done | fail)) ?_ | refine aw_cf (by rfl) (by first | rfl | assumption | omega | (simp only [*, Bool.not_false, Bool.not_true]; first | done | fail) | (simp [*]; first | done | fail)) ?_ | refine aw_block ?_ | refine aw_region T0ok cfU_ok (by rfl) ?_ | refine aw_skip ?_ | refine aw_exit ?_ | refine ra_step ?_)); (repeat (first | (first | ((first | refine r_none ?_ | refine r_gt (by rfl) (by rfl) (by first | rfl | assumption | omega | (simp only [*, Bool.not_false, Bool.not_true]; first | done | fail) | (simp [*]; first | done | fail)) (by rfl) ?_ | refine r_gf (by rfl) (by rfl) (by first | rfl | assumption | omega | (simp only [*, Bool.not_false, Bool.not_true]; first | done | fail) | (simp [*]; first | done | fail)) (by rfl) ?_); (first | fail | ((first | (refine z_op (by rfl) ?_; first | refine z_ok ?_ ?_ | refine z_ex ?_ (by first | exact ft_raw rfl rfl | ((first | refine ft_rp rfl rfl rfl ?_ | refine ft_row rfl rfl rfl ?_ | refine ft_rpF rfl rfl rfl ?_ | refine ft_rowF rfl rfl rfl ?_ | refine up_row rfl rfl ?_ | refine up_rowF rfl rfl rfl ?_ | refine ct_0 rfl ?_ | refine ct_r rfl rfl ?_ | refine ct_c rfl rfl rfl ?_ | refine cu_all rfl ?_ | refine cu_to rfl ?_ | refine cu_from rfl ?_ | refine cu_p rfl ?_ | fail); (first | omega | (simp only [List.length_append, List.length_replicate, List.length_cons, List.length_nil, List.length_set, List.length_take, List.length_drop, true_and]; omega))) | exact up_raw rfl | exact pk_t (by first | rfl | assumption | omega | (simp only [*, Bool.not_false, Bool.not_true]; first | done | fail) | (simp [*]; first | done | fail)) rfl | exact pk_f (by first | rfl | assumption | omega | (simp only [*, Bool.not_false, Bool.not_true]; first | done | fail) | (simp [*]; first | done | fail)) rfl | fail | exact rw_raw | exact pu_cv (fun w => rfl) (by omega) | exact pu_of (fun w => rfl) rfl | exact be_of (fun w => rfl) | exact nc_of (fun _ _ _ _ => rfl) rfl | exact bu_of (fun w => rfl) rfl | fail) ?_) | ((first | refine q_callE wsT wsZ (by rfl) ?_ | refine q_callVE wsT (by rfl) (by rfl) ?_); refine ⟨_, _, _, (by first | assumption), _, by rfl, ?_, ?_⟩)); focus (first | exact trivial | fail | exact rfl | (first | omega | (simp only [List.length_append, List.length_replicate, List.length_cons, List.length_nil, List.length_set, List.length_take, List.length_drop, true_and]; omega)) | exact cvB (fun w => rfl) | ((repeat' (first | exact rfl | exact cV_len _ | exact cV_ln rfl (by omega) | exact Cel.pos | omega | exact trivial | refine And.intro ?_ ?_)); done) | (simp [*]; done) | (simp; omega))) | fail)) | refine r_nt (by rfl) (by rfl) (by first | rfl | assumption | omega | (simp only [*, Bool.not_false, Bool.not_true]; first | done | fail) | (simp [*]; first | done | fail)) (by rfl) ?_ | refine r_nf (by rfl) (by rfl) (by first | rfl | assumption | omega | (simp only [*, Bool.not_false, Bool.not_true]; first | done | fail) | (simp [*]; first | done | fail)) (by rfl) ?_ | refine r_gu (by rfl) (by rfl) (by rfl) ?_ | refine r_nil ?_) | (first | refine aw_seq ?_ | refine aw_ct (by rfl) (by first | rfl | assumption | omega | (simp only [*, Bool.not_false, Bool.not_true]; first | done | fail) | (simp [*]; first | done | fail)) ?_ | refine aw_cf (by rfl) (by first | rfl | assumption | omega | (simp only [*, Bool.not_false, Bool.not_true]; first | done | fail) | (simp [*]; first | done | fail)) ?_ | refine aw_block ?_ | refine aw_region T0ok cfU_ok (by rfl) ?_ | refine aw_skip ?_ | refine aw_exit ?_ | refine ra_step ?_))); exact hh.out)) : G := h ⟨k⟩
theorem ga_KGF {H G : Prop} (k : H) (h : Hid H → G := by (intro hh; (first | refine r_none ?_ | refine r_gt (by rfl) (by rfl) (by first | rfl | assumption | omega | (simp only [*, Bool.not_false, Bool.not_true]; first | done | fail) | (simp [*]; first | done | fail)) (by rfl) ?_ | refine r_gf (by rfl) (by rfl) (by first | rfl | assumption | omega | (simp only [*, Bool.not_false, Bool.not_true]; first | done | fail) | (simp [*]; first | done | fail)) (by rfl) ?_); refine z_op (by rfl) ?_; refine z_alV ?_ hh.out; focus (first | exact trivial | fail | exact rfl | (first | omega | (simp only [List.length_append, List.length_replicate, List.length_cons, List.length_nil, List.length_set, List.length_take, List.length_drop, true_and]; omega)) | exact cvB (fun w => rfl) | ((repeat' (first | exact rfl | exact cV_len _ | exact cV_ln rfl (by omega) | exact Cel.pos | omega | exact trivial | refine And.intro ?_ ?_)); done) | (simp [*]; done) | (simp; omega)))) : G := h ⟨k⟩
theorem gs_KGF {H G : Prop} (k : H) (h : Hid H → G := by (intro hh; (first | ((first | refine r_none ?_ | refine r_gt (by rfl) (by rfl) (by first | rfl | assumption | omega | (simp only [*, Bool.not_false, Bool.not_true]; first | done | fail) | (simp [*]; first | done | fail)) (by rfl) ?_ | refine r_gf (by rfl) (by rfl) (by first | rfl | assumption | omega | (simp only [*, Bool.not_false, Bool.not_true]; first | done | fail) | (simp [*]; first | done | fail)) (by rfl) ?_); (first | fail | ((first | (refine z_op (by rfl) ?_; first | refine z_ok ?_ ?_ | refine z_ex ?_ (by first | exact ft_raw rfl rfl | ((first | refine ft_rp rfl rfl rfl ?_ | refine ft_row rfl rfl rfl ?_ | refine ft_rpF rfl rfl rfl ?_ | refine ft_rowF rfl rfl rfl ?_ | refine up_row rfl rfl ?_ | refine up_rowF rfl rfl rfl ?_ | refine ct_0 rfl ?_ | refine ct_r rfl rfl ?_ | refine ct_c rfl rfl rfl ?_ | refine cu_all rfl ?_ | refine cu_to rfl ?_ | refine cu_from rfl ?_ | refine cu_p rfl ?_ | fail); (first | omega | (simp only [List.length_append, List.length_replicate, List.length_cons, List.length_nil, List.length_set, List.length_take, List.length_drop, true_and]; omega))) | exact up_raw rfl | exact pk_t (by first | rfl | assumption | omega | (simp only [*, Bool.not_false, Bool.not_true]; first | done | fail) | (simp [*]; first | done | fail)) rfl | exact pk_f (by first | rfl | assumption | omega | (simp only [*, Bool.not_false, Bool.not_true]; first | done | fail) | (simp [*]; first | done | fail)) rfl | fail | exact rw_raw | exact pu_cv (fun w => rfl) (by omega) | exact pu_of (fun w => rfl) rfl | exact be_of (fun w => rfl) | exact nc_of (fun _ _ _ _ => rfl) rfl | exact bu_of (fun w => rfl) rfl | fail) ?_) | ((first | refine q_callE wsT wsZ (by rfl) ?_ | refine q_callVE wsT (by rfl) (by rfl) ?_); refine ⟨_, _, _, (by first | assumption), _, by rfl, ?_, ?_⟩)); focus (first | exact trivial | fail | exact rfl | (first | omega | (simp only [List.length_append, List.length_replicate, List.length_cons, List.length_nil, List.length_set, List.length_take, List.length_drop, true_and]; omega)) | exact cvB (fun w => rfl) | ((repeat' (first | exact rfl | exact cV_len _ | exact cV_ln rfl (by omega) | exact Cel.pos | omega | exact trivial | refine And.intro ?_ ?_)); done) | (simp [*]; done) | (simp; omega))) | fail)) | refine r_nt (by rfl) (by rfl) (by first | rfl | assumption | omega | (simp only [*, Bool.not_false, Bool.not_true]; first | done | fail) | (simp [*]; first | done | fail)) (by rfl) ?_ | refine r_nf (by rfl) (by rfl) (by first | rfl | assumption | omega | (simp only [*, Bool.not_false, Bool.not_true]; first | done | fail) | (simp [*]; first | done | fail)) (by rfl) ?_ | refine r_gu (by rfl) (by rfl) (by rfl) ?_ | refine r_nil ?_); (repeat (first | ((first | refine r_none ?_ | refine r_gt (by rfl) (by rfl) (by first | rfl | assumption | omega | (simp only [*, Bool.not_false, Bool.not_true]; first | done | fail) | (simp [*]; first | done | fail)) (by rfl) ?_ | refine r_gf (by rfl) (by rfl) (by first | rfl | assumption | omega | (simp only [*, Bool.not_false, Bool.not_true]; first | done | fail) | (simp [*]; first | done | fail)) (by rfl) ?_); (first | fail | ((first | (refine z_op (by rfl) ?_; first | refine z_ok ?_ ?_ | refine z_ex ?_ (by first | exact ft_raw rfl rfl | ((first | refine ft_rp rfl rfl rfl ?_ | refine ft_row rfl rfl rfl ?_ | refine ft_rpF rfl rfl rfl ?_ | refine ft_rowF rfl rfl rfl ?_ | refine up_row rfl rfl ?_ | refine up_rowF rfl rfl rfl ?_ | refine ct_0 rfl ?_ | refine ct_r rfl rfl ?_ | refine ct_c rfl rfl rfl ?_ | refine cu_all rfl ?_ | refine cu_to rfl ?_ | refine cu_from rfl ?_ | refine cu_p rfl ?_ | fail); (first | omega | (simp only [List.length_append, List.length_replicate, List.length_cons, List.length_nil, List.length_set, List.length_take, List.length_drop, true_and]; omega))) | exact up_raw rfl | exact pk_t (by first | rfl | assumption | omega | (simp only [*, Bool.not_false, Bool.not_true]; first | done | fail) | (simp [*]; first | done | fail)) rfl | exact pk_f (by first | rfl | assumption | omega | (simp only [*, Bool.not_false, Bool.not_true]; first | done | fail) | (simp [*]; first | done | fail)) rfl | fail | exact rw_raw | exact pu_cv (fun w => rfl) (by omega) | exact pu_of (fun w => rfl) rfl | exact be_of (fun w => rfl) | exact nc_of (fun _ _ _ _ => rfl) rfl | exact bu_of (fun w => rfl) rfl | fail) ?_) | ((first | refine q_callE wsT wsZ (by rfl) ?_ | refine q_callVE wsT (by rfl) (by rfl) ?_); refine ⟨_, _, _, (by first | assumption), _, by rfl, ?_, ?_⟩)); focus (first | exact trivial | fail | exact rfl | (first | omega | (simp only [List.length_append, List.length_replicate, List.length_cons, List.length_nil, List.length_set, List.length_take, List.length_drop, true_and]; omega)) | exact cvB (fun w => rfl) | ((repeat' (first | exact rfl | exact cV_len _ | exact cV_ln rfl (by omega) | exact Cel.pos | omega | exact trivial | refine And.intro ?_ ?_)); done) | (simp [*]; done) | (simp; omega))) | fail)) | refine r_nt (by rfl) (by rfl) (by first | rfl | assumption | omega | (simp only [*, Bool.not_false, Bool.not_true]; first | done | fail) | (simp [*]; first | done | fail)) (by rfl) ?_ | refine r_nf (by rfl) (by rfl) (by first | rfl | assumption | omega | (simp only [*, Bool.not_false, Bool.not_true]; first | done | fail) | (simp [*]; first | done | fail)) (by rfl) ?_ | refine r_gu (by rfl) (by rfl) (by rfl) ?_ | refine r_nil ?_)); exact hh.out)) : G := h ⟨k⟩
theorem gd_KGF {H G : Prop} (k : H) (h : Hid H → G := by (intro hh; (refine aw_draw mixed T0ok cfU_ok [] (by rfl) (by kernel_rfl) ?_); exact hh.out)) : G := h ⟨k⟩
theorem ite_01 (b : Bool) : 0 ≤ (if b = true then 1 else 0 : Int) ∧ (if b = true then 1 else 0 : Int) ≤ 1 := by cases b <;> decide
set_option maxHeartbeats 1000000 in
theorem k_run (n : Int) (g : Gt) (w : Int) (h : gok n g = true) (hw : 0 ≤ w ∧ w < 256) : Kon Try.prog 107 [gV g, vI w] [] (vI (gr g w)) [] [] := by
  obtain ⟨hn, hf⟩ := gok_facts h
  have hb := gok_bd h
  have hr := gr_if g hw.1
  have sa := sb_and (w := w) (a := g.a) hw.1
  have sb := sb_and (w := w) (a := g.b) hw.1
  have sc := sb_and (w := w) (a := g.c) hw.1
  have pa := pow_7 (n := g.a) (by omega)
  have pb := pow_7 (n := g.b) (by omega)
  have pc := pow_7 (n := g.c) (by omega)
  have ia := ite_01 (bt w g.a)
  have ib := ite_01 (bt w g.b)
  have ic := ite_01 (bt w g.c)
  have e8 : ∀ x : Int, (1 * 2 ^ x.toNat : Int).toNat = 2 ^ x.toNat := fun x => by rw [Int.one_mul, pow_nat]
  have e9 : ∀ x : Int, (0 * 2 ^ x.toNat : Int).toNat = 0 := fun x => by rw [Int.zero_mul]; rfl
  have ew : ((w.toNat : Nat) : Int) = w := Int.toNat_of_nonneg hw.1
  rw [hr]
  rcases hf with ⟨hk, _⟩ | ⟨hk | hk, _⟩ | ⟨hk | hk, _⟩
  · rw [gc0 hk, gm0 hk]
    clear h hr
    obtain ⟨k, a, b, c⟩ := g
    dsimp only at *
    subst hk
    (refine kon_mk T0ok (fn := Try.f107) (c := Try.f107.body.get rfl) Try.func107 rfl (by rfl) (by rfl) (by rfl) ?_; intro hfit hfe)
    clear hfit hfe
    (first | refine aw_seq ?_ | refine aw_ct (by rfl) (by first | rfl | assumption | omega | (simp only [*, Bool.not_false, Bool.not_true]; first | done | fail) | (simp [*]; first | done | fail)) ?_ | refine aw_cf (by rfl) (by first | rfl | assumption | omega | (simp only [*, Bool.not_false, Bool.not_true]; first | done | fail) | (simp [*]; first | done | fail)) ?_ | refine aw_block ?_ | refine aw_region T0ok cfU_ok (by rfl) ?_ | refine aw_skip ?_ | refine aw_exit ?_ | refine ra_step ?_); (first | refine aw_seq ?_ | refine aw_ct (by rfl) (by first | rfl | assumption | omega | (simp only [*, Bool.not_false, Bool.not_true]; first | done | fail) | (simp [*]; first | done | fail)) ?_ | refine aw_cf (by rfl) (by first | rfl | assumption | omega | (simp only [*, Bool.not_false, Bool.not_true]; first | done | fail) | (simp [*]; first | done | fail)) ?_ | refine aw_block ?_ | refine aw_region T0ok cfU_ok (by rfl) ?_ | refine aw_skip ?_ | refine aw_exit ?_ | refine ra_step ?_); (repeat (first | refine gq_KGF ?_ | (refine ga_KGF ?_; intro _hq))); (refine aw_draw mixed T0ok cfU_ok [] (by rfl) (by kernel_rfl) ?_)
    (repeat (first | refine gs_KGF ?_ | (refine ga_KGF ?_; intro _hq)))
    rw [sa, sb, sc]
    clear sa sb sc
    (repeat (first | refine gq_KGF ?_ | (refine ga_KGF ?_; intro _hq) | refine gd_KGF ?_))
    ((try refine aw_ret ?_); refine ret_auto2 (by rfl) (by rfl) (by rfl) (by repeat (first | exact trivial | refine ⟨by first | rfl | omega, ?_⟩)) ?_ (by repeat (first | exact trivial | refine ⟨by rfl, by rfl, ?_⟩)) (by repeat (first | exact trivial | refine ⟨by rfl, by rfl, ?_⟩)); try rfl)
    cases bt w a <;> cases bt w b <;> cases bt w c <;> simp only [Int.toNat_zero, Int.toNat_one, e8, e9, ew, Nat.xor_zero, Bool.and_true, Bool.and_false, Bool.true_and, Bool.false_and, Int.toNat_natCast, Nat.xor_assoc, if_true, if_false, Bool.false_eq_true, Nat.and_self, Nat.xor_self, Nat.zero_and, Nat.and_zero, Nat.zero_xor, Int.natCast_zero, Int.natCast_one, bne_self_eq_false, Bool.true_bne, Bool.false_bne, Bool.not_false, Bool.not_true] <;> rfl
  · rw [gc1 hk, gm1 hk]
    clear h hr
    obtain ⟨k, a, b, c⟩ := g
    dsimp only at *
    subst hk
    (refine kon_mk T0ok (fn := Try.f107) (c := Try.f107.body.get rfl) Try.func107 rfl (by rfl) (by rfl) (by rfl) ?_; intro hfit hfe)
    clear hfit hfe
    (first | refine aw_seq ?_ | refine aw_ct (by rfl) (by first | rfl | assumption | omega | (simp only [*, Bool.not_false, Bool.not_true]; first | done | fail) | (simp [*]; first | done | fail)) ?_ | refine aw_cf (by rfl) (by first | rfl | assumption | omega | (simp only [*, Bool.not_false, Bool.not_true]; first | done | fail) | (simp [*]; first | done | fail)) ?_ | refine aw_block ?_ | refine aw_region T0ok cfU_ok (by rfl) ?_ | refine aw_skip ?_ | refine aw_exit ?_ | refine ra_step ?_); (first | refine aw_seq ?_ | refine aw_ct (by rfl) (by first | rfl | assumption | omega | (simp only [*, Bool.not_false, Bool.not_true]; first | done | fail) | (simp [*]; first | done | fail)) ?_ | refine aw_cf (by rfl) (by first | rfl | assumption | omega | (simp only [*, Bool.not_false, Bool.not_true]; first | done | fail) | (simp [*]; first | done | fail)) ?_ | refine aw_block ?_ | refine aw_region T0ok cfU_ok (by rfl) ?_ | refine aw_skip ?_ | refine aw_exit ?_ | refine ra_step ?_); (repeat (first | refine gq_KGF ?_ | (refine ga_KGF ?_; intro _hq))); (refine aw_draw mixed T0ok cfU_ok [] (by rfl) (by kernel_rfl) ?_)
    (repeat (first | refine gs_KGF ?_ | (refine ga_KGF ?_; intro _hq)))
    rw [sa, sb, sc]
    clear sa sb sc
    (repeat (first | refine gq_KGF ?_ | (refine ga_KGF ?_; intro _hq) | refine gd_KGF ?_))
    ((try refine aw_ret ?_); refine ret_auto2 (by rfl) (by rfl) (by rfl) (by repeat (first | exact trivial | refine ⟨by first | rfl | omega, ?_⟩)) ?_ (by repeat (first | exact trivial | refine ⟨by rfl, by rfl, ?_⟩)) (by repeat (first | exact trivial | refine ⟨by rfl, by rfl, ?_⟩)); try rfl)
    cases bt w a <;> cases bt w b <;> cases bt w c <;> simp only [Int.toNat_zero, Int.toNat_one, e8, e9, ew, Nat.xor_zero, Bool.and_true, Bool.and_false, Bool.true_and, Bool.false_and, Int.toNat_natCast, Nat.xor_assoc, if_true, if_false, Bool.false_eq_true, Nat.and_self, Nat.xor_self, Nat.zero_and, Nat.and_zero, Nat.zero_xor, Int.natCast_zero, Int.natCast_one, bne_self_eq_false, Bool.true_bne, Bool.false_bne, Bool.not_false, Bool.not_true] <;> rfl
  · rw [gc3 hk, gm3 hk]
    clear h hr
    obtain ⟨k, a, b, c⟩ := g
    dsimp only at *
    subst hk
    (refine kon_mk T0ok (fn := Try.f107) (c := Try.f107.body.get rfl) Try.func107 rfl (by rfl) (by rfl) (by rfl) ?_; intro hfit hfe)
    clear hfit hfe
    (first | refine aw_seq ?_ | refine aw_ct (by rfl) (by first | rfl | assumption | omega | (simp only [*, Bool.not_false, Bool.not_true]; first | done | fail) | (simp [*]; first | done | fail)) ?_ | refine aw_cf (by rfl) (by first | rfl | assumption | omega | (simp only [*, Bool.not_false, Bool.not_true]; first | done | fail) | (simp [*]; first | done | fail)) ?_ | refine aw_block ?_ | refine aw_region T0ok cfU_ok (by rfl) ?_ | refine aw_skip ?_ | refine aw_exit ?_ | refine ra_step ?_); (first | refine aw_seq ?_ | refine aw_ct (by rfl) (by first | rfl | assumption | omega | (simp only [*, Bool.not_false, Bool.not_true]; first | done | fail) | (simp [*]; first | done | fail)) ?_ | refine aw_cf (by rfl) (by first | rfl | assumption | omega | (simp only [*, Bool.not_false, Bool.not_true]; first | done | fail) | (simp [*]; first | done | fail)) ?_ | refine aw_block ?_ | refine aw_region T0ok cfU_ok (by rfl) ?_ | refine aw_skip ?_ | refine aw_exit ?_ | refine ra_step ?_); (repeat (first | refine gq_KGF ?_ | (refine ga_KGF ?_; intro _hq))); (refine aw_draw mixed T0ok cfU_ok [] (by rfl) (by kernel_rfl) ?_)
    (repeat (first | refine gs_KGF ?_ | (refine ga_KGF ?_; intro _hq)))
    rw [sa, sb, sc]
    clear sa sb sc
    (repeat (first | refine gq_KGF ?_ | (refine ga_KGF ?_; intro _hq) | refine gd_KGF ?_))
    ((try refine aw_ret ?_); refine ret_auto2 (by rfl) (by rfl) (by rfl) (by repeat (first | exact trivial | refine ⟨by first | rfl | omega, ?_⟩)) ?_ (by repeat (first | exact trivial | refine ⟨by rfl, by rfl, ?_⟩)) (by repeat (first | exact trivial | refine ⟨by rfl, by rfl, ?_⟩)); try rfl)
    cases bt w a <;> cases bt w b <;> cases bt w c <;> simp only [Int.toNat_zero, Int.toNat_one, e8, e9, ew, Nat.xor_zero, Bool.and_true, Bool.and_false, Bool.true_and, Bool.false_and, Int.toNat_natCast, Nat.xor_assoc, if_true, if_false, Bool.false_eq_true, Nat.and_self, Nat.xor_self, Nat.zero_and, Nat.and_zero, Nat.zero_xor, Int.natCast_zero, Int.natCast_one, bne_self_eq_false, Bool.true_bne, Bool.false_bne, Bool.not_false, Bool.not_true] <;> rfl
  · rw [gc2 hk, gm2 hk]
    clear h hr
    obtain ⟨k, a, b, c⟩ := g
    dsimp only at *
    subst hk
    (refine kon_mk T0ok (fn := Try.f107) (c := Try.f107.body.get rfl) Try.func107 rfl (by rfl) (by rfl) (by rfl) ?_; intro hfit hfe)
    clear hfit hfe
    (first | refine aw_seq ?_ | refine aw_ct (by rfl) (by first | rfl | assumption | omega | (simp only [*, Bool.not_false, Bool.not_true]; first | done | fail) | (simp [*]; first | done | fail)) ?_ | refine aw_cf (by rfl) (by first | rfl | assumption | omega | (simp only [*, Bool.not_false, Bool.not_true]; first | done | fail) | (simp [*]; first | done | fail)) ?_ | refine aw_block ?_ | refine aw_region T0ok cfU_ok (by rfl) ?_ | refine aw_skip ?_ | refine aw_exit ?_ | refine ra_step ?_); (first | refine aw_seq ?_ | refine aw_ct (by rfl) (by first | rfl | assumption | omega | (simp only [*, Bool.not_false, Bool.not_true]; first | done | fail) | (simp [*]; first | done | fail)) ?_ | refine aw_cf (by rfl) (by first | rfl | assumption | omega | (simp only [*, Bool.not_false, Bool.not_true]; first | done | fail) | (simp [*]; first | done | fail)) ?_ | refine aw_block ?_ | refine aw_region T0ok cfU_ok (by rfl) ?_ | refine aw_skip ?_ | refine aw_exit ?_ | refine ra_step ?_); (repeat (first | refine gq_KGF ?_ | (refine ga_KGF ?_; intro _hq))); (refine aw_draw mixed T0ok cfU_ok [] (by rfl) (by kernel_rfl) ?_)
    (repeat (first | refine gs_KGF ?_ | (refine ga_KGF ?_; intro _hq)))
    rw [sa, sb, sc]
    clear sa sb sc
    (repeat (first | refine gq_KGF ?_ | (refine ga_KGF ?_; intro _hq) | refine gd_KGF ?_))
    ((try refine aw_ret ?_); refine ret_auto2 (by rfl) (by rfl) (by rfl) (by repeat (first | exact trivial | refine ⟨by first | rfl | omega, ?_⟩)) ?_ (by repeat (first | exact trivial | refine ⟨by rfl, by rfl, ?_⟩)) (by repeat (first | exact trivial | refine ⟨by rfl, by rfl, ?_⟩)); try rfl)
    cases bt w a <;> cases bt w b <;> cases bt w c <;> simp only [Int.toNat_zero, Int.toNat_one, e8, e9, ew, Nat.xor_zero, Bool.and_true, Bool.and_false, Bool.true_and, Bool.false_and, Int.toNat_natCast, Nat.xor_assoc, if_true, if_false, Bool.false_eq_true, Nat.and_self, Nat.xor_self, Nat.zero_and, Nat.and_zero, Nat.zero_xor, Int.natCast_zero, Int.natCast_one, bne_self_eq_false, Bool.true_bne, Bool.false_bne, Bool.not_false, Bool.not_true] <;> rfl
  · rw [gc4 hk, gm4 hk]
    clear h hr
    obtain ⟨k, a, b, c⟩ := g
    dsimp only at *
    subst hk
    (refine kon_mk T0ok (fn := Try.f107) (c := Try.f107.body.get rfl) Try.func107 rfl (by rfl) (by rfl) (by rfl) ?_; intro hfit hfe)
    clear hfit hfe
    (first | refine aw_seq ?_ | refine aw_ct (by rfl) (by first | rfl | assumption | omega | (simp only [*, Bool.not_false, Bool.not_true]; first | done | fail) | (simp [*]; first | done | fail)) ?_ | refine aw_cf (by rfl) (by first | rfl | assumption | omega | (simp only [*, Bool.not_false, Bool.not_true]; first | done | fail) | (simp [*]; first | done | fail)) ?_ | refine aw_block ?_ | refine aw_region T0ok cfU_ok (by rfl) ?_ | refine aw_skip ?_ | refine aw_exit ?_ | refine ra_step ?_); (first | refine aw_seq ?_ | refine aw_ct (by rfl) (by first | rfl | assumption | omega | (simp only [*, Bool.not_false, Bool.not_true]; first | done | fail) | (simp [*]; first | done | fail)) ?_ | refine aw_cf (by rfl) (by first | rfl | assumption | omega | (simp only [*, Bool.not_false, Bool.not_true]; first | done | fail) | (simp [*]; first | done | fail)) ?_ | refine aw_block ?_ | refine aw_region T0ok cfU_ok (by rfl) ?_ | refine aw_skip ?_ | refine aw_exit ?_ | refine ra_step ?_); (repeat (first | refine gq_KGF ?_ | (refine ga_KGF ?_; intro _hq))); (refine aw_draw mixed T0ok cfU_ok [] (by rfl) (by kernel_rfl) ?_)
    (repeat (first | refine gs_KGF ?_ | (refine ga_KGF ?_; intro _hq)))
    rw [sa, sb, sc]
    clear sa sb sc
    (repeat (first | refine gq_KGF ?_ | (refine ga_KGF ?_; intro _hq) | refine gd_KGF ?_))
    ((try refine aw_ret ?_); refine ret_auto2 (by rfl) (by rfl) (by rfl) (by repeat (first | exact trivial | refine ⟨by first | rfl | omega, ?_⟩)) ?_ (by repeat (first | exact trivial | refine ⟨by rfl, by rfl, ?_⟩)) (by repeat (first | exact trivial | refine ⟨by rfl, by rfl, ?_⟩)); try rfl)
    cases bt w a <;> cases bt w b <;> cases bt w c <;> simp only [Int.toNat_zero, Int.toNat_one, e8, e9, ew, Nat.xor_zero, Bool.and_true, Bool.and_false, Bool.true_and, Bool.false_and, Int.toNat_natCast, Nat.xor_assoc, if_true, if_false, Bool.false_eq_true, Nat.and_self, Nat.xor_self, Nat.zero_and, Nat.and_zero, Nat.zero_xor, Int.natCast_zero, Int.natCast_one, bne_self_eq_false, Bool.true_bne, Bool.false_bne, Bool.not_false, Bool.not_true] <;> rfl
end Go.Proofs.Yteagoafamjbpbaa

/- What gates make of words, both sides; valid circuits. -/
namespace Go.Proofs.Yteagoafamjbpbaa
set_option linter.unusedVariables false
set_option linter.unusedSimpArgs false
set_option maxRecDepth 20000
open Go.RowKit
attribute [local irreducible] runA runX AW
theorem wvB_t {n w : Int} (h : wvB n w = true) : (1 ≤ n ∧ n ≤ 8) ∧ 0 ≤ w ∧ w < 2 ^ n.toNat ∧ w < 256 := by
  unfold wvB at h
  rw [Bool.and_eq_true] at h
  have h1 := btw_t h.1
  have h2 := btw_t h.2
  have h3 := pow_8 h1
  omega
end Go.Proofs.Yteagoafamjbpbaa

/- Valid circuits, what circuits make of words, both sides. -/
namespace Go.Proofs.Yteagoafamjbpbaa
set_option linter.unusedVariables false
set_option linter.unusedSimpArgs false
set_option maxRecDepth 20000
open Go.RowKit
attribute [local irreducible] runA runX AW
theorem gq_KGJ {H G : Prop} (k : H) (h : Hid H → G := by (intro hh; (first | (first | ((first | refine r_none ?_ | refine r_gt (by rfl) (by rfl) (by first | rfl | assumption | omega | (simp only [*, Bool.not_false, Bool.not_true]; first | done | fail) | (simp [*]; first | done | fail)) (by rfl) ?_ | refine r_gf (by rfl) (by rfl) (by first | rfl | assumption | omega | (simp only [*, Bool.not_false, Bool.not_true]; first | done | fail) | (simp [*]; first | done | fail)) (by rfl) ?_); (first | fail | ((first | (refine z_op (by rfl) ?_; first | refine z_ok ?_ ?_ | refine z_ex ?_ (by first | exact ft_raw rfl rfl | ((first | refine ft_rp rfl rfl rfl ?_ | refine ft_row rfl rfl rfl ?_ | refine ft_rpF rfl rfl rfl ?_ | refine ft_rowF rfl rfl rfl ?_ | refine up_row rfl rfl ?_ | refine up_rowF rfl rfl rfl ?_ | refine ct_0 rfl ?_ | refine ct_r rfl rfl ?_ | refine ct_c rfl rfl rfl ?_ | refine cu_all rfl ?_ | refine cu_to rfl ?_ | refine cu_from rfl ?_ | refine cu_p rfl ?_ | fail); (first | omega | (simp only [List.length_append, List.length_replicate, List.length_cons, List.length_nil, List.length_set, List.length_take, List.length_drop, true_and]; omega))) | exact up_raw rfl | exact pk_t (by first | rfl | assumption | omega | (simp only [*, Bool.not_false, Bool.not_true]; first | done | fail) | (simp [*]; first | done | fail)) rfl | exact pk_f (by first | rfl | assumption | omega | (simp only [*, Bool.not_false, Bool.not_true]; first | done | fail) | (simp [*]; first | done | fail)) rfl | fail | exact rw_raw | exact pu_cv (fun w => rfl) (by omega) | exact pu_of (fun w => rfl) rfl | exact be_of (fun w => rfl) | exact nc_of (fun _ _ _ _ => rfl) rfl | exact bu_of (fun w => rfl) rfl | fail) ?_) | ((first | refine q_callE wsT wsZ (by rfl) ?_ | refine q_callVE wsT (by rfl) (by rfl) ?_); refine ⟨_, _, _, (by first | assumption | exact k_okL _ | exact k_l1In _ _ _ | exact k_wvS2 _ _ | exact k_wv _ _ | exact k_gv _ _ | exact k_gvS _ _ (by omega) | exact k_cv1 _ _ | exact k_idxV _ _ (by omega) | exact k_contV _ _ (by omega) | exact k_cv _ _ (by omega) | exact k_cvS _ _ (by omega) (by omega)), _, by rfl, ?_, ?_⟩)); focus (first | exact trivial | fail | exact rfl | (first | omega | (simp only [List.length_append, List.length_replicate, List.length_cons, List.length_nil, List.length_set, List.length_take, List.length_drop, true_and]; omega)) | exact cvB (fun w => rfl) | ((repeat' (first | exact rfl | exact cV_len _ | exact cV_ln rfl (by omega) | exact Cel.pos | omega | exact trivial | refine And.intro ?_ ?_)); done) | (simp [*]; done) | (simp; omega))) | fail)) | refine r_nt (by rfl) (by rfl) (by first | rfl | assumption | omega | (simp only [*, Bool.not_false, Bool.not_true]; first | done | fail) | (simp [*]; first | done | fail)) (by rfl) ?_ | refine r_nf (by rfl) (by rfl) (by first | rfl | assumption | omega | (simp only [*, Bool.not_false, Bool.not_true]; first | done | fail) | (simp [*]; first | done | fail)) (by rfl) ?_ | refine r_gu (by rfl) (by rfl) (by rfl) ?_ | refine r_nil ?_) | (first | refine aw_seq ?_ | refine aw_ct (by rfl) (by first | rfl | assumption | omega | (simp only [*, Bool.not_false, Bool.not_true]; first | done | fail) | (simp [*]; first | done | fail)) ?_ | refine aw_cf (by rfl) (by first | rfl | assumption | omega | (simp only [*, Bool.not_false, Bool.not_true]; first | done | fail) | (simp [*]; first | done | fail)) ?_ | refine aw_block ?_ | refine aw_region T0ok cfU_ok (by rfl) ?_ | refine aw_skip ?_ | refine aw_exit ?_ | refine ra_step ?_)); (repeat (first | (first | ((first | refine r_none ?_ | refine r_gt (by rfl) (by rfl) (by first | rfl | assumption | omega | (simp only [*, Bool.not_false, Bool.not_true]; first | done | fail) | (simp [*]; first | done | fail)) (by rfl) ?_ | refine r_gf (by rfl) (by rfl) (by first | rfl | assumption | omega | (simp only [*, Bool.not_false, Bool.not_true]; first | done | fail) | (simp [*]; first | done | fail)) (by rfl) ?_); (first | fail | ((first | (refine z_op (by rfl) ?_; first | refine z_ok ?_ ?_ | refine z_ex ?_ (by first | exact ft_raw rfl rfl | ((first | refine ft_rp rfl rfl rfl ?_ | refine ft_row rfl rfl rfl ?_ | refine ft_rpF rfl rfl rfl ?_ | refine ft_rowF rfl rfl rfl ?_ | refine up_row rfl rfl ?_ | refine up_rowF rfl rfl rfl ?_ | refine ct_0 rfl ?_ | refine ct_r rfl rfl ?_ | refine ct_c rfl rfl rfl ?_ | refine cu_all rfl ?_ | refine cu_to rfl ?_ | refine cu_from rfl ?_ | refine cu_p rfl ?_ | fail); (first | omega | (simp only [List.length_append, List.length_replicate, List.length_cons, List.length_nil, List.length_set, List.length_take, List.length_drop, true_and]; omega))) | exact up_raw rfl | exact pk_t (by first | rfl | assumption | omega | (simp only [*, Bool.not_false, Bool.not_true]; first | done | fail) | (simp [*]; first | done | fail)) rfl | exact pk_f (by first | rfl | assumption | omega | (simp only [*, Bool.not_false, Bool.not_true]; first | done | fail) | (simp [*]; first | done | fail)) rfl | fail | exact rw_raw | exact pu_cv (fun w => rfl) (by omega) | exact pu_of (fun w => rfl) rfl | exact be_of (fun w => rfl) | exact nc_of (fun _ _ _ _ => rfl) rfl | exact bu_of (fun w => rfl) rfl | fail) ?_) | ((first | refine q_callE wsT wsZ (by rfl) ?_ | refine q_callVE wsT (by rfl) (by rfl) ?_); refine ⟨_, _, _, (by first | assumption | exact k_okL _ | exact k_l1In _ _ _ | exact k_wvS2 _ _ | exact k_wv _ _ | exact k_gv _ _ | exact k_gvS _ _ (by omega) | exact k_cv1 _ _ | exact k_idxV _ _ (by omega) | exact k_contV _ _ (by omega) | exact k_cv _ _ (by omega) | exact k_cvS _ _ (by omega) (by omega)), _, by rfl, ?_, ?_⟩)); focus (first | exact trivial | fail | exact rfl | (first | omega | (simp only [List.length_append, List.length_replicate, List.length_cons, List.length_nil, List.length_set, List.length_take, List.length_drop, true_and]; omega)) | exact cvB (fun w => rfl) | ((repeat' (first | exact rfl | exact cV_len _ | exact cV_ln rfl (by omega) | exact Cel.pos | omega | exact trivial | refine And.intro ?_ ?_)); done) | (simp [*]; done) | (simp; omega))) | fail)) | refine r_nt (by rfl) (by rfl) (by first | rfl | assumption | omega | (simp only [*, Bool.not_false, Bool.not_true]; first | done | fail) | (simp [*]; first | done | fail)) (by rfl) ?_ | refine r_nf (by rfl) (by rfl) (by first | rfl | assumption | omega | (simp only [*, Bool.not_false, Bool.not_true]; first | done | fail) | (simp [*]; first | done | fail)) (by rfl) ?_ | refine r_gu (by rfl) (by rfl) (by rfl) ?_ | refine r_nil ?_) | (first | refine aw_seq ?_ | refine aw_ct (by rfl) (by first | rfl | assumption | omega | (simp only [*, Bool.not_false, Bool.not_true]; first | done | fail) | (simp [*]; first | done | fail)) ?_ | refine aw_cf (by rfl) (by first | rfl | assumption | omega | (simp only [*, Bool.not_false, Bool.not_true]; first | done | fail) | (simp [*]; first | done | fail)) ?_ | refine aw_block ?_ | refine aw_region T0ok cfU_ok (by rfl) ?_ | refine aw_skip ?_ | refine aw_exit ?_ | refine ra_step ?_))); exact hh.out)) : G := h ⟨k⟩
theorem ga_KGJ {H G : Prop} (k : H) (h : Hid H → G := by (intro hh; (first | refine r_none ?_ | refine r_gt (by rfl) (by rfl) (by first | rfl | assumption | omega | (simp only [*, Bool.not_false, Bool.not_true]; first | done | fail) | (simp [*]; first | done | fail)) (by rfl) ?_ | refine r_gf (by rfl) (by rfl) (by first | rfl | assumption | omega | (simp only [*, Bool.not_false, Bool.not_true]; first | done | fail) | (simp [*]; first | done | fail)) (by rfl) ?_); refine z_op (by rfl) ?_; refine z_alV ?_ hh.out; focus (first | exact trivial | fail | exact rfl | (first | omega | (simp only [List.length_append, List.length_replicate, List.length_cons, List.length_nil, List.length_set, List.length_take, List.length_drop, true_and]; omega)) | exact cvB (fun w => rfl) | ((repeat' (first | exact rfl | exact cV_len _ | exact cV_ln rfl (by omega) | exact Cel.pos | omega | exact trivial | refine And.intro ?_ ?_)); done) | (simp [*]; done) | (simp; omega)))) : G := h ⟨k⟩
abbrev capA : AV := .g (.one (.fn 105 [(100000, 0)]))
abbrev boxI (n : Int) : Ent := .rbx [.v (.int .i64 n)]
theorem k_cv1 (n : Int) (g : Gt) : Kon Try.prog 105 [gV g, .g (.one (.ptr 100000 0 0))] [boxI n] (vB (!(gok n g))) [] [boxI n] := by
  (refine kon_mk T0ok (fn := Try.f105) (c := Try.f105.body.get rfl) Try.func105 rfl (by rfl) (by rfl) (by rfl) ?_; intro hfit hfe)
  (repeat (first | refine gq_KGJ ?_ | (refine ga_KGJ ?_; intro _hq)))
  ((try refine aw_ret ?_); refine ret_auto2 (by rfl) (by rfl) (by rfl) (by repeat (first | exact trivial | refine ⟨by first | rfl | omega, ?_⟩)) ?_ (by repeat (first | exact trivial | refine ⟨by rfl, by rfl, ?_⟩)) (by repeat (first | exact trivial | refine ⟨by rfl, by rfl, ?_⟩)); try rfl)
/-- The place of the first gate that is not valid. -/
def badI (n : Int) : List Gt → Nat → Int
  | [], _ => -1
  | g :: l, i => if gok n g = true then badI n l (i + 1) else (i : Int)
theorem badI_all {n : Int} : ∀ (l : List Gt) (i : Nat), decide (badI n l i ≥ 0) = !(l.all (gok n))
  | [], i => rfl
  | g :: l, i => by
    cases h : gok n g with
    | true => simp only [badI, h, if_true, List.all_cons, Bool.true_and]; exact badI_all l (i + 1)
    | false => simp [badI, h]
theorem badI_drop {n : Int} {l : List Gt} {i : Nat} (hi : i < l.length) : badI n (l.drop i) i = if gok n (l.getD i Cel.no) = true then badI n (l.drop (i + 1)) (i + 1) else (i : Int) := by
  have e : l.getD i Cel.no = l[i] := by simp [List.getD_eq_getElem?_getD, hi]
  rw [List.drop_eq_getElem_cons hi, e]; rfl
theorem k_idxV (n : Int) (l : List Gt) (h : l.length ≤ 100000000) : Kon Try.prog 125 [roA l, capA] [boxI n] (vI (badI n l 0)) [] [boxI n] := by
  (refine kon_mk T0ok (fn := Try.f125) (c := Try.f125.body.get rfl) Try.func125 rfl (by rfl) (by rfl) (by rfl) ?_; intro hfit hfe)
  (repeat (first | refine gq_KGJ ?_ | (refine ga_KGJ ?_; intro _hq)))
  (refine aw_rd [0, 1, 7] [100000] (fun i : Nat => [(8, vI i)]) (fun _ => []) (fun i => i ≤ l.length ∧ badI n (l.drop i) i = badI n l 0) (fun i => l.length - i) 0 (by rfl) (by rfl) ?_ (by rfl) (by repeat (first | exact trivial | refine ⟨by rfl, ?_⟩ | refine ⟨vI_of (by rfl) (by omega), ?_⟩)) (by repeat (first | exact trivial | refine ⟨by rfl, ?_⟩ | refine ⟨vI_of (by rfl) (by omega), ?_⟩)) ?_)
  · exact ⟨Nat.zero_le _, by rw [List.drop_zero]⟩
  rintro i ⟨hi, hz⟩
  rcases Nat.lt_or_ge i l.length with h6 | h6
  · have hd : decide ((i : Int) < (l.length : Int)) = true := by simpa using h6
    rw [badI_drop h6] at hz
    have hK := k_cv1 n (l.getD (i : Int).toNat Cel.no)
    replace hz : (if gok n (l.getD (i : Int).toNat Cel.no) = true then badI n (l.drop (i + 1)) (i + 1) else (i : Int)) = badI n l 0 := hz
    cases hb : gok n (l.getD (i : Int).toNat Cel.no) with
    | false =>
      rw [hb, if_neg (by decide)] at hz
      rw [hb] at hK
      rw [← hz]
      clear hz
      (repeat (first | refine gq_KGJ ?_ | (refine ga_KGJ ?_; intro _hq)))
      ((try refine aw_ret ?_); refine ret_auto2 (by rfl) (by rfl) (by rfl) (by repeat (first | exact trivial | refine ⟨by first | rfl | omega, ?_⟩)) ?_ (by repeat (first | exact trivial | refine ⟨by rfl, by rfl, ?_⟩)) (by repeat (first | exact trivial | refine ⟨by rfl, by rfl, ?_⟩)); try rfl)
    | true =>
      rw [hb, if_pos rfl] at hz
      rw [hb] at hK
      have hinv : i + 1 ≤ l.length ∧ badI n (l.drop (i + 1)) (i + 1) = badI n l 0 := ⟨h6, hz⟩
      clear hz
      (repeat (first | refine gq_KGJ ?_ | (refine ga_KGJ ?_; intro _hq)))
      exact ⟨i + 1, hinv, ⟨by rfl, (by repeat (first | exact trivial | refine ⟨by rfl, ?_⟩ | refine ⟨vI_of (by rfl) (by omega), ?_⟩)), (by repeat (first | exact trivial | refine ⟨by rfl, ?_⟩ | refine ⟨vI_of (by rfl) (by omega), ?_⟩))⟩, (by first | omega | (dsimp only; omega))⟩
  · have hd : decide ((i : Int) < (l.length : Int)) = false := by simp; omega
    rw [List.drop_of_length_le h6, badI] at hz
    rw [← hz]
    clear hz
    (repeat (first | refine gq_KGJ ?_ | (refine ga_KGJ ?_; intro _hq)))
    ((try refine aw_ret ?_); refine ret_auto2 (by rfl) (by rfl) (by rfl) (by repeat (first | exact trivial | refine ⟨by first | rfl | omega, ?_⟩)) ?_ (by repeat (first | exact trivial | refine ⟨by rfl, by rfl, ?_⟩)) (by repeat (first | exact trivial | refine ⟨by rfl, by rfl, ?_⟩)); try rfl)
theorem k_contV (n : Int) (l : List Gt) (h : l.length ≤ 100000000) : Kon Try.prog 104 [roA l, capA] [boxI n] (vB (!(l.all (gok n)))) [] [boxI n] := by
  rw [← badI_all l 0]
  (refine kon_mk T0ok (fn := Try.f104) (c := Try.f104.body.get rfl) Try.func104 rfl (by rfl) (by rfl) (by rfl) ?_; intro hfit hfe)
  (repeat (first | refine gq_KGJ ?_ | (refine ga_KGJ ?_; intro _hq)))
  ((try refine aw_ret ?_); refine ret_auto2 (by rfl) (by rfl) (by rfl) (by repeat (first | exact trivial | refine ⟨by first | rfl | omega, ?_⟩)) ?_ (by repeat (first | exact trivial | refine ⟨by rfl, by rfl, ?_⟩)) (by repeat (first | exact trivial | refine ⟨by rfl, by rfl, ?_⟩)); try rfl)
def cokB (n : Int) (l : List Gt) : Bool := btw n 1 8 && (decide ((l.length : Int) ≤ 24) && l.all (gok n))
theorem k_cv (n : Int) (l : List Gt) (h : l.length ≤ 100000000) : Kon Try.prog 62 [vI n, roA l] [] (vB (cokB n l)) [] [] := by
  unfold cokB
  cases h1 : btw n 1 8 with
  | false =>
    (refine kon_mk T0ok (fn := Try.f62) (c := Try.f62.body.get rfl) Try.func62 rfl (by rfl) (by rfl) (by rfl) ?_; intro hfit hfe)
    (repeat (first | refine gq_KGJ ?_ | (refine ga_KGJ ?_; intro _hq)))
    ((try refine aw_ret ?_); refine ret_auto2 (by rfl) (by rfl) (by rfl) (by repeat (first | exact trivial | refine ⟨by first | rfl | omega, ?_⟩)) ?_ (by repeat (first | exact trivial | refine ⟨by rfl, by rfl, ?_⟩)) (by repeat (first | exact trivial | refine ⟨by rfl, by rfl, ?_⟩)); try rfl)
  | true =>
    cases h2 : decide ((l.length : Int) ≤ 24) with
    | false =>
      (refine kon_mk T0ok (fn := Try.f62) (c := Try.f62.body.get rfl) Try.func62 rfl (by rfl) (by rfl) (by rfl) ?_; intro hfit hfe)
      (repeat (first | refine gq_KGJ ?_ | (refine ga_KGJ ?_; intro _hq)))
      ((try refine aw_ret ?_); refine ret_auto2 (by rfl) (by rfl) (by rfl) (by repeat (first | exact trivial | refine ⟨by first | rfl | omega, ?_⟩)) ?_ (by repeat (first | exact trivial | refine ⟨by rfl, by rfl, ?_⟩)) (by repeat (first | exact trivial | refine ⟨by rfl, by rfl, ?_⟩)); try rfl)
    | true =>
      (refine kon_mk T0ok (fn := Try.f62) (c := Try.f62.body.get rfl) Try.func62 rfl (by rfl) (by rfl) (by rfl) ?_; intro hfit hfe)
      (repeat (first | refine gq_KGJ ?_ | (refine ga_KGJ ?_; intro _hq)))
      ((try refine aw_ret ?_); refine ret_auto2 (by rfl) (by rfl) (by rfl) (by repeat (first | exact trivial | refine ⟨by first | rfl | omega, ?_⟩)) ?_ (by repeat (first | exact trivial | refine ⟨by rfl, by rfl, ?_⟩)) (by repeat (first | exact trivial | refine ⟨by rfl, by rfl, ?_⟩)); try rfl)
      rw [Bool.not_not]; rfl
theorem all_drop {p : Gt → Bool} {l : List Gt} {i : Nat} (hi : i < l.length) : (l.drop i).all p = (p (l.getD i Cel.no) && (l.drop (i + 1)).all p) := by
  have e : l.getD i Cel.no = l[i] := by simp [List.getD_eq_getElem?_getD, hi]
  rw [List.drop_eq_getElem_cons hi, e, List.all_cons]
theorem k_cvS (n : Int) (l : List Gt) (h : l.length ≤ 100000000) (hr : -9223372036854775808 ≤ n ∧ n ≤ 9223372036854775807) : Kon Try.prog 47 [vI n, roA l] [] (vB (cokB n l)) [] [] := by
  have e : cokB n l = (l.all (gok n) && (btw n 1 8 && decide ((l.length : Int) ≤ 24))) := by
    unfold cokB; cases btw n 1 8 <;> cases decide ((l.length : Int) ≤ 24) <;> cases l.all (gok n) <;> rfl
  rw [e]
  clear e
  (refine kon_mk T0ok (fn := Try.f47) (c := Try.f47.body.get rfl) Try.func47 rfl (by rfl) (by rfl) (by rfl) ?_; intro hfit hfe)
  (repeat (first | refine gq_KGJ ?_ | (refine ga_KGJ ?_; intro _hq)))
  (refine aw_rd [0, 1] [] (fun i : Nat => [(5, vI i)]) (fun _ => []) (fun i => i ≤ l.length ∧ (l.drop i).all (gok n) = l.all (gok n)) (fun i => l.length - i) 0 (by rfl) (by rfl) ?_ (by rfl) (by repeat (first | exact trivial | refine ⟨by rfl, ?_⟩ | refine ⟨vI_of (by rfl) (by omega), ?_⟩)) (by repeat (first | exact trivial | refine ⟨by rfl, ?_⟩ | refine ⟨vI_of (by rfl) (by omega), ?_⟩)) ?_)
  · exact ⟨Nat.zero_le _, by rw [List.drop_zero]⟩
  rintro i ⟨hi, hz⟩
  rcases Nat.lt_or_ge i l.length with h6 | h6
  · have hd : decide ((i : Int) < (l.length : Int)) = true := by simpa using h6
    rw [all_drop h6] at hz
    have hK := k_gvS n (l.getD (i : Int).toNat Cel.no) hr
    replace hz : (gok n (l.getD (i : Int).toNat Cel.no) && (l.drop (i + 1)).all (gok n)) = l.all (gok n) := hz
    cases hb : gok n (l.getD (i : Int).toNat Cel.no) with
    | false =>
      rw [hb, Bool.false_and] at hz
      rw [hb] at hK
      rw [← hz, Bool.false_and]
      clear hz
      (repeat (first | refine gq_KGJ ?_ | (refine ga_KGJ ?_; intro _hq)))
      ((try refine aw_ret ?_); refine ret_auto2 (by rfl) (by rfl) (by rfl) (by repeat (first | exact trivial | refine ⟨by first | rfl | omega, ?_⟩)) ?_ (by repeat (first | exact trivial | refine ⟨by rfl, by rfl, ?_⟩)) (by repeat (first | exact trivial | refine ⟨by rfl, by rfl, ?_⟩)); try rfl)
    | true =>
      rw [hb, Bool.true_and] at hz
      rw [hb] at hK
      have hinv : i + 1 ≤ l.length ∧ (l.drop (i + 1)).all (gok n) = l.all (gok n) := ⟨h6, hz⟩
      clear hz
      (repeat (first | refine gq_KGJ ?_ | (refine ga_KGJ ?_; intro _hq)))
      exact ⟨i + 1, hinv, ⟨by rfl, (by repeat (first | exact trivial | refine ⟨by rfl, ?_⟩ | refine ⟨vI_of (by rfl) (by omega), ?_⟩)), (by repeat (first | exact trivial | refine ⟨by rfl, ?_⟩ | refine ⟨vI_of (by rfl) (by omega), ?_⟩))⟩, (by first | omega | (dsimp only; omega))⟩
  · have hd : decide ((i : Int) < (l.length : Int)) = false := by simp; omega
    rw [List.drop_of_length_le h6, List.all_nil] at hz
    rw [← hz, Bool.true_and]
    clear hz
    cases hn : btw n 1 8
    all_goals
      (repeat (first | refine gq_KGJ ?_ | (refine ga_KGJ ?_; intro _hq)))
      ((try refine aw_ret ?_); refine ret_auto2 (by rfl) (by rfl) (by rfl) (by repeat (first | exact trivial | refine ⟨by first | rfl | omega, ?_⟩)) ?_ (by repeat (first | exact trivial | refine ⟨by rfl, by rfl, ?_⟩)) (by repeat (first | exact trivial | refine ⟨by rfl, by rfl, ?_⟩)); try rfl)
theorem cr_drop {l : List Gt} {i : Nat} {w : Int} (hi : i < l.length) : cr (l.drop i) w = cr (l.drop (i + 1)) (gr (l.getD i Cel.no) w) := by
  have e : l.getD i Cel.no = l[i] := by simp [List.getD_eq_getElem?_getD, hi]
  rw [List.drop_eq_getElem_cons hi, e, cr_cons]
theorem all_at {p : Gt → Bool} {l : List Gt} (h : l.all p = true) {i : Nat} (hi : i < l.length) : p (l.getD i Cel.no) = true := by
  have e : l.getD i Cel.no = l[i] := by simp [List.getD_eq_getElem?_getD, hi]
  rw [e]; exact List.all_eq_true.1 h _ (List.getElem_mem hi)
theorem k_runAll (n : Int) (l : List Gt) (w : Int) (h : l.all (gok n) = true) (hl : l.length ≤ 100000000) (hw : wvB n w = true) : Kon Try.prog 65 [roA l, vI w] [] (vI (cr l w)) [] [] := by
  have hv := wvB_t hw
  (refine kon_mk T0ok (fn := Try.f65) (c := Try.f65.body.get rfl) Try.func65 rfl (by rfl) (by rfl) (by rfl) ?_; intro hfit hfe)
  (repeat (first | refine gq_KGJ ?_ | (refine ga_KGJ ?_; intro _hq)))
  (refine aw_rd [7, 8] [] (fun g : Nat × Int => [(9, vI g.1), (1, vI g.2)]) (fun _ => []) (fun g => g.1 ≤ l.length ∧ (0 ≤ g.2 ∧ g.2 < 2 ^ n.toNat) ∧ cr (l.drop g.1) g.2 = cr l w) (fun g => l.length - g.1) (0, w) (by rfl) (by rfl) ?_ (by rfl) (by repeat (first | exact trivial | refine ⟨by rfl, ?_⟩ | refine ⟨vI_of (by rfl) (by omega), ?_⟩)) (by repeat (first | exact trivial | refine ⟨by rfl, ?_⟩ | refine ⟨vI_of (by rfl) (by omega), ?_⟩)) ?_)
  · exact ⟨Nat.zero_le _, ⟨hv.2.1, hv.2.2.1⟩, by rw [List.drop_zero]⟩
  rintro ⟨i, v⟩ ⟨hi, hv2, hz⟩
  dsimp only at hi hv2 hz ⊢
  have h8 := pow_8 hv.1
  rcases Nat.lt_or_ge i l.length with h6 | h6
  · have hd : decide ((i : Int) < (l.length : Int)) = true := by simpa using h6
    rw [cr_drop h6] at hz
    have hg := all_at h h6
    have hK : Kon Try.prog 107 [gV (l.getD (i : Int).toNat Cel.no), vI v] [] (vI (gr (l.getD i Cel.no) v)) [] [] := k_run n (l.getD i Cel.no) v hg (by omega)
    have hinv : i + 1 ≤ l.length ∧ (0 ≤ gr (l.getD i Cel.no) v ∧ gr (l.getD i Cel.no) v < 2 ^ n.toNat) ∧ cr (l.drop (i + 1)) (gr (l.getD i Cel.no) v) = cr l w := ⟨h6, gr_lt hg hv2, hz⟩
    clear hz
    (repeat (first | refine gq_KGJ ?_ | (refine ga_KGJ ?_; intro _hq)))
    exact ⟨(i + 1, gr (l.getD i Cel.no) v), hinv, ⟨by rfl, (by repeat (first | exact trivial | refine ⟨by rfl, ?_⟩ | refine ⟨vI_of (by rfl) (by omega), ?_⟩)), (by repeat (first | exact trivial | refine ⟨by rfl, ?_⟩ | refine ⟨vI_of (by rfl) (by omega), ?_⟩))⟩, (by first | omega | (dsimp only; omega))⟩
  · have hd : decide ((i : Int) < (l.length : Int)) = false := by simp; omega
    rw [List.drop_of_length_le h6] at hz
    rw [← hz]
    clear hz
    (repeat (first | refine gq_KGJ ?_ | (refine ga_KGJ ?_; intro _hq)))
    ((try refine aw_ret ?_); refine ret_auto2 (by rfl) (by rfl) (by rfl) (by repeat (first | exact trivial | refine ⟨by first | rfl | omega, ?_⟩)) ?_ (by repeat (first | exact trivial | refine ⟨by rfl, by rfl, ?_⟩)) (by repeat (first | exact trivial | refine ⟨by rfl, by rfl, ?_⟩)); try rfl)
theorem cokB_t {n : Int} {l : List Gt} (h : cokB n l = true) : (1 ≤ n ∧ n ≤ 8) ∧ l.length ≤ 24 ∧ l.all (gok n) = true := by
  unfold cokB at h
  simp only [Bool.and_eq_true, decide_eq_true_eq] at h
  exact ⟨btw_t h.1, by omega, h.2.2⟩

end Go.Proofs.Yteagoafamjbpbaa

/- impl.backwards of gates: the list in the other order, in fresh memory. -/
namespace Go.Proofs.Yteagoafamjbpbaa
set_option linter.unusedVariables false
set_option linter.unusedSimpArgs false
open Go.RowKit Go.Shelf
attribute [local go_sem] Oper.semAt_some
abbrev gvl (g : Gt) : Value := .agg #[.int .i64 g.k, .int .i64 g.a, .int .i64 g.b, .int .i64 g.c]
def upto {α : Type} (f : Nat → α) (k : Nat) : List α := (List.range k).map f
theorem upto_succ {α : Type} (f : Nat → α) (k : Nat) : upto f (k + 1) = upto f k ++ [f k] := by simp [upto, List.range_succ]
theorem upto_length {α : Type} (f : Nat → α) (k : Nat) : (upto f k).length = k := by simp [upto]
/-- What a round keeps: what lay below n₀, and the captured box. -/
def K2 (n₀ Bs : Nat) (W W' : World) : Prop := Below n₀ W W' ∧ ∀ v, Boxed W Bs 23 v → Boxed W' Bs 23 v
theorem K2.refl (n₀ Bs : Nat) (W : World) : K2 n₀ Bs W W := ⟨Below.refl _ _, fun _ h => h⟩
theorem K2.trans {n₀ Bs : Nat} {A B C : World} (h : K2 n₀ Bs A B) (k : K2 n₀ Bs B C) : K2 n₀ Bs A C := ⟨h.1.trans k.1, fun v b => k.2 v (h.2 v b)⟩
theorem K2_t {n₀ Bs : Nat} {A B C : World} (h : K2 n₀ Bs A B) (k : K2 n₀ Bs B C) : K2 n₀ Bs A C := h.trans k
theorem K2_b {n₀ Bs : Nat} {w : World} (hn : n₀ ≤ w.heap.size) (W : World) (l : Nat) (o o' : Obj) (hl : w.heap.size ≤ l) (h : W.heap[l]? = some o) (ho : o.isCells = false) (hw : o.isWalk = false) : K2 n₀ Bs W (W.putObj l o') :=
  ⟨belowK_b hn W l o o' hl h ho hw, fun v b => b.kept (grownBy_putObj' W l o') (fun e => by cases e; rw [show W.heap[Bs]? = _ from b] at h; cases h; cases ho)⟩
set_option maxRecDepth 100000 in
set_option maxHeartbeats 2000000 in
/-- slices.Backward's closure, for every loop body that keeps what lay below n₀. -/
theorem bw1_in (F : Fence) (n : Nat) (h7 : F.fn 129) (hro : F.round = none) (hn : 1 ≤ n) (l Bs n₀ b off len cap : Nat) (f : Nat → Gt) (hreach : len * 32 ≤ 140737488351232) (hb : b < n₀) (J Jx : List (Int × Gt) → World → Prop)
    (hY : ∀ pre x W, J pre W → pre.length < len → YieldAt F (n - 1) Try.prog l #[.int .i64 x.1, gvl x.2] W fun e W' =>
      (e = .returned (.bool true) ∧ J (pre ++ [x]) W' ∧ K2 n₀ Bs W W') ∨ (e = .returned (.bool false) ∧ Jx (pre ++ [x]) W'))
    (W : World) (hBs : Boxed W Bs 23 (.slice (some ⟨b, off, none⟩) len cap)) (hc : ∀ j, j < len → W.cell? ⟨b, off + j * 4, none⟩ = some (.int .i64 (f j).k) ∧ W.cell? ⟨b, off + j * 4 + 1, none⟩ = some (.int .i64 (f j).a) ∧ W.cell? ⟨b, off + j * 4 + 2, none⟩ = some (.int .i64 (f j).b) ∧ W.cell? ⟨b, off + j * 4 + 3, none⟩ = some (.int .i64 (f j).c)) (h0 : J [] W) :
    CallsIn F n Try.prog 129 #[.func (.yield l) #[] #[], .pointer (some ⟨Bs, 0, none⟩)] W fun e W' => (∃ v, e = .returned v) ∧
      ((∃ ys, ys = upto (fun j => ((len : Int) - 1 - j, f (len - 1 - j))) len ∧ J ys W') ∨ (∃ pre, (∃ k, k ≤ len ∧ pre = upto (fun j => ((len : Int) - 1 - j, f (len - 1 - j))) k) ∧ Jx pre W')) := by
  refine callsIn_of_wp Try.func129 rfl h7 ?_ hro
  simp only [Try.ntmps129, List.size_toArray, List.length_cons, List.length_nil, Nat.reduceAdd, Nat.reduceSub, Array.replicate_succ, Array.replicate_zero, List.push_toArray, List.append_toArray, List.nil_append, List.cons_append]
  have hBs0 := hBs.cell
  gi_wp2
  gi_loopw [3] (fun i wr => ∃ k : Nat, k ≤ len ∧ i = .int .i64 ((len : Int) - 1 - k) ∧ J (upto (fun j => ((len : Int) - 1 - j, f (len - 1 - j))) k) wr ∧ K2 n₀ Bs W wr)
    (fun i _ => (intOf i + 1).toNat)
  case atStart => exact ⟨0, Nat.zero_le _, by simp, h0, K2.refl _ _ _⟩
  case round =>
    obtain ⟨k, hk, rfl, hJs, hnx⟩ := hrel
    have hBs' := (hnx.2 _ hBs).cell
    by_cases hlt : k < len
    · obtain ⟨fn, tmps, assign, body, hy, hR⟩ := hY _ ((len : Int) - 1 - k, f (len - 1 - k)) wr hJs (by rw [upto_length]; exact hlt)
      dsimp only at hy
      obtain ⟨m, hm⟩ : ∃ m : Nat, len - 1 - k = m := ⟨_, rfl⟩
      have hm2 : (len : Int) - 1 - k = (m : Int) := by omega
      rw [hm2, hm] at hy
      obtain ⟨c0, c1, c2, c3⟩ := hc m (by omega)
      have c0 := (hnx.1.cell (p := ⟨b, off + m * 4, none⟩) hb).trans c0
      have c1 := (hnx.1.cell (p := ⟨b, off + m * 4 + 1, none⟩) hb).trans c1
      have c2 := (hnx.1.cell (p := ⟨b, off + m * 4 + 2, none⟩) hb).trans c2
      have c3 := (hnx.1.cell (p := ⟨b, off + m * 4 + 3, none⟩) hb).trans c3
      rw [hm2]
      gi_wp2
      refine hR.mono ?_
      rintro e W3 (⟨rfl, hJ3, hk3⟩ | ⟨rfl, hJx3⟩)
      · gi_wp2
        go_roundw
        case rel => exact ⟨k + 1, by omega, by simp; omega, by rw [upto_succ]; exact hJ3, hnx.trans hk3⟩
        case measure => simp [intOf]
      · gi_wp2
        refine bodyPost_ret (results_none rfl _ _ _) rfl ?_
        exact ⟨⟨_, rfl⟩, .inr ⟨_, ⟨k + 1, by omega, (upto_succ _ _).symm⟩, hJx3⟩⟩
    · obtain rfl : k = len := by omega
      rw [show (k : Int) - 1 - k = -1 by omega]
      gi_wp2
      go_end0
      exact ⟨⟨_, rfl⟩, .inl ⟨_, rfl, hJs⟩⟩
set_option maxRecDepth 100000 in
set_option maxHeartbeats 1000000 in
/-- .. at the nil slice: no round. -/
theorem bw1_nil_in (F : Fence) (n : Nat) (h7 : F.fn 129) (hro : F.round = none) (l Bs cap : Nat) (A : Option Addr) (J : List (Int × Gt) → World → Prop) (W : World) (hBs : W.cell? ⟨Bs, 0, none⟩ = some (.slice A 0 cap)) (h0 : J [] W) :
    CallsIn F n Try.prog 129 #[.func (.yield l) #[] #[], .pointer (some ⟨Bs, 0, none⟩)] W fun e W' => (∃ v, e = .returned v) ∧ J [] W' := by
  refine callsIn_of_wp Try.func129 rfl h7 ?_ hro
  simp only [Try.ntmps129, List.size_toArray, List.length_cons, List.length_nil, Nat.reduceAdd, Nat.reduceSub, Array.replicate_succ, Array.replicate_zero, List.push_toArray, List.append_toArray, List.nil_append, List.cons_append]
  gi_wp2
  gi_loopw [3] (fun i wr => i = .int .i64 (-1) ∧ J [] wr) (fun _ _ => 0)
  case atStart => exact ⟨rfl, h0⟩
  case round =>
    obtain ⟨rfl, hJs⟩ := hrel
    gi_wp2
    go_end0
    exact ⟨⟨_, rfl⟩, hJs⟩
set_option maxHeartbeats 1000000 in
/-- slices.Backward(s): the slice value is boxed; the function value captures the box. -/
theorem bw_in (F : Fence) (n : Nat) (h5 : F.fn 122) (hro : F.round = none) (a : Option Addr) (len cap : Nat) (w : World) :
    CallsIn F n Try.prog 122 #[.slice a len cap] w fun e w' => e = .returned (.func (.func 129) #[] #[.pointer (some ⟨w.heap.size, 0, none⟩)]) ∧ w' = w.alloc (.cells #[.slice a len cap] 23) := by
  refine callsIn_of_wp Try.func122 rfl h5 ?_ hro
  simp only [Try.ntmps122, List.size_toArray, List.length_cons, List.length_nil, Nat.reduceAdd, Nat.reduceSub, Array.replicate_succ, Array.replicate_zero, List.push_toArray, List.append_toArray, List.nil_append, List.cons_append]
  gi_wp2
  go_ret
  exact ⟨rfl, rfl⟩
/-- The slice value holds gates, in a block below n₀; or there are none. -/
def HoldsG (n₀ : Nat) (W : World) (sv : Value) (len : Nat) (f : Nat → Gt) : Prop :=
  (∃ A cap, sv = .slice A 0 cap ∧ len = 0) ∨ ∃ b off cap, sv = .slice (some ⟨b, off, none⟩) len cap ∧ b < n₀ ∧ ∀ j, j < len → W.cell? ⟨b, off + j * 4, none⟩ = some (.int .i64 (f j).k) ∧ W.cell? ⟨b, off + j * 4 + 1, none⟩ = some (.int .i64 (f j).a) ∧ W.cell? ⟨b, off + j * 4 + 2, none⟩ = some (.int .i64 (f j).b) ∧ W.cell? ⟨b, off + j * 4 + 3, none⟩ = some (.int .i64 (f j).c)
theorem HoldsG.below {n₀ : Nat} {A B : World} (h : Below n₀ A B) {sv : Value} {len : Nat} {f : Nat → Gt} : HoldsG n₀ A sv len f → HoldsG n₀ B sv len f
  | .inl e => .inl e
  | .inr ⟨b, off, cap, e, hb, hc⟩ => .inr ⟨b, off, cap, e, hb, fun j hj => by
    obtain ⟨c0, c1, c2, c3⟩ := hc j hj
    exact ⟨(h.cell (p := ⟨b, off + j * 4, none⟩) hb).trans c0, (h.cell (p := ⟨b, off + j * 4 + 1, none⟩) hb).trans c1, (h.cell (p := ⟨b, off + j * 4 + 2, none⟩) hb).trans c2, (h.cell (p := ⟨b, off + j * 4 + 3, none⟩) hb).trans c3⟩⟩
def bwL (len : Nat) (f : Nat → Gt) (k : Nat) : List (Int × Gt) := upto (fun j => ((len : Int) - 1 - j, f (len - 1 - j))) k
theorem bw_stops (F : Fence) (n : Nat) (h7 : F.fn 129) (hro : F.round = none) (hn : 1 ≤ n) (Bs n₀ : Nat) (sv : Value) (len : Nat) (f : Nat → Gt) (hreach : len * 32 ≤ 140737488351232) (w : World) (hBs : Bs < w.heap.size) (hn₀ : n₀ ≤ w.heap.size)
    (hc : Boxed w Bs 23 sv) (hI : HoldsG n₀ w sv len f) :
    SeqStopsK F n Try.prog 129 #[.pointer (some ⟨Bs, 0, none⟩)] (fun x : Int × Gt => #[.int .i64 x.1, gvl x.2]) (K2 n₀ Bs) (fun ys => ys = bwL len f len) (fun pre => ∃ k, k ≤ len ∧ pre = bwL len f k) len w := fun l J Jx W hW _ _ hY h0 => by
  have hc' : Boxed W Bs _ _ := (hW.block Bs hBs).trans hc
  rcases hI.below (hW.mono hn₀) with ⟨A, cap, rfl, rfl⟩ | ⟨b, off, cap, rfl, hb, hcs⟩
  · exact (bw1_nil_in F n h7 hro l Bs cap A J W hc'.cell h0).mono fun e W' ⟨he, hj⟩ => ⟨he, .inl ⟨_, rfl, hj⟩⟩
  · exact bw1_in F n h7 hro hn l Bs n₀ b off len cap f hreach hb J Jx hY W hc' hcs h0
theorem infoG : (Try.prog.info? 34).map (fun i => (i.zero, i.size, i.bytes)) = some (some (gvl ⟨0, 0, 0, 0⟩), 4, 32) := by kernel_rfl
theorem cells4_new (w : World) (k a b c : Value) (t : TypeId) : ∀ j u, [k, a, b, c][j]? = some u → (w.alloc (.cells #[k, a, b, c] t)).cell? ((⟨w.heap.size, 0, none⟩ : Addr).add j) = some u := by
  intro j u hj
  match j, hj with
  | 0, hj => simp at hj; subst hj; simp [Addr.add]
  | 1, hj => simp at hj; subst hj; simp [Addr.add]
  | 2, hj => simp at hj; subst hj; simp [Addr.add]
  | 3, hj => simp at hj; subst hj; simp [Addr.add]
  | j + 4, hj => simp at hj
theorem cells4_own {k a b c : Value} {t Bx : Nat} {X Y : World} {row : Option Nat} (h : X.heap[Bx]? = some (.cells #[k, a, b, c] t (0, 0))) (hg : X.grownBy Y row) (hr : ∀ r, row = some r → ∃ o : Obj, X.heap[r]? = some o ∧ o.isCells = false) : Y.heap[Bx]? = some (.cells #[k, a, b, c] t (0, 0)) :=
  (hg.block Bx (Array.getElem?_eq_some_iff.1 h).1 (fun e => by obtain ⟨o, h1, h2⟩ := hr Bx e.symm; rw [h] at h1; cases h1; cases h2)).trans h
set_option maxRecDepth 100000 in
set_option maxHeartbeats 2000000 in
theorem back_in (F : Fence) (n : Nat) (h3 : F.fn 93) (h4 : F.fn 122) (h5 : F.fn 129) (hro : F.round = none) (hn : 3 ≤ n) (A : Option Addr) (len cap : Nat) (f : Nat → Gt) (hlen : len ≤ 1000000) (w : World) (hL : HoldsG w.heap.size w (.slice A len cap) len f) :
    CallsIn F n Try.prog 93 #[.slice A len cap] w fun e W' => ∃ v, e = .returned v ∧ W'.ownsRow w.heap.size 34 4 v len (cV ((bwL len f len).map (·.2))) ∧ Below w.heap.size w W' := by
  have h1 : 1 ≤ n := by omega
  obtain ⟨i0, hi, hz0, hz1, hz2⟩ := info_parts infoG
  obtain ⟨M, hM⟩ : ∃ M, madeCells (gvl ⟨0, 0, 0, 0⟩).cells (len * i0.size) = M := ⟨_, rfl⟩
  have hmk : (Instr.makeSlice 23 (.int .i64 0) (.int .i64 len)).run Try.prog w = .ok (.slice (some ⟨w.heap.size, 0, none⟩) 0 len) (w.alloc (.cells M 34)) := by
    have := run_make (P := Try.prog) w 23 34 i0 (gvl ⟨0, 0, 0, 0⟩) Try.underlying23 hi hz0 .i64 .i64 0 (len : Nat) (by omega) (by omega) (by rw [hz2]; omega) (by omega)
    rw [← hM]
    simpa using this
  refine callsIn_of_wp_marks Try.func93 rfl h3 ?_ hro
  simp only [Try.ntmps93, List.size_toArray, List.length_cons, List.length_nil, Nat.reduceAdd, Nat.reduceSub, Array.replicate_succ, Array.replicate_zero, List.push_toArray, List.append_toArray, List.nil_append, List.cons_append]
  gi_wp2_with (gi_at_call 122; refine (bw_in F (n - 1) h4 hro _ _ _ _).mono ?_; rintro e w' ⟨rfl, rfl⟩)
  have bO := (Boxed.new (w.alloc (.cells M 34)) 23 (.slice (some ⟨w.heap.size, 0, none⟩) 0 len)).alloc (.cells #[.slice A len cap] 23)
  have bN := Boxed.new ((w.alloc (.cells M 34)).alloc (.cells #[.slice (some ⟨w.heap.size, 0, none⟩) 0 len] 23)) 23 (.slice A len cap)
  have bR : (((w.alloc (.cells M 34)).alloc (.cells #[.slice (some ⟨w.heap.size, 0, none⟩) 0 len] 23)).alloc (.cells #[.slice A len cap] 23)).ownsRow w.heap.size 34 4 (.slice (some ⟨w.heap.size, 0, none⟩) 0 len) 0 [] := World.ownsRow.alloc (World.ownsRow.alloc ⟨rfl, .inr ⟨_, len, M, rfl, Nat.le_refl _, World.alloc_heap_new w _, Nat.zero_le _, by simp [maxLen]; omega, by rw [← hM, size_madeCells, hz1], by simp⟩⟩ _) _
  have hB0 : Below w.heap.size w (((w.alloc (.cells M 34)).alloc (.cells #[.slice (some ⟨w.heap.size, 0, none⟩) 0 len] 23)).alloc (.cells #[.slice A len cap] 23)) := (((Below.refl _ w).alloc (Nat.le_refl _) _).alloc (by simp) _).alloc (by simp; omega) _
  simp only [World.size_alloc] at bO bN
  have hsz : (((w.alloc (.cells M 34)).alloc (.cells #[.slice (some ⟨w.heap.size, 0, none⟩) 0 len] 23)).alloc (.cells #[.slice A len cap] 23)).heap.size = w.heap.size + 3 := by simp
  obtain ⟨W0, hW0⟩ : ∃ W0, ((w.alloc (.cells M 34)).alloc (.cells #[.slice (some ⟨w.heap.size, 0, none⟩) 0 len] 23)).alloc (.cells #[.slice A len cap] 23) = W0 := ⟨_, rfl⟩
  rw [hW0] at bO bN bR hB0 hsz ⊢
  clear hW0
  refine wpIn_rangeFunc_ownH hro h1 (gf := 129) (lb := #[.pointer (some ⟨w.heap.size + 1 + 1, 0, none⟩)]) rfl h5 (Go.Proofs.enters_of Try.func129 (by kernel_rfl) rfl)
    (bw_stops F (n - 1) h5 hro (by omega) (w.heap.size + 1 + 1) w.heap.size _ len f (by omega) W0 (by omega) (by omega) bN (hL.below hB0)) K2_t (K2_b (by omega)) (Below.refl _ _) (fun _ => rfl)
    (fun pre W => ((∃ v, Boxed W (w.heap.size + 1) 23 v ∧ W.ownsRow w.heap.size 34 4 v pre.length (cV (pre.map (·.2))) ∧ True) ∧ Boxed W (w.heap.size + 1 + 1) 23 (.slice A len cap)) ∧ Below w.heap.size w W)
    (fun _ _ _ => False)
    (OwnFrom.and (OwnFrom.and (Own.from (holdsRow_own w.heap.size (w.heap.size + 1) 23 34 4 (fun (pre : List (Int × Gt)) => pre.length) (fun pre => cV (pre.map (·.2))) (fun _ _ => True)) _) (Own.from (boxed_own _ _ _) _)) (ownFrom_below (Nat.le_refl _) (by omega)))
    (fun _ _ _ _ _ hs _ _ => hs)
    ⟨⟨⟨_, bO, bR, trivial⟩, bN⟩, hB0⟩
    (fun x a' W => ∃ Bx, w.heap.size + 1 + 1 < Bx ∧ W.heap[Bx]? = some (.cells #[.int .i64 x.2.k, .int .i64 x.2.a, .int .i64 x.2.b, .int .i64 x.2.c] 34 (0, 0)) ∧ a' = { tmps := #[.slice A len cap, undef, .slice none 0 0, .pointer (some ⟨w.heap.size + 1, 0, none⟩), undef, .pointer (some ⟨Bx, 0, none⟩), .slice A len cap, .int .i64 len, .slice (some ⟨w.heap.size, 0, none⟩) 0 len, .slice A len cap, .func (.func 129) #[] #[.pointer (some ⟨w.heap.size + 1 + 1, 0, none⟩)], .int .i64 x.1, gvl x.2, undef, undef, undef, undef, undef], defers := [] })
    (fun x a' _ X Y row hs hg hr => by obtain ⟨Bx, h1, h2, h3⟩ := hs; exact ⟨Bx, h1, cells4_own h2 hg (fun r e => (hr r e).2), h3⟩)
    ?assign ?body ?done ?stop
  case assign =>
    rintro l pre x W K ⟨⟨⟨v, bO1, bR1, _⟩, bN1⟩, hB1⟩ hK
    gi_wp2
    have hkb : ∀ v, Boxed W (w.heap.size + 1 + 1) 23 v → Boxed (W.alloc (.cells #[.int .i64 x.2.k, .int .i64 x.2.a, .int .i64 x.2.b, .int .i64 x.2.c] 34)) (w.heap.size + 1 + 1) 23 v := fun v b => b.alloc _
    exact hK _ _ ((KeepsOthers.alloc _ _).from _) ⟨(Below.refl _ W).alloc hB1.size _, hkb⟩ ⟨⟨⟨_, bO1.alloc _, bR1.alloc _, trivial⟩, hkb _ bN1⟩, hB1.alloc hB1.size _⟩ ⟨W.heap.size, bN1.lt, World.alloc_heap_new W _, rfl⟩
  case body =>
    rintro l pre x a' W hl ⟨r, hr⟩ ⟨⟨⟨v, bO1, bR1, _⟩, bN1⟩, hB1⟩ ⟨Bx, hBx, bX, rfl⟩ hlt
    have cO := bO1.cell
    have c0 : W.cell? ⟨Bx, 0, none⟩ = some (.int .i64 x.2.k) := by simp [World.cell?, bX]
    have c1 : W.cell? ⟨Bx, 1, none⟩ = some (.int .i64 x.2.a) := by simp [World.cell?, bX]
    have c2 : W.cell? ⟨Bx, 2, none⟩ = some (.int .i64 x.2.b) := by simp [World.cell?, bX]
    have c3 : W.cell? ⟨Bx, 3, none⟩ = some (.int .i64 x.2.c) := by simp [World.cell?, bX]
    gi_wp2_with (gi_at_builtin; refine wpListIn_append_own _ rfl _ _ 23 rfl w.heap.size 34 i0 (gvl ⟨0, 0, 0, 0⟩) 4 32 Try.underlying23 hi hz0 hz1 hz2 rfl (by decide) _ _ _ rfl (bR1.alloc _) ⟨W.heap.size, 0, none⟩ 1 1 [.int .i64 x.2.k, .int .i64 x.2.a, .int .i64 x.2.b, .int .i64 x.2.c] rfl rfl (cells4_new _ _ _ _ _ _) (by simp [Value.oneCell']) (by simp [maxLen]; omega) (by omega) (by have := hB1.size; simp; omega) ?_; intro v' w1 hown' hgrow _; obtain ⟨g', cap', rfl⟩ := ownsRow_succ hown'; obtain ⟨hv1, hv2, hr2, hk2, hb2⟩ := bO1.appended (by decide) bR1 hB1.size (by omega) hown' hgrow; have hc1 := hv1.cell; have hf1 := hv1.frozen)
    have hbk : ∀ v, Boxed W (w.heap.size + 1 + 1) 23 v → Boxed (w1.setCell ⟨w.heap.size + 1, 0, none⟩ (.slice (some ⟨g', 0, none⟩) (pre.length + 1) cap')) (w.heap.size + 1 + 1) 23 v := fun v b => ((b.alloc _).kept hgrow (b.not_row (by decide) bR1)).other (by omega) _
    exact ⟨hk2.from _, ⟨hb2, hbk⟩, ⟨⟨_, hv2, by simp only [List.map_append, List.length_append, ← cV_append]; exact hr2, trivial⟩, hbk _ bN1⟩, hB1.trans hb2⟩
  case done =>
    rintro D zs W hD rfl ⟨⟨⟨v, bO1, bR1, _⟩, bN1⟩, hB1⟩ hK
    have cO := bO1.cell
    gi_wp2
    refine ⟨by simp, .inl ⟨_, _, rfl, run_takeDeferred hK, ?_⟩⟩
    refine ⟨_, results_tmp rfl _ _ _, v, rfl, ?_, hB1.trans (belowK_b (w := w) (Nat.le_refl _) W D _ _ (by omega) hK rfl rfl)⟩
    have := ownsRow_putObj bR1 (.deferred none) hK rfl
    rwa [show (bwL len f len).length = len from upto_length _ _] at this
  case stop =>
    rintro D c pre W _ _ h _
    exact h.elim
/-- A call that lays one row of gates anew keeps a contract. -/
theorem kon_fresh {P : Program} {f : FuncId} {e : TypeId} {l r : List Gt} (hent : ∀ args w, (callFunc f args).run P w = .ok (.enter f args) w)
    (h : ∀ (w : World) (ok : Nat → Prop) (y : Value), (∀ b, ok b → b < w.heap.size) → RoRep w ok 4 l.length (cV l) y → Calls P f #[y] w fun en W' => ∃ v, en = .returned v ∧ W'.ownsRow w.heap.size e 4 v r.length (cV r) ∧ Below w.heap.size w W') :
    Kon P f [roA l] [] (slA 0 0 r) [rwE e r] [] := by
  refine ⟨cOf (fun _ : Unit => ([roA l], [])) (fun _ => (slA 0 0 r, [rwE e r], [])), ⟨hent, ?_⟩, cOf_at (A := fun _ : Unit => ([roA l], [])) (R := fun _ => (slA 0 0 r, [rwE e r], [])) (fun _ _ _ => rfl) ()⟩
  intro aa es out news es' hC w vs β N hN hs hvs
  obtain ⟨_, rfl, rfl, rfl, rfl, rfl⟩ := cOf_some hC
  have hv := (hs.env 0 (roA l) rfl).2
  obtain ⟨y, rfl⟩ : ∃ y, vs = #[y] := by
    obtain ⟨xs⟩ := vs
    match xs, hvs with
    | [y], _ => exact ⟨y, rfl⟩
  refine (h w _ y (fun b hb => hb.1) hv).mono ?_
  rintro en W' ⟨v, rfl, hown, hB⟩
  have hblk : ∀ b, blk? v = some b → b < W'.heap.size ∧ w.heap.size ≤ b := by
    intro b hb
    rcases hown.2 with ⟨rfl, _⟩ | ⟨g, cap, cur, rfl, hg, hgb, _⟩
    · cases hb
    · cases hb
      exact ⟨(Array.getElem?_eq_some_iff.1 hgb).1, hg⟩
  have hG : ∀ {i r1 e1}, Gout [rwE e r] [] i = some (r1, e1) → i = 0 ∧ r1 = 0 ∧ e1 = rwE e r := by
    intro i r1 e1 hi
    unfold Gout at hi
    split at hi
    · simp at hi
    · match i, hi with
      | 0, hi => simp at hi; exact ⟨rfl, hi.1.symm, hi.2.symm⟩
      | i + 1, hi => simp at hi
  obtain ⟨hown1, hown2⟩ := hown
  have hsl : ∃ A c, v = .slice A r.length c := by
    rcases hown2 with ⟨rfl, h0⟩ | ⟨g, cap, cur, rfl, _⟩
    · rw [h0]; exact ⟨_, _, rfl⟩
    · exact ⟨_, _, rfl⟩
  obtain ⟨A, c, rfl⟩ := hsl
  refine ⟨_, fun _ => .slice A r.length c, rfl, ?_, ?_, rfl, rfl, ?_⟩
  · refine { os := hB.os, tape := hB.tape, output := hB.output, size := hB.size, block := fun k hk _ => hB.block k hk, ents := ?_, apart := ?_, fresh := ?_, pin := ?_, wide := rfl, env := ?_ }
    · intro i r1 e1 hi
      obtain ⟨rfl, rfl, rfl⟩ := hG hi
      refine ⟨?_, e, r.length, fun x hx => by cases hx; rfl, hown1, ?_⟩
      · exact cV_one r
      · exact hown2.imp id fun ⟨g, cap, cur, h1, h2, h3, h4, h5, h6, h7⟩ => ⟨g, cap, cur, h1, Nat.zero_le _, h3, h4, h5, Nat.le_of_eq h6.symm, h7⟩
    · intro i j r1 e1 r2 e2 b hi _ hj _ _ _
      rw [(hG hi).1, (hG hj).1]
    · intro i r1 e1 b hi _ hb
      exact ⟨(hblk b hb).1, .inl (hblk b hb).2⟩
    · intro i e1 hi hg
      have := (hG hg).1
      omega
    · intro i a hi; cases hi
  · exact ⟨rfl, 0, rwE e r, rfl, Nat.le_refl _, fun _ => ⟨A, _, c, rfl, Nat.le_refl _, rfl⟩⟩
  · intro p hp
    simp [AV.refs, AG.refs, AC.refs] at hp
    subst hp
    exact ⟨_, rfl⟩
theorem bwL_rev (l : List Gt) : (bwL l.length (fun j => l.getD j Cel.no) l.length).map (·.2) = l.reverse := by
  apply List.ext_getElem
  · simp [bwL, upto_length]
  · intro i h1 h2
    have hi : i < l.length := by simpa using h2
    have h3 : l.length - 1 - i < l.length := by omega
    simp [bwL, upto, List.getElem_reverse, List.getD_eq_getElem?_getD, h3]
theorem k_backwards (l : List Gt) (hl : l.length ≤ 1000000) : Kon Try.prog 93 [roA l] [] (slA 0 0 l.reverse) [gRow l.reverse] [] := by
  refine kon_fresh (Go.Proofs.enters_of Try.func93 (by kernel_rfl) rfl) ?_
  rintro w ok y hok ⟨⟨hn, hone⟩, A, c, rfl, hc1, hc2, hcs⟩
  have hL : HoldsG w.heap.size w (.slice A l.length c) l.length (fun j => l.getD j Cel.no) := by
    rcases Nat.eq_zero_or_pos l.length with h0 | h0
    · exact .inl ⟨A, c, by rw [h0], h0⟩
    · obtain ⟨b, off, rfl, hb, hcell⟩ := hcs h0
      refine .inr ⟨b, off, c, rfl, hok b hb, fun j hj => ?_⟩
      have hx : ∀ (o : Nat) (v : Value), (Cel.f (l.getD j (Cel.no : Gt)))[o]? = some v → w.cell? ⟨b, off + j * 4 + o, none⟩ = some v := fun o v hv => by
        have := hcell _ _ (cV_cell hj hv)
        rwa [← Nat.add_assoc] at this
      exact ⟨hx 0 _ rfl, hx 1 _ rfl, hx 2 _ rfl, hx 3 _ rfl⟩
  refine (callsIn_wide.1 (back_in Fence.wide 3 trivial trivial trivial rfl (Nat.le_refl _) A l.length c _ hl w hL)).mono ?_
  rintro en W' ⟨v, rfl, hown, hB⟩
  rw [bwL_rev] at hown
  exact ⟨v, rfl, by rw [List.length_reverse]; exact hown, hB⟩
end Go.Proofs.Yteagoafamjbpbaa

/- slices.Delete of gates: elements cut out of an own row, in place. -/
namespace Go.Proofs.Yteagoafamjbpbaa
set_option linter.unusedVariables false
set_option linter.unusedSimpArgs false
open Go.RowKit Go.Shelf
end Go.Proofs.Yteagoafamjbpbaa

/- slices.Clone and slices.Concat of gates: fresh rows; a call of Concat with two rows as one step; elements cut out as a step. -/
namespace Go.Proofs.Yteagoafamjbpbaa
set_option linter.unusedVariables false
set_option linter.unusedSimpArgs false
open Go.RowKit Go.Shelf
theorem wpList_app_run {P : Program} {ops : Array Oper} {rest : List Oper} {o : Oper} {a : Act} {w w' : World} {v v1 v2 : Value} {Q : Exit → Act → World → Prop} (hgd : o.guard = none) (s x : Operand) (t : TypeId)
    (ho : o.op = .call { callee := .builtin .append, args := #[s, x], argTypes := #[t, t] }) (hs : a.eval s = v1) (hx : a.eval x = v2) (hrun : (Builtin.append_ #[t, t] o.type #[v1, v2]).run P w = .ok v w')
    (h : wpList P ops Q rest (a.put o.dst v) w') : wpList P ops Q (o :: rest) a w :=
  wpList_plain hgd fun _ hK => by
    unfold Oper.wp execOp
    simp only [ho, resolve, invoke, builtin, Sem.run_bind, Sem.run_pure, Result.andThen_ok, List.map_toArray, List.map_cons, List.map_nil, hs, hx, hrun]
    exact hK _ _ h
theorem wpList_app_run2 {P : Program} {ops : Array Oper} {rest : List Oper} {o : Oper} {a : Act} {w w' : World} {v v1 v2 : Value} {Q : Exit → Act → World → Prop} (hgd : o.guard = none) (s x : Operand) (t t2 : TypeId)
    (ho : o.op = .call { callee := .builtin .append, args := #[s, x], argTypes := #[t, t2] }) (hs : a.eval s = v1) (hx : a.eval x = v2) (hrun : (Builtin.append_ #[t, t2] o.type #[v1, v2]).run P w = .ok v w')
    (h : wpList P ops Q rest (a.put o.dst v) w') : wpList P ops Q (o :: rest) a w :=
  wpList_plain hgd fun _ hK => by
    unfold Oper.wp execOp
    simp only [ho, resolve, invoke, builtin, Sem.run_bind, Sem.run_pure, Result.andThen_ok, List.map_toArray, List.map_cons, List.map_nil, hs, hx, hrun]
    exact hK _ _ h
theorem ro_src {w : World} {A : Option Addr} {n c : Nat} {x : List Gt} (h : RoRep w (fun b => b < w.heap.size) 4 n (cV x) (.slice A n c)) {m : Nat} (hm : n = m) (h0 : 0 < n) : ∃ ad, A = some ad ∧ (∀ j u, (cV x)[j]? = some u → w.cell? (ad.add j) = some u) := by
  obtain ⟨⟨h1, h2⟩, A', c', e, h3, h4, h5⟩ := h
  cases e
  obtain ⟨b, off, rfl, hb, hc⟩ := h5 h0
  exact ⟨_, rfl, fun j u hj => by rw [Addr.add_lit]; exact hc j u hj⟩
/-- Gates laid behind an own row. -/
theorem app_src {w : World} {base : Nat} {v : Value} {n : Nat} {xs : List Value} {A : Option Addr} {m c : Nat} {l : List Gt} (hb : base ≤ w.heap.size) (hown : w.ownsRow base 34 4 v n xs) (h : RoRep w (fun b => b < w.heap.size) 4 m (cV l) (.slice A m c)) (hn : n ≤ 1000000) (hm : m ≤ 1000000) :
    ∃ v' w', (∀ ty, (Builtin.append_ #[23, 23] ty #[v, .slice A m c]).run Try.prog w = .ok v' w') ∧ w'.ownsRow base 34 4 v' (n + m) (xs ++ cV l) ∧ Below base w w' := by
  obtain ⟨i0, hi, hz0, hz1, hz2⟩ := info_parts infoG
  have hone := h.1.2
  have hlen := h.1.1
  have hu : Try.prog.underlying 23 = some (.slice 34) := Try.underlying23
  have hno : ∀ k, v.ownBlock = some k → base ≤ k := fun k hk => (hown.lt k hk).1
  cases A with
  | none =>
    have h0 : m = 0 := by
      rcases Nat.eq_zero_or_pos m with h0 | h0
      · exact h0
      · obtain ⟨ad, hA, _⟩ := ro_src h rfl h0
        cases hA
    subst h0
    have e : cV l = [] := List.eq_nil_of_length_eq_zero (by omega)
    rw [e]
    refine ⟨v, w, fun ty => ?_, by simpa using hown, Below.refl _ _⟩
    rcases hown.2 with ⟨rfl, rfl⟩ | ⟨g, cap, cur, rfl, _, _, hnc, _⟩
    · simp [Builtin.append_, run_underlying hu, sizeOf, typeInfo, hi, Builtin.lenOf, Builtin.firstCells]
    · simp [Builtin.append_, run_underlying hu, sizeOf, typeInfo, hi, Builtin.lenOf, Builtin.firstCells, hnc, storeCells]
  | some ad =>
    have hcells : ∀ j u, (cV l)[j]? = some u → w.cell? (ad.add j) = some u := by
      rcases Nat.eq_zero_or_pos m with h0 | h0
      · subst h0
        have e : cV l = [] := List.eq_nil_of_length_eq_zero (by omega)
        intro j u hj
        rw [e] at hj; cases hj
      · obtain ⟨ad', e, h⟩ := ro_src h rfl h0
        cases e
        exact h
    obtain ⟨v', w', k1, k2, k3, _, k5⟩ := run_append_own_at (P := Try.prog) w base 23 23 34 i0 _ 4 32 hu hi hz0 hz1 hz2 rfl (by decide) v n xs hown ad m c (cV l) hlen hcells (fun u hu => List.all_eq_true.1 hone u hu) (by unfold maxLen; omega) (by omega) hb
    exact ⟨v', w', fun ty => k1, k2, k3.os, k3.tape, k3.output, k3.size, fun k hk => k3.block k (by omega) (fun e => by have := hno k e.symm; omega)⟩
set_option maxRecDepth 100000 in
theorem grow_w (n : Nat) (w : World) (hn : n ≤ 2000000) :
    Calls Try.prog 123 #[.slice none 0 0, .int .i64 n] w fun e W' => ∃ v, e = .returned v ∧ W'.ownsRow w.heap.size 34 4 v 0 [] ∧ Below w.heap.size w W' := by
  have mixed0 := mixed
  have h1 : ¬ ((n : Int) < 0) := by omega
  rcases Nat.eq_zero_or_pos n with h0 | h0
  · subst h0
    go_enter Try.func123, Try.ntmps123
    go_wp2
    go_ret
    exact ⟨_, rfl, World.ownsRow_nil _ _ _ _, Below.refl _ _⟩
  · obtain ⟨i0, hi, hz0, hz1, hz2⟩ := info_parts infoG
    have hrz : ∀ ty, (Builtin.append_ #[23, 3] ty #[.slice none 0 0, .int .i64 n]).run Try.prog w = _ := fun ty =>
      Lib.run_append_nil_zeros (P := Try.prog) w 23 3 ty 34 i0 _ .i64 .i64 Try.underlying23 Try.underlying3 hi hz0 n h0 (by rw [hz1]; decide) (by omega) (by rw [hz2]; omega)
    have hGn : n ≤ grownCap w n 0 34 := grownCap_ge w _ _ _
    have hGm := grownCap_le_maxLen w n 0 34 (by unfold maxLen; omega)
    obtain ⟨G, hG⟩ : ∃ G, G = grownCap w n 0 34 := ⟨_, rfl⟩
    rw [← hG] at hrz hGn hGm
    obtain ⟨cs, hcs⟩ : ∃ cs, cs = Builtin.zeroCells (gvl ⟨0, 0, 0, 0⟩).cells n ++ Builtin.zeroCells (gvl ⟨0, 0, 0, 0⟩).cells (G - n) := ⟨_, rfl⟩
    rw [← hcs] at hrz
    have hsz : cs.size = G * 4 := by
      rw [hcs, Array.size_append, size_zeroCells, size_zeroCells]
      have e : (gvl ⟨0, 0, 0, 0⟩).cells.size = 4 := rfl
      rw [e]; omega
    have hown : (w.drew.alloc (.cells cs 34)).ownsRow w.heap.size 34 4 (.slice (some ⟨w.heap.size, 0, none⟩) 0 G) 0 [] := ⟨rfl, .inr ⟨w.heap.size, G, cs, rfl, Nat.le_refl _, World.alloc_heap_new w.drew _, Nat.zero_le _, hGm, hsz, rfl⟩⟩
    have hbel : Below w.heap.size w (w.drew.alloc (.cells cs 34)) := (show Below w.heap.size w w.drew from ⟨rfl, rfl, rfl, Nat.le_refl _, fun _ _ => rfl⟩).alloc (Nat.le_refl _) _
    have hG63 : G ≤ 9223372036854775807 := by unfold maxLen at hGm; omega
    clear hG hcs hsz
    replace hrz := Hid.mk hrz
    go_enter Try.func123, Try.ntmps123
    go_wp2_with (at_builtin; refine wpList_app_run2 rfl (.tmp 20) (.tmp 21) 23 3 rfl rfl rfl (hrz.out _) ?_)
    go_ret
    exact ⟨_, rfl, hown, hbel⟩
end Go.Proofs.Yteagoafamjbpbaa

/- slices.Concat of two rows of gates, walked. -/
namespace Go.Proofs.Yteagoafamjbpbaa
set_option linter.unusedVariables false
set_option linter.unusedSimpArgs false
open Go.RowKit Go.Shelf
theorem cellOf {w : World} {g j : Nat} {cs : Array Value} {t : TypeId} {fr : Nat × Nat} {v : Value} (h : w.heap[g]? = some (.cells cs t fr)) (hv : cs[j]? = some v) : w.cell? ⟨g, j, none⟩ = some v := by
  rw [cell_of_row w g j cs t fr h]; exact hv
set_option maxRecDepth 100000 in
set_option maxHeartbeats 2000000 in
theorem concat_w (g : Nat) (x y : List Gt) (A1 A2 : Option Addr) (c1 c2 : Nat) (w : World) (hg : w.heap[g]? = some (.cells #[.slice A1 x.length c1, .slice A2 y.length c2] 23 (0, 0)))
    (hx : RoRep w (fun b => b < w.heap.size) 4 x.length (cV x) (.slice A1 x.length c1)) (hy : RoRep w (fun b => b < w.heap.size) 4 y.length (cV y) (.slice A2 y.length c2)) (hxl : x.length ≤ 1000000) (hyl : y.length ≤ 1000000) :
    Calls Try.prog 95 #[.slice (some ⟨g, 0, none⟩) 2 2] w fun e W' => ∃ v, e = .returned v ∧ W'.ownsRow w.heap.size 34 4 v (x.length + y.length) (cV x ++ cV y) ∧ Below w.heap.size w W' := by
  have mixed0 := mixed
  have hlt : g < w.heap.size := (Array.getElem?_eq_some_iff.1 hg).1
  have q0 : w.cell? ⟨g, 0, none⟩ = some (.slice A1 x.length c1) := cellOf hg rfl
  have q1 : w.cell? ⟨g, 1, none⟩ = some (.slice A2 y.length c2) := cellOf hg rfl
  clear hg
  have hs1 : ¬ ((x.length : Int) < 0) := by omega
  have hs2 : ¬ ((x.length : Int) + (y.length : Int) < 0) := by omega
  have hmono : ∀ {W : World}, Below w.heap.size w W → ∀ {n : Nat} {l : List Value} {v : Value}, RoRep w (fun b => b < w.heap.size) 4 n l v → RoRep W (fun b => b < W.heap.size) 4 n l v := fun hB _ _ _ h => RoRep.mono (fun b hb => ⟨Nat.lt_of_lt_of_le hb hB.size, hB.block b hb⟩) h
  replace hx := Hid.mk hx
  replace hy := Hid.mk hy
  go_enter Try.func95, Try.ntmps95
  go_wp2
  refine wp_loop_rounds 3 ?_
  rw [rounds_succ]
  go_wp2
  rw [rounds_succ]
  go_wp2
  rw [rounds_succ]
  go_wp2_with (go_at_call 123; refine (grow_w (x.length + y.length) w (by omega)).mono ?_; rintro e W1 ⟨v1, rfl, o1, b1⟩)
  have p0 := (b1.cell (p := ⟨g, 0, none⟩) hlt).trans q0
  obtain ⟨v2, W2, k1, o2, b2⟩ := app_src b1.size o1 (hmono b1 hx.out) (Nat.zero_le _) hxl
  have b12 := b1.trans b2
  have p1 := (b12.cell (p := ⟨g, 1, none⟩) hlt).trans q1
  rw [Nat.zero_add, List.nil_append] at o2
  obtain ⟨v3, W3, k2, o3, b3⟩ := app_src b12.size o2 (hmono b12 hy.out) hxl hyl
  have b13 := b12.trans b3
  replace k1 := Hid.mk k1
  replace k2 := Hid.mk k2
  clear q0 q1 o1 o2 b2 b3
  go_wp2
  refine wp_loop_rounds 3 ?_
  rw [rounds_succ]
  go_wp2_with (at_builtin; refine wpList_app_run rfl (.tmp 31) (.tmp 32) 23 rfl rfl rfl (k1.out _) ?_)
  rw [rounds_succ]
  go_wp2_with (at_builtin; refine wpList_app_run rfl (.tmp 31) (.tmp 32) 23 rfl rfl rfl (k2.out _) ?_)
  rw [rounds_succ]
  go_wp2
  go_ret
  exact ⟨_, rfl, o3, b13⟩
end Go.Proofs.Yteagoafamjbpbaa

/- Two rows of gates put together as one step of the abstract run; elements cut out of an own row as a step; copies of gates. -/
namespace Go.Proofs.Yteagoafamjbpbaa
set_option linter.unusedVariables false
set_option linter.unusedSimpArgs false
open Go.RowKit
theorem info_S : (Try.prog.info? 23).map (fun i => (i.zero, i.size, i.bytes)) = some (some (.slice none 0 0), 1, 24) := by kernel_rfl
theorem build_2 (w : World) (A1 A2 : Option Addr) (n1 n2 c1 c2 : Nat) : (Instr.buildSlice 133 2 #[(0, .slice A1 n1 c1), (1, .slice A2 n2 c2)]).run Try.prog w = .ok (.slice (some ⟨w.heap.size, 0, none⟩) 2 2) (w.alloc (.cells #[.slice A1 n1 c1, .slice A2 n2 c2] 23)) := by
  obtain ⟨i0, hi, hz0, hz1, hz2⟩ := info_parts info_S
  have hs : (sizeOf 23).run Try.prog w = .ok 1 w := by simp [sizeOf, typeInfo, hi, hz1]
  have hz : (zeroValue 23).run Try.prog w = .ok (.slice none 0 0) w := by simp [zeroValue, typeInfo, hi, hz0]
  have g1 : Instr.fill (fun i => some (i * 1, 1)) ((Array.range 2).map ((Value.slice none 0 0).cells[· % (Value.slice none 0 0).cells.size]!)) [(0, .slice A1 n1 c1), (1, .slice A2 n2 c2)] = some #[.slice A1 n1 c1, .slice A2 n2 c2] := by kernel_rfl
  simp only [Instr.buildSlice, Sem.run_bind, run_underlying Try.underlying133, Result.andThen_ok, hs, Sem.run_pure, Sem.run_ite]
  rw [if_neg (by decide), if_neg (by decide)]
  simp only [Result.andThen_ok, hz, g1, Sem.run_bind, newRow, run_newObj, Sem.run_pure]
  rfl
theorem sim_alloc {w0 w : World} {M N : Nat → Prop} {b0 β : Nat → Value} {nt : Nat} {S : St} {tm : Array Value} (hs : Sim w0 M N b0 nt β S w tm) (o : Obj) : Sim w0 M N b0 nt β S (w.alloc o) tm :=
  (hs.change (w' := w.alloc o) (β' := β) (fun _ => False) S.G rfl rfl rfl (by simp) (fun j _ => ⟨rfl, rfl⟩) (fun j r e h => h.elim) (fun k hk _ => Below.heap_alloc w o k hk) (fun j r e b h => h.elim) (fun j h => h.elim) (fun i j r e r' e' b h => h.elim) (fun _ _ j r e h => h.elim)).1
theorem ro_lt {w : World} {ok : Nat → Prop} {n : Nat} {l : List Value} {v : Value} (hok : ∀ b, ok b → b < w.heap.size) (h : RoRep w ok 4 n l v) : RoRep w (fun b => b < w.heap.size) 4 n l v := RoRep.mono (fun b hb => ⟨hok b hb, rfl⟩) h
set_option maxRecDepth 100000 in
set_option maxHeartbeats 1000000 in
theorem wx_concat {S : St} {nt : Nat} {K : St → Prop} {x y : List Gt} {r d1 d2 tx ty ty1 ty2 ts : Nat} {pos pos2 : String} {af af2 : Array Edge} {ops : Array Oper} {rest : List Oper}
    (hd : (Nat.blt d1 nt && Nat.blt d2 nt && Nat.blt (nid d2 0) 100000) = true) (hx : S.E tx = some (roA x)) (hy : S.E ty = some (roA y)) (hl : x.length ≤ 1000000 ∧ y.length ≤ 1000000) (hr : nvO S (nid d2 0) = some r)
    (hk : WX Try.prog nt ops rest (((S.put d1 none).lay (nid d2 0) (some (r, gRow (x ++ y)))).put d2 (some (.g (.one (.sl (nid d2 0) r (x ++ y).length))))) K) :
    WX Try.prog nt ops (⟨some d1, .buildSlice 133 2 #[(0, .tmp tx), (1, .tmp ty)], ty1, pos, af, none⟩ :: ⟨some d2, .call { callee := .value (.func 95), args := #[.tmp d1], argTypes := #[ts] }, ty2, pos2, af2, none⟩ :: rest) S K := fun w0 M N b0 β w tm hs => by
  simp only [Bool.and_eq_true] at hd
  obtain ⟨⟨hd1, hd2⟩, hd3⟩ := hd
  have hd1 := blt_lt hd1
  have hd2 := blt_lt hd2
  have hd3 := blt_lt hd3
  have hx2 := ro_lt (fun b hb => hb.1) (hs.env tx _ hx).2
  have hy2 := ro_lt (fun b hb => hb.1) (hs.env ty _ hy).2
  have hx3 := hx2
  have hy3 := hy2
  obtain ⟨_, A1, c1, ex, _⟩ := hx3
  obtain ⟨_, A2, c2, ey, _⟩ := hy3
  rw [ex] at hx2
  rw [ey] at hy2
  refine wpList_plain rfl fun K1 hK1 => wp_value (v := .slice (some ⟨w.heap.size, 0, none⟩) 2 2) (w' := w.alloc (.cells #[.slice A1 x.length c1, .slice A2 y.length c2] 23)) ?_ (hK1 _ _ ?_)
  · unfold execOp
    have e1 : (#[(0, Operand.tmp tx), (1, Operand.tmp ty)] : Array (Nat × Operand)).map (fun (i, x) => (i, Act.eval ⟨tm, []⟩ x)) = #[(0, .slice A1 x.length c1), (1, .slice A2 y.length c2)] := by
      simp only [List.map_toArray, List.map_cons, List.map_nil]
      show #[(0, tm.getD tx undef), (1, tm.getD ty undef)] = _
      rw [ex, ey]
    simp only [Sem.run_bind, e1, build_2, Result.andThen_ok, Sem.run_pure]
  · obtain ⟨w1, hw1⟩ : ∃ w1, w1 = w.alloc (.cells #[.slice A1 x.length c1, .slice A2 y.length c2] 23) := ⟨_, rfl⟩
    have hg : w1.heap[w.heap.size]? = some (.cells #[.slice A1 x.length c1, .slice A2 y.length c2] 23 (0, 0)) := by rw [hw1]; exact World.alloc_heap_new w _
    have hB0 : ∀ b, b < w.heap.size → b < w1.heap.size ∧ w1.heap[b]? = w.heap[b]? := fun b hb => by rw [hw1]; exact ⟨by simp; omega, Below.heap_alloc w _ b hb⟩
    have hs1 := (sim_alloc hs (.cells #[.slice A1 x.length c1, .slice A2 y.length c2] 23)).del d1 (.slice (some ⟨w.heap.size, 0, none⟩) 2 2)
    rw [← hw1] at hs1 ⊢
    have hcall := concat_w w.heap.size x y A1 A2 c1 c2 w1 hg (RoRep.mono hB0 hx2) (RoRep.mono hB0 hy2) hl.1 hl.2
    refine wpList_plain rfl fun K2 hK2 => ?_
    have ev : Act.eval ⟨tm.setIfInBounds d1 (.slice (some ⟨w.heap.size, 0, none⟩) 2 2), []⟩ (.tmp d1) = .slice (some ⟨w.heap.size, 0, none⟩) 2 2 := by
      show (tm.setIfInBounds d1 _).getD d1 undef = _
      have : d1 < tm.size := by rw [hs.wide]; exact hd1
      simp [Array.getD_eq_getD_getElem?, this]
    have hent := Go.Proofs.enters_of Try.func95 (by kernel_rfl) rfl
    have hrun : (execOp (Act.eval ⟨tm.setIfInBounds d1 (.slice (some ⟨w.heap.size, 0, none⟩) 2 2), []⟩) ⟨some d2, .call { callee := .value (.func 95), args := #[.tmp d1], argTypes := #[ts] }, ty2, pos2, af2, none⟩).run Try.prog w1 = .ok (.enter 95 #[.slice (some ⟨w.heap.size, 0, none⟩) 2 2]) w1 := by
      unfold execOp
      have he : Act.eval ⟨tm.setIfInBounds d1 (.slice (some ⟨w.heap.size, 0, none⟩) 2 2), []⟩ (.func 95) = .func (.func 95) #[] #[] := rfl
      simp only [resolve, he, Deferred.ofValue, invoke, Sem.run_bind, Sem.run_pure, Result.andThen_ok, List.map_toArray, List.map_cons, List.map_nil, ev]
      simp [hent]
    unfold Oper.wp
    change Oper.upon Try.prog _ (⟨tm.setIfInBounds d1 (.slice (some ⟨w.heap.size, 0, none⟩) 2 2), []⟩ : Act) K2 _ ((execOp (Act.eval ⟨tm.setIfInBounds d1 (.slice (some ⟨w.heap.size, 0, none⟩) 2 2), []⟩) ⟨some d2, .call { callee := .value (.func 95), args := #[.tmp d1], argTypes := #[ts] }, ty2, pos2, af2, none⟩).run Try.prog w1)
    rw [hrun]
    refine Calls.mono hcall ?_
    rintro e W' ⟨v, rfl, hown, hB⟩
    have hown2 : ownR W' 34 4 v (x.length + y.length) (cV x ++ cV y) := ⟨hown.1, hown.2.imp id fun ⟨g, cap, cur, h1, h2, h3, h4, h5, h6, h7⟩ => ⟨g, cap, cur, h1, Nat.zero_le _, h3, h4, h5, Nat.le_of_eq h6.symm, h7⟩⟩
    have hblk : ∀ b, blk? v = some b → b < W'.heap.size ∧ w1.heap.size ≤ b := by
      intro b hb
      rcases hown.2 with ⟨rfl, _⟩ | ⟨g, cap, cur, rfl, hg, hgb, _⟩
      · cases hb
      · cases hb
        exact ⟨(Array.getElem?_eq_some_iff.1 hgb).1, hg⟩
    have hsl : ∃ A c, v = .slice A (x.length + y.length) c := by
      rcases hown.2 with ⟨rfl, h0⟩ | ⟨g, cap, cur, rfl, _⟩
      · rw [h0]; exact ⟨_, _, rfl⟩
      · exact ⟨_, _, rfl⟩
    have ecV : cV x ++ cV y = cV (x ++ y) := cV_append x y
    rw [ecV] at hown2
    have hver : ∀ r1 e1, (S.put d1 none).G (nid d2 0) = some (r1, e1) → r1 < r := by
      intro r1 e1 hg1
      unfold nvO at hr
      rw [show S.G (nid d2 0) = some (r1, e1) from hg1] at hr
      cases hr
      exact Nat.lt_succ_self _
    obtain ⟨β', h1, h2, h3, h4⟩ := hs1.change1 (w' := W') (nid d2 0) r (gRow (x ++ y)) v hB.os hB.tape hB.output hB.size
      (fun r1 e1 hg1 => by have := hver r1 e1 hg1; exact ⟨by omega, fun he => by omega⟩)
      (fun k hk _ => hB.block k hk) (fun b _ hb => ⟨(hblk b hb).1, .inl (hblk b hb).2⟩) (fun hge => by omega)
      (fun β' G' _ _ hok hold hβ => ⟨cV_one _, 34, x.length + y.length, fun z hz => by cases hz; rfl, by rw [hβ]; exact hown2⟩)
    obtain ⟨A, c, rfl⟩ := hsl
    have hlen : (x ++ y).length = x.length + y.length := List.length_append
    rw [hlen] at hk
    exact hK2 _ _ (hk w0 M N b0 β' W' _ (h1.put hd2 ⟨rfl, r, _, upd_same _ _ _, Nat.le_refl _, fun _ => ⟨A, x.length + y.length, c, h2, Nat.le_refl _, rfl⟩⟩))
end Go.Proofs.Yteagoafamjbpbaa
