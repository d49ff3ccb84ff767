/- KNF, KNG, KNH, KMA, KMB, KMC, KMD, KNI, KGV, PJ, PK, KCC, KBP, KNA, KNJ, KNK, KNL, KNM, KNN, KNO, KNP: laid into one text. -/
import Derived.Test.YtdihmpclbgbgpaaQFuncOfG
import Derived.Deep.RegionLaw
import Derived.Shelf.RegionOpenPlain
import Derived.Laws.CopyRow
import Derived.LoopN
import Derived.Lib.SliceRun
import Derived.Lib.AppendZeros

/- Formulas: compute, ComputeGates, FormBits, FormLines of the program; StepGates, ComputeGates of the reference. -/
namespace Go.Proofs.Ytdihmpclbgbgpaa
set_option linter.unusedVariables false
set_option linter.unusedSimpArgs false
set_option maxRecDepth 20000
open Go.RowKit
attribute [local irreducible] runA runX AW
theorem gq_KNF {H G : Prop} (k : H) (h : Hid H → G := by (intro hh; (first | (first | ((first | refine r_none ?_ | refine r_gt (by rfl) (by rfl) (by first | rfl | assumption | omega | (simp only [*, Bool.not_false, Bool.not_true]; first | done | fail) | (simp [*]; first | done | fail)) (by rfl) ?_ | refine r_gf (by rfl) (by rfl) (by first | rfl | assumption | omega | (simp only [*, Bool.not_false, Bool.not_true]; first | done | fail) | (simp [*]; first | done | fail)) (by rfl) ?_); (first | fail | ((first | (refine z_op (by rfl) ?_; first | refine z_ok ?_ ?_ | refine z_ex ?_ (by first | exact ft_raw rfl rfl | ((first | refine ft_rp rfl rfl rfl ?_ | refine ft_row rfl rfl rfl ?_ | refine ft_rpF rfl rfl rfl ?_ | refine ft_rowF rfl rfl rfl ?_ | refine up_row rfl rfl ?_ | refine up_rowF rfl rfl rfl ?_ | refine ct_0 rfl ?_ | refine ct_r rfl rfl ?_ | refine ct_c rfl rfl rfl ?_ | refine cu_all rfl ?_ | refine cu_to rfl ?_ | refine cu_from rfl ?_ | refine cu_p rfl ?_ | fail); (first | omega | (simp only [List.length_append, List.length_replicate, List.length_cons, List.length_nil, List.length_set, List.length_take, List.length_drop, true_and]; omega))) | exact up_raw rfl | exact pk_t (by first | rfl | assumption | omega | (simp only [*, Bool.not_false, Bool.not_true]; first | done | fail) | (simp [*]; first | done | fail)) rfl | exact pk_f (by first | rfl | assumption | omega | (simp only [*, Bool.not_false, Bool.not_true]; first | done | fail) | (simp [*]; first | done | fail)) rfl | exact rw_c Gt rfl | exact rw_raw | exact pu_cv (fun w => rfl) (by omega) | exact pu_of (fun w => rfl) rfl | exact be_of (fun w => rfl) | exact nc_of (fun _ _ _ _ => rfl) rfl | exact bu_of (fun w => rfl) rfl | fail) ?_) | ((first | refine q_callE wsT wsZ (by rfl) ?_ | refine q_callVE wsT (by rfl) (by rfl) ?_); refine ⟨_, _, _, (by first | assumption | exact k_wv _ _), _, by rfl, ?_, ?_⟩)); focus (first | exact trivial | fail | exact rfl | (first | omega | (simp only [List.length_append, List.length_replicate, List.length_cons, List.length_nil, List.length_set, List.length_take, List.length_drop, true_and]; omega)) | exact cvB (fun w => rfl) | ((repeat' (first | exact rfl | exact cV_len _ | exact cV_ln rfl (by omega) | exact Cel.pos | omega | exact trivial | refine And.intro ?_ ?_)); done) | (simp [*]; done) | (simp; omega))) | refine q_clip (by rfl) clipG (by first | exact trivial | omega | exact cvB (fun w => rfl) | ((repeat (any_goals (first | exact rfl | exact cV_len _ | exact cV_ln rfl (by omega) | exact Cel.pos | omega | exact trivial | refine And.intro ?_ ?_))); first | done | fail) | (simp [*]; first | done | fail)) ?_)) | refine r_nt (by rfl) (by rfl) (by first | rfl | assumption | omega | (simp only [*, Bool.not_false, Bool.not_true]; first | done | fail) | (simp [*]; first | done | fail)) (by rfl) ?_ | refine r_nf (by rfl) (by rfl) (by first | rfl | assumption | omega | (simp only [*, Bool.not_false, Bool.not_true]; first | done | fail) | (simp [*]; first | done | fail)) (by rfl) ?_ | refine r_gu (by rfl) (by rfl) (by rfl) ?_ | refine r_nil ?_) | (first | refine aw_seq ?_ | refine aw_ct (by rfl) (by first | rfl | assumption | omega | (simp only [*, Bool.not_false, Bool.not_true]; first | done | fail) | (simp [*]; first | done | fail)) ?_ | refine aw_cf (by rfl) (by first | rfl | assumption | omega | (simp only [*, Bool.not_false, Bool.not_true]; first | done | fail) | (simp [*]; first | done | fail)) ?_ | refine aw_block ?_ | refine aw_region T0ok cfU_ok (by rfl) ?_ | refine aw_skip ?_ | refine aw_exit ?_ | refine ra_step ?_)); (repeat (first | (first | ((first | refine r_none ?_ | refine r_gt (by rfl) (by rfl) (by first | rfl | assumption | omega | (simp only [*, Bool.not_false, Bool.not_true]; first | done | fail) | (simp [*]; first | done | fail)) (by rfl) ?_ | refine r_gf (by rfl) (by rfl) (by first | rfl | assumption | omega | (simp only [*, Bool.not_false, Bool.not_true]; first | done | fail) | (simp [*]; first | done | fail)) (by rfl) ?_); (first | fail | ((first | (refine z_op (by rfl) ?_; first | refine z_ok ?_ ?_ | refine z_ex ?_ (by first | exact ft_raw rfl rfl | ((first | refine ft_rp rfl rfl rfl ?_ | refine ft_row rfl rfl rfl ?_ | refine ft_rpF rfl rfl rfl ?_ | refine ft_rowF rfl rfl rfl ?_ | refine up_row rfl rfl ?_ | refine up_rowF rfl rfl rfl ?_ | refine ct_0 rfl ?_ | refine ct_r rfl rfl ?_ | refine ct_c rfl rfl rfl ?_ | refine cu_all rfl ?_ | refine cu_to rfl ?_ | refine cu_from rfl ?_ | refine cu_p rfl ?_ | fail); (first | omega | (simp only [List.length_append, List.length_replicate, List.length_cons, List.length_nil, List.length_set, List.length_take, List.length_drop, true_and]; omega))) | exact up_raw rfl | exact pk_t (by first | rfl | assumption | omega | (simp only [*, Bool.not_false, Bool.not_true]; first | done | fail) | (simp [*]; first | done | fail)) rfl | exact pk_f (by first | rfl | assumption | omega | (simp only [*, Bool.not_false, Bool.not_true]; first | done | fail) | (simp [*]; first | done | fail)) rfl | exact rw_c Gt rfl | exact rw_raw | exact pu_cv (fun w => rfl) (by omega) | exact pu_of (fun w => rfl) rfl | exact be_of (fun w => rfl) | exact nc_of (fun _ _ _ _ => rfl) rfl | exact bu_of (fun w => rfl) rfl | fail) ?_) | ((first | refine q_callE wsT wsZ (by rfl) ?_ | refine q_callVE wsT (by rfl) (by rfl) ?_); refine ⟨_, _, _, (by first | assumption | exact k_wv _ _), _, by rfl, ?_, ?_⟩)); focus (first | exact trivial | fail | exact rfl | (first | omega | (simp only [List.length_append, List.length_replicate, List.length_cons, List.length_nil, List.length_set, List.length_take, List.length_drop, true_and]; omega)) | exact cvB (fun w => rfl) | ((repeat' (first | exact rfl | exact cV_len _ | exact cV_ln rfl (by omega) | exact Cel.pos | omega | exact trivial | refine And.intro ?_ ?_)); done) | (simp [*]; done) | (simp; omega))) | refine q_clip (by rfl) clipG (by first | exact trivial | omega | exact cvB (fun w => rfl) | ((repeat (any_goals (first | exact rfl | exact cV_len _ | exact cV_ln rfl (by omega) | exact Cel.pos | omega | exact trivial | refine And.intro ?_ ?_))); first | done | fail) | (simp [*]; first | done | fail)) ?_)) | refine r_nt (by rfl) (by rfl) (by first | rfl | assumption | omega | (simp only [*, Bool.not_false, Bool.not_true]; first | done | fail) | (simp [*]; first | done | fail)) (by rfl) ?_ | refine r_nf (by rfl) (by rfl) (by first | rfl | assumption | omega | (simp only [*, Bool.not_false, Bool.not_true]; first | done | fail) | (simp [*]; first | done | fail)) (by rfl) ?_ | refine r_gu (by rfl) (by rfl) (by rfl) ?_ | refine r_nil ?_) | (first | refine aw_seq ?_ | refine aw_ct (by rfl) (by first | rfl | assumption | omega | (simp only [*, Bool.not_false, Bool.not_true]; first | done | fail) | (simp [*]; first | done | fail)) ?_ | refine aw_cf (by rfl) (by first | rfl | assumption | omega | (simp only [*, Bool.not_false, Bool.not_true]; first | done | fail) | (simp [*]; first | done | fail)) ?_ | refine aw_block ?_ | refine aw_region T0ok cfU_ok (by rfl) ?_ | refine aw_skip ?_ | refine aw_exit ?_ | refine ra_step ?_))); exact hh.out)) : G := h ⟨k⟩
theorem ga_KNF {H G : Prop} (k : H) (h : Hid H → G := by (intro hh; (first | refine r_none ?_ | refine r_gt (by rfl) (by rfl) (by first | rfl | assumption | omega | (simp only [*, Bool.not_false, Bool.not_true]; first | done | fail) | (simp [*]; first | done | fail)) (by rfl) ?_ | refine r_gf (by rfl) (by rfl) (by first | rfl | assumption | omega | (simp only [*, Bool.not_false, Bool.not_true]; first | done | fail) | (simp [*]; first | done | fail)) (by rfl) ?_); refine z_op (by rfl) ?_; refine z_al ?_ hh.out; focus (first | exact trivial | fail | exact rfl | (first | omega | (simp only [List.length_append, List.length_replicate, List.length_cons, List.length_nil, List.length_set, List.length_take, List.length_drop, true_and]; omega)) | exact cvB (fun w => rfl) | ((repeat' (first | exact rfl | exact cV_len _ | exact cV_ln rfl (by omega) | exact Cel.pos | omega | exact trivial | refine And.intro ?_ ?_)); done) | (simp [*]; done) | (simp; omega)))) : G := h ⟨k⟩
theorem gs_KNF {H G : Prop} (k : H) (h : Hid H → G := by (intro hh; (first | ((first | refine r_none ?_ | refine r_gt (by rfl) (by rfl) (by first | rfl | assumption | omega | (simp only [*, Bool.not_false, Bool.not_true]; first | done | fail) | (simp [*]; first | done | fail)) (by rfl) ?_ | refine r_gf (by rfl) (by rfl) (by first | rfl | assumption | omega | (simp only [*, Bool.not_false, Bool.not_true]; first | done | fail) | (simp [*]; first | done | fail)) (by rfl) ?_); (first | fail | ((first | (refine z_op (by rfl) ?_; first | refine z_ok ?_ ?_ | refine z_ex ?_ (by first | exact ft_raw rfl rfl | ((first | refine ft_rp rfl rfl rfl ?_ | refine ft_row rfl rfl rfl ?_ | refine ft_rpF rfl rfl rfl ?_ | refine ft_rowF rfl rfl rfl ?_ | refine up_row rfl rfl ?_ | refine up_rowF rfl rfl rfl ?_ | refine ct_0 rfl ?_ | refine ct_r rfl rfl ?_ | refine ct_c rfl rfl rfl ?_ | refine cu_all rfl ?_ | refine cu_to rfl ?_ | refine cu_from rfl ?_ | refine cu_p rfl ?_ | fail); (first | omega | (simp only [List.length_append, List.length_replicate, List.length_cons, List.length_nil, List.length_set, List.length_take, List.length_drop, true_and]; omega))) | exact up_raw rfl | exact pk_t (by first | rfl | assumption | omega | (simp only [*, Bool.not_false, Bool.not_true]; first | done | fail) | (simp [*]; first | done | fail)) rfl | exact pk_f (by first | rfl | assumption | omega | (simp only [*, Bool.not_false, Bool.not_true]; first | done | fail) | (simp [*]; first | done | fail)) rfl | exact rw_c Gt rfl | exact rw_raw | exact pu_cv (fun w => rfl) (by omega) | exact pu_of (fun w => rfl) rfl | exact be_of (fun w => rfl) | exact nc_of (fun _ _ _ _ => rfl) rfl | exact bu_of (fun w => rfl) rfl | fail) ?_) | ((first | refine q_callE wsT wsZ (by rfl) ?_ | refine q_callVE wsT (by rfl) (by rfl) ?_); refine ⟨_, _, _, (by first | assumption | exact k_wv _ _), _, by rfl, ?_, ?_⟩)); focus (first | exact trivial | fail | exact rfl | (first | omega | (simp only [List.length_append, List.length_replicate, List.length_cons, List.length_nil, List.length_set, List.length_take, List.length_drop, true_and]; omega)) | exact cvB (fun w => rfl) | ((repeat' (first | exact rfl | exact cV_len _ | exact cV_ln rfl (by omega) | exact Cel.pos | omega | exact trivial | refine And.intro ?_ ?_)); done) | (simp [*]; done) | (simp; omega))) | refine q_clip (by rfl) clipG (by first | exact trivial | omega | exact cvB (fun w => rfl) | ((repeat (any_goals (first | exact rfl | exact cV_len _ | exact cV_ln rfl (by omega) | exact Cel.pos | omega | exact trivial | refine And.intro ?_ ?_))); first | done | fail) | (simp [*]; first | done | fail)) ?_)) | refine r_nt (by rfl) (by rfl) (by first | rfl | assumption | omega | (simp only [*, Bool.not_false, Bool.not_true]; first | done | fail) | (simp [*]; first | done | fail)) (by rfl) ?_ | refine r_nf (by rfl) (by rfl) (by first | rfl | assumption | omega | (simp only [*, Bool.not_false, Bool.not_true]; first | done | fail) | (simp [*]; first | done | fail)) (by rfl) ?_ | refine r_gu (by rfl) (by rfl) (by rfl) ?_ | refine r_nil ?_); (repeat (first | ((first | refine r_none ?_ | refine r_gt (by rfl) (by rfl) (by first | rfl | assumption | omega | (simp only [*, Bool.not_false, Bool.not_true]; first | done | fail) | (simp [*]; first | done | fail)) (by rfl) ?_ | refine r_gf (by rfl) (by rfl) (by first | rfl | assumption | omega | (simp only [*, Bool.not_false, Bool.not_true]; first | done | fail) | (simp [*]; first | done | fail)) (by rfl) ?_); (first | fail | ((first | (refine z_op (by rfl) ?_; first | refine z_ok ?_ ?_ | refine z_ex ?_ (by first | exact ft_raw rfl rfl | ((first | refine ft_rp rfl rfl rfl ?_ | refine ft_row rfl rfl rfl ?_ | refine ft_rpF rfl rfl rfl ?_ | refine ft_rowF rfl rfl rfl ?_ | refine up_row rfl rfl ?_ | refine up_rowF rfl rfl rfl ?_ | refine ct_0 rfl ?_ | refine ct_r rfl rfl ?_ | refine ct_c rfl rfl rfl ?_ | refine cu_all rfl ?_ | refine cu_to rfl ?_ | refine cu_from rfl ?_ | refine cu_p rfl ?_ | fail); (first | omega | (simp only [List.length_append, List.length_replicate, List.length_cons, List.length_nil, List.length_set, List.length_take, List.length_drop, true_and]; omega))) | exact up_raw rfl | exact pk_t (by first | rfl | assumption | omega | (simp only [*, Bool.not_false, Bool.not_true]; first | done | fail) | (simp [*]; first | done | fail)) rfl | exact pk_f (by first | rfl | assumption | omega | (simp only [*, Bool.not_false, Bool.not_true]; first | done | fail) | (simp [*]; first | done | fail)) rfl | exact rw_c Gt rfl | exact rw_raw | exact pu_cv (fun w => rfl) (by omega) | exact pu_of (fun w => rfl) rfl | exact be_of (fun w => rfl) | exact nc_of (fun _ _ _ _ => rfl) rfl | exact bu_of (fun w => rfl) rfl | fail) ?_) | ((first | refine q_callE wsT wsZ (by rfl) ?_ | refine q_callVE wsT (by rfl) (by rfl) ?_); refine ⟨_, _, _, (by first | assumption | exact k_wv _ _), _, by rfl, ?_, ?_⟩)); focus (first | exact trivial | fail | exact rfl | (first | omega | (simp only [List.length_append, List.length_replicate, List.length_cons, List.length_nil, List.length_set, List.length_take, List.length_drop, true_and]; omega)) | exact cvB (fun w => rfl) | ((repeat' (first | exact rfl | exact cV_len _ | exact cV_ln rfl (by omega) | exact Cel.pos | omega | exact trivial | refine And.intro ?_ ?_)); done) | (simp [*]; done) | (simp; omega))) | refine q_clip (by rfl) clipG (by first | exact trivial | omega | exact cvB (fun w => rfl) | ((repeat (any_goals (first | exact rfl | exact cV_len _ | exact cV_ln rfl (by omega) | exact Cel.pos | omega | exact trivial | refine And.intro ?_ ?_))); first | done | fail) | (simp [*]; first | done | fail)) ?_)) | refine r_nt (by rfl) (by rfl) (by first | rfl | assumption | omega | (simp only [*, Bool.not_false, Bool.not_true]; first | done | fail) | (simp [*]; first | done | fail)) (by rfl) ?_ | refine r_nf (by rfl) (by rfl) (by first | rfl | assumption | omega | (simp only [*, Bool.not_false, Bool.not_true]; first | done | fail) | (simp [*]; first | done | fail)) (by rfl) ?_ | refine r_gu (by rfl) (by rfl) (by rfl) ?_ | refine r_nil ?_)); exact hh.out)) : G := h ⟨k⟩
theorem gc_KNF {H G : Prop} (k : H) (h : Hid H → G := by (intro hh; (first | refine aw_seq ?_ | refine aw_ct (by rfl) (by first | rfl | assumption | omega | (simp only [*, Bool.not_false, Bool.not_true]; first | done | fail) | (simp [*]; first | done | fail)) ?_ | refine aw_cf (by rfl) (by first | rfl | assumption | omega | (simp only [*, Bool.not_false, Bool.not_true]; first | done | fail) | (simp [*]; first | done | fail)) ?_ | refine aw_block ?_ | refine aw_region T0ok cfU_ok (by rfl) ?_ | refine aw_skip ?_ | refine aw_exit ?_ | refine ra_step ?_); (repeat (first | refine aw_seq ?_ | refine aw_ct (by rfl) (by first | rfl | assumption | omega | (simp only [*, Bool.not_false, Bool.not_true]; first | done | fail) | (simp [*]; first | done | fail)) ?_ | refine aw_cf (by rfl) (by first | rfl | assumption | omega | (simp only [*, Bool.not_false, Bool.not_true]; first | done | fail) | (simp [*]; first | done | fail)) ?_ | refine aw_block ?_ | refine aw_region T0ok cfU_ok (by rfl) ?_ | refine aw_skip ?_ | refine aw_exit ?_ | refine ra_step ?_)); exact hh.out)) : G := h ⟨k⟩
theorem k_sgI (s : Stp) (L : Int) (h : SOk L s) (hL : L ≤ 7) : Kon Try.prog 86 [stV s, vI L] [] (slA 0 0 (sg s L)) [gRow (sg s L)] [] := by
  have h4 : s.o = 0 ∨ s.o = 1 ∨ s.o = 2 ∨ s.o = 3 := by have := h.1; omega
  rcases h4 with h0 | h0 | h0 | h0
  · exact k_sg0 s L h0 h hL
  · exact k_sg1 s L h0 h hL
  · exact k_sg2 s L h0 h hL
  · exact k_sg3 s L h0 h hL
theorem k_compute (n : Int) (l : List Stp) (h : fok n l = true) : Kon Try.prog 48 [vI n, roA l] [] (slA 0 0 (cg n l l.length)) [gRow (cg n l l.length)] [] := by
  obtain ⟨hn, hl, hst⟩ := fok_t h
  clear h
  (refine kon_mk T0ok (fn := Try.f48) (c := Try.f48.body.get rfl) Try.func48 rfl (by rfl) (by rfl) (by rfl) ?_; intro hfit hfe)
  (repeat (first | refine gq_KNF ?_ | (refine ga_KNF ?_; intro _q ⟨_he, _hq⟩)))
  (refine aw_rd [0, 1, 4, 9, 10] [] (fun i : Nat => [(5, .g (.one (.sl 128 i (cg n l i).length))), (11, vI i)]) (fun i => [(128, (i, gRow (cg n l i)))]) (fun i => i ≤ l.length) (fun i => l.length - i) 0 (by rfl) (by rfl) ?_ (by rfl) (by repeat (first | exact trivial | refine ⟨by rfl, ?_⟩ | refine ⟨vI_of (by rfl) (by omega), ?_⟩)) (by repeat (first | exact trivial | refine ⟨by rfl, ?_⟩ | refine ⟨vI_of (by rfl) (by omega), ?_⟩)) ?_)
  · exact Nat.zero_le _
  rintro i hi
  have hcl := cg_len n l i
  rcases Nat.lt_or_ge i l.length with h6 | h6
  · have hd : decide ((i : Int) < (l.length : Int)) = true := decide_eq_true (by omega)
    have hsk := hst i h6
    have hN := k_sgI _ _ hsk (by omega)
    have hsl := sg_len (l.getD i Cel.no) (n + (i : Int))
    have e : cg n l (i + 1) = cg n l i ++ sg (l.getD i Cel.no) (n + (i : Int)) := rfl
    obtain ⟨s, hs⟩ : ∃ s, l.getD (i : Int).toNat (Cel.no : Stp) = s := ⟨_, rfl⟩
    have hs' : l.getD i Cel.no = s := hs
    rw [hs'] at hN e hsl
    generalize sg s (n + (i : Int)) = G at *
    (repeat refine gc_KNF ?_)
    (repeat (first | refine gs_KNF ?_ | (refine ga_KNF ?_; intro _q ⟨_he, _hq⟩)))
    (repeat refine gc_KNF ?_)
    (repeat (first | refine gs_KNF ?_ | (refine ga_KNF ?_; intro _q ⟨_he, _hq⟩)))
    rw [hs]
    (repeat (first | refine gq_KNF ?_ | (refine ga_KNF ?_; intro _q ⟨_he, _hq⟩)))
    refine ⟨i + 1, h6, ?_, (by first | omega | (dsimp only; omega))⟩
    dsimp only
    rw [e]
    exact ⟨by rfl, ⟨by rfl, (by repeat (first | exact trivial | refine ⟨by rfl, ?_⟩ | refine ⟨vI_of (by rfl) (by omega), ?_⟩))⟩, (by repeat (first | exact trivial | refine ⟨by rfl, ?_⟩ | refine ⟨vI_of (by rfl) (by omega), ?_⟩))⟩
  · obtain rfl : i = l.length := by omega
    have hd : decide ((l.length : Int) < (l.length : Int)) = false := decide_eq_false (by omega)
    have hcv : (cV (cg n l l.length)).length = (cg n l l.length).length * Cel.sz Gt := cV_len _
    (repeat (first | refine gq_KNF ?_ | (refine ga_KNF ?_; intro _q ⟨_he, _hq⟩)))
    ((try refine aw_ret ?_); refine ret_auto2 (by rfl) (by rfl) (by rfl) (by repeat (first | exact trivial | refine ⟨by first | rfl | omega, ?_⟩)) ?_ (by repeat (first | exact trivial | refine ⟨by rfl, by rfl, ?_⟩)) (by repeat (first | exact trivial | refine ⟨by rfl, by rfl, ?_⟩)); try rfl)
theorem k_fl (n : Int) (l : List Stp) (h : fok n l = true) : Kon Try.prog 15 [vI n, roA l] [] (vI (n + (l.length : Int) + 1)) [] [] := by
  obtain ⟨hn, hl, hst⟩ := fok_t h
  have hF := k_fv n l (by omega) (by omega)
  rw [h] at hF
  (refine kon_mk T0ok (fn := Try.f15) (c := Try.f15.body.get rfl) Try.func15 rfl (by rfl) (by rfl) (by rfl) ?_; intro hfit hfe)
  (repeat (first | refine gq_KNF ?_ | (refine ga_KNF ?_; intro _q ⟨_he, _hq⟩)))
  ((try refine aw_ret ?_); refine ret_auto2 (by rfl) (by rfl) (by rfl) (by repeat (first | exact trivial | refine ⟨by first | rfl | omega, ?_⟩)) ?_ (by repeat (first | exact trivial | refine ⟨by rfl, by rfl, ?_⟩)) (by repeat (first | exact trivial | refine ⟨by rfl, by rfl, ?_⟩)); try rfl)
theorem k_fb (N : Nat) (l : List Stp) (w : Int) (h : fok (N : Int) l = true) (hw : 0 ≤ w ∧ w < 2 ^ (N : Int).toNat) : Kon Try.prog 16 [vI (N : Int), roA l, vI w] [] (slA 0 0 ((bsF (N : Int) l w l.length).drop N)) [iRow ((bsF (N : Int) l w l.length).drop N)] [] := by
  obtain ⟨hn, hl, hst⟩ := fok_t h
  have hF := k_fv (N : Int) l (by omega) (by omega)
  rw [h] at hF
  have hB := k_bitsFor N l w h hw
  have hW := k_wv (N : Int) w
  rw [wv_of (by omega) hw] at hW
  (refine kon_mk T0ok (fn := Try.f16) (c := Try.f16.body.get rfl) Try.func16 rfl (by rfl) (by rfl) (by rfl) ?_; intro hfit hfe)
  (repeat (first | refine gq_KNF ?_ | (refine ga_KNF ?_; intro _q ⟨_he, _hq⟩)))
  ((try refine aw_ret ?_); refine ret_auto2 (by rfl) (by rfl) (by rfl) (by repeat (first | exact trivial | refine ⟨by first | rfl | omega, ?_⟩)) ?_ (by repeat (first | exact trivial | refine ⟨by rfl, by rfl, ?_⟩)) (by repeat (first | exact trivial | refine ⟨by rfl, by rfl, ?_⟩)); try rfl)
end Go.Proofs.Ytdihmpclbgbgpaa

/- Formulas are drawn. -/
namespace Go.Proofs.Ytdihmpclbgbgpaa
set_option linter.unusedVariables false
set_option linter.unusedSimpArgs false
set_option maxRecDepth 20000
open Go.RowKit
attribute [local irreducible] runA runX AW
theorem gq_KNG {H G : Prop} (k : H) (h : Hid H → G := by (intro hh; (first | (first | ((first | refine r_none ?_ | refine r_gt (by rfl) (by rfl) (by first | rfl | assumption | omega | (simp only [*, Bool.not_false, Bool.not_true]; first | done | fail) | (simp [*]; first | done | fail)) (by rfl) ?_ | refine r_gf (by rfl) (by rfl) (by first | rfl | assumption | omega | (simp only [*, Bool.not_false, Bool.not_true]; first | done | fail) | (simp [*]; first | done | fail)) (by rfl) ?_); (first | fail | ((first | (refine z_op (by rfl) ?_; first | refine z_ok ?_ ?_ | refine z_ex ?_ (by first | exact ft_raw rfl rfl | ((first | refine ft_rp rfl rfl rfl ?_ | refine ft_row rfl rfl rfl ?_ | refine ft_rpF rfl rfl rfl ?_ | refine ft_rowF rfl rfl rfl ?_ | refine up_row rfl rfl ?_ | refine up_rowF rfl rfl rfl ?_ | refine ct_0 rfl ?_ | refine ct_r rfl rfl ?_ | refine ct_c rfl rfl rfl ?_ | refine cu_all rfl ?_ | refine cu_to rfl ?_ | refine cu_from rfl ?_ | refine cu_p rfl ?_ | fail); (first | omega | (simp only [List.length_append, List.length_replicate, List.length_cons, List.length_nil, List.length_set, List.length_take, List.length_drop, true_and]; omega))) | exact up_raw rfl | exact pk_t (by first | rfl | assumption | omega | (simp only [*, Bool.not_false, Bool.not_true]; first | done | fail) | (simp [*]; first | done | fail)) rfl | exact pk_f (by first | rfl | assumption | omega | (simp only [*, Bool.not_false, Bool.not_true]; first | done | fail) | (simp [*]; first | done | fail)) rfl | (first | exact rw_c Stp rfl | exact rw_c Int rfl) | exact rw_raw | exact pu_cv (fun w => rfl) (by omega) | exact pu_of (fun w => rfl) rfl | exact be_of (fun w => rfl) | exact nc_of (fun _ _ _ _ => rfl) rfl | exact bu_of (fun w => rfl) rfl | fail) ?_) | ((first | refine q_callE wsT wsZ (by rfl) ?_ | refine q_callVE wsT (by rfl) (by rfl) ?_); refine ⟨_, _, _, (by first | assumption | exact k_pick _ _ _ (by omega) | exact k_odd0 _ _ _ (by omega) | exact k_odd _ _ _ (by omega)), _, by rfl, ?_, ?_⟩)); focus (first | exact trivial | fail | exact rfl | (first | omega | (simp only [List.length_append, List.length_replicate, List.length_cons, List.length_nil, List.length_set, List.length_take, List.length_drop, true_and]; omega)) | exact cvB (fun w => rfl) | ((repeat' (first | exact rfl | exact cV_len _ | exact cV_ln rfl (by omega) | exact Cel.pos | omega | exact trivial | refine And.intro ?_ ?_)); done) | (simp [*]; done) | (simp; omega))) | fail)) | refine r_nt (by rfl) (by rfl) (by first | rfl | assumption | omega | (simp only [*, Bool.not_false, Bool.not_true]; first | done | fail) | (simp [*]; first | done | fail)) (by rfl) ?_ | refine r_nf (by rfl) (by rfl) (by first | rfl | assumption | omega | (simp only [*, Bool.not_false, Bool.not_true]; first | done | fail) | (simp [*]; first | done | fail)) (by rfl) ?_ | refine r_gu (by rfl) (by rfl) (by rfl) ?_ | refine r_nil ?_) | (first | refine aw_seq ?_ | refine aw_ct (by rfl) (by first | rfl | assumption | omega | (simp only [*, Bool.not_false, Bool.not_true]; first | done | fail) | (simp [*]; first | done | fail)) ?_ | refine aw_cf (by rfl) (by first | rfl | assumption | omega | (simp only [*, Bool.not_false, Bool.not_true]; first | done | fail) | (simp [*]; first | done | fail)) ?_ | refine aw_block ?_ | refine aw_region T0ok cfU_ok (by rfl) ?_ | refine aw_skip ?_ | refine aw_exit ?_ | refine ra_step ?_)); (repeat (first | (first | ((first | refine r_none ?_ | refine r_gt (by rfl) (by rfl) (by first | rfl | assumption | omega | (simp only [*, Bool.not_false, Bool.not_true]; first | done | fail) | (simp [*]; first | done | fail)) (by rfl) ?_ | refine r_gf (by rfl) (by rfl) (by first | rfl | assumption | omega | (simp only [*, Bool.not_false, Bool.not_true]; first | done | fail) | (simp [*]; first | done | fail)) (by rfl) ?_); (first | fail | ((first | (refine z_op (by rfl) ?_; first | refine z_ok ?_ ?_ | refine z_ex ?_ (by first | exact ft_raw rfl rfl | ((first | refine ft_rp rfl rfl rfl ?_ | refine ft_row rfl rfl rfl ?_ | refine ft_rpF rfl rfl rfl ?_ | refine ft_rowF rfl rfl rfl ?_ | refine up_row rfl rfl ?_ | refine up_rowF rfl rfl rfl ?_ | refine ct_0 rfl ?_ | refine ct_r rfl rfl ?_ | refine ct_c rfl rfl rfl ?_ | refine cu_all rfl ?_ | refine cu_to rfl ?_ | refine cu_from rfl ?_ | refine cu_p rfl ?_ | fail); (first | omega | (simp only [List.length_append, List.length_replicate, List.length_cons, List.length_nil, List.length_set, List.length_take, List.length_drop, true_and]; omega))) | exact up_raw rfl | exact pk_t (by first | rfl | assumption | omega | (simp only [*, Bool.not_false, Bool.not_true]; first | done | fail) | (simp [*]; first | done | fail)) rfl | exact pk_f (by first | rfl | assumption | omega | (simp only [*, Bool.not_false, Bool.not_true]; first | done | fail) | (simp [*]; first | done | fail)) rfl | (first | exact rw_c Stp rfl | exact rw_c Int rfl) | exact rw_raw | exact pu_cv (fun w => rfl) (by omega) | exact pu_of (fun w => rfl) rfl | exact be_of (fun w => rfl) | exact nc_of (fun _ _ _ _ => rfl) rfl | exact bu_of (fun w => rfl) rfl | fail) ?_) | ((first | refine q_callE wsT wsZ (by rfl) ?_ | refine q_callVE wsT (by rfl) (by rfl) ?_); refine ⟨_, _, _, (by first | assumption | exact k_pick _ _ _ (by omega) | exact k_odd0 _ _ _ (by omega) | exact k_odd _ _ _ (by omega)), _, by rfl, ?_, ?_⟩)); focus (first | exact trivial | fail | exact rfl | (first | omega | (simp only [List.length_append, List.length_replicate, List.length_cons, List.length_nil, List.length_set, List.length_take, List.length_drop, true_and]; omega)) | exact cvB (fun w => rfl) | ((repeat' (first | exact rfl | exact cV_len _ | exact cV_ln rfl (by omega) | exact Cel.pos | omega | exact trivial | refine And.intro ?_ ?_)); done) | (simp [*]; done) | (simp; omega))) | fail)) | refine r_nt (by rfl) (by rfl) (by first | rfl | assumption | omega | (simp only [*, Bool.not_false, Bool.not_true]; first | done | fail) | (simp [*]; first | done | fail)) (by rfl) ?_ | refine r_nf (by rfl) (by rfl) (by first | rfl | assumption | omega | (simp only [*, Bool.not_false, Bool.not_true]; first | done | fail) | (simp [*]; first | done | fail)) (by rfl) ?_ | refine r_gu (by rfl) (by rfl) (by rfl) ?_ | refine r_nil ?_) | (first | refine aw_seq ?_ | refine aw_ct (by rfl) (by first | rfl | assumption | omega | (simp only [*, Bool.not_false, Bool.not_true]; first | done | fail) | (simp [*]; first | done | fail)) ?_ | refine aw_cf (by rfl) (by first | rfl | assumption | omega | (simp only [*, Bool.not_false, Bool.not_true]; first | done | fail) | (simp [*]; first | done | fail)) ?_ | refine aw_block ?_ | refine aw_region T0ok cfU_ok (by rfl) ?_ | refine aw_skip ?_ | refine aw_exit ?_ | refine ra_step ?_))); exact hh.out)) : G := h ⟨k⟩
theorem ga_KNG {H G : Prop} (k : H) (h : Hid H → G := by (intro hh; (first | refine r_none ?_ | refine r_gt (by rfl) (by rfl) (by first | rfl | assumption | omega | (simp only [*, Bool.not_false, Bool.not_true]; first | done | fail) | (simp [*]; first | done | fail)) (by rfl) ?_ | refine r_gf (by rfl) (by rfl) (by first | rfl | assumption | omega | (simp only [*, Bool.not_false, Bool.not_true]; first | done | fail) | (simp [*]; first | done | fail)) (by rfl) ?_); refine z_op (by rfl) ?_; refine z_alV ?_ hh.out; focus (first | exact trivial | fail | exact rfl | (first | omega | (simp only [List.length_append, List.length_replicate, List.length_cons, List.length_nil, List.length_set, List.length_take, List.length_drop, true_and]; omega)) | exact cvB (fun w => rfl) | ((repeat' (first | exact rfl | exact cV_len _ | exact cV_ln rfl (by omega) | exact Cel.pos | omega | exact trivial | refine And.intro ?_ ?_)); done) | (simp [*]; done) | (simp; omega)))) : G := h ⟨k⟩
theorem ex_inputs (l : List UInt8) (c n : Int) (h : 0 ≤ c ∧ c ≤ 900000 ∧ l.length ≤ 2000) (hn : 0 < n ∧ n ≤ 1000) : ∃ (v c' : Int), (0 ≤ v ∧ v ≤ 4) ∧ (c ≤ c' ∧ c' ≤ c + 2) ∧ Kon Try.prog 85 [p0, vI n] [rdE l c] (vI v) [] [rdE l c'] := by
  cases h1 : (pickI l c n == n - 1) with
  | false =>
    have h2 := pickI_lt (l := l) (c := c + 1) (n := 3) (by omega)
    refine ⟨1 + pickI l (c + 1) 3, c + 1 + 1, by omega, by omega, ?_⟩
    (refine kon_mk T0ok (fn := Try.f85) (c := Try.f85.body.get rfl) Try.func85 rfl (by rfl) (by rfl) (by rfl) ?_; intro hfit hfe)
    (repeat (first | refine gq_KNG ?_ | (refine ga_KNG ?_; intro _hq)))
    ((try refine aw_ret ?_); refine ret_auto2 (by rfl) (by rfl) (by rfl) (by repeat (first | exact trivial | refine ⟨by first | rfl | omega, ?_⟩)) ?_ (by repeat (first | exact trivial | refine ⟨by rfl, by rfl, ?_⟩)) (by repeat (first | exact trivial | refine ⟨by rfl, by rfl, ?_⟩)); try rfl)
  | true =>
    have h2 := pickI_lt (l := l) (c := c + 1) (n := 2) (by omega)
    obtain ⟨v, hv, hv2⟩ : ∃ v : Int, ([0, 4] : List Int).getD (pickI l (c + 1) 2).toNat Cel.no = v ∧ (0 ≤ v ∧ v ≤ 4) := by
      refine ⟨_, rfl, ?_⟩
      have h3 : (pickI l (c + 1) 2).toNat = 0 ∨ (pickI l (c + 1) 2).toNat = 1 := by omega
      rcases h3 with h3 | h3 <;> rw [h3] <;> decide
    refine ⟨v, c + 1 + 1, by omega, by omega, ?_⟩
    (refine kon_mk T0ok (fn := Try.f85) (c := Try.f85.body.get rfl) Try.func85 rfl (by rfl) (by rfl) (by rfl) ?_; intro hfit hfe)
    (repeat (first | refine gq_KNG ?_ | (refine ga_KNG ?_; intro _hq)))
    rw [hv]
    ((try refine aw_ret ?_); refine ret_auto2 (by rfl) (by rfl) (by rfl) (by repeat (first | exact trivial | refine ⟨by first | rfl | omega, ?_⟩)) ?_ (by repeat (first | exact trivial | refine ⟨by rfl, by rfl, ?_⟩)) (by repeat (first | exact trivial | refine ⟨by rfl, by rfl, ?_⟩)); try rfl)
/-- A step more is drawn; M: how many inputs. -/
def foS (l : List UInt8) (M : Int) (x : List Stp × Int) : List Stp × Int :=
  bif decide (M + (x.1.length : Int) < 2) then (x.1 ++ [⟨3, pickI l (x.2 + 1) (M + (x.1.length : Int)), 0⟩], x.2 + 1 + 1)
  else bif pickI l x.2 4 != 3 then (x.1 ++ [⟨pickI l x.2 4, pickI l (x.2 + 1) (M + (x.1.length : Int)), (pickI l (x.2 + 1) (M + (x.1.length : Int)) + 1 + pickI l (x.2 + 1 + 1) (M + (x.1.length : Int) - 1)) % (M + (x.1.length : Int))⟩], x.2 + 1 + 1 + 1)
  else (x.1 ++ [⟨pickI l x.2 4, pickI l (x.2 + 1) (M + (x.1.length : Int)), 0⟩], x.2 + 1 + 1)
def foN (l : List UInt8) (M c : Int) : Nat → List Stp × Int
  | 0 => ([], c)
  | i + 1 => foS l M (foN l M c i)
theorem foS_bd (l : List UInt8) (M : Int) (x : List Stp × Int) : (foS l M x).1.length = x.1.length + 1 ∧ x.2 ≤ (foS l M x).2 ∧ (foS l M x).2 ≤ x.2 + 3 := by
  unfold foS
  cases decide (M + (x.1.length : Int) < 2) with
  | true => dsimp only [cond_true]; refine ⟨by simp, by omega, by omega⟩
  | false =>
    dsimp only [cond_false]
    cases (pickI l x.2 4 != 3) with
    | true => dsimp only [cond_true]; refine ⟨by simp, by omega, by omega⟩
    | false => dsimp only [cond_false]; refine ⟨by simp, by omega, by omega⟩
theorem foN_bd (l : List UInt8) (M c : Int) : ∀ i, (foN l M c i).1.length = i ∧ c ≤ (foN l M c i).2 ∧ (foN l M c i).2 ≤ c + 3 * (i : Int)
  | 0 => ⟨rfl, by simp [foN]⟩
  | i + 1 => by
    obtain ⟨h1, h2, h3⟩ := foN_bd l M c i
    obtain ⟨g1, g2, g3⟩ := foS_bd l M (foN l M c i)
    rw [foN]
    refine ⟨by omega, by omega, by omega⟩
/-- In the end the formula is sometimes another one. -/
def foE (l : List UInt8) (M n : Int) (x : List Stp × Int) : List Stp × Int :=
  bif pickI l x.2 n == n - 1 then
    (bif pickI l (x.2 + 1) 4 == 0 then ([], x.2 + 1 + 1)
     else bif pickI l (x.2 + 1) 4 == 1 then (x.1.set 0 ⟨(x.1.getD 0 Cel.no).o, M, (x.1.getD 0 Cel.no).y⟩, x.2 + 1 + 1)
     else bif pickI l (x.2 + 1) 4 == 2 then (x.1.set 0 ⟨0, 0, 0⟩, x.2 + 1 + 1)
     else (x.1.set 0 ⟨3, 0, 1⟩, x.2 + 1 + 1))
  else (x.1, x.2 + 1)
set_option maxHeartbeats 4000000 in
theorem ex_formOf (l : List UInt8) (c v n : Int) (h : 0 ≤ c ∧ c ≤ 900000 ∧ l.length ≤ 2000) (hv : 0 ≤ v ∧ v ≤ 4) (hn : 0 < n ∧ n ≤ 1000) : ∃ (ss : List Stp) (c' : Int), ss.length ≤ 3 ∧ (c ≤ c' ∧ c' ≤ c + 20) ∧ Kon Try.prog 59 [p0, vI v, vI n] [rdE l c] (slA 0 0 ss) [stRow ss] [rdE l c'] := by
  obtain ⟨M, hM, hM2⟩ : ∃ M : Int, (if (1 : Int) > v then 1 else v) = M ∧ (1 ≤ M ∧ M ≤ 4) := ⟨_, rfl, by split <;> omega⟩
  have h2 := pickI_lt (l := l) (c := c) (n := 3) (by omega)
  obtain ⟨m, hm⟩ : ∃ m : Nat, 1 + pickI l c 3 = (m : Int) := ⟨(1 + pickI l c 3).toNat, by omega⟩
  obtain ⟨g1, g2, g3⟩ := foN_bd l M (c + 1) m
  refine ⟨(foE l M n (foN l M (c + 1) m)).1, (foE l M n (foN l M (c + 1) m)).2, ?_, ?_, ?_⟩
  · unfold foE
    cases (pickI l (foN l M (c + 1) m).2 n == n - 1) <;> cases (pickI l ((foN l M (c + 1) m).2 + 1) 4 == 0) <;> cases (pickI l ((foN l M (c + 1) m).2 + 1) 4 == 1) <;> cases (pickI l ((foN l M (c + 1) m).2 + 1) 4 == 2) <;> simp <;> omega
  · unfold foE
    cases (pickI l (foN l M (c + 1) m).2 n == n - 1) <;> cases (pickI l ((foN l M (c + 1) m).2 + 1) 4 == 0) <;> cases (pickI l ((foN l M (c + 1) m).2 + 1) 4 == 1) <;> cases (pickI l ((foN l M (c + 1) m).2 + 1) 4 == 2) <;> simp <;> omega
  clear g1 g2 g3
  (refine kon_mk T0ok (fn := Try.f59) (c := Try.f59.body.get rfl) Try.func59 rfl (by rfl) (by rfl) (by rfl) ?_; intro hfit hfe)
  (repeat (first | refine gq_KNG ?_ | (refine ga_KNG ?_; intro _hq)))
  rw [hm]
  (refine aw_rd [0, 1, 2] [] (fun i : Nat × Int => [(7, .g (.one (.sl 176 i.1 (foN l M (c + 1) i.1).1.length))), (8, vI i.2)]) (fun i => [(176, (i.1, stRow (foN l M (c + 1) i.1).1)), (100000, (0, rdE l (foN l M (c + 1) i.1).2))]) (fun i => i.1 ≤ m ∧ i.2 = (m : Int) - (i.1 : Int)) (fun i => m - i.1) (0, (m : Int)) (by rfl) (by rfl) ?_ (by rfl) (by repeat (first | exact trivial | refine ⟨by rfl, ?_⟩ | refine ⟨vI_of (by rfl) (by omega), ?_⟩)) (by repeat (first | exact trivial | refine ⟨by rfl, ?_⟩ | refine ⟨vI_of (by rfl) (by omega), ?_⟩)) ?_)
  · exact ⟨Nat.zero_le _, by simp⟩
  rintro ⟨i, j⟩ ⟨hi, hj⟩
  dsimp only at hi hj
  obtain ⟨g1, g2, g3⟩ := foN_bd l M (c + 1) i
  have hs : foN l M (c + 1) (i + 1) = foS l M (foN l M (c + 1) i) := rfl
  dsimp only
  rcases Nat.lt_or_ge i m with h5 | h5
  · have hd : decide (j > 0) = true := decide_eq_true (by omega)
    generalize foN l M (c + 1) i = x at *
    obtain ⟨ss, c1⟩ := x
    unfold foS at hs
    dsimp only at g1 g2 g3 hs ⊢
    have p1 := pickI_lt (l := l) (c := c1) (n := 4) (by omega)
    have p2 := pickI_lt (l := l) (c := c1 + 1) (n := M + (ss.length : Int)) (by omega)
    (repeat (first | refine gq_KNG ?_ | (refine ga_KNG ?_; intro _hq)))
    rw [hM]
    cases d0 : decide (M + (ss.length : Int) < 2) with
    | true =>
      rw [d0, cond_true] at hs
      (repeat (first | refine gq_KNG ?_ | (refine ga_KNG ?_; intro _hq)))
      refine ⟨(i + 1, j - 1), ⟨h5, (by dsimp only; omega)⟩, ?_, (by first | omega | (dsimp only; omega))⟩
      dsimp only
      rw [hs]
      exact ⟨by rfl, ⟨by rfl, (by repeat (first | exact trivial | refine ⟨by rfl, ?_⟩ | refine ⟨vI_of (by rfl) (by omega), ?_⟩))⟩, (by repeat (first | exact trivial | refine ⟨by rfl, ?_⟩ | refine ⟨vI_of (by rfl) (by omega), ?_⟩))⟩
    | false =>
      rw [d0, cond_false] at hs
      cases d1 : (pickI l c1 4 != 3) with
      | true =>
        rw [d1, cond_true] at hs
        have hd0 := of_decide_eq_false d0
        have p3 := pickI_lt (l := l) (c := c1 + 1 + 1) (n := M + (ss.length : Int) - 1) (by omega)
        (repeat (first | refine gq_KNG ?_ | (refine ga_KNG ?_; intro _hq)))
        (refine aw_draw2 mixed T0ok cfU_ok [(160, [1000, 1001, 1010, 11]), (100000, [6])] (by rfl) (by kernel_rfl) ?_)
        (repeat (first | refine gq_KNG ?_ | (refine ga_KNG ?_; intro _hq)))
        refine ⟨(i + 1, j - 1), ⟨h5, (by dsimp only; omega)⟩, ?_, (by first | omega | (dsimp only; omega))⟩
        dsimp only
        rw [hs]
        exact ⟨by rfl, ⟨by rfl, (by repeat (first | exact trivial | refine ⟨by rfl, ?_⟩ | refine ⟨vI_of (by rfl) (by omega), ?_⟩))⟩, (by repeat (first | exact trivial | refine ⟨by rfl, ?_⟩ | refine ⟨vI_of (by rfl) (by omega), ?_⟩))⟩
      | false =>
        rw [d1, cond_false] at hs
        (repeat (first | refine gq_KNG ?_ | (refine ga_KNG ?_; intro _hq)))
        refine ⟨(i + 1, j - 1), ⟨h5, (by dsimp only; omega)⟩, ?_, (by first | omega | (dsimp only; omega))⟩
        dsimp only
        rw [hs]
        exact ⟨by rfl, ⟨by rfl, (by repeat (first | exact trivial | refine ⟨by rfl, ?_⟩ | refine ⟨vI_of (by rfl) (by omega), ?_⟩))⟩, (by repeat (first | exact trivial | refine ⟨by rfl, ?_⟩ | refine ⟨vI_of (by rfl) (by omega), ?_⟩))⟩
  · obtain rfl : i = m := by omega
    have hd : decide (j > 0) = false := decide_eq_false (by omega)
    generalize foN l M (c + 1) i = x at *
    obtain ⟨ss, c1⟩ := x
    unfold foE
    dsimp only at g1 g2 g3 ⊢
    have p1 := pickI_lt (l := l) (c := c1 + 1) (n := 4) (by omega)
    obtain ⟨a, t, rfl⟩ : ∃ a t, ss = a :: t := by
      cases ss with
      | nil => simp at g1; omega
      | cons a t => exact ⟨a, t, rfl⟩
    clear hs
    cases d1 : (pickI l c1 n == n - 1) with
    | false =>
      rw [cond_false]
      (repeat (first | refine gq_KNG ?_ | (refine ga_KNG ?_; intro _hq)))
      ((try refine aw_ret ?_); refine ret_auto2 (by rfl) (by rfl) (by rfl) (by repeat (first | exact trivial | refine ⟨by first | rfl | omega, ?_⟩)) ?_ (by repeat (first | exact trivial | refine ⟨by rfl, by rfl, ?_⟩)) (by repeat (first | exact trivial | refine ⟨by rfl, by rfl, ?_⟩)); try rfl)
    | true =>
      rw [cond_true]
      cases d2 : (pickI l (c1 + 1) 4 == 0) with
      | true =>
        rw [cond_true]
        (repeat (first | refine gq_KNG ?_ | (refine ga_KNG ?_; intro _hq)))
        ((try refine aw_ret ?_); refine ret_auto2 (by rfl) (by rfl) (by rfl) (by repeat (first | exact trivial | refine ⟨by first | rfl | omega, ?_⟩)) ?_ (by repeat (first | exact trivial | refine ⟨by rfl, by rfl, ?_⟩)) (by repeat (first | exact trivial | refine ⟨by rfl, by rfl, ?_⟩)); try rfl)
      | false =>
        rw [cond_false]
        cases d3 : (pickI l (c1 + 1) 4 == 1) with
        | true =>
          rw [cond_true]
          (repeat (first | refine gq_KNG ?_ | (refine ga_KNG ?_; intro _hq)))
          rw [hM]
          (repeat (first | refine gq_KNG ?_ | (refine ga_KNG ?_; intro _hq)))
          ((try refine aw_ret ?_); refine ret_auto2 (by rfl) (by rfl) (by rfl) (by repeat (first | exact trivial | refine ⟨by first | rfl | omega, ?_⟩)) ?_ (by repeat (first | exact trivial | refine ⟨by rfl, by rfl, ?_⟩)) (by repeat (first | exact trivial | refine ⟨by rfl, by rfl, ?_⟩)); try rfl)
        | false =>
          rw [cond_false]
          cases d4 : (pickI l (c1 + 1) 4 == 2) with
          | true =>
            rw [cond_true]
            (repeat (first | refine gq_KNG ?_ | (refine ga_KNG ?_; intro _hq)))
            ((try refine aw_ret ?_); refine ret_auto2 (by rfl) (by rfl) (by rfl) (by repeat (first | exact trivial | refine ⟨by first | rfl | omega, ?_⟩)) ?_ (by repeat (first | exact trivial | refine ⟨by rfl, by rfl, ?_⟩)) (by repeat (first | exact trivial | refine ⟨by rfl, by rfl, ?_⟩)); try rfl)
          | false =>
            rw [cond_false]
            (repeat (first | refine gq_KNG ?_ | (refine ga_KNG ?_; intro _hq)))
            ((try refine aw_ret ?_); refine ret_auto2 (by rfl) (by rfl) (by rfl) (by repeat (first | exact trivial | refine ⟨by first | rfl | omega, ?_⟩)) ?_ (by repeat (first | exact trivial | refine ⟨by rfl, by rfl, ?_⟩)) (by repeat (first | exact trivial | refine ⟨by rfl, by rfl, ?_⟩)); try rfl)
theorem ex_form (l : List UInt8) (c n : Int) (h : 0 ≤ c ∧ c ≤ 800000 ∧ l.length ≤ 2000) (hn : 0 < n ∧ n ≤ 400) : ∃ (v : Int) (ss : List Stp) (c' : Int), (0 ≤ v ∧ v ≤ 4) ∧ ss.length ≤ 3 ∧ (c ≤ c' ∧ c' ≤ c + 30) ∧ Kon Try.prog 46 [p0, vI n] [rdE l c] (.tup [.one (.v (.int .i64 v)), .one (.sl 0 0 ss.length)]) [stRow ss] [rdE l c'] := by
  obtain ⟨v, c1, hv, hc1, hK1⟩ := ex_inputs l c (2 * n) (by omega) (by omega)
  obtain ⟨ss, c2, h1, h2, hK2⟩ := ex_formOf l c1 v (2 * n) (by omega) (by omega) (by omega)
  refine ⟨v, ss, c2, hv, h1, by omega, ?_⟩
  (refine kon_mk T0ok (fn := Try.f46) (c := Try.f46.body.get rfl) Try.func46 rfl (by rfl) (by rfl) (by rfl) ?_; intro hfit hfe)
  (repeat (first | refine gq_KNG ?_ | (refine ga_KNG ?_; intro _hq)))
  ((try refine aw_ret ?_); refine ret_auto2 (by rfl) (by rfl) (by rfl) (by repeat (first | exact trivial | refine ⟨by first | rfl | omega, ?_⟩)) ?_ (by repeat (first | exact trivial | refine ⟨by rfl, by rfl, ?_⟩)) (by repeat (first | exact trivial | refine ⟨by rfl, by rfl, ?_⟩)); try rfl)
end Go.Proofs.Ytdihmpclbgbgpaa

/- The law FnComputeGates. -/
namespace Go.Proofs.Ytdihmpclbgbgpaa
set_option linter.unusedVariables false
set_option linter.unusedSimpArgs false
set_option maxRecDepth 20000
open Go.RowKit
attribute [local irreducible] runA runX AW
def wsZH : List (Nat × Nat) := [(11, 4), (999999, 0)]
theorem bsF_all {N : Nat} {l : List Stp} {w : Int} (hst : ∀ i, i < l.length → SOk ((N : Int) + i) (l.getD i Cel.no)) (hn : 1 ≤ N) (hw : 0 ≤ w ∧ w < 2 ^ (N : Int).toNat) : ∀ k, k ≤ l.length → bsF (N : Int) l w k = bsF (N : Int) l w 0 ++ (List.range k).map fun i => b2i (fB (N : Int) l w i)
  | 0, _ => by simp
  | k + 1, hk => by
    rw [bsF_succ (hst k (by omega)) (by omega) (fW_lt hst (by omega) hw k (by omega)), bsF_all hst hn hw k (by omega), List.range_succ, List.map_append, List.append_assoc]
    rfl
theorem bsF_drop {N : Nat} {l : List Stp} {w : Int} (hst : ∀ i, i < l.length → SOk ((N : Int) + i) (l.getD i Cel.no)) (hn : 1 ≤ N) (hw : 0 ≤ w ∧ w < 2 ^ (N : Int).toNat) : (bsF (N : Int) l w l.length).drop N = (List.range l.length).map fun i => b2i (fB (N : Int) l w i) := by
  rw [bsF_all hst hn hw _ (Nat.le_refl _)]
  have h : (bsF (N : Int) l w 0).length = N := by rw [bsF_len]; omega
  conv => lhs; arg 1; rw [← h]
  exact List.drop_left
theorem map_get (f : Nat → Int) (m k : Nat) (h : k < m) : ((List.range m).map f).getD k Cel.no = f k := by
  rw [List.getD_eq_getElem?_getD, List.getElem?_map, List.getElem?_range h]; rfl
end Go.Proofs.Ytdihmpclbgbgpaa

/- slices.Delete of gates: elements cut out of an own row, in place. -/
namespace Go.Proofs.Ytdihmpclbgbgpaa
set_option linter.unusedVariables false
set_option linter.unusedSimpArgs false
open Go.RowKit Go.Shelf
end Go.Proofs.Ytdihmpclbgbgpaa

/- slices.Clone and slices.Concat of gates: fresh rows; a call of Concat with two rows as one step; elements cut out as a step. -/
namespace Go.Proofs.Ytdihmpclbgbgpaa
set_option linter.unusedVariables false
set_option linter.unusedSimpArgs false
open Go.RowKit Go.Shelf
theorem wpList_app_run {P : Program} {ops : Array Oper} {rest : List Oper} {o : Oper} {a : Act} {w w' : World} {v v1 v2 : Value} {Q : Exit → Act → World → Prop} (hgd : o.guard = none) (s x : Operand) (t : TypeId)
    (ho : o.op = .call { callee := .builtin .append, args := #[s, x], argTypes := #[t, t] }) (hs : a.eval s = v1) (hx : a.eval x = v2) (hrun : (Builtin.append_ #[t, t] o.type #[v1, v2]).run P w = .ok v w')
    (h : wpList P ops Q rest (a.put o.dst v) w') : wpList P ops Q (o :: rest) a w :=
  wpList_plain hgd fun _ hK => by
    unfold Oper.wp execOp
    simp only [ho, resolve, invoke, builtin, Sem.run_bind, Sem.run_pure, Result.andThen_ok, List.map_toArray, List.map_cons, List.map_nil, hs, hx, hrun]
    exact hK _ _ h
theorem wpList_app_run2 {P : Program} {ops : Array Oper} {rest : List Oper} {o : Oper} {a : Act} {w w' : World} {v v1 v2 : Value} {Q : Exit → Act → World → Prop} (hgd : o.guard = none) (s x : Operand) (t t2 : TypeId)
    (ho : o.op = .call { callee := .builtin .append, args := #[s, x], argTypes := #[t, t2] }) (hs : a.eval s = v1) (hx : a.eval x = v2) (hrun : (Builtin.append_ #[t, t2] o.type #[v1, v2]).run P w = .ok v w')
    (h : wpList P ops Q rest (a.put o.dst v) w') : wpList P ops Q (o :: rest) a w :=
  wpList_plain hgd fun _ hK => by
    unfold Oper.wp execOp
    simp only [ho, resolve, invoke, builtin, Sem.run_bind, Sem.run_pure, Result.andThen_ok, List.map_toArray, List.map_cons, List.map_nil, hs, hx, hrun]
    exact hK _ _ h
theorem ro_src {w : World} {A : Option Addr} {n c : Nat} {x : List Gt} (h : RoRep w (fun b => b < w.heap.size) 4 n (cV x) (.slice A n c)) {m : Nat} (hm : n = m) (h0 : 0 < n) : ∃ ad, A = some ad ∧ (∀ j u, (cV x)[j]? = some u → w.cell? (ad.add j) = some u) := by
  obtain ⟨⟨h1, h2⟩, A', c', e, h3, h4, h5⟩ := h
  cases e
  obtain ⟨b, off, rfl, hb, hc⟩ := h5 h0
  exact ⟨_, rfl, fun j u hj => by rw [Addr.add_lit]; exact hc j u hj⟩

















































/-- Gates laid behind an own row. -/
theorem app_src {w : World} {base : Nat} {v : Value} {n : Nat} {xs : List Value} {A : Option Addr} {m c : Nat} {l : List Gt} (hb : base ≤ w.heap.size) (hown : w.ownsRow base 57 4 v n xs) (h : RoRep w (fun b => b < w.heap.size) 4 m (cV l) (.slice A m c)) (hn : n ≤ 1000000) (hm : m ≤ 1000000) :
    ∃ v' w', (∀ ty, (Builtin.append_ #[26, 26] ty #[v, .slice A m c]).run Try.prog w = .ok v' w') ∧ w'.ownsRow base 57 4 v' (n + m) (xs ++ cV l) ∧ Below base w w' := by
  obtain ⟨i0, hi, hz0, hz1, hz2⟩ := info_parts infoG
  have hone := h.1.2
  have hlen := h.1.1
  have hu : Try.prog.underlying 26 = some (.slice 57) := Try.underlying26
  have hno : ∀ k, v.ownBlock = some k → base ≤ k := fun k hk => (hown.lt k hk).1
  cases A with
  | none =>
    have h0 : m = 0 := by
      rcases Nat.eq_zero_or_pos m with h0 | h0
      · exact h0
      · obtain ⟨ad, hA, _⟩ := ro_src h rfl h0
        cases hA
    subst h0
    have e : cV l = [] := List.eq_nil_of_length_eq_zero (by omega)
    rw [e]
    refine ⟨v, w, fun ty => ?_, by simpa using hown, Below.refl _ _⟩
    rcases hown.2 with ⟨rfl, rfl⟩ | ⟨g, cap, cur, rfl, _, _, hnc, _⟩
    · simp [Builtin.append_, run_underlying hu, sizeOf, typeInfo, hi, Builtin.lenOf, Builtin.firstCells]
    · simp [Builtin.append_, run_underlying hu, sizeOf, typeInfo, hi, Builtin.lenOf, Builtin.firstCells, hnc, storeCells]
  | some ad =>
    have hcells : ∀ j u, (cV l)[j]? = some u → w.cell? (ad.add j) = some u := by
      rcases Nat.eq_zero_or_pos m with h0 | h0
      · subst h0
        have e : cV l = [] := List.eq_nil_of_length_eq_zero (by omega)
        intro j u hj
        rw [e] at hj; cases hj
      · obtain ⟨ad', e, h⟩ := ro_src h rfl h0
        cases e
        exact h
    obtain ⟨v', w', k1, k2, k3, _, k5⟩ := run_append_own_at (P := Try.prog) w base 26 26 57 i0 _ 4 32 hu hi hz0 hz1 hz2 rfl (by decide) v n xs hown ad m c (cV l) hlen hcells (fun u hu => List.all_eq_true.1 hone u hu) (by unfold maxLen; omega) (by omega) hb
    exact ⟨v', w', fun ty => k1, k2, k3.os, k3.tape, k3.output, k3.size, fun k hk => k3.block k (by omega) (fun e => by have := hno k e.symm; omega)⟩
set_option maxRecDepth 100000 in
theorem grow_w (n : Nat) (w : World) (hn : n ≤ 2000000) :
    Calls Try.prog 94 #[.slice none 0 0, .int .i64 n] w fun e W' => ∃ v, e = .returned v ∧ W'.ownsRow w.heap.size 57 4 v 0 [] ∧ Below w.heap.size w W' := by
  have mixed0 := mixed
  have h1 : ¬ ((n : Int) < 0) := by omega
  rcases Nat.eq_zero_or_pos n with h0 | h0
  · subst h0
    go_enter Try.func94, Try.ntmps94
    go_wp2
    go_ret
    exact ⟨_, rfl, World.ownsRow_nil _ _ _ _, Below.refl _ _⟩
  · obtain ⟨i0, hi, hz0, hz1, hz2⟩ := info_parts infoG
    have hrz : ∀ ty, (Builtin.append_ #[26, 3] ty #[.slice none 0 0, .int .i64 n]).run Try.prog w = _ := fun ty =>
      Lib.run_append_nil_zeros (P := Try.prog) w 26 3 ty 57 i0 _ .i64 .i64 Try.underlying26 Try.underlying3 hi hz0 n h0 (by rw [hz1]; decide) (by omega) (by rw [hz2]; omega)
    have hGn : n ≤ grownCap w n 0 57 := grownCap_ge w _ _ _
    have hGm := grownCap_le_maxLen w n 0 57 (by unfold maxLen; omega)
    obtain ⟨G, hG⟩ : ∃ G, G = grownCap w n 0 57 := ⟨_, rfl⟩
    rw [← hG] at hrz hGn hGm
    obtain ⟨cs, hcs⟩ : ∃ cs, cs = Builtin.zeroCells (gvl ⟨0, 0, 0, 0⟩).cells n ++ Builtin.zeroCells (gvl ⟨0, 0, 0, 0⟩).cells (G - n) := ⟨_, rfl⟩
    rw [← hcs] at hrz
    have hsz : cs.size = G * 4 := by
      rw [hcs, Array.size_append, size_zeroCells, size_zeroCells]
      have e : (gvl ⟨0, 0, 0, 0⟩).cells.size = 4 := rfl
      rw [e]; omega
    have hown : (w.drew.alloc (.cells cs 57)).ownsRow w.heap.size 57 4 (.slice (some ⟨w.heap.size, 0, none⟩) 0 G) 0 [] := ⟨rfl, .inr ⟨w.heap.size, G, cs, rfl, Nat.le_refl _, World.alloc_heap_new w.drew _, Nat.zero_le _, hGm, hsz, rfl⟩⟩
    have hbel : Below w.heap.size w (w.drew.alloc (.cells cs 57)) := (show Below w.heap.size w w.drew from ⟨rfl, rfl, rfl, Nat.le_refl _, fun _ _ => rfl⟩).alloc (Nat.le_refl _) _
    have hG63 : G ≤ 9223372036854775807 := by unfold maxLen at hGm; omega
    clear hG hcs hsz
    replace hrz := Hid.mk hrz
    go_enter Try.func94, Try.ntmps94
    go_wp2_with (at_builtin; refine wpList_app_run2 rfl (.tmp 20) (.tmp 21) 26 3 rfl rfl rfl (hrz.out _) ?_)
    go_ret
    exact ⟨_, rfl, hown, hbel⟩
end Go.Proofs.Ytdihmpclbgbgpaa

/- slices.Concat of two rows of gates, walked. -/
namespace Go.Proofs.Ytdihmpclbgbgpaa
set_option linter.unusedVariables false
set_option linter.unusedSimpArgs false
open Go.RowKit Go.Shelf
theorem cellOf {w : World} {g j : Nat} {cs : Array Value} {t : TypeId} {fr : Nat × Nat} {v : Value} (h : w.heap[g]? = some (.cells cs t fr)) (hv : cs[j]? = some v) : w.cell? ⟨g, j, none⟩ = some v := by
  rw [cell_of_row w g j cs t fr h]; exact hv
end Go.Proofs.Ytdihmpclbgbgpaa

/- Two rows of gates put together as one step of the abstract run; elements cut out of an own row as a step; copies of gates. -/
namespace Go.Proofs.Ytdihmpclbgbgpaa
set_option linter.unusedVariables false
set_option linter.unusedSimpArgs false
open Go.RowKit
theorem info_S : (Try.prog.info? 26).map (fun i => (i.zero, i.size, i.bytes)) = some (some (.slice none 0 0), 1, 24) := by kernel_rfl
theorem sim_alloc {w0 w : World} {M N : Nat → Prop} {b0 β : Nat → Value} {nt : Nat} {S : St} {tm : Array Value} (hs : Sim w0 M N b0 nt β S w tm) (o : Obj) : Sim w0 M N b0 nt β S (w.alloc o) tm :=
  (hs.change (w' := w.alloc o) (β' := β) (fun _ => False) S.G rfl rfl rfl (by simp) (fun j _ => ⟨rfl, rfl⟩) (fun j r e h => h.elim) (fun k hk _ => Below.heap_alloc w o k hk) (fun j r e b h => h.elim) (fun j h => h.elim) (fun i j r e r' e' b h => h.elim) (fun _ _ j r e h => h.elim)).1
theorem ro_lt {w : World} {ok : Nat → Prop} {n : Nat} {l : List Value} {v : Value} (hok : ∀ b, ok b → b < w.heap.size) (h : RoRep w ok 4 n l v) : RoRep w (fun b => b < w.heap.size) 4 n l v := RoRep.mono (fun b hb => ⟨hok b hb, rfl⟩) h
end Go.Proofs.Ytdihmpclbgbgpaa

/- slices.Concat of three rows of gates, walked, and as one step. -/
namespace Go.Proofs.Ytdihmpclbgbgpaa
set_option linter.unusedVariables false
set_option linter.unusedSimpArgs false
open Go.RowKit Go.Shelf
set_option maxRecDepth 100000 in
set_option maxHeartbeats 2000000 in
theorem concat3_w (g : Nat) (x y z : List Gt) (A1 A2 A3 : Option Addr) (c1 c2 c3 : Nat) (w : World) (hg : w.heap[g]? = some (.cells #[.slice A1 x.length c1, .slice A2 y.length c2, .slice A3 z.length c3] 26 (0, 0)))
    (hx : RoRep w (fun b => b < w.heap.size) 4 x.length (cV x) (.slice A1 x.length c1)) (hy : RoRep w (fun b => b < w.heap.size) 4 y.length (cV y) (.slice A2 y.length c2)) (hz : RoRep w (fun b => b < w.heap.size) 4 z.length (cV z) (.slice A3 z.length c3)) (hxl : x.length ≤ 300000) (hyl : y.length ≤ 300000) (hzl : z.length ≤ 300000) :
    Calls Try.prog 56 #[.slice (some ⟨g, 0, none⟩) 3 3] w fun e W' => ∃ v, e = .returned v ∧ W'.ownsRow w.heap.size 57 4 v (x.length + y.length + z.length) (cV x ++ cV y ++ cV z) ∧ Below w.heap.size w W' := by
  have mixed0 := mixed
  have hlt : g < w.heap.size := (Array.getElem?_eq_some_iff.1 hg).1
  have q0 : w.cell? ⟨g, 0, none⟩ = some (.slice A1 x.length c1) := cellOf hg rfl
  have q1 : w.cell? ⟨g, 1, none⟩ = some (.slice A2 y.length c2) := cellOf hg rfl
  have q2 : w.cell? ⟨g, 2, none⟩ = some (.slice A3 z.length c3) := cellOf hg rfl
  clear hg
  have hs1 : ¬ ((x.length : Int) < 0) := by omega
  have hs2 : ¬ ((x.length : Int) + (y.length : Int) < 0) := by omega
  have hs3 : ¬ ((x.length : Int) + (y.length : Int) + (z.length : Int) < 0) := by omega
  have hmono : ∀ {W : World}, Below w.heap.size w W → ∀ {n : Nat} {l : List Value} {v : Value}, RoRep w (fun b => b < w.heap.size) 4 n l v → RoRep W (fun b => b < W.heap.size) 4 n l v := fun hB _ _ _ h => RoRep.mono (fun b hb => ⟨Nat.lt_of_lt_of_le hb hB.size, hB.block b hb⟩) h
  replace hx := Hid.mk hx
  replace hy := Hid.mk hy
  replace hz := Hid.mk hz
  go_enter Try.func56, Try.ntmps56
  go_wp2
  refine wp_loop_rounds 4 ?_
  rw [rounds_succ]
  go_wp2
  rw [rounds_succ]
  go_wp2
  rw [rounds_succ]
  go_wp2
  rw [rounds_succ]
  go_wp2_with (go_at_call 94; refine (grow_w (x.length + y.length + z.length) w (by omega)).mono ?_; rintro e W1 ⟨v1, rfl, o1, b1⟩)
  have p0 := (b1.cell (p := ⟨g, 0, none⟩) hlt).trans q0
  obtain ⟨v2, W2, k1, o2, b2⟩ := app_src b1.size o1 (hmono b1 hx.out) (Nat.zero_le _) (by omega)
  have b12 := b1.trans b2
  have p1 := (b12.cell (p := ⟨g, 1, none⟩) hlt).trans q1
  rw [Nat.zero_add, List.nil_append] at o2
  obtain ⟨v3, W3, k2, o3, b3⟩ := app_src b12.size o2 (hmono b12 hy.out) (by omega) (by omega)
  have b13 := b12.trans b3
  have p2 := (b13.cell (p := ⟨g, 2, none⟩) hlt).trans q2
  obtain ⟨v4, W4, k3, o4, b4⟩ := app_src b13.size o3 (hmono b13 hz.out) (by omega) (by omega)
  have b14 := b13.trans b4
  replace k1 := Hid.mk k1
  replace k2 := Hid.mk k2
  replace k3 := Hid.mk k3
  clear q0 q1 q2 o1 o2 o3 b2 b3 b4
  go_wp2
  refine wp_loop_rounds 4 ?_
  rw [rounds_succ]
  go_wp2_with (at_builtin; refine wpList_app_run rfl (.tmp 31) (.tmp 32) 26 rfl rfl rfl (k1.out _) ?_)
  rw [rounds_succ]
  go_wp2_with (at_builtin; refine wpList_app_run rfl (.tmp 31) (.tmp 32) 26 rfl rfl rfl (k2.out _) ?_)
  rw [rounds_succ]
  go_wp2_with (at_builtin; refine wpList_app_run rfl (.tmp 31) (.tmp 32) 26 rfl rfl rfl (k3.out _) ?_)
  rw [rounds_succ]
  go_wp2
  go_ret
  exact ⟨_, rfl, o4, b14⟩
theorem build_3 (w : World) (A1 A2 A3 : Option Addr) (n1 n2 n3 c1 c2 c3 : Nat) : (Instr.buildSlice 101 3 #[(0, .slice A1 n1 c1), (1, .slice A2 n2 c2), (2, .slice A3 n3 c3)]).run Try.prog w = .ok (.slice (some ⟨w.heap.size, 0, none⟩) 3 3) (w.alloc (.cells #[.slice A1 n1 c1, .slice A2 n2 c2, .slice A3 n3 c3] 26)) := by
  obtain ⟨i0, hi, hz0, hz1, hz2⟩ := info_parts info_S
  have hs : (sizeOf 26).run Try.prog w = .ok 1 w := by simp [sizeOf, typeInfo, hi, hz1]
  have hz : (zeroValue 26).run Try.prog w = .ok (.slice none 0 0) w := by simp [zeroValue, typeInfo, hi, hz0]
  have g1 : Instr.fill (fun i => some (i * 1, 1)) ((Array.range 3).map ((Value.slice none 0 0).cells[· % (Value.slice none 0 0).cells.size]!)) [(0, .slice A1 n1 c1), (1, .slice A2 n2 c2), (2, .slice A3 n3 c3)] = some #[.slice A1 n1 c1, .slice A2 n2 c2, .slice A3 n3 c3] := by kernel_rfl
  simp only [Instr.buildSlice, Sem.run_bind, run_underlying Try.underlying101, Result.andThen_ok, hs, Sem.run_pure, Sem.run_ite]
  rw [if_neg (by decide), if_neg (by decide)]
  simp only [Result.andThen_ok, hz, g1, Sem.run_bind, newRow, run_newObj, Sem.run_pure]
  rfl
/-- A slice of gates that can be read: a read-only one, or an own row. -/
def SlRd (S : St) (t : Nat) (x : List Gt) : Prop := S.E t = some (roA x) ∨ ∃ j r, S.E t = some (.g (.one (.sl j r x.length))) ∧ S.G j = some (r, gRow x)
theorem slrd_rep {S : St} {t nt : Nat} {x : List Gt} {w0 w : World} {M N : Nat → Prop} {b0 β : Nat → Value} {tm : Array Value} (hs : Sim w0 M N b0 nt β S w tm) (h : SlRd S t x) : RoRep w (fun b => b < w.heap.size) 4 x.length (cV x) (tm.getD t undef) := by
  rcases h with h | ⟨j, r, h, hG⟩
  · exact ro_lt (fun b hb => hb.1) (hs.env t _ h).2
  · have h1 : (cV x).length = x.length * 4 := cV_len x
    obtain ⟨n', l', ⟨⟨rfl, rfl⟩, _⟩, hro⟩ := getSl_run (F := Ft.all) (S := S) (K := fun _ => True) (sz := 4) (k := fun n' l' => .need (n' = x.length ∧ l' = cV x) .done) (x := .g (.one (.sl j r x.length))) ⟨rfl, by rw [hG]; exact ⟨⟨rfl, rfl, by decide, h1⟩, ⟨rfl, rfl⟩, trivial⟩⟩ hs (hs.env t _ h).2
    exact hro
set_option maxRecDepth 100000 in
set_option maxHeartbeats 1000000 in
theorem wx_concat3 {S : St} {nt : Nat} {K : St → Prop} {x y z : List Gt} {r d1 d2 tx ty tz ty1 ty2 ts : Nat} {pos pos2 : String} {af af2 : Array Edge} {ops : Array Oper} {rest : List Oper}
    (hd : (Nat.blt d1 nt && Nat.blt d2 nt && Nat.blt (nid d2 0) 100000) = true) (hx : SlRd S tx x) (hy : SlRd S ty y) (hz : SlRd S tz z) (hl : x.length ≤ 300000 ∧ y.length ≤ 300000 ∧ z.length ≤ 300000) (hr : nvO S (nid d2 0) = some r)
    (hk : WX Try.prog nt ops rest (((S.put d1 none).lay (nid d2 0) (some (r, gRow (x ++ y ++ z)))).put d2 (some (.g (.one (.sl (nid d2 0) r (x ++ y ++ z).length))))) K) :
    WX Try.prog nt ops (⟨some d1, .buildSlice 101 3 #[(0, .tmp tx), (1, .tmp ty), (2, .tmp tz)], ty1, pos, af, none⟩ :: ⟨some d2, .call { callee := .value (.func 56), args := #[.tmp d1], argTypes := #[ts] }, ty2, pos2, af2, none⟩ :: rest) S K := fun w0 M N b0 β w tm hs => by
  simp only [Bool.and_eq_true] at hd
  obtain ⟨⟨hd1, hd2⟩, hd3⟩ := hd
  have hd1 := blt_lt hd1
  have hd2 := blt_lt hd2
  have hd3 := blt_lt hd3
  have hx2 := slrd_rep hs hx
  have hy2 := slrd_rep hs hy
  have hz2 := slrd_rep hs hz
  have hx3 := hx2
  have hy3 := hy2
  have hz3 := hz2
  obtain ⟨_, A1, c1, ex, _⟩ := hx3
  obtain ⟨_, A2, c2, ey, _⟩ := hy3
  obtain ⟨_, A3, c3, ez, _⟩ := hz3
  rw [ex] at hx2
  rw [ey] at hy2
  rw [ez] at hz2
  refine wpList_plain rfl fun K1 hK1 => wp_value (v := .slice (some ⟨w.heap.size, 0, none⟩) 3 3) (w' := w.alloc (.cells #[.slice A1 x.length c1, .slice A2 y.length c2, .slice A3 z.length c3] 26)) ?_ (hK1 _ _ ?_)
  · unfold execOp
    have e1 : (#[(0, Operand.tmp tx), (1, Operand.tmp ty), (2, Operand.tmp tz)] : Array (Nat × Operand)).map (fun (i, x) => (i, Act.eval ⟨tm, []⟩ x)) = #[(0, .slice A1 x.length c1), (1, .slice A2 y.length c2), (2, .slice A3 z.length c3)] := by
      simp only [List.map_toArray, List.map_cons, List.map_nil]
      show #[(0, tm.getD tx undef), (1, tm.getD ty undef), (2, tm.getD tz undef)] = _
      rw [ex, ey, ez]
    simp only [Sem.run_bind, e1, build_3, Result.andThen_ok, Sem.run_pure]
  · obtain ⟨w1, hw1⟩ : ∃ w1, w1 = w.alloc (.cells #[.slice A1 x.length c1, .slice A2 y.length c2, .slice A3 z.length c3] 26) := ⟨_, rfl⟩
    have hg : w1.heap[w.heap.size]? = some (.cells #[.slice A1 x.length c1, .slice A2 y.length c2, .slice A3 z.length c3] 26 (0, 0)) := by rw [hw1]; exact World.alloc_heap_new w _
    have hB0 : ∀ b, b < w.heap.size → b < w1.heap.size ∧ w1.heap[b]? = w.heap[b]? := fun b hb => by rw [hw1]; exact ⟨by simp; omega, Below.heap_alloc w _ b hb⟩
    have hs1 := (sim_alloc hs (.cells #[.slice A1 x.length c1, .slice A2 y.length c2, .slice A3 z.length c3] 26)).del d1 (.slice (some ⟨w.heap.size, 0, none⟩) 3 3)
    rw [← hw1] at hs1 ⊢
    have hcall := concat3_w w.heap.size x y z A1 A2 A3 c1 c2 c3 w1 hg (RoRep.mono hB0 hx2) (RoRep.mono hB0 hy2) (RoRep.mono hB0 hz2) hl.1 hl.2.1 hl.2.2
    refine wpList_plain rfl fun K2 hK2 => ?_
    have ev : Act.eval ⟨tm.setIfInBounds d1 (.slice (some ⟨w.heap.size, 0, none⟩) 3 3), []⟩ (.tmp d1) = .slice (some ⟨w.heap.size, 0, none⟩) 3 3 := by
      show (tm.setIfInBounds d1 _).getD d1 undef = _
      have : d1 < tm.size := by rw [hs.wide]; exact hd1
      simp [Array.getD_eq_getD_getElem?, this]
    have hent := Go.Proofs.enters_of Try.func56 (by kernel_rfl) rfl
    have hrun : (execOp (Act.eval ⟨tm.setIfInBounds d1 (.slice (some ⟨w.heap.size, 0, none⟩) 3 3), []⟩) ⟨some d2, .call { callee := .value (.func 56), args := #[.tmp d1], argTypes := #[ts] }, ty2, pos2, af2, none⟩).run Try.prog w1 = .ok (.enter 56 #[.slice (some ⟨w.heap.size, 0, none⟩) 3 3]) w1 := by
      unfold execOp
      have he : Act.eval ⟨tm.setIfInBounds d1 (.slice (some ⟨w.heap.size, 0, none⟩) 3 3), []⟩ (.func 56) = .func (.func 56) #[] #[] := rfl
      simp only [resolve, he, Deferred.ofValue, invoke, Sem.run_bind, Sem.run_pure, Result.andThen_ok, List.map_toArray, List.map_cons, List.map_nil, ev]
      simp [hent]
    unfold Oper.wp
    change Oper.upon Try.prog _ (⟨tm.setIfInBounds d1 (.slice (some ⟨w.heap.size, 0, none⟩) 3 3), []⟩ : Act) K2 _ ((execOp (Act.eval ⟨tm.setIfInBounds d1 (.slice (some ⟨w.heap.size, 0, none⟩) 3 3), []⟩) ⟨some d2, .call { callee := .value (.func 56), args := #[.tmp d1], argTypes := #[ts] }, ty2, pos2, af2, none⟩).run Try.prog w1)
    rw [hrun]
    refine Calls.mono hcall ?_
    rintro e W' ⟨v, rfl, hown, hB⟩
    have hown2 : ownR W' 57 4 v (x.length + y.length + z.length) (cV x ++ cV y ++ cV z) := ⟨hown.1, hown.2.imp id fun ⟨g, cap, cur, h1, h2, h3, h4, h5, h6, h7⟩ => ⟨g, cap, cur, h1, Nat.zero_le _, h3, h4, h5, Nat.le_of_eq h6.symm, h7⟩⟩
    have hblk : ∀ b, blk? v = some b → b < W'.heap.size ∧ w1.heap.size ≤ b := by
      intro b hb
      rcases hown.2 with ⟨rfl, _⟩ | ⟨g, cap, cur, rfl, hg, hgb, _⟩
      · cases hb
      · cases hb
        exact ⟨(Array.getElem?_eq_some_iff.1 hgb).1, hg⟩
    have hsl : ∃ A c, v = .slice A (x.length + y.length + z.length) c := by
      rcases hown.2 with ⟨rfl, h0⟩ | ⟨g, cap, cur, rfl, _⟩
      · rw [h0]; exact ⟨_, _, rfl⟩
      · exact ⟨_, _, rfl⟩
    have ecV : cV x ++ cV y ++ cV z = cV (x ++ y ++ z) := by rw [cV_append, cV_append]
    rw [ecV] at hown2
    have hver : ∀ r1 e1, (S.put d1 none).G (nid d2 0) = some (r1, e1) → r1 < r := by
      intro r1 e1 hg1
      unfold nvO at hr
      rw [show S.G (nid d2 0) = some (r1, e1) from hg1] at hr
      cases hr
      exact Nat.lt_succ_self _
    obtain ⟨β', h1, h2, h3, h4⟩ := hs1.change1 (w' := W') (nid d2 0) r (gRow (x ++ y ++ z)) v hB.os hB.tape hB.output hB.size
      (fun r1 e1 hg1 => by have := hver r1 e1 hg1; exact ⟨by omega, fun he => by omega⟩)
      (fun k hk _ => hB.block k hk) (fun b _ hb => ⟨(hblk b hb).1, .inl (hblk b hb).2⟩) (fun hge => by omega)
      (fun β' G' _ _ hok hold hβ => ⟨cV_one _, 57, x.length + y.length + z.length, fun z hz => by cases hz; rfl, by rw [hβ]; exact hown2⟩)
    obtain ⟨A, c, rfl⟩ := hsl
    have hlen : (x ++ y ++ z).length = x.length + y.length + z.length := by rw [List.length_append, List.length_append]
    rw [hlen] at hk
    exact hK2 _ _ (hk w0 M N b0 β' W' _ (h1.put hd2 ⟨rfl, r, _, upd_same _ _ _, Nat.le_refl _, fun _ => ⟨A, x.length + y.length + z.length, c, h2, Nat.le_refl _, rfl⟩⟩))
end Go.Proofs.Ytdihmpclbgbgpaa

/- The reference's Changes and Apart. -/
namespace Go.Proofs.Ytdihmpclbgbgpaa
set_option linter.unusedVariables false
set_option linter.unusedSimpArgs false
set_option maxRecDepth 20000
open Go.RowKit
attribute [local irreducible] runA runX AW
def mn (a b : Int) : Int := if b < a then b else a
def mx (a b : Int) : Int := if b > a then b else a
/-- The lines that a gate changes. -/
def chgL (g : Gt) : List Int := if g.k = 0 then [g.a] else if g.k = 1 then [g.b] else if g.k = 2 then [g.c] else if g.k = 3 then [mn g.a g.b, mx g.a g.b] else [mn g.b g.c, mx g.b g.c]
def anyB (l m : List Int) : Bool := l.any (fun x => hasB m x)
def touB (g h : Gt) : Bool := anyB (chgL g) (lns h)
def apaB (g h : Gt) : Bool := !(touB g h) && !(touB h g)
end Go.Proofs.Ytdihmpclbgbgpaa

/- Plain law: gates that are apart commute. -/
namespace Go.Proofs.Ytdihmpclbgbgpaa
set_option linter.unusedVariables false
set_option linter.unusedSimpArgs false
end Go.Proofs.Ytdihmpclbgbgpaa

/- Plain: the first useless pair. -/
namespace Go.Proofs.Ytdihmpclbgbgpaa
set_option linter.unusedVariables false
set_option linter.unusedSimpArgs false
/-- The place of the same gate behind gates that are apart. -/
def uI (g : Gt) : List Gt → Nat → Int
  | [], _ => -1
  | x :: l, k => bif geq x g then (k : Int) else bif apaB x g then uI g l (k + 1) else -1
def usl : List Gt → Nat → Int × Int
  | [], _ => (-1, -1)
  | g :: l, i => bif decide (uI g l (i + 1) ≥ 0) then ((i : Int), uI g l (i + 1)) else usl l (i + 1)
end Go.Proofs.Ytdihmpclbgbgpaa

/- The first useless pair: the reference. -/
namespace Go.Proofs.Ytdihmpclbgbgpaa
set_option linter.unusedVariables false
set_option linter.unusedSimpArgs false
set_option maxRecDepth 20000
open Go.RowKit
attribute [local irreducible] runA runX AW
end Go.Proofs.Ytdihmpclbgbgpaa

/- spec.l2Drop, spec.CircuitShort (some circuit), the draw of FnSameCircuit. -/



namespace Go.Proofs.Ytdihmpclbgbgpaa
set_option linter.unusedVariables false
set_option linter.unusedSimpArgs false
set_option maxRecDepth 20000
open Go.RowKit
attribute [local irreducible] runA runX AW

/-- Without the gates at a and b. -/
def drp (l : List Gt) (a b : Int) : Nat → List Gt
  | 0 => []
  | i + 1 => if ((i : Int) != a && (i : Int) != b) = true then drp l a b i ++ [l.getD i Cel.no] else drp l a b i
/-- Dropped as long as there is a pair. -/
def shr (l : List Gt) : Nat → List Gt
  | 0 => l
  | f + 1 => if (usl l 0).1 < 0 then l else shr (drp l (usl l 0).1 (usl l 0).2 l.length) f
end Go.Proofs.Ytdihmpclbgbgpaa

/- spec.CircuitBack, impl.CircuitJoin; the law FnCircuitBack. -/
namespace Go.Proofs.Ytdihmpclbgbgpaa
set_option linter.unusedVariables false
set_option linter.unusedSimpArgs false
set_option maxRecDepth 20000
open Go.RowKit
attribute [local irreducible] runA runX AW
end Go.Proofs.Ytdihmpclbgbgpaa

/- Formulas: the clean circuit of both sides, FormOut of the program; plain laws of the clean circuit. -/
namespace Go.Proofs.Ytdihmpclbgbgpaa
set_option linter.unusedVariables false
set_option linter.unusedSimpArgs false
set_option maxRecDepth 20000
open Go.RowKit
attribute [local irreducible] runA runX AW
theorem gq_KNJ {H G : Prop} (k : H) (h : Hid H → G := by (intro hh; (first | (first | ((first | refine r_none ?_ | refine r_gt (by rfl) (by rfl) (by first | rfl | assumption | omega | (simp only [*, Bool.not_false, Bool.not_true]; first | done | fail) | (simp [*]; first | done | fail)) (by rfl) ?_ | refine r_gf (by rfl) (by rfl) (by first | rfl | assumption | omega | (simp only [*, Bool.not_false, Bool.not_true]; first | done | fail) | (simp [*]; first | done | fail)) (by rfl) ?_); (first | fail | ((first | (refine z_op (by rfl) ?_; first | refine z_ok ?_ ?_ | refine z_ex ?_ (by first | exact ft_raw rfl rfl | ((first | refine ft_rp rfl rfl rfl ?_ | refine ft_row rfl rfl rfl ?_ | refine ft_rpF rfl rfl rfl ?_ | refine ft_rowF rfl rfl rfl ?_ | refine up_row rfl rfl ?_ | refine up_rowF rfl rfl rfl ?_ | refine ct_0 rfl ?_ | refine ct_r rfl rfl ?_ | refine ct_c rfl rfl rfl ?_ | refine cu_all rfl ?_ | refine cu_to rfl ?_ | refine cu_from rfl ?_ | refine cu_p rfl ?_ | fail); (first | omega | (simp only [List.length_append, List.length_replicate, List.length_cons, List.length_nil, List.length_set, List.length_take, List.length_drop, true_and]; omega))) | exact up_raw rfl | exact pk_t (by first | rfl | assumption | omega | (simp only [*, Bool.not_false, Bool.not_true]; first | done | fail) | (simp [*]; first | done | fail)) rfl | exact pk_f (by first | rfl | assumption | omega | (simp only [*, Bool.not_false, Bool.not_true]; first | done | fail) | (simp [*]; first | done | fail)) rfl | exact rw_c Gt rfl | exact rw_raw | exact pu_cv (fun w => rfl) (by omega) | exact pu_of (fun w => rfl) rfl | exact be_of (fun w => rfl) | exact nc_of (fun _ _ _ _ => rfl) rfl | exact bu_of (fun w => rfl) rfl | fail) ?_) | ((first | refine q_callE wsT wsZ (by rfl) ?_ | refine q_callVE wsT (by rfl) (by rfl) ?_); refine ⟨_, _, _, (by first | assumption | exact k_backwards _ (by omega)), _, by rfl, ?_, ?_⟩)); focus (first | exact trivial | fail | exact rfl | (first | omega | (simp only [List.length_append, List.length_replicate, List.length_cons, List.length_nil, List.length_set, List.length_take, List.length_drop, true_and]; omega)) | exact cvB (fun w => rfl) | ((repeat' (first | exact rfl | exact cV_len _ | exact cV_ln rfl (by omega) | exact Cel.pos | omega | exact trivial | refine And.intro ?_ ?_)); done) | (simp [*]; done) | (simp; omega))) | refine q_clip (by rfl) clipG (by first | exact trivial | omega | exact cvB (fun w => rfl) | ((repeat (any_goals (first | exact rfl | exact cV_len _ | exact cV_ln rfl (by omega) | exact Cel.pos | omega | exact trivial | refine And.intro ?_ ?_))); first | done | fail) | (simp [*]; first | done | fail)) ?_)) | refine r_nt (by rfl) (by rfl) (by first | rfl | assumption | omega | (simp only [*, Bool.not_false, Bool.not_true]; first | done | fail) | (simp [*]; first | done | fail)) (by rfl) ?_ | refine r_nf (by rfl) (by rfl) (by first | rfl | assumption | omega | (simp only [*, Bool.not_false, Bool.not_true]; first | done | fail) | (simp [*]; first | done | fail)) (by rfl) ?_ | refine r_gu (by rfl) (by rfl) (by rfl) ?_ | refine r_nil ?_) | (first | refine aw_seq ?_ | refine aw_ct (by rfl) (by first | rfl | assumption | omega | (simp only [*, Bool.not_false, Bool.not_true]; first | done | fail) | (simp [*]; first | done | fail)) ?_ | refine aw_cf (by rfl) (by first | rfl | assumption | omega | (simp only [*, Bool.not_false, Bool.not_true]; first | done | fail) | (simp [*]; first | done | fail)) ?_ | refine aw_block ?_ | refine aw_region T0ok cfU_ok (by rfl) ?_ | refine aw_skip ?_ | refine aw_exit ?_ | refine ra_step ?_)); (repeat (first | (first | ((first | refine r_none ?_ | refine r_gt (by rfl) (by rfl) (by first | rfl | assumption | omega | (simp only [*, Bool.not_false, Bool.not_true]; first | done | fail) | (simp [*]; first | done | fail)) (by rfl) ?_ | refine r_gf (by rfl) (by rfl) (by first | rfl | assumption | omega | (simp only [*, Bool.not_false, Bool.not_true]; first | done | fail) | (simp [*]; first | done | fail)) (by rfl) ?_); (first | fail | ((first | (refine z_op (by rfl) ?_; first | refine z_ok ?_ ?_ | refine z_ex ?_ (by first | exact ft_raw rfl rfl | ((first | refine ft_rp rfl rfl rfl ?_ | refine ft_row rfl rfl rfl ?_ | refine ft_rpF rfl rfl rfl ?_ | refine ft_rowF rfl rfl rfl ?_ | refine up_row rfl rfl ?_ | refine up_rowF rfl rfl rfl ?_ | refine ct_0 rfl ?_ | refine ct_r rfl rfl ?_ | refine ct_c rfl rfl rfl ?_ | refine cu_all rfl ?_ | refine cu_to rfl ?_ | refine cu_from rfl ?_ | refine cu_p rfl ?_ | fail); (first | omega | (simp only [List.length_append, List.length_replicate, List.length_cons, List.length_nil, List.length_set, List.length_take, List.length_drop, true_and]; omega))) | exact up_raw rfl | exact pk_t (by first | rfl | assumption | omega | (simp only [*, Bool.not_false, Bool.not_true]; first | done | fail) | (simp [*]; first | done | fail)) rfl | exact pk_f (by first | rfl | assumption | omega | (simp only [*, Bool.not_false, Bool.not_true]; first | done | fail) | (simp [*]; first | done | fail)) rfl | exact rw_c Gt rfl | exact rw_raw | exact pu_cv (fun w => rfl) (by omega) | exact pu_of (fun w => rfl) rfl | exact be_of (fun w => rfl) | exact nc_of (fun _ _ _ _ => rfl) rfl | exact bu_of (fun w => rfl) rfl | fail) ?_) | ((first | refine q_callE wsT wsZ (by rfl) ?_ | refine q_callVE wsT (by rfl) (by rfl) ?_); refine ⟨_, _, _, (by first | assumption | exact k_backwards _ (by omega)), _, by rfl, ?_, ?_⟩)); focus (first | exact trivial | fail | exact rfl | (first | omega | (simp only [List.length_append, List.length_replicate, List.length_cons, List.length_nil, List.length_set, List.length_take, List.length_drop, true_and]; omega)) | exact cvB (fun w => rfl) | ((repeat' (first | exact rfl | exact cV_len _ | exact cV_ln rfl (by omega) | exact Cel.pos | omega | exact trivial | refine And.intro ?_ ?_)); done) | (simp [*]; done) | (simp; omega))) | refine q_clip (by rfl) clipG (by first | exact trivial | omega | exact cvB (fun w => rfl) | ((repeat (any_goals (first | exact rfl | exact cV_len _ | exact cV_ln rfl (by omega) | exact Cel.pos | omega | exact trivial | refine And.intro ?_ ?_))); first | done | fail) | (simp [*]; first | done | fail)) ?_)) | refine r_nt (by rfl) (by rfl) (by first | rfl | assumption | omega | (simp only [*, Bool.not_false, Bool.not_true]; first | done | fail) | (simp [*]; first | done | fail)) (by rfl) ?_ | refine r_nf (by rfl) (by rfl) (by first | rfl | assumption | omega | (simp only [*, Bool.not_false, Bool.not_true]; first | done | fail) | (simp [*]; first | done | fail)) (by rfl) ?_ | refine r_gu (by rfl) (by rfl) (by rfl) ?_ | refine r_nil ?_) | (first | refine aw_seq ?_ | refine aw_ct (by rfl) (by first | rfl | assumption | omega | (simp only [*, Bool.not_false, Bool.not_true]; first | done | fail) | (simp [*]; first | done | fail)) ?_ | refine aw_cf (by rfl) (by first | rfl | assumption | omega | (simp only [*, Bool.not_false, Bool.not_true]; first | done | fail) | (simp [*]; first | done | fail)) ?_ | refine aw_block ?_ | refine aw_region T0ok cfU_ok (by rfl) ?_ | refine aw_skip ?_ | refine aw_exit ?_ | refine ra_step ?_))); exact hh.out)) : G := h ⟨k⟩
theorem ga_KNJ {H G : Prop} (k : H) (h : Hid H → G := by (intro hh; (first | refine r_none ?_ | refine r_gt (by rfl) (by rfl) (by first | rfl | assumption | omega | (simp only [*, Bool.not_false, Bool.not_true]; first | done | fail) | (simp [*]; first | done | fail)) (by rfl) ?_ | refine r_gf (by rfl) (by rfl) (by first | rfl | assumption | omega | (simp only [*, Bool.not_false, Bool.not_true]; first | done | fail) | (simp [*]; first | done | fail)) (by rfl) ?_); refine z_op (by rfl) ?_; refine z_al ?_ hh.out; focus (first | exact trivial | fail | exact rfl | (first | omega | (simp only [List.length_append, List.length_replicate, List.length_cons, List.length_nil, List.length_set, List.length_take, List.length_drop, true_and]; omega)) | exact cvB (fun w => rfl) | ((repeat' (first | exact rfl | exact cV_len _ | exact cV_ln rfl (by omega) | exact Cel.pos | omega | exact trivial | refine And.intro ?_ ?_)); done) | (simp [*]; done) | (simp; omega)))) : G := h ⟨k⟩
theorem gs_KNJ {H G : Prop} (k : H) (h : Hid H → G := by (intro hh; (first | ((first | refine r_none ?_ | refine r_gt (by rfl) (by rfl) (by first | rfl | assumption | omega | (simp only [*, Bool.not_false, Bool.not_true]; first | done | fail) | (simp [*]; first | done | fail)) (by rfl) ?_ | refine r_gf (by rfl) (by rfl) (by first | rfl | assumption | omega | (simp only [*, Bool.not_false, Bool.not_true]; first | done | fail) | (simp [*]; first | done | fail)) (by rfl) ?_); (first | fail | ((first | (refine z_op (by rfl) ?_; first | refine z_ok ?_ ?_ | refine z_ex ?_ (by first | exact ft_raw rfl rfl | ((first | refine ft_rp rfl rfl rfl ?_ | refine ft_row rfl rfl rfl ?_ | refine ft_rpF rfl rfl rfl ?_ | refine ft_rowF rfl rfl rfl ?_ | refine up_row rfl rfl ?_ | refine up_rowF rfl rfl rfl ?_ | refine ct_0 rfl ?_ | refine ct_r rfl rfl ?_ | refine ct_c rfl rfl rfl ?_ | refine cu_all rfl ?_ | refine cu_to rfl ?_ | refine cu_from rfl ?_ | refine cu_p rfl ?_ | fail); (first | omega | (simp only [List.length_append, List.length_replicate, List.length_cons, List.length_nil, List.length_set, List.length_take, List.length_drop, true_and]; omega))) | exact up_raw rfl | exact pk_t (by first | rfl | assumption | omega | (simp only [*, Bool.not_false, Bool.not_true]; first | done | fail) | (simp [*]; first | done | fail)) rfl | exact pk_f (by first | rfl | assumption | omega | (simp only [*, Bool.not_false, Bool.not_true]; first | done | fail) | (simp [*]; first | done | fail)) rfl | exact rw_c Gt rfl | exact rw_raw | exact pu_cv (fun w => rfl) (by omega) | exact pu_of (fun w => rfl) rfl | exact be_of (fun w => rfl) | exact nc_of (fun _ _ _ _ => rfl) rfl | exact bu_of (fun w => rfl) rfl | fail) ?_) | ((first | refine q_callE wsT wsZ (by rfl) ?_ | refine q_callVE wsT (by rfl) (by rfl) ?_); refine ⟨_, _, _, (by first | assumption | exact k_backwards _ (by omega)), _, by rfl, ?_, ?_⟩)); focus (first | exact trivial | fail | exact rfl | (first | omega | (simp only [List.length_append, List.length_replicate, List.length_cons, List.length_nil, List.length_set, List.length_take, List.length_drop, true_and]; omega)) | exact cvB (fun w => rfl) | ((repeat' (first | exact rfl | exact cV_len _ | exact cV_ln rfl (by omega) | exact Cel.pos | omega | exact trivial | refine And.intro ?_ ?_)); done) | (simp [*]; done) | (simp; omega))) | refine q_clip (by rfl) clipG (by first | exact trivial | omega | exact cvB (fun w => rfl) | ((repeat (any_goals (first | exact rfl | exact cV_len _ | exact cV_ln rfl (by omega) | exact Cel.pos | omega | exact trivial | refine And.intro ?_ ?_))); first | done | fail) | (simp [*]; first | done | fail)) ?_)) | refine r_nt (by rfl) (by rfl) (by first | rfl | assumption | omega | (simp only [*, Bool.not_false, Bool.not_true]; first | done | fail) | (simp [*]; first | done | fail)) (by rfl) ?_ | refine r_nf (by rfl) (by rfl) (by first | rfl | assumption | omega | (simp only [*, Bool.not_false, Bool.not_true]; first | done | fail) | (simp [*]; first | done | fail)) (by rfl) ?_ | refine r_gu (by rfl) (by rfl) (by rfl) ?_ | refine r_nil ?_); (repeat (first | ((first | refine r_none ?_ | refine r_gt (by rfl) (by rfl) (by first | rfl | assumption | omega | (simp only [*, Bool.not_false, Bool.not_true]; first | done | fail) | (simp [*]; first | done | fail)) (by rfl) ?_ | refine r_gf (by rfl) (by rfl) (by first | rfl | assumption | omega | (simp only [*, Bool.not_false, Bool.not_true]; first | done | fail) | (simp [*]; first | done | fail)) (by rfl) ?_); (first | fail | ((first | (refine z_op (by rfl) ?_; first | refine z_ok ?_ ?_ | refine z_ex ?_ (by first | exact ft_raw rfl rfl | ((first | refine ft_rp rfl rfl rfl ?_ | refine ft_row rfl rfl rfl ?_ | refine ft_rpF rfl rfl rfl ?_ | refine ft_rowF rfl rfl rfl ?_ | refine up_row rfl rfl ?_ | refine up_rowF rfl rfl rfl ?_ | refine ct_0 rfl ?_ | refine ct_r rfl rfl ?_ | refine ct_c rfl rfl rfl ?_ | refine cu_all rfl ?_ | refine cu_to rfl ?_ | refine cu_from rfl ?_ | refine cu_p rfl ?_ | fail); (first | omega | (simp only [List.length_append, List.length_replicate, List.length_cons, List.length_nil, List.length_set, List.length_take, List.length_drop, true_and]; omega))) | exact up_raw rfl | exact pk_t (by first | rfl | assumption | omega | (simp only [*, Bool.not_false, Bool.not_true]; first | done | fail) | (simp [*]; first | done | fail)) rfl | exact pk_f (by first | rfl | assumption | omega | (simp only [*, Bool.not_false, Bool.not_true]; first | done | fail) | (simp [*]; first | done | fail)) rfl | exact rw_c Gt rfl | exact rw_raw | exact pu_cv (fun w => rfl) (by omega) | exact pu_of (fun w => rfl) rfl | exact be_of (fun w => rfl) | exact nc_of (fun _ _ _ _ => rfl) rfl | exact bu_of (fun w => rfl) rfl | fail) ?_) | ((first | refine q_callE wsT wsZ (by rfl) ?_ | refine q_callVE wsT (by rfl) (by rfl) ?_); refine ⟨_, _, _, (by first | assumption | exact k_backwards _ (by omega)), _, by rfl, ?_, ?_⟩)); focus (first | exact trivial | fail | exact rfl | (first | omega | (simp only [List.length_append, List.length_replicate, List.length_cons, List.length_nil, List.length_set, List.length_take, List.length_drop, true_and]; omega)) | exact cvB (fun w => rfl) | ((repeat' (first | exact rfl | exact cV_len _ | exact cV_ln rfl (by omega) | exact Cel.pos | omega | exact trivial | refine And.intro ?_ ?_)); done) | (simp [*]; done) | (simp; omega))) | refine q_clip (by rfl) clipG (by first | exact trivial | omega | exact cvB (fun w => rfl) | ((repeat (any_goals (first | exact rfl | exact cV_len _ | exact cV_ln rfl (by omega) | exact Cel.pos | omega | exact trivial | refine And.intro ?_ ?_))); first | done | fail) | (simp [*]; first | done | fail)) ?_)) | refine r_nt (by rfl) (by rfl) (by first | rfl | assumption | omega | (simp only [*, Bool.not_false, Bool.not_true]; first | done | fail) | (simp [*]; first | done | fail)) (by rfl) ?_ | refine r_nf (by rfl) (by rfl) (by first | rfl | assumption | omega | (simp only [*, Bool.not_false, Bool.not_true]; first | done | fail) | (simp [*]; first | done | fail)) (by rfl) ?_ | refine r_gu (by rfl) (by rfl) (by rfl) ?_ | refine r_nil ?_)); exact hh.out)) : G := h ⟨k⟩
theorem gc_KNJ {H G : Prop} (k : H) (h : Hid H → G := by (intro hh; (first | refine aw_seq ?_ | refine aw_ct (by rfl) (by first | rfl | assumption | omega | (simp only [*, Bool.not_false, Bool.not_true]; first | done | fail) | (simp [*]; first | done | fail)) ?_ | refine aw_cf (by rfl) (by first | rfl | assumption | omega | (simp only [*, Bool.not_false, Bool.not_true]; first | done | fail) | (simp [*]; first | done | fail)) ?_ | refine aw_block ?_ | refine aw_region T0ok cfU_ok (by rfl) ?_ | refine aw_skip ?_ | refine aw_exit ?_ | refine ra_step ?_); (repeat (first | refine aw_seq ?_ | refine aw_ct (by rfl) (by first | rfl | assumption | omega | (simp only [*, Bool.not_false, Bool.not_true]; first | done | fail) | (simp [*]; first | done | fail)) ?_ | refine aw_cf (by rfl) (by first | rfl | assumption | omega | (simp only [*, Bool.not_false, Bool.not_true]; first | done | fail) | (simp [*]; first | done | fail)) ?_ | refine aw_block ?_ | refine aw_region T0ok cfU_ok (by rfl) ?_ | refine aw_skip ?_ | refine aw_exit ?_ | refine ra_step ?_)); exact hh.out)) : G := h ⟨k⟩
/-- A gate valid for m lines leaves line m alone, and does not look at it. -/
theorem gr_top {m w : Int} {g : Gt} (hg : gok m g = true) (hw : 0 ≤ w ∧ w < 2 ^ m.toNat) : gr g (w + 2 ^ m.toNat) = gr g w + 2 ^ m.toNat := by
  have hpos : (0 : Int) < 2 ^ m.toNat := Int.pow_pos (by decide)
  obtain ⟨hm, hk, ha, hb, hc⟩ := gok_bd hg
  have hl := gr_lt hg hw
  have ea := add_bt hw g.a
  have eb := add_bt hw g.b
  have ec := add_bt hw g.c
  rw [decide_eq_false (by omega), Bool.xor_false] at ea eb ec
  have e : gc g (w + 2 ^ m.toNat) = gc g w := by unfold gc; rw [ea, eb, ec]
  refine bt_ext (gr_nn _ _) (by omega) fun i => ?_
  rw [gr_bt, e, add_bt hw, add_bt hl, gr_bt]
  cases bt w (i : Int) <;> cases decide (m.toNat = ((i : Nat) : Int).toNat) <;> cases (gc g w && (gm g).testBit ((i : Nat) : Int).toNat) <;> rfl
theorem cr_top {m : Int} : ∀ {c : List Gt}, c.all (gok m) = true → ∀ {w : Int}, (0 ≤ w ∧ w < 2 ^ m.toNat) → cr c (w + 2 ^ m.toNat) = cr c w + 2 ^ m.toNat
  | [], _, w, hw => rfl
  | g :: c, h, w, hw => by
    rw [List.all_cons, Bool.and_eq_true] at h
    rw [cr_cons, cr_cons, gr_top h.1 hw, cr_top h.2 (gr_lt h.1 hw)]
/-- The clean circuit. -/
def cl (n : Int) (l : List Stp) : List Gt := cg n l l.length ++ [⟨1, n + (l.length : Int) - 1, n + (l.length : Int), 0⟩] ++ (cg n l l.length).reverse
/-- The bit that the clean circuit adds. -/
def clB (n : Int) (l : List Stp) (w : Int) : Bool := bt (fW n l w l.length) (n + (l.length : Int) - 1)
theorem g_copy {m w : Int} (hm : 1 ≤ m) (hw : 0 ≤ w ∧ w < 2 ^ m.toNat) : gr ⟨1, m - 1, m, 0⟩ w = w + b2i (bt w (m - 1)) * 2 ^ m.toNat := by
  have hpos : (0 : Int) < 2 ^ m.toNat := Int.pow_pos (by decide)
  have e : ∀ i : Nat, bt (gr ⟨1, m - 1, m, 0⟩ w) (i : Int) = (bt w (i : Int) ^^ (bt w (m - 1) && decide (m.toNat = ((i : Nat) : Int).toNat))) := fun i => bt_g1 w (m - 1) m (i : Int)
  cases h : bt w (m - 1) with
  | true =>
    refine bt_ext (gr_nn _ _) (by simp [b2i]; omega) fun i => ?_
    rw [e, h, Bool.true_and, show w + b2i true * 2 ^ m.toNat = w + 2 ^ m.toNat by simp [b2i], add_bt hw]
  | false =>
    refine bt_ext (gr_nn _ _) (by simp [b2i]; omega) fun i => ?_
    rw [e, h, Bool.false_and, Bool.xor_false, show w + b2i false * 2 ^ m.toNat = w by simp [b2i]]
theorem cl_run {n : Int} {l : List Stp} {w : Int} (hf : fok n l = true) (hw : 0 ≤ w ∧ w < 2 ^ (n + (l.length : Int)).toNat) :
    cr (cl n l) w = w + b2i (clB n l w) * 2 ^ (n + (l.length : Int)).toNat := by
  obtain ⟨hn, hl, hst⟩ := fok_t hf
  have hok := cg_ok hst (m := n + (l.length : Int)) (by omega) l.length (Nat.le_refl _) (by omega)
  have hrok : (cg n l l.length).reverse.all (gok (n + (l.length : Int))) = true := by rw [List.all_reverse]; exact hok
  have hV := cr_lt hok hw
  have hb := cr_back hok hw
  unfold cl clB fW
  rw [cr_append, cr_append]
  show cr (cg n l l.length).reverse (gr _ _) = _
  rw [g_copy (by omega) hV]
  generalize bt (cr (cg n l l.length) w) (n + (l.length : Int) - 1) = b
  cases b with
  | false => simp [b2i, hb]
  | true =>
    rw [show b2i true * 2 ^ (n + (l.length : Int)).toNat = 2 ^ (n + (l.length : Int)).toNat by simp [b2i], cr_top hrok hV, hb]
theorem cl_ok {n : Int} {l : List Stp} (hf : fok n l = true) : cokB (n + (l.length : Int) + 1) (cl n l) = true := by
  obtain ⟨hn, hl, hst⟩ := fok_t hf
  have hok := cg_ok hst (m := n + (l.length : Int) + 1) (by omega) l.length (Nat.le_refl _) (by omega)
  have hcl := cg_len n l l.length
  have hg : gok (n + (l.length : Int) + 1) ⟨1, n + (l.length : Int) - 1, n + (l.length : Int), 0⟩ = true := by
    unfold gok gokL okLn in8; simp; omega
  refine cokB_mkM (by omega) (by unfold cl; simp; omega) ?_
  unfold cl
  rw [List.all_append, List.all_append, List.all_reverse, hok]
  simp [hg]
theorem k_clI (n : Int) (l : List Stp) (h : fok n l = true) : Kon Try.prog 19 [vI n, roA l] [] (slA 0 0 (cl n l)) [gRow (cl n l)] [] := by
  obtain ⟨hn, hl, hst⟩ := fok_t h
  have hF := k_fv n l (by omega) (by omega)
  rw [h] at hF
  have hK := k_compute n l h
  have hcl := cg_len n l l.length
  unfold cl
  generalize cg n l l.length = C at *
  have hB := k_backwards C (by omega)
  have hrl : C.reverse.length = C.length := List.length_reverse
  clear h
  (refine kon_mk T0ok (fn := Try.f19) (c := Try.f19.body.get rfl) Try.func19 rfl (by rfl) (by rfl) (by rfl) ?_; intro hfit hfe)
  (repeat refine gc_KNJ ?_)
  (repeat (first | refine gs_KNJ ?_ | (refine ga_KNJ ?_; intro _q ⟨_he, _hq⟩)))
  (repeat refine gc_KNJ ?_)
  (repeat (first | refine gs_KNJ ?_ | (refine ga_KNJ ?_; intro _q ⟨_he, _hq⟩)))
  (repeat refine gc_KNJ ?_)
  (repeat (first | refine gs_KNJ ?_ | (refine ga_KNJ ?_; intro _q ⟨_he, _hq⟩)))
  (repeat refine gc_KNJ ?_)
  (repeat (first | refine gs_KNJ ?_ | (refine ga_KNJ ?_; intro _q ⟨_he, _hq⟩)))
  (repeat (first | refine wx_region ?_ | refine aw_seq ?_ | refine aw_ct (by rfl) (by first | rfl | assumption | omega | (simp only [*, Bool.not_false, Bool.not_true]; first | done | fail) | (simp [*]; first | done | fail)) ?_ | refine aw_cf (by rfl) (by first | rfl | assumption | omega | (simp only [*, Bool.not_false, Bool.not_true]; first | done | fail) | (simp [*]; first | done | fail)) ?_ | refine ra_step ?_ | refine aw_skip ?_ | refine aw_block ?_ | refine aw_exit ?_))
  refine wx_run 8 T0ok cfU_ok (by rfl) ?_
  (repeat (first | refine gs_KNJ ?_ | (refine ga_KNJ ?_; intro _q ⟨_he, _hq⟩)))
  refine wx_concat3 (x := C) (y := [⟨1, n + (l.length : Int) - 1, n + (l.length : Int), 0⟩]) (z := C.reverse) (by rfl) (.inr ⟨208, _, by rfl, by rfl⟩) (.inr ⟨368, _, by rfl, by rfl⟩) (.inr ⟨400, _, by rfl, by rfl⟩) ⟨by omega, by simp, by omega⟩ (by rfl) ?_
  refine wx_end T0ok cfU_ok (i := 10) (by rfl) ?_
  (repeat (first | refine gq_KNJ ?_ | (refine ga_KNJ ?_; intro _q ⟨_he, _hq⟩)))
  ((try refine aw_ret ?_); refine ret_auto2 (by rfl) (by rfl) (by rfl) (by repeat (first | exact trivial | refine ⟨by first | rfl | omega, ?_⟩)) ?_ (by repeat (first | exact trivial | refine ⟨by rfl, by rfl, ?_⟩)) (by repeat (first | exact trivial | refine ⟨by rfl, by rfl, ?_⟩)); try rfl)
end Go.Proofs.Ytdihmpclbgbgpaa

/- FormOut of the program; the law FnCleanGates. -/
namespace Go.Proofs.Ytdihmpclbgbgpaa
set_option linter.unusedVariables false
set_option linter.unusedSimpArgs false
set_option maxRecDepth 20000
open Go.RowKit
attribute [local irreducible] runA runX AW
theorem gq_KNK {H G : Prop} (k : H) (h : Hid H → G := by (intro hh; (first | (first | ((first | refine r_none ?_ | refine r_gt (by rfl) (by rfl) (by first | rfl | assumption | omega | (simp only [*, Bool.not_false, Bool.not_true]; first | done | fail) | (simp [*]; first | done | fail)) (by rfl) ?_ | refine r_gf (by rfl) (by rfl) (by first | rfl | assumption | omega | (simp only [*, Bool.not_false, Bool.not_true]; first | done | fail) | (simp [*]; first | done | fail)) (by rfl) ?_); (first | fail | ((first | (refine z_op (by rfl) ?_; first | refine z_ok ?_ ?_ | refine z_ex ?_ (by first | exact ft_raw rfl rfl | ((first | refine ft_rp rfl rfl rfl ?_ | refine ft_row rfl rfl rfl ?_ | refine ft_rpF rfl rfl rfl ?_ | refine ft_rowF rfl rfl rfl ?_ | refine up_row rfl rfl ?_ | refine up_rowF rfl rfl rfl ?_ | refine ct_0 rfl ?_ | refine ct_r rfl rfl ?_ | refine ct_c rfl rfl rfl ?_ | refine cu_all rfl ?_ | refine cu_to rfl ?_ | refine cu_from rfl ?_ | refine cu_p rfl ?_ | fail); (first | omega | (simp only [List.length_append, List.length_replicate, List.length_cons, List.length_nil, List.length_set, List.length_take, List.length_drop, true_and]; omega))) | exact up_raw rfl | exact pk_t (by first | rfl | assumption | omega | (simp only [*, Bool.not_false, Bool.not_true]; first | done | fail) | (simp [*]; first | done | fail)) rfl | exact pk_f (by first | rfl | assumption | omega | (simp only [*, Bool.not_false, Bool.not_true]; first | done | fail) | (simp [*]; first | done | fail)) rfl | fail | exact rw_raw | exact pu_cv (fun w => rfl) (by omega) | exact pu_of (fun w => rfl) rfl | exact be_of (fun w => rfl) | exact nc_of (fun _ _ _ _ => rfl) rfl | exact bu_of (fun w => rfl) rfl | fail) ?_) | ((first | refine q_callE wsT wsZH (by rfl) ?_ | refine q_callVE wsT (by rfl) (by rfl) ?_); refine ⟨_, _, _, (by first | assumption | exact k_alive | exact k_open _ (by omega)), _, by rfl, ?_, ?_⟩)); focus (first | exact trivial | fail | exact rfl | (first | omega | (simp only [List.length_append, List.length_replicate, List.length_cons, List.length_nil, List.length_set, List.length_take, List.length_drop, true_and]; omega)) | exact cvB (fun w => rfl) | ((repeat' (first | exact rfl | exact cV_len _ | exact cV_ln rfl (by omega) | exact Cel.pos | omega | exact trivial | refine And.intro ?_ ?_)); done) | (simp [*]; done) | (simp; omega))) | fail)) | refine r_nt (by rfl) (by rfl) (by first | rfl | assumption | omega | (simp only [*, Bool.not_false, Bool.not_true]; first | done | fail) | (simp [*]; first | done | fail)) (by rfl) ?_ | refine r_nf (by rfl) (by rfl) (by first | rfl | assumption | omega | (simp only [*, Bool.not_false, Bool.not_true]; first | done | fail) | (simp [*]; first | done | fail)) (by rfl) ?_ | refine r_gu (by rfl) (by rfl) (by rfl) ?_ | refine r_nil ?_) | (first | refine aw_seq ?_ | refine aw_ct (by rfl) (by first | rfl | assumption | omega | (simp only [*, Bool.not_false, Bool.not_true]; first | done | fail) | (simp [*]; first | done | fail)) ?_ | refine aw_cf (by rfl) (by first | rfl | assumption | omega | (simp only [*, Bool.not_false, Bool.not_true]; first | done | fail) | (simp [*]; first | done | fail)) ?_ | refine aw_block ?_ | refine aw_region T0ok cfU_ok (by rfl) ?_ | refine aw_skip ?_ | refine aw_exit ?_ | refine ra_step ?_)); (repeat (first | (first | ((first | refine r_none ?_ | refine r_gt (by rfl) (by rfl) (by first | rfl | assumption | omega | (simp only [*, Bool.not_false, Bool.not_true]; first | done | fail) | (simp [*]; first | done | fail)) (by rfl) ?_ | refine r_gf (by rfl) (by rfl) (by first | rfl | assumption | omega | (simp only [*, Bool.not_false, Bool.not_true]; first | done | fail) | (simp [*]; first | done | fail)) (by rfl) ?_); (first | fail | ((first | (refine z_op (by rfl) ?_; first | refine z_ok ?_ ?_ | refine z_ex ?_ (by first | exact ft_raw rfl rfl | ((first | refine ft_rp rfl rfl rfl ?_ | refine ft_row rfl rfl rfl ?_ | refine ft_rpF rfl rfl rfl ?_ | refine ft_rowF rfl rfl rfl ?_ | refine up_row rfl rfl ?_ | refine up_rowF rfl rfl rfl ?_ | refine ct_0 rfl ?_ | refine ct_r rfl rfl ?_ | refine ct_c rfl rfl rfl ?_ | refine cu_all rfl ?_ | refine cu_to rfl ?_ | refine cu_from rfl ?_ | refine cu_p rfl ?_ | fail); (first | omega | (simp only [List.length_append, List.length_replicate, List.length_cons, List.length_nil, List.length_set, List.length_take, List.length_drop, true_and]; omega))) | exact up_raw rfl | exact pk_t (by first | rfl | assumption | omega | (simp only [*, Bool.not_false, Bool.not_true]; first | done | fail) | (simp [*]; first | done | fail)) rfl | exact pk_f (by first | rfl | assumption | omega | (simp only [*, Bool.not_false, Bool.not_true]; first | done | fail) | (simp [*]; first | done | fail)) rfl | fail | exact rw_raw | exact pu_cv (fun w => rfl) (by omega) | exact pu_of (fun w => rfl) rfl | exact be_of (fun w => rfl) | exact nc_of (fun _ _ _ _ => rfl) rfl | exact bu_of (fun w => rfl) rfl | fail) ?_) | ((first | refine q_callE wsT wsZH (by rfl) ?_ | refine q_callVE wsT (by rfl) (by rfl) ?_); refine ⟨_, _, _, (by first | assumption | exact k_alive | exact k_open _ (by omega)), _, by rfl, ?_, ?_⟩)); focus (first | exact trivial | fail | exact rfl | (first | omega | (simp only [List.length_append, List.length_replicate, List.length_cons, List.length_nil, List.length_set, List.length_take, List.length_drop, true_and]; omega)) | exact cvB (fun w => rfl) | ((repeat' (first | exact rfl | exact cV_len _ | exact cV_ln rfl (by omega) | exact Cel.pos | omega | exact trivial | refine And.intro ?_ ?_)); done) | (simp [*]; done) | (simp; omega))) | fail)) | refine r_nt (by rfl) (by rfl) (by first | rfl | assumption | omega | (simp only [*, Bool.not_false, Bool.not_true]; first | done | fail) | (simp [*]; first | done | fail)) (by rfl) ?_ | refine r_nf (by rfl) (by rfl) (by first | rfl | assumption | omega | (simp only [*, Bool.not_false, Bool.not_true]; first | done | fail) | (simp [*]; first | done | fail)) (by rfl) ?_ | refine r_gu (by rfl) (by rfl) (by rfl) ?_ | refine r_nil ?_) | (first | refine aw_seq ?_ | refine aw_ct (by rfl) (by first | rfl | assumption | omega | (simp only [*, Bool.not_false, Bool.not_true]; first | done | fail) | (simp [*]; first | done | fail)) ?_ | refine aw_cf (by rfl) (by first | rfl | assumption | omega | (simp only [*, Bool.not_false, Bool.not_true]; first | done | fail) | (simp [*]; first | done | fail)) ?_ | refine aw_block ?_ | refine aw_region T0ok cfU_ok (by rfl) ?_ | refine aw_skip ?_ | refine aw_exit ?_ | refine ra_step ?_))); exact hh.out)) : G := h ⟨k⟩
theorem ga_KNK {H G : Prop} (k : H) (h : Hid H → G := by (intro hh; (first | refine r_none ?_ | refine r_gt (by rfl) (by rfl) (by first | rfl | assumption | omega | (simp only [*, Bool.not_false, Bool.not_true]; first | done | fail) | (simp [*]; first | done | fail)) (by rfl) ?_ | refine r_gf (by rfl) (by rfl) (by first | rfl | assumption | omega | (simp only [*, Bool.not_false, Bool.not_true]; first | done | fail) | (simp [*]; first | done | fail)) (by rfl) ?_); refine z_op (by rfl) ?_; refine z_alV ?_ hh.out; focus (first | exact trivial | fail | exact rfl | (first | omega | (simp only [List.length_append, List.length_replicate, List.length_cons, List.length_nil, List.length_set, List.length_take, List.length_drop, true_and]; omega)) | exact cvB (fun w => rfl) | ((repeat' (first | exact rfl | exact cV_len _ | exact cV_ln rfl (by omega) | exact Cel.pos | omega | exact trivial | refine And.intro ?_ ?_)); done) | (simp [*]; done) | (simp; omega)))) : G := h ⟨k⟩
theorem clB_eq {n : Int} {l : List Stp} {w : Int} (hf : fok n l = true) (hw : 0 ≤ w ∧ w < 2 ^ n.toNat) : clB n l w = fB n l w (l.length - 1) := by
  obtain ⟨hn, hl, hst⟩ := fok_t hf
  obtain ⟨k, hk⟩ : ∃ k, l.length = k + 1 := ⟨l.length - 1, by omega⟩
  have hs := hst k (by omega)
  have hlt := fW_lt hst (by omega) hw k (by omega)
  unfold clB
  have e1 : fW n l w (k + 1) = cr (sg (l.getD k Cel.no) (n + (k : Int))) (fW n l w k) := by unfold fW; rw [cg, cr_append]
  rw [hk, e1, sg_bt hs, bt_hi hlt (by omega), decide_eq_true (by omega), Bool.and_true, Bool.false_xor]
  rfl
theorem k_fo (N : Nat) (f : List Stp) (w : Int) (hf : fok (N : Int) f = true) (hw : 0 ≤ w ∧ w < 2 ^ (N : Int).toNat) : Kon Try.prog 21 [vI (N : Int), roA f, vI w] [] (vI (b2i (clB (N : Int) f w))) [] [] := by
  obtain ⟨hn, hl, hst⟩ := fok_t hf
  have hB := k_fb N f w hf hw
  rw [bsF_drop hst (by omega) hw] at hB
  have hget := map_get (fun i_1 => b2i (fB (N : Int) f w i_1)) f.length (f.length - 1) (by omega)
  have hBl : ((List.range f.length).map fun i_1 => b2i (fB (N : Int) f w i_1)).length = f.length := by simp
  rw [clB_eq hf hw]
  generalize ((List.range f.length).map fun i_1 => b2i (fB (N : Int) f w i_1)) = B at *
  have hg : B.getD ((B.length : Int) - 1).toNat Cel.no = b2i (fB (N : Int) f w (f.length - 1)) := by
    have e : ((B.length : Int) - 1).toNat = f.length - 1 := by omega
    rw [e]; exact hget
  have hz : ((B.length : Int) == 0) = false := beq_eq_false_iff_ne.2 (by omega)
  (refine kon_mk T0ok (fn := Try.f21) (c := Try.f21.body.get rfl) Try.func21 rfl (by rfl) (by rfl) (by rfl) ?_; intro hfit hfe)
  (repeat (first | refine gq_KNK ?_ | (refine ga_KNK ?_; intro _hq)))
  ((try refine aw_ret ?_); refine ret_auto2 (by rfl) (by rfl) (by rfl) (by repeat (first | exact trivial | refine ⟨by first | rfl | omega, ?_⟩)) ?_ (by repeat (first | exact trivial | refine ⟨by rfl, by rfl, ?_⟩)) (by repeat (first | exact trivial | refine ⟨by rfl, by rfl, ?_⟩)); try rfl)
  exact congrArg vI hg
theorem pow_le2 {a b : Nat} (h : a ≤ b) : (2 : Int) ^ a ≤ 2 ^ b := by
  have : (2 : Nat) ^ a ≤ 2 ^ b := Nat.pow_le_pow_right (by omega) h
  exact_mod_cast this
end Go.Proofs.Ytdihmpclbgbgpaa

/- Formulas: the bits of the reference, FormOut of the reference. -/
namespace Go.Proofs.Ytdihmpclbgbgpaa
set_option linter.unusedVariables false
set_option linter.unusedSimpArgs false
set_option maxRecDepth 20000
open Go.RowKit
attribute [local irreducible] runA runX AW
def wsTL4 : WsT := [(111, ([], true)), (96, ([], true))] ++ wsT
theorem gq_KNL {H G : Prop} (k : H) (h : Hid H → G := by (intro hh; (first | (first | ((first | refine r_none ?_ | refine r_gt (by rfl) (by rfl) (by first | rfl | assumption | omega | (simp only [*, Bool.not_false, Bool.not_true]; first | done | fail) | (simp [*]; first | done | fail)) (by rfl) ?_ | refine r_gf (by rfl) (by rfl) (by first | rfl | assumption | omega | (simp only [*, Bool.not_false, Bool.not_true]; first | done | fail) | (simp [*]; first | done | fail)) (by rfl) ?_); (first | fail | ((first | (refine z_op (by rfl) ?_; first | refine z_ok ?_ ?_ | refine z_ex ?_ (by first | exact ft_raw rfl rfl | ((first | refine ft_rp rfl rfl rfl ?_ | refine ft_row rfl rfl rfl ?_ | refine ft_rpF rfl rfl rfl ?_ | refine ft_rowF rfl rfl rfl ?_ | refine up_row rfl rfl ?_ | refine up_rowF rfl rfl rfl ?_ | refine ct_0 rfl ?_ | refine ct_r rfl rfl ?_ | refine ct_c rfl rfl rfl ?_ | refine cu_all rfl ?_ | refine cu_to rfl ?_ | refine cu_from rfl ?_ | refine cu_p rfl ?_ | fail); (first | omega | (simp only [List.length_append, List.length_replicate, List.length_cons, List.length_nil, List.length_set, List.length_take, List.length_drop, true_and]; omega))) | exact up_raw rfl | exact pk_t (by first | rfl | assumption | omega | (simp only [*, Bool.not_false, Bool.not_true]; first | done | fail) | (simp [*]; first | done | fail)) rfl | exact pk_f (by first | rfl | assumption | omega | (simp only [*, Bool.not_false, Bool.not_true]; first | done | fail) | (simp [*]; first | done | fail)) rfl | exact rw_c Int rfl | exact rw_raw | exact pu_cv (fun w => rfl) (by omega) | exact pu_of (fun w => rfl) rfl | exact be_of (fun w => rfl) | exact nc_of (fun _ _ _ _ => rfl) rfl | exact bu_of (fun w => rfl) rfl | fail) ?_) | ((first | refine q_callE wsTL4 wsZ (by rfl) ?_ | refine q_callVE wsTL4 (by rfl) (by rfl) ?_); refine ⟨_, _, _, (by first | assumption | exact k_wv _ _), _, by rfl, ?_, ?_⟩)); focus (first | exact trivial | fail | exact rfl | (first | omega | (simp only [List.length_append, List.length_replicate, List.length_cons, List.length_nil, List.length_set, List.length_take, List.length_drop, true_and]; omega)) | exact cvB (fun w => rfl) | ((repeat' (first | exact rfl | exact cV_len _ | exact cV_ln rfl (by omega) | exact Cel.pos | omega | exact trivial | refine And.intro ?_ ?_)); done) | (simp [*]; done) | (simp; omega))) | fail)) | refine r_nt (by rfl) (by rfl) (by first | rfl | assumption | omega | (simp only [*, Bool.not_false, Bool.not_true]; first | done | fail) | (simp [*]; first | done | fail)) (by rfl) ?_ | refine r_nf (by rfl) (by rfl) (by first | rfl | assumption | omega | (simp only [*, Bool.not_false, Bool.not_true]; first | done | fail) | (simp [*]; first | done | fail)) (by rfl) ?_ | refine r_gu (by rfl) (by rfl) (by rfl) ?_ | refine r_nil ?_) | (first | refine aw_seq ?_ | refine aw_ct (by rfl) (by first | rfl | assumption | omega | (simp only [*, Bool.not_false, Bool.not_true]; first | done | fail) | (simp [*]; first | done | fail)) ?_ | refine aw_cf (by rfl) (by first | rfl | assumption | omega | (simp only [*, Bool.not_false, Bool.not_true]; first | done | fail) | (simp [*]; first | done | fail)) ?_ | refine aw_block ?_ | refine aw_region T0ok cfU_ok (by rfl) ?_ | refine aw_skip ?_ | refine aw_exit ?_ | refine ra_step ?_)); (repeat (first | (first | ((first | refine r_none ?_ | refine r_gt (by rfl) (by rfl) (by first | rfl | assumption | omega | (simp only [*, Bool.not_false, Bool.not_true]; first | done | fail) | (simp [*]; first | done | fail)) (by rfl) ?_ | refine r_gf (by rfl) (by rfl) (by first | rfl | assumption | omega | (simp only [*, Bool.not_false, Bool.not_true]; first | done | fail) | (simp [*]; first | done | fail)) (by rfl) ?_); (first | fail | ((first | (refine z_op (by rfl) ?_; first | refine z_ok ?_ ?_ | refine z_ex ?_ (by first | exact ft_raw rfl rfl | ((first | refine ft_rp rfl rfl rfl ?_ | refine ft_row rfl rfl rfl ?_ | refine ft_rpF rfl rfl rfl ?_ | refine ft_rowF rfl rfl rfl ?_ | refine up_row rfl rfl ?_ | refine up_rowF rfl rfl rfl ?_ | refine ct_0 rfl ?_ | refine ct_r rfl rfl ?_ | refine ct_c rfl rfl rfl ?_ | refine cu_all rfl ?_ | refine cu_to rfl ?_ | refine cu_from rfl ?_ | refine cu_p rfl ?_ | fail); (first | omega | (simp only [List.length_append, List.length_replicate, List.length_cons, List.length_nil, List.length_set, List.length_take, List.length_drop, true_and]; omega))) | exact up_raw rfl | exact pk_t (by first | rfl | assumption | omega | (simp only [*, Bool.not_false, Bool.not_true]; first | done | fail) | (simp [*]; first | done | fail)) rfl | exact pk_f (by first | rfl | assumption | omega | (simp only [*, Bool.not_false, Bool.not_true]; first | done | fail) | (simp [*]; first | done | fail)) rfl | exact rw_c Int rfl | exact rw_raw | exact pu_cv (fun w => rfl) (by omega) | exact pu_of (fun w => rfl) rfl | exact be_of (fun w => rfl) | exact nc_of (fun _ _ _ _ => rfl) rfl | exact bu_of (fun w => rfl) rfl | fail) ?_) | ((first | refine q_callE wsTL4 wsZ (by rfl) ?_ | refine q_callVE wsTL4 (by rfl) (by rfl) ?_); refine ⟨_, _, _, (by first | assumption | exact k_wv _ _), _, by rfl, ?_, ?_⟩)); focus (first | exact trivial | fail | exact rfl | (first | omega | (simp only [List.length_append, List.length_replicate, List.length_cons, List.length_nil, List.length_set, List.length_take, List.length_drop, true_and]; omega)) | exact cvB (fun w => rfl) | ((repeat' (first | exact rfl | exact cV_len _ | exact cV_ln rfl (by omega) | exact Cel.pos | omega | exact trivial | refine And.intro ?_ ?_)); done) | (simp [*]; done) | (simp; omega))) | fail)) | refine r_nt (by rfl) (by rfl) (by first | rfl | assumption | omega | (simp only [*, Bool.not_false, Bool.not_true]; first | done | fail) | (simp [*]; first | done | fail)) (by rfl) ?_ | refine r_nf (by rfl) (by rfl) (by first | rfl | assumption | omega | (simp only [*, Bool.not_false, Bool.not_true]; first | done | fail) | (simp [*]; first | done | fail)) (by rfl) ?_ | refine r_gu (by rfl) (by rfl) (by rfl) ?_ | refine r_nil ?_) | (first | refine aw_seq ?_ | refine aw_ct (by rfl) (by first | rfl | assumption | omega | (simp only [*, Bool.not_false, Bool.not_true]; first | done | fail) | (simp [*]; first | done | fail)) ?_ | refine aw_cf (by rfl) (by first | rfl | assumption | omega | (simp only [*, Bool.not_false, Bool.not_true]; first | done | fail) | (simp [*]; first | done | fail)) ?_ | refine aw_block ?_ | refine aw_region T0ok cfU_ok (by rfl) ?_ | refine aw_skip ?_ | refine aw_exit ?_ | refine ra_step ?_))); exact hh.out)) : G := h ⟨k⟩
theorem ga_KNL {H G : Prop} (k : H) (h : Hid H → G := by (intro hh; (first | refine r_none ?_ | refine r_gt (by rfl) (by rfl) (by first | rfl | assumption | omega | (simp only [*, Bool.not_false, Bool.not_true]; first | done | fail) | (simp [*]; first | done | fail)) (by rfl) ?_ | refine r_gf (by rfl) (by rfl) (by first | rfl | assumption | omega | (simp only [*, Bool.not_false, Bool.not_true]; first | done | fail) | (simp [*]; first | done | fail)) (by rfl) ?_); refine z_op (by rfl) ?_; refine z_alV ?_ hh.out; focus (first | exact trivial | fail | exact rfl | (first | omega | (simp only [List.length_append, List.length_replicate, List.length_cons, List.length_nil, List.length_set, List.length_take, List.length_drop, true_and]; omega)) | exact cvB (fun w => rfl) | ((repeat' (first | exact rfl | exact cV_len _ | exact cV_ln rfl (by omega) | exact Cel.pos | omega | exact trivial | refine And.intro ?_ ?_)); done) | (simp [*]; done) | (simp; omega)))) : G := h ⟨k⟩
set_option maxHeartbeats 4000000 in
theorem k_l4 (N : Nat) (l : List Stp) (w : Int) (hf : fok (N : Int) l = true) (hw : 0 ≤ w ∧ w < 2 ^ (N : Int).toNat) : Kon Try.prog 111 [vI (N : Int), roA l, vI w] [] (roA (bsF (N : Int) l w l.length)) [] [] := by
  obtain ⟨hn, hl, hst⟩ := fok_t hf
  have hw8 : w < 256 := by
    have h1 : (2 : Int) ^ (N : Int).toNat ≤ 2 ^ 8 := pow_le2 (by omega)
    omega
  have hlt := fun k hk => fW_lt (w := w) hst (by omega) hw k hk
  have hbit := fun i : Nat => inB_bit hw.1 i
  clear hf
  (refine kon_mk T0ok (fn := Try.f111) (c := Try.f111.body.get rfl) Try.func111 rfl (by rfl) (by rfl) (by rfl) ?_; intro hfit hfe)
  (repeat (first | refine gq_KNL ?_ | (refine ga_KNL ?_; intro _hq)))
  (refine aw_rd [0, 1, 2, 6] [] (fun i : Nat => [(7, .g (.one (.sl 192 i (inB w i).length))), (8, vI i)]) (fun i => [(192, (i, iRow (inB w i)))]) (fun i => i ≤ N) (fun i => N - i) 0 (by rfl) (by rfl) ?_ (by rfl) (by repeat (first | exact trivial | refine ⟨by rfl, ?_⟩ | refine ⟨vI_of (by rfl) (by omega), ?_⟩)) (by repeat (first | exact trivial | refine ⟨by rfl, ?_⟩ | refine ⟨vI_of (by rfl) (by omega), ?_⟩)) ?_)
  · exact Nat.zero_le _
  rintro i hi
  have hil := inB_len w i
  rcases Nat.lt_or_ge i N with h5 | h5
  · have hd : decide ((i : Int) < (N : Int)) = true := decide_eq_true (by omega)
    have e : inB w (i + 1) = inB w i ++ [if bt w (i : Int) then 1 else 0] := by rw [inB, inB_bit hw.1]; rfl
    have hK := k_bitS w (i : Int) (by omega)
    (repeat (first | refine gq_KNL ?_ | (refine ga_KNL ?_; intro _hq)))
    refine ⟨i + 1, h5, ?_, (by first | omega | (dsimp only; omega))⟩
    dsimp only
    rw [e]
    exact ⟨by rfl, ⟨by rfl, (by repeat (first | exact trivial | refine ⟨by rfl, ?_⟩ | refine ⟨vI_of (by rfl) (by omega), ?_⟩))⟩, (by repeat (first | exact trivial | refine ⟨by rfl, ?_⟩ | refine ⟨vI_of (by rfl) (by omega), ?_⟩))⟩
  · obtain rfl : N = i := by omega
    clear hil
    have hd : decide ((N : Int) < (N : Int)) = false := decide_eq_false (by omega)
    (repeat (first | refine gq_KNL ?_ | (refine ga_KNL ?_; intro _hq)))
    rw [← bsF_0 (l := l) hw.1]
    (refine aw_rd [0, 1, 2, 6] [] (fun i : Nat => [(7, .g (.one (.sl 192 (N + i) (bsF (N : Int) l w i).length))), (9, vI i)]) (fun i => [(192, (N + i, iRow (bsF (N : Int) l w i)))]) (fun i => i ≤ l.length) (fun i => l.length - i) 0 (by rfl) (by rfl) ?_ (by rfl) (by repeat (first | exact trivial | refine ⟨by rfl, ?_⟩ | refine ⟨vI_of (by rfl) (by omega), ?_⟩)) (by repeat (first | exact trivial | refine ⟨by rfl, ?_⟩ | refine ⟨vI_of (by rfl) (by omega), ?_⟩)) ?_)
    · exact Nat.zero_le _
    rintro i hi2
    have hbl := bsF_len (N : Int) l w i
    rcases Nat.lt_or_ge i l.length with h6 | h6
    · have hd2 : decide ((i : Int) < (l.length : Int)) = true := decide_eq_true (by omega)
      have hsk := hst i h6
      have e := bsF_succ hsk (by omega) (hlt i (by omega))
      obtain ⟨s, hs⟩ : ∃ s, l.getD (i : Int).toNat (Cel.no : Stp) = s := ⟨_, rfl⟩
      have hs' : l.getD i Cel.no = s := hs
      rw [hs'] at hsk
      obtain ⟨ho, hx, h3, hy⟩ := hsk
      have hyb : 0 ≤ s.y ∧ s.y < ((bsF (N : Int) l w i).length : Int) := by
        by_cases h7 : s.o = 3
        · rw [h3 h7]; omega
        · have := (hy h7).1; omega
      have hX : (bsF (N : Int) l w i).getD s.x.toNat Cel.no = b2i (bt (fW (N : Int) l w i) s.x) := by
        have := bsF_get (N : Int) l w i s.x.toNat (by omega)
        rw [Int.toNat_of_nonneg hx.1] at this
        exact this
      have hY : (bsF (N : Int) l w i).getD s.y.toNat Cel.no = b2i (bt (fW (N : Int) l w i) s.y) := by
        have := bsF_get (N : Int) l w i s.y.toNat (by omega)
        rw [Int.toNat_of_nonneg hyb.1] at this
        exact this
      have e3 : fB (N : Int) l w i = fbt s (bt (fW (N : Int) l w i) s.x) (bt (fW (N : Int) l w i) s.y) := by unfold fB; rw [hs']
      rw [e3] at e
      generalize bt (fW (N : Int) l w i) s.x = p at *
      generalize bt (fW (N : Int) l w i) s.y = q at *
      generalize bsF (N : Int) l w i = B at *
      (repeat (first | refine gq_KNL ?_ | (refine ga_KNL ?_; intro _hq)))
      rw [hs]
      (repeat (first | refine gq_KNL ?_ | (refine ga_KNL ?_; intro _hq)))
      rw [hs]
      (repeat (first | refine gq_KNL ?_ | (refine ga_KNL ?_; intro _hq)))
      rw [hX, hY]
      clear hX hY
      have h4 : s.o = 0 ∨ s.o = 1 ∨ s.o = 2 ∨ s.o = 3 := by omega
      cases p <;> cases q <;> simp only [b2i, if_true, Bool.false_eq_true, if_false]
      all_goals ((repeat (first | refine gq_KNL ?_ | (refine ga_KNL ?_; intro _hq))))
      all_goals (rw [hs])
      all_goals (rcases h4 with h0 | h0 | h0 | h0)
      all_goals (
        rw [h0]
        rw [fbt, h0] at e
        (repeat (first | refine gq_KNL ?_ | (refine ga_KNL ?_; intro _hq)))
        refine ⟨i + 1, h6, ?_, (by first | omega | (dsimp only; omega))⟩
        dsimp only
        rw [e]
        exact ⟨by rfl, ⟨by rfl, (by repeat (first | exact trivial | refine ⟨by rfl, ?_⟩ | refine ⟨vI_of (by rfl) (by omega), ?_⟩))⟩, (by repeat (first | exact trivial | refine ⟨by rfl, ?_⟩ | refine ⟨vI_of (by rfl) (by omega), ?_⟩))⟩)
    · obtain rfl : i = l.length := by omega
      have hd2 : decide ((l.length : Int) < (l.length : Int)) = false := decide_eq_false (by omega)
      (refine aw_freeze 192 (by rfl) (by rfl) ?_; refine aw_slot 7 1 (by rfl) (by rfl) (by first | exact trivial | omega | exact cvB (fun w => rfl) | ((repeat (any_goals (first | exact rfl | exact cV_len _ | exact cV_ln rfl (by omega) | exact Cel.pos | omega | exact trivial | refine And.intro ?_ ?_))); first | done | fail) | (simp [*]; first | done | fail)) ?_)
      (repeat (first | refine gq_KNL ?_ | (refine ga_KNL ?_; intro _hq)))
      ((try refine aw_ret ?_); refine ret_auto2 (by rfl) (by rfl) (by rfl) (by repeat (first | exact trivial | refine ⟨by first | rfl | omega, ?_⟩)) ?_ (by repeat (first | exact trivial | refine ⟨by rfl, by rfl, ?_⟩)) (by repeat (first | exact trivial | refine ⟨by rfl, by rfl, ?_⟩)); try rfl)
theorem k_fbS (N : Nat) (l : List Stp) (w : Int) (h : fok (N : Int) l = true) (hw : 0 ≤ w ∧ w < 2 ^ (N : Int).toNat) : Kon Try.prog 96 [vI (N : Int), roA l, vI w] [] (roA ((bsF (N : Int) l w l.length).drop N)) [] [] := by
  obtain ⟨hn, hl, hst⟩ := fok_t h
  have hF := k_fvS (N : Int) l (by omega) (by omega)
  rw [h] at hF
  have hB := k_l4 N l w h hw
  have hbl := bsF_len (N : Int) l w l.length
  have hW := k_wvS2 (N : Int) w
  rw [wv_of (by omega) hw] at hW
  (refine kon_mk T0ok (fn := Try.f96) (c := Try.f96.body.get rfl) Try.func96 rfl (by rfl) (by rfl) (by rfl) ?_; intro hfit hfe)
  (repeat (first | refine gq_KNL ?_ | (refine ga_KNL ?_; intro _hq)))
  ((try refine aw_ret ?_); refine ret_auto2 (by rfl) (by rfl) (by rfl) (by repeat (first | exact trivial | refine ⟨by first | rfl | omega, ?_⟩)) ?_ (by repeat (first | exact trivial | refine ⟨by rfl, by rfl, ?_⟩)) (by repeat (first | exact trivial | refine ⟨by rfl, by rfl, ?_⟩)); try rfl)
theorem k_foS (N : Nat) (f : List Stp) (w : Int) (hf : fok (N : Int) f = true) (hw : 0 ≤ w ∧ w < 2 ^ (N : Int).toNat) : Kon Try.prog 61 [vI (N : Int), roA f, vI w] [] (vI (b2i (clB (N : Int) f w))) [] [] := by
  obtain ⟨hn, hl, hst⟩ := fok_t hf
  have hB := k_fbS N f w hf hw
  rw [bsF_drop hst (by omega) hw] at hB
  have hget := map_get (fun i_1 => b2i (fB (N : Int) f w i_1)) f.length (f.length - 1) (by omega)
  have hBl : ((List.range f.length).map fun i_1 => b2i (fB (N : Int) f w i_1)).length = f.length := by simp
  rw [clB_eq hf hw]
  generalize ((List.range f.length).map fun i_1 => b2i (fB (N : Int) f w i_1)) = B at *
  have hg : B.getD ((B.length : Int) - 1).toNat Cel.no = b2i (fB (N : Int) f w (f.length - 1)) := by
    have e : ((B.length : Int) - 1).toNat = f.length - 1 := by omega
    rw [e]; exact hget
  have hz : ((B.length : Int) == 0) = false := beq_eq_false_iff_ne.2 (by omega)
  (refine kon_mk T0ok (fn := Try.f61) (c := Try.f61.body.get rfl) Try.func61 rfl (by rfl) (by rfl) (by rfl) ?_; intro hfit hfe)
  (repeat (first | refine gq_KNL ?_ | (refine ga_KNL ?_; intro _hq)))
  ((try refine aw_ret ?_); refine ret_auto2 (by rfl) (by rfl) (by rfl) (by repeat (first | exact trivial | refine ⟨by first | rfl | omega, ?_⟩)) ?_ (by repeat (first | exact trivial | refine ⟨by rfl, by rfl, ?_⟩)) (by repeat (first | exact trivial | refine ⟨by rfl, by rfl, ?_⟩)); try rfl)
  exact congrArg vI hg
end Go.Proofs.Ytdihmpclbgbgpaa

/- Formulas: FormOut of what is not valid; FuncOf, FormOnes of the program. -/
namespace Go.Proofs.Ytdihmpclbgbgpaa
set_option linter.unusedVariables false
set_option linter.unusedSimpArgs false
set_option maxRecDepth 20000
open Go.RowKit
attribute [local irreducible] runA runX AW
theorem gq_KNM {H G : Prop} (k : H) (h : Hid H → G := by (intro hh; (first | (first | ((first | refine r_none ?_ | refine r_gt (by rfl) (by rfl) (by first | rfl | assumption | omega | (simp only [*, Bool.not_false, Bool.not_true]; first | done | fail) | (simp [*]; first | done | fail)) (by rfl) ?_ | refine r_gf (by rfl) (by rfl) (by first | rfl | assumption | omega | (simp only [*, Bool.not_false, Bool.not_true]; first | done | fail) | (simp [*]; first | done | fail)) (by rfl) ?_); (first | fail | ((first | (refine z_op (by rfl) ?_; first | refine z_ok ?_ ?_ | refine z_ex ?_ (by first | exact ft_raw rfl rfl | ((first | refine ft_rp rfl rfl rfl ?_ | refine ft_row rfl rfl rfl ?_ | refine ft_rpF rfl rfl rfl ?_ | refine ft_rowF rfl rfl rfl ?_ | refine up_row rfl rfl ?_ | refine up_rowF rfl rfl rfl ?_ | refine ct_0 rfl ?_ | refine ct_r rfl rfl ?_ | refine ct_c rfl rfl rfl ?_ | refine cu_all rfl ?_ | refine cu_to rfl ?_ | refine cu_from rfl ?_ | refine cu_p rfl ?_ | (first | refine mk_c Int rfl rfl rfl ?_ | refine mk_0 Int rfl rfl ?_)); (first | omega | (simp only [List.length_append, List.length_replicate, List.length_cons, List.length_nil, List.length_set, List.length_take, List.length_drop, true_and]; omega))) | exact up_raw rfl | exact pk_t (by first | rfl | assumption | omega | (simp only [*, Bool.not_false, Bool.not_true]; first | done | fail) | (simp [*]; first | done | fail)) rfl | exact pk_f (by first | rfl | assumption | omega | (simp only [*, Bool.not_false, Bool.not_true]; first | done | fail) | (simp [*]; first | done | fail)) rfl | exact rw_c Int rfl | exact rw_raw | exact pu_cv (fun w => rfl) (by omega) | exact pu_of (fun w => rfl) rfl | exact be_of (fun w => rfl) | exact nc_of (fun _ _ _ _ => rfl) rfl | exact bu_of (fun w => rfl) rfl | fail) ?_) | ((first | refine q_callE wsTL4 wsZ (by rfl) ?_ | refine q_callVE wsTL4 (by rfl) (by rfl) ?_); refine ⟨_, _, _, (by first | assumption | exact k_wv _ _), _, by rfl, ?_, ?_⟩)); focus (first | exact trivial | fail | exact rfl | (first | omega | (simp only [List.length_append, List.length_replicate, List.length_cons, List.length_nil, List.length_set, List.length_take, List.length_drop, true_and]; omega)) | exact cvB (fun w => rfl) | ((repeat' (first | exact rfl | exact cV_len _ | exact cV_ln rfl (by omega) | exact Cel.pos | omega | exact trivial | refine And.intro ?_ ?_)); done) | (simp [*]; done) | (simp; omega))) | fail)) | refine r_nt (by rfl) (by rfl) (by first | rfl | assumption | omega | (simp only [*, Bool.not_false, Bool.not_true]; first | done | fail) | (simp [*]; first | done | fail)) (by rfl) ?_ | refine r_nf (by rfl) (by rfl) (by first | rfl | assumption | omega | (simp only [*, Bool.not_false, Bool.not_true]; first | done | fail) | (simp [*]; first | done | fail)) (by rfl) ?_ | refine r_gu (by rfl) (by rfl) (by rfl) ?_ | refine r_nil ?_) | (first | refine aw_seq ?_ | refine aw_ct (by rfl) (by first | rfl | assumption | omega | (simp only [*, Bool.not_false, Bool.not_true]; first | done | fail) | (simp [*]; first | done | fail)) ?_ | refine aw_cf (by rfl) (by first | rfl | assumption | omega | (simp only [*, Bool.not_false, Bool.not_true]; first | done | fail) | (simp [*]; first | done | fail)) ?_ | refine aw_block ?_ | refine aw_region T0ok cfU_ok (by rfl) ?_ | refine aw_skip ?_ | refine aw_exit ?_ | refine ra_step ?_)); (repeat (first | (first | ((first | refine r_none ?_ | refine r_gt (by rfl) (by rfl) (by first | rfl | assumption | omega | (simp only [*, Bool.not_false, Bool.not_true]; first | done | fail) | (simp [*]; first | done | fail)) (by rfl) ?_ | refine r_gf (by rfl) (by rfl) (by first | rfl | assumption | omega | (simp only [*, Bool.not_false, Bool.not_true]; first | done | fail) | (simp [*]; first | done | fail)) (by rfl) ?_); (first | fail | ((first | (refine z_op (by rfl) ?_; first | refine z_ok ?_ ?_ | refine z_ex ?_ (by first | exact ft_raw rfl rfl | ((first | refine ft_rp rfl rfl rfl ?_ | refine ft_row rfl rfl rfl ?_ | refine ft_rpF rfl rfl rfl ?_ | refine ft_rowF rfl rfl rfl ?_ | refine up_row rfl rfl ?_ | refine up_rowF rfl rfl rfl ?_ | refine ct_0 rfl ?_ | refine ct_r rfl rfl ?_ | refine ct_c rfl rfl rfl ?_ | refine cu_all rfl ?_ | refine cu_to rfl ?_ | refine cu_from rfl ?_ | refine cu_p rfl ?_ | (first | refine mk_c Int rfl rfl rfl ?_ | refine mk_0 Int rfl rfl ?_)); (first | omega | (simp only [List.length_append, List.length_replicate, List.length_cons, List.length_nil, List.length_set, List.length_take, List.length_drop, true_and]; omega))) | exact up_raw rfl | exact pk_t (by first | rfl | assumption | omega | (simp only [*, Bool.not_false, Bool.not_true]; first | done | fail) | (simp [*]; first | done | fail)) rfl | exact pk_f (by first | rfl | assumption | omega | (simp only [*, Bool.not_false, Bool.not_true]; first | done | fail) | (simp [*]; first | done | fail)) rfl | exact rw_c Int rfl | exact rw_raw | exact pu_cv (fun w => rfl) (by omega) | exact pu_of (fun w => rfl) rfl | exact be_of (fun w => rfl) | exact nc_of (fun _ _ _ _ => rfl) rfl | exact bu_of (fun w => rfl) rfl | fail) ?_) | ((first | refine q_callE wsTL4 wsZ (by rfl) ?_ | refine q_callVE wsTL4 (by rfl) (by rfl) ?_); refine ⟨_, _, _, (by first | assumption | exact k_wv _ _), _, by rfl, ?_, ?_⟩)); focus (first | exact trivial | fail | exact rfl | (first | omega | (simp only [List.length_append, List.length_replicate, List.length_cons, List.length_nil, List.length_set, List.length_take, List.length_drop, true_and]; omega)) | exact cvB (fun w => rfl) | ((repeat' (first | exact rfl | exact cV_len _ | exact cV_ln rfl (by omega) | exact Cel.pos | omega | exact trivial | refine And.intro ?_ ?_)); done) | (simp [*]; done) | (simp; omega))) | fail)) | refine r_nt (by rfl) (by rfl) (by first | rfl | assumption | omega | (simp only [*, Bool.not_false, Bool.not_true]; first | done | fail) | (simp [*]; first | done | fail)) (by rfl) ?_ | refine r_nf (by rfl) (by rfl) (by first | rfl | assumption | omega | (simp only [*, Bool.not_false, Bool.not_true]; first | done | fail) | (simp [*]; first | done | fail)) (by rfl) ?_ | refine r_gu (by rfl) (by rfl) (by rfl) ?_ | refine r_nil ?_) | (first | refine aw_seq ?_ | refine aw_ct (by rfl) (by first | rfl | assumption | omega | (simp only [*, Bool.not_false, Bool.not_true]; first | done | fail) | (simp [*]; first | done | fail)) ?_ | refine aw_cf (by rfl) (by first | rfl | assumption | omega | (simp only [*, Bool.not_false, Bool.not_true]; first | done | fail) | (simp [*]; first | done | fail)) ?_ | refine aw_block ?_ | refine aw_region T0ok cfU_ok (by rfl) ?_ | refine aw_skip ?_ | refine aw_exit ?_ | refine ra_step ?_))); exact hh.out)) : G := h ⟨k⟩
theorem ga_KNM {H G : Prop} (k : H) (h : Hid H → G := by (intro hh; (first | refine r_none ?_ | refine r_gt (by rfl) (by rfl) (by first | rfl | assumption | omega | (simp only [*, Bool.not_false, Bool.not_true]; first | done | fail) | (simp [*]; first | done | fail)) (by rfl) ?_ | refine r_gf (by rfl) (by rfl) (by first | rfl | assumption | omega | (simp only [*, Bool.not_false, Bool.not_true]; first | done | fail) | (simp [*]; first | done | fail)) (by rfl) ?_); refine z_op (by rfl) ?_; refine z_alV ?_ hh.out; focus (first | exact trivial | fail | exact rfl | (first | omega | (simp only [List.length_append, List.length_replicate, List.length_cons, List.length_nil, List.length_set, List.length_take, List.length_drop, true_and]; omega)) | exact cvB (fun w => rfl) | ((repeat' (first | exact rfl | exact cV_len _ | exact cV_ln rfl (by omega) | exact Cel.pos | omega | exact trivial | refine And.intro ?_ ?_)); done) | (simp [*]; done) | (simp; omega)))) : G := h ⟨k⟩
/-- What a formula makes of the first words. -/
def foL (n : Int) (f : List Stp) : Nat → List Int
  | 0 => []
  | i + 1 => foL n f i ++ [b2i (clB n f (i : Int))]
theorem foL_len (n : Int) (f : List Stp) : ∀ i, (foL n f i).length = i
  | 0 => rfl
  | i + 1 => by rw [foL, List.length_append, foL_len n f i]; rfl
theorem k_fuI (N : Nat) (f : List Stp) (hf : fok (N : Int) f = true) : Kon Try.prog 28 [vI (N : Int), roA f] [] (slA 0 0 (foL (N : Int) f (2 ^ N))) [iRow (foL (N : Int) f (2 ^ N))] [] := by
  obtain ⟨hn, hl, hst⟩ := fok_t hf
  have hF := k_fv (N : Int) f (by omega) (by omega)
  rw [hf] at hF
  have hT : (1 * 2 ^ (N : Int).toNat : Int) = ((2 ^ N : Nat) : Int) := by rw [Int.toNat_natCast]; simp
  have hT8 : 2 ^ N ≤ 2 ^ 3 := Nat.pow_le_pow_right (by omega) (by omega)
  have hfo := fun w hw => k_fo N f w hf hw
  have hw2 : (2 : Int) ^ (N : Int).toNat = ((2 ^ N : Nat) : Int) := by rw [← hT]; simp
  clear hf hst
  generalize 2 ^ N = T at *
  (refine kon_mk T0ok (fn := Try.f28) (c := Try.f28.body.get rfl) Try.func28 rfl (by rfl) (by rfl) (by rfl) ?_; intro hfit hfe)
  (repeat (first | refine gq_KNM ?_ | (refine ga_KNM ?_; intro _hq)))
  (refine aw_rd [0, 1, 4, 15] [] (fun i : Nat => [(5, .g (.one (.sl 208 i (foL (N : Int) f i).length))), (16, vI i)]) (fun i => [(208, (i, iRow (foL (N : Int) f i)))]) (fun i => i ≤ T) (fun i => T - i) 0 (by rfl) (by rfl) ?_ (by rfl) (by repeat (first | exact trivial | refine ⟨by rfl, ?_⟩ | refine ⟨vI_of (by rfl) (by omega), ?_⟩)) (by repeat (first | exact trivial | refine ⟨by rfl, ?_⟩ | refine ⟨vI_of (by rfl) (by omega), ?_⟩)) ?_)
  · exact Nat.zero_le _
  rintro i hi
  have hil := foL_len (N : Int) f i
  rcases Nat.lt_or_ge i T with h5 | h5
  · have hd : decide ((i : Int) < 1 * 2 ^ (N : Int).toNat) = true := decide_eq_true (by omega)
    have hK := hfo (i : Int) (by omega)
    have e : foL (N : Int) f (i + 1) = foL (N : Int) f i ++ [b2i (clB (N : Int) f (i : Int))] := rfl
    (repeat (first | refine gq_KNM ?_ | (refine ga_KNM ?_; intro _hq)))
    refine ⟨i + 1, h5, ?_, (by first | omega | (dsimp only; omega))⟩
    dsimp only
    rw [e]
    exact ⟨by rfl, ⟨by rfl, (by repeat (first | exact trivial | refine ⟨by rfl, ?_⟩ | refine ⟨vI_of (by rfl) (by omega), ?_⟩))⟩, (by repeat (first | exact trivial | refine ⟨by rfl, ?_⟩ | refine ⟨vI_of (by rfl) (by omega), ?_⟩))⟩
  · obtain rfl : T = i := by omega
    have hd : decide ((T : Int) < 1 * 2 ^ (N : Int).toNat) = false := decide_eq_false (by omega)
    (repeat (first | refine gq_KNM ?_ | (refine ga_KNM ?_; intro _hq)))
    ((try refine aw_ret ?_); refine ret_auto2 (by rfl) (by rfl) (by rfl) (by repeat (first | exact trivial | refine ⟨by first | rfl | omega, ?_⟩)) ?_ (by repeat (first | exact trivial | refine ⟨by rfl, by rfl, ?_⟩)) (by repeat (first | exact trivial | refine ⟨by rfl, by rfl, ?_⟩)); try rfl)
theorem k_fuI0 (n : Int) (l : List Stp) (hl : l.length ≤ 1000) (hr : -1000 ≤ n ∧ n ≤ 1000) (h : fok n l = false) : Kon Try.prog 28 [vI n, roA l] [] vN [] [] := by
  have hF := k_fv n l hl hr
  rw [h] at hF
  (refine kon_mk T0ok (fn := Try.f28) (c := Try.f28.body.get rfl) Try.func28 rfl (by rfl) (by rfl) (by rfl) ?_; intro hfit hfe)
  (repeat (first | refine gq_KNM ?_ | (refine ga_KNM ?_; intro _hq)))
  ((try refine aw_ret ?_); refine ret_auto2 (by rfl) (by rfl) (by rfl) (by repeat (first | exact trivial | refine ⟨by first | rfl | omega, ?_⟩)) ?_ (by repeat (first | exact trivial | refine ⟨by rfl, by rfl, ?_⟩)) (by repeat (first | exact trivial | refine ⟨by rfl, by rfl, ?_⟩)); try rfl)
/-- For how many of the first words a formula is 1. -/
def foC (n : Int) (f : List Stp) : Nat → Int
  | 0 => 0
  | i + 1 => foC n f i + b2i (clB n f (i : Int))
theorem foC_bd (n : Int) (f : List Stp) : ∀ i : Nat, 0 ≤ foC n f i ∧ foC n f i ≤ (i : Int)
  | 0 => by simp [foC]
  | i + 1 => by
    have := foC_bd n f i
    have := b2i_bd (clB n f (i : Int))
    rw [foC]; omega
theorem k_on (N : Nat) (f : List Stp) (hf : fok (N : Int) f = true) : Kon Try.prog 26 [vI (N : Int), roA f] [] (vI (foC (N : Int) f (2 ^ N))) [] [] := by
  obtain ⟨hn, hl, hst⟩ := fok_t hf
  have hF := k_fv (N : Int) f (by omega) (by omega)
  rw [hf] at hF
  have hT : (1 * 2 ^ (N : Int).toNat : Int) = ((2 ^ N : Nat) : Int) := by rw [Int.toNat_natCast]; simp
  have hT8 : 2 ^ N ≤ 2 ^ 3 := Nat.pow_le_pow_right (by omega) (by omega)
  have hfo := fun w hw => k_fo N f w hf hw
  have hw2 : (2 : Int) ^ (N : Int).toNat = ((2 ^ N : Nat) : Int) := by rw [← hT]; simp
  clear hf hst
  generalize 2 ^ N = T at *
  (refine kon_mk T0ok (fn := Try.f26) (c := Try.f26.body.get rfl) Try.func26 rfl (by rfl) (by rfl) (by rfl) ?_; intro hfit hfe)
  (repeat (first | refine gq_KNM ?_ | (refine ga_KNM ?_; intro _hq)))
  (refine aw_rd [0, 1, 4, 12] [] (fun i : Nat => [(5, vI (foC (N : Int) f i)), (13, vI i)]) (fun i => []) (fun i => i ≤ T) (fun i => T - i) 0 (by rfl) (by rfl) ?_ (by rfl) (by repeat (first | exact trivial | refine ⟨by rfl, ?_⟩ | refine ⟨vI_of (by rfl) (by omega), ?_⟩)) (by repeat (first | exact trivial | refine ⟨by rfl, ?_⟩ | refine ⟨vI_of (by rfl) (by omega), ?_⟩)) ?_)
  · exact Nat.zero_le _
  rintro i hi
  have hil := foC_bd (N : Int) f i
  rcases Nat.lt_or_ge i T with h5 | h5
  · have hd : decide ((i : Int) < 1 * 2 ^ (N : Int).toNat) = true := decide_eq_true (by omega)
    have hK := hfo (i : Int) (by omega)
    have hb := b2i_bd (clB (N : Int) f (i : Int))
    have e : foC (N : Int) f (i + 1) = foC (N : Int) f i + b2i (clB (N : Int) f (i : Int)) := rfl
    (repeat (first | refine gq_KNM ?_ | (refine ga_KNM ?_; intro _hq)))
    refine ⟨i + 1, h5, ?_, (by first | omega | (dsimp only; omega))⟩
    dsimp only
    rw [e]
    exact ⟨by rfl, ⟨by rfl, (by repeat (first | exact trivial | refine ⟨by rfl, ?_⟩ | refine ⟨vI_of (by rfl) (by omega), ?_⟩))⟩, (by repeat (first | exact trivial | refine ⟨by rfl, ?_⟩ | refine ⟨vI_of (by rfl) (by omega), ?_⟩))⟩
  · obtain rfl : T = i := by omega
    have hd : decide ((T : Int) < 1 * 2 ^ (N : Int).toNat) = false := decide_eq_false (by omega)
    (repeat (first | refine gq_KNM ?_ | (refine ga_KNM ?_; intro _hq)))
    ((try refine aw_ret ?_); refine ret_auto2 (by rfl) (by rfl) (by rfl) (by repeat (first | exact trivial | refine ⟨by first | rfl | omega, ?_⟩)) ?_ (by repeat (first | exact trivial | refine ⟨by rfl, by rfl, ?_⟩)) (by repeat (first | exact trivial | refine ⟨by rfl, by rfl, ?_⟩)); try rfl)
end Go.Proofs.Ytdihmpclbgbgpaa

/- Formulas: FuncOf of the reference; SameForm of both sides. -/
namespace Go.Proofs.Ytdihmpclbgbgpaa
set_option linter.unusedVariables false
set_option linter.unusedSimpArgs false
set_option maxRecDepth 20000
open Go.RowKit
attribute [local irreducible] runA runX AW
theorem gq_KNN {H G : Prop} (k : H) (h : Hid H → G := by (intro hh; (first | (first | ((first | refine r_none ?_ | refine r_gt (by rfl) (by rfl) (by first | rfl | assumption | omega | (simp only [*, Bool.not_false, Bool.not_true]; first | done | fail) | (simp [*]; first | done | fail)) (by rfl) ?_ | refine r_gf (by rfl) (by rfl) (by first | rfl | assumption | omega | (simp only [*, Bool.not_false, Bool.not_true]; first | done | fail) | (simp [*]; first | done | fail)) (by rfl) ?_); (first | fail | ((first | (refine z_op (by rfl) ?_; first | refine z_ok ?_ ?_ | refine z_ex ?_ (by first | exact ft_raw rfl rfl | ((first | refine ft_rp rfl rfl rfl ?_ | refine ft_row rfl rfl rfl ?_ | refine ft_rpF rfl rfl rfl ?_ | refine ft_rowF rfl rfl rfl ?_ | refine up_row rfl rfl ?_ | refine up_rowF rfl rfl rfl ?_ | refine ct_0 rfl ?_ | refine ct_r rfl rfl ?_ | refine ct_c rfl rfl rfl ?_ | refine cu_all rfl ?_ | refine cu_to rfl ?_ | refine cu_from rfl ?_ | refine cu_p rfl ?_ | (first | refine mk_c Int rfl rfl rfl ?_ | refine mk_0 Int rfl rfl ?_)); (first | omega | (simp only [List.length_append, List.length_replicate, List.length_cons, List.length_nil, List.length_set, List.length_take, List.length_drop, true_and]; omega))) | exact up_raw rfl | exact pk_t (by first | rfl | assumption | omega | (simp only [*, Bool.not_false, Bool.not_true]; first | done | fail) | (simp [*]; first | done | fail)) rfl | exact pk_f (by first | rfl | assumption | omega | (simp only [*, Bool.not_false, Bool.not_true]; first | done | fail) | (simp [*]; first | done | fail)) rfl | exact rw_c Int rfl | exact rw_raw | exact pu_cv (fun w => rfl) (by omega) | exact pu_of (fun w => rfl) rfl | exact be_of (fun w => rfl) | exact nc_of (fun _ _ _ _ => rfl) rfl | exact bu_of (fun w => rfl) rfl | fail) ?_) | ((first | refine q_callE wsTL4 wsZ (by rfl) ?_ | refine q_callVE wsTL4 (by rfl) (by rfl) ?_); refine ⟨_, _, _, (by first | assumption | exact k_wv _ _), _, by rfl, ?_, ?_⟩)); focus (first | exact trivial | fail | exact rfl | (first | omega | (simp only [List.length_append, List.length_replicate, List.length_cons, List.length_nil, List.length_set, List.length_take, List.length_drop, true_and]; omega)) | exact cvB (fun w => rfl) | ((repeat' (first | exact rfl | exact cV_len _ | exact cV_ln rfl (by omega) | exact Cel.pos | omega | exact trivial | refine And.intro ?_ ?_)); done) | (simp [*]; done) | (simp; omega))) | fail)) | refine r_nt (by rfl) (by rfl) (by first | rfl | assumption | omega | (simp only [*, Bool.not_false, Bool.not_true]; first | done | fail) | (simp [*]; first | done | fail)) (by rfl) ?_ | refine r_nf (by rfl) (by rfl) (by first | rfl | assumption | omega | (simp only [*, Bool.not_false, Bool.not_true]; first | done | fail) | (simp [*]; first | done | fail)) (by rfl) ?_ | refine r_gu (by rfl) (by rfl) (by rfl) ?_ | refine r_nil ?_) | (first | refine aw_seq ?_ | refine aw_ct (by rfl) (by first | rfl | assumption | omega | (simp only [*, Bool.not_false, Bool.not_true]; first | done | fail) | (simp [*]; first | done | fail)) ?_ | refine aw_cf (by rfl) (by first | rfl | assumption | omega | (simp only [*, Bool.not_false, Bool.not_true]; first | done | fail) | (simp [*]; first | done | fail)) ?_ | refine aw_block ?_ | refine aw_region T0ok cfU_ok (by rfl) ?_ | refine aw_skip ?_ | refine aw_exit ?_ | refine ra_step ?_)); (repeat (first | (first | ((first | refine r_none ?_ | refine r_gt (by rfl) (by rfl) (by first | rfl | assumption | omega | (simp only [*, Bool.not_false, Bool.not_true]; first | done | fail) | (simp [*]; first | done | fail)) (by rfl) ?_ | refine r_gf (by rfl) (by rfl) (by first | rfl | assumption | omega | (simp only [*, Bool.not_false, Bool.not_true]; first | done | fail) | (simp [*]; first | done | fail)) (by rfl) ?_); (first | fail | ((first | (refine z_op (by rfl) ?_; first | refine z_ok ?_ ?_ | refine z_ex ?_ (by first | exact ft_raw rfl rfl | ((first | refine ft_rp rfl rfl rfl ?_ | refine ft_row rfl rfl rfl ?_ | refine ft_rpF rfl rfl rfl ?_ | refine ft_rowF rfl rfl rfl ?_ | refine up_row rfl rfl ?_ | refine up_rowF rfl rfl rfl ?_ | refine ct_0 rfl ?_ | refine ct_r rfl rfl ?_ | refine ct_c rfl rfl rfl ?_ | refine cu_all rfl ?_ | refine cu_to rfl ?_ | refine cu_from rfl ?_ | refine cu_p rfl ?_ | (first | refine mk_c Int rfl rfl rfl ?_ | refine mk_0 Int rfl rfl ?_)); (first | omega | (simp only [List.length_append, List.length_replicate, List.length_cons, List.length_nil, List.length_set, List.length_take, List.length_drop, true_and]; omega))) | exact up_raw rfl | exact pk_t (by first | rfl | assumption | omega | (simp only [*, Bool.not_false, Bool.not_true]; first | done | fail) | (simp [*]; first | done | fail)) rfl | exact pk_f (by first | rfl | assumption | omega | (simp only [*, Bool.not_false, Bool.not_true]; first | done | fail) | (simp [*]; first | done | fail)) rfl | exact rw_c Int rfl | exact rw_raw | exact pu_cv (fun w => rfl) (by omega) | exact pu_of (fun w => rfl) rfl | exact be_of (fun w => rfl) | exact nc_of (fun _ _ _ _ => rfl) rfl | exact bu_of (fun w => rfl) rfl | fail) ?_) | ((first | refine q_callE wsTL4 wsZ (by rfl) ?_ | refine q_callVE wsTL4 (by rfl) (by rfl) ?_); refine ⟨_, _, _, (by first | assumption | exact k_wv _ _), _, by rfl, ?_, ?_⟩)); focus (first | exact trivial | fail | exact rfl | (first | omega | (simp only [List.length_append, List.length_replicate, List.length_cons, List.length_nil, List.length_set, List.length_take, List.length_drop, true_and]; omega)) | exact cvB (fun w => rfl) | ((repeat' (first | exact rfl | exact cV_len _ | exact cV_ln rfl (by omega) | exact Cel.pos | omega | exact trivial | refine And.intro ?_ ?_)); done) | (simp [*]; done) | (simp; omega))) | fail)) | refine r_nt (by rfl) (by rfl) (by first | rfl | assumption | omega | (simp only [*, Bool.not_false, Bool.not_true]; first | done | fail) | (simp [*]; first | done | fail)) (by rfl) ?_ | refine r_nf (by rfl) (by rfl) (by first | rfl | assumption | omega | (simp only [*, Bool.not_false, Bool.not_true]; first | done | fail) | (simp [*]; first | done | fail)) (by rfl) ?_ | refine r_gu (by rfl) (by rfl) (by rfl) ?_ | refine r_nil ?_) | (first | refine aw_seq ?_ | refine aw_ct (by rfl) (by first | rfl | assumption | omega | (simp only [*, Bool.not_false, Bool.not_true]; first | done | fail) | (simp [*]; first | done | fail)) ?_ | refine aw_cf (by rfl) (by first | rfl | assumption | omega | (simp only [*, Bool.not_false, Bool.not_true]; first | done | fail) | (simp [*]; first | done | fail)) ?_ | refine aw_block ?_ | refine aw_region T0ok cfU_ok (by rfl) ?_ | refine aw_skip ?_ | refine aw_exit ?_ | refine ra_step ?_))); exact hh.out)) : G := h ⟨k⟩
theorem ga_KNN {H G : Prop} (k : H) (h : Hid H → G := by (intro hh; (first | refine r_none ?_ | refine r_gt (by rfl) (by rfl) (by first | rfl | assumption | omega | (simp only [*, Bool.not_false, Bool.not_true]; first | done | fail) | (simp [*]; first | done | fail)) (by rfl) ?_ | refine r_gf (by rfl) (by rfl) (by first | rfl | assumption | omega | (simp only [*, Bool.not_false, Bool.not_true]; first | done | fail) | (simp [*]; first | done | fail)) (by rfl) ?_); refine z_op (by rfl) ?_; refine z_alV ?_ hh.out; focus (first | exact trivial | fail | exact rfl | (first | omega | (simp only [List.length_append, List.length_replicate, List.length_cons, List.length_nil, List.length_set, List.length_take, List.length_drop, true_and]; omega)) | exact cvB (fun w => rfl) | ((repeat' (first | exact rfl | exact cV_len _ | exact cV_ln rfl (by omega) | exact Cel.pos | omega | exact trivial | refine And.intro ?_ ?_)); done) | (simp [*]; done) | (simp; omega)))) : G := h ⟨k⟩
theorem k_fuS (N : Nat) (f : List Stp) (hf : fok (N : Int) f = true) : Kon Try.prog 30 [vI (N : Int), roA f] [] (slA 0 0 (foL (N : Int) f (2 ^ N))) [iRow (foL (N : Int) f (2 ^ N))] [] := by
  obtain ⟨hn, hl, hst⟩ := fok_t hf
  have hF := k_fvS (N : Int) f (by omega) (by omega)
  rw [hf] at hF
  have hT : (1 * 2 ^ (N : Int).toNat : Int) = ((2 ^ N : Nat) : Int) := by rw [Int.toNat_natCast]; simp
  have hT8 : 2 ^ N ≤ 2 ^ 3 := Nat.pow_le_pow_right (by omega) (by omega)
  have hfo := fun w hw => k_foS N f w hf hw
  have hw2 : (2 : Int) ^ (N : Int).toNat = ((2 ^ N : Nat) : Int) := by rw [← hT]; simp
  have hm1 : (if (0 : Int) > (N : Int) then (0 : Int) else (N : Int)) = (N : Int) := if_neg (by omega)
  have hm2 : (if (3 : Int) < (N : Int) then (3 : Int) else (N : Int)) = (N : Int) := if_neg (by omega)
  clear hf hst
  generalize 2 ^ N = T at *
  (refine kon_mk T0ok (fn := Try.f30) (c := Try.f30.body.get rfl) Try.func30 rfl (by rfl) (by rfl) (by rfl) ?_; intro hfit hfe)
  (repeat (first | refine gq_KNN ?_ | (refine ga_KNN ?_; intro _hq)))
  (refine aw_rd [0, 1, 4] [] (fun i : Nat => [(5, .g (.one (.sl 112 i (foL (N : Int) f i).length))), (6, vI i)]) (fun i => [(112, (i, iRow (foL (N : Int) f i)))]) (fun i => i ≤ T) (fun i => T - i) 0 (by rfl) (by rfl) ?_ (by rfl) (by repeat (first | exact trivial | refine ⟨by rfl, ?_⟩ | refine ⟨vI_of (by rfl) (by omega), ?_⟩)) (by repeat (first | exact trivial | refine ⟨by rfl, ?_⟩ | refine ⟨vI_of (by rfl) (by omega), ?_⟩)) ?_)
  · exact Nat.zero_le _
  rintro i hi
  have hil := foL_len (N : Int) f i
  rcases Nat.lt_or_ge i T with h5 | h5
  · have hd : decide ((i : Int) < 1 * 2 ^ (N : Int).toNat) = true := decide_eq_true (by omega)
    have hK := hfo (i : Int) (by omega)
    have e : foL (N : Int) f (i + 1) = foL (N : Int) f i ++ [b2i (clB (N : Int) f (i : Int))] := rfl
    (repeat (first | refine gq_KNN ?_ | (refine ga_KNN ?_; intro _hq)))
    rw [hm1, hm2]
    (repeat (first | refine gq_KNN ?_ | (refine ga_KNN ?_; intro _hq)))
    refine ⟨i + 1, h5, ?_, (by first | omega | (dsimp only; omega))⟩
    dsimp only
    rw [e]
    exact ⟨by rfl, ⟨by rfl, (by repeat (first | exact trivial | refine ⟨by rfl, ?_⟩ | refine ⟨vI_of (by rfl) (by omega), ?_⟩))⟩, (by repeat (first | exact trivial | refine ⟨by rfl, ?_⟩ | refine ⟨vI_of (by rfl) (by omega), ?_⟩))⟩
  · obtain rfl : T = i := by omega
    have hd : decide ((T : Int) < 1 * 2 ^ (N : Int).toNat) = false := decide_eq_false (by omega)
    (repeat (first | refine gq_KNN ?_ | (refine ga_KNN ?_; intro _hq)))
    rw [hm1, hm2]
    (repeat (first | refine gq_KNN ?_ | (refine ga_KNN ?_; intro _hq)))
    ((try refine aw_ret ?_); refine ret_auto2 (by rfl) (by rfl) (by rfl) (by repeat (first | exact trivial | refine ⟨by first | rfl | omega, ?_⟩)) ?_ (by repeat (first | exact trivial | refine ⟨by rfl, by rfl, ?_⟩)) (by repeat (first | exact trivial | refine ⟨by rfl, by rfl, ?_⟩)); try rfl)
theorem k_fuS0 (n : Int) (l : List Stp) (hl : l.length ≤ 1000) (hr : 0 ≤ n ∧ n ≤ 4) (h : fok n l = false) : Kon Try.prog 30 [vI n, roA l] [] (slA 0 0 ([] : List Int)) [iRow []] [] := by
  have hF := k_fvS n l hl (by omega)
  rw [h] at hF
  obtain ⟨m, hm, hm3⟩ : ∃ m : Int, (if (3 : Int) < (if (0 : Int) > n then (0 : Int) else n) then (3 : Int) else (if (0 : Int) > n then (0 : Int) else n)) = m ∧ (0 ≤ m ∧ m ≤ 3) := ⟨_, rfl, by split <;> split <;> omega⟩
  have hpos : (0 : Int) < 2 ^ m.toNat := Int.pow_pos (by decide)
  have hd : decide ((0 : Int) < 1 * 2 ^ m.toNat) = true := decide_eq_true (by omega)
  (refine kon_mk T0ok (fn := Try.f30) (c := Try.f30.body.get rfl) Try.func30 rfl (by rfl) (by rfl) (by rfl) ?_; intro hfit hfe)
  (repeat (first | refine gq_KNN ?_ | (refine ga_KNN ?_; intro _hq)))
  refine aw_unroll 2 ?_
  (repeat (first | refine gq_KNN ?_ | (refine ga_KNN ?_; intro _hq)))
  rw [hm]
  (repeat (first | refine gq_KNN ?_ | (refine ga_KNN ?_; intro _hq)))
  ((try refine aw_ret ?_); refine ret_auto2 (by rfl) (by rfl) (by rfl) (by repeat (first | exact trivial | refine ⟨by first | rfl | omega, ?_⟩)) ?_ (by repeat (first | exact trivial | refine ⟨by rfl, by rfl, ?_⟩)) (by repeat (first | exact trivial | refine ⟨by rfl, by rfl, ?_⟩)); try rfl)
end Go.Proofs.Ytdihmpclbgbgpaa

/- slices.Equal of numbers; SameForm of both sides. -/
namespace Go.Proofs.Ytdihmpclbgbgpaa
set_option linter.unusedVariables false
set_option linter.unusedSimpArgs false
set_option maxRecDepth 20000
open Go.RowKit
attribute [local irreducible] runA runX AW
theorem foL_get (n : Int) (f : List Stp) : ∀ T i : Nat, i < T → (foL n f T).getD i 0 = b2i (clB n f (i : Int))
  | T + 1, i, h => by
    rw [foL]
    rcases Nat.lt_or_ge i T with h1 | h1
    · rw [List.getD_eq_getElem?_getD, List.getElem?_append_left (by rw [foL_len]; exact h1), ← List.getD_eq_getElem?_getD, foL_get n f T i h1]
    · obtain rfl : i = T := by omega
      rw [List.getD_eq_getElem?_getD, List.getElem?_append_right (by rw [foL_len]; exact Nat.le_refl _), foL_len, Nat.sub_self]; rfl
end Go.Proofs.Ytdihmpclbgbgpaa

/- The law FnSameForm. -/
namespace Go.Proofs.Ytdihmpclbgbgpaa
set_option linter.unusedVariables false
set_option linter.unusedSimpArgs false
set_option maxRecDepth 20000
open Go.RowKit
attribute [local irreducible] runA runX AW
end Go.Proofs.Ytdihmpclbgbgpaa
