/- KNF, KNG, KNH, RowD: laid into one text. -/
import Derived.Test.YtdihmpclbgbgpaaQComputeGatesG
import Derived.ProofKit
import Derived.OpenShut
import Derived.ShutString
import Derived.ChangeOld
import Derived.Below
import Derived.Lib.SmallJoins
import Derived.Deep.Slices
import Derived.Deep.Strs

/- Formulas: compute, ComputeGates, FormBits, FormLines of the program; StepGates, ComputeGates of the reference. -/
namespace Go.Proofs.Ytdihmpclbgbgpaa
set_option linter.unusedVariables false
set_option linter.unusedSimpArgs false
set_option maxRecDepth 20000
open Go.RowKit
attribute [local irreducible] runA runX AW
theorem gq_KNF {H G : Prop} (k : H) (h : Hid H → G := by (intro hh; (first | (first | ((first | refine r_none ?_ | refine r_gt (by rfl) (by rfl) (by first | rfl | assumption | omega | (simp only [*, Bool.not_false, Bool.not_true]; first | done | fail) | (simp [*]; first | done | fail)) (by rfl) ?_ | refine r_gf (by rfl) (by rfl) (by first | rfl | assumption | omega | (simp only [*, Bool.not_false, Bool.not_true]; first | done | fail) | (simp [*]; first | done | fail)) (by rfl) ?_); (first | fail | ((first | (refine z_op (by rfl) ?_; first | refine z_ok ?_ ?_ | refine z_ex ?_ (by first | exact ft_raw rfl rfl | ((first | refine ft_rp rfl rfl rfl ?_ | refine ft_row rfl rfl rfl ?_ | refine ft_rpF rfl rfl rfl ?_ | refine ft_rowF rfl rfl rfl ?_ | refine up_row rfl rfl ?_ | refine up_rowF rfl rfl rfl ?_ | refine ct_0 rfl ?_ | refine ct_r rfl rfl ?_ | refine ct_c rfl rfl rfl ?_ | refine cu_all rfl ?_ | refine cu_to rfl ?_ | refine cu_from rfl ?_ | refine cu_p rfl ?_ | fail); (first | omega | (simp only [List.length_append, List.length_replicate, List.length_cons, List.length_nil, List.length_set, List.length_take, List.length_drop, true_and]; omega))) | exact up_raw rfl | exact pk_t (by first | rfl | assumption | omega | (simp only [*, Bool.not_false, Bool.not_true]; first | done | fail) | (simp [*]; first | done | fail)) rfl | exact pk_f (by first | rfl | assumption | omega | (simp only [*, Bool.not_false, Bool.not_true]; first | done | fail) | (simp [*]; first | done | fail)) rfl | exact rw_c Gt rfl | exact rw_raw | exact pu_cv (fun w => rfl) (by omega) | exact pu_of (fun w => rfl) rfl | exact be_of (fun w => rfl) | exact nc_of (fun _ _ _ _ => rfl) rfl | exact bu_of (fun w => rfl) rfl | fail) ?_) | ((first | refine q_callE wsT wsZ (by rfl) ?_ | refine q_callVE wsT (by rfl) (by rfl) ?_); refine ⟨_, _, _, (by first | assumption | exact k_wv _ _), _, by rfl, ?_, ?_⟩)); focus (first | exact trivial | fail | exact rfl | (first | omega | (simp only [List.length_append, List.length_replicate, List.length_cons, List.length_nil, List.length_set, List.length_take, List.length_drop, true_and]; omega)) | exact cvB (fun w => rfl) | ((repeat' (first | exact rfl | exact cV_len _ | exact cV_ln rfl (by omega) | exact Cel.pos | omega | exact trivial | refine And.intro ?_ ?_)); done) | (simp [*]; done) | (simp; omega))) | refine q_clip (by rfl) clipG (by first | exact trivial | omega | exact cvB (fun w => rfl) | ((repeat (any_goals (first | exact rfl | exact cV_len _ | exact cV_ln rfl (by omega) | exact Cel.pos | omega | exact trivial | refine And.intro ?_ ?_))); first | done | fail) | (simp [*]; first | done | fail)) ?_)) | refine r_nt (by rfl) (by rfl) (by first | rfl | assumption | omega | (simp only [*, Bool.not_false, Bool.not_true]; first | done | fail) | (simp [*]; first | done | fail)) (by rfl) ?_ | refine r_nf (by rfl) (by rfl) (by first | rfl | assumption | omega | (simp only [*, Bool.not_false, Bool.not_true]; first | done | fail) | (simp [*]; first | done | fail)) (by rfl) ?_ | refine r_gu (by rfl) (by rfl) (by rfl) ?_ | refine r_nil ?_) | (first | refine aw_seq ?_ | refine aw_ct (by rfl) (by first | rfl | assumption | omega | (simp only [*, Bool.not_false, Bool.not_true]; first | done | fail) | (simp [*]; first | done | fail)) ?_ | refine aw_cf (by rfl) (by first | rfl | assumption | omega | (simp only [*, Bool.not_false, Bool.not_true]; first | done | fail) | (simp [*]; first | done | fail)) ?_ | refine aw_block ?_ | refine aw_region T0ok cfU_ok (by rfl) ?_ | refine aw_skip ?_ | refine aw_exit ?_ | refine ra_step ?_)); (repeat (first | (first | ((first | refine r_none ?_ | refine r_gt (by rfl) (by rfl) (by first | rfl | assumption | omega | (simp only [*, Bool.not_false, Bool.not_true]; first | done | fail) | (simp [*]; first | done | fail)) (by rfl) ?_ | refine r_gf (by rfl) (by rfl) (by first | rfl | assumption | omega | (simp only [*, Bool.not_false, Bool.not_true]; first | done | fail) | (simp [*]; first | done | fail)) (by rfl) ?_); (first | fail | ((first | (refine z_op (by rfl) ?_; first | refine z_ok ?_ ?_ | refine z_ex ?_ (by first | exact ft_raw rfl rfl | ((first | refine ft_rp rfl rfl rfl ?_ | refine ft_row rfl rfl rfl ?_ | refine ft_rpF rfl rfl rfl ?_ | refine ft_rowF rfl rfl rfl ?_ | refine up_row rfl rfl ?_ | refine up_rowF rfl rfl rfl ?_ | refine ct_0 rfl ?_ | refine ct_r rfl rfl ?_ | refine ct_c rfl rfl rfl ?_ | refine cu_all rfl ?_ | refine cu_to rfl ?_ | refine cu_from rfl ?_ | refine cu_p rfl ?_ | fail); (first | omega | (simp only [List.length_append, List.length_replicate, List.length_cons, List.length_nil, List.length_set, List.length_take, List.length_drop, true_and]; omega))) | exact up_raw rfl | exact pk_t (by first | rfl | assumption | omega | (simp only [*, Bool.not_false, Bool.not_true]; first | done | fail) | (simp [*]; first | done | fail)) rfl | exact pk_f (by first | rfl | assumption | omega | (simp only [*, Bool.not_false, Bool.not_true]; first | done | fail) | (simp [*]; first | done | fail)) rfl | exact rw_c Gt rfl | exact rw_raw | exact pu_cv (fun w => rfl) (by omega) | exact pu_of (fun w => rfl) rfl | exact be_of (fun w => rfl) | exact nc_of (fun _ _ _ _ => rfl) rfl | exact bu_of (fun w => rfl) rfl | fail) ?_) | ((first | refine q_callE wsT wsZ (by rfl) ?_ | refine q_callVE wsT (by rfl) (by rfl) ?_); refine ⟨_, _, _, (by first | assumption | exact k_wv _ _), _, by rfl, ?_, ?_⟩)); focus (first | exact trivial | fail | exact rfl | (first | omega | (simp only [List.length_append, List.length_replicate, List.length_cons, List.length_nil, List.length_set, List.length_take, List.length_drop, true_and]; omega)) | exact cvB (fun w => rfl) | ((repeat' (first | exact rfl | exact cV_len _ | exact cV_ln rfl (by omega) | exact Cel.pos | omega | exact trivial | refine And.intro ?_ ?_)); done) | (simp [*]; done) | (simp; omega))) | refine q_clip (by rfl) clipG (by first | exact trivial | omega | exact cvB (fun w => rfl) | ((repeat (any_goals (first | exact rfl | exact cV_len _ | exact cV_ln rfl (by omega) | exact Cel.pos | omega | exact trivial | refine And.intro ?_ ?_))); first | done | fail) | (simp [*]; first | done | fail)) ?_)) | refine r_nt (by rfl) (by rfl) (by first | rfl | assumption | omega | (simp only [*, Bool.not_false, Bool.not_true]; first | done | fail) | (simp [*]; first | done | fail)) (by rfl) ?_ | refine r_nf (by rfl) (by rfl) (by first | rfl | assumption | omega | (simp only [*, Bool.not_false, Bool.not_true]; first | done | fail) | (simp [*]; first | done | fail)) (by rfl) ?_ | refine r_gu (by rfl) (by rfl) (by rfl) ?_ | refine r_nil ?_) | (first | refine aw_seq ?_ | refine aw_ct (by rfl) (by first | rfl | assumption | omega | (simp only [*, Bool.not_false, Bool.not_true]; first | done | fail) | (simp [*]; first | done | fail)) ?_ | refine aw_cf (by rfl) (by first | rfl | assumption | omega | (simp only [*, Bool.not_false, Bool.not_true]; first | done | fail) | (simp [*]; first | done | fail)) ?_ | refine aw_block ?_ | refine aw_region T0ok cfU_ok (by rfl) ?_ | refine aw_skip ?_ | refine aw_exit ?_ | refine ra_step ?_))); exact hh.out)) : G := h ⟨k⟩
theorem ga_KNF {H G : Prop} (k : H) (h : Hid H → G := by (intro hh; (first | refine r_none ?_ | refine r_gt (by rfl) (by rfl) (by first | rfl | assumption | omega | (simp only [*, Bool.not_false, Bool.not_true]; first | done | fail) | (simp [*]; first | done | fail)) (by rfl) ?_ | refine r_gf (by rfl) (by rfl) (by first | rfl | assumption | omega | (simp only [*, Bool.not_false, Bool.not_true]; first | done | fail) | (simp [*]; first | done | fail)) (by rfl) ?_); refine z_op (by rfl) ?_; refine z_al ?_ hh.out; focus (first | exact trivial | fail | exact rfl | (first | omega | (simp only [List.length_append, List.length_replicate, List.length_cons, List.length_nil, List.length_set, List.length_take, List.length_drop, true_and]; omega)) | exact cvB (fun w => rfl) | ((repeat' (first | exact rfl | exact cV_len _ | exact cV_ln rfl (by omega) | exact Cel.pos | omega | exact trivial | refine And.intro ?_ ?_)); done) | (simp [*]; done) | (simp; omega)))) : G := h ⟨k⟩
theorem gs_KNF {H G : Prop} (k : H) (h : Hid H → G := by (intro hh; (first | ((first | refine r_none ?_ | refine r_gt (by rfl) (by rfl) (by first | rfl | assumption | omega | (simp only [*, Bool.not_false, Bool.not_true]; first | done | fail) | (simp [*]; first | done | fail)) (by rfl) ?_ | refine r_gf (by rfl) (by rfl) (by first | rfl | assumption | omega | (simp only [*, Bool.not_false, Bool.not_true]; first | done | fail) | (simp [*]; first | done | fail)) (by rfl) ?_); (first | fail | ((first | (refine z_op (by rfl) ?_; first | refine z_ok ?_ ?_ | refine z_ex ?_ (by first | exact ft_raw rfl rfl | ((first | refine ft_rp rfl rfl rfl ?_ | refine ft_row rfl rfl rfl ?_ | refine ft_rpF rfl rfl rfl ?_ | refine ft_rowF rfl rfl rfl ?_ | refine up_row rfl rfl ?_ | refine up_rowF rfl rfl rfl ?_ | refine ct_0 rfl ?_ | refine ct_r rfl rfl ?_ | refine ct_c rfl rfl rfl ?_ | refine cu_all rfl ?_ | refine cu_to rfl ?_ | refine cu_from rfl ?_ | refine cu_p rfl ?_ | fail); (first | omega | (simp only [List.length_append, List.length_replicate, List.length_cons, List.length_nil, List.length_set, List.length_take, List.length_drop, true_and]; omega))) | exact up_raw rfl | exact pk_t (by first | rfl | assumption | omega | (simp only [*, Bool.not_false, Bool.not_true]; first | done | fail) | (simp [*]; first | done | fail)) rfl | exact pk_f (by first | rfl | assumption | omega | (simp only [*, Bool.not_false, Bool.not_true]; first | done | fail) | (simp [*]; first | done | fail)) rfl | exact rw_c Gt rfl | exact rw_raw | exact pu_cv (fun w => rfl) (by omega) | exact pu_of (fun w => rfl) rfl | exact be_of (fun w => rfl) | exact nc_of (fun _ _ _ _ => rfl) rfl | exact bu_of (fun w => rfl) rfl | fail) ?_) | ((first | refine q_callE wsT wsZ (by rfl) ?_ | refine q_callVE wsT (by rfl) (by rfl) ?_); refine ⟨_, _, _, (by first | assumption | exact k_wv _ _), _, by rfl, ?_, ?_⟩)); focus (first | exact trivial | fail | exact rfl | (first | omega | (simp only [List.length_append, List.length_replicate, List.length_cons, List.length_nil, List.length_set, List.length_take, List.length_drop, true_and]; omega)) | exact cvB (fun w => rfl) | ((repeat' (first | exact rfl | exact cV_len _ | exact cV_ln rfl (by omega) | exact Cel.pos | omega | exact trivial | refine And.intro ?_ ?_)); done) | (simp [*]; done) | (simp; omega))) | refine q_clip (by rfl) clipG (by first | exact trivial | omega | exact cvB (fun w => rfl) | ((repeat (any_goals (first | exact rfl | exact cV_len _ | exact cV_ln rfl (by omega) | exact Cel.pos | omega | exact trivial | refine And.intro ?_ ?_))); first | done | fail) | (simp [*]; first | done | fail)) ?_)) | refine r_nt (by rfl) (by rfl) (by first | rfl | assumption | omega | (simp only [*, Bool.not_false, Bool.not_true]; first | done | fail) | (simp [*]; first | done | fail)) (by rfl) ?_ | refine r_nf (by rfl) (by rfl) (by first | rfl | assumption | omega | (simp only [*, Bool.not_false, Bool.not_true]; first | done | fail) | (simp [*]; first | done | fail)) (by rfl) ?_ | refine r_gu (by rfl) (by rfl) (by rfl) ?_ | refine r_nil ?_); (repeat (first | ((first | refine r_none ?_ | refine r_gt (by rfl) (by rfl) (by first | rfl | assumption | omega | (simp only [*, Bool.not_false, Bool.not_true]; first | done | fail) | (simp [*]; first | done | fail)) (by rfl) ?_ | refine r_gf (by rfl) (by rfl) (by first | rfl | assumption | omega | (simp only [*, Bool.not_false, Bool.not_true]; first | done | fail) | (simp [*]; first | done | fail)) (by rfl) ?_); (first | fail | ((first | (refine z_op (by rfl) ?_; first | refine z_ok ?_ ?_ | refine z_ex ?_ (by first | exact ft_raw rfl rfl | ((first | refine ft_rp rfl rfl rfl ?_ | refine ft_row rfl rfl rfl ?_ | refine ft_rpF rfl rfl rfl ?_ | refine ft_rowF rfl rfl rfl ?_ | refine up_row rfl rfl ?_ | refine up_rowF rfl rfl rfl ?_ | refine ct_0 rfl ?_ | refine ct_r rfl rfl ?_ | refine ct_c rfl rfl rfl ?_ | refine cu_all rfl ?_ | refine cu_to rfl ?_ | refine cu_from rfl ?_ | refine cu_p rfl ?_ | fail); (first | omega | (simp only [List.length_append, List.length_replicate, List.length_cons, List.length_nil, List.length_set, List.length_take, List.length_drop, true_and]; omega))) | exact up_raw rfl | exact pk_t (by first | rfl | assumption | omega | (simp only [*, Bool.not_false, Bool.not_true]; first | done | fail) | (simp [*]; first | done | fail)) rfl | exact pk_f (by first | rfl | assumption | omega | (simp only [*, Bool.not_false, Bool.not_true]; first | done | fail) | (simp [*]; first | done | fail)) rfl | exact rw_c Gt rfl | exact rw_raw | exact pu_cv (fun w => rfl) (by omega) | exact pu_of (fun w => rfl) rfl | exact be_of (fun w => rfl) | exact nc_of (fun _ _ _ _ => rfl) rfl | exact bu_of (fun w => rfl) rfl | fail) ?_) | ((first | refine q_callE wsT wsZ (by rfl) ?_ | refine q_callVE wsT (by rfl) (by rfl) ?_); refine ⟨_, _, _, (by first | assumption | exact k_wv _ _), _, by rfl, ?_, ?_⟩)); focus (first | exact trivial | fail | exact rfl | (first | omega | (simp only [List.length_append, List.length_replicate, List.length_cons, List.length_nil, List.length_set, List.length_take, List.length_drop, true_and]; omega)) | exact cvB (fun w => rfl) | ((repeat' (first | exact rfl | exact cV_len _ | exact cV_ln rfl (by omega) | exact Cel.pos | omega | exact trivial | refine And.intro ?_ ?_)); done) | (simp [*]; done) | (simp; omega))) | refine q_clip (by rfl) clipG (by first | exact trivial | omega | exact cvB (fun w => rfl) | ((repeat (any_goals (first | exact rfl | exact cV_len _ | exact cV_ln rfl (by omega) | exact Cel.pos | omega | exact trivial | refine And.intro ?_ ?_))); first | done | fail) | (simp [*]; first | done | fail)) ?_)) | refine r_nt (by rfl) (by rfl) (by first | rfl | assumption | omega | (simp only [*, Bool.not_false, Bool.not_true]; first | done | fail) | (simp [*]; first | done | fail)) (by rfl) ?_ | refine r_nf (by rfl) (by rfl) (by first | rfl | assumption | omega | (simp only [*, Bool.not_false, Bool.not_true]; first | done | fail) | (simp [*]; first | done | fail)) (by rfl) ?_ | refine r_gu (by rfl) (by rfl) (by rfl) ?_ | refine r_nil ?_)); exact hh.out)) : G := h ⟨k⟩
theorem gc_KNF {H G : Prop} (k : H) (h : Hid H → G := by (intro hh; (first | refine aw_seq ?_ | refine aw_ct (by rfl) (by first | rfl | assumption | omega | (simp only [*, Bool.not_false, Bool.not_true]; first | done | fail) | (simp [*]; first | done | fail)) ?_ | refine aw_cf (by rfl) (by first | rfl | assumption | omega | (simp only [*, Bool.not_false, Bool.not_true]; first | done | fail) | (simp [*]; first | done | fail)) ?_ | refine aw_block ?_ | refine aw_region T0ok cfU_ok (by rfl) ?_ | refine aw_skip ?_ | refine aw_exit ?_ | refine ra_step ?_); (repeat (first | refine aw_seq ?_ | refine aw_ct (by rfl) (by first | rfl | assumption | omega | (simp only [*, Bool.not_false, Bool.not_true]; first | done | fail) | (simp [*]; first | done | fail)) ?_ | refine aw_cf (by rfl) (by first | rfl | assumption | omega | (simp only [*, Bool.not_false, Bool.not_true]; first | done | fail) | (simp [*]; first | done | fail)) ?_ | refine aw_block ?_ | refine aw_region T0ok cfU_ok (by rfl) ?_ | refine aw_skip ?_ | refine aw_exit ?_ | refine ra_step ?_)); exact hh.out)) : G := h ⟨k⟩
theorem k_sgI (s : Stp) (L : Int) (h : SOk L s) (hL : L ≤ 7) : Kon Try.prog 86 [stV s, vI L] [] (slA 0 0 (sg s L)) [gRow (sg s L)] [] := by
  have h4 : s.o = 0 ∨ s.o = 1 ∨ s.o = 2 ∨ s.o = 3 := by have := h.1; omega
  rcases h4 with h0 | h0 | h0 | h0
  · exact k_sg0 s L h0 h hL
  · exact k_sg1 s L h0 h hL
  · exact k_sg2 s L h0 h hL
  · exact k_sg3 s L h0 h hL
theorem k_compute (n : Int) (l : List Stp) (h : fok n l = true) : Kon Try.prog 48 [vI n, roA l] [] (slA 0 0 (cg n l l.length)) [gRow (cg n l l.length)] [] := by
  obtain ⟨hn, hl, hst⟩ := fok_t h
  clear h
  (refine kon_mk T0ok (fn := Try.f48) (c := Try.f48.body.get rfl) Try.func48 rfl (by rfl) (by rfl) (by rfl) ?_; intro hfit hfe)
  (repeat (first | refine gq_KNF ?_ | (refine ga_KNF ?_; intro _q ⟨_he, _hq⟩)))
  (refine aw_rd [0, 1, 4, 9, 10] [] (fun i : Nat => [(5, .g (.one (.sl 128 i (cg n l i).length))), (11, vI i)]) (fun i => [(128, (i, gRow (cg n l i)))]) (fun i => i ≤ l.length) (fun i => l.length - i) 0 (by rfl) (by rfl) ?_ (by rfl) (by repeat (first | exact trivial | refine ⟨by rfl, ?_⟩ | refine ⟨vI_of (by rfl) (by omega), ?_⟩)) (by repeat (first | exact trivial | refine ⟨by rfl, ?_⟩ | refine ⟨vI_of (by rfl) (by omega), ?_⟩)) ?_)
  · exact Nat.zero_le _
  rintro i hi
  have hcl := cg_len n l i
  rcases Nat.lt_or_ge i l.length with h6 | h6
  · have hd : decide ((i : Int) < (l.length : Int)) = true := decide_eq_true (by omega)
    have hsk := hst i h6
    have hN := k_sgI _ _ hsk (by omega)
    have hsl := sg_len (l.getD i Cel.no) (n + (i : Int))
    have e : cg n l (i + 1) = cg n l i ++ sg (l.getD i Cel.no) (n + (i : Int)) := rfl
    obtain ⟨s, hs⟩ : ∃ s, l.getD (i : Int).toNat (Cel.no : Stp) = s := ⟨_, rfl⟩
    have hs' : l.getD i Cel.no = s := hs
    rw [hs'] at hN e hsl
    generalize sg s (n + (i : Int)) = G at *
    (repeat refine gc_KNF ?_)
    (repeat (first | refine gs_KNF ?_ | (refine ga_KNF ?_; intro _q ⟨_he, _hq⟩)))
    (repeat refine gc_KNF ?_)
    (repeat (first | refine gs_KNF ?_ | (refine ga_KNF ?_; intro _q ⟨_he, _hq⟩)))
    rw [hs]
    (repeat (first | refine gq_KNF ?_ | (refine ga_KNF ?_; intro _q ⟨_he, _hq⟩)))
    refine ⟨i + 1, h6, ?_, (by first | omega | (dsimp only; omega))⟩
    dsimp only
    rw [e]
    exact ⟨by rfl, ⟨by rfl, (by repeat (first | exact trivial | refine ⟨by rfl, ?_⟩ | refine ⟨vI_of (by rfl) (by omega), ?_⟩))⟩, (by repeat (first | exact trivial | refine ⟨by rfl, ?_⟩ | refine ⟨vI_of (by rfl) (by omega), ?_⟩))⟩
  · obtain rfl : i = l.length := by omega
    have hd : decide ((l.length : Int) < (l.length : Int)) = false := decide_eq_false (by omega)
    have hcv : (cV (cg n l l.length)).length = (cg n l l.length).length * Cel.sz Gt := cV_len _
    (repeat (first | refine gq_KNF ?_ | (refine ga_KNF ?_; intro _q ⟨_he, _hq⟩)))
    ((try refine aw_ret ?_); refine ret_auto2 (by rfl) (by rfl) (by rfl) (by repeat (first | exact trivial | refine ⟨by first | rfl | omega, ?_⟩)) ?_ (by repeat (first | exact trivial | refine ⟨by rfl, by rfl, ?_⟩)) (by repeat (first | exact trivial | refine ⟨by rfl, by rfl, ?_⟩)); try rfl)
theorem k_cgI (n : Int) (l : List Stp) (h : fok n l = true) : Kon Try.prog 10 [vI n, roA l] [] (slA 0 0 (cg n l l.length)) [gRow (cg n l l.length)] [] := by
  obtain ⟨hn, hl, hst⟩ := fok_t h
  have hF := k_fv n l (by omega) (by omega)
  rw [h] at hF
  have hK := k_compute n l h
  (refine kon_mk T0ok (fn := Try.f10) (c := Try.f10.body.get rfl) Try.func10 rfl (by rfl) (by rfl) (by rfl) ?_; intro hfit hfe)
  (repeat (first | refine gq_KNF ?_ | (refine ga_KNF ?_; intro _q ⟨_he, _hq⟩)))
  ((try refine aw_ret ?_); refine ret_auto2 (by rfl) (by rfl) (by rfl) (by repeat (first | exact trivial | refine ⟨by first | rfl | omega, ?_⟩)) ?_ (by repeat (first | exact trivial | refine ⟨by rfl, by rfl, ?_⟩)) (by repeat (first | exact trivial | refine ⟨by rfl, by rfl, ?_⟩)); try rfl)
theorem k_cgI0 (n : Int) (l : List Stp) (hl : l.length ≤ 1000) (hr : -1000 ≤ n ∧ n ≤ 1000) (h : fok n l = false) : Kon Try.prog 10 [vI n, roA l] [] vN [] [] := by
  have hF := k_fv n l hl hr
  rw [h] at hF
  (refine kon_mk T0ok (fn := Try.f10) (c := Try.f10.body.get rfl) Try.func10 rfl (by rfl) (by rfl) (by rfl) ?_; intro hfit hfe)
  (repeat (first | refine gq_KNF ?_ | (refine ga_KNF ?_; intro _q ⟨_he, _hq⟩)))
  ((try refine aw_ret ?_); refine ret_auto2 (by rfl) (by rfl) (by rfl) (by repeat (first | exact trivial | refine ⟨by first | rfl | omega, ?_⟩)) ?_ (by repeat (first | exact trivial | refine ⟨by rfl, by rfl, ?_⟩)) (by repeat (first | exact trivial | refine ⟨by rfl, by rfl, ?_⟩)); try rfl)
theorem k_fl (n : Int) (l : List Stp) (h : fok n l = true) : Kon Try.prog 15 [vI n, roA l] [] (vI (n + (l.length : Int) + 1)) [] [] := by
  obtain ⟨hn, hl, hst⟩ := fok_t h
  have hF := k_fv n l (by omega) (by omega)
  rw [h] at hF
  (refine kon_mk T0ok (fn := Try.f15) (c := Try.f15.body.get rfl) Try.func15 rfl (by rfl) (by rfl) (by rfl) ?_; intro hfit hfe)
  (repeat (first | refine gq_KNF ?_ | (refine ga_KNF ?_; intro _q ⟨_he, _hq⟩)))
  ((try refine aw_ret ?_); refine ret_auto2 (by rfl) (by rfl) (by rfl) (by repeat (first | exact trivial | refine ⟨by first | rfl | omega, ?_⟩)) ?_ (by repeat (first | exact trivial | refine ⟨by rfl, by rfl, ?_⟩)) (by repeat (first | exact trivial | refine ⟨by rfl, by rfl, ?_⟩)); try rfl)
theorem k_fb (N : Nat) (l : List Stp) (w : Int) (h : fok (N : Int) l = true) (hw : 0 ≤ w ∧ w < 2 ^ (N : Int).toNat) : Kon Try.prog 16 [vI (N : Int), roA l, vI w] [] (slA 0 0 ((bsF (N : Int) l w l.length).drop N)) [iRow ((bsF (N : Int) l w l.length).drop N)] [] := by
  obtain ⟨hn, hl, hst⟩ := fok_t h
  have hF := k_fv (N : Int) l (by omega) (by omega)
  rw [h] at hF
  have hB := k_bitsFor N l w h hw
  have hW := k_wv (N : Int) w
  rw [wv_of (by omega) hw] at hW
  (refine kon_mk T0ok (fn := Try.f16) (c := Try.f16.body.get rfl) Try.func16 rfl (by rfl) (by rfl) (by rfl) ?_; intro hfit hfe)
  (repeat (first | refine gq_KNF ?_ | (refine ga_KNF ?_; intro _q ⟨_he, _hq⟩)))
  ((try refine aw_ret ?_); refine ret_auto2 (by rfl) (by rfl) (by rfl) (by repeat (first | exact trivial | refine ⟨by first | rfl | omega, ?_⟩)) ?_ (by repeat (first | exact trivial | refine ⟨by rfl, by rfl, ?_⟩)) (by repeat (first | exact trivial | refine ⟨by rfl, by rfl, ?_⟩)); try rfl)
theorem sg_cok {s : Stp} {L : Int} (h : SOk L s) (hL : L ≤ 7) : cokB 8 (sg s L) = true := by
  refine cokB_mkM (by omega) (by have := (sg_len s L).2; omega) (sg_ok h (by omega) (by omega))
theorem k_sgS0 (s : Stp) (L : Int) (h0 : s.o = 0) (h : SOk L s) (hL : L ≤ 7) : Kon Try.prog 49 [stV s, vI L] [] (slA 0 0 (sg s L)) [gRow (sg s L)] [] := by
  have hC := k_cvS 8 (sg s L) (by have := (sg_len s L).2; omega) (by omega)
  rw [sg_cok h hL] at hC
  have eg : sg s L = [⟨2, s.x, s.y, L⟩] := by unfold sg; rw [h0]; rfl
  have d0 : (s.o == 0) = true := by simp [h0]
  have d9 : (s.o != 3) = true := by simp [h0]
  have d8 : (s.x == s.y) = false := by
    have := (h.2.2.2 (by omega)).2
    simp only [beq_eq_false_iff_ne, ne_eq]; omega
  rw [eg] at hC ⊢
  clear h0 h eg
  (refine kon_mk T0ok (fn := Try.f49) (c := Try.f49.body.get rfl) Try.func49 rfl (by rfl) (by rfl) (by rfl) ?_; intro hfit hfe)
  (repeat (first | refine gq_KNF ?_ | (refine ga_KNF ?_; intro _q ⟨_he, _hq⟩)))
  ((try refine aw_ret ?_); refine ret_auto2 (by rfl) (by rfl) (by rfl) (by repeat (first | exact trivial | refine ⟨by first | rfl | omega, ?_⟩)) ?_ (by repeat (first | exact trivial | refine ⟨by rfl, by rfl, ?_⟩)) (by repeat (first | exact trivial | refine ⟨by rfl, by rfl, ?_⟩)); try rfl)
theorem k_sgS1 (s : Stp) (L : Int) (h0 : s.o = 1) (h : SOk L s) (hL : L ≤ 7) : Kon Try.prog 49 [stV s, vI L] [] (slA 0 0 (sg s L)) [gRow (sg s L)] [] := by
  have hC := k_cvS 8 (sg s L) (by have := (sg_len s L).2; omega) (by omega)
  rw [sg_cok h hL] at hC
  have eg : sg s L = [⟨1, s.x, L, 0⟩, ⟨1, s.y, L, 0⟩, ⟨2, s.x, s.y, L⟩] := by unfold sg; rw [h0]; rfl
  have d0 : (s.o == 0) = false := by simp [h0]
  have d1 : (s.o == 1) = true := by simp [h0]
  have d9 : (s.o != 3) = true := by simp [h0]
  have d8 : (s.x == s.y) = false := by
    have := (h.2.2.2 (by omega)).2
    simp only [beq_eq_false_iff_ne, ne_eq]; omega
  rw [eg] at hC ⊢
  clear h0 h eg
  (refine kon_mk T0ok (fn := Try.f49) (c := Try.f49.body.get rfl) Try.func49 rfl (by rfl) (by rfl) (by rfl) ?_; intro hfit hfe)
  (repeat (first | refine gq_KNF ?_ | (refine ga_KNF ?_; intro _q ⟨_he, _hq⟩)))
  ((try refine aw_ret ?_); refine ret_auto2 (by rfl) (by rfl) (by rfl) (by repeat (first | exact trivial | refine ⟨by first | rfl | omega, ?_⟩)) ?_ (by repeat (first | exact trivial | refine ⟨by rfl, by rfl, ?_⟩)) (by repeat (first | exact trivial | refine ⟨by rfl, by rfl, ?_⟩)); try rfl)
theorem k_sgS2 (s : Stp) (L : Int) (h0 : s.o = 2) (h : SOk L s) (hL : L ≤ 7) : Kon Try.prog 49 [stV s, vI L] [] (slA 0 0 (sg s L)) [gRow (sg s L)] [] := by
  have hC := k_cvS 8 (sg s L) (by have := (sg_len s L).2; omega) (by omega)
  rw [sg_cok h hL] at hC
  have eg : sg s L = [⟨1, s.x, L, 0⟩, ⟨1, s.y, L, 0⟩] := by unfold sg; rw [h0]; rfl
  have d0 : (s.o == 0) = false := by simp [h0]
  have d1 : (s.o == 1) = false := by simp [h0]
  have d2 : (s.o == 2) = true := by simp [h0]
  have d9 : (s.o != 3) = true := by simp [h0]
  have d8 : (s.x == s.y) = false := by
    have := (h.2.2.2 (by omega)).2
    simp only [beq_eq_false_iff_ne, ne_eq]; omega
  rw [eg] at hC ⊢
  clear h0 h eg
  (refine kon_mk T0ok (fn := Try.f49) (c := Try.f49.body.get rfl) Try.func49 rfl (by rfl) (by rfl) (by rfl) ?_; intro hfit hfe)
  (repeat (first | refine gq_KNF ?_ | (refine ga_KNF ?_; intro _q ⟨_he, _hq⟩)))
  ((try refine aw_ret ?_); refine ret_auto2 (by rfl) (by rfl) (by rfl) (by repeat (first | exact trivial | refine ⟨by first | rfl | omega, ?_⟩)) ?_ (by repeat (first | exact trivial | refine ⟨by rfl, by rfl, ?_⟩)) (by repeat (first | exact trivial | refine ⟨by rfl, by rfl, ?_⟩)); try rfl)
theorem k_sgS3 (s : Stp) (L : Int) (h0 : s.o = 3) (h : SOk L s) (hL : L ≤ 7) : Kon Try.prog 49 [stV s, vI L] [] (slA 0 0 (sg s L)) [gRow (sg s L)] [] := by
  have hC := k_cvS 8 (sg s L) (by have := (sg_len s L).2; omega) (by omega)
  rw [sg_cok h hL] at hC
  have eg : sg s L = [⟨1, s.x, L, 0⟩, ⟨0, L, 0, 0⟩] := by unfold sg; rw [h0]; rfl
  have d0 : (s.o == 0) = false := by simp [h0]
  have d1 : (s.o == 1) = false := by simp [h0]
  have d2 : (s.o == 2) = false := by simp [h0]
  have d3 : (s.o == 3) = true := by simp [h0]
  have d9 : (s.o != 3) = false := by simp [h0]
  rw [eg] at hC ⊢
  clear h0 h eg
  (refine kon_mk T0ok (fn := Try.f49) (c := Try.f49.body.get rfl) Try.func49 rfl (by rfl) (by rfl) (by rfl) ?_; intro hfit hfe)
  (repeat (first | refine gq_KNF ?_ | (refine ga_KNF ?_; intro _q ⟨_he, _hq⟩)))
  ((try refine aw_ret ?_); refine ret_auto2 (by rfl) (by rfl) (by rfl) (by repeat (first | exact trivial | refine ⟨by first | rfl | omega, ?_⟩)) ?_ (by repeat (first | exact trivial | refine ⟨by rfl, by rfl, ?_⟩)) (by repeat (first | exact trivial | refine ⟨by rfl, by rfl, ?_⟩)); try rfl)
theorem k_sgS (s : Stp) (L : Int) (h : SOk L s) (hL : L ≤ 7) : Kon Try.prog 49 [stV s, vI L] [] (slA 0 0 (sg s L)) [gRow (sg s L)] [] := by
  have h4 : s.o = 0 ∨ s.o = 1 ∨ s.o = 2 ∨ s.o = 3 := by have := h.1; omega
  rcases h4 with h0 | h0 | h0 | h0
  · exact k_sgS0 s L h0 h hL
  · exact k_sgS1 s L h0 h hL
  · exact k_sgS2 s L h0 h hL
  · exact k_sgS3 s L h0 h hL
theorem k_cgS (n : Int) (l : List Stp) (h : fok n l = true) : Kon Try.prog 12 [vI n, roA l] [] (slA 0 0 (cg n l l.length)) [gRow (cg n l l.length)] [] := by
  obtain ⟨hn, hl, hst⟩ := fok_t h
  have hF := k_fvS n l (by omega) (by omega)
  rw [h] at hF
  clear h
  (refine kon_mk T0ok (fn := Try.f12) (c := Try.f12.body.get rfl) Try.func12 rfl (by rfl) (by rfl) (by rfl) ?_; intro hfit hfe)
  (repeat (first | refine gq_KNF ?_ | (refine ga_KNF ?_; intro _q ⟨_he, _hq⟩)))
  (refine aw_rd [0, 1, 4] [] (fun i : Nat => [(5, .g (.one (.sl 112 i (cg n l i).length))), (6, vI i)]) (fun i => [(112, (i, gRow (cg n l i)))]) (fun i => i ≤ l.length) (fun i => l.length - i) 0 (by rfl) (by rfl) ?_ (by rfl) (by repeat (first | exact trivial | refine ⟨by rfl, ?_⟩ | refine ⟨vI_of (by rfl) (by omega), ?_⟩)) (by repeat (first | exact trivial | refine ⟨by rfl, ?_⟩ | refine ⟨vI_of (by rfl) (by omega), ?_⟩)) ?_)
  · exact Nat.zero_le _
  rintro i hi
  have hcl := cg_len n l i
  rcases Nat.lt_or_ge i l.length with h6 | h6
  · have hd : decide ((i : Int) < (l.length : Int)) = true := decide_eq_true (by omega)
    have hsk := hst i h6
    have hN := k_sgS _ _ hsk (by omega)
    have hsl := sg_len (l.getD i Cel.no) (n + (i : Int))
    have e : cg n l (i + 1) = cg n l i ++ sg (l.getD i Cel.no) (n + (i : Int)) := rfl
    obtain ⟨s, hs⟩ : ∃ s, l.getD (i : Int).toNat (Cel.no : Stp) = s := ⟨_, rfl⟩
    have hs' : l.getD i Cel.no = s := hs
    rw [hs'] at hN e hsl
    generalize sg s (n + (i : Int)) = G at *
    (repeat (first | refine gq_KNF ?_ | (refine ga_KNF ?_; intro _q ⟨_he, _hq⟩)))
    rw [hs]
    (repeat (first | refine gq_KNF ?_ | (refine ga_KNF ?_; intro _q ⟨_he, _hq⟩)))
    refine ⟨i + 1, h6, ?_, (by first | omega | (dsimp only; omega))⟩
    dsimp only
    rw [e]
    exact ⟨by rfl, ⟨by rfl, (by repeat (first | exact trivial | refine ⟨by rfl, ?_⟩ | refine ⟨vI_of (by rfl) (by omega), ?_⟩))⟩, (by repeat (first | exact trivial | refine ⟨by rfl, ?_⟩ | refine ⟨vI_of (by rfl) (by omega), ?_⟩))⟩
  · obtain rfl : i = l.length := by omega
    have hd : decide ((l.length : Int) < (l.length : Int)) = false := decide_eq_false (by omega)
    (repeat (first | refine gq_KNF ?_ | (refine ga_KNF ?_; intro _q ⟨_he, _hq⟩)))
    ((try refine aw_ret ?_); refine ret_auto2 (by rfl) (by rfl) (by rfl) (by repeat (first | exact trivial | refine ⟨by first | rfl | omega, ?_⟩)) ?_ (by repeat (first | exact trivial | refine ⟨by rfl, by rfl, ?_⟩)) (by repeat (first | exact trivial | refine ⟨by rfl, by rfl, ?_⟩)); try rfl)
theorem k_cgS0 (n : Int) (l : List Stp) (hl : l.length ≤ 1000) (hr : -1000 ≤ n ∧ n ≤ 1000) (h : fok n l = false) : Kon Try.prog 12 [vI n, roA l] [] (slA 0 0 ([] : List Gt)) [gRow []] [] := by
  have hF := k_fvS n l hl hr
  rw [h] at hF
  (refine kon_mk T0ok (fn := Try.f12) (c := Try.f12.body.get rfl) Try.func12 rfl (by rfl) (by rfl) (by rfl) ?_; intro hfit hfe)
  (repeat (first | refine gq_KNF ?_ | (refine ga_KNF ?_; intro _q ⟨_he, _hq⟩)))
  refine aw_unroll 3 ?_
  cases hd : decide ((0 : Int) < (l.length : Int)) with
  | true =>
    (repeat (first | refine gq_KNF ?_ | (refine ga_KNF ?_; intro _q ⟨_he, _hq⟩)))
    ((try refine aw_ret ?_); refine ret_auto2 (by rfl) (by rfl) (by rfl) (by repeat (first | exact trivial | refine ⟨by first | rfl | omega, ?_⟩)) ?_ (by repeat (first | exact trivial | refine ⟨by rfl, by rfl, ?_⟩)) (by repeat (first | exact trivial | refine ⟨by rfl, by rfl, ?_⟩)); try rfl)
  | false =>
    (repeat (first | refine gq_KNF ?_ | (refine ga_KNF ?_; intro _q ⟨_he, _hq⟩)))
    ((try refine aw_ret ?_); refine ret_auto2 (by rfl) (by rfl) (by rfl) (by repeat (first | exact trivial | refine ⟨by first | rfl | omega, ?_⟩)) ?_ (by repeat (first | exact trivial | refine ⟨by rfl, by rfl, ?_⟩)) (by repeat (first | exact trivial | refine ⟨by rfl, by rfl, ?_⟩)); try rfl)
end Go.Proofs.Ytdihmpclbgbgpaa

/- Formulas are drawn. -/
namespace Go.Proofs.Ytdihmpclbgbgpaa
set_option linter.unusedVariables false
set_option linter.unusedSimpArgs false
set_option maxRecDepth 20000
open Go.RowKit
attribute [local irreducible] runA runX AW
theorem gq_KNG {H G : Prop} (k : H) (h : Hid H → G := by (intro hh; (first | (first | ((first | refine r_none ?_ | refine r_gt (by rfl) (by rfl) (by first | rfl | assumption | omega | (simp only [*, Bool.not_false, Bool.not_true]; first | done | fail) | (simp [*]; first | done | fail)) (by rfl) ?_ | refine r_gf (by rfl) (by rfl) (by first | rfl | assumption | omega | (simp only [*, Bool.not_false, Bool.not_true]; first | done | fail) | (simp [*]; first | done | fail)) (by rfl) ?_); (first | fail | ((first | (refine z_op (by rfl) ?_; first | refine z_ok ?_ ?_ | refine z_ex ?_ (by first | exact ft_raw rfl rfl | ((first | refine ft_rp rfl rfl rfl ?_ | refine ft_row rfl rfl rfl ?_ | refine ft_rpF rfl rfl rfl ?_ | refine ft_rowF rfl rfl rfl ?_ | refine up_row rfl rfl ?_ | refine up_rowF rfl rfl rfl ?_ | refine ct_0 rfl ?_ | refine ct_r rfl rfl ?_ | refine ct_c rfl rfl rfl ?_ | refine cu_all rfl ?_ | refine cu_to rfl ?_ | refine cu_from rfl ?_ | refine cu_p rfl ?_ | fail); (first | omega | (simp only [List.length_append, List.length_replicate, List.length_cons, List.length_nil, List.length_set, List.length_take, List.length_drop, true_and]; omega))) | exact up_raw rfl | exact pk_t (by first | rfl | assumption | omega | (simp only [*, Bool.not_false, Bool.not_true]; first | done | fail) | (simp [*]; first | done | fail)) rfl | exact pk_f (by first | rfl | assumption | omega | (simp only [*, Bool.not_false, Bool.not_true]; first | done | fail) | (simp [*]; first | done | fail)) rfl | (first | exact rw_c Stp rfl | exact rw_c Int rfl) | exact rw_raw | exact pu_cv (fun w => rfl) (by omega) | exact pu_of (fun w => rfl) rfl | exact be_of (fun w => rfl) | exact nc_of (fun _ _ _ _ => rfl) rfl | exact bu_of (fun w => rfl) rfl | fail) ?_) | ((first | refine q_callE wsT wsZ (by rfl) ?_ | refine q_callVE wsT (by rfl) (by rfl) ?_); refine ⟨_, _, _, (by first | assumption | exact k_pick _ _ _ (by omega) | exact k_odd0 _ _ _ (by omega) | exact k_odd _ _ _ (by omega)), _, by rfl, ?_, ?_⟩)); focus (first | exact trivial | fail | exact rfl | (first | omega | (simp only [List.length_append, List.length_replicate, List.length_cons, List.length_nil, List.length_set, List.length_take, List.length_drop, true_and]; omega)) | exact cvB (fun w => rfl) | ((repeat' (first | exact rfl | exact cV_len _ | exact cV_ln rfl (by omega) | exact Cel.pos | omega | exact trivial | refine And.intro ?_ ?_)); done) | (simp [*]; done) | (simp; omega))) | fail)) | refine r_nt (by rfl) (by rfl) (by first | rfl | assumption | omega | (simp only [*, Bool.not_false, Bool.not_true]; first | done | fail) | (simp [*]; first | done | fail)) (by rfl) ?_ | refine r_nf (by rfl) (by rfl) (by first | rfl | assumption | omega | (simp only [*, Bool.not_false, Bool.not_true]; first | done | fail) | (simp [*]; first | done | fail)) (by rfl) ?_ | refine r_gu (by rfl) (by rfl) (by rfl) ?_ | refine r_nil ?_) | (first | refine aw_seq ?_ | refine aw_ct (by rfl) (by first | rfl | assumption | omega | (simp only [*, Bool.not_false, Bool.not_true]; first | done | fail) | (simp [*]; first | done | fail)) ?_ | refine aw_cf (by rfl) (by first | rfl | assumption | omega | (simp only [*, Bool.not_false, Bool.not_true]; first | done | fail) | (simp [*]; first | done | fail)) ?_ | refine aw_block ?_ | refine aw_region T0ok cfU_ok (by rfl) ?_ | refine aw_skip ?_ | refine aw_exit ?_ | refine ra_step ?_)); (repeat (first | (first | ((first | refine r_none ?_ | refine r_gt (by rfl) (by rfl) (by first | rfl | assumption | omega | (simp only [*, Bool.not_false, Bool.not_true]; first | done | fail) | (simp [*]; first | done | fail)) (by rfl) ?_ | refine r_gf (by rfl) (by rfl) (by first | rfl | assumption | omega | (simp only [*, Bool.not_false, Bool.not_true]; first | done | fail) | (simp [*]; first | done | fail)) (by rfl) ?_); (first | fail | ((first | (refine z_op (by rfl) ?_; first | refine z_ok ?_ ?_ | refine z_ex ?_ (by first | exact ft_raw rfl rfl | ((first | refine ft_rp rfl rfl rfl ?_ | refine ft_row rfl rfl rfl ?_ | refine ft_rpF rfl rfl rfl ?_ | refine ft_rowF rfl rfl rfl ?_ | refine up_row rfl rfl ?_ | refine up_rowF rfl rfl rfl ?_ | refine ct_0 rfl ?_ | refine ct_r rfl rfl ?_ | refine ct_c rfl rfl rfl ?_ | refine cu_all rfl ?_ | refine cu_to rfl ?_ | refine cu_from rfl ?_ | refine cu_p rfl ?_ | fail); (first | omega | (simp only [List.length_append, List.length_replicate, List.length_cons, List.length_nil, List.length_set, List.length_take, List.length_drop, true_and]; omega))) | exact up_raw rfl | exact pk_t (by first | rfl | assumption | omega | (simp only [*, Bool.not_false, Bool.not_true]; first | done | fail) | (simp [*]; first | done | fail)) rfl | exact pk_f (by first | rfl | assumption | omega | (simp only [*, Bool.not_false, Bool.not_true]; first | done | fail) | (simp [*]; first | done | fail)) rfl | (first | exact rw_c Stp rfl | exact rw_c Int rfl) | exact rw_raw | exact pu_cv (fun w => rfl) (by omega) | exact pu_of (fun w => rfl) rfl | exact be_of (fun w => rfl) | exact nc_of (fun _ _ _ _ => rfl) rfl | exact bu_of (fun w => rfl) rfl | fail) ?_) | ((first | refine q_callE wsT wsZ (by rfl) ?_ | refine q_callVE wsT (by rfl) (by rfl) ?_); refine ⟨_, _, _, (by first | assumption | exact k_pick _ _ _ (by omega) | exact k_odd0 _ _ _ (by omega) | exact k_odd _ _ _ (by omega)), _, by rfl, ?_, ?_⟩)); focus (first | exact trivial | fail | exact rfl | (first | omega | (simp only [List.length_append, List.length_replicate, List.length_cons, List.length_nil, List.length_set, List.length_take, List.length_drop, true_and]; omega)) | exact cvB (fun w => rfl) | ((repeat' (first | exact rfl | exact cV_len _ | exact cV_ln rfl (by omega) | exact Cel.pos | omega | exact trivial | refine And.intro ?_ ?_)); done) | (simp [*]; done) | (simp; omega))) | fail)) | refine r_nt (by rfl) (by rfl) (by first | rfl | assumption | omega | (simp only [*, Bool.not_false, Bool.not_true]; first | done | fail) | (simp [*]; first | done | fail)) (by rfl) ?_ | refine r_nf (by rfl) (by rfl) (by first | rfl | assumption | omega | (simp only [*, Bool.not_false, Bool.not_true]; first | done | fail) | (simp [*]; first | done | fail)) (by rfl) ?_ | refine r_gu (by rfl) (by rfl) (by rfl) ?_ | refine r_nil ?_) | (first | refine aw_seq ?_ | refine aw_ct (by rfl) (by first | rfl | assumption | omega | (simp only [*, Bool.not_false, Bool.not_true]; first | done | fail) | (simp [*]; first | done | fail)) ?_ | refine aw_cf (by rfl) (by first | rfl | assumption | omega | (simp only [*, Bool.not_false, Bool.not_true]; first | done | fail) | (simp [*]; first | done | fail)) ?_ | refine aw_block ?_ | refine aw_region T0ok cfU_ok (by rfl) ?_ | refine aw_skip ?_ | refine aw_exit ?_ | refine ra_step ?_))); exact hh.out)) : G := h ⟨k⟩
theorem ga_KNG {H G : Prop} (k : H) (h : Hid H → G := by (intro hh; (first | refine r_none ?_ | refine r_gt (by rfl) (by rfl) (by first | rfl | assumption | omega | (simp only [*, Bool.not_false, Bool.not_true]; first | done | fail) | (simp [*]; first | done | fail)) (by rfl) ?_ | refine r_gf (by rfl) (by rfl) (by first | rfl | assumption | omega | (simp only [*, Bool.not_false, Bool.not_true]; first | done | fail) | (simp [*]; first | done | fail)) (by rfl) ?_); refine z_op (by rfl) ?_; refine z_alV ?_ hh.out; focus (first | exact trivial | fail | exact rfl | (first | omega | (simp only [List.length_append, List.length_replicate, List.length_cons, List.length_nil, List.length_set, List.length_take, List.length_drop, true_and]; omega)) | exact cvB (fun w => rfl) | ((repeat' (first | exact rfl | exact cV_len _ | exact cV_ln rfl (by omega) | exact Cel.pos | omega | exact trivial | refine And.intro ?_ ?_)); done) | (simp [*]; done) | (simp; omega)))) : G := h ⟨k⟩
theorem ex_inputs (l : List UInt8) (c n : Int) (h : 0 ≤ c ∧ c ≤ 900000 ∧ l.length ≤ 2000) (hn : 0 < n ∧ n ≤ 1000) : ∃ (v c' : Int), (0 ≤ v ∧ v ≤ 4) ∧ (c ≤ c' ∧ c' ≤ c + 2) ∧ Kon Try.prog 85 [p0, vI n] [rdE l c] (vI v) [] [rdE l c'] := by
  cases h1 : (pickI l c n == n - 1) with
  | false =>
    have h2 := pickI_lt (l := l) (c := c + 1) (n := 3) (by omega)
    refine ⟨1 + pickI l (c + 1) 3, c + 1 + 1, by omega, by omega, ?_⟩
    (refine kon_mk T0ok (fn := Try.f85) (c := Try.f85.body.get rfl) Try.func85 rfl (by rfl) (by rfl) (by rfl) ?_; intro hfit hfe)
    (repeat (first | refine gq_KNG ?_ | (refine ga_KNG ?_; intro _hq)))
    ((try refine aw_ret ?_); refine ret_auto2 (by rfl) (by rfl) (by rfl) (by repeat (first | exact trivial | refine ⟨by first | rfl | omega, ?_⟩)) ?_ (by repeat (first | exact trivial | refine ⟨by rfl, by rfl, ?_⟩)) (by repeat (first | exact trivial | refine ⟨by rfl, by rfl, ?_⟩)); try rfl)
  | true =>
    have h2 := pickI_lt (l := l) (c := c + 1) (n := 2) (by omega)
    obtain ⟨v, hv, hv2⟩ : ∃ v : Int, ([0, 4] : List Int).getD (pickI l (c + 1) 2).toNat Cel.no = v ∧ (0 ≤ v ∧ v ≤ 4) := by
      refine ⟨_, rfl, ?_⟩
      have h3 : (pickI l (c + 1) 2).toNat = 0 ∨ (pickI l (c + 1) 2).toNat = 1 := by omega
      rcases h3 with h3 | h3 <;> rw [h3] <;> decide
    refine ⟨v, c + 1 + 1, by omega, by omega, ?_⟩
    (refine kon_mk T0ok (fn := Try.f85) (c := Try.f85.body.get rfl) Try.func85 rfl (by rfl) (by rfl) (by rfl) ?_; intro hfit hfe)
    (repeat (first | refine gq_KNG ?_ | (refine ga_KNG ?_; intro _hq)))
    rw [hv]
    ((try refine aw_ret ?_); refine ret_auto2 (by rfl) (by rfl) (by rfl) (by repeat (first | exact trivial | refine ⟨by first | rfl | omega, ?_⟩)) ?_ (by repeat (first | exact trivial | refine ⟨by rfl, by rfl, ?_⟩)) (by repeat (first | exact trivial | refine ⟨by rfl, by rfl, ?_⟩)); try rfl)
/-- A step more is drawn; M: how many inputs. -/
def foS (l : List UInt8) (M : Int) (x : List Stp × Int) : List Stp × Int :=
  bif decide (M + (x.1.length : Int) < 2) then (x.1 ++ [⟨3, pickI l (x.2 + 1) (M + (x.1.length : Int)), 0⟩], x.2 + 1 + 1)
  else bif pickI l x.2 4 != 3 then (x.1 ++ [⟨pickI l x.2 4, pickI l (x.2 + 1) (M + (x.1.length : Int)), (pickI l (x.2 + 1) (M + (x.1.length : Int)) + 1 + pickI l (x.2 + 1 + 1) (M + (x.1.length : Int) - 1)) % (M + (x.1.length : Int))⟩], x.2 + 1 + 1 + 1)
  else (x.1 ++ [⟨pickI l x.2 4, pickI l (x.2 + 1) (M + (x.1.length : Int)), 0⟩], x.2 + 1 + 1)
def foN (l : List UInt8) (M c : Int) : Nat → List Stp × Int
  | 0 => ([], c)
  | i + 1 => foS l M (foN l M c i)
theorem foS_bd (l : List UInt8) (M : Int) (x : List Stp × Int) : (foS l M x).1.length = x.1.length + 1 ∧ x.2 ≤ (foS l M x).2 ∧ (foS l M x).2 ≤ x.2 + 3 := by
  unfold foS
  cases decide (M + (x.1.length : Int) < 2) with
  | true => dsimp only [cond_true]; refine ⟨by simp, by omega, by omega⟩
  | false =>
    dsimp only [cond_false]
    cases (pickI l x.2 4 != 3) with
    | true => dsimp only [cond_true]; refine ⟨by simp, by omega, by omega⟩
    | false => dsimp only [cond_false]; refine ⟨by simp, by omega, by omega⟩
theorem foN_bd (l : List UInt8) (M c : Int) : ∀ i, (foN l M c i).1.length = i ∧ c ≤ (foN l M c i).2 ∧ (foN l M c i).2 ≤ c + 3 * (i : Int)
  | 0 => ⟨rfl, by simp [foN]⟩
  | i + 1 => by
    obtain ⟨h1, h2, h3⟩ := foN_bd l M c i
    obtain ⟨g1, g2, g3⟩ := foS_bd l M (foN l M c i)
    rw [foN]
    refine ⟨by omega, by omega, by omega⟩
/-- In the end the formula is sometimes another one. -/
def foE (l : List UInt8) (M n : Int) (x : List Stp × Int) : List Stp × Int :=
  bif pickI l x.2 n == n - 1 then
    (bif pickI l (x.2 + 1) 4 == 0 then ([], x.2 + 1 + 1)
     else bif pickI l (x.2 + 1) 4 == 1 then (x.1.set 0 ⟨(x.1.getD 0 Cel.no).o, M, (x.1.getD 0 Cel.no).y⟩, x.2 + 1 + 1)
     else bif pickI l (x.2 + 1) 4 == 2 then (x.1.set 0 ⟨0, 0, 0⟩, x.2 + 1 + 1)
     else (x.1.set 0 ⟨3, 0, 1⟩, x.2 + 1 + 1))
  else (x.1, x.2 + 1)
set_option maxHeartbeats 4000000 in
theorem ex_formOf (l : List UInt8) (c v n : Int) (h : 0 ≤ c ∧ c ≤ 900000 ∧ l.length ≤ 2000) (hv : 0 ≤ v ∧ v ≤ 4) (hn : 0 < n ∧ n ≤ 1000) : ∃ (ss : List Stp) (c' : Int), ss.length ≤ 3 ∧ (c ≤ c' ∧ c' ≤ c + 20) ∧ Kon Try.prog 59 [p0, vI v, vI n] [rdE l c] (slA 0 0 ss) [stRow ss] [rdE l c'] := by
  obtain ⟨M, hM, hM2⟩ : ∃ M : Int, (if (1 : Int) > v then 1 else v) = M ∧ (1 ≤ M ∧ M ≤ 4) := ⟨_, rfl, by split <;> omega⟩
  have h2 := pickI_lt (l := l) (c := c) (n := 3) (by omega)
  obtain ⟨m, hm⟩ : ∃ m : Nat, 1 + pickI l c 3 = (m : Int) := ⟨(1 + pickI l c 3).toNat, by omega⟩
  obtain ⟨g1, g2, g3⟩ := foN_bd l M (c + 1) m
  refine ⟨(foE l M n (foN l M (c + 1) m)).1, (foE l M n (foN l M (c + 1) m)).2, ?_, ?_, ?_⟩
  · unfold foE
    cases (pickI l (foN l M (c + 1) m).2 n == n - 1) <;> cases (pickI l ((foN l M (c + 1) m).2 + 1) 4 == 0) <;> cases (pickI l ((foN l M (c + 1) m).2 + 1) 4 == 1) <;> cases (pickI l ((foN l M (c + 1) m).2 + 1) 4 == 2) <;> simp <;> omega
  · unfold foE
    cases (pickI l (foN l M (c + 1) m).2 n == n - 1) <;> cases (pickI l ((foN l M (c + 1) m).2 + 1) 4 == 0) <;> cases (pickI l ((foN l M (c + 1) m).2 + 1) 4 == 1) <;> cases (pickI l ((foN l M (c + 1) m).2 + 1) 4 == 2) <;> simp <;> omega
  clear g1 g2 g3
  (refine kon_mk T0ok (fn := Try.f59) (c := Try.f59.body.get rfl) Try.func59 rfl (by rfl) (by rfl) (by rfl) ?_; intro hfit hfe)
  (repeat (first | refine gq_KNG ?_ | (refine ga_KNG ?_; intro _hq)))
  rw [hm]
  (refine aw_rd [0, 1, 2] [] (fun i : Nat × Int => [(7, .g (.one (.sl 176 i.1 (foN l M (c + 1) i.1).1.length))), (8, vI i.2)]) (fun i => [(176, (i.1, stRow (foN l M (c + 1) i.1).1)), (100000, (0, rdE l (foN l M (c + 1) i.1).2))]) (fun i => i.1 ≤ m ∧ i.2 = (m : Int) - (i.1 : Int)) (fun i => m - i.1) (0, (m : Int)) (by rfl) (by rfl) ?_ (by rfl) (by repeat (first | exact trivial | refine ⟨by rfl, ?_⟩ | refine ⟨vI_of (by rfl) (by omega), ?_⟩)) (by repeat (first | exact trivial | refine ⟨by rfl, ?_⟩ | refine ⟨vI_of (by rfl) (by omega), ?_⟩)) ?_)
  · exact ⟨Nat.zero_le _, by simp⟩
  rintro ⟨i, j⟩ ⟨hi, hj⟩
  dsimp only at hi hj
  obtain ⟨g1, g2, g3⟩ := foN_bd l M (c + 1) i
  have hs : foN l M (c + 1) (i + 1) = foS l M (foN l M (c + 1) i) := rfl
  dsimp only
  rcases Nat.lt_or_ge i m with h5 | h5
  · have hd : decide (j > 0) = true := decide_eq_true (by omega)
    generalize foN l M (c + 1) i = x at *
    obtain ⟨ss, c1⟩ := x
    unfold foS at hs
    dsimp only at g1 g2 g3 hs ⊢
    have p1 := pickI_lt (l := l) (c := c1) (n := 4) (by omega)
    have p2 := pickI_lt (l := l) (c := c1 + 1) (n := M + (ss.length : Int)) (by omega)
    (repeat (first | refine gq_KNG ?_ | (refine ga_KNG ?_; intro _hq)))
    rw [hM]
    cases d0 : decide (M + (ss.length : Int) < 2) with
    | true =>
      rw [d0, cond_true] at hs
      (repeat (first | refine gq_KNG ?_ | (refine ga_KNG ?_; intro _hq)))
      refine ⟨(i + 1, j - 1), ⟨h5, (by dsimp only; omega)⟩, ?_, (by first | omega | (dsimp only; omega))⟩
      dsimp only
      rw [hs]
      exact ⟨by rfl, ⟨by rfl, (by repeat (first | exact trivial | refine ⟨by rfl, ?_⟩ | refine ⟨vI_of (by rfl) (by omega), ?_⟩))⟩, (by repeat (first | exact trivial | refine ⟨by rfl, ?_⟩ | refine ⟨vI_of (by rfl) (by omega), ?_⟩))⟩
    | false =>
      rw [d0, cond_false] at hs
      cases d1 : (pickI l c1 4 != 3) with
      | true =>
        rw [d1, cond_true] at hs
        have hd0 := of_decide_eq_false d0
        have p3 := pickI_lt (l := l) (c := c1 + 1 + 1) (n := M + (ss.length : Int) - 1) (by omega)
        (repeat (first | refine gq_KNG ?_ | (refine ga_KNG ?_; intro _hq)))
        (refine aw_draw2 mixed T0ok cfU_ok [(160, [1000, 1001, 1010, 11]), (100000, [6])] (by rfl) (by kernel_rfl) ?_)
        (repeat (first | refine gq_KNG ?_ | (refine ga_KNG ?_; intro _hq)))
        refine ⟨(i + 1, j - 1), ⟨h5, (by dsimp only; omega)⟩, ?_, (by first | omega | (dsimp only; omega))⟩
        dsimp only
        rw [hs]
        exact ⟨by rfl, ⟨by rfl, (by repeat (first | exact trivial | refine ⟨by rfl, ?_⟩ | refine ⟨vI_of (by rfl) (by omega), ?_⟩))⟩, (by repeat (first | exact trivial | refine ⟨by rfl, ?_⟩ | refine ⟨vI_of (by rfl) (by omega), ?_⟩))⟩
      | false =>
        rw [d1, cond_false] at hs
        (repeat (first | refine gq_KNG ?_ | (refine ga_KNG ?_; intro _hq)))
        refine ⟨(i + 1, j - 1), ⟨h5, (by dsimp only; omega)⟩, ?_, (by first | omega | (dsimp only; omega))⟩
        dsimp only
        rw [hs]
        exact ⟨by rfl, ⟨by rfl, (by repeat (first | exact trivial | refine ⟨by rfl, ?_⟩ | refine ⟨vI_of (by rfl) (by omega), ?_⟩))⟩, (by repeat (first | exact trivial | refine ⟨by rfl, ?_⟩ | refine ⟨vI_of (by rfl) (by omega), ?_⟩))⟩
  · obtain rfl : i = m := by omega
    have hd : decide (j > 0) = false := decide_eq_false (by omega)
    generalize foN l M (c + 1) i = x at *
    obtain ⟨ss, c1⟩ := x
    unfold foE
    dsimp only at g1 g2 g3 ⊢
    have p1 := pickI_lt (l := l) (c := c1 + 1) (n := 4) (by omega)
    obtain ⟨a, t, rfl⟩ : ∃ a t, ss = a :: t := by
      cases ss with
      | nil => simp at g1; omega
      | cons a t => exact ⟨a, t, rfl⟩
    clear hs
    cases d1 : (pickI l c1 n == n - 1) with
    | false =>
      rw [cond_false]
      (repeat (first | refine gq_KNG ?_ | (refine ga_KNG ?_; intro _hq)))
      ((try refine aw_ret ?_); refine ret_auto2 (by rfl) (by rfl) (by rfl) (by repeat (first | exact trivial | refine ⟨by first | rfl | omega, ?_⟩)) ?_ (by repeat (first | exact trivial | refine ⟨by rfl, by rfl, ?_⟩)) (by repeat (first | exact trivial | refine ⟨by rfl, by rfl, ?_⟩)); try rfl)
    | true =>
      rw [cond_true]
      cases d2 : (pickI l (c1 + 1) 4 == 0) with
      | true =>
        rw [cond_true]
        (repeat (first | refine gq_KNG ?_ | (refine ga_KNG ?_; intro _hq)))
        ((try refine aw_ret ?_); refine ret_auto2 (by rfl) (by rfl) (by rfl) (by repeat (first | exact trivial | refine ⟨by first | rfl | omega, ?_⟩)) ?_ (by repeat (first | exact trivial | refine ⟨by rfl, by rfl, ?_⟩)) (by repeat (first | exact trivial | refine ⟨by rfl, by rfl, ?_⟩)); try rfl)
      | false =>
        rw [cond_false]
        cases d3 : (pickI l (c1 + 1) 4 == 1) with
        | true =>
          rw [cond_true]
          (repeat (first | refine gq_KNG ?_ | (refine ga_KNG ?_; intro _hq)))
          rw [hM]
          (repeat (first | refine gq_KNG ?_ | (refine ga_KNG ?_; intro _hq)))
          ((try refine aw_ret ?_); refine ret_auto2 (by rfl) (by rfl) (by rfl) (by repeat (first | exact trivial | refine ⟨by first | rfl | omega, ?_⟩)) ?_ (by repeat (first | exact trivial | refine ⟨by rfl, by rfl, ?_⟩)) (by repeat (first | exact trivial | refine ⟨by rfl, by rfl, ?_⟩)); try rfl)
        | false =>
          rw [cond_false]
          cases d4 : (pickI l (c1 + 1) 4 == 2) with
          | true =>
            rw [cond_true]
            (repeat (first | refine gq_KNG ?_ | (refine ga_KNG ?_; intro _hq)))
            ((try refine aw_ret ?_); refine ret_auto2 (by rfl) (by rfl) (by rfl) (by repeat (first | exact trivial | refine ⟨by first | rfl | omega, ?_⟩)) ?_ (by repeat (first | exact trivial | refine ⟨by rfl, by rfl, ?_⟩)) (by repeat (first | exact trivial | refine ⟨by rfl, by rfl, ?_⟩)); try rfl)
          | false =>
            rw [cond_false]
            (repeat (first | refine gq_KNG ?_ | (refine ga_KNG ?_; intro _hq)))
            ((try refine aw_ret ?_); refine ret_auto2 (by rfl) (by rfl) (by rfl) (by repeat (first | exact trivial | refine ⟨by first | rfl | omega, ?_⟩)) ?_ (by repeat (first | exact trivial | refine ⟨by rfl, by rfl, ?_⟩)) (by repeat (first | exact trivial | refine ⟨by rfl, by rfl, ?_⟩)); try rfl)
theorem ex_form (l : List UInt8) (c n : Int) (h : 0 ≤ c ∧ c ≤ 800000 ∧ l.length ≤ 2000) (hn : 0 < n ∧ n ≤ 400) : ∃ (v : Int) (ss : List Stp) (c' : Int), (0 ≤ v ∧ v ≤ 4) ∧ ss.length ≤ 3 ∧ (c ≤ c' ∧ c' ≤ c + 30) ∧ Kon Try.prog 46 [p0, vI n] [rdE l c] (.tup [.one (.v (.int .i64 v)), .one (.sl 0 0 ss.length)]) [stRow ss] [rdE l c'] := by
  obtain ⟨v, c1, hv, hc1, hK1⟩ := ex_inputs l c (2 * n) (by omega) (by omega)
  obtain ⟨ss, c2, h1, h2, hK2⟩ := ex_formOf l c1 v (2 * n) (by omega) (by omega) (by omega)
  refine ⟨v, ss, c2, hv, h1, by omega, ?_⟩
  (refine kon_mk T0ok (fn := Try.f46) (c := Try.f46.body.get rfl) Try.func46 rfl (by rfl) (by rfl) (by rfl) ?_; intro hfit hfe)
  (repeat (first | refine gq_KNG ?_ | (refine ga_KNG ?_; intro _hq)))
  ((try refine aw_ret ?_); refine ret_auto2 (by rfl) (by rfl) (by rfl) (by repeat (first | exact trivial | refine ⟨by first | rfl | omega, ?_⟩)) ?_ (by repeat (first | exact trivial | refine ⟨by rfl, by rfl, ?_⟩)) (by repeat (first | exact trivial | refine ⟨by rfl, by rfl, ?_⟩)); try rfl)
end Go.Proofs.Ytdihmpclbgbgpaa

/- The law FnComputeGates. -/
namespace Go.Proofs.Ytdihmpclbgbgpaa
set_option linter.unusedVariables false
set_option linter.unusedSimpArgs false
set_option maxRecDepth 20000
open Go.RowKit
attribute [local irreducible] runA runX AW
def wsZH : List (Nat × Nat) := [(11, 4), (999999, 0)]
theorem gq_KNH {H G : Prop} (k : H) (h : Hid H → G := by (intro hh; (first | (first | ((first | refine r_none ?_ | refine r_gt (by rfl) (by rfl) (by first | rfl | assumption | omega | (simp only [*, Bool.not_false, Bool.not_true]; first | done | fail) | (simp [*]; first | done | fail)) (by rfl) ?_ | refine r_gf (by rfl) (by rfl) (by first | rfl | assumption | omega | (simp only [*, Bool.not_false, Bool.not_true]; first | done | fail) | (simp [*]; first | done | fail)) (by rfl) ?_); (first | fail | ((first | (refine z_op (by rfl) ?_; first | refine z_ok ?_ ?_ | refine z_ex ?_ (by first | exact ft_raw rfl rfl | ((first | refine ft_rp rfl rfl rfl ?_ | refine ft_row rfl rfl rfl ?_ | refine ft_rpF rfl rfl rfl ?_ | refine ft_rowF rfl rfl rfl ?_ | refine up_row rfl rfl ?_ | refine up_rowF rfl rfl rfl ?_ | refine ct_0 rfl ?_ | refine ct_r rfl rfl ?_ | refine ct_c rfl rfl rfl ?_ | refine cu_all rfl ?_ | refine cu_to rfl ?_ | refine cu_from rfl ?_ | refine cu_p rfl ?_ | fail); (first | omega | (simp only [List.length_append, List.length_replicate, List.length_cons, List.length_nil, List.length_set, List.length_take, List.length_drop, true_and]; omega))) | exact up_raw rfl | exact pk_t (by first | rfl | assumption | omega | (simp only [*, Bool.not_false, Bool.not_true]; first | done | fail) | (simp [*]; first | done | fail)) rfl | exact pk_f (by first | rfl | assumption | omega | (simp only [*, Bool.not_false, Bool.not_true]; first | done | fail) | (simp [*]; first | done | fail)) rfl | fail | exact rw_raw | exact pu_cv (fun w => rfl) (by omega) | exact pu_of (fun w => rfl) rfl | exact be_of (fun w => rfl) | exact nc_of (fun _ _ _ _ => rfl) rfl | exact bu_of (fun w => rfl) rfl | fail) ?_) | ((first | refine q_callE wsT wsZH (by rfl) ?_ | refine q_callVE wsT (by rfl) (by rfl) ?_); refine ⟨_, _, _, (by first | assumption | exact k_alive | exact k_open _ (by omega)), _, by rfl, ?_, ?_⟩)); focus (first | exact trivial | fail | exact rfl | (first | omega | (simp only [List.length_append, List.length_replicate, List.length_cons, List.length_nil, List.length_set, List.length_take, List.length_drop, true_and]; omega)) | exact cvB (fun w => rfl) | ((repeat' (first | exact rfl | exact cV_len _ | exact cV_ln rfl (by omega) | exact Cel.pos | omega | exact trivial | refine And.intro ?_ ?_)); done) | (simp [*]; done) | (simp; omega))) | fail)) | refine r_nt (by rfl) (by rfl) (by first | rfl | assumption | omega | (simp only [*, Bool.not_false, Bool.not_true]; first | done | fail) | (simp [*]; first | done | fail)) (by rfl) ?_ | refine r_nf (by rfl) (by rfl) (by first | rfl | assumption | omega | (simp only [*, Bool.not_false, Bool.not_true]; first | done | fail) | (simp [*]; first | done | fail)) (by rfl) ?_ | refine r_gu (by rfl) (by rfl) (by rfl) ?_ | refine r_nil ?_) | (first | refine aw_seq ?_ | refine aw_ct (by rfl) (by first | rfl | assumption | omega | (simp only [*, Bool.not_false, Bool.not_true]; first | done | fail) | (simp [*]; first | done | fail)) ?_ | refine aw_cf (by rfl) (by first | rfl | assumption | omega | (simp only [*, Bool.not_false, Bool.not_true]; first | done | fail) | (simp [*]; first | done | fail)) ?_ | refine aw_block ?_ | refine aw_region T0ok cfU_ok (by rfl) ?_ | refine aw_skip ?_ | refine aw_exit ?_ | refine ra_step ?_)); (repeat (first | (first | ((first | refine r_none ?_ | refine r_gt (by rfl) (by rfl) (by first | rfl | assumption | omega | (simp only [*, Bool.not_false, Bool.not_true]; first | done | fail) | (simp [*]; first | done | fail)) (by rfl) ?_ | refine r_gf (by rfl) (by rfl) (by first | rfl | assumption | omega | (simp only [*, Bool.not_false, Bool.not_true]; first | done | fail) | (simp [*]; first | done | fail)) (by rfl) ?_); (first | fail | ((first | (refine z_op (by rfl) ?_; first | refine z_ok ?_ ?_ | refine z_ex ?_ (by first | exact ft_raw rfl rfl | ((first | refine ft_rp rfl rfl rfl ?_ | refine ft_row rfl rfl rfl ?_ | refine ft_rpF rfl rfl rfl ?_ | refine ft_rowF rfl rfl rfl ?_ | refine up_row rfl rfl ?_ | refine up_rowF rfl rfl rfl ?_ | refine ct_0 rfl ?_ | refine ct_r rfl rfl ?_ | refine ct_c rfl rfl rfl ?_ | refine cu_all rfl ?_ | refine cu_to rfl ?_ | refine cu_from rfl ?_ | refine cu_p rfl ?_ | fail); (first | omega | (simp only [List.length_append, List.length_replicate, List.length_cons, List.length_nil, List.length_set, List.length_take, List.length_drop, true_and]; omega))) | exact up_raw rfl | exact pk_t (by first | rfl | assumption | omega | (simp only [*, Bool.not_false, Bool.not_true]; first | done | fail) | (simp [*]; first | done | fail)) rfl | exact pk_f (by first | rfl | assumption | omega | (simp only [*, Bool.not_false, Bool.not_true]; first | done | fail) | (simp [*]; first | done | fail)) rfl | fail | exact rw_raw | exact pu_cv (fun w => rfl) (by omega) | exact pu_of (fun w => rfl) rfl | exact be_of (fun w => rfl) | exact nc_of (fun _ _ _ _ => rfl) rfl | exact bu_of (fun w => rfl) rfl | fail) ?_) | ((first | refine q_callE wsT wsZH (by rfl) ?_ | refine q_callVE wsT (by rfl) (by rfl) ?_); refine ⟨_, _, _, (by first | assumption | exact k_alive | exact k_open _ (by omega)), _, by rfl, ?_, ?_⟩)); focus (first | exact trivial | fail | exact rfl | (first | omega | (simp only [List.length_append, List.length_replicate, List.length_cons, List.length_nil, List.length_set, List.length_take, List.length_drop, true_and]; omega)) | exact cvB (fun w => rfl) | ((repeat' (first | exact rfl | exact cV_len _ | exact cV_ln rfl (by omega) | exact Cel.pos | omega | exact trivial | refine And.intro ?_ ?_)); done) | (simp [*]; done) | (simp; omega))) | fail)) | refine r_nt (by rfl) (by rfl) (by first | rfl | assumption | omega | (simp only [*, Bool.not_false, Bool.not_true]; first | done | fail) | (simp [*]; first | done | fail)) (by rfl) ?_ | refine r_nf (by rfl) (by rfl) (by first | rfl | assumption | omega | (simp only [*, Bool.not_false, Bool.not_true]; first | done | fail) | (simp [*]; first | done | fail)) (by rfl) ?_ | refine r_gu (by rfl) (by rfl) (by rfl) ?_ | refine r_nil ?_) | (first | refine aw_seq ?_ | refine aw_ct (by rfl) (by first | rfl | assumption | omega | (simp only [*, Bool.not_false, Bool.not_true]; first | done | fail) | (simp [*]; first | done | fail)) ?_ | refine aw_cf (by rfl) (by first | rfl | assumption | omega | (simp only [*, Bool.not_false, Bool.not_true]; first | done | fail) | (simp [*]; first | done | fail)) ?_ | refine aw_block ?_ | refine aw_region T0ok cfU_ok (by rfl) ?_ | refine aw_skip ?_ | refine aw_exit ?_ | refine ra_step ?_))); exact hh.out)) : G := h ⟨k⟩
theorem ga_KNH {H G : Prop} (k : H) (h : Hid H → G := by (intro hh; (first | refine r_none ?_ | refine r_gt (by rfl) (by rfl) (by first | rfl | assumption | omega | (simp only [*, Bool.not_false, Bool.not_true]; first | done | fail) | (simp [*]; first | done | fail)) (by rfl) ?_ | refine r_gf (by rfl) (by rfl) (by first | rfl | assumption | omega | (simp only [*, Bool.not_false, Bool.not_true]; first | done | fail) | (simp [*]; first | done | fail)) (by rfl) ?_); refine z_op (by rfl) ?_; refine z_alV ?_ hh.out; focus (first | exact trivial | fail | exact rfl | (first | omega | (simp only [List.length_append, List.length_replicate, List.length_cons, List.length_nil, List.length_set, List.length_take, List.length_drop, true_and]; omega)) | exact cvB (fun w => rfl) | ((repeat' (first | exact rfl | exact cV_len _ | exact cV_ln rfl (by omega) | exact Cel.pos | omega | exact trivial | refine And.intro ?_ ?_)); done) | (simp [*]; done) | (simp; omega)))) : G := h ⟨k⟩
theorem gd_KNH {H G : Prop} (k : H) (h : Hid H → G := by (intro hh; (refine aw_draw mixed T0ok cfU_ok [] (by rfl) (by kernel_rfl) ?_); exact hh.out)) : G := h ⟨k⟩
theorem ex_dCG (l : List UInt8) (hl : l.length ≤ 100000000) : ∃ (v : Int) (ss : List Stp), (0 ≤ v ∧ v ≤ 4) ∧ ss.length ≤ 3 ∧ Kon Try.prog 9 [roA l] [] (.tup [.one (.v (.int .i64 v)), .one (.sl 0 0 ss.length)]) [stRow ss] [] := by
  have h2 : (l.take 2000).length ≤ 2000 := by simp; omega
  obtain ⟨v, ss, c', h3, h4, h5, hK⟩ := ex_form (l.take 2000) 0 9 (by omega) (by omega)
  refine ⟨v, ss, h3, h4, ?_⟩
  (refine kon_mk T0ok (fn := Try.f9) (c := Try.f9.body.get rfl) Try.func9 rfl (by rfl) (by rfl) (by rfl) ?_; intro hfit hfe)
  (repeat (first | refine gq_KNH ?_ | (refine ga_KNH ?_; intro _hq)))
  ((try refine aw_ret ?_); refine ret_auto2 (by rfl) (by rfl) (by rfl) (by repeat (first | exact trivial | refine ⟨by first | rfl | omega, ?_⟩)) ?_ (by repeat (first | exact trivial | refine ⟨by rfl, by rfl, ?_⟩)) (by repeat (first | exact trivial | refine ⟨by rfl, by rfl, ?_⟩)); try rfl)
theorem bsF_all {N : Nat} {l : List Stp} {w : Int} (hst : ∀ i, i < l.length → SOk ((N : Int) + i) (l.getD i Cel.no)) (hn : 1 ≤ N) (hw : 0 ≤ w ∧ w < 2 ^ (N : Int).toNat) : ∀ k, k ≤ l.length → bsF (N : Int) l w k = bsF (N : Int) l w 0 ++ (List.range k).map fun i => b2i (fB (N : Int) l w i)
  | 0, _ => by simp
  | k + 1, hk => by
    rw [bsF_succ (hst k (by omega)) (by omega) (fW_lt hst (by omega) hw k (by omega)), bsF_all hst hn hw k (by omega), List.range_succ, List.map_append, List.append_assoc]
    rfl
theorem bsF_drop {N : Nat} {l : List Stp} {w : Int} (hst : ∀ i, i < l.length → SOk ((N : Int) + i) (l.getD i Cel.no)) (hn : 1 ≤ N) (hw : 0 ≤ w ∧ w < 2 ^ (N : Int).toNat) : (bsF (N : Int) l w l.length).drop N = (List.range l.length).map fun i => b2i (fB (N : Int) l w i) := by
  rw [bsF_all hst hn hw _ (Nat.le_refl _)]
  have h : (bsF (N : Int) l w 0).length = N := by rw [bsF_len]; omega
  conv => lhs; arg 1; rw [← h]
  exact List.drop_left
theorem map_get (f : Nat → Int) (m k : Nat) (h : k < m) : ((List.range m).map f).getD k Cel.no = f k := by
  rw [List.getD_eq_getElem?_getD, List.getElem?_map, List.getElem?_range h]; rfl
set_option maxHeartbeats 4000000 in
theorem k_lawCG (l : List UInt8) : Kon Try.prog 3 [roA l] [] (vB true) [] [] := by
  rcases Nat.lt_or_ge 1048576 l.length with h0 | h0
  · have hd : decide ((l.length : Int) > 1048576) = true := decide_eq_true (by omega)
    (refine kon_mk T0ok (fn := Try.f3) (c := Try.f3.body.get rfl) Try.func3 rfl (by rfl) (by rfl) (by rfl) ?_; intro hfit hfe)
    (repeat (first | refine gq_KNH ?_ | (refine ga_KNH ?_; intro _hq)))
    ((try refine aw_ret ?_); refine ret_auto2 (by rfl) (by rfl) (by rfl) (by repeat (first | exact trivial | refine ⟨by first | rfl | omega, ?_⟩)) ?_ (by repeat (first | exact trivial | refine ⟨by rfl, by rfl, ?_⟩)) (by repeat (first | exact trivial | refine ⟨by rfl, by rfl, ?_⟩)); try rfl)
  have hd : decide ((l.length : Int) > 1048576) = false := decide_eq_false (by omega)
  obtain ⟨n, f, hn, hfl, hD⟩ := ex_dCG l (by omega)
  have hFS := k_fvS n f (by omega) (by omega)
  cases hc : fok n f with
  | false =>
    have hI := k_cgI0 n f (by omega) (by omega) hc
    have hS := k_cgS0 n f (by omega) (by omega) hc
    have q0 : Kon Try.prog 11 [.g (.one (.ro 4 0 [])), .g (.one (.ro 4 0 []))] [] (vB true) [] [] := k_sg [] (by decide)
    rw [hc] at hFS
    (refine kon_mk T0ok (fn := Try.f3) (c := Try.f3.body.get rfl) Try.func3 rfl (by rfl) (by rfl) (by rfl) ?_; intro hfit hfe)
    (repeat (first | refine gq_KNH ?_ | (refine ga_KNH ?_; intro _hq)))
    (repeat (first | refine gq_KNH ?_ | (refine ga_KNH ?_; intro _hq) | refine gd_KNH ?_))
    ((try refine aw_ret ?_); refine ret_auto2 (by rfl) (by rfl) (by rfl) (by repeat (first | exact trivial | refine ⟨by first | rfl | omega, ?_⟩)) ?_ (by repeat (first | exact trivial | refine ⟨by rfl, by rfl, ?_⟩)) (by repeat (first | exact trivial | refine ⟨by rfl, by rfl, ?_⟩)); try rfl)
  | true =>
    have hI := k_cgI n f hc
    have hS := k_cgS n f hc
    have hFL := k_fl n f hc
    rw [hc] at hFS
    obtain ⟨hn3, hf3, hst⟩ := fok_t hc
    obtain ⟨N, rfl⟩ : ∃ N : Nat, n = (N : Int) := ⟨n.toNat, by omega⟩
    have hcl := cg_len (N : Int) f f.length
    have hG := k_sg (cg (N : Int) f f.length) (by omega)
    have hok := cg_ok hst (m := (N : Int) + (f.length : Int) + 1) (by omega) f.length (Nat.le_refl _) (by omega)
    have hcok : cokB ((N : Int) + (f.length : Int) + 1) (cg (N : Int) f f.length) = true := cokB_mkM (by omega) (by omega) hok
    have hrun : ∀ w : Int, (0 ≤ w ∧ w < 2 ^ (N : Int).toNat) → Kon Try.prog 17 [vI ((N : Int) + (f.length : Int) + 1), roA (cg (N : Int) f f.length), vI w] [] (vI (fW (N : Int) f w f.length)) [] [] := fun w hw => by
      have hp : (2 : Int) ^ (N : Int).toNat ≤ 2 ^ ((N : Int) + (f.length : Int) + 1).toNat := by
        have : (2 : Nat) ^ (N : Int).toNat ≤ 2 ^ ((N : Int) + (f.length : Int) + 1).toNat := Nat.pow_le_pow_right (by omega) (by omega)
        exact_mod_cast this
      have hR := k_crun ((N : Int) + (f.length : Int) + 1) (cg (N : Int) f f.length) w (by omega) (by omega)
      rw [crM_t hcok (wvB_mk (by omega) (by omega))] at hR
      exact hR
    obtain ⟨T, hT, hT2⟩ : ∃ T : Nat, (1 * 2 ^ (N : Int).toNat : Int) = (T : Int) ∧ T ≤ 8 := by
      refine ⟨2 ^ N, by rw [Int.toNat_natCast]; simp, ?_⟩
      have : 2 ^ N ≤ 2 ^ 3 := Nat.pow_le_pow_right (by omega) (by omega)
      omega
    clear hok hcok
    generalize cg (N : Int) f f.length = C at *
    (refine kon_mk T0ok (fn := Try.f3) (c := Try.f3.body.get rfl) Try.func3 rfl (by rfl) (by rfl) (by rfl) ?_; intro hfit hfe)
    (repeat (first | refine gq_KNH ?_ | (refine ga_KNH ?_; intro _hq)))
    (refine aw_rd [0, 2, 3, 4, 5, 6] [256, 336] (fun i : Nat => [(7, vI i)]) (fun _ => []) (fun i => i ≤ T) (fun i => T - i) 0 (by rfl) (by rfl) ?_ (by rfl) (by repeat (first | exact trivial | refine ⟨by rfl, ?_⟩ | refine ⟨vI_of (by rfl) (by omega), ?_⟩)) (by repeat (first | exact trivial | refine ⟨by rfl, ?_⟩ | refine ⟨vI_of (by rfl) (by omega), ?_⟩)) ?_)
    · exact Nat.zero_le _
    rintro i hi
    rcases Nat.lt_or_ge i T with h5 | h5
    · have hw : 0 ≤ (i : Int) ∧ (i : Int) < 2 ^ (N : Int).toNat := by omega
      have hd1 : decide ((i : Int) < 1 * 2 ^ (N : Int).toNat) = true := decide_eq_true (by omega)
      have hR := hrun (i : Int) hw
      have hB := k_fb N f (i : Int) hc hw
      rw [bsF_drop hst (by omega) hw] at hB
      have hstep := fun k (hk : k < f.length) => fW_step (l := f) (w := (i : Int)) (hst k hk) (by omega) (fW_lt hst (by omega) hw k (by omega))
      have hget := fun k (hk : k < f.length) => map_get (fun i_1 => b2i (fB (N : Int) f (i : Int) i_1)) f.length k hk
      have hBl : ((List.range f.length).map fun i_1 => b2i (fB (N : Int) f (i : Int) i_1)).length = f.length := by simp
      have hwb := fun k (hk : k ≤ f.length) => fW_lt (l := f) (w := (i : Int)) hst (by omega) hw k hk
      generalize ((List.range f.length).map fun i_1 => b2i (fB (N : Int) f (i : Int) i_1)) = B at *
      have hx : (fW (N : Int) f (i : Int) f.length != fW (N : Int) f (i : Int) f.length) = false := by simp
      have p256 : ∀ k : Nat, k ≤ f.length → (2 : Int) ^ ((N : Int) + (k : Int)).toNat ≤ 256 := fun k hk => by
        have : (2 : Nat) ^ ((N : Int) + (k : Int)).toNat ≤ 2 ^ 8 := Nat.pow_le_pow_right (by omega) (by omega)
        exact_mod_cast this
      (repeat (first | refine gq_KNH ?_ | (refine ga_KNH ?_; intro _hq)))
      (refine aw_rd [0, 2, 3, 4, 5, 6, 7, 9] [256, 336, 816] (fun k : Nat => [(8, vI (fW (N : Int) f (i : Int) k)), (10, vI k)]) (fun _ => []) (fun k => k ≤ f.length) (fun k => f.length - k) 0 (by rfl) (by rfl) ?_ (by rfl) (by repeat (first | exact trivial | refine ⟨by rfl, ?_⟩ | refine ⟨vI_of (by rfl) (by omega), ?_⟩)) (by repeat (first | exact trivial | refine ⟨by rfl, ?_⟩ | refine ⟨vI_of (by rfl) (by omega), ?_⟩)) ?_)
      · exact Nat.zero_le _
      rintro k hk
      rcases Nat.lt_or_ge k f.length with h6 | h6
      · have hd2 : decide ((k : Int) < (f.length : Int)) = true := decide_eq_true (by omega)
        have hd3 : decide ((k : Int) < (B.length : Int)) = true := by rw [hBl]; exact hd2
        have hs := hstep k h6
        have hg : B.getD (k : Int).toNat Cel.no = b2i (fB (N : Int) f (i : Int) k) := hget k h6
        rw [← hg] at hs
        have hb1 := b2i_bd (fB (N : Int) f (i : Int) k)
        rw [← hg] at hb1
        have hw1 := hwb k hk
        have hw2 := p256 k hk
        clear hg
        (repeat (first | refine gq_KNH ?_ | (refine ga_KNH ?_; intro _hq)))
        refine ⟨k + 1, h6, ?_, (by first | omega | (dsimp only; omega))⟩
        dsimp only
        rw [hs]
        exact ⟨by rfl, ⟨by rfl, (by repeat (first | exact trivial | refine ⟨by rfl, ?_⟩ | refine ⟨vI_of (by rfl) (by omega), ?_⟩))⟩, (by repeat (first | exact trivial | refine ⟨by rfl, ?_⟩ | refine ⟨vI_of (by rfl) (by omega), ?_⟩))⟩
      · obtain rfl : k = f.length := by omega
        have hd3 : decide ((f.length : Int) < (B.length : Int)) = false := by rw [hBl]; exact decide_eq_false (by omega)
        (repeat (first | refine gq_KNH ?_ | (refine ga_KNH ?_; intro _hq)))
        exact ⟨i + 1, h5, ⟨by rfl, (by repeat (first | exact trivial | refine ⟨by rfl, ?_⟩ | refine ⟨vI_of (by rfl) (by omega), ?_⟩)), (by repeat (first | exact trivial | refine ⟨by rfl, ?_⟩ | refine ⟨vI_of (by rfl) (by omega), ?_⟩))⟩, (by first | omega | (dsimp only; omega))⟩
    · obtain rfl : i = T := by omega
      have hd1 : decide ((i : Int) < 1 * 2 ^ (N : Int).toNat) = false := decide_eq_false (by omega)
      (repeat (first | refine gq_KNH ?_ | (refine ga_KNH ?_; intro _hq)))
      ((try refine aw_ret ?_); refine ret_auto2 (by rfl) (by rfl) (by rfl) (by repeat (first | exact trivial | refine ⟨by first | rfl | omega, ?_⟩)) ?_ (by repeat (first | exact trivial | refine ⟨by rfl, by rfl, ?_⟩)) (by repeat (first | exact trivial | refine ⟨by rfl, by rfl, ?_⟩)); try rfl)
end Go.Proofs.Ytdihmpclbgbgpaa

/- How arguments that came in read: slices of whatever elements. -/
namespace Go.Proofs.Ytdihmpclbgbgpaa
set_option linter.unusedVariables false
set_option linter.unusedSimpArgs false
open Go.ChangeShapes Go.WideShapes Go.ChangeAt Go.RowKit Go.Joins Go.Deep

theorem own : ownKnob Try.prog.godebug = none := by kernel_rfl
theorem laidOut : laidOutB Try.prog = true := by kernel_rfl
/-- The frame of a row's proof, from its walk: the arguments opened by the caller. -/
theorem row_end {H : Type} {enc : TypeId × Value → H} {W : World} {t : TypeId} {v : Value} {d : DataW H} {p : List MemPlace} (h : DataW.Trod enc Try.prog W 0 (fun _ => true) true t v d p) : ∀ x ∈ p, x.block < W.heap.size := by
  obtain ⟨m, hm⟩ := h; exact DataW.trod_lt m _ _ _ hm
theorem add_plain (b off j : Nat) : (⟨b, off, none⟩ : Addr).add j = ⟨b, off + j, none⟩ := by
  unfold Addr.add; split <;> simp_all
theorem list_of {α : Type} (p : Nat → α → Prop) (n : Nat) (h : ∀ j, j < n → ∃ v, p j v) : ∃ l : List α, l.length = n ∧ ∀ j (hj : j < l.length), p j l[j] := by
  induction n with
  | zero => exact ⟨[], rfl, fun j hj => by simp at hj⟩
  | succ n ih =>
    obtain ⟨l, hl, hp⟩ := ih fun j hj => h j (by omega)
    obtain ⟨v, hv⟩ := h n (by omega)
    refine ⟨l ++ [v], by simp [hl], fun j hj => ?_⟩
    by_cases hlt : j < l.length
    · rw [List.getElem_append_left hlt]; exact hp j hlt
    · have e : j = l.length := by simp at hj; omega
      subst e
      simp [hl, hv]
section
variable {H : Type} {enc : TypeId × Value → H} {P : Program} {w : World} {α : Type} [Cel α]
/-- Cells of a type are those of an element. -/
def OpensC (enc : TypeId × Value → H) (P : Program) (w : World) (e : TypeId) (α : Type) [Cel α] : Prop := ∀ n cs x, DataW.trod enc P w 0 (fun _ => true) true n e cs = some x → ∃ a : α, cs = Cel.f a
theorem mapM_get {α β : Type} {f : α → Option β} : ∀ {l : List α} {r : List β}, l.mapM f = some r → r.length = l.length ∧ ∀ (j : Nat) (x : α), l[j]? = some x → ∃ y, r[j]? = some y ∧ f x = some y
  | [], r, h => by
    simp at h; subst h; exact ⟨rfl, fun j x hj => by simp at hj⟩
  | a :: l, r, h => by
    rw [List.mapM_cons] at h
    cases ha : f a with
    | none => simp [ha] at h
    | some y =>
      cases hl : l.mapM f with
      | none => simp [ha, hl] at h
      | some r' =>
        simp [ha, hl] at h
        subst h
        obtain ⟨h1, h2⟩ := mapM_get hl
        refine ⟨by simp [h1], fun j x hj => ?_⟩
        cases j with
        | zero => simp at hj; subst hj; exact ⟨y, rfl, ha⟩
        | succ j => obtain ⟨z, hz, hf⟩ := h2 j x (by simpa using hj); exact ⟨z, by simpa using hz, hf⟩
theorem ro_of_trod {t e : TypeId} {fuel : Nat} {v : Value} {y : DataW H × List MemPlace} (ht : P.underlying t = some (.slice e)) (hc : P.cellsOf e = Cel.sz α) (ho : OpensC enc P w e α)
    (h : DataW.trod enc P w 0 (fun _ => true) true fuel t [v] = some y) : ∃ l : List α, Rep0 w (.g (.one (.ro (Cel.sz α) l.length (cV l)))) v := by
  rcases open_slice ht h with ⟨hcs, _⟩ | ⟨a, len, cap, m, n, D, Pl, hcs, _, hl, hm, hmm, rfl, hx⟩
  · simp at hcs
    subst hcs
    exact ⟨[], ⟨by simp, rfl⟩, none, 0, rfl, Nat.le_refl _, by unfold maxLen; omega, fun h => absurd h (Nat.lt_irrefl _)⟩
  · simp at hcs
    subst hcs
    simp at hmm
    subst hmm
    rw [hc] at hx
    obtain ⟨l, hll, hlp⟩ := list_of (fun j (u : α) => w.cells? 0 (a.add (j * Cel.sz α)) (Cel.sz α) = some (Cel.f u)) len fun j hj => by
      obtain ⟨cs', h1, h2⟩ := hx j (by omega)
      obtain ⟨u, rfl⟩ := ho _ _ _ h2
      exact ⟨u, h1⟩
    have hcell : ∀ (j o : Nat) (hj : j < l.length) (ho : o < Cel.sz α), ∃ x, (Cel.f l[j])[o]? = some x ∧ w.cell? ((a.add (j * Cel.sz α)).add o) = some x := by
      intro j o hj ho
      have h1 := hlp j hj
      unfold World.cells? at h1
      rw [if_pos (Nat.zero_le _)] at h1
      obtain ⟨_, h2⟩ := mapM_get h1
      obtain ⟨x, h3, h4⟩ := h2 o o (by simp [ho])
      exact ⟨x, h3, h4⟩
    refine ⟨l, ⟨by rw [cV_len], cV_one l⟩, some a, m, by rw [hll], by omega, hm, fun hn => ?_⟩
    obtain ⟨b, off, spot⟩ := a
    have hspot : spot = none := by
      obtain ⟨x, _, h2⟩ := hcell 0 0 hn Cel.pos
      have := World.cell?_spot h2
      simpa [Addr.add] using this
    subst hspot
    refine ⟨b, off, rfl, ?_, fun j x hj => ?_⟩
    · obtain ⟨x, _, h2⟩ := hcell 0 0 hn Cel.pos
      rw [add_plain, add_plain] at h2
      exact World.block_lt_of_cell? w _ h2
    · have hpos : 0 < Cel.sz α := Cel.pos
      have hlt : j < l.length * Cel.sz α := by rw [← cV_len]; exact (List.getElem?_eq_some_iff.1 hj).1
      have hdm := Nat.div_add_mod j (Cel.sz α)
      have hml := Nat.mod_lt j hpos
      have hdl : j / Cel.sz α < l.length := Nat.div_lt_of_lt_mul (by rw [Nat.mul_comm]; exact hlt)
      obtain ⟨y, h1, h2⟩ := hcell (j / Cel.sz α) (j % Cel.sz α) hdl hml
      rw [add_plain, add_plain] at h2
      have e1 : l.getD (j / Cel.sz α) Cel.no = l[j / Cel.sz α] := by simp [List.getD_eq_getElem?_getD, hdl]
      have h3 := cV_cell (l := l) (j := j / Cel.sz α) (o := j % Cel.sz α) (v := y) hdl (by rw [e1]; exact h1)
      have e2 : j / Cel.sz α * Cel.sz α + j % Cel.sz α = j := by rw [Nat.mul_comm]; exact hdm
      rw [e2, hj] at h3
      cases h3
      rw [show off + j = off + j / Cel.sz α * Cel.sz α + j % Cel.sz α by omega]
      exact h2
end
section
variable {H : Type} {enc : TypeId × Value → H} {P : Program} {w : World}
theorem opens_byte {e : TypeId} (he : P.underlying e = some (.int .u8)) : OpensC enc P w e UInt8 := by
  intro n cs x h
  obtain ⟨k, h1, _, hw⟩ := DataW.trod_int he h
  have h2 : 0 ≤ k ∧ k < 256 := by
    simp [Lit.wf, IntKind.min, IntKind.max, IntKind.signed, IntKind.bits] at hw
    omega
  refine ⟨UInt8.ofNat k.toNat, ?_⟩
  rw [h1]
  show [Value.int .u8 k] = [Value.int .u8 ((UInt8.ofNat k.toNat).toNat : Int)]
  simp only [UInt8.toNat_ofNat']
  rw [Nat.mod_eq_of_lt (by omega)]
  congr 2
  omega
theorem slice_shape {e t : TypeId} {v : Value} {d : DataW H} {ps : List MemPlace} {r : Reach} {b0 : Nat} (ht : P.underlying t = some (.slice e)) (hval : Value.okWide P w r b0 t v) (h : DataW.Trod enc P w 0 (fun _ => true) true t v d ps) : ∃ fuel y, DataW.trod enc P w 0 (fun _ => true) true fuel t [v] = some y := by
  obtain ⟨A, n, c, rfl⟩ := okWide_slice ht hval
  obtain ⟨fuel, hf⟩ := h
  exact ⟨fuel, _, hf⟩
/-- Bytes that came in. -/
theorem bytes_of_trod {e t : TypeId} {v : Value} {d : DataW H} {ps : List MemPlace} {r : Reach} {b0 : Nat} (ht : P.underlying t = some (.slice e)) (he : P.underlying e = some (.int .u8)) (hc : P.cellsOf e = 1) (hval : Value.okWide P w r b0 t v) (h : DataW.Trod enc P w 0 (fun _ => true) true t v d ps) :
    ∃ l : List UInt8, Rep0 w (roA l) v := by
  obtain ⟨fuel, y, hf⟩ := slice_shape ht hval h
  exact ro_of_trod (α := UInt8) ht hc (opens_byte he) hf
end
section
variable {H : Type} {enc : TypeId × Value → H} {P : Program} {w : World}
end
/-- A law answers true and leaves what was there, by its contract. -/
theorem law_of_kon {P : Program} {f : FuncId} {aa : List AV} (h : Kon P f aa [] (vB true) [] []) {vs : Array Value} {w : World} (hs : vs.size = aa.length) (hr : ∀ (j : Nat) (a : AV), aa[j]? = some a → ∃ z, vs[j]? = some z ∧ Rep0 w a z) :
    Calls P f vs w fun e w' => e = .returned (.bool true) ∧ Below w.heap.size w w' := by
  obtain ⟨C, hC, hCe⟩ := h
  exact law_run hC hCe hs hr
end Go.Proofs.Ytdihmpclbgbgpaa
