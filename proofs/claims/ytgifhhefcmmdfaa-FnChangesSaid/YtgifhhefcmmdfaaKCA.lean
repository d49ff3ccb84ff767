/- Bits of words; the law FnChanges. -/
import Derived.Test.YtgifhhefcmmdfaaKGY
import Derived.Test.YtgifhhefcmmdfaaKGI
import Derived.Test.YtgifhhefcmmdfaaPJ
import Derived.Test.YtgifhhefcmmdfaaKGP
import Derived.Test.YtgifhhefcmmdfaaKDL
namespace Go.Proofs.Ytgifhhefcmmdfaa
set_option linter.unusedVariables false
set_option linter.unusedSimpArgs false
set_option maxRecDepth 20000
open Go.RowKit
attribute [local irreducible] runA runX AW
def wsZC : List (Nat × Nat) := [(33, 1), (999999, 0)]
theorem gq_KCA {H G : Prop} (k : H) (h : Hid H → G := by (intro hh; (first | (first | ((first | refine r_none ?_ | refine r_gt (by rfl) (by rfl) (by first | rfl | assumption | omega | (simp only [*, Bool.not_false, Bool.not_true]; first | done | fail) | (simp [*]; first | done | fail)) (by rfl) ?_ | refine r_gf (by rfl) (by rfl) (by first | rfl | assumption | omega | (simp only [*, Bool.not_false, Bool.not_true]; first | done | fail) | (simp [*]; first | done | fail)) (by rfl) ?_); (first | fail | ((first | (refine z_op (by rfl) ?_; first | refine z_ok ?_ ?_ | refine z_ex ?_ (by first | exact ft_raw rfl rfl | ((first | refine ft_rp rfl rfl rfl ?_ | refine ft_row rfl rfl rfl ?_ | refine ft_rpF rfl rfl rfl ?_ | refine ft_rowF rfl rfl rfl ?_ | refine up_row rfl rfl ?_ | refine up_rowF rfl rfl rfl ?_ | refine ct_0 rfl ?_ | refine ct_r rfl rfl ?_ | refine ct_c rfl rfl rfl ?_ | refine cu_all rfl ?_ | refine cu_to rfl ?_ | refine cu_from rfl ?_ | refine cu_p rfl ?_ | fail); (first | omega | (simp only [List.length_append, List.length_replicate, List.length_cons, List.length_nil, List.length_set, List.length_take, List.length_drop, true_and]; omega))) | exact up_raw rfl | exact pk_t (by first | rfl | assumption | omega | (simp only [*, Bool.not_false, Bool.not_true]; first | done | fail) | (simp [*]; first | done | fail)) rfl | exact pk_f (by first | rfl | assumption | omega | (simp only [*, Bool.not_false, Bool.not_true]; first | done | fail) | (simp [*]; first | done | fail)) rfl | fail | exact rw_raw | exact pu_cv (fun w => rfl) (by omega) | exact pu_of (fun w => rfl) rfl | exact be_of (fun w => rfl) | exact nc_of (fun _ _ _ _ => rfl) rfl | exact bu_of (fun w => rfl) rfl | fail) ?_) | ((first | refine q_callE wsT wsZC (by rfl) ?_ | refine q_callVE wsT (by rfl) (by rfl) ?_); refine ⟨_, _, _, (by first | assumption | exact k_alive | exact k_open _ (by omega) | exact k_within _ _ _ | exact k_wv _ _ | exact k_gvS _ _ (by omega)), _, by rfl, ?_, ?_⟩)); focus (first | exact trivial | fail | exact rfl | (first | omega | (simp only [List.length_append, List.length_replicate, List.length_cons, List.length_nil, List.length_set, List.length_take, List.length_drop, true_and]; omega)) | exact cvB (fun w => rfl) | ((repeat' (first | exact rfl | exact cV_len _ | exact cV_ln rfl (by omega) | exact Cel.pos | omega | exact trivial | refine And.intro ?_ ?_)); done) | (simp [*]; done) | (simp; omega))) | fail)) | refine r_nt (by rfl) (by rfl) (by first | rfl | assumption | omega | (simp only [*, Bool.not_false, Bool.not_true]; first | done | fail) | (simp [*]; first | done | fail)) (by rfl) ?_ | refine r_nf (by rfl) (by rfl) (by first | rfl | assumption | omega | (simp only [*, Bool.not_false, Bool.not_true]; first | done | fail) | (simp [*]; first | done | fail)) (by rfl) ?_ | refine r_gu (by rfl) (by rfl) (by rfl) ?_ | refine r_nil ?_) | (first | refine aw_seq ?_ | refine aw_ct (by rfl) (by first | rfl | assumption | omega | (simp only [*, Bool.not_false, Bool.not_true]; first | done | fail) | (simp [*]; first | done | fail)) ?_ | refine aw_cf (by rfl) (by first | rfl | assumption | omega | (simp only [*, Bool.not_false, Bool.not_true]; first | done | fail) | (simp [*]; first | done | fail)) ?_ | refine aw_block ?_ | refine aw_region T0ok cfU_ok (by rfl) ?_ | refine aw_skip ?_ | refine aw_exit ?_ | refine ra_step ?_)); (repeat (first | (first | ((first | refine r_none ?_ | refine r_gt (by rfl) (by rfl) (by first | rfl | assumption | omega | (simp only [*, Bool.not_false, Bool.not_true]; first | done | fail) | (simp [*]; first | done | fail)) (by rfl) ?_ | refine r_gf (by rfl) (by rfl) (by first | rfl | assumption | omega | (simp only [*, Bool.not_false, Bool.not_true]; first | done | fail) | (simp [*]; first | done | fail)) (by rfl) ?_); (first | fail | ((first | (refine z_op (by rfl) ?_; first | refine z_ok ?_ ?_ | refine z_ex ?_ (by first | exact ft_raw rfl rfl | ((first | refine ft_rp rfl rfl rfl ?_ | refine ft_row rfl rfl rfl ?_ | refine ft_rpF rfl rfl rfl ?_ | refine ft_rowF rfl rfl rfl ?_ | refine up_row rfl rfl ?_ | refine up_rowF rfl rfl rfl ?_ | refine ct_0 rfl ?_ | refine ct_r rfl rfl ?_ | refine ct_c rfl rfl rfl ?_ | refine cu_all rfl ?_ | refine cu_to rfl ?_ | refine cu_from rfl ?_ | refine cu_p rfl ?_ | fail); (first | omega | (simp only [List.length_append, List.length_replicate, List.length_cons, List.length_nil, List.length_set, List.length_take, List.length_drop, true_and]; omega))) | exact up_raw rfl | exact pk_t (by first | rfl | assumption | omega | (simp only [*, Bool.not_false, Bool.not_true]; first | done | fail) | (simp [*]; first | done | fail)) rfl | exact pk_f (by first | rfl | assumption | omega | (simp only [*, Bool.not_false, Bool.not_true]; first | done | fail) | (simp [*]; first | done | fail)) rfl | fail | exact rw_raw | exact pu_cv (fun w => rfl) (by omega) | exact pu_of (fun w => rfl) rfl | exact be_of (fun w => rfl) | exact nc_of (fun _ _ _ _ => rfl) rfl | exact bu_of (fun w => rfl) rfl | fail) ?_) | ((first | refine q_callE wsT wsZC (by rfl) ?_ | refine q_callVE wsT (by rfl) (by rfl) ?_); refine ⟨_, _, _, (by first | assumption | exact k_alive | exact k_open _ (by omega) | exact k_within _ _ _ | exact k_wv _ _ | exact k_gvS _ _ (by omega)), _, by rfl, ?_, ?_⟩)); focus (first | exact trivial | fail | exact rfl | (first | omega | (simp only [List.length_append, List.length_replicate, List.length_cons, List.length_nil, List.length_set, List.length_take, List.length_drop, true_and]; omega)) | exact cvB (fun w => rfl) | ((repeat' (first | exact rfl | exact cV_len _ | exact cV_ln rfl (by omega) | exact Cel.pos | omega | exact trivial | refine And.intro ?_ ?_)); done) | (simp [*]; done) | (simp; omega))) | fail)) | refine r_nt (by rfl) (by rfl) (by first | rfl | assumption | omega | (simp only [*, Bool.not_false, Bool.not_true]; first | done | fail) | (simp [*]; first | done | fail)) (by rfl) ?_ | refine r_nf (by rfl) (by rfl) (by first | rfl | assumption | omega | (simp only [*, Bool.not_false, Bool.not_true]; first | done | fail) | (simp [*]; first | done | fail)) (by rfl) ?_ | refine r_gu (by rfl) (by rfl) (by rfl) ?_ | refine r_nil ?_) | (first | refine aw_seq ?_ | refine aw_ct (by rfl) (by first | rfl | assumption | omega | (simp only [*, Bool.not_false, Bool.not_true]; first | done | fail) | (simp [*]; first | done | fail)) ?_ | refine aw_cf (by rfl) (by first | rfl | assumption | omega | (simp only [*, Bool.not_false, Bool.not_true]; first | done | fail) | (simp [*]; first | done | fail)) ?_ | refine aw_block ?_ | refine aw_region T0ok cfU_ok (by rfl) ?_ | refine aw_skip ?_ | refine aw_exit ?_ | refine ra_step ?_))); exact hh.out)) : G := h ⟨k⟩
theorem ga_KCA {H G : Prop} (k : H) (h : Hid H → G := by (intro hh; (first | refine r_none ?_ | refine r_gt (by rfl) (by rfl) (by first | rfl | assumption | omega | (simp only [*, Bool.not_false, Bool.not_true]; first | done | fail) | (simp [*]; first | done | fail)) (by rfl) ?_ | refine r_gf (by rfl) (by rfl) (by first | rfl | assumption | omega | (simp only [*, Bool.not_false, Bool.not_true]; first | done | fail) | (simp [*]; first | done | fail)) (by rfl) ?_); refine z_op (by rfl) ?_; refine z_alV ?_ hh.out; focus (first | exact trivial | fail | exact rfl | (first | omega | (simp only [List.length_append, List.length_replicate, List.length_cons, List.length_nil, List.length_set, List.length_take, List.length_drop, true_and]; omega)) | exact cvB (fun w => rfl) | ((repeat' (first | exact rfl | exact cV_len _ | exact cV_ln rfl (by omega) | exact Cel.pos | omega | exact trivial | refine And.intro ?_ ?_)); done) | (simp [*]; done) | (simp; omega)))) : G := h ⟨k⟩
theorem gs_KCA {H G : Prop} (k : H) (h : Hid H → G := by (intro hh; (first | ((first | refine r_none ?_ | refine r_gt (by rfl) (by rfl) (by first | rfl | assumption | omega | (simp only [*, Bool.not_false, Bool.not_true]; first | done | fail) | (simp [*]; first | done | fail)) (by rfl) ?_ | refine r_gf (by rfl) (by rfl) (by first | rfl | assumption | omega | (simp only [*, Bool.not_false, Bool.not_true]; first | done | fail) | (simp [*]; first | done | fail)) (by rfl) ?_); (first | fail | ((first | (refine z_op (by rfl) ?_; first | refine z_ok ?_ ?_ | refine z_ex ?_ (by first | exact ft_raw rfl rfl | ((first | refine ft_rp rfl rfl rfl ?_ | refine ft_row rfl rfl rfl ?_ | refine ft_rpF rfl rfl rfl ?_ | refine ft_rowF rfl rfl rfl ?_ | refine up_row rfl rfl ?_ | refine up_rowF rfl rfl rfl ?_ | refine ct_0 rfl ?_ | refine ct_r rfl rfl ?_ | refine ct_c rfl rfl rfl ?_ | refine cu_all rfl ?_ | refine cu_to rfl ?_ | refine cu_from rfl ?_ | refine cu_p rfl ?_ | fail); (first | omega | (simp only [List.length_append, List.length_replicate, List.length_cons, List.length_nil, List.length_set, List.length_take, List.length_drop, true_and]; omega))) | exact up_raw rfl | exact pk_t (by first | rfl | assumption | omega | (simp only [*, Bool.not_false, Bool.not_true]; first | done | fail) | (simp [*]; first | done | fail)) rfl | exact pk_f (by first | rfl | assumption | omega | (simp only [*, Bool.not_false, Bool.not_true]; first | done | fail) | (simp [*]; first | done | fail)) rfl | fail | exact rw_raw | exact pu_cv (fun w => rfl) (by omega) | exact pu_of (fun w => rfl) rfl | exact be_of (fun w => rfl) | exact nc_of (fun _ _ _ _ => rfl) rfl | exact bu_of (fun w => rfl) rfl | fail) ?_) | ((first | refine q_callE wsT wsZC (by rfl) ?_ | refine q_callVE wsT (by rfl) (by rfl) ?_); refine ⟨_, _, _, (by first | assumption | exact k_alive | exact k_open _ (by omega) | exact k_within _ _ _ | exact k_wv _ _ | exact k_gvS _ _ (by omega)), _, by rfl, ?_, ?_⟩)); focus (first | exact trivial | fail | exact rfl | (first | omega | (simp only [List.length_append, List.length_replicate, List.length_cons, List.length_nil, List.length_set, List.length_take, List.length_drop, true_and]; omega)) | exact cvB (fun w => rfl) | ((repeat' (first | exact rfl | exact cV_len _ | exact cV_ln rfl (by omega) | exact Cel.pos | omega | exact trivial | refine And.intro ?_ ?_)); done) | (simp [*]; done) | (simp; omega))) | fail)) | refine r_nt (by rfl) (by rfl) (by first | rfl | assumption | omega | (simp only [*, Bool.not_false, Bool.not_true]; first | done | fail) | (simp [*]; first | done | fail)) (by rfl) ?_ | refine r_nf (by rfl) (by rfl) (by first | rfl | assumption | omega | (simp only [*, Bool.not_false, Bool.not_true]; first | done | fail) | (simp [*]; first | done | fail)) (by rfl) ?_ | refine r_gu (by rfl) (by rfl) (by rfl) ?_ | refine r_nil ?_); (repeat (first | ((first | refine r_none ?_ | refine r_gt (by rfl) (by rfl) (by first | rfl | assumption | omega | (simp only [*, Bool.not_false, Bool.not_true]; first | done | fail) | (simp [*]; first | done | fail)) (by rfl) ?_ | refine r_gf (by rfl) (by rfl) (by first | rfl | assumption | omega | (simp only [*, Bool.not_false, Bool.not_true]; first | done | fail) | (simp [*]; first | done | fail)) (by rfl) ?_); (first | fail | ((first | (refine z_op (by rfl) ?_; first | refine z_ok ?_ ?_ | refine z_ex ?_ (by first | exact ft_raw rfl rfl | ((first | refine ft_rp rfl rfl rfl ?_ | refine ft_row rfl rfl rfl ?_ | refine ft_rpF rfl rfl rfl ?_ | refine ft_rowF rfl rfl rfl ?_ | refine up_row rfl rfl ?_ | refine up_rowF rfl rfl rfl ?_ | refine ct_0 rfl ?_ | refine ct_r rfl rfl ?_ | refine ct_c rfl rfl rfl ?_ | refine cu_all rfl ?_ | refine cu_to rfl ?_ | refine cu_from rfl ?_ | refine cu_p rfl ?_ | fail); (first | omega | (simp only [List.length_append, List.length_replicate, List.length_cons, List.length_nil, List.length_set, List.length_take, List.length_drop, true_and]; omega))) | exact up_raw rfl | exact pk_t (by first | rfl | assumption | omega | (simp only [*, Bool.not_false, Bool.not_true]; first | done | fail) | (simp [*]; first | done | fail)) rfl | exact pk_f (by first | rfl | assumption | omega | (simp only [*, Bool.not_false, Bool.not_true]; first | done | fail) | (simp [*]; first | done | fail)) rfl | fail | exact rw_raw | exact pu_cv (fun w => rfl) (by omega) | exact pu_of (fun w => rfl) rfl | exact be_of (fun w => rfl) | exact nc_of (fun _ _ _ _ => rfl) rfl | exact bu_of (fun w => rfl) rfl | fail) ?_) | ((first | refine q_callE wsT wsZC (by rfl) ?_ | refine q_callVE wsT (by rfl) (by rfl) ?_); refine ⟨_, _, _, (by first | assumption | exact k_alive | exact k_open _ (by omega) | exact k_within _ _ _ | exact k_wv _ _ | exact k_gvS _ _ (by omega)), _, by rfl, ?_, ?_⟩)); focus (first | exact trivial | fail | exact rfl | (first | omega | (simp only [List.length_append, List.length_replicate, List.length_cons, List.length_nil, List.length_set, List.length_take, List.length_drop, true_and]; omega)) | exact cvB (fun w => rfl) | ((repeat' (first | exact rfl | exact cV_len _ | exact cV_ln rfl (by omega) | exact Cel.pos | omega | exact trivial | refine And.intro ?_ ?_)); done) | (simp [*]; done) | (simp; omega))) | fail)) | refine r_nt (by rfl) (by rfl) (by first | rfl | assumption | omega | (simp only [*, Bool.not_false, Bool.not_true]; first | done | fail) | (simp [*]; first | done | fail)) (by rfl) ?_ | refine r_nf (by rfl) (by rfl) (by first | rfl | assumption | omega | (simp only [*, Bool.not_false, Bool.not_true]; first | done | fail) | (simp [*]; first | done | fail)) (by rfl) ?_ | refine r_gu (by rfl) (by rfl) (by rfl) ?_ | refine r_nil ?_)); exact hh.out)) : G := h ⟨k⟩
theorem gc_KCA {H G : Prop} (k : H) (h : Hid H → G := by (intro hh; (first | refine aw_seq ?_ | refine aw_ct (by rfl) (by first | rfl | assumption | omega | (simp only [*, Bool.not_false, Bool.not_true]; first | done | fail) | (simp [*]; first | done | fail)) ?_ | refine aw_cf (by rfl) (by first | rfl | assumption | omega | (simp only [*, Bool.not_false, Bool.not_true]; first | done | fail) | (simp [*]; first | done | fail)) ?_ | refine aw_block ?_ | refine aw_region T0ok cfU_ok (by rfl) ?_ | refine aw_skip ?_ | refine aw_exit ?_ | refine ra_step ?_); (repeat (first | refine aw_seq ?_ | refine aw_ct (by rfl) (by first | rfl | assumption | omega | (simp only [*, Bool.not_false, Bool.not_true]; first | done | fail) | (simp [*]; first | done | fail)) ?_ | refine aw_cf (by rfl) (by first | rfl | assumption | omega | (simp only [*, Bool.not_false, Bool.not_true]; first | done | fail) | (simp [*]; first | done | fail)) ?_ | refine aw_block ?_ | refine aw_region T0ok cfU_ok (by rfl) ?_ | refine aw_skip ?_ | refine aw_exit ?_ | refine ra_step ?_)); exact hh.out)) : G := h ⟨k⟩
theorem gd_KCA {H G : Prop} (k : H) (h : Hid H → G := by (intro hh; (refine aw_draw mixed T0ok cfU_ok [] (by rfl) (by kernel_rfl) ?_); exact hh.out)) : G := h ⟨k⟩
theorem k_bitOf (n w k : Int) (hw : wvB n w = true) (hk : 0 ≤ k ∧ k < n) : Kon Try.prog 39 [vI n, vI w, vI k] [] (vI (if bt w k then 1 else 0)) [] [] := by
  have hv := wvB_t hw
  have hb : btw k 0 (n - 1) = true := by unfold btw; rw [decide_eq_true hk.1, decide_eq_true (show k ≤ n - 1 by omega)]; rfl
  rw [← sb_and hv.2.1]
  (refine kon_mk T0ok (fn := Try.f39) (c := Try.f39.body.get rfl) Try.func39 rfl (by rfl) (by rfl) (by rfl) ?_; intro hfit hfe)
  (repeat (first | refine gq_KCA ?_ | (refine ga_KCA ?_; intro _hq)))
  ((try refine aw_ret ?_); refine ret_auto2 (by rfl) (by rfl) (by rfl) (by repeat (first | exact trivial | refine ⟨by first | rfl | omega, ?_⟩)) ?_ (by repeat (first | exact trivial | refine ⟨by rfl, by rfl, ?_⟩)) (by repeat (first | exact trivial | refine ⟨by rfl, by rfl, ?_⟩)); try rfl)
theorem k_sameI (l : List Int) (h : l.length ≤ 10000000) : Kon Try.prog 33 [roA l, roA l] [] (vB true) [] [] := by
  have h1 : ((l.length : Int) != (l.length : Int)) = false := by simp
  have hg : ∀ x : Int, (x != x) = false := fun x => by simp
  (refine kon_mk T0ok (fn := Try.f33) (c := Try.f33.body.get rfl) Try.func33 rfl (by rfl) (by rfl) (by rfl) ?_; intro hfit hfe)
  (repeat (first | refine gq_KCA ?_ | (refine ga_KCA ?_; intro _hq)))
  (refine aw_rd [0, 1] [] (fun i : Nat => [(5, vI i)]) (fun _ => []) (fun i => i ≤ l.length) (fun i => l.length - i) 0 (by rfl) (by rfl) ?_ (by rfl) (by repeat (first | exact trivial | refine ⟨by rfl, ?_⟩ | refine ⟨vI_of (by rfl) (by omega), ?_⟩)) (by repeat (first | exact trivial | refine ⟨by rfl, ?_⟩ | refine ⟨vI_of (by rfl) (by omega), ?_⟩)) ?_)
  · exact Nat.zero_le _
  rintro i hi
  rcases Nat.lt_or_ge i l.length with h5 | h5
  · have hd : decide ((i : Int) < (l.length : Int)) = true := decide_eq_true (by omega)
    have hg := hg (l.getD (i : Int).toNat Cel.no)
    (repeat (first | refine gq_KCA ?_ | (refine ga_KCA ?_; intro _hq) | refine gd_KCA ?_))
    exact ⟨i + 1, h5, ⟨by rfl, (by repeat (first | exact trivial | refine ⟨by rfl, ?_⟩ | refine ⟨vI_of (by rfl) (by omega), ?_⟩)), (by repeat (first | exact trivial | refine ⟨by rfl, ?_⟩ | refine ⟨vI_of (by rfl) (by omega), ?_⟩))⟩, (by first | omega | (dsimp only; omega))⟩
  · have hd : decide ((i : Int) < (l.length : Int)) = false := decide_eq_false (by omega)
    (repeat (first | refine gq_KCA ?_ | (refine ga_KCA ?_; intro _hq) | refine gd_KCA ?_))
    ((try refine aw_ret ?_); refine ret_auto2 (by rfl) (by rfl) (by rfl) (by repeat (first | exact trivial | refine ⟨by first | rfl | omega, ?_⟩)) ?_ (by repeat (first | exact trivial | refine ⟨by rfl, by rfl, ?_⟩)) (by repeat (first | exact trivial | refine ⟨by rfl, by rfl, ?_⟩)); try rfl)
theorem k_asc1 (x : Int) : Kon Try.prog 50 [roA [x]] [] (vB true) [] [] := by
  (refine kon_mk T0ok (fn := Try.f50) (c := Try.f50.body.get rfl) Try.func50 rfl (by rfl) (by rfl) (by rfl) ?_; intro hfit hfe)
  (repeat (first | refine gq_KCA ?_ | (refine ga_KCA ?_; intro _hq)))
  refine aw_unroll 1 ?_
  (repeat (first | refine gq_KCA ?_ | (refine ga_KCA ?_; intro _hq) | refine gd_KCA ?_))
  ((try refine aw_ret ?_); refine ret_auto2 (by rfl) (by rfl) (by rfl) (by repeat (first | exact trivial | refine ⟨by first | rfl | omega, ?_⟩)) ?_ (by repeat (first | exact trivial | refine ⟨by rfl, by rfl, ?_⟩)) (by repeat (first | exact trivial | refine ⟨by rfl, by rfl, ?_⟩)); try rfl)
theorem k_asc2 (x y : Int) (h : x < y) : Kon Try.prog 50 [roA [x, y]] [] (vB true) [] [] := by
  have hd : decide (x ≥ y) = false := decide_eq_false (by omega)
  (refine kon_mk T0ok (fn := Try.f50) (c := Try.f50.body.get rfl) Try.func50 rfl (by rfl) (by rfl) (by rfl) ?_; intro hfit hfe)
  (repeat (first | refine gq_KCA ?_ | (refine ga_KCA ?_; intro _hq)))
  refine aw_unroll 2 ?_
  (repeat (first | refine gq_KCA ?_ | (refine ga_KCA ?_; intro _hq) | refine gd_KCA ?_))
  ((try refine aw_ret ?_); refine ret_auto2 (by rfl) (by rfl) (by rfl) (by repeat (first | exact trivial | refine ⟨by first | rfl | omega, ?_⟩)) ?_ (by repeat (first | exact trivial | refine ⟨by rfl, by rfl, ?_⟩)) (by repeat (first | exact trivial | refine ⟨by rfl, by rfl, ?_⟩)); try rfl)
theorem mn_lt {x y : Int} (h : x ≠ y) : mn x y < mx x y := by rcases mn_or x y with ⟨h1, h2⟩ | ⟨h1, h2⟩ <;> unfold mn mx <;> split <;> split <;> omega
theorem k_asc {n : Int} {g : Gt} (h : gok n g = true) : Kon Try.prog 50 [roA (chgL g)] [] (vB true) [] [] := by
  obtain ⟨_, hf⟩ := gok_facts h
  unfold chgL
  rcases hf with ⟨hk, ha, _⟩ | ⟨hk | hk, ha, hb', hne, _⟩ | ⟨hk | hk, ha, hb', hne, hc, hne2, hne3⟩
  · rw [if_pos hk]; exact k_asc1 _
  · rw [if_neg (by omega), if_pos hk]; exact k_asc1 _
  · rw [if_neg (by omega), if_neg (by omega), if_neg (by omega), if_pos hk]; exact k_asc2 _ _ (mn_lt (Ne.symm hne))
  · rw [if_neg (by omega), if_neg (by omega), if_pos hk]; exact k_asc1 _
  · rw [if_neg (by omega), if_neg (by omega), if_neg (by omega), if_neg (by omega)]; exact k_asc2 _ _ (mn_lt (Ne.symm hne3))
/-- Has some word this line changed? -/
def smN (g : Gt) (k : Int) : Nat → Bool
  | 0 => false
  | w + 1 => smN g k w || (gc g (w : Int) && (gm g).testBit k.toNat)
theorem smN_some {g : Gt} {k : Int} : ∀ {W : Nat}, smN g k W = true → (gm g).testBit k.toNat = true
  | w + 1, h => by
    rw [smN, Bool.or_eq_true] at h
    rcases h with h | h
    · exact smN_some h
    · rw [Bool.and_eq_true] at h; exact h.2
theorem smN_of {g : Gt} {k : Int} (hb : (gm g).testBit k.toNat = true) : ∀ {W w : Nat}, w < W → gc g (w : Int) = true → smN g k W = true
  | W + 1, w, hw, hc => by
    rw [smN]
    rcases Nat.lt_or_ge w W with h | h
    · rw [smN_of hb h hc]; rfl
    · have : w = W := by omega
      subst this
      rw [hc, hb]; simp
theorem bit_or (a b i : Nat) : (2 ^ a ||| 2 ^ b).testBit i = (decide (a = i) || decide (b = i)) := by rw [Nat.testBit_or, two_bit, two_bit]
/-- Every gate changes some word. -/
theorem gc_some {n : Int} {g : Gt} (h : gok n g = true) : ∃ w : Nat, w < 2 ^ n.toNat ∧ gc g (w : Int) = true := by
  obtain ⟨hn, hf⟩ := gok_facts h
  have p : ∀ x : Int, 0 ≤ x ∧ x < n → 2 ^ x.toNat < 2 ^ n.toNat := fun x hx => Nat.pow_lt_pow_right (by omega) (by omega)
  have b : ∀ (w : Nat) (x : Int), bt (w : Int) x = w.testBit x.toNat := fun w x => by unfold bt; rw [Int.toNat_natCast]
  rcases hf with ⟨hk, ha, _⟩ | ⟨hk | hk, ha, hb', hne, _⟩ | ⟨hk | hk, ha, hb', hne, hc, hne2, hne3⟩
  · exact ⟨0, Nat.two_pow_pos _, gc0 hk⟩
  · exact ⟨2 ^ g.a.toNat, p _ ha, by rw [gc1 hk, b, two_bit]; exact decide_eq_true rfl⟩
  · refine ⟨2 ^ g.a.toNat, p _ ha, ?_⟩
    rw [gc3 hk, b, b, two_bit, two_bit, decide_eq_true rfl, decide_eq_false (by omega)]; rfl
  · refine ⟨2 ^ g.a.toNat ||| 2 ^ g.b.toNat, Nat.or_lt_two_pow (p _ ha) (p _ hb'), ?_⟩
    rw [gc2 hk, b, b, bit_or, bit_or]; simp
  · refine ⟨2 ^ g.a.toNat ||| 2 ^ g.b.toNat, Nat.or_lt_two_pow (p _ ha) (p _ hb'), ?_⟩
    rw [gc4 hk, b, b, b, bit_or, bit_or, bit_or, decide_eq_true rfl, decide_eq_true rfl, decide_eq_false (show ¬ g.a.toNat = g.c.toNat by omega), decide_eq_false (show ¬ g.b.toNat = g.c.toNat by omega)]; simp
theorem told_gm {n : Int} {g : Gt} (h : gok n g = true) {x : Int} (hx : x ∈ chgL g) : (gm g).testBit x.toNat = true := by
  obtain ⟨hn, hf⟩ := gok_facts h
  unfold chgL at hx
  rcases hf with ⟨hk, ha, _⟩ | ⟨hk | hk, ha, hb', hne, _⟩ | ⟨hk | hk, ha, hb', hne, hc, hne2, hne3⟩
  · rw [if_pos hk] at hx
    rw [gm0 hk, two_bit, List.mem_singleton.1 hx]; exact decide_eq_true rfl
  · rw [if_neg (by omega), if_pos hk] at hx
    rw [gm1 hk, two_bit, List.mem_singleton.1 hx]; exact decide_eq_true rfl
  · rw [if_neg (by omega), if_neg (by omega), if_neg (by omega), if_pos hk, mn_mem] at hx
    rw [gm3 hk, Nat.testBit_xor, two_bit, two_bit]
    rcases hx with rfl | rfl
    · rw [decide_eq_true rfl, decide_eq_false (by omega)]; rfl
    · rw [decide_eq_true (p := g.b.toNat = g.b.toNat) rfl, decide_eq_false (by omega)]; rfl
  · rw [if_neg (by omega), if_neg (by omega), if_pos hk] at hx
    rw [gm2 hk, two_bit, List.mem_singleton.1 hx]; exact decide_eq_true rfl
  · rw [if_neg (by omega), if_neg (by omega), if_neg (by omega), if_neg (by omega), mn_mem] at hx
    rw [gm4 hk, Nat.testBit_xor, two_bit, two_bit]
    rcases hx with rfl | rfl
    · rw [decide_eq_true rfl, decide_eq_false (by omega)]; rfl
    · rw [decide_eq_true (p := g.c.toNat = g.c.toNat) rfl, decide_eq_false (by omega)]; rfl
theorem smN_has {n : Int} {g : Gt} (h : gok n g = true) {k : Int} (hk : 0 ≤ k) (W : Nat) (hW : W = 2 ^ n.toNat) : smN g k W = hasB (chgL g) k := by
  rw [Bool.eq_iff_iff]
  constructor
  · intro hs
    obtain ⟨x, hx, he, h0, _⟩ := gm_told h (smN_some hs)
    have : x = k := by omega
    subst this
    unfold hasB
    rw [List.any_eq_true]
    exact ⟨x, hx, by simp⟩
  · intro hs
    unfold hasB at hs
    rw [List.any_eq_true] at hs
    obtain ⟨x, hx, he⟩ := hs
    have : x = k := by simpa using he
    subst this
    obtain ⟨w, hw, hc⟩ := gc_some h
    exact smN_of (told_gm h hx) (by rw [hW]; exact hw) hc
theorem ex_dChg (l : List UInt8) (hl : l.length ≤ 100000000) : ∃ (L : Int) (a : Gt), (-1 ≤ L ∧ L ≤ 9) ∧ Kon Try.prog 44 [roA l] [] (.tup [.one (.v (.int .i64 L)), .agg (gCs a)]) [] [] := by
  have h2 : (l.take 2000).length ≤ 2000 := by simp; omega
  obtain ⟨L, hL, hK1⟩ := ex_lines (l.take 2000) 0 14 (by omega)
  have hE : 1 ≤ (if 8 < (if 1 > L then 1 else L) then 8 else (if 1 > L then 1 else L)) ∧ (if 8 < (if 1 > L then 1 else L) then 8 else (if 1 > L then 1 else L)) ≤ 8 := by omega
  obtain ⟨a, c1, h1, hK2⟩ := ex_gate (l.take 2000) (0 + 1 + 1) _ 12 hE (by omega) (by omega)
  refine ⟨L, a, hL, ?_⟩
  have hG : Kon Try.prog 98 [p0] [rdE (l.take 2000) 0] (.tup [.one (.v (.int .i64 L)), .agg (gCs a)]) [] [rdE (l.take 2000) c1] := by
    (refine kon_mk T0ok (fn := Try.f98) (c := Try.f98.body.get rfl) Try.func98 rfl (by rfl) (by rfl) (by rfl) ?_; intro hfit hfe)
    (repeat (first | refine gq_KCA ?_ | (refine ga_KCA ?_; intro _hq)))
    ((try refine aw_ret ?_); refine ret_auto2 (by rfl) (by rfl) (by rfl) (by repeat (first | exact trivial | refine ⟨by first | rfl | omega, ?_⟩)) ?_ (by repeat (first | exact trivial | refine ⟨by rfl, by rfl, ?_⟩)) (by repeat (first | exact trivial | refine ⟨by rfl, by rfl, ?_⟩)); try rfl)
  (refine kon_mk T0ok (fn := Try.f44) (c := Try.f44.body.get rfl) Try.func44 rfl (by rfl) (by rfl) (by rfl) ?_; intro hfit hfe)
  (repeat (first | refine gq_KCA ?_ | (refine ga_KCA ?_; intro _hq)))
  ((try refine aw_ret ?_); refine ret_auto2 (by rfl) (by rfl) (by rfl) (by repeat (first | exact trivial | refine ⟨by first | rfl | omega, ?_⟩)) ?_ (by repeat (first | exact trivial | refine ⟨by rfl, by rfl, ?_⟩)) (by repeat (first | exact trivial | refine ⟨by rfl, by rfl, ?_⟩)); try rfl)
set_option maxHeartbeats 4000000 in
theorem k_lawCh (l : List UInt8) : Kon Try.prog 9 [roA l] [] (vB true) [] [] := by
  rcases Nat.lt_or_ge 1048576 l.length with h0 | h0
  · have hd : decide ((l.length : Int) > 1048576) = true := decide_eq_true (by omega)
    (refine kon_mk T0ok (fn := Try.f9) (c := Try.f9.body.get rfl) Try.func9 rfl (by rfl) (by rfl) (by rfl) ?_; intro hfit hfe)
    (repeat (first | refine gq_KCA ?_ | (refine ga_KCA ?_; intro _hq)))
    ((try refine aw_ret ?_); refine ret_auto2 (by rfl) (by rfl) (by rfl) (by repeat (first | exact trivial | refine ⟨by first | rfl | omega, ?_⟩)) ?_ (by repeat (first | exact trivial | refine ⟨by rfl, by rfl, ?_⟩)) (by repeat (first | exact trivial | refine ⟨by rfl, by rfl, ?_⟩)); try rfl)
  have hd : decide ((l.length : Int) > 1048576) = false := decide_eq_false (by omega)
  obtain ⟨n, g, hL, hD⟩ := ex_dChg l (by omega)
  have h1 := k_ch n g
  have h3 := k_chS n g (by omega)
  have hV := k_gvS n g (by omega)
  unfold chM at h3
  have hl2 := chgL_len g
  have q0 : Kon Try.prog 33 [.g (.one (.ro 1 0 [])), .g (.one (.ro 1 0 []))] [] (vB true) [] [] := k_sameI [] (by decide)
  cases h : gok n g with
  | false =>
    rw [h, if_neg (by decide), if_neg (by decide)] at h1
    rw [h, if_neg (by decide)] at h3
    rw [h] at hV
    (refine kon_mk T0ok (fn := Try.f9) (c := Try.f9.body.get rfl) Try.func9 rfl (by rfl) (by rfl) (by rfl) ?_; intro hfit hfe)
    (repeat (first | refine gq_KCA ?_ | (refine ga_KCA ?_; intro _hq) | refine gd_KCA ?_))
    ((try refine aw_ret ?_); refine ret_auto2 (by rfl) (by rfl) (by rfl) (by repeat (first | exact trivial | refine ⟨by first | rfl | omega, ?_⟩)) ?_ (by repeat (first | exact trivial | refine ⟨by rfl, by rfl, ?_⟩)) (by repeat (first | exact trivial | refine ⟨by rfl, by rfl, ?_⟩)); try rfl)
  | true =>
    rw [h, if_pos rfl, if_pos rfl] at h1
    rw [h, if_pos rfl] at h3
    rw [h] at hV
    have hS := k_sameI (chgL g) (by omega)
    have hA := k_asc h
    obtain ⟨hn, hk4, _⟩ := gok_bd h
    have h8 := pow_8 hn
    obtain ⟨N, hN⟩ : ∃ N : Nat, N = 2 ^ n.toNat := ⟨_, rfl⟩
    have hN1 : (1 * 2 ^ n.toNat : Int) = (N : Int) := by rw [hN]; simp
    have hN2 : (2 : Int) ^ n.toNat = (N : Int) := by rw [← hN1, Int.one_mul]
    have hH : ∀ k : Int, 0 ≤ k → smN g k N = hasB (chgL g) k := fun k hk => smN_has h hk N hN
    have hHas : ∀ k : Int, Kon Try.prog 49 [roA (chgL g), vI k] [] (vB (hasB (chgL g) k)) [] [] := fun k => k_hasL _ _ (by omega)
    generalize chgL g = C at h1 h3 hS hA hH hHas hl2
    (refine kon_mk T0ok (fn := Try.f9) (c := Try.f9.body.get rfl) Try.func9 rfl (by rfl) (by rfl) (by rfl) ?_; intro hfit hfe)
    (repeat (first | refine gq_KCA ?_ | (refine ga_KCA ?_; intro _hq)))
    (refine aw_rd [3, 4, 5] [64, 304] (fun k : Nat => [(6, vI k)]) (fun _ => []) (fun k => (k : Int) ≤ n) (fun k => n.toNat - k) 0 (by rfl) (by rfl) ?_ (by rfl) (by repeat (first | exact trivial | refine ⟨by rfl, ?_⟩ | refine ⟨vI_of (by rfl) (by omega), ?_⟩)) (by repeat (first | exact trivial | refine ⟨by rfl, ?_⟩ | refine ⟨vI_of (by rfl) (by omega), ?_⟩)) ?_)
    · exact (by omega)
    rintro k hk
    by_cases h5 : (k : Int) < n
    · have hd : decide ((k : Int) < n) = true := decide_eq_true h5
      have hKh := hHas (k : Int)
      have hHk := hH (k : Int) (by omega)
      (repeat (first | refine gq_KCA ?_ | (refine ga_KCA ?_; intro _hq)))
      (refine aw_rd [3, 4, 5, 6] [64, 304] (fun w : Nat => [(7, vB (smN g (k : Int) w)), (8, vI w)]) (fun _ => []) (fun w => w ≤ N) (fun w => N - w) 0 (by rfl) (by rfl) ?_ (by rfl) (by repeat (first | exact trivial | refine ⟨by rfl, ?_⟩ | refine ⟨vI_of (by rfl) (by omega), ?_⟩)) (by repeat (first | exact trivial | refine ⟨by rfl, ?_⟩ | refine ⟨vI_of (by rfl) (by omega), ?_⟩)) ?_)
      · exact Nat.zero_le _
      rintro w hw
      rcases Nat.lt_or_ge w N with h6 | h6
      · have hd2 : decide ((w : Int) < 1 * 2 ^ n.toNat) = true := decide_eq_true (by omega)
        have hwv : wvB n (w : Int) = true := by
          unfold wvB btw
          rw [decide_eq_true hn.1, decide_eq_true hn.2, decide_eq_true (Int.natCast_nonneg w), decide_eq_true (by omega)]; rfl
        have hg := gr_lt h (w := (w : Int)) (by omega)
        have hwv2 : wvB n (gr g (w : Int)) = true := by
          unfold wvB btw
          rw [decide_eq_true hn.1, decide_eq_true hn.2, decide_eq_true hg.1, decide_eq_true (by omega)]; rfl
        have hB1 := k_bitOf n (w : Int) (k : Int) hwv (by omega)
        have hB2 := k_bitOf n (gr g (w : Int)) (k : Int) hwv2 (by omega)
        have hG : Kon Try.prog 48 [vI n, gV g, vI (w : Int)] [] (vI (gr g (w : Int))) [] [] := by
          have := k_gr n g (w : Int)
          rwa [grM, h, hwv, Bool.and_self, if_pos rfl] at this
        cases hs : smN g (k : Int) w with
        | true =>
          have he : smN g (k : Int) (w + 1) = true := by rw [smN, hs]; rfl
          (repeat (first | refine gq_KCA ?_ | (refine ga_KCA ?_; intro _hq) | refine gd_KCA ?_))
          exact ⟨w + 1, h6, ⟨by rfl, ⟨Eq.trans (b := some (vB true)) (by rfl) (by rw [he]), (by repeat (first | exact trivial | refine ⟨by rfl, ?_⟩ | refine ⟨vI_of (by rfl) (by omega), ?_⟩))⟩, (by repeat (first | exact trivial | refine ⟨by rfl, ?_⟩ | refine ⟨vI_of (by rfl) (by omega), ?_⟩))⟩, (by first | omega | (dsimp only; omega))⟩
        | false =>
          have he : smN g (k : Int) (w + 1) = ((if bt (w : Int) (k : Int) = true then 1 else 0 : Int) != (if bt (gr g (w : Int)) (k : Int) = true then 1 else 0)) := by
            rw [smN, hs, Bool.false_or, gr_bt, Int.toNat_natCast]
            cases bt (w : Int) (k : Int) <;> cases gc g (w : Int) <;> cases (gm g).testBit k <;> rfl
          (repeat (first | refine gq_KCA ?_ | (refine ga_KCA ?_; intro _hq) | refine gd_KCA ?_))
          exact ⟨w + 1, h6, ⟨by rfl, ⟨Eq.trans (b := some (vB ((if bt (w : Int) (k : Int) = true then 1 else 0 : Int) != (if bt (gr g (w : Int)) (k : Int) = true then 1 else 0)))) (by rfl) (by rw [he]), (by repeat (first | exact trivial | refine ⟨by rfl, ?_⟩ | refine ⟨vI_of (by rfl) (by omega), ?_⟩))⟩, (by repeat (first | exact trivial | refine ⟨by rfl, ?_⟩ | refine ⟨vI_of (by rfl) (by omega), ?_⟩))⟩, (by first | omega | (dsimp only; omega))⟩
      · obtain rfl : w = N := by omega
        have hd2 : decide ((w : Int) < 1 * 2 ^ n.toNat) = false := decide_eq_false (by omega)
        have hne : (smN g (k : Int) w != hasB C (k : Int)) = false := by rw [hHk]; simp
        clear hH hHas hHk hN
        (repeat (first | refine gq_KCA ?_ | (refine ga_KCA ?_; intro _hq)))
        exact ⟨k + 1, (by omega), ⟨by rfl, (by repeat (first | exact trivial | refine ⟨by rfl, ?_⟩ | refine ⟨vI_of (by rfl) (by omega), ?_⟩)), (by repeat (first | exact trivial | refine ⟨by rfl, ?_⟩ | refine ⟨vI_of (by rfl) (by omega), ?_⟩))⟩, (by first | omega | (dsimp only; omega))⟩
    · have hd : decide ((k : Int) < n) = false := decide_eq_false h5
      (repeat (first | refine gq_KCA ?_ | (refine ga_KCA ?_; intro _hq)))
      ((try refine aw_ret ?_); refine ret_auto2 (by rfl) (by rfl) (by rfl) (by repeat (first | exact trivial | refine ⟨by first | rfl | omega, ?_⟩)) ?_ (by repeat (first | exact trivial | refine ⟨by rfl, by rfl, ?_⟩)) (by repeat (first | exact trivial | refine ⟨by rfl, by rfl, ?_⟩)); try rfl)
end Go.Proofs.Ytgifhhefcmmdfaa
