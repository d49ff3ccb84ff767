/- KEG, KEH, PL, KMH, KMI, KMJ, KMK: laid into one text. -/
import Derived.Test.YteagoafamjbpbaaQBenchRunH

/- spec.BenchDo: the deed that shortens. -/
namespace Go.Proofs.Yteagoafamjbpbaa
set_option linter.unusedVariables false
set_option linter.unusedSimpArgs false
set_option maxRecDepth 20000
open Go.RowKit
attribute [local irreducible] runA runX AW
def wsTG : WsT := wsT
theorem gq_KEG {H G : Prop} (k : H) (h : Hid H → G := by (intro hh; (first | (first | ((first | refine r_none ?_ | refine r_gt (by rfl) (by rfl) (by first | rfl | assumption | omega | (simp only [*, Bool.not_false, Bool.not_true]; first | done | fail) | (simp [*]; first | done | fail)) (by rfl) ?_ | refine r_gf (by rfl) (by rfl) (by first | rfl | assumption | omega | (simp only [*, Bool.not_false, Bool.not_true]; first | done | fail) | (simp [*]; first | done | fail)) (by rfl) ?_); (first | fail | ((first | (refine z_op (by rfl) ?_; first | refine z_ok ?_ ?_ | refine z_ex ?_ (by first | exact ft_raw rfl rfl | ((first | refine ft_rp rfl rfl rfl ?_ | refine ft_row rfl rfl rfl ?_ | refine ft_rpF rfl rfl rfl ?_ | refine ft_rowF rfl rfl rfl ?_ | refine up_row rfl rfl ?_ | refine up_rowF rfl rfl rfl ?_ | refine ct_0 rfl ?_ | refine ct_r rfl rfl ?_ | refine ct_c rfl rfl rfl ?_ | refine cu_all rfl ?_ | refine cu_to rfl ?_ | refine cu_from rfl ?_ | refine cu_p rfl ?_ | (first | refine mk_0 Gt rfl rfl ?_)); (first | omega | (simp only [List.length_append, List.length_replicate, List.length_cons, List.length_nil, List.length_set, List.length_take, List.length_drop, true_and]; omega))) | exact up_raw rfl | exact pk_t (by first | rfl | assumption | omega | (simp only [*, Bool.not_false, Bool.not_true]; first | done | fail) | (simp [*]; first | done | fail)) rfl | exact pk_f (by first | rfl | assumption | omega | (simp only [*, Bool.not_false, Bool.not_true]; first | done | fail) | (simp [*]; first | done | fail)) rfl | exact rw_c Gt rfl | exact rw_raw | exact pu_cv (fun w => rfl) (by omega) | exact pu_of (fun w => rfl) rfl | exact be_of (fun w => rfl) | exact nc_of (fun _ _ _ _ => rfl) rfl | exact bu_of (fun w => rfl) rfl | fail) ?_) | ((first | refine q_callE wsTG wsZ (by rfl) ?_ | refine q_callVE wsTG (by rfl) (by rfl) ?_); refine ⟨_, _, _, (by first | assumption | exact k_copyS _ _ _ _ _ (by omega)), _, by rfl, ?_, ?_⟩)); focus (first | exact trivial | fail | exact rfl | (first | omega | (simp only [List.length_append, List.length_replicate, List.length_cons, List.length_nil, List.length_set, List.length_take, List.length_drop, true_and]; omega)) | exact cvB (fun w => rfl) | ((repeat' (first | exact rfl | exact cV_len _ | exact cV_ln rfl (by omega) | exact Cel.pos | omega | exact trivial | refine And.intro ?_ ?_)); done) | (simp [*]; done) | (simp; omega))) | fail)) | refine r_nt (by rfl) (by rfl) (by first | rfl | assumption | omega | (simp only [*, Bool.not_false, Bool.not_true]; first | done | fail) | (simp [*]; first | done | fail)) (by rfl) ?_ | refine r_nf (by rfl) (by rfl) (by first | rfl | assumption | omega | (simp only [*, Bool.not_false, Bool.not_true]; first | done | fail) | (simp [*]; first | done | fail)) (by rfl) ?_ | refine r_gu (by rfl) (by rfl) (by rfl) ?_ | refine r_nil ?_) | (first | refine aw_seq ?_ | refine aw_ct (by rfl) (by first | rfl | assumption | omega | (simp only [*, Bool.not_false, Bool.not_true]; first | done | fail) | (simp [*]; first | done | fail)) ?_ | refine aw_cf (by rfl) (by first | rfl | assumption | omega | (simp only [*, Bool.not_false, Bool.not_true]; first | done | fail) | (simp [*]; first | done | fail)) ?_ | refine aw_block ?_ | refine aw_region T0ok cfU_ok (by rfl) ?_ | refine aw_skip ?_ | refine aw_exit ?_ | refine ra_step ?_)); (repeat (first | (first | ((first | refine r_none ?_ | refine r_gt (by rfl) (by rfl) (by first | rfl | assumption | omega | (simp only [*, Bool.not_false, Bool.not_true]; first | done | fail) | (simp [*]; first | done | fail)) (by rfl) ?_ | refine r_gf (by rfl) (by rfl) (by first | rfl | assumption | omega | (simp only [*, Bool.not_false, Bool.not_true]; first | done | fail) | (simp [*]; first | done | fail)) (by rfl) ?_); (first | fail | ((first | (refine z_op (by rfl) ?_; first | refine z_ok ?_ ?_ | refine z_ex ?_ (by first | exact ft_raw rfl rfl | ((first | refine ft_rp rfl rfl rfl ?_ | refine ft_row rfl rfl rfl ?_ | refine ft_rpF rfl rfl rfl ?_ | refine ft_rowF rfl rfl rfl ?_ | refine up_row rfl rfl ?_ | refine up_rowF rfl rfl rfl ?_ | refine ct_0 rfl ?_ | refine ct_r rfl rfl ?_ | refine ct_c rfl rfl rfl ?_ | refine cu_all rfl ?_ | refine cu_to rfl ?_ | refine cu_from rfl ?_ | refine cu_p rfl ?_ | (first | refine mk_0 Gt rfl rfl ?_)); (first | omega | (simp only [List.length_append, List.length_replicate, List.length_cons, List.length_nil, List.length_set, List.length_take, List.length_drop, true_and]; omega))) | exact up_raw rfl | exact pk_t (by first | rfl | assumption | omega | (simp only [*, Bool.not_false, Bool.not_true]; first | done | fail) | (simp [*]; first | done | fail)) rfl | exact pk_f (by first | rfl | assumption | omega | (simp only [*, Bool.not_false, Bool.not_true]; first | done | fail) | (simp [*]; first | done | fail)) rfl | exact rw_c Gt rfl | exact rw_raw | exact pu_cv (fun w => rfl) (by omega) | exact pu_of (fun w => rfl) rfl | exact be_of (fun w => rfl) | exact nc_of (fun _ _ _ _ => rfl) rfl | exact bu_of (fun w => rfl) rfl | fail) ?_) | ((first | refine q_callE wsTG wsZ (by rfl) ?_ | refine q_callVE wsTG (by rfl) (by rfl) ?_); refine ⟨_, _, _, (by first | assumption | exact k_copyS _ _ _ _ _ (by omega)), _, by rfl, ?_, ?_⟩)); focus (first | exact trivial | fail | exact rfl | (first | omega | (simp only [List.length_append, List.length_replicate, List.length_cons, List.length_nil, List.length_set, List.length_take, List.length_drop, true_and]; omega)) | exact cvB (fun w => rfl) | ((repeat' (first | exact rfl | exact cV_len _ | exact cV_ln rfl (by omega) | exact Cel.pos | omega | exact trivial | refine And.intro ?_ ?_)); done) | (simp [*]; done) | (simp; omega))) | fail)) | refine r_nt (by rfl) (by rfl) (by first | rfl | assumption | omega | (simp only [*, Bool.not_false, Bool.not_true]; first | done | fail) | (simp [*]; first | done | fail)) (by rfl) ?_ | refine r_nf (by rfl) (by rfl) (by first | rfl | assumption | omega | (simp only [*, Bool.not_false, Bool.not_true]; first | done | fail) | (simp [*]; first | done | fail)) (by rfl) ?_ | refine r_gu (by rfl) (by rfl) (by rfl) ?_ | refine r_nil ?_) | (first | refine aw_seq ?_ | refine aw_ct (by rfl) (by first | rfl | assumption | omega | (simp only [*, Bool.not_false, Bool.not_true]; first | done | fail) | (simp [*]; first | done | fail)) ?_ | refine aw_cf (by rfl) (by first | rfl | assumption | omega | (simp only [*, Bool.not_false, Bool.not_true]; first | done | fail) | (simp [*]; first | done | fail)) ?_ | refine aw_block ?_ | refine aw_region T0ok cfU_ok (by rfl) ?_ | refine aw_skip ?_ | refine aw_exit ?_ | refine ra_step ?_))); exact hh.out)) : G := h ⟨k⟩
theorem ga_KEG {H G : Prop} (k : H) (h : Hid H → G := by (intro hh; (first | refine r_none ?_ | refine r_gt (by rfl) (by rfl) (by first | rfl | assumption | omega | (simp only [*, Bool.not_false, Bool.not_true]; first | done | fail) | (simp [*]; first | done | fail)) (by rfl) ?_ | refine r_gf (by rfl) (by rfl) (by first | rfl | assumption | omega | (simp only [*, Bool.not_false, Bool.not_true]; first | done | fail) | (simp [*]; first | done | fail)) (by rfl) ?_); refine z_op (by rfl) ?_; refine z_al ?_ hh.out; focus (first | exact trivial | fail | exact rfl | (first | omega | (simp only [List.length_append, List.length_replicate, List.length_cons, List.length_nil, List.length_set, List.length_take, List.length_drop, true_and]; omega)) | exact cvB (fun w => rfl) | ((repeat' (first | exact rfl | exact cV_len _ | exact cV_ln rfl (by omega) | exact Cel.pos | omega | exact trivial | refine And.intro ?_ ?_)); done) | (simp [*]; done) | (simp; omega)))) : G := h ⟨k⟩
theorem gs_KEG {H G : Prop} (k : H) (h : Hid H → G := by (intro hh; (first | ((first | refine r_none ?_ | refine r_gt (by rfl) (by rfl) (by first | rfl | assumption | omega | (simp only [*, Bool.not_false, Bool.not_true]; first | done | fail) | (simp [*]; first | done | fail)) (by rfl) ?_ | refine r_gf (by rfl) (by rfl) (by first | rfl | assumption | omega | (simp only [*, Bool.not_false, Bool.not_true]; first | done | fail) | (simp [*]; first | done | fail)) (by rfl) ?_); (first | fail | ((first | (refine z_op (by rfl) ?_; first | refine z_ok ?_ ?_ | refine z_ex ?_ (by first | exact ft_raw rfl rfl | ((first | refine ft_rp rfl rfl rfl ?_ | refine ft_row rfl rfl rfl ?_ | refine ft_rpF rfl rfl rfl ?_ | refine ft_rowF rfl rfl rfl ?_ | refine up_row rfl rfl ?_ | refine up_rowF rfl rfl rfl ?_ | refine ct_0 rfl ?_ | refine ct_r rfl rfl ?_ | refine ct_c rfl rfl rfl ?_ | refine cu_all rfl ?_ | refine cu_to rfl ?_ | refine cu_from rfl ?_ | refine cu_p rfl ?_ | (first | refine mk_0 Gt rfl rfl ?_)); (first | omega | (simp only [List.length_append, List.length_replicate, List.length_cons, List.length_nil, List.length_set, List.length_take, List.length_drop, true_and]; omega))) | exact up_raw rfl | exact pk_t (by first | rfl | assumption | omega | (simp only [*, Bool.not_false, Bool.not_true]; first | done | fail) | (simp [*]; first | done | fail)) rfl | exact pk_f (by first | rfl | assumption | omega | (simp only [*, Bool.not_false, Bool.not_true]; first | done | fail) | (simp [*]; first | done | fail)) rfl | exact rw_c Gt rfl | exact rw_raw | exact pu_cv (fun w => rfl) (by omega) | exact pu_of (fun w => rfl) rfl | exact be_of (fun w => rfl) | exact nc_of (fun _ _ _ _ => rfl) rfl | exact bu_of (fun w => rfl) rfl | fail) ?_) | ((first | refine q_callE wsTG wsZ (by rfl) ?_ | refine q_callVE wsTG (by rfl) (by rfl) ?_); refine ⟨_, _, _, (by first | assumption | exact k_copyS _ _ _ _ _ (by omega)), _, by rfl, ?_, ?_⟩)); focus (first | exact trivial | fail | exact rfl | (first | omega | (simp only [List.length_append, List.length_replicate, List.length_cons, List.length_nil, List.length_set, List.length_take, List.length_drop, true_and]; omega)) | exact cvB (fun w => rfl) | ((repeat' (first | exact rfl | exact cV_len _ | exact cV_ln rfl (by omega) | exact Cel.pos | omega | exact trivial | refine And.intro ?_ ?_)); done) | (simp [*]; done) | (simp; omega))) | fail)) | refine r_nt (by rfl) (by rfl) (by first | rfl | assumption | omega | (simp only [*, Bool.not_false, Bool.not_true]; first | done | fail) | (simp [*]; first | done | fail)) (by rfl) ?_ | refine r_nf (by rfl) (by rfl) (by first | rfl | assumption | omega | (simp only [*, Bool.not_false, Bool.not_true]; first | done | fail) | (simp [*]; first | done | fail)) (by rfl) ?_ | refine r_gu (by rfl) (by rfl) (by rfl) ?_ | refine r_nil ?_); (repeat (first | ((first | refine r_none ?_ | refine r_gt (by rfl) (by rfl) (by first | rfl | assumption | omega | (simp only [*, Bool.not_false, Bool.not_true]; first | done | fail) | (simp [*]; first | done | fail)) (by rfl) ?_ | refine r_gf (by rfl) (by rfl) (by first | rfl | assumption | omega | (simp only [*, Bool.not_false, Bool.not_true]; first | done | fail) | (simp [*]; first | done | fail)) (by rfl) ?_); (first | fail | ((first | (refine z_op (by rfl) ?_; first | refine z_ok ?_ ?_ | refine z_ex ?_ (by first | exact ft_raw rfl rfl | ((first | refine ft_rp rfl rfl rfl ?_ | refine ft_row rfl rfl rfl ?_ | refine ft_rpF rfl rfl rfl ?_ | refine ft_rowF rfl rfl rfl ?_ | refine up_row rfl rfl ?_ | refine up_rowF rfl rfl rfl ?_ | refine ct_0 rfl ?_ | refine ct_r rfl rfl ?_ | refine ct_c rfl rfl rfl ?_ | refine cu_all rfl ?_ | refine cu_to rfl ?_ | refine cu_from rfl ?_ | refine cu_p rfl ?_ | (first | refine mk_0 Gt rfl rfl ?_)); (first | omega | (simp only [List.length_append, List.length_replicate, List.length_cons, List.length_nil, List.length_set, List.length_take, List.length_drop, true_and]; omega))) | exact up_raw rfl | exact pk_t (by first | rfl | assumption | omega | (simp only [*, Bool.not_false, Bool.not_true]; first | done | fail) | (simp [*]; first | done | fail)) rfl | exact pk_f (by first | rfl | assumption | omega | (simp only [*, Bool.not_false, Bool.not_true]; first | done | fail) | (simp [*]; first | done | fail)) rfl | exact rw_c Gt rfl | exact rw_raw | exact pu_cv (fun w => rfl) (by omega) | exact pu_of (fun w => rfl) rfl | exact be_of (fun w => rfl) | exact nc_of (fun _ _ _ _ => rfl) rfl | exact bu_of (fun w => rfl) rfl | fail) ?_) | ((first | refine q_callE wsTG wsZ (by rfl) ?_ | refine q_callVE wsTG (by rfl) (by rfl) ?_); refine ⟨_, _, _, (by first | assumption | exact k_copyS _ _ _ _ _ (by omega)), _, by rfl, ?_, ?_⟩)); focus (first | exact trivial | fail | exact rfl | (first | omega | (simp only [List.length_append, List.length_replicate, List.length_cons, List.length_nil, List.length_set, List.length_take, List.length_drop, true_and]; omega)) | exact cvB (fun w => rfl) | ((repeat' (first | exact rfl | exact cV_len _ | exact cV_ln rfl (by omega) | exact Cel.pos | omega | exact trivial | refine And.intro ?_ ?_)); done) | (simp [*]; done) | (simp; omega))) | fail)) | refine r_nt (by rfl) (by rfl) (by first | rfl | assumption | omega | (simp only [*, Bool.not_false, Bool.not_true]; first | done | fail) | (simp [*]; first | done | fail)) (by rfl) ?_ | refine r_nf (by rfl) (by rfl) (by first | rfl | assumption | omega | (simp only [*, Bool.not_false, Bool.not_true]; first | done | fail) | (simp [*]; first | done | fail)) (by rfl) ?_ | refine r_gu (by rfl) (by rfl) (by rfl) ?_ | refine r_nil ?_)); exact hh.out)) : G := h ⟨k⟩
theorem gc_KEG {H G : Prop} (k : H) (h : Hid H → G := by (intro hh; (first | refine aw_seq ?_ | refine aw_ct (by rfl) (by first | rfl | assumption | omega | (simp only [*, Bool.not_false, Bool.not_true]; first | done | fail) | (simp [*]; first | done | fail)) ?_ | refine aw_cf (by rfl) (by first | rfl | assumption | omega | (simp only [*, Bool.not_false, Bool.not_true]; first | done | fail) | (simp [*]; first | done | fail)) ?_ | refine aw_block ?_ | refine aw_region T0ok cfU_ok (by rfl) ?_ | refine aw_skip ?_ | refine aw_exit ?_ | refine ra_step ?_); (repeat (first | refine aw_seq ?_ | refine aw_ct (by rfl) (by first | rfl | assumption | omega | (simp only [*, Bool.not_false, Bool.not_true]; first | done | fail) | (simp [*]; first | done | fail)) ?_ | refine aw_cf (by rfl) (by first | rfl | assumption | omega | (simp only [*, Bool.not_false, Bool.not_true]; first | done | fail) | (simp [*]; first | done | fail)) ?_ | refine aw_block ?_ | refine aw_region T0ok cfU_ok (by rfl) ?_ | refine aw_skip ?_ | refine aw_exit ?_ | refine ra_step ?_)); exact hh.out)) : G := h ⟨k⟩
theorem gd_KEG {H G : Prop} (k : H) (h : Hid H → G := by (intro hh; (refine aw_draw mixed T0ok cfU_ok [] (by rfl) (by kernel_rfl) ?_); exact hh.out)) : G := h ⟨k⟩
theorem k_bdoSf (n : Int) (l : List Gt) (f w m : Int) (A : Nat) (p : Gt) (B C : List Gt) (h : bok n l f w A = true) (hN : Kon Try.prog 74 [dV ⟨4, m, p⟩] [] (vB true) [] [])
    (hBs : Kon Try.prog 46 [vI n, roA (l.take A)] [] (slA 0 0 B) [gRow B] []) (hCs : Kon Try.prog 46 [vI n, roA (l.drop A)] [] (slA 0 0 C) [gRow C] []) (hBC : B.length ≤ 24 ∧ C.length ≤ 24) (he : B.length + C.length = l.length) : Kon Try.prog 28 [bG n l f w A, dV ⟨4, m, p⟩] [] (bT n l f w A false) [gRow l] [] := by
  obtain ⟨hc, hf, hAl, hwe⟩ := bok_t h
  obtain ⟨hn, hl24, ha⟩ := cokB_t hc
  have hB := k_bvS n l f w A (by omega) (by omega)
  rw [h] at hB
  have hd : ((B.length : Int) + (C.length : Int) == (l.length : Int)) = true := by rw [beq_iff_eq]; omega
  (refine kon_mk T0ok (fn := Try.f28) (c := Try.f28.body.get rfl) Try.func28 rfl (by rfl) (by rfl) (by rfl) ?_; intro hfit hfe)
  (repeat (first | refine gq_KEG ?_ | (refine ga_KEG ?_; intro _q ⟨_he, _hq⟩) | refine gd_KEG ?_))
  ((try refine aw_ret ?_); refine ret_auto2 (by rfl) (by rfl) (by rfl) (by repeat (first | exact trivial | refine ⟨by first | rfl | omega, ?_⟩)) ?_ (by repeat (first | exact trivial | refine ⟨by rfl, by rfl, ?_⟩)) (by repeat (first | exact trivial | refine ⟨by rfl, by rfl, ?_⟩)); try rfl)
set_option maxHeartbeats 2000000 in
theorem k_bdoSt (n : Int) (l : List Gt) (f w m : Int) (A : Nat) (p : Gt) (B C : List Gt) (h : bok n l f w A = true) (hN : Kon Try.prog 74 [dV ⟨4, m, p⟩] [] (vB true) [] [])
    (hBs : Kon Try.prog 46 [vI n, roA (l.take A)] [] (slA 0 0 B) [gRow B] []) (hCs : Kon Try.prog 46 [vI n, roA (l.drop A)] [] (slA 0 0 C) [gRow C] []) (hBC : B.length ≤ 24 ∧ C.length ≤ 24) (he : B.length + C.length ≠ l.length) : Kon Try.prog 28 [bG n l f w A, dV ⟨4, m, p⟩] [] (bT n (B ++ C) f w (((B ++ C).length : Int) - (C.length : Int)) true) [gRow (B ++ C)] [] := by
  obtain ⟨hc, hf, hAl, hwe⟩ := bok_t h
  obtain ⟨hn, hl24, ha⟩ := cokB_t hc
  have hB := k_bvS n l f w A (by omega) (by omega)
  rw [h] at hB
  have hd : ((B.length : Int) + (C.length : Int) == (l.length : Int)) = false := by rw [beq_eq_false_iff_ne]; omega
  (refine kon_mk T0ok (fn := Try.f28) (c := Try.f28.body.get rfl) Try.func28 rfl (by rfl) (by rfl) (by rfl) ?_; intro hfit hfe)
  (repeat (first | refine gq_KEG ?_ | (refine ga_KEG ?_; intro _q ⟨_he, _hq⟩)))
  (refine aw_draw mixed T0ok cfU_ok [] (by rfl) (by kernel_rfl) ?_)
  (repeat (first | refine gs_KEG ?_ | (refine ga_KEG ?_; intro _q ⟨_he, _hq⟩)))
  (repeat refine gc_KEG ?_)
  (refine aw_draw mixed T0ok cfU_ok [] (by rfl) (by kernel_rfl) ?_)
  (repeat (first | refine gs_KEG ?_ | (refine ga_KEG ?_; intro _q ⟨_he, _hq⟩)))
  (repeat refine gc_KEG ?_)
  (repeat (first | refine gs_KEG ?_ | (refine ga_KEG ?_; intro _q ⟨_he, _hq⟩)))
  (repeat refine gc_KEG ?_)
  (repeat (first | refine gs_KEG ?_ | (refine ga_KEG ?_; intro _q ⟨_he, _hq⟩)))
  (repeat refine gc_KEG ?_)
  (repeat (first | refine gs_KEG ?_ | (refine ga_KEG ?_; intro _q ⟨_he, _hq⟩)))
  (repeat (first | refine gq_KEG ?_ | (refine ga_KEG ?_; intro _q ⟨_he, _hq⟩)))
  ((try refine aw_ret ?_); refine ret_auto2 (by rfl) (by rfl) (by rfl) (by repeat (first | exact trivial | refine ⟨by first | rfl | omega, ?_⟩)) ?_ (by repeat (first | exact trivial | refine ⟨by rfl, by rfl, ?_⟩)) (by repeat (first | exact trivial | refine ⟨by rfl, by rfl, ?_⟩)); try rfl)
end Go.Proofs.Yteagoafamjbpbaa

/- spec.BenchDo at a valid bench: some bench. -/
namespace Go.Proofs.Yteagoafamjbpbaa
set_option linter.unusedVariables false
set_option linter.unusedSimpArgs false
open Go.RowKit
end Go.Proofs.Yteagoafamjbpbaa

/- Plain: what is left of a circuit made shorter; a deed done to a bench. -/
namespace Go.Proofs.Yteagoafamjbpbaa
set_option linter.unusedVariables false
set_option linter.unusedSimpArgs false
theorem drp_all {n : Int} {l : List Gt} (a b : Int) (h : l.all (gok n) = true) : (drp l a b l.length).all (gok n) = true := by
  rw [List.all_eq_true] at h ⊢
  exact fun g hg => h g (drp_mem l a b l.length (Nat.le_refl _) g hg)
theorem drp_seg {l : List Gt} {a b : Nat} (hab : a < b) (hb : b < l.length) : drp l a b l.length = l.take a ++ seg l a b ++ l.drop (b + 1) := by
  rw [drp_del l a b hab l.length (Nat.le_refl _) hb, List.take_length, List.append_assoc, List.drop_take]; rfl
theorem shr_all {n : Int} : ∀ (f : Nat) (l : List Gt), l.all (gok n) = true → (shr l f).all (gok n) = true
  | 0, l, h => h
  | f + 1, l, h => by
    rw [shr]; split
    · exact h
    · exact shr_all f _ (drp_all _ _ h)
theorem shr_same {n : Int} {w : Int} (hw : 0 ≤ w ∧ w < 2 ^ n.toNat) : ∀ (f : Nat) (l : List Gt), l.all (gok n) = true → cr (shr l f) w = cr l w
  | 0, l, h => rfl
  | f + 1, l, h => by
    rw [shr]; split
    · rfl
    · rename_i hn
      rw [shr_same hw f _ (drp_all _ _ h)]
      rcases usl_spec l 0 with hu | ⟨a, b, hu, hab, hbl, heq, hap⟩
      · rw [hu] at hn; simp at hn
      · rw [Nat.zero_add, Nat.zero_add] at hu
        rw [hu]
        show cr (drp l a b l.length) w = cr l w
        have hga := all_at h (show a < l.length by omega)
        have hsp := split_pair hab hbl
        have hall := drp_all (a : Int) (b : Int) h
        rw [drp_seg hab hbl] at hall ⊢
        rw [List.all_append, List.all_append, Bool.and_eq_true, Bool.and_eq_true] at hall
        have := cr_less (s := l.drop (b + 1)) hga hall.1.1 hall.1.2 hap hw
        rw [← this]
        conv => rhs; rw [hsp]
        rw [← heq]; rfl
/-- A bench's gates, word and place behind a deed; nothing if it cannot be done. -/
def doM (n : Int) (l : List Gt) (w : Int) (A : Nat) (d : Dd) : Option (List Gt × Int × Nat) :=
  bif nmD d then (
    if d.k = 0 then (bif btw d.n 1 ((l.length : Int) - A) then some (l, fw l A d.n.toNat w, A + d.n.toNat) else none)
    else if d.k = 1 then (bif btw d.n 1 A then some (l, bw l A d.n.toNat w, A - d.n.toNat) else none)
    else if d.k = 2 then (bif gok n d.p && decide (l.length < 24) then some (l.take A ++ d.p :: l.drop A, w, A) else none)
    else if d.k = 3 then (bif decide (A < l.length) then some (l.take A ++ l.drop (A + 1), w, A) else none)
    else bif decide ((shr (l.take A) (l.take A).length).length + (shr (l.drop A) (l.drop A).length).length = l.length) then none else some (shr (l.take A) (l.take A).length ++ shr (l.drop A) (l.drop A).length, w, (shr (l.take A) (l.take A).length).length))
  else none
theorem bok_mk {n : Int} {l : List Gt} {f w : Int} {A : Nat} (hn : 1 ≤ n ∧ n ≤ 8) (hl : l.length ≤ 24) (ha : l.all (gok n) = true) (hf : wvB n f = true) (hA : A ≤ l.length) (hw : w = cr (l.take A) f) : bok n l f w A = true := by
  have hb : btw (A : Int) 0 (l.length : Int) = true := by unfold btw; rw [decide_eq_true (by omega), decide_eq_true (by omega)]; rfl
  unfold bok
  rw [cokB_mk3 hn hl ha, hf, hb]
  show (w == cr (l.take (A : Int).toNat) f) = true
  rw [beq_iff_eq]; exact hw
theorem doM_ok {n : Int} {l l' : List Gt} {f w w' : Int} {A A' : Nat} {d : Dd} (h : bok n l f w A = true) (hd : doM n l w A d = some (l', w', A')) : bok n l' f w' A' = true := by
  obtain ⟨hc, hf, hA, hwe⟩ := bok_t h
  obtain ⟨hn, hl24, ha⟩ := cokB_t hc
  have hfv := wvB_t hf
  have hAl : A ≤ l.length := by omega
  replace hwe : w = cr (l.take A) f := hwe
  have hat : (l.take A).all (gok n) = true := all_take ha A
  have had : (l.drop A).all (gok n) = true := all_dropT ha A
  unfold doM at hd
  cases hnm : nmD d with
  | false => rw [hnm] at hd; cases hd
  | true =>
    rw [hnm] at hd
    simp only [cond_true] at hd
    split at hd
    · cases hb : btw d.n 1 ((l.length : Int) - A) with
      | false => rw [hb] at hd; cases hd
      | true =>
        rw [hb] at hd
        simp only [cond_true] at hd
        cases hd
        have hb2 := btw_t hb
        obtain ⟨m, hm⟩ : ∃ m : Nat, d.n = (m : Int) := ⟨d.n.toNat, by omega⟩
        rw [hm, Int.toNat_natCast]
        refine bok_mk hn hl24 ha hf (by omega) ?_
        rw [fw, hwe, ← cr_append, List.take_add]
    · split at hd
      · cases hb : btw d.n 1 A with
        | false => rw [hb] at hd; cases hd
        | true =>
          rw [hb] at hd
          simp only [cond_true] at hd
          cases hd
          have hb2 := btw_t hb
          obtain ⟨m, hm⟩ : ∃ m : Nat, d.n = (m : Int) := ⟨d.n.toNat, by omega⟩
          rw [hm, Int.toNat_natCast]
          refine bok_mk hn hl24 ha hf (by omega) ?_
          have e1 : l.take A = l.take (A - m) ++ (l.take A).drop (A - m) := by
            conv => lhs; rw [← List.take_append_drop (A - m) (l.take A)]
            rw [List.take_take, Nat.min_eq_left (by omega)]
          have e2 : (l.take A).reverse.take m = ((l.take A).drop (A - m)).reverse := by
            rw [List.take_reverse, List.length_take]
            congr 2; omega
          have hs : ((l.take A).drop (A - m)).all (gok n) = true := all_dropT hat _
          have hv := cr_lt (all_take ha (A - m)) ⟨hfv.2.1, hfv.2.2.1⟩
          rw [bw, e2, hwe]
          conv => lhs; rw [show cr (l.take A) f = cr ((l.take A).drop (A - m)) (cr (l.take (A - m)) f) by rw [← cr_append, ← e1]]
          exact cr_back hs hv
      · split at hd
        · cases hb : (gok n d.p && decide (l.length < 24)) with
          | false => rw [hb] at hd; cases hd
          | true =>
            rw [hb] at hd
            simp only [cond_true] at hd
            cases hd
            rw [Bool.and_eq_true, decide_eq_true_eq] at hb
            refine bok_mk hn (by simp only [List.length_append, List.length_take, List.length_cons, List.length_drop]; omega) ?_ hf (by simp only [List.length_append, List.length_take, List.length_cons, List.length_drop]; omega) ?_
            · rw [List.all_append, List.all_cons, hat, had, hb.1]; rfl
            · rw [hwe, List.take_append_of_le_length (by rw [List.length_take]; omega), List.take_take, Nat.min_self]
        · split at hd
          · cases hb : decide (A < l.length) with
            | false => rw [hb] at hd; cases hd
            | true =>
              rw [hb] at hd
              simp only [cond_true] at hd
              cases hd
              have hb2 := of_decide_eq_true hb
              refine bok_mk hn (by simp only [List.length_append, List.length_take, List.length_drop]; omega) ?_ hf (by simp only [List.length_append, List.length_take, List.length_drop]; omega) ?_
              · rw [List.all_append, hat, all_dropT ha]; rfl
              · rw [hwe, List.take_append_of_le_length (by rw [List.length_take]; omega), List.take_take, Nat.min_self]
          · have b1 := shr_len (l.take A).length (l.take A)
            have b2 := shr_len (l.drop A).length (l.drop A)
            have t1 : (l.take A).length = A := by rw [List.length_take]; omega
            have t2 : (l.drop A).length = l.length - A := List.length_drop
            have hB := shr_all (l.take A).length (l.take A) hat
            have hC := shr_all (l.drop A).length (l.drop A) had
            have hS := shr_same ⟨hfv.2.1, hfv.2.2.1⟩ (l.take A).length (l.take A) hat
            generalize shr (l.take A) (l.take A).length = B at *
            generalize shr (l.drop A) (l.drop A).length = C at *
            cases hb : decide (B.length + C.length = l.length) with
            | true => rw [hb] at hd; cases hd
            | false =>
              rw [hb] at hd
              simp only [cond_false] at hd
              cases hd
              refine bok_mk hn (by rw [List.length_append]; omega) ?_ hf (by rw [List.length_append]; omega) ?_
              · rw [List.all_append, hB, hC]; rfl
              · rw [List.take_left, hS, hwe]
end Go.Proofs.Yteagoafamjbpbaa

/- impl.Bench: the gates before the place and behind it; a bench with other gates; its copy; gone over gates. -/
namespace Go.Proofs.Yteagoafamjbpbaa
set_option linter.unusedVariables false
set_option linter.unusedSimpArgs false
set_option maxRecDepth 20000
open Go.RowKit
attribute [local irreducible] runA runX AW
def wsTH : WsT := (87, ([], true)) :: (66, ([], true)) :: (111, ([], true)) :: (109, ([], true)) :: wsT
theorem gq_KMH {H G : Prop} (k : H) (h : Hid H → G := by (intro hh; (first | (first | ((first | refine r_none ?_ | refine r_gt (by rfl) (by rfl) (by first | rfl | assumption | omega | (simp only [*, Bool.not_false, Bool.not_true]; first | done | fail) | (simp [*]; first | done | fail)) (by rfl) ?_ | refine r_gf (by rfl) (by rfl) (by first | rfl | assumption | omega | (simp only [*, Bool.not_false, Bool.not_true]; first | done | fail) | (simp [*]; first | done | fail)) (by rfl) ?_); (first | fail | ((first | (refine z_op (by rfl) ?_; first | refine z_ok ?_ ?_ | refine z_ex ?_ (by first | exact ft_raw rfl rfl | ((first | refine ft_rp rfl rfl rfl ?_ | refine ft_row rfl rfl rfl ?_ | refine ft_rpF rfl rfl rfl ?_ | refine ft_rowF rfl rfl rfl ?_ | refine up_row rfl rfl ?_ | refine up_rowF rfl rfl rfl ?_ | refine ct_0 rfl ?_ | refine ct_r rfl rfl ?_ | refine ct_c rfl rfl rfl ?_ | refine cu_all rfl ?_ | refine cu_to rfl ?_ | refine cu_from rfl ?_ | refine cu_p rfl ?_ | fail); (first | omega | (simp only [List.length_append, List.length_replicate, List.length_cons, List.length_nil, List.length_set, List.length_take, List.length_drop, true_and]; omega))) | exact up_raw rfl | exact pk_t (by first | rfl | assumption | omega | (simp only [*, Bool.not_false, Bool.not_true]; first | done | fail) | (simp [*]; first | done | fail)) rfl | exact pk_f (by first | rfl | assumption | omega | (simp only [*, Bool.not_false, Bool.not_true]; first | done | fail) | (simp [*]; first | done | fail)) rfl | fail | exact rw_raw | exact pu_cv (fun w => rfl) (by omega) | exact pu_of (fun w => rfl) rfl | exact be_of (fun w => rfl) | exact nc_of (fun _ _ _ _ => rfl) rfl | exact bu_of (fun w => rfl) rfl | (first | exact pu_of (fun w => neq_gate _ _ _ _ _ _ _ _ _ _ w) rfl)) ?_) | ((first | refine q_callE wsTH wsZ (by rfl) ?_ | refine q_callVE wsTH (by rfl) (by rfl) ?_); refine ⟨_, _, _, (by first | assumption | exact k_ahead _ _ _ _ _ (by omega) (by omega) | exact k_behindB _ _ _ _ _ (by omega) | exact k_within _ _ _), _, by rfl, ?_, ?_⟩)); focus (first | exact trivial | fail | exact rfl | (first | omega | (simp only [List.length_append, List.length_replicate, List.length_cons, List.length_nil, List.length_set, List.length_take, List.length_drop, true_and]; omega)) | exact cvB (fun w => rfl) | ((repeat' (first | exact rfl | exact cV_len _ | exact cV_ln rfl (by omega) | exact Cel.pos | omega | exact trivial | refine And.intro ?_ ?_)); done) | (simp [*]; done) | (simp; omega))) | refine q_clip (by rfl) clipG (by first | exact trivial | omega | exact cvB (fun w => rfl) | ((repeat (any_goals (first | exact rfl | exact cV_len _ | exact cV_ln rfl (by omega) | exact Cel.pos | omega | exact trivial | refine And.intro ?_ ?_))); first | done | fail) | (simp [*]; first | done | fail)) ?_)) | refine r_nt (by rfl) (by rfl) (by first | rfl | assumption | omega | (simp only [*, Bool.not_false, Bool.not_true]; first | done | fail) | (simp [*]; first | done | fail)) (by rfl) ?_ | refine r_nf (by rfl) (by rfl) (by first | rfl | assumption | omega | (simp only [*, Bool.not_false, Bool.not_true]; first | done | fail) | (simp [*]; first | done | fail)) (by rfl) ?_ | refine r_gu (by rfl) (by rfl) (by rfl) ?_ | refine r_nil ?_) | (first | refine aw_seq ?_ | refine aw_ct (by rfl) (by first | rfl | assumption | omega | (simp only [*, Bool.not_false, Bool.not_true]; first | done | fail) | (simp [*]; first | done | fail)) ?_ | refine aw_cf (by rfl) (by first | rfl | assumption | omega | (simp only [*, Bool.not_false, Bool.not_true]; first | done | fail) | (simp [*]; first | done | fail)) ?_ | refine aw_block ?_ | refine aw_region T0ok cfU_ok (by rfl) ?_ | refine aw_skip ?_ | refine aw_exit ?_ | refine ra_step ?_)); (repeat (first | (first | ((first | refine r_none ?_ | refine r_gt (by rfl) (by rfl) (by first | rfl | assumption | omega | (simp only [*, Bool.not_false, Bool.not_true]; first | done | fail) | (simp [*]; first | done | fail)) (by rfl) ?_ | refine r_gf (by rfl) (by rfl) (by first | rfl | assumption | omega | (simp only [*, Bool.not_false, Bool.not_true]; first | done | fail) | (simp [*]; first | done | fail)) (by rfl) ?_); (first | fail | ((first | (refine z_op (by rfl) ?_; first | refine z_ok ?_ ?_ | refine z_ex ?_ (by first | exact ft_raw rfl rfl | ((first | refine ft_rp rfl rfl rfl ?_ | refine ft_row rfl rfl rfl ?_ | refine ft_rpF rfl rfl rfl ?_ | refine ft_rowF rfl rfl rfl ?_ | refine up_row rfl rfl ?_ | refine up_rowF rfl rfl rfl ?_ | refine ct_0 rfl ?_ | refine ct_r rfl rfl ?_ | refine ct_c rfl rfl rfl ?_ | refine cu_all rfl ?_ | refine cu_to rfl ?_ | refine cu_from rfl ?_ | refine cu_p rfl ?_ | fail); (first | omega | (simp only [List.length_append, List.length_replicate, List.length_cons, List.length_nil, List.length_set, List.length_take, List.length_drop, true_and]; omega))) | exact up_raw rfl | exact pk_t (by first | rfl | assumption | omega | (simp only [*, Bool.not_false, Bool.not_true]; first | done | fail) | (simp [*]; first | done | fail)) rfl | exact pk_f (by first | rfl | assumption | omega | (simp only [*, Bool.not_false, Bool.not_true]; first | done | fail) | (simp [*]; first | done | fail)) rfl | fail | exact rw_raw | exact pu_cv (fun w => rfl) (by omega) | exact pu_of (fun w => rfl) rfl | exact be_of (fun w => rfl) | exact nc_of (fun _ _ _ _ => rfl) rfl | exact bu_of (fun w => rfl) rfl | (first | exact pu_of (fun w => neq_gate _ _ _ _ _ _ _ _ _ _ w) rfl)) ?_) | ((first | refine q_callE wsTH wsZ (by rfl) ?_ | refine q_callVE wsTH (by rfl) (by rfl) ?_); refine ⟨_, _, _, (by first | assumption | exact k_ahead _ _ _ _ _ (by omega) (by omega) | exact k_behindB _ _ _ _ _ (by omega) | exact k_within _ _ _), _, by rfl, ?_, ?_⟩)); focus (first | exact trivial | fail | exact rfl | (first | omega | (simp only [List.length_append, List.length_replicate, List.length_cons, List.length_nil, List.length_set, List.length_take, List.length_drop, true_and]; omega)) | exact cvB (fun w => rfl) | ((repeat' (first | exact rfl | exact cV_len _ | exact cV_ln rfl (by omega) | exact Cel.pos | omega | exact trivial | refine And.intro ?_ ?_)); done) | (simp [*]; done) | (simp; omega))) | refine q_clip (by rfl) clipG (by first | exact trivial | omega | exact cvB (fun w => rfl) | ((repeat (any_goals (first | exact rfl | exact cV_len _ | exact cV_ln rfl (by omega) | exact Cel.pos | omega | exact trivial | refine And.intro ?_ ?_))); first | done | fail) | (simp [*]; first | done | fail)) ?_)) | refine r_nt (by rfl) (by rfl) (by first | rfl | assumption | omega | (simp only [*, Bool.not_false, Bool.not_true]; first | done | fail) | (simp [*]; first | done | fail)) (by rfl) ?_ | refine r_nf (by rfl) (by rfl) (by first | rfl | assumption | omega | (simp only [*, Bool.not_false, Bool.not_true]; first | done | fail) | (simp [*]; first | done | fail)) (by rfl) ?_ | refine r_gu (by rfl) (by rfl) (by rfl) ?_ | refine r_nil ?_) | (first | refine aw_seq ?_ | refine aw_ct (by rfl) (by first | rfl | assumption | omega | (simp only [*, Bool.not_false, Bool.not_true]; first | done | fail) | (simp [*]; first | done | fail)) ?_ | refine aw_cf (by rfl) (by first | rfl | assumption | omega | (simp only [*, Bool.not_false, Bool.not_true]; first | done | fail) | (simp [*]; first | done | fail)) ?_ | refine aw_block ?_ | refine aw_region T0ok cfU_ok (by rfl) ?_ | refine aw_skip ?_ | refine aw_exit ?_ | refine ra_step ?_))); exact hh.out)) : G := h ⟨k⟩
theorem ga_KMH {H G : Prop} (k : H) (h : Hid H → G := by (intro hh; (first | refine r_none ?_ | refine r_gt (by rfl) (by rfl) (by first | rfl | assumption | omega | (simp only [*, Bool.not_false, Bool.not_true]; first | done | fail) | (simp [*]; first | done | fail)) (by rfl) ?_ | refine r_gf (by rfl) (by rfl) (by first | rfl | assumption | omega | (simp only [*, Bool.not_false, Bool.not_true]; first | done | fail) | (simp [*]; first | done | fail)) (by rfl) ?_); refine z_op (by rfl) ?_; refine z_al ?_ hh.out; focus (first | exact trivial | fail | exact rfl | (first | omega | (simp only [List.length_append, List.length_replicate, List.length_cons, List.length_nil, List.length_set, List.length_take, List.length_drop, true_and]; omega)) | exact cvB (fun w => rfl) | ((repeat' (first | exact rfl | exact cV_len _ | exact cV_ln rfl (by omega) | exact Cel.pos | omega | exact trivial | refine And.intro ?_ ?_)); done) | (simp [*]; done) | (simp; omega)))) : G := h ⟨k⟩
theorem gs_KMH {H G : Prop} (k : H) (h : Hid H → G := by (intro hh; (first | ((first | refine r_none ?_ | refine r_gt (by rfl) (by rfl) (by first | rfl | assumption | omega | (simp only [*, Bool.not_false, Bool.not_true]; first | done | fail) | (simp [*]; first | done | fail)) (by rfl) ?_ | refine r_gf (by rfl) (by rfl) (by first | rfl | assumption | omega | (simp only [*, Bool.not_false, Bool.not_true]; first | done | fail) | (simp [*]; first | done | fail)) (by rfl) ?_); (first | fail | ((first | (refine z_op (by rfl) ?_; first | refine z_ok ?_ ?_ | refine z_ex ?_ (by first | exact ft_raw rfl rfl | ((first | refine ft_rp rfl rfl rfl ?_ | refine ft_row rfl rfl rfl ?_ | refine ft_rpF rfl rfl rfl ?_ | refine ft_rowF rfl rfl rfl ?_ | refine up_row rfl rfl ?_ | refine up_rowF rfl rfl rfl ?_ | refine ct_0 rfl ?_ | refine ct_r rfl rfl ?_ | refine ct_c rfl rfl rfl ?_ | refine cu_all rfl ?_ | refine cu_to rfl ?_ | refine cu_from rfl ?_ | refine cu_p rfl ?_ | fail); (first | omega | (simp only [List.length_append, List.length_replicate, List.length_cons, List.length_nil, List.length_set, List.length_take, List.length_drop, true_and]; omega))) | exact up_raw rfl | exact pk_t (by first | rfl | assumption | omega | (simp only [*, Bool.not_false, Bool.not_true]; first | done | fail) | (simp [*]; first | done | fail)) rfl | exact pk_f (by first | rfl | assumption | omega | (simp only [*, Bool.not_false, Bool.not_true]; first | done | fail) | (simp [*]; first | done | fail)) rfl | fail | exact rw_raw | exact pu_cv (fun w => rfl) (by omega) | exact pu_of (fun w => rfl) rfl | exact be_of (fun w => rfl) | exact nc_of (fun _ _ _ _ => rfl) rfl | exact bu_of (fun w => rfl) rfl | (first | exact pu_of (fun w => neq_gate _ _ _ _ _ _ _ _ _ _ w) rfl)) ?_) | ((first | refine q_callE wsTH wsZ (by rfl) ?_ | refine q_callVE wsTH (by rfl) (by rfl) ?_); refine ⟨_, _, _, (by first | assumption | exact k_ahead _ _ _ _ _ (by omega) (by omega) | exact k_behindB _ _ _ _ _ (by omega) | exact k_within _ _ _), _, by rfl, ?_, ?_⟩)); focus (first | exact trivial | fail | exact rfl | (first | omega | (simp only [List.length_append, List.length_replicate, List.length_cons, List.length_nil, List.length_set, List.length_take, List.length_drop, true_and]; omega)) | exact cvB (fun w => rfl) | ((repeat' (first | exact rfl | exact cV_len _ | exact cV_ln rfl (by omega) | exact Cel.pos | omega | exact trivial | refine And.intro ?_ ?_)); done) | (simp [*]; done) | (simp; omega))) | refine q_clip (by rfl) clipG (by first | exact trivial | omega | exact cvB (fun w => rfl) | ((repeat (any_goals (first | exact rfl | exact cV_len _ | exact cV_ln rfl (by omega) | exact Cel.pos | omega | exact trivial | refine And.intro ?_ ?_))); first | done | fail) | (simp [*]; first | done | fail)) ?_)) | refine r_nt (by rfl) (by rfl) (by first | rfl | assumption | omega | (simp only [*, Bool.not_false, Bool.not_true]; first | done | fail) | (simp [*]; first | done | fail)) (by rfl) ?_ | refine r_nf (by rfl) (by rfl) (by first | rfl | assumption | omega | (simp only [*, Bool.not_false, Bool.not_true]; first | done | fail) | (simp [*]; first | done | fail)) (by rfl) ?_ | refine r_gu (by rfl) (by rfl) (by rfl) ?_ | refine r_nil ?_); (repeat (first | ((first | refine r_none ?_ | refine r_gt (by rfl) (by rfl) (by first | rfl | assumption | omega | (simp only [*, Bool.not_false, Bool.not_true]; first | done | fail) | (simp [*]; first | done | fail)) (by rfl) ?_ | refine r_gf (by rfl) (by rfl) (by first | rfl | assumption | omega | (simp only [*, Bool.not_false, Bool.not_true]; first | done | fail) | (simp [*]; first | done | fail)) (by rfl) ?_); (first | fail | ((first | (refine z_op (by rfl) ?_; first | refine z_ok ?_ ?_ | refine z_ex ?_ (by first | exact ft_raw rfl rfl | ((first | refine ft_rp rfl rfl rfl ?_ | refine ft_row rfl rfl rfl ?_ | refine ft_rpF rfl rfl rfl ?_ | refine ft_rowF rfl rfl rfl ?_ | refine up_row rfl rfl ?_ | refine up_rowF rfl rfl rfl ?_ | refine ct_0 rfl ?_ | refine ct_r rfl rfl ?_ | refine ct_c rfl rfl rfl ?_ | refine cu_all rfl ?_ | refine cu_to rfl ?_ | refine cu_from rfl ?_ | refine cu_p rfl ?_ | fail); (first | omega | (simp only [List.length_append, List.length_replicate, List.length_cons, List.length_nil, List.length_set, List.length_take, List.length_drop, true_and]; omega))) | exact up_raw rfl | exact pk_t (by first | rfl | assumption | omega | (simp only [*, Bool.not_false, Bool.not_true]; first | done | fail) | (simp [*]; first | done | fail)) rfl | exact pk_f (by first | rfl | assumption | omega | (simp only [*, Bool.not_false, Bool.not_true]; first | done | fail) | (simp [*]; first | done | fail)) rfl | fail | exact rw_raw | exact pu_cv (fun w => rfl) (by omega) | exact pu_of (fun w => rfl) rfl | exact be_of (fun w => rfl) | exact nc_of (fun _ _ _ _ => rfl) rfl | exact bu_of (fun w => rfl) rfl | (first | exact pu_of (fun w => neq_gate _ _ _ _ _ _ _ _ _ _ w) rfl)) ?_) | ((first | refine q_callE wsTH wsZ (by rfl) ?_ | refine q_callVE wsTH (by rfl) (by rfl) ?_); refine ⟨_, _, _, (by first | assumption | exact k_ahead _ _ _ _ _ (by omega) (by omega) | exact k_behindB _ _ _ _ _ (by omega) | exact k_within _ _ _), _, by rfl, ?_, ?_⟩)); focus (first | exact trivial | fail | exact rfl | (first | omega | (simp only [List.length_append, List.length_replicate, List.length_cons, List.length_nil, List.length_set, List.length_take, List.length_drop, true_and]; omega)) | exact cvB (fun w => rfl) | ((repeat' (first | exact rfl | exact cV_len _ | exact cV_ln rfl (by omega) | exact Cel.pos | omega | exact trivial | refine And.intro ?_ ?_)); done) | (simp [*]; done) | (simp; omega))) | refine q_clip (by rfl) clipG (by first | exact trivial | omega | exact cvB (fun w => rfl) | ((repeat (any_goals (first | exact rfl | exact cV_len _ | exact cV_ln rfl (by omega) | exact Cel.pos | omega | exact trivial | refine And.intro ?_ ?_))); first | done | fail) | (simp [*]; first | done | fail)) ?_)) | refine r_nt (by rfl) (by rfl) (by first | rfl | assumption | omega | (simp only [*, Bool.not_false, Bool.not_true]; first | done | fail) | (simp [*]; first | done | fail)) (by rfl) ?_ | refine r_nf (by rfl) (by rfl) (by first | rfl | assumption | omega | (simp only [*, Bool.not_false, Bool.not_true]; first | done | fail) | (simp [*]; first | done | fail)) (by rfl) ?_ | refine r_gu (by rfl) (by rfl) (by rfl) ?_ | refine r_nil ?_)); exact hh.out)) : G := h ⟨k⟩
theorem gc_KMH {H G : Prop} (k : H) (h : Hid H → G := by (intro hh; (first | refine aw_seq ?_ | refine aw_ct (by rfl) (by first | rfl | assumption | omega | (simp only [*, Bool.not_false, Bool.not_true]; first | done | fail) | (simp [*]; first | done | fail)) ?_ | refine aw_cf (by rfl) (by first | rfl | assumption | omega | (simp only [*, Bool.not_false, Bool.not_true]; first | done | fail) | (simp [*]; first | done | fail)) ?_ | refine aw_block ?_ | refine aw_region T0ok cfU_ok (by rfl) ?_ | refine aw_skip ?_ | refine aw_exit ?_ | refine ra_step ?_); (repeat (first | refine aw_seq ?_ | refine aw_ct (by rfl) (by first | rfl | assumption | omega | (simp only [*, Bool.not_false, Bool.not_true]; first | done | fail) | (simp [*]; first | done | fail)) ?_ | refine aw_cf (by rfl) (by first | rfl | assumption | omega | (simp only [*, Bool.not_false, Bool.not_true]; first | done | fail) | (simp [*]; first | done | fail)) ?_ | refine aw_block ?_ | refine aw_region T0ok cfU_ok (by rfl) ?_ | refine aw_skip ?_ | refine aw_exit ?_ | refine ra_step ?_)); exact hh.out)) : G := h ⟨k⟩
theorem k_behindB (n : Int) (l : List Gt) (f w : Int) (A : Nat) (h : A ≤ l.length ∧ l.length ≤ 1000) : Kon Try.prog 111 [bG n l f w (A : Int)] [] (roA (l.drop A)) [] [] := by
  (refine kon_mk T0ok (fn := Try.f111) (c := Try.f111.body.get rfl) Try.func111 rfl (by rfl) (by rfl) (by rfl) ?_; intro hfit hfe)
  (repeat (first | refine gq_KMH ?_ | (refine ga_KMH ?_; intro _q ⟨_he, _hq⟩)))
  ((try refine aw_ret ?_); refine ret_auto2 (by rfl) (by rfl) (by rfl) (by repeat (first | exact trivial | refine ⟨by first | rfl | omega, ?_⟩)) ?_ (by repeat (first | exact trivial | refine ⟨by rfl, by rfl, ?_⟩)) (by repeat (first | exact trivial | refine ⟨by rfl, by rfl, ?_⟩)); try rfl)
theorem k_withO (n : Int) (l : List Gt) (f w a : Int) (x y : List Gt) (hx : x.length ≤ 1000) (hy : y.length ≤ 1000) : Kon Try.prog 110 [bG n l f w a, roA x, roA y] [] (bS n (x ++ y).length f w x.length) [gRow (x ++ y)] [] := by
  (refine kon_mk T0ok (fn := Try.f110) (c := Try.f110.body.get rfl) Try.func110 rfl (by rfl) (by rfl) (by rfl) ?_; intro hfit hfe)
  (repeat refine gc_KMH ?_)
  (repeat (first | refine gs_KMH ?_ | (refine ga_KMH ?_; intro _q ⟨_he, _hq⟩)))
  refine aw_seq ?_
  refine wx_region ?_
  refine wx_run 2 T0ok cfU_ok (by rfl) ?_
  (repeat (first | refine gs_KMH ?_ | (refine ga_KMH ?_; intro _q ⟨_he, _hq⟩)))
  refine wx_concat (x := x) (y := y) (by rfl) (by rfl) (by rfl) ⟨by omega, by omega⟩ (by rfl) ?_
  refine wx_end T0ok cfU_ok (i := 4) (by rfl) ?_
  (repeat (first | refine gq_KMH ?_ | (refine ga_KMH ?_; intro _q ⟨_he, _hq⟩)))
  ((try refine aw_ret ?_); refine ret_auto2 (by rfl) (by rfl) (by rfl) (by repeat (first | exact trivial | refine ⟨by first | rfl | omega, ?_⟩)) ?_ (by repeat (first | exact trivial | refine ⟨by rfl, by rfl, ?_⟩)) (by repeat (first | exact trivial | refine ⟨by rfl, by rfl, ?_⟩)); try rfl)
theorem k_copyO (n : Int) (l : List Gt) (f w : Int) (A : Nat) (h : A ≤ l.length ∧ l.length ≤ 1000) : Kon Try.prog 71 [bG n l f w (A : Int)] [] (bS n l.length f w (A : Int)) [gRow l] [] := by
  have hW := k_withO n l f w (A : Int) (l.take A) (l.drop A) (by rw [List.length_take]; omega) (by rw [List.length_drop]; omega)
  rw [List.take_append_drop, List.length_take, Nat.min_eq_left h.1] at hW
  (refine kon_mk T0ok (fn := Try.f71) (c := Try.f71.body.get rfl) Try.func71 rfl (by rfl) (by rfl) (by rfl) ?_; intro hfit hfe)
  (repeat (first | refine gq_KMH ?_ | (refine ga_KMH ?_; intro _q ⟨_he, _hq⟩)))
  (refine aw_draw mixed T0ok cfU_ok [(128, [5, 6]), (32, [6])] (by rfl) (by kernel_rfl) ?_)
  (repeat (first | refine gq_KMH ?_ | (refine ga_KMH ?_; intro _q ⟨_he, _hq⟩)))
  ((try refine aw_ret ?_); refine ret_auto2 (by rfl) (by rfl) (by rfl) (by repeat (first | exact trivial | refine ⟨by first | rfl | omega, ?_⟩)) ?_ (by repeat (first | exact trivial | refine ⟨by rfl, by rfl, ?_⟩)) (by repeat (first | exact trivial | refine ⟨by rfl, by rfl, ?_⟩)); try rfl)
abbrev bR (n : Int) (l : List Gt) (f w a : Int) (ok : Bool) : AV := .tup [.agg [.v (.int .i64 n), roG l, .v (.int .i64 f), .v (.int .i64 w), .v (.int .i64 a)], .one (.v (.bool ok))]
abbrev gZ : Gt := ⟨0, 0, 0, 0⟩
set_option maxHeartbeats 2000000 in
theorem k_goneF (n : Int) (l : List Gt) (f w : Int) (A m : Nat) (h : bok n l f w A = true) (hm : 1 ≤ m ∧ m + A ≤ l.length) : Kon Try.prog 109 [bG n l f w (A : Int), dV ⟨0, m, gZ⟩] [] (bR n l f (fw l A m w) ((A + m : Nat) : Int) true) [] [] := by
  obtain ⟨hc, hf, _, hwe⟩ := bok_t h
  obtain ⟨hn, hl24, ha⟩ := cokB_t hc
  have hfv := wvB_t hf
  have hat : (l.take A).all (gok n) = true := all_take ha A
  have hwb : 0 ≤ w ∧ w < 2 ^ n.toNat := by rw [hwe]; exact cr_lt hat ⟨hfv.2.1, hfv.2.2.1⟩
  have hR := k_runAll n ((l.drop A).take m) w (all_take (all_dropT ha A) m) (by rw [List.length_take, List.length_drop]; omega) (fw_wv (A := A) (i := 0) hn ha hwb)
  have hlen : (l.drop A).length = l.length - A := List.length_drop
  have hb : btw (m : Int) 1 ((l.drop A).length : Int) = true := by unfold btw; rw [decide_eq_true (by omega), decide_eq_true (by omega)]; rfl
  have hWi := k_within (m : Int) 1 ((l.drop A).length : Int)
  rw [hb] at hWi
  replace hR : Kon Try.prog 65 [roA ((l.drop A).take (m : Int).toNat), vI w] [] (vI (fw l A m w)) [] [] := hR
  (refine kon_mk T0ok (fn := Try.f109) (c := Try.f109.body.get rfl) Try.func109 rfl (by rfl) (by rfl) (by rfl) ?_; intro hfit hfe)
  (repeat (first | refine gq_KMH ?_ | (refine ga_KMH ?_; intro _q ⟨_he, _hq⟩)))
  (refine aw_draw2 mixed T0ok cfU_ok [(32, [1004, 1005, 1007, 8])] (by rfl) (by kernel_rfl) ?_)
  (repeat (first | refine gq_KMH ?_ | (refine ga_KMH ?_; intro _q ⟨_he, _hq⟩)))
  ((try refine aw_ret ?_); refine ret_auto2 (by rfl) (by rfl) (by rfl) (by repeat (first | exact trivial | refine ⟨by first | rfl | omega, ?_⟩)) ?_ (by repeat (first | exact trivial | refine ⟨by rfl, by rfl, ?_⟩)) (by repeat (first | exact trivial | refine ⟨by rfl, by rfl, ?_⟩)); try rfl)
set_option maxHeartbeats 2000000 in
theorem k_goneB (n : Int) (l : List Gt) (f w : Int) (A m : Nat) (h : bok n l f w A = true) (hm : 1 ≤ m ∧ m ≤ A) : Kon Try.prog 109 [bG n l f w (A : Int), dV ⟨1, m, gZ⟩] [] (bR n l f (bw l A m w) ((A : Int) - (m : Int)) true) [] [] := by
  obtain ⟨hc, hf, hA, hwe⟩ := bok_t h
  obtain ⟨hn, hl24, ha⟩ := cokB_t hc
  have hfv := wvB_t hf
  have hat : (l.take A).all (gok n) = true := all_take ha A
  have hrl : (l.take A).reverse.length = A := by rw [List.length_reverse, List.length_take]; omega
  have hwb : 0 ≤ w ∧ w < 2 ^ n.toNat := by rw [hwe]; exact cr_lt hat ⟨hfv.2.1, hfv.2.2.1⟩
  have hR := k_runAll n ((l.take A).reverse.take m) w (all_take (by rw [List.all_reverse]; exact hat) m) (by rw [List.length_take]; omega) (bw_wv (A := A) (i := 0) hn ha hwb)
  have hb : btw (m : Int) 1 ((l.take A).reverse.length : Int) = true := by unfold btw; rw [decide_eq_true (by omega), decide_eq_true (by omega)]; rfl
  have hWi := k_within (m : Int) 1 ((l.take A).reverse.length : Int)
  rw [hb] at hWi
  have hBk := k_backwards (l.take A) (by rw [List.length_take]; omega)
  replace hR : Kon Try.prog 65 [roA ((l.take A).reverse.take (m : Int).toNat), vI w] [] (vI (bw l A m w)) [] [] := hR
  (refine kon_mk T0ok (fn := Try.f109) (c := Try.f109.body.get rfl) Try.func109 rfl (by rfl) (by rfl) (by rfl) ?_; intro hfit hfe)
  (repeat refine gc_KMH ?_)
  (repeat (first | refine gs_KMH ?_ | (refine ga_KMH ?_; intro _q ⟨_he, _hq⟩)))
  (repeat refine gc_KMH ?_)
  (repeat (first | refine gs_KMH ?_ | (refine ga_KMH ?_; intro _q ⟨_he, _hq⟩)))
  (repeat refine gc_KMH ?_)
  (repeat (first | refine gs_KMH ?_ | (refine ga_KMH ?_; intro _q ⟨_he, _hq⟩)))
  (repeat refine gc_KMH ?_)
  (repeat (first | refine gs_KMH ?_ | (refine ga_KMH ?_; intro _q ⟨_he, _hq⟩)))
  (refine aw_freeze 224 (by rfl) (by rfl) ?_; refine aw_slot 6 4 (by rfl) (by rfl) (by first | exact trivial | omega | exact cvB (fun w => rfl) | ((repeat (any_goals (first | exact rfl | exact cV_len _ | exact cV_ln rfl (by omega) | exact Cel.pos | omega | exact trivial | refine And.intro ?_ ?_))); first | done | fail) | (simp [*]; first | done | fail)) ?_)
  (repeat (first | refine gq_KMH ?_ | (refine ga_KMH ?_; intro _q ⟨_he, _hq⟩)))
  (refine aw_draw2 mixed T0ok cfU_ok [(32, [1004, 1005, 1007, 8])] (by rfl) (by kernel_rfl) ?_)
  (repeat (first | refine gq_KMH ?_ | (refine ga_KMH ?_; intro _q ⟨_he, _hq⟩)))
  ((try refine aw_ret ?_); refine ret_auto2 (by rfl) (by rfl) (by rfl) (by repeat (first | exact trivial | refine ⟨by first | rfl | omega, ?_⟩)) ?_ (by repeat (first | exact trivial | refine ⟨by rfl, by rfl, ?_⟩)) (by repeat (first | exact trivial | refine ⟨by rfl, by rfl, ?_⟩)); try rfl)
/-- What cannot be gone over. -/
theorem k_goneX (n : Int) (l : List Gt) (f w : Int) (A : Nat) (d : Dd) (h : bok n l f w A = true) (hk : d.k = 0 ∨ d.k = 1) (hx : (!(d.p.k == 0 && (d.p.a == 0 && (d.p.b == 0 && d.p.c == 0)))) = true ∨ btw d.n 1 (if d.k = 1 then A else (l.length : Int) - A) = false) : Kon Try.prog 109 [bG n l f w (A : Int), dV d] [] (bR n l f w (A : Int) false) [] [] := by
  obtain ⟨hc, hf, hA, hwe⟩ := bok_t h
  obtain ⟨hn, hl24, ha⟩ := cokB_t hc
  obtain ⟨k, m, p⟩ := d
  dsimp only at hk hx
  have hrl : (l.take A).reverse.length = A := by rw [List.length_reverse, List.length_take]; omega
  have hdl : (l.drop A).length = l.length - A := List.length_drop
  have hBk := k_backwards (l.take A) (by rw [List.length_take]; omega)
  rcases hk with rfl | rfl
  · have hWi := k_within m 1 ((l.drop A).length : Int)
    rw [show ((l.drop A).length : Int) = (l.length : Int) - A by omega] at hWi
    cases hp : (p.k == 0 && (p.a == 0 && (p.b == 0 && p.c == 0))) with
    | false =>
      (refine kon_mk T0ok (fn := Try.f109) (c := Try.f109.body.get rfl) Try.func109 rfl (by rfl) (by rfl) (by rfl) ?_; intro hfit hfe)
      (repeat (first | refine gq_KMH ?_ | (refine ga_KMH ?_; intro _q ⟨_he, _hq⟩)))
      ((try refine aw_ret ?_); refine ret_auto2 (by rfl) (by rfl) (by rfl) (by repeat (first | exact trivial | refine ⟨by first | rfl | omega, ?_⟩)) ?_ (by repeat (first | exact trivial | refine ⟨by rfl, by rfl, ?_⟩)) (by repeat (first | exact trivial | refine ⟨by rfl, by rfl, ?_⟩)); try rfl)
    | true =>
      rw [hp] at hx
      simp at hx
      rw [hx] at hWi
      rw [show (l.length : Int) - A = ((l.drop A).length : Int) by omega] at hWi
      (refine kon_mk T0ok (fn := Try.f109) (c := Try.f109.body.get rfl) Try.func109 rfl (by rfl) (by rfl) (by rfl) ?_; intro hfit hfe)
      (repeat (first | refine gq_KMH ?_ | (refine ga_KMH ?_; intro _q ⟨_he, _hq⟩)))
      ((try refine aw_ret ?_); refine ret_auto2 (by rfl) (by rfl) (by rfl) (by repeat (first | exact trivial | refine ⟨by first | rfl | omega, ?_⟩)) ?_ (by repeat (first | exact trivial | refine ⟨by rfl, by rfl, ?_⟩)) (by repeat (first | exact trivial | refine ⟨by rfl, by rfl, ?_⟩)); try rfl)
  · have hWi := k_within m 1 ((l.take A).reverse.length : Int)
    cases hp : (p.k == 0 && (p.a == 0 && (p.b == 0 && p.c == 0))) with
    | false =>
      (refine kon_mk T0ok (fn := Try.f109) (c := Try.f109.body.get rfl) Try.func109 rfl (by rfl) (by rfl) (by rfl) ?_; intro hfit hfe)
      (repeat (first | refine gq_KMH ?_ | (refine ga_KMH ?_; intro _q ⟨_he, _hq⟩)))
      ((try refine aw_ret ?_); refine ret_auto2 (by rfl) (by rfl) (by rfl) (by repeat (first | exact trivial | refine ⟨by first | rfl | omega, ?_⟩)) ?_ (by repeat (first | exact trivial | refine ⟨by rfl, by rfl, ?_⟩)) (by repeat (first | exact trivial | refine ⟨by rfl, by rfl, ?_⟩)); try rfl)
    | true =>
      rw [hp] at hx
      simp at hx
      rw [hrl, hx] at hWi
      rw [← hrl] at hWi
      (refine kon_mk T0ok (fn := Try.f109) (c := Try.f109.body.get rfl) Try.func109 rfl (by rfl) (by rfl) (by rfl) ?_; intro hfit hfe)
      (repeat (first | refine gq_KMH ?_ | (refine ga_KMH ?_; intro _q ⟨_he, _hq⟩)))
      ((try refine aw_ret ?_); refine ret_auto2 (by rfl) (by rfl) (by rfl) (by repeat (first | exact trivial | refine ⟨by first | rfl | omega, ?_⟩)) ?_ (by repeat (first | exact trivial | refine ⟨by rfl, by rfl, ?_⟩)) (by repeat (first | exact trivial | refine ⟨by rfl, by rfl, ?_⟩)); try rfl)
end Go.Proofs.Yteagoafamjbpbaa

/- Deeds compared; impl.do, case by case. -/
namespace Go.Proofs.Yteagoafamjbpbaa
set_option linter.unusedVariables false
set_option linter.unusedSimpArgs false
set_option maxRecDepth 20000
open Go.RowKit
theorem equal_gate9 (k a b c k' a' b' c' : Int) (w : World) : (Op.equalIn 9999 34 (.agg #[.int .i64 k, .int .i64 a, .int .i64 b, .int .i64 c]) (.agg #[.int .i64 k', .int .i64 a', .int .i64 b', .int .i64 c'])).run Try.prog w = .ok (k == k' && (a == a' && (b == b' && c == c'))) w := by
  rw [run_equalIn_agg (ht := by kernel_rfl) (hp := by kernel_rfl)]
  have hc : chk4 3 (Try.prog.fieldsOf 34).toList = true := by kernel_rfl
  have hi : Try.prog.underlying 3 = some (.int .i64) := by kernel_rfl
  have hz : ∀ (xs : Array Value) (k : Nat) (v : Value) (w : World), xs[k]? = some v → (part 3 xs k).run Try.prog w = .ok v w := fun xs k v w h => run_part_plain w (by kernel_rfl) h
  have z0 := fun w => hz #[.int .i64 k, .int .i64 a, .int .i64 b, .int .i64 c] 0 _ w rfl
  have y0 := fun w => hz #[.int .i64 k', .int .i64 a', .int .i64 b', .int .i64 c'] 0 _ w rfl
  have z1 := fun w => hz #[.int .i64 k, .int .i64 a, .int .i64 b, .int .i64 c] 1 _ w rfl
  have y1 := fun w => hz #[.int .i64 k', .int .i64 a', .int .i64 b', .int .i64 c'] 1 _ w rfl
  have z2 := fun w => hz #[.int .i64 k, .int .i64 a, .int .i64 b, .int .i64 c] 2 _ w rfl
  have y2 := fun w => hz #[.int .i64 k', .int .i64 a', .int .i64 b', .int .i64 c'] 2 _ w rfl
  have z3 := fun w => hz #[.int .i64 k, .int .i64 a, .int .i64 b, .int .i64 c] 3 _ w rfl
  have y3 := fun w => hz #[.int .i64 k', .int .i64 a', .int .i64 b', .int .i64 c'] 3 _ w rfl
  have e : ∀ (x y : Int) w, (Op.equalIn 9998 3 (.int .i64 x) (.int .i64 y)).run Try.prog w = .ok (x == y) w := fun x y w => run_equalIn_int (P := Try.prog) w 9997 3 .i64 .i64 x y hi
  clear hz
  generalize (Try.prog.fieldsOf 34).toList = fs at hc ⊢
  unfold chk4 at hc
  split at hc
  · rename_i f f' f'' f3
    simp only [Bool.and_eq_true, bne_iff_ne, beq_iff_eq] at hc
    obtain ⟨⟨⟨⟨⟨h1, h2⟩, h3⟩, ⟨⟨h4, h5⟩, h6⟩⟩, ⟨⟨h7, h8⟩, h9⟩⟩, ⟨⟨g1, g2⟩, g3⟩⟩ := hc
    simp only [Op.eqFields, h1, h2, h3, h4, h5, h6, h7, h8, h9, g1, g2, g3, if_true, ne_eq, not_false_eq_true, Sem.run_bind, z0, y0, Result.andThen_ok]
    erw [e k k' w]
    cases (k == k')
    · rfl
    simp only [Result.andThen_ok, Bool.not_true, Bool.false_eq_true, if_false, Sem.run_bind, z1, y1]
    erw [e a a' w]
    cases (a == a')
    · rfl
    simp only [Result.andThen_ok, Bool.not_true, Bool.false_eq_true, if_false, Sem.run_bind, z2, y2]
    erw [e b b' w]
    cases (b == b')
    · rfl
    simp only [Result.andThen_ok, Bool.not_true, Bool.false_eq_true, if_false, Sem.run_bind, z3, y3]
    erw [e c c' w]
    cases (c == c') <;> rfl
  · cases hc
def chk3 (ti tg : TypeId) : List Field → Bool
  | [f, f', f''] => (f.name != "_") && (f.type == ti) && (f.offset == 0) && ((f'.name != "_") && (f'.type == ti) && (f'.offset == 1)) && ((f''.name != "_") && (f''.type == tg) && (f''.offset == 2))
  | _ => false
abbrev dA (k n g a b c : Int) : Value := .agg #[.int .i64 k, .int .i64 n, .int .i64 g, .int .i64 a, .int .i64 b, .int .i64 c]
theorem equal_deed (k n g a b c k' n' g' a' b' c' : Int) (w : World) : (Op.equalIn 10000 36 (dA k n g a b c) (dA k' n' g' a' b' c')).run Try.prog w = .ok (k == k' && (n == n' && (g == g' && (a == a' && (b == b' && c == c'))))) w := by
  rw [run_equalIn_agg (ht := by kernel_rfl) (hp := by kernel_rfl)]
  have hc : chk3 3 34 (Try.prog.fieldsOf 36).toList = true := by kernel_rfl
  have hi : Try.prog.underlying 3 = some (.int .i64) := by kernel_rfl
  have hz : ∀ (xs : Array Value) (k : Nat) (v : Value) (w : World), xs[k]? = some v → (part 3 xs k).run Try.prog w = .ok v w := fun xs k v w h => run_part_plain w (by kernel_rfl) h
  have z0 := fun w => hz #[.int .i64 k, .int .i64 n, .int .i64 g, .int .i64 a, .int .i64 b, .int .i64 c] 0 _ w rfl
  have y0 := fun w => hz #[.int .i64 k', .int .i64 n', .int .i64 g', .int .i64 a', .int .i64 b', .int .i64 c'] 0 _ w rfl
  have z1 := fun w => hz #[.int .i64 k, .int .i64 n, .int .i64 g, .int .i64 a, .int .i64 b, .int .i64 c] 1 _ w rfl
  have y1 := fun w => hz #[.int .i64 k', .int .i64 n', .int .i64 g', .int .i64 a', .int .i64 b', .int .i64 c'] 1 _ w rfl
  have z2 : ∀ w, (part 34 #[.int .i64 k, .int .i64 n, .int .i64 g, .int .i64 a, .int .i64 b, .int .i64 c] 2).run Try.prog w = .ok (.agg #[.int .i64 g, .int .i64 a, .int .i64 b, .int .i64 c]) w := fun w => by kernel_rfl
  have y2 : ∀ w, (part 34 #[.int .i64 k', .int .i64 n', .int .i64 g', .int .i64 a', .int .i64 b', .int .i64 c'] 2).run Try.prog w = .ok (.agg #[.int .i64 g', .int .i64 a', .int .i64 b', .int .i64 c']) w := fun w => by kernel_rfl
  have e : ∀ (x y : Int) w, (Op.equalIn 9999 3 (.int .i64 x) (.int .i64 y)).run Try.prog w = .ok (x == y) w := fun x y w => run_equalIn_int (P := Try.prog) w 9998 3 .i64 .i64 x y hi
  clear hz
  generalize (Try.prog.fieldsOf 36).toList = fs at hc ⊢
  unfold chk3 at hc
  split at hc
  · rename_i f f' f''
    simp only [Bool.and_eq_true, bne_iff_ne, beq_iff_eq] at hc
    obtain ⟨⟨⟨⟨h1, h2⟩, h3⟩, ⟨⟨h4, h5⟩, h6⟩⟩, ⟨⟨h7, h8⟩, h9⟩⟩ := hc
    simp only [Op.eqFields, h1, h2, h3, h4, h5, h6, h7, h8, h9, if_true, ne_eq, not_false_eq_true, Sem.run_bind, z0, y0, Result.andThen_ok]
    erw [e k k' w]
    cases (k == k')
    · rfl
    simp only [Result.andThen_ok, Bool.not_true, Bool.false_eq_true, if_false, Sem.run_bind, z1, y1]
    erw [e n n' w]
    cases (n == n')
    · rfl
    simp only [Result.andThen_ok, Bool.not_true, Bool.false_eq_true, if_false, Sem.run_bind, z2, y2]
    erw [equal_gate9 g a b c g' a' b' c' w]
    cases (g == g' && (a == a' && (b == b' && c == c'))) <;> rfl
  · cases hc
theorem eq_deed (x y : Operand) (k n g a b c k' n' g' a' b' c' : Int) (w : World) : (do eqGuard .eql 36 x y (dA k n g a b c) (dA k' n' g' a' b' c'); binOp .eql 36 (dA k n g a b c) (dA k' n' g' a' b' c') : Sem Value).run Try.prog w = .ok (.bool (k == k' && (n == n' && (g == g' && (a == a' && (b == b' && c == c')))))) w := by
  rw [Sem.run_bind, run_eqGuard_agg (hm := by kernel_rfl)]
  simp only [Result.andThen_ok]
  rw [run_eql_struct, equal_deed]; rfl
attribute [local irreducible] runA runX AW
def wsTI : WsT := (87, ([], true)) :: (66, ([], true)) :: (111, ([], true)) :: (109, ([], true)) :: wsT
theorem gq_KMI {H G : Prop} (k : H) (h : Hid H → G := by (intro hh; (first | (first | ((first | refine r_none ?_ | refine r_gt (by rfl) (by rfl) (by first | rfl | assumption | omega | (simp only [*, Bool.not_false, Bool.not_true]; first | done | fail) | (simp [*]; first | done | fail)) (by rfl) ?_ | refine r_gf (by rfl) (by rfl) (by first | rfl | assumption | omega | (simp only [*, Bool.not_false, Bool.not_true]; first | done | fail) | (simp [*]; first | done | fail)) (by rfl) ?_); (first | fail | ((first | (refine z_op (by rfl) ?_; first | refine z_ok ?_ ?_ | refine z_ex ?_ (by first | exact ft_raw rfl rfl | ((first | refine ft_rp rfl rfl rfl ?_ | refine ft_row rfl rfl rfl ?_ | refine ft_rpF rfl rfl rfl ?_ | refine ft_rowF rfl rfl rfl ?_ | refine up_row rfl rfl ?_ | refine up_rowF rfl rfl rfl ?_ | refine ct_0 rfl ?_ | refine ct_r rfl rfl ?_ | refine ct_c rfl rfl rfl ?_ | refine cu_all rfl ?_ | refine cu_to rfl ?_ | refine cu_from rfl ?_ | refine cu_p rfl ?_ | fail); (first | omega | (simp only [List.length_append, List.length_replicate, List.length_cons, List.length_nil, List.length_set, List.length_take, List.length_drop, true_and]; omega))) | exact up_raw rfl | exact pk_t (by first | rfl | assumption | omega | (simp only [*, Bool.not_false, Bool.not_true]; first | done | fail) | (simp [*]; first | done | fail)) rfl | exact pk_f (by first | rfl | assumption | omega | (simp only [*, Bool.not_false, Bool.not_true]; first | done | fail) | (simp [*]; first | done | fail)) rfl | exact rw_c Gt rfl | exact rw_raw | exact pu_cv (fun w => rfl) (by omega) | exact pu_of (fun w => rfl) rfl | exact be_of (fun w => rfl) | exact nc_of (fun _ _ _ _ => rfl) rfl | exact bu_of (fun w => rfl) rfl | (first | exact pu_of (fun w => eq_deed _ _ _ _ _ _ _ _ _ _ _ _ _ _ w) rfl)) ?_) | ((first | refine q_callE wsTI wsZ (by rfl) ?_ | refine q_callVE wsTI (by rfl) (by rfl) ?_); refine ⟨_, _, _, (by first | assumption | exact k_ahead _ _ _ _ _ (by omega) (by omega) | exact k_behindB _ _ _ _ _ (by omega)), _, by rfl, ?_, ?_⟩)); focus (first | exact trivial | fail | exact rfl | (first | omega | (simp only [List.length_append, List.length_replicate, List.length_cons, List.length_nil, List.length_set, List.length_take, List.length_drop, true_and]; omega)) | exact cvB (fun w => rfl) | ((repeat' (first | exact rfl | exact cV_len _ | exact cV_ln rfl (by omega) | exact Cel.pos | omega | exact trivial | refine And.intro ?_ ?_)); done) | (simp [*]; done) | (simp; omega))) | fail)) | refine r_nt (by rfl) (by rfl) (by first | rfl | assumption | omega | (simp only [*, Bool.not_false, Bool.not_true]; first | done | fail) | (simp [*]; first | done | fail)) (by rfl) ?_ | refine r_nf (by rfl) (by rfl) (by first | rfl | assumption | omega | (simp only [*, Bool.not_false, Bool.not_true]; first | done | fail) | (simp [*]; first | done | fail)) (by rfl) ?_ | refine r_gu (by rfl) (by rfl) (by rfl) ?_ | refine r_nil ?_) | (first | refine aw_seq ?_ | refine aw_ct (by rfl) (by first | rfl | assumption | omega | (simp only [*, Bool.not_false, Bool.not_true]; first | done | fail) | (simp [*]; first | done | fail)) ?_ | refine aw_cf (by rfl) (by first | rfl | assumption | omega | (simp only [*, Bool.not_false, Bool.not_true]; first | done | fail) | (simp [*]; first | done | fail)) ?_ | refine aw_block ?_ | refine aw_region T0ok cfU_ok (by rfl) ?_ | refine aw_skip ?_ | refine aw_exit ?_ | refine ra_step ?_)); (repeat (first | (first | ((first | refine r_none ?_ | refine r_gt (by rfl) (by rfl) (by first | rfl | assumption | omega | (simp only [*, Bool.not_false, Bool.not_true]; first | done | fail) | (simp [*]; first | done | fail)) (by rfl) ?_ | refine r_gf (by rfl) (by rfl) (by first | rfl | assumption | omega | (simp only [*, Bool.not_false, Bool.not_true]; first | done | fail) | (simp [*]; first | done | fail)) (by rfl) ?_); (first | fail | ((first | (refine z_op (by rfl) ?_; first | refine z_ok ?_ ?_ | refine z_ex ?_ (by first | exact ft_raw rfl rfl | ((first | refine ft_rp rfl rfl rfl ?_ | refine ft_row rfl rfl rfl ?_ | refine ft_rpF rfl rfl rfl ?_ | refine ft_rowF rfl rfl rfl ?_ | refine up_row rfl rfl ?_ | refine up_rowF rfl rfl rfl ?_ | refine ct_0 rfl ?_ | refine ct_r rfl rfl ?_ | refine ct_c rfl rfl rfl ?_ | refine cu_all rfl ?_ | refine cu_to rfl ?_ | refine cu_from rfl ?_ | refine cu_p rfl ?_ | fail); (first | omega | (simp only [List.length_append, List.length_replicate, List.length_cons, List.length_nil, List.length_set, List.length_take, List.length_drop, true_and]; omega))) | exact up_raw rfl | exact pk_t (by first | rfl | assumption | omega | (simp only [*, Bool.not_false, Bool.not_true]; first | done | fail) | (simp [*]; first | done | fail)) rfl | exact pk_f (by first | rfl | assumption | omega | (simp only [*, Bool.not_false, Bool.not_true]; first | done | fail) | (simp [*]; first | done | fail)) rfl | exact rw_c Gt rfl | exact rw_raw | exact pu_cv (fun w => rfl) (by omega) | exact pu_of (fun w => rfl) rfl | exact be_of (fun w => rfl) | exact nc_of (fun _ _ _ _ => rfl) rfl | exact bu_of (fun w => rfl) rfl | (first | exact pu_of (fun w => eq_deed _ _ _ _ _ _ _ _ _ _ _ _ _ _ w) rfl)) ?_) | ((first | refine q_callE wsTI wsZ (by rfl) ?_ | refine q_callVE wsTI (by rfl) (by rfl) ?_); refine ⟨_, _, _, (by first | assumption | exact k_ahead _ _ _ _ _ (by omega) (by omega) | exact k_behindB _ _ _ _ _ (by omega)), _, by rfl, ?_, ?_⟩)); focus (first | exact trivial | fail | exact rfl | (first | omega | (simp only [List.length_append, List.length_replicate, List.length_cons, List.length_nil, List.length_set, List.length_take, List.length_drop, true_and]; omega)) | exact cvB (fun w => rfl) | ((repeat' (first | exact rfl | exact cV_len _ | exact cV_ln rfl (by omega) | exact Cel.pos | omega | exact trivial | refine And.intro ?_ ?_)); done) | (simp [*]; done) | (simp; omega))) | fail)) | refine r_nt (by rfl) (by rfl) (by first | rfl | assumption | omega | (simp only [*, Bool.not_false, Bool.not_true]; first | done | fail) | (simp [*]; first | done | fail)) (by rfl) ?_ | refine r_nf (by rfl) (by rfl) (by first | rfl | assumption | omega | (simp only [*, Bool.not_false, Bool.not_true]; first | done | fail) | (simp [*]; first | done | fail)) (by rfl) ?_ | refine r_gu (by rfl) (by rfl) (by rfl) ?_ | refine r_nil ?_) | (first | refine aw_seq ?_ | refine aw_ct (by rfl) (by first | rfl | assumption | omega | (simp only [*, Bool.not_false, Bool.not_true]; first | done | fail) | (simp [*]; first | done | fail)) ?_ | refine aw_cf (by rfl) (by first | rfl | assumption | omega | (simp only [*, Bool.not_false, Bool.not_true]; first | done | fail) | (simp [*]; first | done | fail)) ?_ | refine aw_block ?_ | refine aw_region T0ok cfU_ok (by rfl) ?_ | refine aw_skip ?_ | refine aw_exit ?_ | refine ra_step ?_))); exact hh.out)) : G := h ⟨k⟩
theorem ga_KMI {H G : Prop} (k : H) (h : Hid H → G := by (intro hh; (first | refine r_none ?_ | refine r_gt (by rfl) (by rfl) (by first | rfl | assumption | omega | (simp only [*, Bool.not_false, Bool.not_true]; first | done | fail) | (simp [*]; first | done | fail)) (by rfl) ?_ | refine r_gf (by rfl) (by rfl) (by first | rfl | assumption | omega | (simp only [*, Bool.not_false, Bool.not_true]; first | done | fail) | (simp [*]; first | done | fail)) (by rfl) ?_); refine z_op (by rfl) ?_; refine z_al ?_ hh.out; focus (first | exact trivial | fail | exact rfl | (first | omega | (simp only [List.length_append, List.length_replicate, List.length_cons, List.length_nil, List.length_set, List.length_take, List.length_drop, true_and]; omega)) | exact cvB (fun w => rfl) | ((repeat' (first | exact rfl | exact cV_len _ | exact cV_ln rfl (by omega) | exact Cel.pos | omega | exact trivial | refine And.intro ?_ ?_)); done) | (simp [*]; done) | (simp; omega)))) : G := h ⟨k⟩
theorem gs_KMI {H G : Prop} (k : H) (h : Hid H → G := by (intro hh; (first | ((first | refine r_none ?_ | refine r_gt (by rfl) (by rfl) (by first | rfl | assumption | omega | (simp only [*, Bool.not_false, Bool.not_true]; first | done | fail) | (simp [*]; first | done | fail)) (by rfl) ?_ | refine r_gf (by rfl) (by rfl) (by first | rfl | assumption | omega | (simp only [*, Bool.not_false, Bool.not_true]; first | done | fail) | (simp [*]; first | done | fail)) (by rfl) ?_); (first | fail | ((first | (refine z_op (by rfl) ?_; first | refine z_ok ?_ ?_ | refine z_ex ?_ (by first | exact ft_raw rfl rfl | ((first | refine ft_rp rfl rfl rfl ?_ | refine ft_row rfl rfl rfl ?_ | refine ft_rpF rfl rfl rfl ?_ | refine ft_rowF rfl rfl rfl ?_ | refine up_row rfl rfl ?_ | refine up_rowF rfl rfl rfl ?_ | refine ct_0 rfl ?_ | refine ct_r rfl rfl ?_ | refine ct_c rfl rfl rfl ?_ | refine cu_all rfl ?_ | refine cu_to rfl ?_ | refine cu_from rfl ?_ | refine cu_p rfl ?_ | fail); (first | omega | (simp only [List.length_append, List.length_replicate, List.length_cons, List.length_nil, List.length_set, List.length_take, List.length_drop, true_and]; omega))) | exact up_raw rfl | exact pk_t (by first | rfl | assumption | omega | (simp only [*, Bool.not_false, Bool.not_true]; first | done | fail) | (simp [*]; first | done | fail)) rfl | exact pk_f (by first | rfl | assumption | omega | (simp only [*, Bool.not_false, Bool.not_true]; first | done | fail) | (simp [*]; first | done | fail)) rfl | exact rw_c Gt rfl | exact rw_raw | exact pu_cv (fun w => rfl) (by omega) | exact pu_of (fun w => rfl) rfl | exact be_of (fun w => rfl) | exact nc_of (fun _ _ _ _ => rfl) rfl | exact bu_of (fun w => rfl) rfl | (first | exact pu_of (fun w => eq_deed _ _ _ _ _ _ _ _ _ _ _ _ _ _ w) rfl)) ?_) | ((first | refine q_callE wsTI wsZ (by rfl) ?_ | refine q_callVE wsTI (by rfl) (by rfl) ?_); refine ⟨_, _, _, (by first | assumption | exact k_ahead _ _ _ _ _ (by omega) (by omega) | exact k_behindB _ _ _ _ _ (by omega)), _, by rfl, ?_, ?_⟩)); focus (first | exact trivial | fail | exact rfl | (first | omega | (simp only [List.length_append, List.length_replicate, List.length_cons, List.length_nil, List.length_set, List.length_take, List.length_drop, true_and]; omega)) | exact cvB (fun w => rfl) | ((repeat' (first | exact rfl | exact cV_len _ | exact cV_ln rfl (by omega) | exact Cel.pos | omega | exact trivial | refine And.intro ?_ ?_)); done) | (simp [*]; done) | (simp; omega))) | fail)) | refine r_nt (by rfl) (by rfl) (by first | rfl | assumption | omega | (simp only [*, Bool.not_false, Bool.not_true]; first | done | fail) | (simp [*]; first | done | fail)) (by rfl) ?_ | refine r_nf (by rfl) (by rfl) (by first | rfl | assumption | omega | (simp only [*, Bool.not_false, Bool.not_true]; first | done | fail) | (simp [*]; first | done | fail)) (by rfl) ?_ | refine r_gu (by rfl) (by rfl) (by rfl) ?_ | refine r_nil ?_); (repeat (first | ((first | refine r_none ?_ | refine r_gt (by rfl) (by rfl) (by first | rfl | assumption | omega | (simp only [*, Bool.not_false, Bool.not_true]; first | done | fail) | (simp [*]; first | done | fail)) (by rfl) ?_ | refine r_gf (by rfl) (by rfl) (by first | rfl | assumption | omega | (simp only [*, Bool.not_false, Bool.not_true]; first | done | fail) | (simp [*]; first | done | fail)) (by rfl) ?_); (first | fail | ((first | (refine z_op (by rfl) ?_; first | refine z_ok ?_ ?_ | refine z_ex ?_ (by first | exact ft_raw rfl rfl | ((first | refine ft_rp rfl rfl rfl ?_ | refine ft_row rfl rfl rfl ?_ | refine ft_rpF rfl rfl rfl ?_ | refine ft_rowF rfl rfl rfl ?_ | refine up_row rfl rfl ?_ | refine up_rowF rfl rfl rfl ?_ | refine ct_0 rfl ?_ | refine ct_r rfl rfl ?_ | refine ct_c rfl rfl rfl ?_ | refine cu_all rfl ?_ | refine cu_to rfl ?_ | refine cu_from rfl ?_ | refine cu_p rfl ?_ | fail); (first | omega | (simp only [List.length_append, List.length_replicate, List.length_cons, List.length_nil, List.length_set, List.length_take, List.length_drop, true_and]; omega))) | exact up_raw rfl | exact pk_t (by first | rfl | assumption | omega | (simp only [*, Bool.not_false, Bool.not_true]; first | done | fail) | (simp [*]; first | done | fail)) rfl | exact pk_f (by first | rfl | assumption | omega | (simp only [*, Bool.not_false, Bool.not_true]; first | done | fail) | (simp [*]; first | done | fail)) rfl | exact rw_c Gt rfl | exact rw_raw | exact pu_cv (fun w => rfl) (by omega) | exact pu_of (fun w => rfl) rfl | exact be_of (fun w => rfl) | exact nc_of (fun _ _ _ _ => rfl) rfl | exact bu_of (fun w => rfl) rfl | (first | exact pu_of (fun w => eq_deed _ _ _ _ _ _ _ _ _ _ _ _ _ _ w) rfl)) ?_) | ((first | refine q_callE wsTI wsZ (by rfl) ?_ | refine q_callVE wsTI (by rfl) (by rfl) ?_); refine ⟨_, _, _, (by first | assumption | exact k_ahead _ _ _ _ _ (by omega) (by omega) | exact k_behindB _ _ _ _ _ (by omega)), _, by rfl, ?_, ?_⟩)); focus (first | exact trivial | fail | exact rfl | (first | omega | (simp only [List.length_append, List.length_replicate, List.length_cons, List.length_nil, List.length_set, List.length_take, List.length_drop, true_and]; omega)) | exact cvB (fun w => rfl) | ((repeat' (first | exact rfl | exact cV_len _ | exact cV_ln rfl (by omega) | exact Cel.pos | omega | exact trivial | refine And.intro ?_ ?_)); done) | (simp [*]; done) | (simp; omega))) | fail)) | refine r_nt (by rfl) (by rfl) (by first | rfl | assumption | omega | (simp only [*, Bool.not_false, Bool.not_true]; first | done | fail) | (simp [*]; first | done | fail)) (by rfl) ?_ | refine r_nf (by rfl) (by rfl) (by first | rfl | assumption | omega | (simp only [*, Bool.not_false, Bool.not_true]; first | done | fail) | (simp [*]; first | done | fail)) (by rfl) ?_ | refine r_gu (by rfl) (by rfl) (by rfl) ?_ | refine r_nil ?_)); exact hh.out)) : G := h ⟨k⟩
theorem k_doG (n : Int) (l : List Gt) (f w a : Int) (d : Dd) (f2 w2 a2 : Int) (ok : Bool) (hk : d.k = 0 ∨ d.k = 1) (hG : Kon Try.prog 109 [bG n l f w a, dV d] [] (bR n l f2 w2 a2 ok) [] []) : Kon Try.prog 70 [bG n l f w a, dV d] [] (bR n l f2 w2 a2 ok) [] [] := by
  obtain ⟨k, m, p⟩ := d
  dsimp only at hk
  rcases hk with rfl | rfl
  · (refine kon_mk T0ok (fn := Try.f70) (c := Try.f70.body.get rfl) Try.func70 rfl (by rfl) (by rfl) (by rfl) ?_; intro hfit hfe)
    (repeat (first | refine gq_KMI ?_ | (refine ga_KMI ?_; intro _q ⟨_he, _hq⟩)))
    ((try refine aw_ret ?_); refine ret_auto2 (by rfl) (by rfl) (by rfl) (by repeat (first | exact trivial | refine ⟨by first | rfl | omega, ?_⟩)) ?_ (by repeat (first | exact trivial | refine ⟨by rfl, by rfl, ?_⟩)) (by repeat (first | exact trivial | refine ⟨by rfl, by rfl, ?_⟩)); try rfl)
  · (refine kon_mk T0ok (fn := Try.f70) (c := Try.f70.body.get rfl) Try.func70 rfl (by rfl) (by rfl) (by rfl) ?_; intro hfit hfe)
    (repeat (first | refine gq_KMI ?_ | (refine ga_KMI ?_; intro _q ⟨_he, _hq⟩)))
    ((try refine aw_ret ?_); refine ret_auto2 (by rfl) (by rfl) (by rfl) (by repeat (first | exact trivial | refine ⟨by first | rfl | omega, ?_⟩)) ?_ (by repeat (first | exact trivial | refine ⟨by rfl, by rfl, ?_⟩)) (by repeat (first | exact trivial | refine ⟨by rfl, by rfl, ?_⟩)); try rfl)
set_option maxHeartbeats 2000000 in
theorem k_doP (n : Int) (l : List Gt) (f w : Int) (A : Nat) (p : Gt) (hl : l.length < 24) (h : bok n l f w A = true) (hp : gok n p = true) : Kon Try.prog 70 [bG n l f w (A : Int), dV ⟨2, 0, p⟩] [] (bR n (l.take A ++ (p :: l.drop A)) f w (A : Int) true) [] [] := by
  obtain ⟨hc, hf, hA, hwe⟩ := bok_t h
  obtain ⟨hn, hl24, ha⟩ := cokB_t hc
  have hG := k_gv n p
  rw [hp] at hG
  have hd : ((l.length : Int) == 24) = false := by rw [beq_eq_false_iff_ne]; omega
  have hW := k_withO n l f w (A : Int) (l.take A) ([p] ++ l.drop A) (by rw [List.length_take]; omega) (by rw [List.length_append, List.length_drop]; simp; omega)
  rw [show (l.take A).length = A by rw [List.length_take]; omega] at hW
  have hX : (l.take A ++ ([p] ++ l.drop A)).length = l.length + 1 := by simp only [List.length_append, List.length_take, List.length_drop, List.length_cons, List.length_nil]; omega
  (refine kon_mk T0ok (fn := Try.f70) (c := Try.f70.body.get rfl) Try.func70 rfl (by rfl) (by rfl) (by rfl) ?_; intro hfit hfe)
  (repeat (first | refine gq_KMI ?_ | (refine ga_KMI ?_; intro _q ⟨_he, _hq⟩)))
  (refine aw_draw mixed T0ok cfU_ok [(768, [5, 8, 9]), (832, [9, 10]), (64, [10])] (by rfl) (by kernel_rfl) ?_)
  (repeat (first | refine gs_KMI ?_ | (refine ga_KMI ?_; intro _q ⟨_he, _hq⟩)))
  (refine aw_freeze 832 (by rfl) (by rfl) ?_; refine aw_box 64 1 (by rfl) (by rfl) (by first | exact trivial | ((repeat' (first | exact rfl | exact cV_len _ | exact cV_ln rfl (by omega) | exact Cel.pos | omega | exact trivial | refine And.intro ?_ ?_)); first | done | fail)) (by rfl) ?_)
  (repeat (first | refine gq_KMI ?_ | (refine ga_KMI ?_; intro _q ⟨_he, _hq⟩)))
  ((try refine aw_ret ?_); refine ret_auto2 (by rfl) (by rfl) (by rfl) (by repeat (first | exact trivial | refine ⟨by first | rfl | omega, ?_⟩)) ?_ (by repeat (first | exact trivial | refine ⟨by rfl, by rfl, ?_⟩)) (by repeat (first | exact trivial | refine ⟨by rfl, by rfl, ?_⟩)); try rfl)
set_option maxHeartbeats 2000000 in
theorem k_doPf (n : Int) (l : List Gt) (f w : Int) (A : Nat) (m : Int) (p : Gt) (h : bok n l f w A = true) (hp : m ≠ 0 ∨ gok n p = false ∨ 24 ≤ l.length) : Kon Try.prog 70 [bG n l f w (A : Int), dV ⟨2, m, p⟩] [] (bR n l f w (A : Int) false) [] [] := by
  obtain ⟨hc, hf, hA, hwe⟩ := bok_t h
  obtain ⟨hn, hl24, ha⟩ := cokB_t hc
  have hG := k_gv n p
  cases hm : (m != 0) with
  | true =>
    (refine kon_mk T0ok (fn := Try.f70) (c := Try.f70.body.get rfl) Try.func70 rfl (by rfl) (by rfl) (by rfl) ?_; intro hfit hfe)
    (repeat (first | refine gq_KMI ?_ | (refine ga_KMI ?_; intro _q ⟨_he, _hq⟩)))
    ((try refine aw_ret ?_); refine ret_auto2 (by rfl) (by rfl) (by rfl) (by repeat (first | exact trivial | refine ⟨by first | rfl | omega, ?_⟩)) ?_ (by repeat (first | exact trivial | refine ⟨by rfl, by rfl, ?_⟩)) (by repeat (first | exact trivial | refine ⟨by rfl, by rfl, ?_⟩)); try rfl)
  | false =>
    have hm0 : m = 0 := by simpa using hm
    cases hg : gok n p with
    | false =>
      rw [hg] at hG
      (refine kon_mk T0ok (fn := Try.f70) (c := Try.f70.body.get rfl) Try.func70 rfl (by rfl) (by rfl) (by rfl) ?_; intro hfit hfe)
      (repeat (first | refine gq_KMI ?_ | (refine ga_KMI ?_; intro _q ⟨_he, _hq⟩)))
      ((try refine aw_ret ?_); refine ret_auto2 (by rfl) (by rfl) (by rfl) (by repeat (first | exact trivial | refine ⟨by first | rfl | omega, ?_⟩)) ?_ (by repeat (first | exact trivial | refine ⟨by rfl, by rfl, ?_⟩)) (by repeat (first | exact trivial | refine ⟨by rfl, by rfl, ?_⟩)); try rfl)
    | true =>
      rw [hg] at hG
      have hd : ((l.length : Int) == 24) = true := by
        rw [beq_iff_eq]
        rcases hp with hp | hp | hp
        · exact absurd hm0 hp
        · rw [hg] at hp; cases hp
        · omega
      (refine kon_mk T0ok (fn := Try.f70) (c := Try.f70.body.get rfl) Try.func70 rfl (by rfl) (by rfl) (by rfl) ?_; intro hfit hfe)
      (repeat (first | refine gq_KMI ?_ | (refine ga_KMI ?_; intro _q ⟨_he, _hq⟩)))
      ((try refine aw_ret ?_); refine ret_auto2 (by rfl) (by rfl) (by rfl) (by repeat (first | exact trivial | refine ⟨by first | rfl | omega, ?_⟩)) ?_ (by repeat (first | exact trivial | refine ⟨by rfl, by rfl, ?_⟩)) (by repeat (first | exact trivial | refine ⟨by rfl, by rfl, ?_⟩)); try rfl)
set_option maxHeartbeats 2000000 in
theorem k_doT (n : Int) (l : List Gt) (f w : Int) (A : Nat) (hA : A < l.length) (h : bok n l f w A = true) : Kon Try.prog 70 [bG n l f w (A : Int), dV ⟨3, 0, gZ⟩] [] (bR n (l.take A ++ l.drop (A + 1)) f w (A : Int) true) [] [] := by
  obtain ⟨hc, hf, hAl, hwe⟩ := bok_t h
  obtain ⟨hn, hl24, ha⟩ := cokB_t hc
  have hdl : (l.drop A).length = l.length - A := List.length_drop
  have hd : (((l.drop A).length : Int) == 0) = false := by rw [beq_eq_false_iff_ne]; omega
  have hW := k_withO n l f w (A : Int) (l.take A) ((l.drop A).drop 1) (by rw [List.length_take]; omega) (by rw [List.length_drop, List.length_drop]; omega)
  rw [show (l.take A).length = A by rw [List.length_take]; omega, List.drop_drop] at hW
  have hX : (l.take A ++ l.drop (A + 1)).length = l.length - 1 := by simp only [List.length_append, List.length_take, List.length_drop]; omega
  rw [← List.drop_drop] at hW
  (refine kon_mk T0ok (fn := Try.f70) (c := Try.f70.body.get rfl) Try.func70 rfl (by rfl) (by rfl) (by rfl) ?_; intro hfit hfe)
  (repeat (first | refine gq_KMI ?_ | (refine ga_KMI ?_; intro _q ⟨_he, _hq⟩)))
  (refine aw_draw mixed T0ok cfU_ok [(1120, [6, 7]), (64, [7])] (by rfl) (by kernel_rfl) ?_)
  (repeat (first | refine gs_KMI ?_ | (refine ga_KMI ?_; intro _q ⟨_he, _hq⟩)))
  (refine aw_freeze 1120 (by rfl) (by rfl) ?_; refine aw_box 64 1 (by rfl) (by rfl) (by first | exact trivial | ((repeat' (first | exact rfl | exact cV_len _ | exact cV_ln rfl (by omega) | exact Cel.pos | omega | exact trivial | refine And.intro ?_ ?_)); first | done | fail)) (by rfl) ?_)
  (repeat (first | refine gq_KMI ?_ | (refine ga_KMI ?_; intro _q ⟨_he, _hq⟩)))
  ((try refine aw_ret ?_); refine ret_auto2 (by rfl) (by rfl) (by rfl) (by repeat (first | exact trivial | refine ⟨by first | rfl | omega, ?_⟩)) ?_ (by repeat (first | exact trivial | refine ⟨by rfl, by rfl, ?_⟩)) (by repeat (first | exact trivial | refine ⟨by rfl, by rfl, ?_⟩)); try rfl)
  all_goals (first | done | (rw [List.drop_drop]; rfl))
theorem k_doTf (n : Int) (l : List Gt) (f w : Int) (A : Nat) (m : Int) (p : Gt) (h : bok n l f w A = true) (hp : nmD ⟨3, m, p⟩ = false ∨ l.length ≤ A) : Kon Try.prog 70 [bG n l f w (A : Int), dV ⟨3, m, p⟩] [] (bR n l f w (A : Int) false) [] [] := by
  obtain ⟨hc, hf, hAl, hwe⟩ := bok_t h
  obtain ⟨hn, hl24, ha⟩ := cokB_t hc
  have hdl : (l.drop A).length = l.length - A := List.length_drop
  cases hm : (m == 0 && (p.k == 0 && (p.a == 0 && (p.b == 0 && p.c == 0)))) with
  | false =>
    (refine kon_mk T0ok (fn := Try.f70) (c := Try.f70.body.get rfl) Try.func70 rfl (by rfl) (by rfl) (by rfl) ?_; intro hfit hfe)
    (repeat (first | refine gq_KMI ?_ | (refine ga_KMI ?_; intro _q ⟨_he, _hq⟩)))
    ((try refine aw_ret ?_); refine ret_auto2 (by rfl) (by rfl) (by rfl) (by repeat (first | exact trivial | refine ⟨by first | rfl | omega, ?_⟩)) ?_ (by repeat (first | exact trivial | refine ⟨by rfl, by rfl, ?_⟩)) (by repeat (first | exact trivial | refine ⟨by rfl, by rfl, ?_⟩)); try rfl)
  | true =>
    have hd : (((l.drop A).length : Int) == 0) = true := by
      rw [beq_iff_eq]
      rcases hp with hp | hp
      · have e : nmD ⟨3, m, p⟩ = (m == 0 && (p.k == 0 && (p.a == 0 && (p.b == 0 && p.c == 0)))) := by simp [nmD]
        rw [e, hm] at hp; cases hp
      · omega
    (refine kon_mk T0ok (fn := Try.f70) (c := Try.f70.body.get rfl) Try.func70 rfl (by rfl) (by rfl) (by rfl) ?_; intro hfit hfe)
    (repeat (first | refine gq_KMI ?_ | (refine ga_KMI ?_; intro _q ⟨_he, _hq⟩)))
    ((try refine aw_ret ?_); refine ret_auto2 (by rfl) (by rfl) (by rfl) (by repeat (first | exact trivial | refine ⟨by first | rfl | omega, ?_⟩)) ?_ (by repeat (first | exact trivial | refine ⟨by rfl, by rfl, ?_⟩)) (by repeat (first | exact trivial | refine ⟨by rfl, by rfl, ?_⟩)); try rfl)
theorem k_doN (n : Int) (l : List Gt) (f w a : Int) (d : Dd) (hk : d.k < 0 ∨ 4 < d.k) : Kon Try.prog 70 [bG n l f w a, dV d] [] (bR n l f w a false) [] [] := by
  obtain ⟨k, m, p⟩ := d
  dsimp only at hk
  have h0 : (k == 0) = false := by rw [beq_eq_false_iff_ne]; omega
  have h1 : (k == 1) = false := by rw [beq_eq_false_iff_ne]; omega
  have h2 : (k == 2) = false := by rw [beq_eq_false_iff_ne]; omega
  have h3 : (k == 3) = false := by rw [beq_eq_false_iff_ne]; omega
  have h4 : (k == 4) = false := by rw [beq_eq_false_iff_ne]; omega
  (refine kon_mk T0ok (fn := Try.f70) (c := Try.f70.body.get rfl) Try.func70 rfl (by rfl) (by rfl) (by rfl) ?_; intro hfit hfe)
  (repeat (first | refine gq_KMI ?_ | (refine ga_KMI ?_; intro _q ⟨_he, _hq⟩)))
  ((try refine aw_ret ?_); refine ret_auto2 (by rfl) (by rfl) (by rfl) (by repeat (first | exact trivial | refine ⟨by first | rfl | omega, ?_⟩)) ?_ (by repeat (first | exact trivial | refine ⟨by rfl, by rfl, ?_⟩)) (by repeat (first | exact trivial | refine ⟨by rfl, by rfl, ?_⟩)); try rfl)
set_option maxHeartbeats 2000000 in
theorem k_doS (n : Int) (l : List Gt) (f w : Int) (A : Nat) (m : Int) (p : Gt) (B C : List Gt) (h : bok n l f w A = true) (hBs : Kon Try.prog 87 [roA (l.take A)] [] (roA B) [] []) (hCs : Kon Try.prog 87 [roA (l.drop A)] [] (roA C) [] []) (hBC : B.length ≤ 24 ∧ C.length ≤ 24)
    (hb : nmD ⟨4, m, p⟩ = true) (hne : B.length + C.length ≠ l.length) : Kon Try.prog 70 [bG n l f w (A : Int), dV ⟨4, m, p⟩] [] (bR n (B ++ C) f w (B.length : Int) true) [] [] := by
  obtain ⟨hc, hf, hAl, hwe⟩ := bok_t h
  obtain ⟨hn, hl24, ha⟩ := cokB_t hc
  have hm : (m == 0 && (p.k == 0 && (p.a == 0 && (p.b == 0 && p.c == 0)))) = true := by
    have e : nmD ⟨4, m, p⟩ = (m == 0 && (p.k == 0 && (p.a == 0 && (p.b == 0 && p.c == 0)))) := by simp [nmD]
    rw [← e]; exact hb
  have hW := k_withO n l f w (A : Int) B C (by omega) (by omega)
  have hX : (B ++ C).length = B.length + C.length := List.length_append
  have hd : (((B ++ C).length : Int) == (l.length : Int)) = false := by rw [beq_eq_false_iff_ne]; omega
  (refine kon_mk T0ok (fn := Try.f70) (c := Try.f70.body.get rfl) Try.func70 rfl (by rfl) (by rfl) (by rfl) ?_; intro hfit hfe)
  (repeat (first | refine gq_KMI ?_ | (refine ga_KMI ?_; intro _q ⟨_he, _hq⟩)))
  (refine aw_draw mixed T0ok cfU_ok [(1280, [7, 9]), (112, [8, 9])] (by rfl) (by kernel_rfl) ?_)
  (repeat (first | refine gs_KMI ?_ | (refine ga_KMI ?_; intro _q ⟨_he, _hq⟩)))
  (refine aw_freeze 1280 (by rfl) (by rfl) ?_; refine aw_box 112 1 (by rfl) (by rfl) (by first | exact trivial | ((repeat' (first | exact rfl | exact cV_len _ | exact cV_ln rfl (by omega) | exact Cel.pos | omega | exact trivial | refine And.intro ?_ ?_)); first | done | fail)) (by rfl) ?_)
  (repeat (first | refine gq_KMI ?_ | (refine ga_KMI ?_; intro _q ⟨_he, _hq⟩)))
  ((try refine aw_ret ?_); refine ret_auto2 (by rfl) (by rfl) (by rfl) (by repeat (first | exact trivial | refine ⟨by first | rfl | omega, ?_⟩)) ?_ (by repeat (first | exact trivial | refine ⟨by rfl, by rfl, ?_⟩)) (by repeat (first | exact trivial | refine ⟨by rfl, by rfl, ?_⟩)); try rfl)
set_option maxHeartbeats 2000000 in
theorem k_doSf (n : Int) (l : List Gt) (f w : Int) (A : Nat) (m : Int) (p : Gt) (B C : List Gt) (h : bok n l f w A = true) (hBs : Kon Try.prog 87 [roA (l.take A)] [] (roA B) [] []) (hCs : Kon Try.prog 87 [roA (l.drop A)] [] (roA C) [] []) (hBC : B.length ≤ 24 ∧ C.length ≤ 24)
    (hb : nmD ⟨4, m, p⟩ = false ∨ B.length + C.length = l.length) : Kon Try.prog 70 [bG n l f w (A : Int), dV ⟨4, m, p⟩] [] (bR n l f w (A : Int) false) [] [] := by
  obtain ⟨hc, hf, hAl, hwe⟩ := bok_t h
  obtain ⟨hn, hl24, ha⟩ := cokB_t hc
  have hW := k_withO n l f w (A : Int) B C (by omega) (by omega)
  have hX : (B ++ C).length = B.length + C.length := List.length_append
  cases hm : (m == 0 && (p.k == 0 && (p.a == 0 && (p.b == 0 && p.c == 0)))) with
  | false =>
    (refine kon_mk T0ok (fn := Try.f70) (c := Try.f70.body.get rfl) Try.func70 rfl (by rfl) (by rfl) (by rfl) ?_; intro hfit hfe)
    (repeat (first | refine gq_KMI ?_ | (refine ga_KMI ?_; intro _q ⟨_he, _hq⟩)))
    (refine aw_draw mixed T0ok cfU_ok [(1280, [7, 9]), (112, [8, 9])] (by rfl) (by kernel_rfl) ?_)
    (repeat (first | refine gq_KMI ?_ | (refine ga_KMI ?_; intro _q ⟨_he, _hq⟩)))
    ((try refine aw_ret ?_); refine ret_auto2 (by rfl) (by rfl) (by rfl) (by repeat (first | exact trivial | refine ⟨by first | rfl | omega, ?_⟩)) ?_ (by repeat (first | exact trivial | refine ⟨by rfl, by rfl, ?_⟩)) (by repeat (first | exact trivial | refine ⟨by rfl, by rfl, ?_⟩)); try rfl)
  | true =>
    have hd : (((B ++ C).length : Int) == (l.length : Int)) = true := by
      rw [beq_iff_eq]
      rcases hb with hp | hp
      · have e : nmD ⟨4, m, p⟩ = (m == 0 && (p.k == 0 && (p.a == 0 && (p.b == 0 && p.c == 0)))) := by simp [nmD]
        rw [e, hm] at hp; cases hp
      · omega
    (refine kon_mk T0ok (fn := Try.f70) (c := Try.f70.body.get rfl) Try.func70 rfl (by rfl) (by rfl) (by rfl) ?_; intro hfit hfe)
    (repeat (first | refine gq_KMI ?_ | (refine ga_KMI ?_; intro _q ⟨_he, _hq⟩)))
    (refine aw_draw mixed T0ok cfU_ok [(1280, [7, 9]), (112, [8, 9])] (by rfl) (by kernel_rfl) ?_)
    (repeat (first | refine gq_KMI ?_ | (refine ga_KMI ?_; intro _q ⟨_he, _hq⟩)))
    ((try refine aw_ret ?_); refine ret_auto2 (by rfl) (by rfl) (by rfl) (by repeat (first | exact trivial | refine ⟨by first | rfl | omega, ?_⟩)) ?_ (by repeat (first | exact trivial | refine ⟨by rfl, by rfl, ?_⟩)) (by repeat (first | exact trivial | refine ⟨by rfl, by rfl, ?_⟩)); try rfl)
end Go.Proofs.Yteagoafamjbpbaa

/- impl.do and spec.BenchDo by one plain model; impl.BenchDo. -/
namespace Go.Proofs.Yteagoafamjbpbaa
set_option linter.unusedVariables false
set_option linter.unusedSimpArgs false
set_option maxRecDepth 20000
open Go.RowKit
attribute [local irreducible] runA runX AW
def doR (n : Int) (l : List Gt) (w : Int) (A : Nat) (d : Dd) : (List Gt × Int × Nat) × Bool := match doM n l w A d with
  | some r => (r, true)
  | none => ((l, w, A), false)
theorem doR_ok {n : Int} {l l' : List Gt} {f w w' : Int} {A A' : Nat} {d : Dd} {ok : Bool} (h : bok n l f w A = true) (hR : doR n l w A d = ((l', w', A'), ok)) : bok n l' f w' A' = true := by
  unfold doR at hR
  split at hR
  · rename_i r hd
    cases hR
    exact doM_ok h hd
  · cases hR; exact h
theorem nm_gZ {p : Gt} (h : (p.k == 0 && (p.a == 0 && (p.b == 0 && p.c == 0))) = true) : p = gZ := by
  obtain ⟨k, a, b, c⟩ := p
  simp only [Bool.and_eq_true, beq_iff_eq] at h
  obtain ⟨rfl, rfl, rfl, rfl⟩ := h
  rfl
theorem nm_X {d : Dd} (h : d.k < 0 ∨ 4 < d.k) : nmD d = false := by
  unfold nmD
  rw [if_neg (by omega), if_neg (by omega), if_neg (by omega)]
theorem kn_doI {n : Int} {l l' : List Gt} {f w w' : Int} {A A' : Nat} {d : Dd} {ok : Bool} (h : bok n l f w A = true) (hR : doR n l w A d = ((l', w', A'), ok)) : Kon Try.prog 70 [bG n l f w (A : Int), dV d] [] (bR n l' f w' (A' : Int) ok) [] [] := by
  obtain ⟨hc, hf, hA, hwe⟩ := bok_t h
  obtain ⟨hn, hl24, ha⟩ := cokB_t hc
  obtain ⟨k, m, p⟩ := d
  by_cases hk : k < 0 ∨ 4 < k
  · have hnm : nmD ⟨k, m, p⟩ = false := nm_X hk
    unfold doR doM at hR
    rw [hnm] at hR
    cases hR
    exact k_doN n l f w A _ hk
  unfold doR doM at hR
  obtain rfl | rfl | rfl | rfl | rfl : k = 0 ∨ k = 1 ∨ k = 2 ∨ k = 3 ∨ k = 4 := by omega
  · have hnm : nmD ⟨0, m, p⟩ = (p.k == 0 && (p.a == 0 && (p.b == 0 && p.c == 0))) := rfl
    rw [hnm] at hR
    cases hp : (p.k == 0 && (p.a == 0 && (p.b == 0 && p.c == 0))) with
    | false =>
      rw [hp] at hR; cases hR
      exact k_doG n l f w A _ f w A false (.inl rfl) (k_goneX n l f w A ⟨0, m, p⟩ h (.inl rfl) (.inl (by dsimp only; rw [hp]; rfl)))
    | true =>
      obtain rfl := nm_gZ hp
      cases hb : btw m 1 ((l.length : Int) - A) with
      | false =>
        simp only [hp, cond_true, if_true, hb, cond_false] at hR; cases hR
        exact k_doG n l f w A _ f w A false (.inl rfl) (k_goneX n l f w A ⟨0, m, gZ⟩ h (.inl rfl) (.inr hb))
      | true =>
        simp only [hp, cond_true, if_true, hb] at hR; cases hR
        have hb2 := btw_t hb
        obtain ⟨m, rfl⟩ : ∃ m' : Nat, m = (m' : Int) := ⟨m.toNat, by omega⟩
        exact k_doG n l f w A _ f _ _ true (.inl rfl) (k_goneF n l f w A m h (by omega))
  · have hnm : nmD ⟨1, m, p⟩ = (p.k == 0 && (p.a == 0 && (p.b == 0 && p.c == 0))) := rfl
    rw [hnm] at hR
    cases hp : (p.k == 0 && (p.a == 0 && (p.b == 0 && p.c == 0))) with
    | false =>
      rw [hp] at hR; cases hR
      exact k_doG n l f w A _ f w A false (.inr rfl) (k_goneX n l f w A ⟨1, m, p⟩ h (.inr rfl) (.inl (by dsimp only; rw [hp]; rfl)))
    | true =>
      obtain rfl := nm_gZ hp
      cases hb : btw m 1 (A : Int) with
      | false =>
        simp only [hp, cond_true, if_true, hb, cond_false, if_neg (show ¬ (1 : Int) = 0 by decide)] at hR; cases hR
        exact k_doG n l f w A _ f w A false (.inr rfl) (k_goneX n l f w A ⟨1, m, gZ⟩ h (.inr rfl) (.inr hb))
      | true =>
        simp only [hp, cond_true, if_true, hb, if_neg (show ¬ (1 : Int) = 0 by decide)] at hR; cases hR
        have hb2 := btw_t hb
        obtain ⟨m, rfl⟩ : ∃ m' : Nat, m = (m' : Int) := ⟨m.toNat, by omega⟩
        have hG := k_goneB n l f w A m h (by omega)
        rw [show (A : Int) - (m : Int) = ((A - m : Nat) : Int) by omega] at hG
        exact k_doG n l f w A _ f _ _ true (.inr rfl) hG
  · have hnm : nmD ⟨2, m, p⟩ = (m == 0) := rfl
    rw [hnm] at hR
    cases hp : (m == 0) with
    | false =>
      rw [hp] at hR; cases hR
      exact k_doPf n l f w A m p h (.inl (by simpa using hp))
    | true =>
      obtain rfl : m = 0 := by simpa using hp
      cases hb : (gok n p && decide (l.length < 24)) with
      | false =>
        simp only [hp, cond_true, if_true, hb, cond_false, if_neg (show ¬ (2 : Int) = 0 by decide), if_neg (show ¬ (2 : Int) = 1 by decide)] at hR; cases hR
        refine k_doPf n l f w A 0 p h (.inr ?_)
        rw [Bool.and_eq_false_iff] at hb
        exact hb.imp id fun h => by have := of_decide_eq_false h; omega
      | true =>
        simp only [hp, cond_true, if_true, hb, if_neg (show ¬ (2 : Int) = 0 by decide), if_neg (show ¬ (2 : Int) = 1 by decide)] at hR; cases hR
        rw [Bool.and_eq_true, decide_eq_true_eq] at hb
        exact k_doP n l f w A p hb.2 h hb.1
  · cases hnm : nmD ⟨3, m, p⟩ with
    | false =>
      rw [hnm] at hR; cases hR
      exact k_doTf n l f w A m p h (.inl hnm)
    | true =>
      cases hb : decide (A < l.length) with
      | false =>
        simp only [hnm, cond_true, if_true, hb, cond_false, if_neg (show ¬ (3 : Int) = 0 by decide), if_neg (show ¬ (3 : Int) = 1 by decide), if_neg (show ¬ (3 : Int) = 2 by decide)] at hR; cases hR
        exact k_doTf n l f w A m p h (.inr (by have := of_decide_eq_false hb; omega))
      | true =>
        simp only [hnm, cond_true, if_true, hb, if_neg (show ¬ (3 : Int) = 0 by decide), if_neg (show ¬ (3 : Int) = 1 by decide), if_neg (show ¬ (3 : Int) = 2 by decide)] at hR; cases hR
        have e : nmD ⟨3, m, p⟩ = (m == 0 && (p.k == 0 && (p.a == 0 && (p.b == 0 && p.c == 0)))) := by simp [nmD]
        rw [e, Bool.and_eq_true] at hnm
        obtain rfl : m = 0 := by simpa using hnm.1
        obtain rfl := nm_gZ hnm.2
        exact k_doT n l f w A (of_decide_eq_true hb) h
  · have t1 : (l.take A).length = A := by rw [List.length_take]; omega
    have t2 : (l.drop A).length = l.length - A := List.length_drop
    have b1 := shr_len (l.take A).length (l.take A)
    have b2 := shr_len (l.drop A).length (l.drop A)
    have hB := k_shI n (l.take A) (all_take ha A) (by omega)
    have hC := k_shI n (l.drop A) (all_dropT ha A) (by omega)
    generalize shr (l.take A) (l.take A).length = B at *
    generalize shr (l.drop A) (l.drop A).length = C at *
    cases hnm : nmD ⟨4, m, p⟩ with
    | false =>
      rw [hnm] at hR; cases hR
      exact k_doSf n l f w A m p B C h hB hC (by omega) (.inl hnm)
    | true =>
      cases hb : decide (B.length + C.length = l.length) with
      | true =>
        simp only [hnm, cond_true, hb, if_neg (show ¬ (4 : Int) = 0 by decide), if_neg (show ¬ (4 : Int) = 1 by decide), if_neg (show ¬ (4 : Int) = 2 by decide), if_neg (show ¬ (4 : Int) = 3 by decide)] at hR; cases hR
        exact k_doSf n l f w A m p B C h hB hC (by omega) (.inr (of_decide_eq_true hb))
      | false =>
        simp only [hnm, cond_true, hb, cond_false, if_neg (show ¬ (4 : Int) = 0 by decide), if_neg (show ¬ (4 : Int) = 1 by decide), if_neg (show ¬ (4 : Int) = 2 by decide), if_neg (show ¬ (4 : Int) = 3 by decide)] at hR; cases hR
        exact k_doS n l f w A m p B C h hB hC (by omega) hnm (of_decide_eq_false hb)
theorem kn_doS {n : Int} {l l' : List Gt} {f w w' : Int} {A A' : Nat} {d : Dd} {ok : Bool} (h : bok n l f w A = true) (hR : doR n l w A d = ((l', w', A'), ok)) : Kon Try.prog 28 [bG n l f w (A : Int), dV d] [] (bT n l' f w' (A' : Int) ok) [gRow l'] [] := by
  obtain ⟨hc, hf, hA, hwe⟩ := bok_t h
  obtain ⟨hn, hl24, ha⟩ := cokB_t hc
  obtain ⟨k, m, p⟩ := d
  by_cases hk : k < 0 ∨ 4 < k
  · have hnm : nmD ⟨k, m, p⟩ = false := nm_X hk
    unfold doR doM at hR
    rw [hnm] at hR
    cases hR
    exact k_bdoN n l f w A _ (by omega) (by omega) h (k_namedX _ hk)
  have hN : Kon Try.prog 74 [dV ⟨k, m, p⟩] [] (vB (nmD ⟨k, m, p⟩)) [] [] := by
    obtain rfl | rfl | rfl | rfl | rfl : k = 0 ∨ k = 1 ∨ k = 2 ∨ k = 3 ∨ k = 4 := by omega
    · exact k_named0 _ rfl
    · exact k_named1 _ rfl
    · exact k_named2 _ rfl
    · exact k_named3 _ rfl
    · exact k_named4 _ rfl
  unfold doR doM at hR
  cases hnm : nmD ⟨k, m, p⟩ with
  | false =>
    rw [hnm] at hN hR
    cases hR
    exact k_bdoN n l f w A _ (by omega) (by omega) h hN
  | true =>
    rw [hnm] at hN
    obtain rfl | rfl | rfl | rfl | rfl : k = 0 ∨ k = 1 ∨ k = 2 ∨ k = 3 ∨ k = 4 := by omega
    · cases hb : btw m 1 ((l.length : Int) - A) with
      | false =>
        simp only [hnm, cond_true, if_true, hb, cond_false] at hR; cases hR
        exact k_bdo0f n l f w A m p h hN hb
      | true =>
        simp only [hnm, cond_true, if_true, hb] at hR; cases hR
        have hb2 := btw_t hb
        obtain ⟨m, rfl⟩ : ∃ m' : Nat, m = (m' : Int) := ⟨m.toNat, by omega⟩
        exact k_bdoF n l f w A m p (by omega) h hN (by omega)
    · cases hb : btw m 1 (A : Int) with
      | false =>
        simp only [hnm, cond_true, if_true, hb, cond_false, if_neg (show ¬ (1 : Int) = 0 by decide)] at hR; cases hR
        exact k_bdo1f n l f w A m p h hN hb
      | true =>
        simp only [hnm, cond_true, if_true, hb, if_neg (show ¬ (1 : Int) = 0 by decide)] at hR; cases hR
        have hb2 := btw_t hb
        obtain ⟨m, rfl⟩ : ∃ m' : Nat, m = (m' : Int) := ⟨m.toNat, by omega⟩
        have hG := k_bdoB n l f w A m p (by omega) h hN (by omega)
        rw [show (A : Int) - (m : Int) = ((A - m : Nat) : Int) by omega] at hG
        exact hG
    · have hm : m = 0 := by
        have e : nmD ⟨2, m, p⟩ = (m == 0) := rfl
        rw [e] at hnm; simpa using hnm
      subst hm
      cases hb : (gok n p && decide (l.length < 24)) with
      | false =>
        simp only [hnm, cond_true, if_true, hb, cond_false, if_neg (show ¬ (2 : Int) = 0 by decide), if_neg (show ¬ (2 : Int) = 1 by decide)] at hR; cases hR
        refine k_bdo2f n l f w A 0 p h hN ?_
        rw [Bool.and_eq_false_iff] at hb
        exact hb.imp id fun h => by have := of_decide_eq_false h; omega
      | true =>
        simp only [hnm, cond_true, if_true, hb, if_neg (show ¬ (2 : Int) = 0 by decide), if_neg (show ¬ (2 : Int) = 1 by decide)] at hR; cases hR
        rw [Bool.and_eq_true, decide_eq_true_eq] at hb
        have hG := k_bdoP n l f w A p hb.2 h hN hb.1
        rw [List.append_assoc] at hG
        exact hG
    · cases hb : decide (A < l.length) with
      | false =>
        simp only [hnm, cond_true, if_true, hb, cond_false, if_neg (show ¬ (3 : Int) = 0 by decide), if_neg (show ¬ (3 : Int) = 1 by decide), if_neg (show ¬ (3 : Int) = 2 by decide)] at hR; cases hR
        exact k_bdo3f n l f w A m p h hN (by have := of_decide_eq_false hb; omega)
      | true =>
        simp only [hnm, cond_true, if_true, hb, if_neg (show ¬ (3 : Int) = 0 by decide), if_neg (show ¬ (3 : Int) = 1 by decide), if_neg (show ¬ (3 : Int) = 2 by decide)] at hR; cases hR
        exact k_bdoT n l f w m A p (of_decide_eq_true hb) h hN
    · have t1 : (l.take A).length = A := by rw [List.length_take]; omega
      have t2 : (l.drop A).length = l.length - A := List.length_drop
      have b1 := shr_len (l.take A).length (l.take A)
      have b2 := shr_len (l.drop A).length (l.drop A)
      have hB := k_shortO n (l.take A) (by omega) (cokB_take hc A)
      have hC := k_shortO n (l.drop A) (by omega) (cokB_mk3 hn (by omega) (all_dropT ha A))
      generalize shr (l.take A) (l.take A).length = B at *
      generalize shr (l.drop A) (l.drop A).length = C at *
      cases hb : decide (B.length + C.length = l.length) with
      | true =>
        simp only [hnm, cond_true, hb, if_neg (show ¬ (4 : Int) = 0 by decide), if_neg (show ¬ (4 : Int) = 1 by decide), if_neg (show ¬ (4 : Int) = 2 by decide), if_neg (show ¬ (4 : Int) = 3 by decide)] at hR; cases hR
        exact k_bdoSf n l f w m A p B C h hN hB hC (by omega) (of_decide_eq_true hb)
      | false =>
        simp only [hnm, cond_true, hb, cond_false, if_neg (show ¬ (4 : Int) = 0 by decide), if_neg (show ¬ (4 : Int) = 1 by decide), if_neg (show ¬ (4 : Int) = 2 by decide), if_neg (show ¬ (4 : Int) = 3 by decide)] at hR; cases hR
        have hG := k_bdoSt n l f w m A p B C h hN hB hC (by omega) (of_decide_eq_false hb)
        rw [show (((B ++ C).length : Int) - (C.length : Int)) = (B.length : Int) by rw [List.length_append]; omega] at hG
        exact hG
end Go.Proofs.Yteagoafamjbpbaa

/- BenchRun of both sides. -/
namespace Go.Proofs.Yteagoafamjbpbaa
set_option linter.unusedVariables false
set_option linter.unusedSimpArgs false
set_option maxRecDepth 20000
open Go.RowKit
attribute [local irreducible] runA runX AW
def wsTK : WsT := (70, ([], true)) :: wsT
theorem gq_KMK {H G : Prop} (k : H) (h : Hid H → G := by (intro hh; (first | (first | ((first | refine r_none ?_ | refine r_gt (by rfl) (by rfl) (by first | rfl | assumption | omega | (simp only [*, Bool.not_false, Bool.not_true]; first | done | fail) | (simp [*]; first | done | fail)) (by rfl) ?_ | refine r_gf (by rfl) (by rfl) (by first | rfl | assumption | omega | (simp only [*, Bool.not_false, Bool.not_true]; first | done | fail) | (simp [*]; first | done | fail)) (by rfl) ?_); (first | fail | ((first | (refine z_op (by rfl) ?_; first | refine z_ok ?_ ?_ | refine z_ex ?_ (by first | exact ft_raw rfl rfl | ((first | refine ft_rp rfl rfl rfl ?_ | refine ft_row rfl rfl rfl ?_ | refine ft_rpF rfl rfl rfl ?_ | refine ft_rowF rfl rfl rfl ?_ | refine up_row rfl rfl ?_ | refine up_rowF rfl rfl rfl ?_ | refine ct_0 rfl ?_ | refine ct_r rfl rfl ?_ | refine ct_c rfl rfl rfl ?_ | refine cu_all rfl ?_ | refine cu_to rfl ?_ | refine cu_from rfl ?_ | refine cu_p rfl ?_ | fail); (first | omega | (simp only [List.length_append, List.length_replicate, List.length_cons, List.length_nil, List.length_set, List.length_take, List.length_drop, true_and]; omega))) | exact up_raw rfl | exact pk_t (by first | rfl | assumption | omega | (simp only [*, Bool.not_false, Bool.not_true]; first | done | fail) | (simp [*]; first | done | fail)) rfl | exact pk_f (by first | rfl | assumption | omega | (simp only [*, Bool.not_false, Bool.not_true]; first | done | fail) | (simp [*]; first | done | fail)) rfl | fail | exact rw_raw | exact pu_cv (fun w => rfl) (by omega) | exact pu_of (fun w => rfl) rfl | exact be_of (fun w => rfl) | exact nc_of (fun _ _ _ _ => rfl) rfl | exact bu_of (fun w => rfl) rfl | fail) ?_) | ((first | refine q_callE wsTK wsZ (by rfl) ?_ | refine q_callVE wsTK (by rfl) (by rfl) ?_); refine ⟨_, _, _, (by first | assumption | exact k_copyS _ _ _ _ _ (by omega)), _, by rfl, ?_, ?_⟩)); focus (first | exact trivial | fail | exact rfl | (first | omega | (simp only [List.length_append, List.length_replicate, List.length_cons, List.length_nil, List.length_set, List.length_take, List.length_drop, true_and]; omega)) | exact cvB (fun w => rfl) | ((repeat' (first | exact rfl | exact cV_len _ | exact cV_ln rfl (by omega) | exact Cel.pos | omega | exact trivial | refine And.intro ?_ ?_)); done) | (simp [*]; done) | (simp; omega))) | fail)) | refine r_nt (by rfl) (by rfl) (by first | rfl | assumption | omega | (simp only [*, Bool.not_false, Bool.not_true]; first | done | fail) | (simp [*]; first | done | fail)) (by rfl) ?_ | refine r_nf (by rfl) (by rfl) (by first | rfl | assumption | omega | (simp only [*, Bool.not_false, Bool.not_true]; first | done | fail) | (simp [*]; first | done | fail)) (by rfl) ?_ | refine r_gu (by rfl) (by rfl) (by rfl) ?_ | refine r_nil ?_) | (first | refine aw_seq ?_ | refine aw_ct (by rfl) (by first | rfl | assumption | omega | (simp only [*, Bool.not_false, Bool.not_true]; first | done | fail) | (simp [*]; first | done | fail)) ?_ | refine aw_cf (by rfl) (by first | rfl | assumption | omega | (simp only [*, Bool.not_false, Bool.not_true]; first | done | fail) | (simp [*]; first | done | fail)) ?_ | refine aw_block ?_ | refine aw_region T0ok cfU_ok (by rfl) ?_ | refine aw_skip ?_ | refine aw_exit ?_ | refine ra_step ?_)); (repeat (first | (first | ((first | refine r_none ?_ | refine r_gt (by rfl) (by rfl) (by first | rfl | assumption | omega | (simp only [*, Bool.not_false, Bool.not_true]; first | done | fail) | (simp [*]; first | done | fail)) (by rfl) ?_ | refine r_gf (by rfl) (by rfl) (by first | rfl | assumption | omega | (simp only [*, Bool.not_false, Bool.not_true]; first | done | fail) | (simp [*]; first | done | fail)) (by rfl) ?_); (first | fail | ((first | (refine z_op (by rfl) ?_; first | refine z_ok ?_ ?_ | refine z_ex ?_ (by first | exact ft_raw rfl rfl | ((first | refine ft_rp rfl rfl rfl ?_ | refine ft_row rfl rfl rfl ?_ | refine ft_rpF rfl rfl rfl ?_ | refine ft_rowF rfl rfl rfl ?_ | refine up_row rfl rfl ?_ | refine up_rowF rfl rfl rfl ?_ | refine ct_0 rfl ?_ | refine ct_r rfl rfl ?_ | refine ct_c rfl rfl rfl ?_ | refine cu_all rfl ?_ | refine cu_to rfl ?_ | refine cu_from rfl ?_ | refine cu_p rfl ?_ | fail); (first | omega | (simp only [List.length_append, List.length_replicate, List.length_cons, List.length_nil, List.length_set, List.length_take, List.length_drop, true_and]; omega))) | exact up_raw rfl | exact pk_t (by first | rfl | assumption | omega | (simp only [*, Bool.not_false, Bool.not_true]; first | done | fail) | (simp [*]; first | done | fail)) rfl | exact pk_f (by first | rfl | assumption | omega | (simp only [*, Bool.not_false, Bool.not_true]; first | done | fail) | (simp [*]; first | done | fail)) rfl | fail | exact rw_raw | exact pu_cv (fun w => rfl) (by omega) | exact pu_of (fun w => rfl) rfl | exact be_of (fun w => rfl) | exact nc_of (fun _ _ _ _ => rfl) rfl | exact bu_of (fun w => rfl) rfl | fail) ?_) | ((first | refine q_callE wsTK wsZ (by rfl) ?_ | refine q_callVE wsTK (by rfl) (by rfl) ?_); refine ⟨_, _, _, (by first | assumption | exact k_copyS _ _ _ _ _ (by omega)), _, by rfl, ?_, ?_⟩)); focus (first | exact trivial | fail | exact rfl | (first | omega | (simp only [List.length_append, List.length_replicate, List.length_cons, List.length_nil, List.length_set, List.length_take, List.length_drop, true_and]; omega)) | exact cvB (fun w => rfl) | ((repeat' (first | exact rfl | exact cV_len _ | exact cV_ln rfl (by omega) | exact Cel.pos | omega | exact trivial | refine And.intro ?_ ?_)); done) | (simp [*]; done) | (simp; omega))) | fail)) | refine r_nt (by rfl) (by rfl) (by first | rfl | assumption | omega | (simp only [*, Bool.not_false, Bool.not_true]; first | done | fail) | (simp [*]; first | done | fail)) (by rfl) ?_ | refine r_nf (by rfl) (by rfl) (by first | rfl | assumption | omega | (simp only [*, Bool.not_false, Bool.not_true]; first | done | fail) | (simp [*]; first | done | fail)) (by rfl) ?_ | refine r_gu (by rfl) (by rfl) (by rfl) ?_ | refine r_nil ?_) | (first | refine aw_seq ?_ | refine aw_ct (by rfl) (by first | rfl | assumption | omega | (simp only [*, Bool.not_false, Bool.not_true]; first | done | fail) | (simp [*]; first | done | fail)) ?_ | refine aw_cf (by rfl) (by first | rfl | assumption | omega | (simp only [*, Bool.not_false, Bool.not_true]; first | done | fail) | (simp [*]; first | done | fail)) ?_ | refine aw_block ?_ | refine aw_region T0ok cfU_ok (by rfl) ?_ | refine aw_skip ?_ | refine aw_exit ?_ | refine ra_step ?_))); exact hh.out)) : G := h ⟨k⟩
theorem ga_KMK {H G : Prop} (k : H) (h : Hid H → G := by (intro hh; (first | refine r_none ?_ | refine r_gt (by rfl) (by rfl) (by first | rfl | assumption | omega | (simp only [*, Bool.not_false, Bool.not_true]; first | done | fail) | (simp [*]; first | done | fail)) (by rfl) ?_ | refine r_gf (by rfl) (by rfl) (by first | rfl | assumption | omega | (simp only [*, Bool.not_false, Bool.not_true]; first | done | fail) | (simp [*]; first | done | fail)) (by rfl) ?_); refine z_op (by rfl) ?_; refine z_al ?_ hh.out; focus (first | exact trivial | fail | exact rfl | (first | omega | (simp only [List.length_append, List.length_replicate, List.length_cons, List.length_nil, List.length_set, List.length_take, List.length_drop, true_and]; omega)) | exact cvB (fun w => rfl) | ((repeat' (first | exact rfl | exact cV_len _ | exact cV_ln rfl (by omega) | exact Cel.pos | omega | exact trivial | refine And.intro ?_ ?_)); done) | (simp [*]; done) | (simp; omega)))) : G := h ⟨k⟩
theorem gs_KMK {H G : Prop} (k : H) (h : Hid H → G := by (intro hh; (first | ((first | refine r_none ?_ | refine r_gt (by rfl) (by rfl) (by first | rfl | assumption | omega | (simp only [*, Bool.not_false, Bool.not_true]; first | done | fail) | (simp [*]; first | done | fail)) (by rfl) ?_ | refine r_gf (by rfl) (by rfl) (by first | rfl | assumption | omega | (simp only [*, Bool.not_false, Bool.not_true]; first | done | fail) | (simp [*]; first | done | fail)) (by rfl) ?_); (first | fail | ((first | (refine z_op (by rfl) ?_; first | refine z_ok ?_ ?_ | refine z_ex ?_ (by first | exact ft_raw rfl rfl | ((first | refine ft_rp rfl rfl rfl ?_ | refine ft_row rfl rfl rfl ?_ | refine ft_rpF rfl rfl rfl ?_ | refine ft_rowF rfl rfl rfl ?_ | refine up_row rfl rfl ?_ | refine up_rowF rfl rfl rfl ?_ | refine ct_0 rfl ?_ | refine ct_r rfl rfl ?_ | refine ct_c rfl rfl rfl ?_ | refine cu_all rfl ?_ | refine cu_to rfl ?_ | refine cu_from rfl ?_ | refine cu_p rfl ?_ | fail); (first | omega | (simp only [List.length_append, List.length_replicate, List.length_cons, List.length_nil, List.length_set, List.length_take, List.length_drop, true_and]; omega))) | exact up_raw rfl | exact pk_t (by first | rfl | assumption | omega | (simp only [*, Bool.not_false, Bool.not_true]; first | done | fail) | (simp [*]; first | done | fail)) rfl | exact pk_f (by first | rfl | assumption | omega | (simp only [*, Bool.not_false, Bool.not_true]; first | done | fail) | (simp [*]; first | done | fail)) rfl | fail | exact rw_raw | exact pu_cv (fun w => rfl) (by omega) | exact pu_of (fun w => rfl) rfl | exact be_of (fun w => rfl) | exact nc_of (fun _ _ _ _ => rfl) rfl | exact bu_of (fun w => rfl) rfl | fail) ?_) | ((first | refine q_callE wsTK wsZ (by rfl) ?_ | refine q_callVE wsTK (by rfl) (by rfl) ?_); refine ⟨_, _, _, (by first | assumption | exact k_copyS _ _ _ _ _ (by omega)), _, by rfl, ?_, ?_⟩)); focus (first | exact trivial | fail | exact rfl | (first | omega | (simp only [List.length_append, List.length_replicate, List.length_cons, List.length_nil, List.length_set, List.length_take, List.length_drop, true_and]; omega)) | exact cvB (fun w => rfl) | ((repeat' (first | exact rfl | exact cV_len _ | exact cV_ln rfl (by omega) | exact Cel.pos | omega | exact trivial | refine And.intro ?_ ?_)); done) | (simp [*]; done) | (simp; omega))) | fail)) | refine r_nt (by rfl) (by rfl) (by first | rfl | assumption | omega | (simp only [*, Bool.not_false, Bool.not_true]; first | done | fail) | (simp [*]; first | done | fail)) (by rfl) ?_ | refine r_nf (by rfl) (by rfl) (by first | rfl | assumption | omega | (simp only [*, Bool.not_false, Bool.not_true]; first | done | fail) | (simp [*]; first | done | fail)) (by rfl) ?_ | refine r_gu (by rfl) (by rfl) (by rfl) ?_ | refine r_nil ?_); (repeat (first | ((first | refine r_none ?_ | refine r_gt (by rfl) (by rfl) (by first | rfl | assumption | omega | (simp only [*, Bool.not_false, Bool.not_true]; first | done | fail) | (simp [*]; first | done | fail)) (by rfl) ?_ | refine r_gf (by rfl) (by rfl) (by first | rfl | assumption | omega | (simp only [*, Bool.not_false, Bool.not_true]; first | done | fail) | (simp [*]; first | done | fail)) (by rfl) ?_); (first | fail | ((first | (refine z_op (by rfl) ?_; first | refine z_ok ?_ ?_ | refine z_ex ?_ (by first | exact ft_raw rfl rfl | ((first | refine ft_rp rfl rfl rfl ?_ | refine ft_row rfl rfl rfl ?_ | refine ft_rpF rfl rfl rfl ?_ | refine ft_rowF rfl rfl rfl ?_ | refine up_row rfl rfl ?_ | refine up_rowF rfl rfl rfl ?_ | refine ct_0 rfl ?_ | refine ct_r rfl rfl ?_ | refine ct_c rfl rfl rfl ?_ | refine cu_all rfl ?_ | refine cu_to rfl ?_ | refine cu_from rfl ?_ | refine cu_p rfl ?_ | fail); (first | omega | (simp only [List.length_append, List.length_replicate, List.length_cons, List.length_nil, List.length_set, List.length_take, List.length_drop, true_and]; omega))) | exact up_raw rfl | exact pk_t (by first | rfl | assumption | omega | (simp only [*, Bool.not_false, Bool.not_true]; first | done | fail) | (simp [*]; first | done | fail)) rfl | exact pk_f (by first | rfl | assumption | omega | (simp only [*, Bool.not_false, Bool.not_true]; first | done | fail) | (simp [*]; first | done | fail)) rfl | fail | exact rw_raw | exact pu_cv (fun w => rfl) (by omega) | exact pu_of (fun w => rfl) rfl | exact be_of (fun w => rfl) | exact nc_of (fun _ _ _ _ => rfl) rfl | exact bu_of (fun w => rfl) rfl | fail) ?_) | ((first | refine q_callE wsTK wsZ (by rfl) ?_ | refine q_callVE wsTK (by rfl) (by rfl) ?_); refine ⟨_, _, _, (by first | assumption | exact k_copyS _ _ _ _ _ (by omega)), _, by rfl, ?_, ?_⟩)); focus (first | exact trivial | fail | exact rfl | (first | omega | (simp only [List.length_append, List.length_replicate, List.length_cons, List.length_nil, List.length_set, List.length_take, List.length_drop, true_and]; omega)) | exact cvB (fun w => rfl) | ((repeat' (first | exact rfl | exact cV_len _ | exact cV_ln rfl (by omega) | exact Cel.pos | omega | exact trivial | refine And.intro ?_ ?_)); done) | (simp [*]; done) | (simp; omega))) | fail)) | refine r_nt (by rfl) (by rfl) (by first | rfl | assumption | omega | (simp only [*, Bool.not_false, Bool.not_true]; first | done | fail) | (simp [*]; first | done | fail)) (by rfl) ?_ | refine r_nf (by rfl) (by rfl) (by first | rfl | assumption | omega | (simp only [*, Bool.not_false, Bool.not_true]; first | done | fail) | (simp [*]; first | done | fail)) (by rfl) ?_ | refine r_gu (by rfl) (by rfl) (by rfl) ?_ | refine r_nil ?_)); exact hh.out)) : G := h ⟨k⟩
theorem gc_KMK {H G : Prop} (k : H) (h : Hid H → G := by (intro hh; (first | refine aw_seq ?_ | refine aw_ct (by rfl) (by first | rfl | assumption | omega | (simp only [*, Bool.not_false, Bool.not_true]; first | done | fail) | (simp [*]; first | done | fail)) ?_ | refine aw_cf (by rfl) (by first | rfl | assumption | omega | (simp only [*, Bool.not_false, Bool.not_true]; first | done | fail) | (simp [*]; first | done | fail)) ?_ | refine aw_block ?_ | refine aw_region T0ok cfU_ok (by rfl) ?_ | refine aw_skip ?_ | refine aw_exit ?_ | refine ra_step ?_); (repeat (first | refine aw_seq ?_ | refine aw_ct (by rfl) (by first | rfl | assumption | omega | (simp only [*, Bool.not_false, Bool.not_true]; first | done | fail) | (simp [*]; first | done | fail)) ?_ | refine aw_cf (by rfl) (by first | rfl | assumption | omega | (simp only [*, Bool.not_false, Bool.not_true]; first | done | fail) | (simp [*]; first | done | fail)) ?_ | refine aw_block ?_ | refine aw_region T0ok cfU_ok (by rfl) ?_ | refine aw_skip ?_ | refine aw_exit ?_ | refine ra_step ?_)); exact hh.out)) : G := h ⟨k⟩
abbrev BS := List Gt × Int × Nat
def stp (n : Int) (s : BS × Nat) (d : Dd) : BS × Nat := ((doR n s.1.1 s.1.2.1 s.1.2.2 d).1, if (doR n s.1.1 s.1.2.1 s.1.2.2 d).2 then s.2 + 1 else s.2)
def runM (n : Int) (s : BS × Nat) (ds : List Dd) : BS × Nat := ds.foldl (stp n) s
theorem runM_drop {n : Int} {s : BS × Nat} {ds : List Dd} {i : Nat} (h : i < ds.length) : runM n s (ds.drop i) = runM n (stp n s (ds.getD i Cel.no)) (ds.drop (i + 1)) := by
  have e : ds.getD i Cel.no = ds[i] := by simp [List.getD_eq_getElem?_getD, h]
  rw [List.drop_eq_getElem_cons h, e]; rfl
theorem doR_no {n : Int} {l l' : List Gt} {w w' : Int} {A A' : Nat} {d : Dd} (h : doR n l w A d = ((l', w', A'), false)) : l' = l ∧ w' = w ∧ A' = A := by
  unfold doR at h
  split at h
  · cases h
  · cases h; exact ⟨rfl, rfl, rfl⟩
theorem bs_inj {n : Int} {l l' : List Gt} {w w' : Int} {A A' q m : Nat} (h : runM n ((l, w, A), q) [] = ((l', w', A'), m)) : l = l' ∧ w = w' ∧ A = A' ∧ q = m := by
  have h2 : (((l, w, A), q) : BS × Nat) = ((l', w', A'), m) := h
  cases h2
  exact ⟨rfl, rfl, rfl, rfl⟩
theorem stp_le (n : Int) (s : BS × Nat) (d : Dd) : (stp n s d).2 ≤ s.2 + 1 := by
  unfold stp; dsimp only; split <;> omega
abbrev bCr (n : Int) (l : List Gt) (f w a : Int) : List AC := [.v (.int .i64 n), roG l, .v (.int .i64 f), .v (.int .i64 w), .v (.int .i64 a)]
abbrev bN (n : Int) (l : List Gt) (f w a : Int) (m : Int) : AV := .tup [.agg [.v (.int .i64 n), .sl 0 0 l.length, .v (.int .i64 f), .v (.int .i64 w), .v (.int .i64 a)], .one (.v (.int .i64 m))]
abbrev bN0 : AV := .tup [.agg [.v (.int .i64 0), .v (.slice none 0 0), .v (.int .i64 0), .v (.int .i64 0), .v (.int .i64 0)], .one (.v (.int .i64 0))]
theorem k_brI0 (n : Int) (l : List Gt) (f w a : Int) (ds : List Dd) (hl : l.length ≤ 10000000) (hr : -9223372036854775808 ≤ n ∧ n ≤ 9223372036854775807) (h : bok n l f w a = false ∨ 40 < ds.length) (hdl : ds.length ≤ 10000000) : Kon Try.prog 25 [bG n l f w a, roA ds] [] bN0 [] [] := by
  have hB := k_bv n l f w a (by omega) hr
  cases hb : bok n l f w a with
  | false =>
    rw [hb] at hB
    (refine kon_mk T0ok (fn := Try.f25) (c := Try.f25.body.get rfl) Try.func25 rfl (by rfl) (by rfl) (by rfl) ?_; intro hfit hfe)
    (repeat (first | refine gq_KMK ?_ | (refine ga_KMK ?_; intro _q ⟨_he, _hq⟩)))
    ((try refine aw_ret ?_); refine ret_auto2 (by rfl) (by rfl) (by rfl) (by repeat (first | exact trivial | refine ⟨by first | rfl | omega, ?_⟩)) ?_ (by repeat (first | exact trivial | refine ⟨by rfl, by rfl, ?_⟩)) (by repeat (first | exact trivial | refine ⟨by rfl, by rfl, ?_⟩)); try rfl)
  | true =>
    rw [hb] at hB
    have hd : decide ((ds.length : Int) > 40) = true := decide_eq_true (by
      rcases h with h | h
      · rw [hb] at h; cases h
      · omega)
    (refine kon_mk T0ok (fn := Try.f25) (c := Try.f25.body.get rfl) Try.func25 rfl (by rfl) (by rfl) (by rfl) ?_; intro hfit hfe)
    (repeat (first | refine gq_KMK ?_ | (refine ga_KMK ?_; intro _q ⟨_he, _hq⟩)))
    ((try refine aw_ret ?_); refine ret_auto2 (by rfl) (by rfl) (by rfl) (by repeat (first | exact trivial | refine ⟨by first | rfl | omega, ?_⟩)) ?_ (by repeat (first | exact trivial | refine ⟨by rfl, by rfl, ?_⟩)) (by repeat (first | exact trivial | refine ⟨by rfl, by rfl, ?_⟩)); try rfl)
theorem k_brS0 (n : Int) (l : List Gt) (f w a : Int) (ds : List Dd) (hl : l.length ≤ 10000000) (hr : -9223372036854775808 ≤ n ∧ n ≤ 9223372036854775807) (h : bok n l f w a = false ∨ 40 < ds.length) (hdl : ds.length ≤ 10000000) : Kon Try.prog 37 [bG n l f w a, roA ds] [] bN0 [] [] := by
  have hB := k_bvS n l f w a (by omega) hr
  cases hb : bok n l f w a with
  | false =>
    rw [hb] at hB
    (refine kon_mk T0ok (fn := Try.f37) (c := Try.f37.body.get rfl) Try.func37 rfl (by rfl) (by rfl) (by rfl) ?_; intro hfit hfe)
    (repeat (first | refine gq_KMK ?_ | (refine ga_KMK ?_; intro _q ⟨_he, _hq⟩)))
    ((try refine aw_ret ?_); refine ret_auto2 (by rfl) (by rfl) (by rfl) (by repeat (first | exact trivial | refine ⟨by first | rfl | omega, ?_⟩)) ?_ (by repeat (first | exact trivial | refine ⟨by rfl, by rfl, ?_⟩)) (by repeat (first | exact trivial | refine ⟨by rfl, by rfl, ?_⟩)); try rfl)
  | true =>
    rw [hb] at hB
    have hd : decide ((ds.length : Int) > 40) = true := decide_eq_true (by
      rcases h with h | h
      · rw [hb] at h; cases h
      · omega)
    (refine kon_mk T0ok (fn := Try.f37) (c := Try.f37.body.get rfl) Try.func37 rfl (by rfl) (by rfl) (by rfl) ?_; intro hfit hfe)
    (repeat (first | refine gq_KMK ?_ | (refine ga_KMK ?_; intro _q ⟨_he, _hq⟩)))
    ((try refine aw_ret ?_); refine ret_auto2 (by rfl) (by rfl) (by rfl) (by repeat (first | exact trivial | refine ⟨by first | rfl | omega, ?_⟩)) ?_ (by repeat (first | exact trivial | refine ⟨by rfl, by rfl, ?_⟩)) (by repeat (first | exact trivial | refine ⟨by rfl, by rfl, ?_⟩)); try rfl)
set_option maxHeartbeats 4000000 in
theorem kn_brI {n : Int} {l l' : List Gt} {f w w' : Int} {A A' m : Nat} {ds : List Dd} (h : bok n l f w A = true) (hdl : ds.length ≤ 40) (hR : runM n ((l, w, A), 0) ds = ((l', w', A'), m)) : Kon Try.prog 25 [bG n l f w (A : Int), roA ds] [] (bN n l' f w' (A' : Int) (m : Int)) [gRow l'] [] := by
  have hn := (cokB_t (bok_t h).1).1
  have hl := (cokB_t (bok_t h).1).2.1
  have hB := k_bv n l f w A (by omega) (by omega)
  rw [h] at hB
  have hd40 : decide ((ds.length : Int) > 40) = false := decide_eq_false (by omega)
  (refine kon_mk T0ok (fn := Try.f25) (c := Try.f25.body.get rfl) Try.func25 rfl (by rfl) (by rfl) (by rfl) ?_; intro hfit hfe)
  (repeat (first | refine gq_KMK ?_ | (refine ga_KMK ?_; intro _q ⟨_he, _hq⟩)))
  (refine aw_rd [0, 1, 2, 4, 20, 21] [64] (fun g : (BS × Nat) × Nat => [(6, vI (g.1.2 : Int)), (22, vI (g.2 : Int))]) (fun g => [(32, (0, .box (bCr n g.1.1.1 f g.1.1.2.1 (g.1.1.2.2 : Int))))]) (fun g => g.2 ≤ ds.length ∧ g.1.2 ≤ g.2 ∧ bok n g.1.1.1 f g.1.1.2.1 (g.1.1.2.2 : Int) = true ∧ runM n g.1 (ds.drop g.2) = ((l', w', A'), m)) (fun g => ds.length - g.2) (((l, w, A), 0), 0) (by rfl) (by rfl) ?_ (by rfl) (by repeat (first | exact trivial | refine ⟨by rfl, ?_⟩ | refine ⟨vI_of (by rfl) (by omega), ?_⟩)) (by repeat (first | exact trivial | refine ⟨by rfl, ?_⟩ | refine ⟨vI_of (by rfl) (by omega), ?_⟩)) ?_)
  · exact ⟨Nat.zero_le _, Nat.le_refl _, h, hR⟩
  rintro ⟨⟨⟨x, v, B⟩, q⟩, i⟩ ⟨hi, hq, hb, hz⟩
  dsimp only at hi hq hb hz ⊢
  rcases Nat.lt_or_ge i ds.length with h5 | h5
  · have hd : decide ((i : Int) < (ds.length : Int)) = true := decide_eq_true (by omega)
    rw [runM_drop h5] at hz
    obtain ⟨d, hde⟩ : ∃ d, ds.getD i Cel.no = d := ⟨_, rfl⟩
    rw [hde] at hz
    rcases hr2 : doR n x v B d with ⟨⟨x2, v2, B2⟩, ok⟩
    have hD := kn_doI hb hr2
    have hb2 := doR_ok hb hr2
    have hdn : ds.getD (i : Int).toNat Cel.no = d := hde
    cases ok with
    | true =>
      have es : stp n ((x, v, B), q) d = ((x2, v2, B2), q + 1) := by unfold stp; dsimp only; rw [hr2]; rfl
      rw [es] at hz
      have hinv : i + 1 ≤ ds.length ∧ q + 1 ≤ i + 1 ∧ bok n x2 f v2 (B2 : Int) = true ∧ runM n ((x2, v2, B2), q + 1) (ds.drop (i + 1)) = ((l', w', A'), m) := ⟨h5, by omega, hb2, hz⟩
      clear hz es hR hde hr2
      (repeat (first | refine gq_KMK ?_ | (refine ga_KMK ?_; intro _q ⟨_he, _hq⟩)))
      rw [show ds.getD (i : Int).toNat Cel.no = d from hdn]
      (repeat (first | refine gq_KMK ?_ | (refine ga_KMK ?_; intro _q ⟨_he, _hq⟩)))
      exact ⟨(((x2, v2, B2), q + 1), i + 1), hinv, ⟨by rfl, (by repeat (first | exact trivial | refine ⟨by rfl, ?_⟩ | refine ⟨vI_of (by rfl) (by omega), ?_⟩)), (by repeat (first | exact trivial | refine ⟨by rfl, ?_⟩ | refine ⟨vI_of (by rfl) (by omega), ?_⟩))⟩, (by first | omega | (dsimp only; omega))⟩
    | false =>
      have es : stp n ((x, v, B), q) d = ((x2, v2, B2), q) := by unfold stp; dsimp only; rw [hr2]; rfl
      rw [es] at hz
      obtain ⟨e1, e2, e3⟩ := doR_no hr2
      subst e1
      subst e2
      subst e3
      have hinv : i + 1 ≤ ds.length ∧ q ≤ i + 1 ∧ bok n x2 f v2 (B2 : Int) = true ∧ runM n ((x2, v2, B2), q) (ds.drop (i + 1)) = ((l', w', A'), m) := ⟨h5, by omega, hb2, hz⟩
      clear hz es hR hde hr2
      (repeat (first | refine gq_KMK ?_ | (refine ga_KMK ?_; intro _q ⟨_he, _hq⟩)))
      rw [show ds.getD (i : Int).toNat Cel.no = d from hdn]
      (repeat (first | refine gq_KMK ?_ | (refine ga_KMK ?_; intro _q ⟨_he, _hq⟩)))
      exact ⟨(((x2, v2, B2), q), i + 1), hinv, ⟨by rfl, (by repeat (first | exact trivial | refine ⟨by rfl, ?_⟩ | refine ⟨vI_of (by rfl) (by omega), ?_⟩)), (by repeat (first | exact trivial | refine ⟨by rfl, ?_⟩ | refine ⟨vI_of (by rfl) (by omega), ?_⟩))⟩, (by first | omega | (dsimp only; omega))⟩
  · have hd : decide ((i : Int) < (ds.length : Int)) = false := decide_eq_false (by omega)
    obtain rfl : i = ds.length := by omega
    rw [List.drop_length] at hz
    obtain ⟨e1, e2, e3, e4⟩ := bs_inj hz
    subst e1
    subst e2
    subst e3
    subst e4
    have hx := (cokB_t (bok_t hb).1).2.1
    have hBx := (bok_t hb).2.2.1
    have hC := k_copyO n x f v B (by omega)
    clear hz hR
    (repeat (first | refine gq_KMK ?_ | (refine ga_KMK ?_; intro _q ⟨_he, _hq⟩)))
    ((try refine aw_ret ?_); refine ret_auto2 (by rfl) (by rfl) (by rfl) (by repeat (first | exact trivial | refine ⟨by first | rfl | omega, ?_⟩)) ?_ (by repeat (first | exact trivial | refine ⟨by rfl, by rfl, ?_⟩)) (by repeat (first | exact trivial | refine ⟨by rfl, by rfl, ?_⟩)); try rfl)
set_option maxHeartbeats 4000000 in
theorem kn_brS {n : Int} {l l' : List Gt} {f w w' : Int} {A A' m : Nat} {ds : List Dd} (h : bok n l f w A = true) (hdl : ds.length ≤ 40) (hR : runM n ((l, w, A), 0) ds = ((l', w', A'), m)) : Kon Try.prog 37 [bG n l f w (A : Int), roA ds] [] (.tup [.agg (bCr n l' f w' (A' : Int)), .one (.v (.int .i64 (m : Int)))]) [] [] := by
  have hn := (cokB_t (bok_t h).1).1
  have hl := (cokB_t (bok_t h).1).2.1
  have hB := k_bvS n l f w A (by omega) (by omega)
  rw [h] at hB
  have hd40 : decide ((ds.length : Int) > 40) = false := decide_eq_false (by omega)
  (refine kon_mk T0ok (fn := Try.f37) (c := Try.f37.body.get rfl) Try.func37 rfl (by rfl) (by rfl) (by rfl) ?_; intro hfit hfe)
  (repeat refine gc_KMK ?_)
  (repeat (first | refine gs_KMK ?_ | (refine ga_KMK ?_; intro _q ⟨_he, _hq⟩)))
  (repeat refine gc_KMK ?_)
  (repeat (first | refine gs_KMK ?_ | (refine ga_KMK ?_; intro _q ⟨_he, _hq⟩)))
  (repeat refine gc_KMK ?_)
  (repeat (first | refine gs_KMK ?_ | (refine ga_KMK ?_; intro _q ⟨_he, _hq⟩)))
  (refine aw_freeze 336 (by rfl) (by rfl) ?_; refine aw_box 96 1 (by rfl) (by rfl) (by first | exact trivial | ((repeat' (first | exact rfl | exact cV_len _ | exact cV_ln rfl (by omega) | exact Cel.pos | omega | exact trivial | refine And.intro ?_ ?_)); first | done | fail)) (by rfl) ?_)
  (repeat (first | refine gq_KMK ?_ | (refine ga_KMK ?_; intro _q ⟨_he, _hq⟩)))
  (refine aw_rd [0, 1, 4, 6] [64] (fun g : (BS × Nat) × Nat => [(7, vI (g.1.2 : Int)), (8, vI (g.2 : Int))]) (fun g => [(96, (0, .box (bCr n g.1.1.1 f g.1.1.2.1 (g.1.1.2.2 : Int))))]) (fun g => g.2 ≤ ds.length ∧ g.1.2 ≤ g.2 ∧ bok n g.1.1.1 f g.1.1.2.1 (g.1.1.2.2 : Int) = true ∧ runM n g.1 (ds.drop g.2) = ((l', w', A'), m)) (fun g => ds.length - g.2) (((l, w, A), 0), 0) (by rfl) (by rfl) ?_ (by rfl) (by repeat (first | exact trivial | refine ⟨by rfl, ?_⟩ | refine ⟨vI_of (by rfl) (by omega), ?_⟩)) (by repeat (first | exact trivial | refine ⟨by rfl, ?_⟩ | refine ⟨vI_of (by rfl) (by omega), ?_⟩)) ?_)
  · exact ⟨Nat.zero_le _, Nat.le_refl _, h, hR⟩
  rintro ⟨⟨⟨x, v, B⟩, q⟩, i⟩ ⟨hi, hq, hb, hz⟩
  dsimp only at hi hq hb hz ⊢
  rcases Nat.lt_or_ge i ds.length with h5 | h5
  · have hd : decide ((i : Int) < (ds.length : Int)) = true := decide_eq_true (by omega)
    rw [runM_drop h5] at hz
    obtain ⟨d, hde⟩ : ∃ d, ds.getD i Cel.no = d := ⟨_, rfl⟩
    rw [hde] at hz
    rcases hr2 : doR n x v B d with ⟨⟨x2, v2, B2⟩, ok⟩
    have hD := kn_doS hb hr2
    have hb2 := doR_ok hb hr2
    have hdn : ds.getD (i : Int).toNat Cel.no = d := hde
    rw [← hdn] at hD
    cases ok with
    | true =>
      have es : stp n ((x, v, B), q) d = ((x2, v2, B2), q + 1) := by unfold stp; dsimp only; rw [hr2]; rfl
      rw [es] at hz
      have hinv : i + 1 ≤ ds.length ∧ q + 1 ≤ i + 1 ∧ bok n x2 f v2 (B2 : Int) = true ∧ runM n ((x2, v2, B2), q + 1) (ds.drop (i + 1)) = ((l', w', A'), m) := ⟨h5, by omega, hb2, hz⟩
      clear hz es hR hde hr2
      (repeat (first | refine gq_KMK ?_ | (refine ga_KMK ?_; intro _q ⟨_he, _hq⟩)))
      (refine aw_draw mixed T0ok cfU_ok [(544, [5, 10]), (144, [9, 10])] (by rfl) (by kernel_rfl) ?_)
      (repeat (first | refine gs_KMK ?_ | (refine ga_KMK ?_; intro _q ⟨_he, _hq⟩)))
      (refine aw_freeze 544 (by rfl) (by rfl) ?_; refine aw_box 144 1 (by rfl) (by rfl) (by first | exact trivial | ((repeat' (first | exact rfl | exact cV_len _ | exact cV_ln rfl (by omega) | exact Cel.pos | omega | exact trivial | refine And.intro ?_ ?_)); first | done | fail)) (by rfl) ?_)
      (repeat (first | refine gq_KMK ?_ | (refine ga_KMK ?_; intro _q ⟨_he, _hq⟩)))
      exact ⟨(((x2, v2, B2), q + 1), i + 1), hinv, ⟨by rfl, (by repeat (first | exact trivial | refine ⟨by rfl, ?_⟩ | refine ⟨vI_of (by rfl) (by omega), ?_⟩)), (by repeat (first | exact trivial | refine ⟨by rfl, ?_⟩ | refine ⟨vI_of (by rfl) (by omega), ?_⟩))⟩, (by first | omega | (dsimp only; omega))⟩
    | false =>
      have es : stp n ((x, v, B), q) d = ((x2, v2, B2), q) := by unfold stp; dsimp only; rw [hr2]; rfl
      rw [es] at hz
      obtain ⟨e1, e2, e3⟩ := doR_no hr2
      subst e1
      subst e2
      subst e3
      have hinv : i + 1 ≤ ds.length ∧ q ≤ i + 1 ∧ bok n x2 f v2 (B2 : Int) = true ∧ runM n ((x2, v2, B2), q) (ds.drop (i + 1)) = ((l', w', A'), m) := ⟨h5, by omega, hb2, hz⟩
      clear hz es hR hde hr2
      (repeat (first | refine gq_KMK ?_ | (refine ga_KMK ?_; intro _q ⟨_he, _hq⟩)))
      (refine aw_draw mixed T0ok cfU_ok [(544, [5, 10]), (144, [9, 10])] (by rfl) (by kernel_rfl) ?_)
      (repeat (first | refine gs_KMK ?_ | (refine ga_KMK ?_; intro _q ⟨_he, _hq⟩)))
      (refine aw_freeze 544 (by rfl) (by rfl) ?_; refine aw_box 144 1 (by rfl) (by rfl) (by first | exact trivial | ((repeat' (first | exact rfl | exact cV_len _ | exact cV_ln rfl (by omega) | exact Cel.pos | omega | exact trivial | refine And.intro ?_ ?_)); first | done | fail)) (by rfl) ?_)
      (repeat (first | refine gq_KMK ?_ | (refine ga_KMK ?_; intro _q ⟨_he, _hq⟩)))
      exact ⟨(((x2, v2, B2), q), i + 1), hinv, ⟨by rfl, (by repeat (first | exact trivial | refine ⟨by rfl, ?_⟩ | refine ⟨vI_of (by rfl) (by omega), ?_⟩)), (by repeat (first | exact trivial | refine ⟨by rfl, ?_⟩ | refine ⟨vI_of (by rfl) (by omega), ?_⟩))⟩, (by first | omega | (dsimp only; omega))⟩
  · have hd : decide ((i : Int) < (ds.length : Int)) = false := decide_eq_false (by omega)
    obtain rfl : i = ds.length := by omega
    rw [List.drop_length] at hz
    obtain ⟨e1, e2, e3, e4⟩ := bs_inj hz
    subst e1
    subst e2
    subst e3
    subst e4
    clear hz hR
    (repeat (first | refine gq_KMK ?_ | (refine ga_KMK ?_; intro _q ⟨_he, _hq⟩)))
    ((try refine aw_ret ?_); refine ret_auto2 (by rfl) (by rfl) (by rfl) (by repeat (first | exact trivial | refine ⟨by first | rfl | omega, ?_⟩)) ?_ (by repeat (first | exact trivial | refine ⟨by rfl, by rfl, ?_⟩)) (by repeat (first | exact trivial | refine ⟨by rfl, by rfl, ?_⟩)); try rfl)
end Go.Proofs.Yteagoafamjbpbaa
