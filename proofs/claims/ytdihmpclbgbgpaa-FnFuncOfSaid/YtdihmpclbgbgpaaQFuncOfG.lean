/- KNC, KND, KNE, KBL, KGR, KGP, KDL, KGQ, KBM: laid into one text. -/
import Derived.Test.YtdihmpclbgbgpaaQFuncOfF
import Derived.RangeFuncNested
import Derived.RangeFuncBox
import Derived.RangeFuncLeaves
import Derived.Shelf.Abstract
import Derived.WalkKit
import Derived.OwnWalkIn
import Derived.TacticsInMore
import Derived.LoopNIn
import Derived.LoopIn
import Derived.Maps.AppendAt
import Derived.ChangeKeysEq

/- Formulas: the node of a step, and its bit. -/
namespace Go.Proofs.Ytdihmpclbgbgpaa
set_option linter.unusedVariables false
set_option linter.unusedSimpArgs false
set_option maxRecDepth 20000
open Go.RowKit
attribute [local irreducible] runA runX AW
theorem gq_KNC {H G : Prop} (k : H) (h : Hid H → G := by (intro hh; (first | (first | ((first | refine r_none ?_ | refine r_gt (by rfl) (by rfl) (by first | rfl | assumption | omega | (simp only [*, Bool.not_false, Bool.not_true]; first | done | fail) | (simp [*]; first | done | fail)) (by rfl) ?_ | refine r_gf (by rfl) (by rfl) (by first | rfl | assumption | omega | (simp only [*, Bool.not_false, Bool.not_true]; first | done | fail) | (simp [*]; first | done | fail)) (by rfl) ?_); (first | fail | ((first | (refine z_op (by rfl) ?_; first | refine z_ok ?_ ?_ | refine z_ex ?_ (by first | exact ft_raw rfl rfl | ((first | refine ft_rp rfl rfl rfl ?_ | refine ft_row rfl rfl rfl ?_ | refine ft_rpF rfl rfl rfl ?_ | refine ft_rowF rfl rfl rfl ?_ | refine up_row rfl rfl ?_ | refine up_rowF rfl rfl rfl ?_ | refine ct_0 rfl ?_ | refine ct_r rfl rfl ?_ | refine ct_c rfl rfl rfl ?_ | refine cu_all rfl ?_ | refine cu_to rfl ?_ | refine cu_from rfl ?_ | refine cu_p rfl ?_ | (first | refine mk_c Int rfl rfl rfl ?_ | refine mk_0 Int rfl rfl ?_)); (first | omega | (simp only [List.length_append, List.length_replicate, List.length_cons, List.length_nil, List.length_set, List.length_take, List.length_drop, true_and]; omega))) | exact up_raw rfl | exact pk_t (by first | rfl | assumption | omega | (simp only [*, Bool.not_false, Bool.not_true]; first | done | fail) | (simp [*]; first | done | fail)) rfl | exact pk_f (by first | rfl | assumption | omega | (simp only [*, Bool.not_false, Bool.not_true]; first | done | fail) | (simp [*]; first | done | fail)) rfl | exact rw_c Int rfl | exact rw_raw | exact pu_cv (fun w => rfl) (by omega) | exact pu_of (fun w => rfl) rfl | exact be_of (fun w => rfl) | exact nc_of (fun _ _ _ _ => rfl) rfl | exact bu_of (fun w => rfl) rfl | fail) ?_) | ((first | refine q_callE wsT wsZ (by rfl) ?_ | refine q_callVE wsT (by rfl) (by rfl) ?_); refine ⟨_, _, _, (by first | assumption | exact k_within _ _ _ | exact k_l1In _ _ _), _, by rfl, ?_, ?_⟩)); focus (first | exact trivial | fail | exact rfl | (first | omega | (simp only [List.length_append, List.length_replicate, List.length_cons, List.length_nil, List.length_set, List.length_take, List.length_drop, true_and]; omega)) | exact cvB (fun w => rfl) | ((repeat' (first | exact rfl | exact cV_len _ | exact cV_ln rfl (by omega) | exact Cel.pos | omega | exact trivial | refine And.intro ?_ ?_)); done) | (simp [*]; done) | (simp; omega))) | fail)) | refine r_nt (by rfl) (by rfl) (by first | rfl | assumption | omega | (simp only [*, Bool.not_false, Bool.not_true]; first | done | fail) | (simp [*]; first | done | fail)) (by rfl) ?_ | refine r_nf (by rfl) (by rfl) (by first | rfl | assumption | omega | (simp only [*, Bool.not_false, Bool.not_true]; first | done | fail) | (simp [*]; first | done | fail)) (by rfl) ?_ | refine r_gu (by rfl) (by rfl) (by rfl) ?_ | refine r_nil ?_) | (first | refine aw_seq ?_ | refine aw_ct (by rfl) (by first | rfl | assumption | omega | (simp only [*, Bool.not_false, Bool.not_true]; first | done | fail) | (simp [*]; first | done | fail)) ?_ | refine aw_cf (by rfl) (by first | rfl | assumption | omega | (simp only [*, Bool.not_false, Bool.not_true]; first | done | fail) | (simp [*]; first | done | fail)) ?_ | refine aw_block ?_ | refine aw_region T0ok cfU_ok (by rfl) ?_ | refine aw_skip ?_ | refine aw_exit ?_ | refine ra_step ?_)); (repeat (first | (first | ((first | refine r_none ?_ | refine r_gt (by rfl) (by rfl) (by first | rfl | assumption | omega | (simp only [*, Bool.not_false, Bool.not_true]; first | done | fail) | (simp [*]; first | done | fail)) (by rfl) ?_ | refine r_gf (by rfl) (by rfl) (by first | rfl | assumption | omega | (simp only [*, Bool.not_false, Bool.not_true]; first | done | fail) | (simp [*]; first | done | fail)) (by rfl) ?_); (first | fail | ((first | (refine z_op (by rfl) ?_; first | refine z_ok ?_ ?_ | refine z_ex ?_ (by first | exact ft_raw rfl rfl | ((first | refine ft_rp rfl rfl rfl ?_ | refine ft_row rfl rfl rfl ?_ | refine ft_rpF rfl rfl rfl ?_ | refine ft_rowF rfl rfl rfl ?_ | refine up_row rfl rfl ?_ | refine up_rowF rfl rfl rfl ?_ | refine ct_0 rfl ?_ | refine ct_r rfl rfl ?_ | refine ct_c rfl rfl rfl ?_ | refine cu_all rfl ?_ | refine cu_to rfl ?_ | refine cu_from rfl ?_ | refine cu_p rfl ?_ | (first | refine mk_c Int rfl rfl rfl ?_ | refine mk_0 Int rfl rfl ?_)); (first | omega | (simp only [List.length_append, List.length_replicate, List.length_cons, List.length_nil, List.length_set, List.length_take, List.length_drop, true_and]; omega))) | exact up_raw rfl | exact pk_t (by first | rfl | assumption | omega | (simp only [*, Bool.not_false, Bool.not_true]; first | done | fail) | (simp [*]; first | done | fail)) rfl | exact pk_f (by first | rfl | assumption | omega | (simp only [*, Bool.not_false, Bool.not_true]; first | done | fail) | (simp [*]; first | done | fail)) rfl | exact rw_c Int rfl | exact rw_raw | exact pu_cv (fun w => rfl) (by omega) | exact pu_of (fun w => rfl) rfl | exact be_of (fun w => rfl) | exact nc_of (fun _ _ _ _ => rfl) rfl | exact bu_of (fun w => rfl) rfl | fail) ?_) | ((first | refine q_callE wsT wsZ (by rfl) ?_ | refine q_callVE wsT (by rfl) (by rfl) ?_); refine ⟨_, _, _, (by first | assumption | exact k_within _ _ _ | exact k_l1In _ _ _), _, by rfl, ?_, ?_⟩)); focus (first | exact trivial | fail | exact rfl | (first | omega | (simp only [List.length_append, List.length_replicate, List.length_cons, List.length_nil, List.length_set, List.length_take, List.length_drop, true_and]; omega)) | exact cvB (fun w => rfl) | ((repeat' (first | exact rfl | exact cV_len _ | exact cV_ln rfl (by omega) | exact Cel.pos | omega | exact trivial | refine And.intro ?_ ?_)); done) | (simp [*]; done) | (simp; omega))) | fail)) | refine r_nt (by rfl) (by rfl) (by first | rfl | assumption | omega | (simp only [*, Bool.not_false, Bool.not_true]; first | done | fail) | (simp [*]; first | done | fail)) (by rfl) ?_ | refine r_nf (by rfl) (by rfl) (by first | rfl | assumption | omega | (simp only [*, Bool.not_false, Bool.not_true]; first | done | fail) | (simp [*]; first | done | fail)) (by rfl) ?_ | refine r_gu (by rfl) (by rfl) (by rfl) ?_ | refine r_nil ?_) | (first | refine aw_seq ?_ | refine aw_ct (by rfl) (by first | rfl | assumption | omega | (simp only [*, Bool.not_false, Bool.not_true]; first | done | fail) | (simp [*]; first | done | fail)) ?_ | refine aw_cf (by rfl) (by first | rfl | assumption | omega | (simp only [*, Bool.not_false, Bool.not_true]; first | done | fail) | (simp [*]; first | done | fail)) ?_ | refine aw_block ?_ | refine aw_region T0ok cfU_ok (by rfl) ?_ | refine aw_skip ?_ | refine aw_exit ?_ | refine ra_step ?_))); exact hh.out)) : G := h ⟨k⟩
theorem ga_KNC {H G : Prop} (k : H) (h : Hid H → G := by (intro hh; (first | refine r_none ?_ | refine r_gt (by rfl) (by rfl) (by first | rfl | assumption | omega | (simp only [*, Bool.not_false, Bool.not_true]; first | done | fail) | (simp [*]; first | done | fail)) (by rfl) ?_ | refine r_gf (by rfl) (by rfl) (by first | rfl | assumption | omega | (simp only [*, Bool.not_false, Bool.not_true]; first | done | fail) | (simp [*]; first | done | fail)) (by rfl) ?_); refine z_op (by rfl) ?_; refine z_alV ?_ hh.out; focus (first | exact trivial | fail | exact rfl | (first | omega | (simp only [List.length_append, List.length_replicate, List.length_cons, List.length_nil, List.length_set, List.length_take, List.length_drop, true_and]; omega)) | exact cvB (fun w => rfl) | ((repeat' (first | exact rfl | exact cV_len _ | exact cV_ln rfl (by omega) | exact Cel.pos | omega | exact trivial | refine And.intro ?_ ?_)); done) | (simp [*]; done) | (simp; omega)))) : G := h ⟨k⟩
theorem gs_KNC {H G : Prop} (k : H) (h : Hid H → G := by (intro hh; (first | ((first | refine r_none ?_ | refine r_gt (by rfl) (by rfl) (by first | rfl | assumption | omega | (simp only [*, Bool.not_false, Bool.not_true]; first | done | fail) | (simp [*]; first | done | fail)) (by rfl) ?_ | refine r_gf (by rfl) (by rfl) (by first | rfl | assumption | omega | (simp only [*, Bool.not_false, Bool.not_true]; first | done | fail) | (simp [*]; first | done | fail)) (by rfl) ?_); (first | fail | ((first | (refine z_op (by rfl) ?_; first | refine z_ok ?_ ?_ | refine z_ex ?_ (by first | exact ft_raw rfl rfl | ((first | refine ft_rp rfl rfl rfl ?_ | refine ft_row rfl rfl rfl ?_ | refine ft_rpF rfl rfl rfl ?_ | refine ft_rowF rfl rfl rfl ?_ | refine up_row rfl rfl ?_ | refine up_rowF rfl rfl rfl ?_ | refine ct_0 rfl ?_ | refine ct_r rfl rfl ?_ | refine ct_c rfl rfl rfl ?_ | refine cu_all rfl ?_ | refine cu_to rfl ?_ | refine cu_from rfl ?_ | refine cu_p rfl ?_ | (first | refine mk_c Int rfl rfl rfl ?_ | refine mk_0 Int rfl rfl ?_)); (first | omega | (simp only [List.length_append, List.length_replicate, List.length_cons, List.length_nil, List.length_set, List.length_take, List.length_drop, true_and]; omega))) | exact up_raw rfl | exact pk_t (by first | rfl | assumption | omega | (simp only [*, Bool.not_false, Bool.not_true]; first | done | fail) | (simp [*]; first | done | fail)) rfl | exact pk_f (by first | rfl | assumption | omega | (simp only [*, Bool.not_false, Bool.not_true]; first | done | fail) | (simp [*]; first | done | fail)) rfl | exact rw_c Int rfl | exact rw_raw | exact pu_cv (fun w => rfl) (by omega) | exact pu_of (fun w => rfl) rfl | exact be_of (fun w => rfl) | exact nc_of (fun _ _ _ _ => rfl) rfl | exact bu_of (fun w => rfl) rfl | fail) ?_) | ((first | refine q_callE wsT wsZ (by rfl) ?_ | refine q_callVE wsT (by rfl) (by rfl) ?_); refine ⟨_, _, _, (by first | assumption | exact k_within _ _ _ | exact k_l1In _ _ _), _, by rfl, ?_, ?_⟩)); focus (first | exact trivial | fail | exact rfl | (first | omega | (simp only [List.length_append, List.length_replicate, List.length_cons, List.length_nil, List.length_set, List.length_take, List.length_drop, true_and]; omega)) | exact cvB (fun w => rfl) | ((repeat' (first | exact rfl | exact cV_len _ | exact cV_ln rfl (by omega) | exact Cel.pos | omega | exact trivial | refine And.intro ?_ ?_)); done) | (simp [*]; done) | (simp; omega))) | fail)) | refine r_nt (by rfl) (by rfl) (by first | rfl | assumption | omega | (simp only [*, Bool.not_false, Bool.not_true]; first | done | fail) | (simp [*]; first | done | fail)) (by rfl) ?_ | refine r_nf (by rfl) (by rfl) (by first | rfl | assumption | omega | (simp only [*, Bool.not_false, Bool.not_true]; first | done | fail) | (simp [*]; first | done | fail)) (by rfl) ?_ | refine r_gu (by rfl) (by rfl) (by rfl) ?_ | refine r_nil ?_); (repeat (first | ((first | refine r_none ?_ | refine r_gt (by rfl) (by rfl) (by first | rfl | assumption | omega | (simp only [*, Bool.not_false, Bool.not_true]; first | done | fail) | (simp [*]; first | done | fail)) (by rfl) ?_ | refine r_gf (by rfl) (by rfl) (by first | rfl | assumption | omega | (simp only [*, Bool.not_false, Bool.not_true]; first | done | fail) | (simp [*]; first | done | fail)) (by rfl) ?_); (first | fail | ((first | (refine z_op (by rfl) ?_; first | refine z_ok ?_ ?_ | refine z_ex ?_ (by first | exact ft_raw rfl rfl | ((first | refine ft_rp rfl rfl rfl ?_ | refine ft_row rfl rfl rfl ?_ | refine ft_rpF rfl rfl rfl ?_ | refine ft_rowF rfl rfl rfl ?_ | refine up_row rfl rfl ?_ | refine up_rowF rfl rfl rfl ?_ | refine ct_0 rfl ?_ | refine ct_r rfl rfl ?_ | refine ct_c rfl rfl rfl ?_ | refine cu_all rfl ?_ | refine cu_to rfl ?_ | refine cu_from rfl ?_ | refine cu_p rfl ?_ | (first | refine mk_c Int rfl rfl rfl ?_ | refine mk_0 Int rfl rfl ?_)); (first | omega | (simp only [List.length_append, List.length_replicate, List.length_cons, List.length_nil, List.length_set, List.length_take, List.length_drop, true_and]; omega))) | exact up_raw rfl | exact pk_t (by first | rfl | assumption | omega | (simp only [*, Bool.not_false, Bool.not_true]; first | done | fail) | (simp [*]; first | done | fail)) rfl | exact pk_f (by first | rfl | assumption | omega | (simp only [*, Bool.not_false, Bool.not_true]; first | done | fail) | (simp [*]; first | done | fail)) rfl | exact rw_c Int rfl | exact rw_raw | exact pu_cv (fun w => rfl) (by omega) | exact pu_of (fun w => rfl) rfl | exact be_of (fun w => rfl) | exact nc_of (fun _ _ _ _ => rfl) rfl | exact bu_of (fun w => rfl) rfl | fail) ?_) | ((first | refine q_callE wsT wsZ (by rfl) ?_ | refine q_callVE wsT (by rfl) (by rfl) ?_); refine ⟨_, _, _, (by first | assumption | exact k_within _ _ _ | exact k_l1In _ _ _), _, by rfl, ?_, ?_⟩)); focus (first | exact trivial | fail | exact rfl | (first | omega | (simp only [List.length_append, List.length_replicate, List.length_cons, List.length_nil, List.length_set, List.length_take, List.length_drop, true_and]; omega)) | exact cvB (fun w => rfl) | ((repeat' (first | exact rfl | exact cV_len _ | exact cV_ln rfl (by omega) | exact Cel.pos | omega | exact trivial | refine And.intro ?_ ?_)); done) | (simp [*]; done) | (simp; omega))) | fail)) | refine r_nt (by rfl) (by rfl) (by first | rfl | assumption | omega | (simp only [*, Bool.not_false, Bool.not_true]; first | done | fail) | (simp [*]; first | done | fail)) (by rfl) ?_ | refine r_nf (by rfl) (by rfl) (by first | rfl | assumption | omega | (simp only [*, Bool.not_false, Bool.not_true]; first | done | fail) | (simp [*]; first | done | fail)) (by rfl) ?_ | refine r_gu (by rfl) (by rfl) (by rfl) ?_ | refine r_nil ?_)); exact hh.out)) : G := h ⟨k⟩
theorem gc_KNC {H G : Prop} (k : H) (h : Hid H → G := by (intro hh; (first | refine aw_seq ?_ | refine aw_ct (by rfl) (by first | rfl | assumption | omega | (simp only [*, Bool.not_false, Bool.not_true]; first | done | fail) | (simp [*]; first | done | fail)) ?_ | refine aw_cf (by rfl) (by first | rfl | assumption | omega | (simp only [*, Bool.not_false, Bool.not_true]; first | done | fail) | (simp [*]; first | done | fail)) ?_ | refine aw_block ?_ | refine aw_region T0ok cfU_ok (by rfl) ?_ | refine aw_skip ?_ | refine aw_exit ?_ | refine ra_step ?_); (repeat (first | refine aw_seq ?_ | refine aw_ct (by rfl) (by first | rfl | assumption | omega | (simp only [*, Bool.not_false, Bool.not_true]; first | done | fail) | (simp [*]; first | done | fail)) ?_ | refine aw_cf (by rfl) (by first | rfl | assumption | omega | (simp only [*, Bool.not_false, Bool.not_true]; first | done | fail) | (simp [*]; first | done | fail)) ?_ | refine aw_block ?_ | refine aw_region T0ok cfU_ok (by rfl) ?_ | refine aw_skip ?_ | refine aw_exit ?_ | refine ra_step ?_)); exact hh.out)) : G := h ⟨k⟩
theorem gd_KNC {H G : Prop} (k : H) (h : Hid H → G := by (intro hh; (refine aw_draw mixed T0ok cfU_ok [] (by rfl) (by kernel_rfl) ?_); exact hh.out)) : G := h ⟨k⟩
abbrev a2 (x y : Int) : AV := .g (.agg [.v (.int .i64 x), .v (.int .i64 y)])
abbrev a1 (x : Int) : AV := .g (.agg [.v (.int .i64 x)])
abbrev g2 (x y : Int) : Value := .agg #[.int .i64 x, .int .i64 y]
abbrev g1 (x : Int) : Value := .agg #[.int .i64 x]
abbrev ifc (t : TypeId) (v : Value) : AV := .g (.one (.v (.iface t v)))
theorem cs2_rep {w : World} {β : Nat → Value} {G : Blk} {ok : Nat → Prop} (x y : Int) : AV.rep w β G ok (a2 x y) (g2 x y) :=
  ⟨_, rfl, rfl, fun j c hc => by
    match j, hc with
    | 0, hc => cases hc; exact ⟨_, rfl, rfl, rfl⟩
    | 1, hc => cases hc; exact ⟨_, rfl, rfl, rfl⟩⟩
theorem cs1_rep {w : World} {β : Nat → Value} {G : Blk} {ok : Nat → Prop} (x : Int) : AV.rep w β G ok (a1 x) (g1 x) :=
  ⟨_, rfl, rfl, fun j c hc => by
    match j, hc with
    | 0, hc => cases hc; exact ⟨_, rfl, rfl, rfl⟩⟩
theorem cs2_un {w : World} {β : Nat → Value} {G : Blk} {ok : Nat → Prop} {x y : Int} {v : Value} (h : AV.rep w β G ok (a2 x y) v) : v = g2 x y := by
  obtain ⟨vs, rfl, h1, h2⟩ := h
  obtain ⟨z0, e0, p0⟩ := h2 0 _ rfl
  obtain ⟨z1, e1, p1⟩ := h2 1 _ rfl
  have q0 := p0.1
  have q1 := p1.1
  subst q0
  subst q1
  have hsz : vs.size = 2 := h1
  congr 1
  apply Array.ext
  · exact hsz
  · intro i hi hi2
    have : i = 0 ∨ i = 1 := by omega
    rcases this with rfl | rfl
    · have := (Array.getElem?_eq_some_iff.1 e0).2; simpa using this
    · have := (Array.getElem?_eq_some_iff.1 e1).2; simpa using this
theorem cs1_un {w : World} {β : Nat → Value} {G : Blk} {ok : Nat → Prop} {x : Int} {v : Value} (h : AV.rep w β G ok (a1 x) v) : v = g1 x := by
  obtain ⟨vs, rfl, h1, h2⟩ := h
  obtain ⟨z0, e0, p0⟩ := h2 0 _ rfl
  have q0 := p0.1
  subst q0
  have hsz : vs.size = 1 := h1
  congr 1
  apply Array.ext
  · exact hsz
  · intro i hi hi2
    have : i = 0 := by omega
    subst this
    have := (Array.getElem?_eq_some_iff.1 e0).2; simpa using this
theorem mkI {P : Program} {t : TypeId} {x : Nat} {v : Value} {d : Nat} {ty : TypeId} {pos : String} {af : Array Edge} (h : P.concrete t = true) (ρ : Operand → Value) (w : World) (hr : ρ (.tmp x) = v) : (execOp ρ ⟨some d, .makeInterface t (.tmp x), ty, pos, af, none⟩).run P w = .ok (.value (.iface t v)) w := by
  unfold execOp
  simp only [hr, Sem.run_bind, run_makeInterface w t v h, Result.andThen_ok, Sem.run_pure]
theorem k_nd0 (s : Stp) (h : s.o = 0) : Kon Try.prog 88 [stV s] [] (ifc 116 (g2 s.x s.y)) [] [] := by
  have d0 : (s.o == 0) = true := by simp [h]
  clear h
  (refine kon_mk T0ok (fn := Try.f88) (c := Try.f88.body.get rfl) Try.func88 rfl (by rfl) (by rfl) (by rfl) ?_; intro hfit hfe)
  (repeat refine gc_KNC ?_)
  (repeat (first | refine gs_KNC ?_ | (refine ga_KNC ?_; intro _hq)))
  (repeat refine gc_KNC ?_)
  (repeat (first | refine gs_KNC ?_ | (refine ga_KNC ?_; intro _hq)))
  (repeat refine gc_KNC ?_)
  (repeat (first | refine gs_KNC ?_ | (refine ga_KNC ?_; intro _hq)))
  (repeat (first | refine wx_region ?_ | refine aw_seq ?_ | refine aw_ct (by rfl) (by first | rfl | assumption | omega | (simp only [*, Bool.not_false, Bool.not_true]; first | done | fail) | (simp [*]; first | done | fail)) ?_ | refine aw_cf (by rfl) (by first | rfl | assumption | omega | (simp only [*, Bool.not_false, Bool.not_true]; first | done | fail) | (simp [*]; first | done | fail)) ?_ | refine ra_step ?_ | refine aw_skip ?_ | refine aw_block ?_ | refine aw_exit ?_))
  refine wx_run 5 T0ok cfU_ok (by rfl) ?_
  (repeat (first | refine gs_KNC ?_ | (refine ga_KNC ?_; intro _hq)))
  refine wx_val (b := a2 s.x s.y) (a := ifc 116 (g2 s.x s.y)) (by rfl) (by rfl) (fun _ _ _ _ _ h => cs2_un h) (mkI (by kernel_rfl)) (fun _ _ _ _ => ⟨rfl, rfl⟩) ?_
  refine wx_end T0ok cfU_ok (i := 6) (by rfl) ?_
  (repeat (first | refine gq_KNC ?_ | (refine ga_KNC ?_; intro _hq)))
  ((try refine aw_ret ?_); refine ret_auto2 (by rfl) (by rfl) (by rfl) (by repeat (first | exact trivial | refine ⟨by first | rfl | omega, ?_⟩)) ?_ (by repeat (first | exact trivial | refine ⟨by rfl, by rfl, ?_⟩)) (by repeat (first | exact trivial | refine ⟨by rfl, by rfl, ?_⟩)); try rfl)
theorem k_nd1 (s : Stp) (h : s.o = 1) : Kon Try.prog 88 [stV s] [] (ifc 118 (g2 s.x s.y)) [] [] := by
  have d0 : (s.o == 0) = false := by simp [h]
  have d1 : (s.o == 1) = true := by simp [h]
  clear h
  (refine kon_mk T0ok (fn := Try.f88) (c := Try.f88.body.get rfl) Try.func88 rfl (by rfl) (by rfl) (by rfl) ?_; intro hfit hfe)
  (repeat refine gc_KNC ?_)
  (repeat (first | refine gs_KNC ?_ | (refine ga_KNC ?_; intro _hq)))
  (repeat refine gc_KNC ?_)
  (repeat (first | refine gs_KNC ?_ | (refine ga_KNC ?_; intro _hq)))
  (repeat refine gc_KNC ?_)
  (repeat (first | refine gs_KNC ?_ | (refine ga_KNC ?_; intro _hq)))
  (repeat refine gc_KNC ?_)
  (repeat (first | refine gs_KNC ?_ | (refine ga_KNC ?_; intro _hq)))
  (repeat (first | refine wx_region ?_ | refine aw_seq ?_ | refine aw_ct (by rfl) (by first | rfl | assumption | omega | (simp only [*, Bool.not_false, Bool.not_true]; first | done | fail) | (simp [*]; first | done | fail)) ?_ | refine aw_cf (by rfl) (by first | rfl | assumption | omega | (simp only [*, Bool.not_false, Bool.not_true]; first | done | fail) | (simp [*]; first | done | fail)) ?_ | refine ra_step ?_ | refine aw_skip ?_ | refine aw_block ?_ | refine aw_exit ?_))
  refine wx_run 5 T0ok cfU_ok (by rfl) ?_
  (repeat (first | refine gs_KNC ?_ | (refine ga_KNC ?_; intro _hq)))
  refine wx_val (b := a2 s.x s.y) (a := ifc 118 (g2 s.x s.y)) (by rfl) (by rfl) (fun _ _ _ _ _ h => cs2_un h) (mkI (by kernel_rfl)) (fun _ _ _ _ => ⟨rfl, rfl⟩) ?_
  refine wx_end T0ok cfU_ok (i := 6) (by rfl) ?_
  (repeat (first | refine gq_KNC ?_ | (refine ga_KNC ?_; intro _hq)))
  ((try refine aw_ret ?_); refine ret_auto2 (by rfl) (by rfl) (by rfl) (by repeat (first | exact trivial | refine ⟨by first | rfl | omega, ?_⟩)) ?_ (by repeat (first | exact trivial | refine ⟨by rfl, by rfl, ?_⟩)) (by repeat (first | exact trivial | refine ⟨by rfl, by rfl, ?_⟩)); try rfl)
theorem k_nd2 (s : Stp) (h : s.o = 2) : Kon Try.prog 88 [stV s] [] (ifc 117 (g2 s.x s.y)) [] [] := by
  have d0 : (s.o == 0) = false := by simp [h]
  have d1 : (s.o == 1) = false := by simp [h]
  have d2 : (s.o == 2) = true := by simp [h]
  clear h
  (refine kon_mk T0ok (fn := Try.f88) (c := Try.f88.body.get rfl) Try.func88 rfl (by rfl) (by rfl) (by rfl) ?_; intro hfit hfe)
  (repeat refine gc_KNC ?_)
  (repeat (first | refine gs_KNC ?_ | (refine ga_KNC ?_; intro _hq)))
  (repeat refine gc_KNC ?_)
  (repeat (first | refine gs_KNC ?_ | (refine ga_KNC ?_; intro _hq)))
  (repeat refine gc_KNC ?_)
  (repeat (first | refine gs_KNC ?_ | (refine ga_KNC ?_; intro _hq)))
  (repeat refine gc_KNC ?_)
  (repeat (first | refine gs_KNC ?_ | (refine ga_KNC ?_; intro _hq)))
  (repeat refine gc_KNC ?_)
  (repeat (first | refine gs_KNC ?_ | (refine ga_KNC ?_; intro _hq)))
  (repeat (first | refine wx_region ?_ | refine aw_seq ?_ | refine aw_ct (by rfl) (by first | rfl | assumption | omega | (simp only [*, Bool.not_false, Bool.not_true]; first | done | fail) | (simp [*]; first | done | fail)) ?_ | refine aw_cf (by rfl) (by first | rfl | assumption | omega | (simp only [*, Bool.not_false, Bool.not_true]; first | done | fail) | (simp [*]; first | done | fail)) ?_ | refine ra_step ?_ | refine aw_skip ?_ | refine aw_block ?_ | refine aw_exit ?_))
  refine wx_run 5 T0ok cfU_ok (by rfl) ?_
  (repeat (first | refine gs_KNC ?_ | (refine ga_KNC ?_; intro _hq)))
  refine wx_val (b := a2 s.x s.y) (a := ifc 117 (g2 s.x s.y)) (by rfl) (by rfl) (fun _ _ _ _ _ h => cs2_un h) (mkI (by kernel_rfl)) (fun _ _ _ _ => ⟨rfl, rfl⟩) ?_
  refine wx_end T0ok cfU_ok (i := 6) (by rfl) ?_
  (repeat (first | refine gq_KNC ?_ | (refine ga_KNC ?_; intro _hq)))
  ((try refine aw_ret ?_); refine ret_auto2 (by rfl) (by rfl) (by rfl) (by repeat (first | exact trivial | refine ⟨by first | rfl | omega, ?_⟩)) ?_ (by repeat (first | exact trivial | refine ⟨by rfl, by rfl, ?_⟩)) (by repeat (first | exact trivial | refine ⟨by rfl, by rfl, ?_⟩)); try rfl)
theorem k_nd3 (s : Stp) (h : s.o = 3) : Kon Try.prog 88 [stV s] [] (ifc 120 (g1 s.x)) [] [] := by
  have d0 : (s.o == 0) = false := by simp [h]
  have d1 : (s.o == 1) = false := by simp [h]
  have d2 : (s.o == 2) = false := by simp [h]
  have d3 : (s.o == 3) = true := by simp [h]
  clear h
  (refine kon_mk T0ok (fn := Try.f88) (c := Try.f88.body.get rfl) Try.func88 rfl (by rfl) (by rfl) (by rfl) ?_; intro hfit hfe)
  (repeat refine gc_KNC ?_)
  (repeat (first | refine gs_KNC ?_ | (refine ga_KNC ?_; intro _hq)))
  (repeat refine gc_KNC ?_)
  (repeat (first | refine gs_KNC ?_ | (refine ga_KNC ?_; intro _hq)))
  (repeat refine gc_KNC ?_)
  (repeat (first | refine gs_KNC ?_ | (refine ga_KNC ?_; intro _hq)))
  (repeat refine gc_KNC ?_)
  (repeat (first | refine gs_KNC ?_ | (refine ga_KNC ?_; intro _hq)))
  (repeat refine gc_KNC ?_)
  (repeat (first | refine gs_KNC ?_ | (refine ga_KNC ?_; intro _hq)))
  (repeat refine gc_KNC ?_)
  (repeat (first | refine gs_KNC ?_ | (refine ga_KNC ?_; intro _hq)))
  (repeat (first | refine wx_region ?_ | refine aw_seq ?_ | refine aw_ct (by rfl) (by first | rfl | assumption | omega | (simp only [*, Bool.not_false, Bool.not_true]; first | done | fail) | (simp [*]; first | done | fail)) ?_ | refine aw_cf (by rfl) (by first | rfl | assumption | omega | (simp only [*, Bool.not_false, Bool.not_true]; first | done | fail) | (simp [*]; first | done | fail)) ?_ | refine ra_step ?_ | refine aw_skip ?_ | refine aw_block ?_ | refine aw_exit ?_))
  refine wx_run 3 T0ok cfU_ok (by rfl) ?_
  (repeat (first | refine gs_KNC ?_ | (refine ga_KNC ?_; intro _hq)))
  refine wx_val (b := a1 s.x) (a := ifc 120 (g1 s.x)) (by rfl) (by rfl) (fun _ _ _ _ _ h => cs1_un h) (mkI (by kernel_rfl)) (fun _ _ _ _ => ⟨rfl, rfl⟩) ?_
  refine wx_end T0ok cfU_ok (i := 4) (by rfl) ?_
  (repeat (first | refine gq_KNC ?_ | (refine ga_KNC ?_; intro _hq)))
  ((try refine aw_ret ?_); refine ret_auto2 (by rfl) (by rfl) (by rfl) (by repeat (first | exact trivial | refine ⟨by first | rfl | omega, ?_⟩)) ?_ (by repeat (first | exact trivial | refine ⟨by rfl, by rfl, ?_⟩)) (by repeat (first | exact trivial | refine ⟨by rfl, by rfl, ?_⟩)); try rfl)
theorem k_b0 (x y : Int) (b : List Int) (hb : b.length ≤ 1000) (hx : 0 ≤ x ∧ x < b.length) (hy : 0 ≤ y ∧ y < b.length) (p q : Bool) (hp : b.getD x.toNat Cel.no = b2i p) (hq : b.getD y.toNat Cel.no = b2i q) : Kon Try.prog 131 [a2 x y, roA b] [] (vI (b2i (p && q))) [] [] := by
  (refine kon_mk T0ok (fn := Try.f131) (c := Try.f131.body.get rfl) Try.func131 rfl (by rfl) (by rfl) (by rfl) ?_; intro hfit hfe)
  (repeat (first | refine gq_KNC ?_ | (refine ga_KNC ?_; intro _hq)))
  (repeat (first | refine gq_KNC ?_ | (refine ga_KNC ?_; intro _hq) | refine gd_KNC ?_))
  rw [hp, hq]
  clear hp hq
  cases p <;> cases q <;> simp only [b2i, if_true, Bool.false_eq_true, if_false] <;> ((repeat (first | refine gq_KNC ?_ | (refine ga_KNC ?_; intro _hq))); ((try refine aw_ret ?_); refine ret_auto2 (by rfl) (by rfl) (by rfl) (by repeat (first | exact trivial | refine ⟨by first | rfl | omega, ?_⟩)) ?_ (by repeat (first | exact trivial | refine ⟨by rfl, by rfl, ?_⟩)) (by repeat (first | exact trivial | refine ⟨by rfl, by rfl, ?_⟩)); try rfl))
theorem k_b1 (x y : Int) (b : List Int) (hb : b.length ≤ 1000) (hx : 0 ≤ x ∧ x < b.length) (hy : 0 ≤ y ∧ y < b.length) (p q : Bool) (hp : b.getD x.toNat Cel.no = b2i p) (hq : b.getD y.toNat Cel.no = b2i q) : Kon Try.prog 133 [a2 x y, roA b] [] (vI (b2i (p || q))) [] [] := by
  (refine kon_mk T0ok (fn := Try.f133) (c := Try.f133.body.get rfl) Try.func133 rfl (by rfl) (by rfl) (by rfl) ?_; intro hfit hfe)
  (repeat (first | refine gq_KNC ?_ | (refine ga_KNC ?_; intro _hq)))
  (repeat (first | refine gq_KNC ?_ | (refine ga_KNC ?_; intro _hq) | refine gd_KNC ?_))
  rw [hp, hq]
  clear hp hq
  cases p <;> cases q <;> simp only [b2i, if_true, Bool.false_eq_true, if_false] <;> ((repeat (first | refine gq_KNC ?_ | (refine ga_KNC ?_; intro _hq))); ((try refine aw_ret ?_); refine ret_auto2 (by rfl) (by rfl) (by rfl) (by repeat (first | exact trivial | refine ⟨by first | rfl | omega, ?_⟩)) ?_ (by repeat (first | exact trivial | refine ⟨by rfl, by rfl, ?_⟩)) (by repeat (first | exact trivial | refine ⟨by rfl, by rfl, ?_⟩)); try rfl))
theorem k_b2 (x y : Int) (b : List Int) (hb : b.length ≤ 1000) (hx : 0 ≤ x ∧ x < b.length) (hy : 0 ≤ y ∧ y < b.length) (p q : Bool) (hp : b.getD x.toNat Cel.no = b2i p) (hq : b.getD y.toNat Cel.no = b2i q) : Kon Try.prog 132 [a2 x y, roA b] [] (vI (b2i (p ^^ q))) [] [] := by
  (refine kon_mk T0ok (fn := Try.f132) (c := Try.f132.body.get rfl) Try.func132 rfl (by rfl) (by rfl) (by rfl) ?_; intro hfit hfe)
  (repeat (first | refine gq_KNC ?_ | (refine ga_KNC ?_; intro _hq)))
  (repeat (first | refine gq_KNC ?_ | (refine ga_KNC ?_; intro _hq) | refine gd_KNC ?_))
  rw [hp, hq]
  clear hp hq
  cases p <;> cases q <;> simp only [b2i, if_true, Bool.false_eq_true, if_false] <;> ((repeat (first | refine gq_KNC ?_ | (refine ga_KNC ?_; intro _hq))); ((try refine aw_ret ?_); refine ret_auto2 (by rfl) (by rfl) (by rfl) (by repeat (first | exact trivial | refine ⟨by first | rfl | omega, ?_⟩)) ?_ (by repeat (first | exact trivial | refine ⟨by rfl, by rfl, ?_⟩)) (by repeat (first | exact trivial | refine ⟨by rfl, by rfl, ?_⟩)); try rfl))
theorem k_b3 (x : Int) (b : List Int) (hb : b.length ≤ 1000) (hx : 0 ≤ x ∧ x < b.length) (p : Bool) (hp : b.getD x.toNat Cel.no = b2i p) : Kon Try.prog 134 [a1 x, roA b] [] (vI (b2i (!p))) [] [] := by
  have h2 := b2i_bd p
  rw [← hp] at h2
  have e : 1 - b.getD x.toNat Cel.no = b2i (!p) := by rw [hp]; cases p <;> rfl
  (refine kon_mk T0ok (fn := Try.f134) (c := Try.f134.body.get rfl) Try.func134 rfl (by rfl) (by rfl) (by rfl) ?_; intro hfit hfe)
  (repeat (first | refine gq_KNC ?_ | (refine ga_KNC ?_; intro _hq)))
  ((try refine aw_ret ?_); refine ret_auto2 (by rfl) (by rfl) (by rfl) (by repeat (first | exact trivial | refine ⟨by first | rfl | omega, ?_⟩)) ?_ (by repeat (first | exact trivial | refine ⟨by rfl, by rfl, ?_⟩)) (by repeat (first | exact trivial | refine ⟨by rfl, by rfl, ?_⟩)); try rfl)
  exact congrArg vI e
end Go.Proofs.Ytdihmpclbgbgpaa

/- Formulas: bitsFor, FormBits, FormOut, FormLines of the program. -/
namespace Go.Proofs.Ytdihmpclbgbgpaa
set_option linter.unusedVariables false
set_option linter.unusedSimpArgs false
set_option maxRecDepth 20000
open Go.RowKit
set_option maxHeartbeats 400000 in
theorem clipI : IsClip Try.prog 89 := by
  refine isClip_mk Try.func89 rfl (by rfl) fun A n c w hn hm => ?_
  go_enter Try.func89, Try.ntmps89
  go_wp2
  go_ret
  exact ⟨rfl, rfl⟩
attribute [local irreducible] runA runX AW
theorem gq_KND {H G : Prop} (k : H) (h : Hid H → G := by (intro hh; (first | (first | ((first | refine r_none ?_ | refine r_gt (by rfl) (by rfl) (by first | rfl | assumption | omega | (simp only [*, Bool.not_false, Bool.not_true]; first | done | fail) | (simp [*]; first | done | fail)) (by rfl) ?_ | refine r_gf (by rfl) (by rfl) (by first | rfl | assumption | omega | (simp only [*, Bool.not_false, Bool.not_true]; first | done | fail) | (simp [*]; first | done | fail)) (by rfl) ?_); (first | fail | ((first | (refine z_op (by rfl) ?_; first | refine z_ok ?_ ?_ | refine z_ex ?_ (by first | exact ft_raw rfl rfl | ((first | refine ft_rp rfl rfl rfl ?_ | refine ft_row rfl rfl rfl ?_ | refine ft_rpF rfl rfl rfl ?_ | refine ft_rowF rfl rfl rfl ?_ | refine up_row rfl rfl ?_ | refine up_rowF rfl rfl rfl ?_ | refine ct_0 rfl ?_ | refine ct_r rfl rfl ?_ | refine ct_c rfl rfl rfl ?_ | refine cu_all rfl ?_ | refine cu_to rfl ?_ | refine cu_from rfl ?_ | refine cu_p rfl ?_ | (first | refine mk_c Int rfl rfl rfl ?_ | refine mk_0 Int rfl rfl ?_)); (first | omega | (simp only [List.length_append, List.length_replicate, List.length_cons, List.length_nil, List.length_set, List.length_take, List.length_drop, true_and]; omega))) | exact up_raw rfl | exact pk_t (by first | rfl | assumption | omega | (simp only [*, Bool.not_false, Bool.not_true]; first | done | fail) | (simp [*]; first | done | fail)) rfl | exact pk_f (by first | rfl | assumption | omega | (simp only [*, Bool.not_false, Bool.not_true]; first | done | fail) | (simp [*]; first | done | fail)) rfl | exact rw_c Int rfl | exact rw_raw | exact pu_cv (fun w => rfl) (by omega) | exact pu_of (fun w => rfl) rfl | exact be_of (fun w => rfl) | exact nc_of (fun _ _ _ _ => rfl) rfl | exact bu_of (fun w => rfl) rfl | fail) ?_) | ((first | refine q_callE wsT wsZ (by rfl) ?_ | refine q_callVE wsT (by rfl) (by rfl) ?_); refine ⟨_, _, _, (by first | assumption | exact k_wv _ _ | exact k_cloneI _ (by omega)), _, by rfl, ?_, ?_⟩)); focus (first | exact trivial | fail | exact rfl | (first | omega | (simp only [List.length_append, List.length_replicate, List.length_cons, List.length_nil, List.length_set, List.length_take, List.length_drop, true_and]; omega)) | exact cvB (fun w => rfl) | ((repeat' (first | exact rfl | exact cV_len _ | exact cV_ln rfl (by omega) | exact Cel.pos | omega | exact trivial | refine And.intro ?_ ?_)); done) | (simp [*]; done) | (simp; omega))) | refine q_clip (by rfl) clipI (by first | exact trivial | omega | exact cvB (fun w => rfl) | ((repeat (any_goals (first | exact rfl | exact cV_len _ | exact cV_ln rfl (by omega) | exact Cel.pos | omega | exact trivial | refine And.intro ?_ ?_))); first | done | fail) | (simp [*]; first | done | fail)) ?_)) | refine r_nt (by rfl) (by rfl) (by first | rfl | assumption | omega | (simp only [*, Bool.not_false, Bool.not_true]; first | done | fail) | (simp [*]; first | done | fail)) (by rfl) ?_ | refine r_nf (by rfl) (by rfl) (by first | rfl | assumption | omega | (simp only [*, Bool.not_false, Bool.not_true]; first | done | fail) | (simp [*]; first | done | fail)) (by rfl) ?_ | refine r_gu (by rfl) (by rfl) (by rfl) ?_ | refine r_nil ?_) | (first | refine aw_seq ?_ | refine aw_ct (by rfl) (by first | rfl | assumption | omega | (simp only [*, Bool.not_false, Bool.not_true]; first | done | fail) | (simp [*]; first | done | fail)) ?_ | refine aw_cf (by rfl) (by first | rfl | assumption | omega | (simp only [*, Bool.not_false, Bool.not_true]; first | done | fail) | (simp [*]; first | done | fail)) ?_ | refine aw_block ?_ | refine aw_region T0ok cfU_ok (by rfl) ?_ | refine aw_skip ?_ | refine aw_exit ?_ | refine ra_step ?_)); (repeat (first | (first | ((first | refine r_none ?_ | refine r_gt (by rfl) (by rfl) (by first | rfl | assumption | omega | (simp only [*, Bool.not_false, Bool.not_true]; first | done | fail) | (simp [*]; first | done | fail)) (by rfl) ?_ | refine r_gf (by rfl) (by rfl) (by first | rfl | assumption | omega | (simp only [*, Bool.not_false, Bool.not_true]; first | done | fail) | (simp [*]; first | done | fail)) (by rfl) ?_); (first | fail | ((first | (refine z_op (by rfl) ?_; first | refine z_ok ?_ ?_ | refine z_ex ?_ (by first | exact ft_raw rfl rfl | ((first | refine ft_rp rfl rfl rfl ?_ | refine ft_row rfl rfl rfl ?_ | refine ft_rpF rfl rfl rfl ?_ | refine ft_rowF rfl rfl rfl ?_ | refine up_row rfl rfl ?_ | refine up_rowF rfl rfl rfl ?_ | refine ct_0 rfl ?_ | refine ct_r rfl rfl ?_ | refine ct_c rfl rfl rfl ?_ | refine cu_all rfl ?_ | refine cu_to rfl ?_ | refine cu_from rfl ?_ | refine cu_p rfl ?_ | (first | refine mk_c Int rfl rfl rfl ?_ | refine mk_0 Int rfl rfl ?_)); (first | omega | (simp only [List.length_append, List.length_replicate, List.length_cons, List.length_nil, List.length_set, List.length_take, List.length_drop, true_and]; omega))) | exact up_raw rfl | exact pk_t (by first | rfl | assumption | omega | (simp only [*, Bool.not_false, Bool.not_true]; first | done | fail) | (simp [*]; first | done | fail)) rfl | exact pk_f (by first | rfl | assumption | omega | (simp only [*, Bool.not_false, Bool.not_true]; first | done | fail) | (simp [*]; first | done | fail)) rfl | exact rw_c Int rfl | exact rw_raw | exact pu_cv (fun w => rfl) (by omega) | exact pu_of (fun w => rfl) rfl | exact be_of (fun w => rfl) | exact nc_of (fun _ _ _ _ => rfl) rfl | exact bu_of (fun w => rfl) rfl | fail) ?_) | ((first | refine q_callE wsT wsZ (by rfl) ?_ | refine q_callVE wsT (by rfl) (by rfl) ?_); refine ⟨_, _, _, (by first | assumption | exact k_wv _ _ | exact k_cloneI _ (by omega)), _, by rfl, ?_, ?_⟩)); focus (first | exact trivial | fail | exact rfl | (first | omega | (simp only [List.length_append, List.length_replicate, List.length_cons, List.length_nil, List.length_set, List.length_take, List.length_drop, true_and]; omega)) | exact cvB (fun w => rfl) | ((repeat' (first | exact rfl | exact cV_len _ | exact cV_ln rfl (by omega) | exact Cel.pos | omega | exact trivial | refine And.intro ?_ ?_)); done) | (simp [*]; done) | (simp; omega))) | refine q_clip (by rfl) clipI (by first | exact trivial | omega | exact cvB (fun w => rfl) | ((repeat (any_goals (first | exact rfl | exact cV_len _ | exact cV_ln rfl (by omega) | exact Cel.pos | omega | exact trivial | refine And.intro ?_ ?_))); first | done | fail) | (simp [*]; first | done | fail)) ?_)) | refine r_nt (by rfl) (by rfl) (by first | rfl | assumption | omega | (simp only [*, Bool.not_false, Bool.not_true]; first | done | fail) | (simp [*]; first | done | fail)) (by rfl) ?_ | refine r_nf (by rfl) (by rfl) (by first | rfl | assumption | omega | (simp only [*, Bool.not_false, Bool.not_true]; first | done | fail) | (simp [*]; first | done | fail)) (by rfl) ?_ | refine r_gu (by rfl) (by rfl) (by rfl) ?_ | refine r_nil ?_) | (first | refine aw_seq ?_ | refine aw_ct (by rfl) (by first | rfl | assumption | omega | (simp only [*, Bool.not_false, Bool.not_true]; first | done | fail) | (simp [*]; first | done | fail)) ?_ | refine aw_cf (by rfl) (by first | rfl | assumption | omega | (simp only [*, Bool.not_false, Bool.not_true]; first | done | fail) | (simp [*]; first | done | fail)) ?_ | refine aw_block ?_ | refine aw_region T0ok cfU_ok (by rfl) ?_ | refine aw_skip ?_ | refine aw_exit ?_ | refine ra_step ?_))); exact hh.out)) : G := h ⟨k⟩
theorem ga_KND {H G : Prop} (k : H) (h : Hid H → G := by (intro hh; (first | refine r_none ?_ | refine r_gt (by rfl) (by rfl) (by first | rfl | assumption | omega | (simp only [*, Bool.not_false, Bool.not_true]; first | done | fail) | (simp [*]; first | done | fail)) (by rfl) ?_ | refine r_gf (by rfl) (by rfl) (by first | rfl | assumption | omega | (simp only [*, Bool.not_false, Bool.not_true]; first | done | fail) | (simp [*]; first | done | fail)) (by rfl) ?_); refine z_op (by rfl) ?_; refine z_alV ?_ hh.out; focus (first | exact trivial | fail | exact rfl | (first | omega | (simp only [List.length_append, List.length_replicate, List.length_cons, List.length_nil, List.length_set, List.length_take, List.length_drop, true_and]; omega)) | exact cvB (fun w => rfl) | ((repeat' (first | exact rfl | exact cV_len _ | exact cV_ln rfl (by omega) | exact Cel.pos | omega | exact trivial | refine And.intro ?_ ?_)); done) | (simp [*]; done) | (simp; omega)))) : G := h ⟨k⟩
theorem gs_KND {H G : Prop} (k : H) (h : Hid H → G := by (intro hh; (first | ((first | refine r_none ?_ | refine r_gt (by rfl) (by rfl) (by first | rfl | assumption | omega | (simp only [*, Bool.not_false, Bool.not_true]; first | done | fail) | (simp [*]; first | done | fail)) (by rfl) ?_ | refine r_gf (by rfl) (by rfl) (by first | rfl | assumption | omega | (simp only [*, Bool.not_false, Bool.not_true]; first | done | fail) | (simp [*]; first | done | fail)) (by rfl) ?_); (first | fail | ((first | (refine z_op (by rfl) ?_; first | refine z_ok ?_ ?_ | refine z_ex ?_ (by first | exact ft_raw rfl rfl | ((first | refine ft_rp rfl rfl rfl ?_ | refine ft_row rfl rfl rfl ?_ | refine ft_rpF rfl rfl rfl ?_ | refine ft_rowF rfl rfl rfl ?_ | refine up_row rfl rfl ?_ | refine up_rowF rfl rfl rfl ?_ | refine ct_0 rfl ?_ | refine ct_r rfl rfl ?_ | refine ct_c rfl rfl rfl ?_ | refine cu_all rfl ?_ | refine cu_to rfl ?_ | refine cu_from rfl ?_ | refine cu_p rfl ?_ | (first | refine mk_c Int rfl rfl rfl ?_ | refine mk_0 Int rfl rfl ?_)); (first | omega | (simp only [List.length_append, List.length_replicate, List.length_cons, List.length_nil, List.length_set, List.length_take, List.length_drop, true_and]; omega))) | exact up_raw rfl | exact pk_t (by first | rfl | assumption | omega | (simp only [*, Bool.not_false, Bool.not_true]; first | done | fail) | (simp [*]; first | done | fail)) rfl | exact pk_f (by first | rfl | assumption | omega | (simp only [*, Bool.not_false, Bool.not_true]; first | done | fail) | (simp [*]; first | done | fail)) rfl | exact rw_c Int rfl | exact rw_raw | exact pu_cv (fun w => rfl) (by omega) | exact pu_of (fun w => rfl) rfl | exact be_of (fun w => rfl) | exact nc_of (fun _ _ _ _ => rfl) rfl | exact bu_of (fun w => rfl) rfl | fail) ?_) | ((first | refine q_callE wsT wsZ (by rfl) ?_ | refine q_callVE wsT (by rfl) (by rfl) ?_); refine ⟨_, _, _, (by first | assumption | exact k_wv _ _ | exact k_cloneI _ (by omega)), _, by rfl, ?_, ?_⟩)); focus (first | exact trivial | fail | exact rfl | (first | omega | (simp only [List.length_append, List.length_replicate, List.length_cons, List.length_nil, List.length_set, List.length_take, List.length_drop, true_and]; omega)) | exact cvB (fun w => rfl) | ((repeat' (first | exact rfl | exact cV_len _ | exact cV_ln rfl (by omega) | exact Cel.pos | omega | exact trivial | refine And.intro ?_ ?_)); done) | (simp [*]; done) | (simp; omega))) | refine q_clip (by rfl) clipI (by first | exact trivial | omega | exact cvB (fun w => rfl) | ((repeat (any_goals (first | exact rfl | exact cV_len _ | exact cV_ln rfl (by omega) | exact Cel.pos | omega | exact trivial | refine And.intro ?_ ?_))); first | done | fail) | (simp [*]; first | done | fail)) ?_)) | refine r_nt (by rfl) (by rfl) (by first | rfl | assumption | omega | (simp only [*, Bool.not_false, Bool.not_true]; first | done | fail) | (simp [*]; first | done | fail)) (by rfl) ?_ | refine r_nf (by rfl) (by rfl) (by first | rfl | assumption | omega | (simp only [*, Bool.not_false, Bool.not_true]; first | done | fail) | (simp [*]; first | done | fail)) (by rfl) ?_ | refine r_gu (by rfl) (by rfl) (by rfl) ?_ | refine r_nil ?_); (repeat (first | ((first | refine r_none ?_ | refine r_gt (by rfl) (by rfl) (by first | rfl | assumption | omega | (simp only [*, Bool.not_false, Bool.not_true]; first | done | fail) | (simp [*]; first | done | fail)) (by rfl) ?_ | refine r_gf (by rfl) (by rfl) (by first | rfl | assumption | omega | (simp only [*, Bool.not_false, Bool.not_true]; first | done | fail) | (simp [*]; first | done | fail)) (by rfl) ?_); (first | fail | ((first | (refine z_op (by rfl) ?_; first | refine z_ok ?_ ?_ | refine z_ex ?_ (by first | exact ft_raw rfl rfl | ((first | refine ft_rp rfl rfl rfl ?_ | refine ft_row rfl rfl rfl ?_ | refine ft_rpF rfl rfl rfl ?_ | refine ft_rowF rfl rfl rfl ?_ | refine up_row rfl rfl ?_ | refine up_rowF rfl rfl rfl ?_ | refine ct_0 rfl ?_ | refine ct_r rfl rfl ?_ | refine ct_c rfl rfl rfl ?_ | refine cu_all rfl ?_ | refine cu_to rfl ?_ | refine cu_from rfl ?_ | refine cu_p rfl ?_ | (first | refine mk_c Int rfl rfl rfl ?_ | refine mk_0 Int rfl rfl ?_)); (first | omega | (simp only [List.length_append, List.length_replicate, List.length_cons, List.length_nil, List.length_set, List.length_take, List.length_drop, true_and]; omega))) | exact up_raw rfl | exact pk_t (by first | rfl | assumption | omega | (simp only [*, Bool.not_false, Bool.not_true]; first | done | fail) | (simp [*]; first | done | fail)) rfl | exact pk_f (by first | rfl | assumption | omega | (simp only [*, Bool.not_false, Bool.not_true]; first | done | fail) | (simp [*]; first | done | fail)) rfl | exact rw_c Int rfl | exact rw_raw | exact pu_cv (fun w => rfl) (by omega) | exact pu_of (fun w => rfl) rfl | exact be_of (fun w => rfl) | exact nc_of (fun _ _ _ _ => rfl) rfl | exact bu_of (fun w => rfl) rfl | fail) ?_) | ((first | refine q_callE wsT wsZ (by rfl) ?_ | refine q_callVE wsT (by rfl) (by rfl) ?_); refine ⟨_, _, _, (by first | assumption | exact k_wv _ _ | exact k_cloneI _ (by omega)), _, by rfl, ?_, ?_⟩)); focus (first | exact trivial | fail | exact rfl | (first | omega | (simp only [List.length_append, List.length_replicate, List.length_cons, List.length_nil, List.length_set, List.length_take, List.length_drop, true_and]; omega)) | exact cvB (fun w => rfl) | ((repeat' (first | exact rfl | exact cV_len _ | exact cV_ln rfl (by omega) | exact Cel.pos | omega | exact trivial | refine And.intro ?_ ?_)); done) | (simp [*]; done) | (simp; omega))) | refine q_clip (by rfl) clipI (by first | exact trivial | omega | exact cvB (fun w => rfl) | ((repeat (any_goals (first | exact rfl | exact cV_len _ | exact cV_ln rfl (by omega) | exact Cel.pos | omega | exact trivial | refine And.intro ?_ ?_))); first | done | fail) | (simp [*]; first | done | fail)) ?_)) | refine r_nt (by rfl) (by rfl) (by first | rfl | assumption | omega | (simp only [*, Bool.not_false, Bool.not_true]; first | done | fail) | (simp [*]; first | done | fail)) (by rfl) ?_ | refine r_nf (by rfl) (by rfl) (by first | rfl | assumption | omega | (simp only [*, Bool.not_false, Bool.not_true]; first | done | fail) | (simp [*]; first | done | fail)) (by rfl) ?_ | refine r_gu (by rfl) (by rfl) (by rfl) ?_ | refine r_nil ?_)); exact hh.out)) : G := h ⟨k⟩
theorem gc_KND {H G : Prop} (k : H) (h : Hid H → G := by (intro hh; (first | refine aw_seq ?_ | refine aw_ct (by rfl) (by first | rfl | assumption | omega | (simp only [*, Bool.not_false, Bool.not_true]; first | done | fail) | (simp [*]; first | done | fail)) ?_ | refine aw_cf (by rfl) (by first | rfl | assumption | omega | (simp only [*, Bool.not_false, Bool.not_true]; first | done | fail) | (simp [*]; first | done | fail)) ?_ | refine aw_block ?_ | refine aw_region T0ok cfU_ok (by rfl) ?_ | refine aw_skip ?_ | refine aw_exit ?_ | refine ra_step ?_); (repeat (first | refine aw_seq ?_ | refine aw_ct (by rfl) (by first | rfl | assumption | omega | (simp only [*, Bool.not_false, Bool.not_true]; first | done | fail) | (simp [*]; first | done | fail)) ?_ | refine aw_cf (by rfl) (by first | rfl | assumption | omega | (simp only [*, Bool.not_false, Bool.not_true]; first | done | fail) | (simp [*]; first | done | fail)) ?_ | refine aw_block ?_ | refine aw_region T0ok cfU_ok (by rfl) ?_ | refine aw_skip ?_ | refine aw_exit ?_ | refine ra_step ?_)); exact hh.out)) : G := h ⟨k⟩
theorem k_cloneI (l : List Int) (h : 0 < l.length ∧ l.length ≤ 1000) : Kon Try.prog 90 [roA l] [] (slA 0 0 l) [iRow l] [] := by
  (refine kon_mk T0ok (fn := Try.f90) (c := Try.f90.body.get rfl) Try.func90 rfl (by rfl) (by rfl) (by rfl) ?_; intro hfit hfe)
  (repeat (first | refine gq_KND ?_ | (refine ga_KND ?_; intro _hq)))
  ((try refine aw_ret ?_); refine ret_auto2 (by rfl) (by rfl) (by rfl) (by repeat (first | exact trivial | refine ⟨by first | rfl | omega, ?_⟩)) ?_ (by repeat (first | exact trivial | refine ⟨by rfl, by rfl, ?_⟩)) (by repeat (first | exact trivial | refine ⟨by rfl, by rfl, ?_⟩)); try rfl)
/-- The bits of the first lines. -/
def inB (w : Int) : Nat → List Int
  | 0 => []
  | i + 1 => inB w i ++ [((((w / 2 ^ ((i : Nat) : Int).toNat).toNat &&& (1 : Int).toNat) : Nat) : Int)]
theorem inB_len (w : Int) : ∀ i, (inB w i).length = i
  | 0 => rfl
  | i + 1 => by rw [inB, List.length_append, inB_len w i]; rfl
theorem inB_bit {w : Int} (hw : 0 ≤ w) (i : Nat) : ((((w / 2 ^ ((i : Nat) : Int).toNat).toNat &&& (1 : Int).toNat) : Nat) : Int) = b2i (bt w (i : Int)) := by
  obtain ⟨m, rfl⟩ : ∃ m : Nat, w = (m : Int) := ⟨w.toNat, by omega⟩
  unfold bt b2i
  rw [Int.toNat_natCast, Int.toNat_natCast]
  have e : ((m : Int) / 2 ^ i).toNat = m / 2 ^ i := by
    rw [show ((2 : Int) ^ i) = ((2 ^ i : Nat) : Int) from (Int.natCast_pow 2 i).symm, ← Int.natCast_ediv, Int.toNat_natCast]
  rw [e, Nat.testBit_eq_decide_div_mod_eq, show (1 : Int).toNat = 1 from rfl, Nat.and_one_is_mod]
  have := Nat.mod_two_eq_zero_or_one (m / 2 ^ i)
  rcases this with h | h <;> rw [h] <;> simp
theorem inB_eq {w : Int} (hw : 0 ≤ w) : ∀ i, inB w i = (List.range i).map fun j : Nat => b2i (bt w (j : Int))
  | 0 => rfl
  | i + 1 => by rw [inB, inB_eq hw i, inB_bit hw, List.range_succ, List.map_append]; rfl
theorem bsF_0 {N : Nat} {l : List Stp} {w : Int} (hw : 0 ≤ w) : bsF (N : Int) l w 0 = inB w N := by
  rw [inB_eq hw]
  unfold bsF
  rw [show ((N : Int) + ((0 : Nat) : Int)).toNat = N by omega]
  rfl
set_option maxHeartbeats 4000000 in
theorem k_bitsFor (N : Nat) (l : List Stp) (w : Int) (hf : fok (N : Int) l = true) (hw : 0 ≤ w ∧ w < 2 ^ (N : Int).toNat) : Kon Try.prog 52 [vI (N : Int), roA l, vI w] [] (slA 0 0 ((bsF (N : Int) l w l.length).drop N)) [iRow ((bsF (N : Int) l w l.length).drop N)] [] := by
  obtain ⟨hn, hl, hst⟩ := fok_t hf
  have hw8 : w < 256 := by
    have h1 : (2 : Int) ^ (N : Int).toNat ≤ 2 ^ 8 := by
      have : (2 : Nat) ^ N ≤ 2 ^ 8 := Nat.pow_le_pow_right (by omega) (by omega)
      rw [Int.toNat_natCast]; exact_mod_cast this
    omega
  have hlt := fun k hk => fW_lt (w := w) hst (by omega) hw k hk
  clear hf
  (refine kon_mk T0ok (fn := Try.f52) (c := Try.f52.body.get rfl) Try.func52 rfl (by rfl) (by rfl) (by rfl) ?_; intro hfit hfe)
  (repeat (first | refine gq_KND ?_ | (refine ga_KND ?_; intro _hq)))
  (refine aw_rd [0, 1, 2, 6, 16] [] (fun i : Nat => [(7, .g (.one (.sl 240 i (inB w i).length))), (17, vI i)]) (fun i => [(240, (i, iRow (inB w i)))]) (fun i => i ≤ N) (fun i => N - i) 0 (by rfl) (by rfl) ?_ (by rfl) (by repeat (first | exact trivial | refine ⟨by rfl, ?_⟩ | refine ⟨vI_of (by rfl) (by omega), ?_⟩)) (by repeat (first | exact trivial | refine ⟨by rfl, ?_⟩ | refine ⟨vI_of (by rfl) (by omega), ?_⟩)) ?_)
  · exact Nat.zero_le _
  rintro i hi
  have hil := inB_len w i
  rcases Nat.lt_or_ge i N with h5 | h5
  · have hd : decide ((i : Int) < (N : Int)) = true := decide_eq_true (by omega)
    have e : inB w (i + 1) = inB w i ++ [((((w / 2 ^ ((i : Nat) : Int).toNat).toNat &&& (1 : Int).toNat) : Nat) : Int)] := rfl
    (repeat (first | refine gq_KND ?_ | (refine ga_KND ?_; intro _hq)))
    refine ⟨i + 1, h5, ?_, (by first | omega | (dsimp only; omega))⟩
    dsimp only
    rw [e]
    exact ⟨by rfl, ⟨by rfl, (by repeat (first | exact trivial | refine ⟨by rfl, ?_⟩ | refine ⟨vI_of (by rfl) (by omega), ?_⟩))⟩, (by repeat (first | exact trivial | refine ⟨by rfl, ?_⟩ | refine ⟨vI_of (by rfl) (by omega), ?_⟩))⟩
  · obtain rfl : N = i := by omega
    clear hil
    have hd : decide ((N : Int) < (N : Int)) = false := decide_eq_false (by omega)
    (repeat (first | refine gq_KND ?_ | (refine ga_KND ?_; intro _hq)))
    rw [← bsF_0 (l := l) hw.1]
    (refine aw_rd [0, 1, 2, 6, 28, 29] [] (fun i : Nat => [(7, .g (.one (.sl 240 (N + i) (bsF (N : Int) l w i).length))), (30, vI i)]) (fun i => [(240, (N + i, iRow (bsF (N : Int) l w i)))]) (fun i => i ≤ l.length) (fun i => l.length - i) 0 (by rfl) (by rfl) ?_ (by rfl) (by repeat (first | exact trivial | refine ⟨by rfl, ?_⟩ | refine ⟨vI_of (by rfl) (by omega), ?_⟩)) (by repeat (first | exact trivial | refine ⟨by rfl, ?_⟩ | refine ⟨vI_of (by rfl) (by omega), ?_⟩)) ?_)
    · exact Nat.zero_le _
    rintro i hi2
    have hbl := bsF_len (N : Int) l w i
    rcases Nat.lt_or_ge i l.length with h6 | h6
    · have hd2 : decide ((i : Int) < (l.length : Int)) = true := decide_eq_true (by omega)
      have hsk := hst i h6
      have e := bsF_succ hsk (by omega) (hlt i (by omega))
      obtain ⟨s, hs⟩ : ∃ s, l.getD (i : Int).toNat (Cel.no : Stp) = s := ⟨_, rfl⟩
      have hs' : l.getD i Cel.no = s := hs
      rw [hs'] at hsk
      obtain ⟨ho, hx, h3, hy⟩ := hsk
      have hX : (bsF (N : Int) l w i).getD s.x.toNat Cel.no = b2i (bt (fW (N : Int) l w i) s.x) := by
        have := bsF_get (N : Int) l w i s.x.toNat (by omega)
        rw [Int.toNat_of_nonneg hx.1] at this
        exact this
      have hY : s.o ≠ 3 → (bsF (N : Int) l w i).getD s.y.toNat Cel.no = b2i (bt (fW (N : Int) l w i) s.y) := fun hne => by
        have h7 := (hy hne).1
        have := bsF_get (N : Int) l w i s.y.toNat (by omega)
        rw [Int.toNat_of_nonneg h7.1] at this
        exact this
      have hyb : s.o ≠ 3 → 0 ≤ s.y ∧ s.y < ((bsF (N : Int) l w i).length : Int) := fun hne => by have := (hy hne).1; omega
      have h4 : s.o = 0 ∨ s.o = 1 ∨ s.o = 2 ∨ s.o = 3 := by omega
      rcases h4 with h0 | h0 | h0 | h0
      ·
        have hN := k_nd0 s h0
        have hB := k_b0 s.x s.y _ (by omega) (by omega) (hyb (by omega)) _ _ hX (hY (by omega))
        have e3 : b2i (fB (N : Int) l w i) = b2i (bt (fW (N : Int) l w i) s.x && bt (fW (N : Int) l w i) s.y) := by unfold fB; rw [hs', fbt, h0]; rfl
        rw [e3] at e
        (repeat refine gc_KND ?_)
        (repeat (first | refine gs_KND ?_ | (refine ga_KND ?_; intro _hq)))
        (repeat refine gc_KND ?_)
        (repeat (first | refine gs_KND ?_ | (refine ga_KND ?_; intro _hq)))
        rw [hs]
        (repeat (first | refine wx_region ?_ | refine aw_seq ?_ | refine aw_ct (by rfl) (by first | rfl | assumption | omega | (simp only [*, Bool.not_false, Bool.not_true]; first | done | fail) | (simp [*]; first | done | fail)) ?_ | refine aw_cf (by rfl) (by first | rfl | assumption | omega | (simp only [*, Bool.not_false, Bool.not_true]; first | done | fail) | (simp [*]; first | done | fail)) ?_ | refine ra_step ?_ | refine aw_skip ?_ | refine aw_block ?_ | refine aw_exit ?_))
        refine wx_run 4 T0ok cfU_ok (by rfl) ?_
        (repeat (first | refine gs_KND ?_ | (refine ga_KND ?_; intro _hq)))
        refine wx_inv (f := 131) (rv := g2 s.x s.y) (ra := a2 s.x s.y) (ts2 := #[]) T0ok cfU_ok (by rfl) (by rfl) (fun _ _ => by kernel_rfl) (fun _ _ => by kernel_rfl) (fun _ _ _ _ => cs2_rep _ _) ?_
        (repeat (first | refine gs_KND ?_ | (refine ga_KND ?_; intro _hq)))
        refine wx_end T0ok cfU_ok (i := 5) (by rfl) ?_
        (repeat (first | refine gq_KND ?_ | (refine ga_KND ?_; intro _hq)))
        refine ⟨i + 1, h6, ?_, (by first | omega | (dsimp only; omega))⟩
        dsimp only
        rw [e]
        exact ⟨by rfl, ⟨by rfl, (by repeat (first | exact trivial | refine ⟨by rfl, ?_⟩ | refine ⟨vI_of (by rfl) (by omega), ?_⟩))⟩, (by repeat (first | exact trivial | refine ⟨by rfl, ?_⟩ | refine ⟨vI_of (by rfl) (by omega), ?_⟩))⟩
      ·
        have hN := k_nd1 s h0
        have hB := k_b1 s.x s.y _ (by omega) (by omega) (hyb (by omega)) _ _ hX (hY (by omega))
        have e3 : b2i (fB (N : Int) l w i) = b2i (bt (fW (N : Int) l w i) s.x || bt (fW (N : Int) l w i) s.y) := by unfold fB; rw [hs', fbt, h0]; rfl
        rw [e3] at e
        (repeat refine gc_KND ?_)
        (repeat (first | refine gs_KND ?_ | (refine ga_KND ?_; intro _hq)))
        (repeat refine gc_KND ?_)
        (repeat (first | refine gs_KND ?_ | (refine ga_KND ?_; intro _hq)))
        rw [hs]
        (repeat (first | refine wx_region ?_ | refine aw_seq ?_ | refine aw_ct (by rfl) (by first | rfl | assumption | omega | (simp only [*, Bool.not_false, Bool.not_true]; first | done | fail) | (simp [*]; first | done | fail)) ?_ | refine aw_cf (by rfl) (by first | rfl | assumption | omega | (simp only [*, Bool.not_false, Bool.not_true]; first | done | fail) | (simp [*]; first | done | fail)) ?_ | refine ra_step ?_ | refine aw_skip ?_ | refine aw_block ?_ | refine aw_exit ?_))
        refine wx_run 4 T0ok cfU_ok (by rfl) ?_
        (repeat (first | refine gs_KND ?_ | (refine ga_KND ?_; intro _hq)))
        refine wx_inv (f := 133) (rv := g2 s.x s.y) (ra := a2 s.x s.y) (ts2 := #[]) T0ok cfU_ok (by rfl) (by rfl) (fun _ _ => by kernel_rfl) (fun _ _ => by kernel_rfl) (fun _ _ _ _ => cs2_rep _ _) ?_
        (repeat (first | refine gs_KND ?_ | (refine ga_KND ?_; intro _hq)))
        refine wx_end T0ok cfU_ok (i := 5) (by rfl) ?_
        (repeat (first | refine gq_KND ?_ | (refine ga_KND ?_; intro _hq)))
        refine ⟨i + 1, h6, ?_, (by first | omega | (dsimp only; omega))⟩
        dsimp only
        rw [e]
        exact ⟨by rfl, ⟨by rfl, (by repeat (first | exact trivial | refine ⟨by rfl, ?_⟩ | refine ⟨vI_of (by rfl) (by omega), ?_⟩))⟩, (by repeat (first | exact trivial | refine ⟨by rfl, ?_⟩ | refine ⟨vI_of (by rfl) (by omega), ?_⟩))⟩
      ·
        have hN := k_nd2 s h0
        have hB := k_b2 s.x s.y _ (by omega) (by omega) (hyb (by omega)) _ _ hX (hY (by omega))
        have e3 : b2i (fB (N : Int) l w i) = b2i (bt (fW (N : Int) l w i) s.x ^^ bt (fW (N : Int) l w i) s.y) := by unfold fB; rw [hs', fbt, h0]; rfl
        rw [e3] at e
        (repeat refine gc_KND ?_)
        (repeat (first | refine gs_KND ?_ | (refine ga_KND ?_; intro _hq)))
        (repeat refine gc_KND ?_)
        (repeat (first | refine gs_KND ?_ | (refine ga_KND ?_; intro _hq)))
        rw [hs]
        (repeat (first | refine wx_region ?_ | refine aw_seq ?_ | refine aw_ct (by rfl) (by first | rfl | assumption | omega | (simp only [*, Bool.not_false, Bool.not_true]; first | done | fail) | (simp [*]; first | done | fail)) ?_ | refine aw_cf (by rfl) (by first | rfl | assumption | omega | (simp only [*, Bool.not_false, Bool.not_true]; first | done | fail) | (simp [*]; first | done | fail)) ?_ | refine ra_step ?_ | refine aw_skip ?_ | refine aw_block ?_ | refine aw_exit ?_))
        refine wx_run 4 T0ok cfU_ok (by rfl) ?_
        (repeat (first | refine gs_KND ?_ | (refine ga_KND ?_; intro _hq)))
        refine wx_inv (f := 132) (rv := g2 s.x s.y) (ra := a2 s.x s.y) (ts2 := #[]) T0ok cfU_ok (by rfl) (by rfl) (fun _ _ => by kernel_rfl) (fun _ _ => by kernel_rfl) (fun _ _ _ _ => cs2_rep _ _) ?_
        (repeat (first | refine gs_KND ?_ | (refine ga_KND ?_; intro _hq)))
        refine wx_end T0ok cfU_ok (i := 5) (by rfl) ?_
        (repeat (first | refine gq_KND ?_ | (refine ga_KND ?_; intro _hq)))
        refine ⟨i + 1, h6, ?_, (by first | omega | (dsimp only; omega))⟩
        dsimp only
        rw [e]
        exact ⟨by rfl, ⟨by rfl, (by repeat (first | exact trivial | refine ⟨by rfl, ?_⟩ | refine ⟨vI_of (by rfl) (by omega), ?_⟩))⟩, (by repeat (first | exact trivial | refine ⟨by rfl, ?_⟩ | refine ⟨vI_of (by rfl) (by omega), ?_⟩))⟩
      ·
        have hN := k_nd3 s h0
        have hB := k_b3 s.x _ (by omega) (by omega) _ hX
        have e3 : b2i (fB (N : Int) l w i) = b2i (!bt (fW (N : Int) l w i) s.x) := by unfold fB; rw [hs', fbt, h0]; rfl
        rw [e3] at e
        (repeat refine gc_KND ?_)
        (repeat (first | refine gs_KND ?_ | (refine ga_KND ?_; intro _hq)))
        (repeat refine gc_KND ?_)
        (repeat (first | refine gs_KND ?_ | (refine ga_KND ?_; intro _hq)))
        rw [hs]
        (repeat (first | refine wx_region ?_ | refine aw_seq ?_ | refine aw_ct (by rfl) (by first | rfl | assumption | omega | (simp only [*, Bool.not_false, Bool.not_true]; first | done | fail) | (simp [*]; first | done | fail)) ?_ | refine aw_cf (by rfl) (by first | rfl | assumption | omega | (simp only [*, Bool.not_false, Bool.not_true]; first | done | fail) | (simp [*]; first | done | fail)) ?_ | refine ra_step ?_ | refine aw_skip ?_ | refine aw_block ?_ | refine aw_exit ?_))
        refine wx_run 4 T0ok cfU_ok (by rfl) ?_
        (repeat (first | refine gs_KND ?_ | (refine ga_KND ?_; intro _hq)))
        refine wx_inv (f := 134) (rv := g1 s.x) (ra := a1 s.x) (ts2 := #[]) T0ok cfU_ok (by rfl) (by rfl) (fun _ _ => by kernel_rfl) (fun _ _ => by kernel_rfl) (fun _ _ _ _ => cs1_rep _) ?_
        (repeat (first | refine gs_KND ?_ | (refine ga_KND ?_; intro _hq)))
        refine wx_end T0ok cfU_ok (i := 5) (by rfl) ?_
        (repeat (first | refine gq_KND ?_ | (refine ga_KND ?_; intro _hq)))
        refine ⟨i + 1, h6, ?_, (by first | omega | (dsimp only; omega))⟩
        dsimp only
        rw [e]
        exact ⟨by rfl, ⟨by rfl, (by repeat (first | exact trivial | refine ⟨by rfl, ?_⟩ | refine ⟨vI_of (by rfl) (by omega), ?_⟩))⟩, (by repeat (first | exact trivial | refine ⟨by rfl, ?_⟩ | refine ⟨vI_of (by rfl) (by omega), ?_⟩))⟩
    · obtain rfl : i = l.length := by omega
      have hd2 : decide ((l.length : Int) < (l.length : Int)) = false := decide_eq_false (by omega)
      have hdl : ((bsF (N : Int) l w l.length).drop N).length = l.length := by rw [List.length_drop, hbl]; omega
      have hCl := k_cloneI ((bsF (N : Int) l w l.length).drop N) ⟨by omega, by omega⟩
      (refine aw_freeze 240 (by rfl) (by rfl) ?_; refine aw_slot 7 1 (by rfl) (by rfl) (by first | exact trivial | omega | exact cvB (fun w => rfl) | ((repeat (any_goals (first | exact rfl | exact cV_len _ | exact cV_ln rfl (by omega) | exact Cel.pos | omega | exact trivial | refine And.intro ?_ ?_))); first | done | fail) | (simp [*]; first | done | fail)) ?_)
      (repeat (first | refine gq_KND ?_ | (refine ga_KND ?_; intro _hq)))
      ((try refine aw_ret ?_); refine ret_auto2 (by rfl) (by rfl) (by rfl) (by repeat (first | exact trivial | refine ⟨by first | rfl | omega, ?_⟩)) ?_ (by repeat (first | exact trivial | refine ⟨by rfl, by rfl, ?_⟩)) (by repeat (first | exact trivial | refine ⟨by rfl, by rfl, ?_⟩)); try rfl)
end Go.Proofs.Ytdihmpclbgbgpaa

/- Formulas: the gates of a step, by the program. -/
namespace Go.Proofs.Ytdihmpclbgbgpaa
set_option linter.unusedVariables false
set_option linter.unusedSimpArgs false
set_option maxRecDepth 20000
open Go.RowKit
attribute [local irreducible] runA runX AW
theorem gq_KNE {H G : Prop} (k : H) (h : Hid H → G := by (intro hh; (first | (first | ((first | refine r_none ?_ | refine r_gt (by rfl) (by rfl) (by first | rfl | assumption | omega | (simp only [*, Bool.not_false, Bool.not_true]; first | done | fail) | (simp [*]; first | done | fail)) (by rfl) ?_ | refine r_gf (by rfl) (by rfl) (by first | rfl | assumption | omega | (simp only [*, Bool.not_false, Bool.not_true]; first | done | fail) | (simp [*]; first | done | fail)) (by rfl) ?_); (first | fail | ((first | (refine z_op (by rfl) ?_; first | refine z_ok ?_ ?_ | refine z_ex ?_ (by first | exact ft_raw rfl rfl | ((first | refine ft_rp rfl rfl rfl ?_ | refine ft_row rfl rfl rfl ?_ | refine ft_rpF rfl rfl rfl ?_ | refine ft_rowF rfl rfl rfl ?_ | refine up_row rfl rfl ?_ | refine up_rowF rfl rfl rfl ?_ | refine ct_0 rfl ?_ | refine ct_r rfl rfl ?_ | refine ct_c rfl rfl rfl ?_ | refine cu_all rfl ?_ | refine cu_to rfl ?_ | refine cu_from rfl ?_ | refine cu_p rfl ?_ | fail); (first | omega | (simp only [List.length_append, List.length_replicate, List.length_cons, List.length_nil, List.length_set, List.length_take, List.length_drop, true_and]; omega))) | exact up_raw rfl | exact pk_t (by first | rfl | assumption | omega | (simp only [*, Bool.not_false, Bool.not_true]; first | done | fail) | (simp [*]; first | done | fail)) rfl | exact pk_f (by first | rfl | assumption | omega | (simp only [*, Bool.not_false, Bool.not_true]; first | done | fail) | (simp [*]; first | done | fail)) rfl | exact rw_c Gt rfl | exact rw_raw | exact pu_cv (fun w => rfl) (by omega) | exact pu_of (fun w => rfl) rfl | exact be_of (fun w => rfl) | exact nc_of (fun _ _ _ _ => rfl) rfl | exact bu_of (fun w => rfl) rfl | fail) ?_) | ((first | refine q_callE wsT wsZ (by rfl) ?_ | refine q_callVE wsT (by rfl) (by rfl) ?_); refine ⟨_, _, _, (by first | assumption | exact k_c1 _ _ | exact k_c2 _ _ _ | exact k_gv _ _), _, by rfl, ?_, ?_⟩)); focus (first | exact trivial | fail | exact rfl | (first | omega | (simp only [List.length_append, List.length_replicate, List.length_cons, List.length_nil, List.length_set, List.length_take, List.length_drop, true_and]; omega)) | exact cvB (fun w => rfl) | ((repeat' (first | exact rfl | exact cV_len _ | exact cV_ln rfl (by omega) | exact Cel.pos | omega | exact trivial | refine And.intro ?_ ?_)); done) | (simp [*]; done) | (simp; omega))) | fail)) | refine r_nt (by rfl) (by rfl) (by first | rfl | assumption | omega | (simp only [*, Bool.not_false, Bool.not_true]; first | done | fail) | (simp [*]; first | done | fail)) (by rfl) ?_ | refine r_nf (by rfl) (by rfl) (by first | rfl | assumption | omega | (simp only [*, Bool.not_false, Bool.not_true]; first | done | fail) | (simp [*]; first | done | fail)) (by rfl) ?_ | refine r_gu (by rfl) (by rfl) (by rfl) ?_ | refine r_nil ?_) | (first | refine aw_seq ?_ | refine aw_ct (by rfl) (by first | rfl | assumption | omega | (simp only [*, Bool.not_false, Bool.not_true]; first | done | fail) | (simp [*]; first | done | fail)) ?_ | refine aw_cf (by rfl) (by first | rfl | assumption | omega | (simp only [*, Bool.not_false, Bool.not_true]; first | done | fail) | (simp [*]; first | done | fail)) ?_ | refine aw_block ?_ | refine aw_region T0ok cfU_ok (by rfl) ?_ | refine aw_skip ?_ | refine aw_exit ?_ | refine ra_step ?_)); (repeat (first | (first | ((first | refine r_none ?_ | refine r_gt (by rfl) (by rfl) (by first | rfl | assumption | omega | (simp only [*, Bool.not_false, Bool.not_true]; first | done | fail) | (simp [*]; first | done | fail)) (by rfl) ?_ | refine r_gf (by rfl) (by rfl) (by first | rfl | assumption | omega | (simp only [*, Bool.not_false, Bool.not_true]; first | done | fail) | (simp [*]; first | done | fail)) (by rfl) ?_); (first | fail | ((first | (refine z_op (by rfl) ?_; first | refine z_ok ?_ ?_ | refine z_ex ?_ (by first | exact ft_raw rfl rfl | ((first | refine ft_rp rfl rfl rfl ?_ | refine ft_row rfl rfl rfl ?_ | refine ft_rpF rfl rfl rfl ?_ | refine ft_rowF rfl rfl rfl ?_ | refine up_row rfl rfl ?_ | refine up_rowF rfl rfl rfl ?_ | refine ct_0 rfl ?_ | refine ct_r rfl rfl ?_ | refine ct_c rfl rfl rfl ?_ | refine cu_all rfl ?_ | refine cu_to rfl ?_ | refine cu_from rfl ?_ | refine cu_p rfl ?_ | fail); (first | omega | (simp only [List.length_append, List.length_replicate, List.length_cons, List.length_nil, List.length_set, List.length_take, List.length_drop, true_and]; omega))) | exact up_raw rfl | exact pk_t (by first | rfl | assumption | omega | (simp only [*, Bool.not_false, Bool.not_true]; first | done | fail) | (simp [*]; first | done | fail)) rfl | exact pk_f (by first | rfl | assumption | omega | (simp only [*, Bool.not_false, Bool.not_true]; first | done | fail) | (simp [*]; first | done | fail)) rfl | exact rw_c Gt rfl | exact rw_raw | exact pu_cv (fun w => rfl) (by omega) | exact pu_of (fun w => rfl) rfl | exact be_of (fun w => rfl) | exact nc_of (fun _ _ _ _ => rfl) rfl | exact bu_of (fun w => rfl) rfl | fail) ?_) | ((first | refine q_callE wsT wsZ (by rfl) ?_ | refine q_callVE wsT (by rfl) (by rfl) ?_); refine ⟨_, _, _, (by first | assumption | exact k_c1 _ _ | exact k_c2 _ _ _ | exact k_gv _ _), _, by rfl, ?_, ?_⟩)); focus (first | exact trivial | fail | exact rfl | (first | omega | (simp only [List.length_append, List.length_replicate, List.length_cons, List.length_nil, List.length_set, List.length_take, List.length_drop, true_and]; omega)) | exact cvB (fun w => rfl) | ((repeat' (first | exact rfl | exact cV_len _ | exact cV_ln rfl (by omega) | exact Cel.pos | omega | exact trivial | refine And.intro ?_ ?_)); done) | (simp [*]; done) | (simp; omega))) | fail)) | refine r_nt (by rfl) (by rfl) (by first | rfl | assumption | omega | (simp only [*, Bool.not_false, Bool.not_true]; first | done | fail) | (simp [*]; first | done | fail)) (by rfl) ?_ | refine r_nf (by rfl) (by rfl) (by first | rfl | assumption | omega | (simp only [*, Bool.not_false, Bool.not_true]; first | done | fail) | (simp [*]; first | done | fail)) (by rfl) ?_ | refine r_gu (by rfl) (by rfl) (by rfl) ?_ | refine r_nil ?_) | (first | refine aw_seq ?_ | refine aw_ct (by rfl) (by first | rfl | assumption | omega | (simp only [*, Bool.not_false, Bool.not_true]; first | done | fail) | (simp [*]; first | done | fail)) ?_ | refine aw_cf (by rfl) (by first | rfl | assumption | omega | (simp only [*, Bool.not_false, Bool.not_true]; first | done | fail) | (simp [*]; first | done | fail)) ?_ | refine aw_block ?_ | refine aw_region T0ok cfU_ok (by rfl) ?_ | refine aw_skip ?_ | refine aw_exit ?_ | refine ra_step ?_))); exact hh.out)) : G := h ⟨k⟩
theorem ga_KNE {H G : Prop} (k : H) (h : Hid H → G := by (intro hh; (first | refine r_none ?_ | refine r_gt (by rfl) (by rfl) (by first | rfl | assumption | omega | (simp only [*, Bool.not_false, Bool.not_true]; first | done | fail) | (simp [*]; first | done | fail)) (by rfl) ?_ | refine r_gf (by rfl) (by rfl) (by first | rfl | assumption | omega | (simp only [*, Bool.not_false, Bool.not_true]; first | done | fail) | (simp [*]; first | done | fail)) (by rfl) ?_); refine z_op (by rfl) ?_; refine z_al ?_ hh.out; focus (first | exact trivial | fail | exact rfl | (first | omega | (simp only [List.length_append, List.length_replicate, List.length_cons, List.length_nil, List.length_set, List.length_take, List.length_drop, true_and]; omega)) | exact cvB (fun w => rfl) | ((repeat' (first | exact rfl | exact cV_len _ | exact cV_ln rfl (by omega) | exact Cel.pos | omega | exact trivial | refine And.intro ?_ ?_)); done) | (simp [*]; done) | (simp; omega)))) : G := h ⟨k⟩
theorem gs_KNE {H G : Prop} (k : H) (h : Hid H → G := by (intro hh; (first | ((first | refine r_none ?_ | refine r_gt (by rfl) (by rfl) (by first | rfl | assumption | omega | (simp only [*, Bool.not_false, Bool.not_true]; first | done | fail) | (simp [*]; first | done | fail)) (by rfl) ?_ | refine r_gf (by rfl) (by rfl) (by first | rfl | assumption | omega | (simp only [*, Bool.not_false, Bool.not_true]; first | done | fail) | (simp [*]; first | done | fail)) (by rfl) ?_); (first | fail | ((first | (refine z_op (by rfl) ?_; first | refine z_ok ?_ ?_ | refine z_ex ?_ (by first | exact ft_raw rfl rfl | ((first | refine ft_rp rfl rfl rfl ?_ | refine ft_row rfl rfl rfl ?_ | refine ft_rpF rfl rfl rfl ?_ | refine ft_rowF rfl rfl rfl ?_ | refine up_row rfl rfl ?_ | refine up_rowF rfl rfl rfl ?_ | refine ct_0 rfl ?_ | refine ct_r rfl rfl ?_ | refine ct_c rfl rfl rfl ?_ | refine cu_all rfl ?_ | refine cu_to rfl ?_ | refine cu_from rfl ?_ | refine cu_p rfl ?_ | fail); (first | omega | (simp only [List.length_append, List.length_replicate, List.length_cons, List.length_nil, List.length_set, List.length_take, List.length_drop, true_and]; omega))) | exact up_raw rfl | exact pk_t (by first | rfl | assumption | omega | (simp only [*, Bool.not_false, Bool.not_true]; first | done | fail) | (simp [*]; first | done | fail)) rfl | exact pk_f (by first | rfl | assumption | omega | (simp only [*, Bool.not_false, Bool.not_true]; first | done | fail) | (simp [*]; first | done | fail)) rfl | exact rw_c Gt rfl | exact rw_raw | exact pu_cv (fun w => rfl) (by omega) | exact pu_of (fun w => rfl) rfl | exact be_of (fun w => rfl) | exact nc_of (fun _ _ _ _ => rfl) rfl | exact bu_of (fun w => rfl) rfl | fail) ?_) | ((first | refine q_callE wsT wsZ (by rfl) ?_ | refine q_callVE wsT (by rfl) (by rfl) ?_); refine ⟨_, _, _, (by first | assumption | exact k_c1 _ _ | exact k_c2 _ _ _ | exact k_gv _ _), _, by rfl, ?_, ?_⟩)); focus (first | exact trivial | fail | exact rfl | (first | omega | (simp only [List.length_append, List.length_replicate, List.length_cons, List.length_nil, List.length_set, List.length_take, List.length_drop, true_and]; omega)) | exact cvB (fun w => rfl) | ((repeat' (first | exact rfl | exact cV_len _ | exact cV_ln rfl (by omega) | exact Cel.pos | omega | exact trivial | refine And.intro ?_ ?_)); done) | (simp [*]; done) | (simp; omega))) | fail)) | refine r_nt (by rfl) (by rfl) (by first | rfl | assumption | omega | (simp only [*, Bool.not_false, Bool.not_true]; first | done | fail) | (simp [*]; first | done | fail)) (by rfl) ?_ | refine r_nf (by rfl) (by rfl) (by first | rfl | assumption | omega | (simp only [*, Bool.not_false, Bool.not_true]; first | done | fail) | (simp [*]; first | done | fail)) (by rfl) ?_ | refine r_gu (by rfl) (by rfl) (by rfl) ?_ | refine r_nil ?_); (repeat (first | ((first | refine r_none ?_ | refine r_gt (by rfl) (by rfl) (by first | rfl | assumption | omega | (simp only [*, Bool.not_false, Bool.not_true]; first | done | fail) | (simp [*]; first | done | fail)) (by rfl) ?_ | refine r_gf (by rfl) (by rfl) (by first | rfl | assumption | omega | (simp only [*, Bool.not_false, Bool.not_true]; first | done | fail) | (simp [*]; first | done | fail)) (by rfl) ?_); (first | fail | ((first | (refine z_op (by rfl) ?_; first | refine z_ok ?_ ?_ | refine z_ex ?_ (by first | exact ft_raw rfl rfl | ((first | refine ft_rp rfl rfl rfl ?_ | refine ft_row rfl rfl rfl ?_ | refine ft_rpF rfl rfl rfl ?_ | refine ft_rowF rfl rfl rfl ?_ | refine up_row rfl rfl ?_ | refine up_rowF rfl rfl rfl ?_ | refine ct_0 rfl ?_ | refine ct_r rfl rfl ?_ | refine ct_c rfl rfl rfl ?_ | refine cu_all rfl ?_ | refine cu_to rfl ?_ | refine cu_from rfl ?_ | refine cu_p rfl ?_ | fail); (first | omega | (simp only [List.length_append, List.length_replicate, List.length_cons, List.length_nil, List.length_set, List.length_take, List.length_drop, true_and]; omega))) | exact up_raw rfl | exact pk_t (by first | rfl | assumption | omega | (simp only [*, Bool.not_false, Bool.not_true]; first | done | fail) | (simp [*]; first | done | fail)) rfl | exact pk_f (by first | rfl | assumption | omega | (simp only [*, Bool.not_false, Bool.not_true]; first | done | fail) | (simp [*]; first | done | fail)) rfl | exact rw_c Gt rfl | exact rw_raw | exact pu_cv (fun w => rfl) (by omega) | exact pu_of (fun w => rfl) rfl | exact be_of (fun w => rfl) | exact nc_of (fun _ _ _ _ => rfl) rfl | exact bu_of (fun w => rfl) rfl | fail) ?_) | ((first | refine q_callE wsT wsZ (by rfl) ?_ | refine q_callVE wsT (by rfl) (by rfl) ?_); refine ⟨_, _, _, (by first | assumption | exact k_c1 _ _ | exact k_c2 _ _ _ | exact k_gv _ _), _, by rfl, ?_, ?_⟩)); focus (first | exact trivial | fail | exact rfl | (first | omega | (simp only [List.length_append, List.length_replicate, List.length_cons, List.length_nil, List.length_set, List.length_take, List.length_drop, true_and]; omega)) | exact cvB (fun w => rfl) | ((repeat' (first | exact rfl | exact cV_len _ | exact cV_ln rfl (by omega) | exact Cel.pos | omega | exact trivial | refine And.intro ?_ ?_)); done) | (simp [*]; done) | (simp; omega))) | fail)) | refine r_nt (by rfl) (by rfl) (by first | rfl | assumption | omega | (simp only [*, Bool.not_false, Bool.not_true]; first | done | fail) | (simp [*]; first | done | fail)) (by rfl) ?_ | refine r_nf (by rfl) (by rfl) (by first | rfl | assumption | omega | (simp only [*, Bool.not_false, Bool.not_true]; first | done | fail) | (simp [*]; first | done | fail)) (by rfl) ?_ | refine r_gu (by rfl) (by rfl) (by rfl) ?_ | refine r_nil ?_)); exact hh.out)) : G := h ⟨k⟩
theorem gc_KNE {H G : Prop} (k : H) (h : Hid H → G := by (intro hh; (first | refine aw_seq ?_ | refine aw_ct (by rfl) (by first | rfl | assumption | omega | (simp only [*, Bool.not_false, Bool.not_true]; first | done | fail) | (simp [*]; first | done | fail)) ?_ | refine aw_cf (by rfl) (by first | rfl | assumption | omega | (simp only [*, Bool.not_false, Bool.not_true]; first | done | fail) | (simp [*]; first | done | fail)) ?_ | refine aw_block ?_ | refine aw_region T0ok cfU_ok (by rfl) ?_ | refine aw_skip ?_ | refine aw_exit ?_ | refine ra_step ?_); (repeat (first | refine aw_seq ?_ | refine aw_ct (by rfl) (by first | rfl | assumption | omega | (simp only [*, Bool.not_false, Bool.not_true]; first | done | fail) | (simp [*]; first | done | fail)) ?_ | refine aw_cf (by rfl) (by first | rfl | assumption | omega | (simp only [*, Bool.not_false, Bool.not_true]; first | done | fail) | (simp [*]; first | done | fail)) ?_ | refine aw_block ?_ | refine aw_region T0ok cfU_ok (by rfl) ?_ | refine aw_skip ?_ | refine aw_exit ?_ | refine ra_step ?_)); exact hh.out)) : G := h ⟨k⟩
theorem gd_KNE {H G : Prop} (k : H) (h : Hid H → G := by (intro hh; (refine aw_draw mixed T0ok cfU_ok [] (by rfl) (by kernel_rfl) ?_); exact hh.out)) : G := h ⟨k⟩
theorem k_c1 (x L : Int) : Kon Try.prog 106 [vI x, p0] [boxI L] (gV ⟨1, x, L, 0⟩) [] [boxI L] := by
  (refine kon_mk T0ok (fn := Try.f106) (c := Try.f106.body.get rfl) Try.func106 rfl (by rfl) (by rfl) (by rfl) ?_; intro hfit hfe)
  (repeat (first | refine gq_KNE ?_ | (refine ga_KNE ?_; intro _q ⟨_he, _hq⟩)))
  ((try refine aw_ret ?_); refine ret_auto2 (by rfl) (by rfl) (by rfl) (by repeat (first | exact trivial | refine ⟨by first | rfl | omega, ?_⟩)) ?_ (by repeat (first | exact trivial | refine ⟨by rfl, by rfl, ?_⟩)) (by repeat (first | exact trivial | refine ⟨by rfl, by rfl, ?_⟩)); try rfl)
theorem k_c2 (x y L : Int) : Kon Try.prog 107 [vI x, vI y, p0] [boxI L] (gV ⟨2, x, y, L⟩) [] [boxI L] := by
  (refine kon_mk T0ok (fn := Try.f107) (c := Try.f107.body.get rfl) Try.func107 rfl (by rfl) (by rfl) (by rfl) ?_; intro hfit hfe)
  (repeat (first | refine gq_KNE ?_ | (refine ga_KNE ?_; intro _q ⟨_he, _hq⟩)))
  ((try refine aw_ret ?_); refine ret_auto2 (by rfl) (by rfl) (by rfl) (by repeat (first | exact trivial | refine ⟨by first | rfl | omega, ?_⟩)) ?_ (by repeat (first | exact trivial | refine ⟨by rfl, by rfl, ?_⟩)) (by repeat (first | exact trivial | refine ⟨by rfl, by rfl, ?_⟩)); try rfl)
theorem k_c3 (g : Gt) : Kon Try.prog 108 [gV g] [] (vB (!(gok 8 g))) [] [] := by
  (refine kon_mk T0ok (fn := Try.f108) (c := Try.f108.body.get rfl) Try.func108 rfl (by rfl) (by rfl) (by rfl) ?_; intro hfit hfe)
  (repeat (first | refine gq_KNE ?_ | (refine ga_KNE ?_; intro _q ⟨_he, _hq⟩)))
  ((try refine aw_ret ?_); refine ret_auto2 (by rfl) (by rfl) (by rfl) (by repeat (first | exact trivial | refine ⟨by first | rfl | omega, ?_⟩)) ?_ (by repeat (first | exact trivial | refine ⟨by rfl, by rfl, ?_⟩)) (by repeat (first | exact trivial | refine ⟨by rfl, by rfl, ?_⟩)); try rfl)
abbrev capX : AV := .g (.one (.fn 108 []))
theorem k_idxX (l : List Gt) (h : l.length ≤ 1000) (ha : l.all (gok 8) = true) : Kon Try.prog 109 [roA l, capX] [] (vI (-1)) [] [] := by
  (refine kon_mk T0ok (fn := Try.f109) (c := Try.f109.body.get rfl) Try.func109 rfl (by rfl) (by rfl) (by rfl) ?_; intro hfit hfe)
  (repeat (first | refine gq_KNE ?_ | (refine ga_KNE ?_; intro _q ⟨_he, _hq⟩)))
  (refine aw_rd [0, 1, 7] [] (fun i : Nat => [(8, vI i)]) (fun _ => []) (fun i => i ≤ l.length) (fun i => l.length - i) 0 (by rfl) (by rfl) ?_ (by rfl) (by repeat (first | exact trivial | refine ⟨by rfl, ?_⟩ | refine ⟨vI_of (by rfl) (by omega), ?_⟩)) (by repeat (first | exact trivial | refine ⟨by rfl, ?_⟩ | refine ⟨vI_of (by rfl) (by omega), ?_⟩)) ?_)
  · exact Nat.zero_le _
  rintro i hi
  rcases Nat.lt_or_ge i l.length with h6 | h6
  · have hd : decide ((i : Int) < (l.length : Int)) = true := by simpa using h6
    have hK := k_c3 (l.getD (i : Int).toNat Cel.no)
    have hg : gok 8 (l.getD (i : Int).toNat Cel.no) = true := by
      have e : l.getD (i : Int).toNat Cel.no = l[i] := by simp [List.getD_eq_getElem?_getD, h6]
      rw [e]; exact (List.all_eq_true.1 ha) _ (List.getElem_mem _)
    rw [hg] at hK
    clear hg
    (repeat (first | refine gq_KNE ?_ | (refine ga_KNE ?_; intro _q ⟨_he, _hq⟩)))
    exact ⟨i + 1, h6, ⟨by rfl, (by repeat (first | exact trivial | refine ⟨by rfl, ?_⟩ | refine ⟨vI_of (by rfl) (by omega), ?_⟩)), (by repeat (first | exact trivial | refine ⟨by rfl, ?_⟩ | refine ⟨vI_of (by rfl) (by omega), ?_⟩))⟩, (by first | omega | (dsimp only; omega))⟩
  · obtain rfl : i = l.length := by omega
    have hd : decide ((l.length : Int) < (l.length : Int)) = false := decide_eq_false (by omega)
    (repeat (first | refine gq_KNE ?_ | (refine ga_KNE ?_; intro _q ⟨_he, _hq⟩)))
    ((try refine aw_ret ?_); refine ret_auto2 (by rfl) (by rfl) (by rfl) (by repeat (first | exact trivial | refine ⟨by first | rfl | omega, ?_⟩)) ?_ (by repeat (first | exact trivial | refine ⟨by rfl, by rfl, ?_⟩)) (by repeat (first | exact trivial | refine ⟨by rfl, by rfl, ?_⟩)); try rfl)
theorem k_contX (l : List Gt) (h : l.length ≤ 1000) (ha : l.all (gok 8) = true) : Kon Try.prog 91 [roA l, capX] [] (vB false) [] [] := by
  have hK := k_idxX l h ha
  (refine kon_mk T0ok (fn := Try.f91) (c := Try.f91.body.get rfl) Try.func91 rfl (by rfl) (by rfl) (by rfl) ?_; intro hfit hfe)
  (repeat (first | refine gq_KNE ?_ | (refine ga_KNE ?_; intro _q ⟨_he, _hq⟩)))
  ((try refine aw_ret ?_); refine ret_auto2 (by rfl) (by rfl) (by rfl) (by repeat (first | exact trivial | refine ⟨by first | rfl | omega, ?_⟩)) ?_ (by repeat (first | exact trivial | refine ⟨by rfl, by rfl, ?_⟩)) (by repeat (first | exact trivial | refine ⟨by rfl, by rfl, ?_⟩)); try rfl)
theorem ta_of {P : Program} {x d : Nat} {xT t' : TypeId} {yv v : Value} {ty : TypeId} {pos : String} {af : Array Edge} (h : ∀ w, (Instr.typeAssert yv xT t' true).run P w = .ok v w) (ρ : Operand → Value) (w : World) (hr : ρ (.tmp x) = yv) : (execOp ρ ⟨some d, .typeAssert (.tmp x) xT t' true, ty, pos, af, none⟩).run P w = .ok (.value v) w := by
  unfold execOp
  simp only [hr, Sem.run_bind, h, Result.andThen_ok, Sem.run_pure]
theorem tup_rep {w : World} {β : Nat → Value} {G : Blk} {ok : Nat → Prop} {cs : List AC} {v : Value} {b : Bool} (h : AG.rep w β G ok (.agg cs) v) : AV.rep w β G ok (.tup [.agg cs, .one (.v (.bool b))]) (.tuple #[v, .bool b]) :=
  ⟨_, rfl, rfl, fun j x hx => by
    match j, hx with
    | 0, hx => cases hx; exact ⟨_, rfl, h⟩
    | 1, hx => cases hx; exact ⟨_, rfl, rfl, rfl⟩⟩
set_option maxHeartbeats 4000000 in
theorem k_sg0 (s : Stp) (L : Int) (h0 : s.o = 0) (h : SOk L s) (hL : L ≤ 7) : Kon Try.prog 86 [stV s, vI L] [] (slA 0 0 (sg s L)) [gRow (sg s L)] [] := by
  have hN := k_nd0 s h0
  have hall := sg_ok h (n := 8) (by omega) (by omega)
  have hC := k_contX (sg s L) (by have := (sg_len s L).2; omega) hall
  have eg : sg s L = [⟨2, s.x, s.y, L⟩] := by unfold sg; rw [h0]; rfl
  have hgv : gok 8 ⟨2, s.x, s.y, L⟩ = true := by
    obtain ⟨_, hx, _, hy⟩ := h
    have := hy (by omega)
    unfold gok gokL okLn in8
    simp
    omega
  have hV := k_gv 8 ⟨2, s.x, s.y, L⟩
  rw [hgv] at hV
  rw [eg] at hC ⊢
  have d3 : (s.o != 3) = true := by simp [h0]
  clear h0 hall eg hgv
  (refine kon_mk T0ok (fn := Try.f86) (c := Try.f86.body.get rfl) Try.func86 rfl (by rfl) (by rfl) (by rfl) ?_; intro hfit hfe)
  (repeat refine gc_KNE ?_)
  (repeat (first | refine gs_KNE ?_ | (refine ga_KNE ?_; intro _q ⟨_he, _hq⟩)))
  (repeat refine gc_KNE ?_)
  (repeat (first | refine gs_KNE ?_ | (refine ga_KNE ?_; intro _q ⟨_he, _hq⟩)))
  (repeat refine gc_KNE ?_)
  (repeat (first | refine gs_KNE ?_ | (refine ga_KNE ?_; intro _q ⟨_he, _hq⟩)))
  (repeat refine gc_KNE ?_)
  (repeat (first | refine gs_KNE ?_ | (refine ga_KNE ?_; intro _q ⟨_he, _hq⟩)))
  (repeat refine gc_KNE ?_)
  (repeat (first | refine gs_KNE ?_ | (refine ga_KNE ?_; intro _q ⟨_he, _hq⟩)))
  (repeat (first | refine wx_region ?_ | refine aw_seq ?_ | refine aw_ct (by rfl) (by first | rfl | assumption | omega | (simp only [*, Bool.not_false, Bool.not_true]; first | done | fail) | (simp [*]; first | done | fail)) ?_ | refine aw_cf (by rfl) (by first | rfl | assumption | omega | (simp only [*, Bool.not_false, Bool.not_true]; first | done | fail) | (simp [*]; first | done | fail)) ?_ | refine ra_step ?_ | refine aw_skip ?_ | refine aw_block ?_ | refine aw_exit ?_))
  refine wx_val (b := ifc 116 (g2 s.x s.y)) (a := .tup [.agg [.v (.int .i64 s.x), .v (.int .i64 s.y)], .one (.v (.bool true))]) (yv := .iface 116 (g2 s.x s.y)) (v := .tuple #[g2 s.x s.y, .bool true]) (by rfl) (by rfl) (fun _ _ _ _ _ h => h.1) (ta_of (fun _ => by kernel_rfl)) (fun _ _ _ _ => tup_rep (cs2_rep _ _)) ?_
  refine wx_end T0ok cfU_ok (i := 1) (by rfl) ?_
  (repeat (first | refine gq_KNE ?_ | (refine ga_KNE ?_; intro _q ⟨_he, _hq⟩)))
  ((try refine aw_ret ?_); refine ret_auto2 (by rfl) (by rfl) (by rfl) (by repeat (first | exact trivial | refine ⟨by first | rfl | omega, ?_⟩)) ?_ (by repeat (first | exact trivial | refine ⟨by rfl, by rfl, ?_⟩)) (by repeat (first | exact trivial | refine ⟨by rfl, by rfl, ?_⟩)); try rfl)
set_option maxHeartbeats 4000000 in
theorem k_sg1 (s : Stp) (L : Int) (h0 : s.o = 1) (h : SOk L s) (hL : L ≤ 7) : Kon Try.prog 86 [stV s, vI L] [] (slA 0 0 (sg s L)) [gRow (sg s L)] [] := by
  have hN := k_nd1 s h0
  have hall := sg_ok h (n := 8) (by omega) (by omega)
  have hC := k_contX (sg s L) (by have := (sg_len s L).2; omega) hall
  have eg : sg s L = [⟨1, s.x, L, 0⟩, ⟨1, s.y, L, 0⟩, ⟨2, s.x, s.y, L⟩] := by unfold sg; rw [h0]; rfl
  have hgv : gok 8 ⟨2, s.x, s.y, L⟩ = true := by
    obtain ⟨_, hx, _, hy⟩ := h
    have := hy (by omega)
    unfold gok gokL okLn in8
    simp
    omega
  have hV := k_gv 8 ⟨2, s.x, s.y, L⟩
  rw [hgv] at hV
  rw [eg] at hC ⊢
  have d3 : (s.o != 3) = true := by simp [h0]
  clear h0 hall eg hgv
  (refine kon_mk T0ok (fn := Try.f86) (c := Try.f86.body.get rfl) Try.func86 rfl (by rfl) (by rfl) (by rfl) ?_; intro hfit hfe)
  (repeat refine gc_KNE ?_)
  (repeat (first | refine gs_KNE ?_ | (refine ga_KNE ?_; intro _q ⟨_he, _hq⟩)))
  (repeat refine gc_KNE ?_)
  (repeat (first | refine gs_KNE ?_ | (refine ga_KNE ?_; intro _q ⟨_he, _hq⟩)))
  (repeat refine gc_KNE ?_)
  (repeat (first | refine gs_KNE ?_ | (refine ga_KNE ?_; intro _q ⟨_he, _hq⟩)))
  (repeat refine gc_KNE ?_)
  (repeat (first | refine gs_KNE ?_ | (refine ga_KNE ?_; intro _q ⟨_he, _hq⟩)))
  (repeat refine gc_KNE ?_)
  (repeat (first | refine gs_KNE ?_ | (refine ga_KNE ?_; intro _q ⟨_he, _hq⟩)))
  (repeat (first | refine wx_region ?_ | refine aw_seq ?_ | refine aw_ct (by rfl) (by first | rfl | assumption | omega | (simp only [*, Bool.not_false, Bool.not_true]; first | done | fail) | (simp [*]; first | done | fail)) ?_ | refine aw_cf (by rfl) (by first | rfl | assumption | omega | (simp only [*, Bool.not_false, Bool.not_true]; first | done | fail) | (simp [*]; first | done | fail)) ?_ | refine ra_step ?_ | refine aw_skip ?_ | refine aw_block ?_ | refine aw_exit ?_))
  refine wx_val (b := ifc 118 (g2 s.x s.y)) (a := .tup [.agg [.v (.int .i64 0), .v (.int .i64 0)], .one (.v (.bool false))]) (yv := .iface 118 (g2 s.x s.y)) (v := .tuple #[g2 0 0, .bool false]) (by rfl) (by rfl) (fun _ _ _ _ _ h => h.1) (ta_of (fun _ => by kernel_rfl)) (fun _ _ _ _ => tup_rep (cs2_rep 0 0)) ?_
  refine wx_end T0ok cfU_ok (i := 1) (by rfl) ?_
  (repeat (first | refine gs_KNE ?_ | (refine ga_KNE ?_; intro _q ⟨_he, _hq⟩)))
  (repeat (first | refine wx_region ?_ | refine aw_seq ?_ | refine aw_ct (by rfl) (by first | rfl | assumption | omega | (simp only [*, Bool.not_false, Bool.not_true]; first | done | fail) | (simp [*]; first | done | fail)) ?_ | refine aw_cf (by rfl) (by first | rfl | assumption | omega | (simp only [*, Bool.not_false, Bool.not_true]; first | done | fail) | (simp [*]; first | done | fail)) ?_ | refine ra_step ?_ | refine aw_skip ?_ | refine aw_block ?_ | refine aw_exit ?_))
  refine wx_val (b := ifc 118 (g2 s.x s.y)) (a := .tup [.agg [.v (.int .i64 0), .v (.int .i64 0)], .one (.v (.bool false))]) (yv := .iface 118 (g2 s.x s.y)) (v := .tuple #[g2 0 0, .bool false]) (by rfl) (by rfl) (fun _ _ _ _ _ h => h.1) (ta_of (fun _ => by kernel_rfl)) (fun _ _ _ _ => tup_rep (cs2_rep 0 0)) ?_
  refine wx_end T0ok cfU_ok (i := 1) (by rfl) ?_
  (repeat (first | refine gs_KNE ?_ | (refine ga_KNE ?_; intro _q ⟨_he, _hq⟩)))
  (repeat (first | refine wx_region ?_ | refine aw_seq ?_ | refine aw_ct (by rfl) (by first | rfl | assumption | omega | (simp only [*, Bool.not_false, Bool.not_true]; first | done | fail) | (simp [*]; first | done | fail)) ?_ | refine aw_cf (by rfl) (by first | rfl | assumption | omega | (simp only [*, Bool.not_false, Bool.not_true]; first | done | fail) | (simp [*]; first | done | fail)) ?_ | refine ra_step ?_ | refine aw_skip ?_ | refine aw_block ?_ | refine aw_exit ?_))
  refine wx_val (b := ifc 118 (g2 s.x s.y)) (a := .tup [.agg [.v (.int .i64 s.x), .v (.int .i64 s.y)], .one (.v (.bool true))]) (yv := .iface 118 (g2 s.x s.y)) (v := .tuple #[g2 s.x s.y, .bool true]) (by rfl) (by rfl) (fun _ _ _ _ _ h => h.1) (ta_of (fun _ => by kernel_rfl)) (fun _ _ _ _ => tup_rep (cs2_rep _ _)) ?_
  refine wx_end T0ok cfU_ok (i := 1) (by rfl) ?_
  (repeat (first | refine gq_KNE ?_ | (refine ga_KNE ?_; intro _q ⟨_he, _hq⟩)))
  (repeat (first | refine gq_KNE ?_ | (refine ga_KNE ?_; intro _q ⟨_he, _hq⟩) | refine gd_KNE ?_))
  (repeat (first | refine gq_KNE ?_ | (refine ga_KNE ?_; intro _q ⟨_he, _hq⟩)))
  ((try refine aw_ret ?_); refine ret_auto2 (by rfl) (by rfl) (by rfl) (by repeat (first | exact trivial | refine ⟨by first | rfl | omega, ?_⟩)) ?_ (by repeat (first | exact trivial | refine ⟨by rfl, by rfl, ?_⟩)) (by repeat (first | exact trivial | refine ⟨by rfl, by rfl, ?_⟩)); try rfl)
set_option maxHeartbeats 4000000 in
theorem k_sg2 (s : Stp) (L : Int) (h0 : s.o = 2) (h : SOk L s) (hL : L ≤ 7) : Kon Try.prog 86 [stV s, vI L] [] (slA 0 0 (sg s L)) [gRow (sg s L)] [] := by
  have hN := k_nd2 s h0
  have hall := sg_ok h (n := 8) (by omega) (by omega)
  have hC := k_contX (sg s L) (by have := (sg_len s L).2; omega) hall
  have eg : sg s L = [⟨1, s.x, L, 0⟩, ⟨1, s.y, L, 0⟩] := by unfold sg; rw [h0]; rfl
  have hgv : gok 8 ⟨2, s.x, s.y, L⟩ = true := by
    obtain ⟨_, hx, _, hy⟩ := h
    have := hy (by omega)
    unfold gok gokL okLn in8
    simp
    omega
  have hV := k_gv 8 ⟨2, s.x, s.y, L⟩
  rw [hgv] at hV
  rw [eg] at hC ⊢
  have d3 : (s.o != 3) = true := by simp [h0]
  clear h0 hall eg hgv
  (refine kon_mk T0ok (fn := Try.f86) (c := Try.f86.body.get rfl) Try.func86 rfl (by rfl) (by rfl) (by rfl) ?_; intro hfit hfe)
  (repeat refine gc_KNE ?_)
  (repeat (first | refine gs_KNE ?_ | (refine ga_KNE ?_; intro _q ⟨_he, _hq⟩)))
  (repeat refine gc_KNE ?_)
  (repeat (first | refine gs_KNE ?_ | (refine ga_KNE ?_; intro _q ⟨_he, _hq⟩)))
  (repeat refine gc_KNE ?_)
  (repeat (first | refine gs_KNE ?_ | (refine ga_KNE ?_; intro _q ⟨_he, _hq⟩)))
  (repeat refine gc_KNE ?_)
  (repeat (first | refine gs_KNE ?_ | (refine ga_KNE ?_; intro _q ⟨_he, _hq⟩)))
  (repeat refine gc_KNE ?_)
  (repeat (first | refine gs_KNE ?_ | (refine ga_KNE ?_; intro _q ⟨_he, _hq⟩)))
  (repeat (first | refine wx_region ?_ | refine aw_seq ?_ | refine aw_ct (by rfl) (by first | rfl | assumption | omega | (simp only [*, Bool.not_false, Bool.not_true]; first | done | fail) | (simp [*]; first | done | fail)) ?_ | refine aw_cf (by rfl) (by first | rfl | assumption | omega | (simp only [*, Bool.not_false, Bool.not_true]; first | done | fail) | (simp [*]; first | done | fail)) ?_ | refine ra_step ?_ | refine aw_skip ?_ | refine aw_block ?_ | refine aw_exit ?_))
  refine wx_val (b := ifc 117 (g2 s.x s.y)) (a := .tup [.agg [.v (.int .i64 0), .v (.int .i64 0)], .one (.v (.bool false))]) (yv := .iface 117 (g2 s.x s.y)) (v := .tuple #[g2 0 0, .bool false]) (by rfl) (by rfl) (fun _ _ _ _ _ h => h.1) (ta_of (fun _ => by kernel_rfl)) (fun _ _ _ _ => tup_rep (cs2_rep 0 0)) ?_
  refine wx_end T0ok cfU_ok (i := 1) (by rfl) ?_
  (repeat (first | refine gs_KNE ?_ | (refine ga_KNE ?_; intro _q ⟨_he, _hq⟩)))
  (repeat (first | refine wx_region ?_ | refine aw_seq ?_ | refine aw_ct (by rfl) (by first | rfl | assumption | omega | (simp only [*, Bool.not_false, Bool.not_true]; first | done | fail) | (simp [*]; first | done | fail)) ?_ | refine aw_cf (by rfl) (by first | rfl | assumption | omega | (simp only [*, Bool.not_false, Bool.not_true]; first | done | fail) | (simp [*]; first | done | fail)) ?_ | refine ra_step ?_ | refine aw_skip ?_ | refine aw_block ?_ | refine aw_exit ?_))
  refine wx_val (b := ifc 117 (g2 s.x s.y)) (a := .tup [.agg [.v (.int .i64 s.x), .v (.int .i64 s.y)], .one (.v (.bool true))]) (yv := .iface 117 (g2 s.x s.y)) (v := .tuple #[g2 s.x s.y, .bool true]) (by rfl) (by rfl) (fun _ _ _ _ _ h => h.1) (ta_of (fun _ => by kernel_rfl)) (fun _ _ _ _ => tup_rep (cs2_rep _ _)) ?_
  refine wx_end T0ok cfU_ok (i := 1) (by rfl) ?_
  (repeat (first | refine gq_KNE ?_ | (refine ga_KNE ?_; intro _q ⟨_he, _hq⟩)))
  (repeat (first | refine gq_KNE ?_ | (refine ga_KNE ?_; intro _q ⟨_he, _hq⟩) | refine gd_KNE ?_))
  (repeat (first | refine gq_KNE ?_ | (refine ga_KNE ?_; intro _q ⟨_he, _hq⟩)))
  ((try refine aw_ret ?_); refine ret_auto2 (by rfl) (by rfl) (by rfl) (by repeat (first | exact trivial | refine ⟨by first | rfl | omega, ?_⟩)) ?_ (by repeat (first | exact trivial | refine ⟨by rfl, by rfl, ?_⟩)) (by repeat (first | exact trivial | refine ⟨by rfl, by rfl, ?_⟩)); try rfl)
set_option maxHeartbeats 4000000 in
theorem k_sg3 (s : Stp) (L : Int) (h0 : s.o = 3) (h : SOk L s) (hL : L ≤ 7) : Kon Try.prog 86 [stV s, vI L] [] (slA 0 0 (sg s L)) [gRow (sg s L)] [] := by
  have hN := k_nd3 s h0
  have hall := sg_ok h (n := 8) (by omega) (by omega)
  have hC := k_contX (sg s L) (by have := (sg_len s L).2; omega) hall
  have eg : sg s L = [⟨1, s.x, L, 0⟩, ⟨0, L, 0, 0⟩] := by unfold sg; rw [h0]; rfl
  rw [eg] at hC ⊢
  have d3 : (s.o != 3) = false := by simp [h0]
  clear h0 hall eg
  (refine kon_mk T0ok (fn := Try.f86) (c := Try.f86.body.get rfl) Try.func86 rfl (by rfl) (by rfl) (by rfl) ?_; intro hfit hfe)
  (repeat refine gc_KNE ?_)
  (repeat (first | refine gs_KNE ?_ | (refine ga_KNE ?_; intro _q ⟨_he, _hq⟩)))
  (repeat refine gc_KNE ?_)
  (repeat (first | refine gs_KNE ?_ | (refine ga_KNE ?_; intro _q ⟨_he, _hq⟩)))
  (repeat refine gc_KNE ?_)
  (repeat (first | refine gs_KNE ?_ | (refine ga_KNE ?_; intro _q ⟨_he, _hq⟩)))
  (repeat refine gc_KNE ?_)
  (repeat (first | refine gs_KNE ?_ | (refine ga_KNE ?_; intro _q ⟨_he, _hq⟩)))
  (repeat refine gc_KNE ?_)
  (repeat (first | refine gs_KNE ?_ | (refine ga_KNE ?_; intro _q ⟨_he, _hq⟩)))
  (repeat (first | refine wx_region ?_ | refine aw_seq ?_ | refine aw_ct (by rfl) (by first | rfl | assumption | omega | (simp only [*, Bool.not_false, Bool.not_true]; first | done | fail) | (simp [*]; first | done | fail)) ?_ | refine aw_cf (by rfl) (by first | rfl | assumption | omega | (simp only [*, Bool.not_false, Bool.not_true]; first | done | fail) | (simp [*]; first | done | fail)) ?_ | refine ra_step ?_ | refine aw_skip ?_ | refine aw_block ?_ | refine aw_exit ?_))
  refine wx_val (b := ifc 120 (g1 s.x)) (a := .tup [.agg [.v (.int .i64 0), .v (.int .i64 0)], .one (.v (.bool false))]) (yv := .iface 120 (g1 s.x)) (v := .tuple #[g2 0 0, .bool false]) (by rfl) (by rfl) (fun _ _ _ _ _ h => h.1) (ta_of (fun _ => by kernel_rfl)) (fun _ _ _ _ => tup_rep (cs2_rep 0 0)) ?_
  refine wx_end T0ok cfU_ok (i := 1) (by rfl) ?_
  (repeat (first | refine gs_KNE ?_ | (refine ga_KNE ?_; intro _q ⟨_he, _hq⟩)))
  (repeat (first | refine wx_region ?_ | refine aw_seq ?_ | refine aw_ct (by rfl) (by first | rfl | assumption | omega | (simp only [*, Bool.not_false, Bool.not_true]; first | done | fail) | (simp [*]; first | done | fail)) ?_ | refine aw_cf (by rfl) (by first | rfl | assumption | omega | (simp only [*, Bool.not_false, Bool.not_true]; first | done | fail) | (simp [*]; first | done | fail)) ?_ | refine ra_step ?_ | refine aw_skip ?_ | refine aw_block ?_ | refine aw_exit ?_))
  refine wx_val (b := ifc 120 (g1 s.x)) (a := .tup [.agg [.v (.int .i64 0), .v (.int .i64 0)], .one (.v (.bool false))]) (yv := .iface 120 (g1 s.x)) (v := .tuple #[g2 0 0, .bool false]) (by rfl) (by rfl) (fun _ _ _ _ _ h => h.1) (ta_of (fun _ => by kernel_rfl)) (fun _ _ _ _ => tup_rep (cs2_rep 0 0)) ?_
  refine wx_end T0ok cfU_ok (i := 1) (by rfl) ?_
  (repeat (first | refine gs_KNE ?_ | (refine ga_KNE ?_; intro _q ⟨_he, _hq⟩)))
  (repeat (first | refine wx_region ?_ | refine aw_seq ?_ | refine aw_ct (by rfl) (by first | rfl | assumption | omega | (simp only [*, Bool.not_false, Bool.not_true]; first | done | fail) | (simp [*]; first | done | fail)) ?_ | refine aw_cf (by rfl) (by first | rfl | assumption | omega | (simp only [*, Bool.not_false, Bool.not_true]; first | done | fail) | (simp [*]; first | done | fail)) ?_ | refine ra_step ?_ | refine aw_skip ?_ | refine aw_block ?_ | refine aw_exit ?_))
  refine wx_val (b := ifc 120 (g1 s.x)) (a := .tup [.agg [.v (.int .i64 0), .v (.int .i64 0)], .one (.v (.bool false))]) (yv := .iface 120 (g1 s.x)) (v := .tuple #[g2 0 0, .bool false]) (by rfl) (by rfl) (fun _ _ _ _ _ h => h.1) (ta_of (fun _ => by kernel_rfl)) (fun _ _ _ _ => tup_rep (cs2_rep 0 0)) ?_
  refine wx_end T0ok cfU_ok (i := 1) (by rfl) ?_
  (repeat (first | refine gs_KNE ?_ | (refine ga_KNE ?_; intro _q ⟨_he, _hq⟩)))
  (repeat (first | refine wx_region ?_ | refine aw_seq ?_ | refine aw_ct (by rfl) (by first | rfl | assumption | omega | (simp only [*, Bool.not_false, Bool.not_true]; first | done | fail) | (simp [*]; first | done | fail)) ?_ | refine aw_cf (by rfl) (by first | rfl | assumption | omega | (simp only [*, Bool.not_false, Bool.not_true]; first | done | fail) | (simp [*]; first | done | fail)) ?_ | refine ra_step ?_ | refine aw_skip ?_ | refine aw_block ?_ | refine aw_exit ?_))
  refine wx_val (b := ifc 120 (g1 s.x)) (a := .tup [.agg [.v (.int .i64 s.x)], .one (.v (.bool true))]) (yv := .iface 120 (g1 s.x)) (v := .tuple #[g1 s.x, .bool true]) (by rfl) (by rfl) (fun _ _ _ _ _ h => h.1) (ta_of (fun _ => by kernel_rfl)) (fun _ _ _ _ => tup_rep (cs1_rep _)) ?_
  refine wx_end T0ok cfU_ok (i := 1) (by rfl) ?_
  (repeat (first | refine gq_KNE ?_ | (refine ga_KNE ?_; intro _q ⟨_he, _hq⟩)))
  (repeat (first | refine gq_KNE ?_ | (refine ga_KNE ?_; intro _q ⟨_he, _hq⟩) | refine gd_KNE ?_))
  (repeat (first | refine gq_KNE ?_ | (refine ga_KNE ?_; intro _q ⟨_he, _hq⟩)))
  ((try refine aw_ret ?_); refine ret_auto2 (by rfl) (by rfl) (by rfl) (by repeat (first | exact trivial | refine ⟨by first | rfl | omega, ?_⟩)) ?_ (by repeat (first | exact trivial | refine ⟨by rfl, by rfl, ?_⟩)) (by repeat (first | exact trivial | refine ⟨by rfl, by rfl, ?_⟩)); try rfl)
end Go.Proofs.Ytdihmpclbgbgpaa

/- impl.backwards of gates: the list in the other order, in fresh memory. -/
namespace Go.Proofs.Ytdihmpclbgbgpaa
set_option linter.unusedVariables false
set_option linter.unusedSimpArgs false
open Go.RowKit Go.Shelf
attribute [local go_sem] Oper.semAt_some
abbrev gvl (g : Gt) : Value := .agg #[.int .i64 g.k, .int .i64 g.a, .int .i64 g.b, .int .i64 g.c]
def upto {α : Type} (f : Nat → α) (k : Nat) : List α := (List.range k).map f
theorem upto_succ {α : Type} (f : Nat → α) (k : Nat) : upto f (k + 1) = upto f k ++ [f k] := by simp [upto, List.range_succ]
theorem upto_length {α : Type} (f : Nat → α) (k : Nat) : (upto f k).length = k := by simp [upto]
/-- What a round keeps: what lay below n₀, and the captured box. -/
def K2 (n₀ Bs : Nat) (W W' : World) : Prop := Below n₀ W W' ∧ ∀ v, Boxed W Bs 26 v → Boxed W' Bs 26 v
theorem K2.refl (n₀ Bs : Nat) (W : World) : K2 n₀ Bs W W := ⟨Below.refl _ _, fun _ h => h⟩
theorem K2.trans {n₀ Bs : Nat} {A B C : World} (h : K2 n₀ Bs A B) (k : K2 n₀ Bs B C) : K2 n₀ Bs A C := ⟨h.1.trans k.1, fun v b => k.2 v (h.2 v b)⟩
theorem K2_t {n₀ Bs : Nat} {A B C : World} (h : K2 n₀ Bs A B) (k : K2 n₀ Bs B C) : K2 n₀ Bs A C := h.trans k
theorem K2_b {n₀ Bs : Nat} {w : World} (hn : n₀ ≤ w.heap.size) (W : World) (l : Nat) (o o' : Obj) (hl : w.heap.size ≤ l) (h : W.heap[l]? = some o) (ho : o.isCells = false) (hw : o.isWalk = false) : K2 n₀ Bs W (W.putObj l o') :=
  ⟨belowK_b hn W l o o' hl h ho hw, fun v b => b.kept (grownBy_putObj' W l o') (fun e => by cases e; rw [show W.heap[Bs]? = _ from b] at h; cases h; cases ho)⟩
set_option maxRecDepth 100000 in
set_option maxHeartbeats 2000000 in
/-- slices.Backward's closure, for every loop body that keeps what lay below n₀. -/
theorem bw1_in (F : Fence) (n : Nat) (h7 : F.fn 110) (hro : F.round = none) (hn : 1 ≤ n) (l Bs n₀ b off len cap : Nat) (f : Nat → Gt) (hreach : len * 32 ≤ 140737488351232) (hb : b < n₀) (J Jx : List (Int × Gt) → World → Prop)
    (hY : ∀ pre x W, J pre W → pre.length < len → YieldAt F (n - 1) Try.prog l #[.int .i64 x.1, gvl x.2] W fun e W' =>
      (e = .returned (.bool true) ∧ J (pre ++ [x]) W' ∧ K2 n₀ Bs W W') ∨ (e = .returned (.bool false) ∧ Jx (pre ++ [x]) W'))
    (W : World) (hBs : Boxed W Bs 26 (.slice (some ⟨b, off, none⟩) len cap)) (hc : ∀ j, j < len → W.cell? ⟨b, off + j * 4, none⟩ = some (.int .i64 (f j).k) ∧ W.cell? ⟨b, off + j * 4 + 1, none⟩ = some (.int .i64 (f j).a) ∧ W.cell? ⟨b, off + j * 4 + 2, none⟩ = some (.int .i64 (f j).b) ∧ W.cell? ⟨b, off + j * 4 + 3, none⟩ = some (.int .i64 (f j).c)) (h0 : J [] W) :
    CallsIn F n Try.prog 110 #[.func (.yield l) #[] #[], .pointer (some ⟨Bs, 0, none⟩)] W fun e W' => (∃ v, e = .returned v) ∧
      ((∃ ys, ys = upto (fun j => ((len : Int) - 1 - j, f (len - 1 - j))) len ∧ J ys W') ∨ (∃ pre, (∃ k, k ≤ len ∧ pre = upto (fun j => ((len : Int) - 1 - j, f (len - 1 - j))) k) ∧ Jx pre W')) := by
  refine callsIn_of_wp Try.func110 rfl h7 ?_ hro
  simp only [Try.ntmps110, List.size_toArray, List.length_cons, List.length_nil, Nat.reduceAdd, Nat.reduceSub, Array.replicate_succ, Array.replicate_zero, List.push_toArray, List.append_toArray, List.nil_append, List.cons_append]
  have hBs0 := hBs.cell
  gi_wp2
  gi_loopw [3] (fun i wr => ∃ k : Nat, k ≤ len ∧ i = .int .i64 ((len : Int) - 1 - k) ∧ J (upto (fun j => ((len : Int) - 1 - j, f (len - 1 - j))) k) wr ∧ K2 n₀ Bs W wr)
    (fun i _ => (intOf i + 1).toNat)
  case atStart => exact ⟨0, Nat.zero_le _, by simp, h0, K2.refl _ _ _⟩
  case round =>
    obtain ⟨k, hk, rfl, hJs, hnx⟩ := hrel
    have hBs' := (hnx.2 _ hBs).cell
    by_cases hlt : k < len
    · obtain ⟨fn, tmps, assign, body, hy, hR⟩ := hY _ ((len : Int) - 1 - k, f (len - 1 - k)) wr hJs (by rw [upto_length]; exact hlt)
      dsimp only at hy
      obtain ⟨m, hm⟩ : ∃ m : Nat, len - 1 - k = m := ⟨_, rfl⟩
      have hm2 : (len : Int) - 1 - k = (m : Int) := by omega
      rw [hm2, hm] at hy
      obtain ⟨c0, c1, c2, c3⟩ := hc m (by omega)
      have c0 := (hnx.1.cell (p := ⟨b, off + m * 4, none⟩) hb).trans c0
      have c1 := (hnx.1.cell (p := ⟨b, off + m * 4 + 1, none⟩) hb).trans c1
      have c2 := (hnx.1.cell (p := ⟨b, off + m * 4 + 2, none⟩) hb).trans c2
      have c3 := (hnx.1.cell (p := ⟨b, off + m * 4 + 3, none⟩) hb).trans c3
      rw [hm2]
      gi_wp2
      refine hR.mono ?_
      rintro e W3 (⟨rfl, hJ3, hk3⟩ | ⟨rfl, hJx3⟩)
      · gi_wp2
        go_roundw
        case rel => exact ⟨k + 1, by omega, by simp; omega, by rw [upto_succ]; exact hJ3, hnx.trans hk3⟩
        case measure => simp [intOf]
      · gi_wp2
        refine bodyPost_ret (results_none rfl _ _ _) rfl ?_
        exact ⟨⟨_, rfl⟩, .inr ⟨_, ⟨k + 1, by omega, (upto_succ _ _).symm⟩, hJx3⟩⟩
    · obtain rfl : k = len := by omega
      rw [show (k : Int) - 1 - k = -1 by omega]
      gi_wp2
      go_end0
      exact ⟨⟨_, rfl⟩, .inl ⟨_, rfl, hJs⟩⟩
set_option maxRecDepth 100000 in
set_option maxHeartbeats 1000000 in
/-- .. at the nil slice: no round. -/
theorem bw1_nil_in (F : Fence) (n : Nat) (h7 : F.fn 110) (hro : F.round = none) (l Bs cap : Nat) (A : Option Addr) (J : List (Int × Gt) → World → Prop) (W : World) (hBs : W.cell? ⟨Bs, 0, none⟩ = some (.slice A 0 cap)) (h0 : J [] W) :
    CallsIn F n Try.prog 110 #[.func (.yield l) #[] #[], .pointer (some ⟨Bs, 0, none⟩)] W fun e W' => (∃ v, e = .returned v) ∧ J [] W' := by
  refine callsIn_of_wp Try.func110 rfl h7 ?_ hro
  simp only [Try.ntmps110, List.size_toArray, List.length_cons, List.length_nil, Nat.reduceAdd, Nat.reduceSub, Array.replicate_succ, Array.replicate_zero, List.push_toArray, List.append_toArray, List.nil_append, List.cons_append]
  gi_wp2
  gi_loopw [3] (fun i wr => i = .int .i64 (-1) ∧ J [] wr) (fun _ _ => 0)
  case atStart => exact ⟨rfl, h0⟩
  case round =>
    obtain ⟨rfl, hJs⟩ := hrel
    gi_wp2
    go_end0
    exact ⟨⟨_, rfl⟩, hJs⟩
set_option maxHeartbeats 1000000 in
/-- slices.Backward(s): the slice value is boxed; the function value captures the box. -/
theorem bw_in (F : Fence) (n : Nat) (h5 : F.fn 95) (hro : F.round = none) (a : Option Addr) (len cap : Nat) (w : World) :
    CallsIn F n Try.prog 95 #[.slice a len cap] w fun e w' => e = .returned (.func (.func 110) #[] #[.pointer (some ⟨w.heap.size, 0, none⟩)]) ∧ w' = w.alloc (.cells #[.slice a len cap] 26) := by
  refine callsIn_of_wp Try.func95 rfl h5 ?_ hro
  simp only [Try.ntmps95, List.size_toArray, List.length_cons, List.length_nil, Nat.reduceAdd, Nat.reduceSub, Array.replicate_succ, Array.replicate_zero, List.push_toArray, List.append_toArray, List.nil_append, List.cons_append]
  gi_wp2
  go_ret
  exact ⟨rfl, rfl⟩
/-- The slice value holds gates, in a block below n₀; or there are none. -/
def HoldsG (n₀ : Nat) (W : World) (sv : Value) (len : Nat) (f : Nat → Gt) : Prop :=
  (∃ A cap, sv = .slice A 0 cap ∧ len = 0) ∨ ∃ b off cap, sv = .slice (some ⟨b, off, none⟩) len cap ∧ b < n₀ ∧ ∀ j, j < len → W.cell? ⟨b, off + j * 4, none⟩ = some (.int .i64 (f j).k) ∧ W.cell? ⟨b, off + j * 4 + 1, none⟩ = some (.int .i64 (f j).a) ∧ W.cell? ⟨b, off + j * 4 + 2, none⟩ = some (.int .i64 (f j).b) ∧ W.cell? ⟨b, off + j * 4 + 3, none⟩ = some (.int .i64 (f j).c)
theorem HoldsG.below {n₀ : Nat} {A B : World} (h : Below n₀ A B) {sv : Value} {len : Nat} {f : Nat → Gt} : HoldsG n₀ A sv len f → HoldsG n₀ B sv len f
  | .inl e => .inl e
  | .inr ⟨b, off, cap, e, hb, hc⟩ => .inr ⟨b, off, cap, e, hb, fun j hj => by
    obtain ⟨c0, c1, c2, c3⟩ := hc j hj
    exact ⟨(h.cell (p := ⟨b, off + j * 4, none⟩) hb).trans c0, (h.cell (p := ⟨b, off + j * 4 + 1, none⟩) hb).trans c1, (h.cell (p := ⟨b, off + j * 4 + 2, none⟩) hb).trans c2, (h.cell (p := ⟨b, off + j * 4 + 3, none⟩) hb).trans c3⟩⟩
def bwL (len : Nat) (f : Nat → Gt) (k : Nat) : List (Int × Gt) := upto (fun j => ((len : Int) - 1 - j, f (len - 1 - j))) k
theorem bw_stops (F : Fence) (n : Nat) (h7 : F.fn 110) (hro : F.round = none) (hn : 1 ≤ n) (Bs n₀ : Nat) (sv : Value) (len : Nat) (f : Nat → Gt) (hreach : len * 32 ≤ 140737488351232) (w : World) (hBs : Bs < w.heap.size) (hn₀ : n₀ ≤ w.heap.size)
    (hc : Boxed w Bs 26 sv) (hI : HoldsG n₀ w sv len f) :
    SeqStopsK F n Try.prog 110 #[.pointer (some ⟨Bs, 0, none⟩)] (fun x : Int × Gt => #[.int .i64 x.1, gvl x.2]) (K2 n₀ Bs) (fun ys => ys = bwL len f len) (fun pre => ∃ k, k ≤ len ∧ pre = bwL len f k) len w := fun l J Jx W hW _ _ hY h0 => by
  have hc' : Boxed W Bs _ _ := (hW.block Bs hBs).trans hc
  rcases hI.below (hW.mono hn₀) with ⟨A, cap, rfl, rfl⟩ | ⟨b, off, cap, rfl, hb, hcs⟩
  · exact (bw1_nil_in F n h7 hro l Bs cap A J W hc'.cell h0).mono fun e W' ⟨he, hj⟩ => ⟨he, .inl ⟨_, rfl, hj⟩⟩
  · exact bw1_in F n h7 hro hn l Bs n₀ b off len cap f hreach hb J Jx hY W hc' hcs h0
theorem infoG : (Try.prog.info? 57).map (fun i => (i.zero, i.size, i.bytes)) = some (some (gvl ⟨0, 0, 0, 0⟩), 4, 32) := by kernel_rfl
theorem cells4_new (w : World) (k a b c : Value) (t : TypeId) : ∀ j u, [k, a, b, c][j]? = some u → (w.alloc (.cells #[k, a, b, c] t)).cell? ((⟨w.heap.size, 0, none⟩ : Addr).add j) = some u := by
  intro j u hj
  match j, hj with
  | 0, hj => simp at hj; subst hj; simp [Addr.add]
  | 1, hj => simp at hj; subst hj; simp [Addr.add]
  | 2, hj => simp at hj; subst hj; simp [Addr.add]
  | 3, hj => simp at hj; subst hj; simp [Addr.add]
  | j + 4, hj => simp at hj
theorem cells4_own {k a b c : Value} {t Bx : Nat} {X Y : World} {row : Option Nat} (h : X.heap[Bx]? = some (.cells #[k, a, b, c] t (0, 0))) (hg : X.grownBy Y row) (hr : ∀ r, row = some r → ∃ o : Obj, X.heap[r]? = some o ∧ o.isCells = false) : Y.heap[Bx]? = some (.cells #[k, a, b, c] t (0, 0)) :=
  (hg.block Bx (Array.getElem?_eq_some_iff.1 h).1 (fun e => by obtain ⟨o, h1, h2⟩ := hr Bx e.symm; rw [h] at h1; cases h1; cases h2)).trans h
set_option maxRecDepth 100000 in
set_option maxHeartbeats 2000000 in
theorem back_in (F : Fence) (n : Nat) (h3 : F.fn 57) (h4 : F.fn 95) (h5 : F.fn 110) (hro : F.round = none) (hn : 3 ≤ n) (A : Option Addr) (len cap : Nat) (f : Nat → Gt) (hlen : len ≤ 1000000) (w : World) (hL : HoldsG w.heap.size w (.slice A len cap) len f) :
    CallsIn F n Try.prog 57 #[.slice A len cap] w fun e W' => ∃ v, e = .returned v ∧ W'.ownsRow w.heap.size 57 4 v len (cV ((bwL len f len).map (·.2))) ∧ Below w.heap.size w W' := by
  have h1 : 1 ≤ n := by omega
  obtain ⟨i0, hi, hz0, hz1, hz2⟩ := info_parts infoG
  obtain ⟨M, hM⟩ : ∃ M, madeCells (gvl ⟨0, 0, 0, 0⟩).cells (len * i0.size) = M := ⟨_, rfl⟩
  have hmk : (Instr.makeSlice 26 (.int .i64 0) (.int .i64 len)).run Try.prog w = .ok (.slice (some ⟨w.heap.size, 0, none⟩) 0 len) (w.alloc (.cells M 57)) := by
    have := run_make (P := Try.prog) w 26 57 i0 (gvl ⟨0, 0, 0, 0⟩) Try.underlying26 hi hz0 .i64 .i64 0 (len : Nat) (by omega) (by omega) (by rw [hz2]; omega) (by omega)
    rw [← hM]
    simpa using this
  refine callsIn_of_wp_marks Try.func57 rfl h3 ?_ hro
  simp only [Try.ntmps57, List.size_toArray, List.length_cons, List.length_nil, Nat.reduceAdd, Nat.reduceSub, Array.replicate_succ, Array.replicate_zero, List.push_toArray, List.append_toArray, List.nil_append, List.cons_append]
  gi_wp2_with (gi_at_call 95; refine (bw_in F (n - 1) h4 hro _ _ _ _).mono ?_; rintro e w' ⟨rfl, rfl⟩)
  have bO := (Boxed.new (w.alloc (.cells M 57)) 26 (.slice (some ⟨w.heap.size, 0, none⟩) 0 len)).alloc (.cells #[.slice A len cap] 26)
  have bN := Boxed.new ((w.alloc (.cells M 57)).alloc (.cells #[.slice (some ⟨w.heap.size, 0, none⟩) 0 len] 26)) 26 (.slice A len cap)
  have bR : (((w.alloc (.cells M 57)).alloc (.cells #[.slice (some ⟨w.heap.size, 0, none⟩) 0 len] 26)).alloc (.cells #[.slice A len cap] 26)).ownsRow w.heap.size 57 4 (.slice (some ⟨w.heap.size, 0, none⟩) 0 len) 0 [] := World.ownsRow.alloc (World.ownsRow.alloc ⟨rfl, .inr ⟨_, len, M, rfl, Nat.le_refl _, World.alloc_heap_new w _, Nat.zero_le _, by simp [maxLen]; omega, by rw [← hM, size_madeCells, hz1], by simp⟩⟩ _) _
  have hB0 : Below w.heap.size w (((w.alloc (.cells M 57)).alloc (.cells #[.slice (some ⟨w.heap.size, 0, none⟩) 0 len] 26)).alloc (.cells #[.slice A len cap] 26)) := (((Below.refl _ w).alloc (Nat.le_refl _) _).alloc (by simp) _).alloc (by simp; omega) _
  simp only [World.size_alloc] at bO bN
  have hsz : (((w.alloc (.cells M 57)).alloc (.cells #[.slice (some ⟨w.heap.size, 0, none⟩) 0 len] 26)).alloc (.cells #[.slice A len cap] 26)).heap.size = w.heap.size + 3 := by simp
  obtain ⟨W0, hW0⟩ : ∃ W0, ((w.alloc (.cells M 57)).alloc (.cells #[.slice (some ⟨w.heap.size, 0, none⟩) 0 len] 26)).alloc (.cells #[.slice A len cap] 26) = W0 := ⟨_, rfl⟩
  rw [hW0] at bO bN bR hB0 hsz ⊢
  clear hW0
  refine wpIn_rangeFunc_ownH hro h1 (gf := 110) (lb := #[.pointer (some ⟨w.heap.size + 1 + 1, 0, none⟩)]) rfl h5 (Go.Proofs.enters_of Try.func110 (by kernel_rfl) rfl)
    (bw_stops F (n - 1) h5 hro (by omega) (w.heap.size + 1 + 1) w.heap.size _ len f (by omega) W0 (by omega) (by omega) bN (hL.below hB0)) K2_t (K2_b (by omega)) (Below.refl _ _) (fun _ => rfl)
    (fun pre W => ((∃ v, Boxed W (w.heap.size + 1) 26 v ∧ W.ownsRow w.heap.size 57 4 v pre.length (cV (pre.map (·.2))) ∧ True) ∧ Boxed W (w.heap.size + 1 + 1) 26 (.slice A len cap)) ∧ Below w.heap.size w W)
    (fun _ _ _ => False)
    (OwnFrom.and (OwnFrom.and (Own.from (holdsRow_own w.heap.size (w.heap.size + 1) 26 57 4 (fun (pre : List (Int × Gt)) => pre.length) (fun pre => cV (pre.map (·.2))) (fun _ _ => True)) _) (Own.from (boxed_own _ _ _) _)) (ownFrom_below (Nat.le_refl _) (by omega)))
    (fun _ _ _ _ _ hs _ _ => hs)
    ⟨⟨⟨_, bO, bR, trivial⟩, bN⟩, hB0⟩
    (fun x a' W => ∃ Bx, w.heap.size + 1 + 1 < Bx ∧ W.heap[Bx]? = some (.cells #[.int .i64 x.2.k, .int .i64 x.2.a, .int .i64 x.2.b, .int .i64 x.2.c] 57 (0, 0)) ∧ a' = { tmps := #[.slice A len cap, undef, .slice none 0 0, .pointer (some ⟨w.heap.size + 1, 0, none⟩), undef, .pointer (some ⟨Bx, 0, none⟩), .slice A len cap, .int .i64 len, .slice (some ⟨w.heap.size, 0, none⟩) 0 len, .slice A len cap, .func (.func 110) #[] #[.pointer (some ⟨w.heap.size + 1 + 1, 0, none⟩)], .int .i64 x.1, gvl x.2, undef, undef, undef, undef, undef], defers := [] })
    (fun x a' _ X Y row hs hg hr => by obtain ⟨Bx, h1, h2, h3⟩ := hs; exact ⟨Bx, h1, cells4_own h2 hg (fun r e => (hr r e).2), h3⟩)
    ?assign ?body ?done ?stop
  case assign =>
    rintro l pre x W K ⟨⟨⟨v, bO1, bR1, _⟩, bN1⟩, hB1⟩ hK
    gi_wp2
    have hkb : ∀ v, Boxed W (w.heap.size + 1 + 1) 26 v → Boxed (W.alloc (.cells #[.int .i64 x.2.k, .int .i64 x.2.a, .int .i64 x.2.b, .int .i64 x.2.c] 57)) (w.heap.size + 1 + 1) 26 v := fun v b => b.alloc _
    exact hK _ _ ((KeepsOthers.alloc _ _).from _) ⟨(Below.refl _ W).alloc hB1.size _, hkb⟩ ⟨⟨⟨_, bO1.alloc _, bR1.alloc _, trivial⟩, hkb _ bN1⟩, hB1.alloc hB1.size _⟩ ⟨W.heap.size, bN1.lt, World.alloc_heap_new W _, rfl⟩
  case body =>
    rintro l pre x a' W hl ⟨r, hr⟩ ⟨⟨⟨v, bO1, bR1, _⟩, bN1⟩, hB1⟩ ⟨Bx, hBx, bX, rfl⟩ hlt
    have cO := bO1.cell
    have c0 : W.cell? ⟨Bx, 0, none⟩ = some (.int .i64 x.2.k) := by simp [World.cell?, bX]
    have c1 : W.cell? ⟨Bx, 1, none⟩ = some (.int .i64 x.2.a) := by simp [World.cell?, bX]
    have c2 : W.cell? ⟨Bx, 2, none⟩ = some (.int .i64 x.2.b) := by simp [World.cell?, bX]
    have c3 : W.cell? ⟨Bx, 3, none⟩ = some (.int .i64 x.2.c) := by simp [World.cell?, bX]
    gi_wp2_with (gi_at_builtin; refine wpListIn_append_own _ rfl _ _ 26 rfl w.heap.size 57 i0 (gvl ⟨0, 0, 0, 0⟩) 4 32 Try.underlying26 hi hz0 hz1 hz2 rfl (by decide) _ _ _ rfl (bR1.alloc _) ⟨W.heap.size, 0, none⟩ 1 1 [.int .i64 x.2.k, .int .i64 x.2.a, .int .i64 x.2.b, .int .i64 x.2.c] rfl rfl (cells4_new _ _ _ _ _ _) (by simp [Value.oneCell']) (by simp [maxLen]; omega) (by omega) (by have := hB1.size; simp; omega) ?_; intro v' w1 hown' hgrow _; obtain ⟨g', cap', rfl⟩ := ownsRow_succ hown'; obtain ⟨hv1, hv2, hr2, hk2, hb2⟩ := bO1.appended (by decide) bR1 hB1.size (by omega) hown' hgrow; have hc1 := hv1.cell; have hf1 := hv1.frozen)
    have hbk : ∀ v, Boxed W (w.heap.size + 1 + 1) 26 v → Boxed (w1.setCell ⟨w.heap.size + 1, 0, none⟩ (.slice (some ⟨g', 0, none⟩) (pre.length + 1) cap')) (w.heap.size + 1 + 1) 26 v := fun v b => ((b.alloc _).kept hgrow (b.not_row (by decide) bR1)).other (by omega) _
    exact ⟨hk2.from _, ⟨hb2, hbk⟩, ⟨⟨_, hv2, by simp only [List.map_append, List.length_append, ← cV_append]; exact hr2, trivial⟩, hbk _ bN1⟩, hB1.trans hb2⟩
  case done =>
    rintro D zs W hD rfl ⟨⟨⟨v, bO1, bR1, _⟩, bN1⟩, hB1⟩ hK
    have cO := bO1.cell
    gi_wp2
    refine ⟨by simp, .inl ⟨_, _, rfl, run_takeDeferred hK, ?_⟩⟩
    refine ⟨_, results_tmp rfl _ _ _, v, rfl, ?_, hB1.trans (belowK_b (w := w) (Nat.le_refl _) W D _ _ (by omega) hK rfl rfl)⟩
    have := ownsRow_putObj bR1 (.deferred none) hK rfl
    rwa [show (bwL len f len).length = len from upto_length _ _] at this
  case stop =>
    rintro D c pre W _ _ h _
    exact h.elim
/-- A call that lays one row of gates anew keeps a contract. -/
theorem kon_fresh {P : Program} {f : FuncId} {e : TypeId} {l r : List Gt} (hent : ∀ args w, (callFunc f args).run P w = .ok (.enter f args) w)
    (h : ∀ (w : World) (ok : Nat → Prop) (y : Value), (∀ b, ok b → b < w.heap.size) → RoRep w ok 4 l.length (cV l) y → Calls P f #[y] w fun en W' => ∃ v, en = .returned v ∧ W'.ownsRow w.heap.size e 4 v r.length (cV r) ∧ Below w.heap.size w W') :
    Kon P f [roA l] [] (slA 0 0 r) [rwE e r] [] := by
  refine ⟨cOf (fun _ : Unit => ([roA l], [])) (fun _ => (slA 0 0 r, [rwE e r], [])), ⟨hent, ?_⟩, cOf_at (A := fun _ : Unit => ([roA l], [])) (R := fun _ => (slA 0 0 r, [rwE e r], [])) (fun _ _ _ => rfl) ()⟩
  intro aa es out news es' hC w vs β N hN hs hvs
  obtain ⟨_, rfl, rfl, rfl, rfl, rfl⟩ := cOf_some hC
  have hv := (hs.env 0 (roA l) rfl).2
  obtain ⟨y, rfl⟩ : ∃ y, vs = #[y] := by
    obtain ⟨xs⟩ := vs
    match xs, hvs with
    | [y], _ => exact ⟨y, rfl⟩
  refine (h w _ y (fun b hb => hb.1) hv).mono ?_
  rintro en W' ⟨v, rfl, hown, hB⟩
  have hblk : ∀ b, blk? v = some b → b < W'.heap.size ∧ w.heap.size ≤ b := by
    intro b hb
    rcases hown.2 with ⟨rfl, _⟩ | ⟨g, cap, cur, rfl, hg, hgb, _⟩
    · cases hb
    · cases hb
      exact ⟨(Array.getElem?_eq_some_iff.1 hgb).1, hg⟩
  have hG : ∀ {i r1 e1}, Gout [rwE e r] [] i = some (r1, e1) → i = 0 ∧ r1 = 0 ∧ e1 = rwE e r := by
    intro i r1 e1 hi
    unfold Gout at hi
    split at hi
    · simp at hi
    · match i, hi with
      | 0, hi => simp at hi; exact ⟨rfl, hi.1.symm, hi.2.symm⟩
      | i + 1, hi => simp at hi
  obtain ⟨hown1, hown2⟩ := hown
  have hsl : ∃ A c, v = .slice A r.length c := by
    rcases hown2 with ⟨rfl, h0⟩ | ⟨g, cap, cur, rfl, _⟩
    · rw [h0]; exact ⟨_, _, rfl⟩
    · exact ⟨_, _, rfl⟩
  obtain ⟨A, c, rfl⟩ := hsl
  refine ⟨_, fun _ => .slice A r.length c, rfl, ?_, ?_, rfl, rfl, ?_⟩
  · refine { os := hB.os, tape := hB.tape, output := hB.output, size := hB.size, block := fun k hk _ => hB.block k hk, ents := ?_, apart := ?_, fresh := ?_, pin := ?_, wide := rfl, env := ?_ }
    · intro i r1 e1 hi
      obtain ⟨rfl, rfl, rfl⟩ := hG hi
      refine ⟨?_, e, r.length, fun x hx => by cases hx; rfl, hown1, ?_⟩
      · exact cV_one r
      · exact hown2.imp id fun ⟨g, cap, cur, h1, h2, h3, h4, h5, h6, h7⟩ => ⟨g, cap, cur, h1, Nat.zero_le _, h3, h4, h5, Nat.le_of_eq h6.symm, h7⟩
    · intro i j r1 e1 r2 e2 b hi _ hj _ _ _
      rw [(hG hi).1, (hG hj).1]
    · intro i r1 e1 b hi _ hb
      exact ⟨(hblk b hb).1, .inl (hblk b hb).2⟩
    · intro i e1 hi hg
      have := (hG hg).1
      omega
    · intro i a hi; cases hi
  · exact ⟨rfl, 0, rwE e r, rfl, Nat.le_refl _, fun _ => ⟨A, _, c, rfl, Nat.le_refl _, rfl⟩⟩
  · intro p hp
    simp [AV.refs, AG.refs, AC.refs] at hp
    subst hp
    exact ⟨_, rfl⟩
theorem bwL_rev (l : List Gt) : (bwL l.length (fun j => l.getD j Cel.no) l.length).map (·.2) = l.reverse := by
  apply List.ext_getElem
  · simp [bwL, upto_length]
  · intro i h1 h2
    have hi : i < l.length := by simpa using h2
    have h3 : l.length - 1 - i < l.length := by omega
    simp [bwL, upto, List.getElem_reverse, List.getD_eq_getElem?_getD, h3]
theorem k_backwards (l : List Gt) (hl : l.length ≤ 1000000) : Kon Try.prog 57 [roA l] [] (slA 0 0 l.reverse) [gRow l.reverse] [] := by
  refine kon_fresh (Go.Proofs.enters_of Try.func57 (by kernel_rfl) rfl) ?_
  rintro w ok y hok ⟨⟨hn, hone⟩, A, c, rfl, hc1, hc2, hcs⟩
  have hL : HoldsG w.heap.size w (.slice A l.length c) l.length (fun j => l.getD j Cel.no) := by
    rcases Nat.eq_zero_or_pos l.length with h0 | h0
    · exact .inl ⟨A, c, by rw [h0], h0⟩
    · obtain ⟨b, off, rfl, hb, hcell⟩ := hcs h0
      refine .inr ⟨b, off, c, rfl, hok b hb, fun j hj => ?_⟩
      have hx : ∀ (o : Nat) (v : Value), (Cel.f (l.getD j (Cel.no : Gt)))[o]? = some v → w.cell? ⟨b, off + j * 4 + o, none⟩ = some v := fun o v hv => by
        have := hcell _ _ (cV_cell hj hv)
        rwa [← Nat.add_assoc] at this
      exact ⟨hx 0 _ rfl, hx 1 _ rfl, hx 2 _ rfl, hx 3 _ rfl⟩
  refine (callsIn_wide.1 (back_in Fence.wide 3 trivial trivial trivial rfl (Nat.le_refl _) A l.length c _ hl w hL)).mono ?_
  rintro en W' ⟨v, rfl, hown, hB⟩
  rw [bwL_rev] at hown
  exact ⟨v, rfl, by rw [List.length_reverse]; exact hown, hB⟩
end Go.Proofs.Ytdihmpclbgbgpaa

/- Gates compared; circuits compared; Clip; what all words become; what circuits cost. -/
namespace Go.Proofs.Ytdihmpclbgbgpaa
set_option linter.unusedVariables false
set_option linter.unusedSimpArgs false
set_option maxRecDepth 20000
open Go.RowKit
set_option maxHeartbeats 400000 in
theorem clipG : IsClip Try.prog 55 := by
  refine isClip_mk Try.func55 rfl (by rfl) fun A n c w hn hm => ?_
  go_enter Try.func55, Try.ntmps55
  go_wp2
  go_ret
  exact ⟨rfl, rfl⟩
attribute [local irreducible] runA runX AW
def geq (g h : Gt) : Bool := g.k == h.k && (g.a == h.a && (g.b == h.b && g.c == h.c))
theorem wv_of {n w : Int} (h1 : 1 ≤ n ∧ n ≤ 8) (h2 : 0 ≤ w ∧ w < 2 ^ n.toNat) : wvB n w = true := by
  unfold wvB btw
  rw [decide_eq_true h1.1, decide_eq_true h1.2, decide_eq_true h2.1, decide_eq_true (by omega)]; rfl

end Go.Proofs.Ytdihmpclbgbgpaa

/- Drawn gates: the order of lines, a gate. -/
namespace Go.Proofs.Ytdihmpclbgbgpaa
set_option linter.unusedVariables false
set_option linter.unusedSimpArgs false
set_option maxRecDepth 20000
open Go.RowKit
attribute [local irreducible] runA runX AW
theorem gq_KGP {H G : Prop} (k : H) (h : Hid H → G := by (intro hh; (first | (first | ((first | refine r_none ?_ | refine r_gt (by rfl) (by rfl) (by first | rfl | assumption | omega | (simp only [*, Bool.not_false, Bool.not_true]; first | done | fail) | (simp [*]; first | done | fail)) (by rfl) ?_ | refine r_gf (by rfl) (by rfl) (by first | rfl | assumption | omega | (simp only [*, Bool.not_false, Bool.not_true]; first | done | fail) | (simp [*]; first | done | fail)) (by rfl) ?_); (first | fail | ((first | (refine z_op (by rfl) ?_; first | refine z_ok ?_ ?_ | refine z_ex ?_ (by first | exact ft_raw rfl rfl | ((first | refine ft_rp rfl rfl rfl ?_ | refine ft_row rfl rfl rfl ?_ | refine ft_rpF rfl rfl rfl ?_ | refine ft_rowF rfl rfl rfl ?_ | refine up_row rfl rfl ?_ | refine up_rowF rfl rfl rfl ?_ | refine ct_0 rfl ?_ | refine ct_r rfl rfl ?_ | refine ct_c rfl rfl rfl ?_ | refine cu_all rfl ?_ | refine cu_to rfl ?_ | refine cu_from rfl ?_ | refine cu_p rfl ?_ | fail); (first | omega | (simp only [List.length_append, List.length_replicate, List.length_cons, List.length_nil, List.length_set, List.length_take, List.length_drop, true_and]; omega))) | exact up_raw rfl | exact pk_t (by first | rfl | assumption | omega | (simp only [*, Bool.not_false, Bool.not_true]; first | done | fail) | (simp [*]; first | done | fail)) rfl | exact pk_f (by first | rfl | assumption | omega | (simp only [*, Bool.not_false, Bool.not_true]; first | done | fail) | (simp [*]; first | done | fail)) rfl | exact rw_c Int rfl | exact rw_raw | exact pu_cv (fun w => rfl) (by omega) | exact pu_of (fun w => rfl) rfl | exact be_of (fun w => rfl) | exact nc_of (fun _ _ _ _ => rfl) rfl | exact bu_of (fun w => rfl) rfl | exact ct_t (l := ordN l c k) rfl rfl rfl (by omega) (by rw [hl]; simp; omega)) ?_) | ((first | refine q_callE wsT wsZ (by rfl) ?_ | refine q_callVE wsT (by rfl) (by rfl) ?_); refine ⟨_, _, _, (by first | assumption | exact k_pick _ _ _ (by omega) | exact k_odd0 _ _ _ (by omega) | exact k_odd _ _ _ (by omega)), _, by rfl, ?_, ?_⟩)); focus (first | exact trivial | fail | exact rfl | (first | omega | (simp only [List.length_append, List.length_replicate, List.length_cons, List.length_nil, List.length_set, List.length_take, List.length_drop, true_and]; omega)) | exact cvB (fun w => rfl) | ((repeat' (first | exact rfl | exact cV_len _ | exact cV_ln rfl (by omega) | exact Cel.pos | omega | exact trivial | refine And.intro ?_ ?_)); done) | (simp [*]; done) | (simp; omega))) | fail)) | refine r_nt (by rfl) (by rfl) (by first | rfl | assumption | omega | (simp only [*, Bool.not_false, Bool.not_true]; first | done | fail) | (simp [*]; first | done | fail)) (by rfl) ?_ | refine r_nf (by rfl) (by rfl) (by first | rfl | assumption | omega | (simp only [*, Bool.not_false, Bool.not_true]; first | done | fail) | (simp [*]; first | done | fail)) (by rfl) ?_ | refine r_gu (by rfl) (by rfl) (by rfl) ?_ | refine r_nil ?_) | (first | refine aw_seq ?_ | refine aw_ct (by rfl) (by first | rfl | assumption | omega | (simp only [*, Bool.not_false, Bool.not_true]; first | done | fail) | (simp [*]; first | done | fail)) ?_ | refine aw_cf (by rfl) (by first | rfl | assumption | omega | (simp only [*, Bool.not_false, Bool.not_true]; first | done | fail) | (simp [*]; first | done | fail)) ?_ | refine aw_block ?_ | refine aw_region T0ok cfU_ok (by rfl) ?_ | refine aw_skip ?_ | refine aw_exit ?_ | refine ra_step ?_)); (repeat (first | (first | ((first | refine r_none ?_ | refine r_gt (by rfl) (by rfl) (by first | rfl | assumption | omega | (simp only [*, Bool.not_false, Bool.not_true]; first | done | fail) | (simp [*]; first | done | fail)) (by rfl) ?_ | refine r_gf (by rfl) (by rfl) (by first | rfl | assumption | omega | (simp only [*, Bool.not_false, Bool.not_true]; first | done | fail) | (simp [*]; first | done | fail)) (by rfl) ?_); (first | fail | ((first | (refine z_op (by rfl) ?_; first | refine z_ok ?_ ?_ | refine z_ex ?_ (by first | exact ft_raw rfl rfl | ((first | refine ft_rp rfl rfl rfl ?_ | refine ft_row rfl rfl rfl ?_ | refine ft_rpF rfl rfl rfl ?_ | refine ft_rowF rfl rfl rfl ?_ | refine up_row rfl rfl ?_ | refine up_rowF rfl rfl rfl ?_ | refine ct_0 rfl ?_ | refine ct_r rfl rfl ?_ | refine ct_c rfl rfl rfl ?_ | refine cu_all rfl ?_ | refine cu_to rfl ?_ | refine cu_from rfl ?_ | refine cu_p rfl ?_ | fail); (first | omega | (simp only [List.length_append, List.length_replicate, List.length_cons, List.length_nil, List.length_set, List.length_take, List.length_drop, true_and]; omega))) | exact up_raw rfl | exact pk_t (by first | rfl | assumption | omega | (simp only [*, Bool.not_false, Bool.not_true]; first | done | fail) | (simp [*]; first | done | fail)) rfl | exact pk_f (by first | rfl | assumption | omega | (simp only [*, Bool.not_false, Bool.not_true]; first | done | fail) | (simp [*]; first | done | fail)) rfl | exact rw_c Int rfl | exact rw_raw | exact pu_cv (fun w => rfl) (by omega) | exact pu_of (fun w => rfl) rfl | exact be_of (fun w => rfl) | exact nc_of (fun _ _ _ _ => rfl) rfl | exact bu_of (fun w => rfl) rfl | exact ct_t (l := ordN l c k) rfl rfl rfl (by omega) (by rw [hl]; simp; omega)) ?_) | ((first | refine q_callE wsT wsZ (by rfl) ?_ | refine q_callVE wsT (by rfl) (by rfl) ?_); refine ⟨_, _, _, (by first | assumption | exact k_pick _ _ _ (by omega) | exact k_odd0 _ _ _ (by omega) | exact k_odd _ _ _ (by omega)), _, by rfl, ?_, ?_⟩)); focus (first | exact trivial | fail | exact rfl | (first | omega | (simp only [List.length_append, List.length_replicate, List.length_cons, List.length_nil, List.length_set, List.length_take, List.length_drop, true_and]; omega)) | exact cvB (fun w => rfl) | ((repeat' (first | exact rfl | exact cV_len _ | exact cV_ln rfl (by omega) | exact Cel.pos | omega | exact trivial | refine And.intro ?_ ?_)); done) | (simp [*]; done) | (simp; omega))) | fail)) | refine r_nt (by rfl) (by rfl) (by first | rfl | assumption | omega | (simp only [*, Bool.not_false, Bool.not_true]; first | done | fail) | (simp [*]; first | done | fail)) (by rfl) ?_ | refine r_nf (by rfl) (by rfl) (by first | rfl | assumption | omega | (simp only [*, Bool.not_false, Bool.not_true]; first | done | fail) | (simp [*]; first | done | fail)) (by rfl) ?_ | refine r_gu (by rfl) (by rfl) (by rfl) ?_ | refine r_nil ?_) | (first | refine aw_seq ?_ | refine aw_ct (by rfl) (by first | rfl | assumption | omega | (simp only [*, Bool.not_false, Bool.not_true]; first | done | fail) | (simp [*]; first | done | fail)) ?_ | refine aw_cf (by rfl) (by first | rfl | assumption | omega | (simp only [*, Bool.not_false, Bool.not_true]; first | done | fail) | (simp [*]; first | done | fail)) ?_ | refine aw_block ?_ | refine aw_region T0ok cfU_ok (by rfl) ?_ | refine aw_skip ?_ | refine aw_exit ?_ | refine ra_step ?_))); exact hh.out)) : G := h ⟨k⟩
theorem ga_KGP {H G : Prop} (k : H) (h : Hid H → G := by (intro hh; (first | refine r_none ?_ | refine r_gt (by rfl) (by rfl) (by first | rfl | assumption | omega | (simp only [*, Bool.not_false, Bool.not_true]; first | done | fail) | (simp [*]; first | done | fail)) (by rfl) ?_ | refine r_gf (by rfl) (by rfl) (by first | rfl | assumption | omega | (simp only [*, Bool.not_false, Bool.not_true]; first | done | fail) | (simp [*]; first | done | fail)) (by rfl) ?_); refine z_op (by rfl) ?_; refine z_alV ?_ hh.out; focus (first | exact trivial | fail | exact rfl | (first | omega | (simp only [List.length_append, List.length_replicate, List.length_cons, List.length_nil, List.length_set, List.length_take, List.length_drop, true_and]; omega)) | exact cvB (fun w => rfl) | ((repeat' (first | exact rfl | exact cV_len _ | exact cV_ln rfl (by omega) | exact Cel.pos | omega | exact trivial | refine And.intro ?_ ?_)); done) | (simp [*]; done) | (simp; omega)))) : G := h ⟨k⟩
/-- Lines in some order. -/
def ordN (l : List UInt8) (c : Int) : Nat → List Int
  | 0 => []
  | k + 1 => ((ordN l c k).take (pickI l (c + (k : Int)) ((k : Int) + 1)).toNat ++ [(k : Int)]) ++ (ordN l c k).drop (pickI l (c + (k : Int)) ((k : Int) + 1)).toNat
theorem k_odd0 (l : List UInt8) (c n : Int) (h : n ≤ 0) : Kon Try.prog 68 [p0, vI n] [rdE l c] (vB false) [] [rdE l c] := by
  have hd : decide (n > 0) = false := decide_eq_false (by omega)
  (refine kon_mk T0ok (fn := Try.f68) (c := Try.f68.body.get rfl) Try.func68 rfl (by rfl) (by rfl) (by rfl) ?_; intro hfit hfe)
  (repeat (first | refine gq_KGP ?_ | (refine ga_KGP ?_; intro _hq)))
  ((try refine aw_ret ?_); refine ret_auto2 (by rfl) (by rfl) (by rfl) (by repeat (first | exact trivial | refine ⟨by first | rfl | omega, ?_⟩)) ?_ (by repeat (first | exact trivial | refine ⟨by rfl, by rfl, ?_⟩)) (by repeat (first | exact trivial | refine ⟨by rfl, by rfl, ?_⟩)); try rfl)
end Go.Proofs.Ytdihmpclbgbgpaa

/- Drawn numbers of lines, drawn words. -/
namespace Go.Proofs.Ytdihmpclbgbgpaa
set_option linter.unusedVariables false
set_option linter.unusedSimpArgs false
set_option maxRecDepth 20000
open Go.RowKit
attribute [local irreducible] runA runX AW
end Go.Proofs.Ytdihmpclbgbgpaa

/- Drawn circuits. -/
namespace Go.Proofs.Ytdihmpclbgbgpaa
set_option linter.unusedVariables false
set_option linter.unusedSimpArgs false
set_option maxRecDepth 20000
open Go.RowKit
attribute [local irreducible] runA runX AW
end Go.Proofs.Ytdihmpclbgbgpaa

/- impl.CircuitBack; the draw and the law of FnCircuitRun. -/
namespace Go.Proofs.Ytdihmpclbgbgpaa
set_option linter.unusedVariables false
set_option linter.unusedSimpArgs false
set_option maxRecDepth 20000
open Go.RowKit
attribute [local irreducible] runA runX AW
theorem cokB_mkM {n : Int} {l : List Gt} (h1 : 1 ≤ n ∧ n ≤ 8) (h2 : l.length ≤ 24) (h3 : l.all (gok n) = true) : cokB n l = true := by
  unfold cokB btw
  rw [decide_eq_true h1.1, decide_eq_true h1.2, decide_eq_true (by omega), h3]; rfl
theorem wvB_mk {n w : Int} (h1 : 1 ≤ n ∧ n ≤ 8) (h2 : 0 ≤ w ∧ w < 2 ^ n.toNat) : wvB n w = true := by
  unfold wvB btw
  rw [decide_eq_true h1.1, decide_eq_true h1.2, decide_eq_true h2.1, decide_eq_true (by omega)]; rfl
theorem crM_t {n : Int} {l : List Gt} {w : Int} (h1 : cokB n l = true) (h2 : wvB n w = true) : crM n l w = cr l w := by
  unfold crM; rw [h1, h2]; rfl
































































end Go.Proofs.Ytdihmpclbgbgpaa
