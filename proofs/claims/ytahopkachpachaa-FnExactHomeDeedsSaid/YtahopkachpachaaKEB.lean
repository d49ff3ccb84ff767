/- The way home, both sides; marks; the law FnExactHomeDeeds. -/
import Derived.Test.YtahopkachpachaaKEA
namespace Go.Proofs.Ytahopkachpachaa
set_option linter.unusedVariables false
set_option linter.unusedSimpArgs false
set_option maxRecDepth 20000
open Go.RowKit
/-- A deed. -/
structure Dd where
  k : Int
  n : Int
  p : Gt
instance : Cel Dd where
  f d := [.int .i64 d.k, .int .i64 d.n, .int .i64 d.p.k, .int .i64 d.p.a, .int .i64 d.p.b, .int .i64 d.p.c]
  un vs := match vs with
    | [.int .i64 x, .int .i64 y, .int .i64 k, .int .i64 a, .int .i64 b, .int .i64 c] => some ⟨x, y, ⟨k, a, b, c⟩⟩
    | _ => none
  sz := 6
  no := ⟨0, 0, ⟨0, 0, 0, 0⟩⟩
  pos := by omega
  len _ := rfl
  one _ := rfl
  unf vs a h := by
    split at h
    · cases h; rfl
    · cases h
attribute [local irreducible] runA runX AW
def wsTE : WsT := (50, ([0], false)) :: (20, ([0], false)) :: (21, ([0], false)) :: wsT
def wsZE : List (Nat × Nat) := [(19, 6), (22, 6), (999999, 0)]
theorem gq_KEB {H G : Prop} (k : H) (h : Hid H → G := by (intro hh; (first | (first | ((first | refine r_none ?_ | refine r_gt (by rfl) (by rfl) (by first | rfl | assumption | omega | (simp only [*, Bool.not_false, Bool.not_true]; first | done | fail) | (simp [*]; first | done | fail)) (by rfl) ?_ | refine r_gf (by rfl) (by rfl) (by first | rfl | assumption | omega | (simp only [*, Bool.not_false, Bool.not_true]; first | done | fail) | (simp [*]; first | done | fail)) (by rfl) ?_); (first | fail | ((first | (refine z_op (by rfl) ?_; first | refine z_ok ?_ ?_ | refine z_ex ?_ (by first | exact ft_raw rfl rfl | ((first | refine ft_rp rfl rfl rfl ?_ | refine ft_row rfl rfl rfl ?_ | refine ft_rpF rfl rfl rfl ?_ | refine ft_rowF rfl rfl rfl ?_ | refine up_row rfl rfl ?_ | refine up_rowF rfl rfl rfl ?_ | refine ct_0 rfl ?_ | refine ct_r rfl rfl ?_ | refine ct_c rfl rfl rfl ?_ | refine cu_all rfl ?_ | refine cu_to rfl ?_ | refine cu_from rfl ?_ | refine cu_p rfl ?_ | fail); (first | omega | (simp only [List.length_append, List.length_replicate, List.length_cons, List.length_nil, List.length_set, List.length_take, List.length_drop, true_and]; omega))) | exact up_raw rfl | exact pk_t (by first | rfl | assumption | omega | (simp only [*, Bool.not_false, Bool.not_true]; first | done | fail) | (simp [*]; first | done | fail)) rfl | exact pk_f (by first | rfl | assumption | omega | (simp only [*, Bool.not_false, Bool.not_true]; first | done | fail) | (simp [*]; first | done | fail)) rfl | exact rw_c Dd rfl | exact rw_raw | exact pu_cv (fun w => rfl) (by omega) | exact pu_of (fun w => rfl) rfl | exact be_of (fun w => rfl) | exact nc_of (fun _ _ _ _ => rfl) rfl | exact bu_of (fun w => rfl) rfl | fail) ?_) | ((first | refine q_callE wsTE wsZE (by rfl) ?_ | refine q_callVE wsTE (by rfl) (by rfl) ?_); refine ⟨_, _, _, (by first | assumption | exact k_toBn _ _ _ _ _ (by omega) | exact k_eqBn _ _ _ _ _ (by omega) | exact k_eqGate _ | exact k_eqD _ | exact k_eqD1 _ | exact k_eqD0 | exact k_markBn _ _ _ _ _ _ _ (by first | omega | exact ⟨rfl, by omega⟩) | exact k_markG _ _ _ (by omega)), _, by rfl, ?_, ?_⟩)); focus (first | exact trivial | exact rfl | (first | omega | (simp only [List.length_append, List.length_replicate, List.length_cons, List.length_nil, List.length_set, List.length_take, List.length_drop, true_and]; omega)) | exact cvB (fun w => rfl) | ((repeat' (first | exact rfl | exact cV_len _ | exact cV_ln rfl (by omega) | exact Cel.pos | omega | exact trivial | refine And.intro ?_ ?_)); done) | (simp [*]; done) | (simp; omega))) | fail)) | refine r_nt (by rfl) (by rfl) (by first | rfl | assumption | omega | (simp only [*, Bool.not_false, Bool.not_true]; first | done | fail) | (simp [*]; first | done | fail)) (by rfl) ?_ | refine r_nf (by rfl) (by rfl) (by first | rfl | assumption | omega | (simp only [*, Bool.not_false, Bool.not_true]; first | done | fail) | (simp [*]; first | done | fail)) (by rfl) ?_ | refine r_gu (by rfl) (by rfl) (by rfl) ?_ | refine r_nil ?_) | (first | refine aw_seq ?_ | refine aw_ct (by rfl) (by first | rfl | assumption | omega | (simp only [*, Bool.not_false, Bool.not_true]; first | done | fail) | (simp [*]; first | done | fail)) ?_ | refine aw_cf (by rfl) (by first | rfl | assumption | omega | (simp only [*, Bool.not_false, Bool.not_true]; first | done | fail) | (simp [*]; first | done | fail)) ?_ | refine aw_block ?_ | refine aw_region T0ok cfU_ok (by rfl) ?_ | refine aw_skip ?_ | refine aw_exit ?_ | refine ra_step ?_)); (repeat (first | (first | ((first | refine r_none ?_ | refine r_gt (by rfl) (by rfl) (by first | rfl | assumption | omega | (simp only [*, Bool.not_false, Bool.not_true]; first | done | fail) | (simp [*]; first | done | fail)) (by rfl) ?_ | refine r_gf (by rfl) (by rfl) (by first | rfl | assumption | omega | (simp only [*, Bool.not_false, Bool.not_true]; first | done | fail) | (simp [*]; first | done | fail)) (by rfl) ?_); (first | fail | ((first | (refine z_op (by rfl) ?_; first | refine z_ok ?_ ?_ | refine z_ex ?_ (by first | exact ft_raw rfl rfl | ((first | refine ft_rp rfl rfl rfl ?_ | refine ft_row rfl rfl rfl ?_ | refine ft_rpF rfl rfl rfl ?_ | refine ft_rowF rfl rfl rfl ?_ | refine up_row rfl rfl ?_ | refine up_rowF rfl rfl rfl ?_ | refine ct_0 rfl ?_ | refine ct_r rfl rfl ?_ | refine ct_c rfl rfl rfl ?_ | refine cu_all rfl ?_ | refine cu_to rfl ?_ | refine cu_from rfl ?_ | refine cu_p rfl ?_ | fail); (first | omega | (simp only [List.length_append, List.length_replicate, List.length_cons, List.length_nil, List.length_set, List.length_take, List.length_drop, true_and]; omega))) | exact up_raw rfl | exact pk_t (by first | rfl | assumption | omega | (simp only [*, Bool.not_false, Bool.not_true]; first | done | fail) | (simp [*]; first | done | fail)) rfl | exact pk_f (by first | rfl | assumption | omega | (simp only [*, Bool.not_false, Bool.not_true]; first | done | fail) | (simp [*]; first | done | fail)) rfl | exact rw_c Dd rfl | exact rw_raw | exact pu_cv (fun w => rfl) (by omega) | exact pu_of (fun w => rfl) rfl | exact be_of (fun w => rfl) | exact nc_of (fun _ _ _ _ => rfl) rfl | exact bu_of (fun w => rfl) rfl | fail) ?_) | ((first | refine q_callE wsTE wsZE (by rfl) ?_ | refine q_callVE wsTE (by rfl) (by rfl) ?_); refine ⟨_, _, _, (by first | assumption | exact k_toBn _ _ _ _ _ (by omega) | exact k_eqBn _ _ _ _ _ (by omega) | exact k_eqGate _ | exact k_eqD _ | exact k_eqD1 _ | exact k_eqD0 | exact k_markBn _ _ _ _ _ _ _ (by first | omega | exact ⟨rfl, by omega⟩) | exact k_markG _ _ _ (by omega)), _, by rfl, ?_, ?_⟩)); focus (first | exact trivial | exact rfl | (first | omega | (simp only [List.length_append, List.length_replicate, List.length_cons, List.length_nil, List.length_set, List.length_take, List.length_drop, true_and]; omega)) | exact cvB (fun w => rfl) | ((repeat' (first | exact rfl | exact cV_len _ | exact cV_ln rfl (by omega) | exact Cel.pos | omega | exact trivial | refine And.intro ?_ ?_)); done) | (simp [*]; done) | (simp; omega))) | fail)) | refine r_nt (by rfl) (by rfl) (by first | rfl | assumption | omega | (simp only [*, Bool.not_false, Bool.not_true]; first | done | fail) | (simp [*]; first | done | fail)) (by rfl) ?_ | refine r_nf (by rfl) (by rfl) (by first | rfl | assumption | omega | (simp only [*, Bool.not_false, Bool.not_true]; first | done | fail) | (simp [*]; first | done | fail)) (by rfl) ?_ | refine r_gu (by rfl) (by rfl) (by rfl) ?_ | refine r_nil ?_) | (first | refine aw_seq ?_ | refine aw_ct (by rfl) (by first | rfl | assumption | omega | (simp only [*, Bool.not_false, Bool.not_true]; first | done | fail) | (simp [*]; first | done | fail)) ?_ | refine aw_cf (by rfl) (by first | rfl | assumption | omega | (simp only [*, Bool.not_false, Bool.not_true]; first | done | fail) | (simp [*]; first | done | fail)) ?_ | refine aw_block ?_ | refine aw_region T0ok cfU_ok (by rfl) ?_ | refine aw_skip ?_ | refine aw_exit ?_ | refine ra_step ?_))); exact hh.out)) : G := h ⟨k⟩
theorem ga_KEB {H G : Prop} (k : H) (h : Hid H → G := by (intro hh; (first | refine r_none ?_ | refine r_gt (by rfl) (by rfl) (by first | rfl | assumption | omega | (simp only [*, Bool.not_false, Bool.not_true]; first | done | fail) | (simp [*]; first | done | fail)) (by rfl) ?_ | refine r_gf (by rfl) (by rfl) (by first | rfl | assumption | omega | (simp only [*, Bool.not_false, Bool.not_true]; first | done | fail) | (simp [*]; first | done | fail)) (by rfl) ?_); refine z_op (by rfl) ?_; refine z_al ?_ hh.out; focus (first | exact trivial | exact rfl | (first | omega | (simp only [List.length_append, List.length_replicate, List.length_cons, List.length_nil, List.length_set, List.length_take, List.length_drop, true_and]; omega)) | exact cvB (fun w => rfl) | ((repeat' (first | exact rfl | exact cV_len _ | exact cV_ln rfl (by omega) | exact Cel.pos | omega | exact trivial | refine And.intro ?_ ?_)); done) | (simp [*]; done) | (simp; omega)))) : G := h ⟨k⟩
theorem gs_KEB {H G : Prop} (k : H) (h : Hid H → G := by (intro hh; (first | ((first | refine r_none ?_ | refine r_gt (by rfl) (by rfl) (by first | rfl | assumption | omega | (simp only [*, Bool.not_false, Bool.not_true]; first | done | fail) | (simp [*]; first | done | fail)) (by rfl) ?_ | refine r_gf (by rfl) (by rfl) (by first | rfl | assumption | omega | (simp only [*, Bool.not_false, Bool.not_true]; first | done | fail) | (simp [*]; first | done | fail)) (by rfl) ?_); (first | fail | ((first | (refine z_op (by rfl) ?_; first | refine z_ok ?_ ?_ | refine z_ex ?_ (by first | exact ft_raw rfl rfl | ((first | refine ft_rp rfl rfl rfl ?_ | refine ft_row rfl rfl rfl ?_ | refine ft_rpF rfl rfl rfl ?_ | refine ft_rowF rfl rfl rfl ?_ | refine up_row rfl rfl ?_ | refine up_rowF rfl rfl rfl ?_ | refine ct_0 rfl ?_ | refine ct_r rfl rfl ?_ | refine ct_c rfl rfl rfl ?_ | refine cu_all rfl ?_ | refine cu_to rfl ?_ | refine cu_from rfl ?_ | refine cu_p rfl ?_ | fail); (first | omega | (simp only [List.length_append, List.length_replicate, List.length_cons, List.length_nil, List.length_set, List.length_take, List.length_drop, true_and]; omega))) | exact up_raw rfl | exact pk_t (by first | rfl | assumption | omega | (simp only [*, Bool.not_false, Bool.not_true]; first | done | fail) | (simp [*]; first | done | fail)) rfl | exact pk_f (by first | rfl | assumption | omega | (simp only [*, Bool.not_false, Bool.not_true]; first | done | fail) | (simp [*]; first | done | fail)) rfl | exact rw_c Dd rfl | exact rw_raw | exact pu_cv (fun w => rfl) (by omega) | exact pu_of (fun w => rfl) rfl | exact be_of (fun w => rfl) | exact nc_of (fun _ _ _ _ => rfl) rfl | exact bu_of (fun w => rfl) rfl | fail) ?_) | ((first | refine q_callE wsTE wsZE (by rfl) ?_ | refine q_callVE wsTE (by rfl) (by rfl) ?_); refine ⟨_, _, _, (by first | assumption | exact k_toBn _ _ _ _ _ (by omega) | exact k_eqBn _ _ _ _ _ (by omega) | exact k_eqGate _ | exact k_eqD _ | exact k_eqD1 _ | exact k_eqD0 | exact k_markBn _ _ _ _ _ _ _ (by first | omega | exact ⟨rfl, by omega⟩) | exact k_markG _ _ _ (by omega)), _, by rfl, ?_, ?_⟩)); focus (first | exact trivial | exact rfl | (first | omega | (simp only [List.length_append, List.length_replicate, List.length_cons, List.length_nil, List.length_set, List.length_take, List.length_drop, true_and]; omega)) | exact cvB (fun w => rfl) | ((repeat' (first | exact rfl | exact cV_len _ | exact cV_ln rfl (by omega) | exact Cel.pos | omega | exact trivial | refine And.intro ?_ ?_)); done) | (simp [*]; done) | (simp; omega))) | fail)) | refine r_nt (by rfl) (by rfl) (by first | rfl | assumption | omega | (simp only [*, Bool.not_false, Bool.not_true]; first | done | fail) | (simp [*]; first | done | fail)) (by rfl) ?_ | refine r_nf (by rfl) (by rfl) (by first | rfl | assumption | omega | (simp only [*, Bool.not_false, Bool.not_true]; first | done | fail) | (simp [*]; first | done | fail)) (by rfl) ?_ | refine r_gu (by rfl) (by rfl) (by rfl) ?_ | refine r_nil ?_); (repeat (first | ((first | refine r_none ?_ | refine r_gt (by rfl) (by rfl) (by first | rfl | assumption | omega | (simp only [*, Bool.not_false, Bool.not_true]; first | done | fail) | (simp [*]; first | done | fail)) (by rfl) ?_ | refine r_gf (by rfl) (by rfl) (by first | rfl | assumption | omega | (simp only [*, Bool.not_false, Bool.not_true]; first | done | fail) | (simp [*]; first | done | fail)) (by rfl) ?_); (first | fail | ((first | (refine z_op (by rfl) ?_; first | refine z_ok ?_ ?_ | refine z_ex ?_ (by first | exact ft_raw rfl rfl | ((first | refine ft_rp rfl rfl rfl ?_ | refine ft_row rfl rfl rfl ?_ | refine ft_rpF rfl rfl rfl ?_ | refine ft_rowF rfl rfl rfl ?_ | refine up_row rfl rfl ?_ | refine up_rowF rfl rfl rfl ?_ | refine ct_0 rfl ?_ | refine ct_r rfl rfl ?_ | refine ct_c rfl rfl rfl ?_ | refine cu_all rfl ?_ | refine cu_to rfl ?_ | refine cu_from rfl ?_ | refine cu_p rfl ?_ | fail); (first | omega | (simp only [List.length_append, List.length_replicate, List.length_cons, List.length_nil, List.length_set, List.length_take, List.length_drop, true_and]; omega))) | exact up_raw rfl | exact pk_t (by first | rfl | assumption | omega | (simp only [*, Bool.not_false, Bool.not_true]; first | done | fail) | (simp [*]; first | done | fail)) rfl | exact pk_f (by first | rfl | assumption | omega | (simp only [*, Bool.not_false, Bool.not_true]; first | done | fail) | (simp [*]; first | done | fail)) rfl | exact rw_c Dd rfl | exact rw_raw | exact pu_cv (fun w => rfl) (by omega) | exact pu_of (fun w => rfl) rfl | exact be_of (fun w => rfl) | exact nc_of (fun _ _ _ _ => rfl) rfl | exact bu_of (fun w => rfl) rfl | fail) ?_) | ((first | refine q_callE wsTE wsZE (by rfl) ?_ | refine q_callVE wsTE (by rfl) (by rfl) ?_); refine ⟨_, _, _, (by first | assumption | exact k_toBn _ _ _ _ _ (by omega) | exact k_eqBn _ _ _ _ _ (by omega) | exact k_eqGate _ | exact k_eqD _ | exact k_eqD1 _ | exact k_eqD0 | exact k_markBn _ _ _ _ _ _ _ (by first | omega | exact ⟨rfl, by omega⟩) | exact k_markG _ _ _ (by omega)), _, by rfl, ?_, ?_⟩)); focus (first | exact trivial | exact rfl | (first | omega | (simp only [List.length_append, List.length_replicate, List.length_cons, List.length_nil, List.length_set, List.length_take, List.length_drop, true_and]; omega)) | exact cvB (fun w => rfl) | ((repeat' (first | exact rfl | exact cV_len _ | exact cV_ln rfl (by omega) | exact Cel.pos | omega | exact trivial | refine And.intro ?_ ?_)); done) | (simp [*]; done) | (simp; omega))) | fail)) | refine r_nt (by rfl) (by rfl) (by first | rfl | assumption | omega | (simp only [*, Bool.not_false, Bool.not_true]; first | done | fail) | (simp [*]; first | done | fail)) (by rfl) ?_ | refine r_nf (by rfl) (by rfl) (by first | rfl | assumption | omega | (simp only [*, Bool.not_false, Bool.not_true]; first | done | fail) | (simp [*]; first | done | fail)) (by rfl) ?_ | refine r_gu (by rfl) (by rfl) (by rfl) ?_ | refine r_nil ?_)); exact hh.out)) : G := h ⟨k⟩
theorem gc_KEB {H G : Prop} (k : H) (h : Hid H → G := by (intro hh; (first | refine aw_seq ?_ | refine aw_ct (by rfl) (by first | rfl | assumption | omega | (simp only [*, Bool.not_false, Bool.not_true]; first | done | fail) | (simp [*]; first | done | fail)) ?_ | refine aw_cf (by rfl) (by first | rfl | assumption | omega | (simp only [*, Bool.not_false, Bool.not_true]; first | done | fail) | (simp [*]; first | done | fail)) ?_ | refine aw_block ?_ | refine aw_region T0ok cfU_ok (by rfl) ?_ | refine aw_skip ?_ | refine aw_exit ?_ | refine ra_step ?_); (repeat (first | refine aw_seq ?_ | refine aw_ct (by rfl) (by first | rfl | assumption | omega | (simp only [*, Bool.not_false, Bool.not_true]; first | done | fail) | (simp [*]; first | done | fail)) ?_ | refine aw_cf (by rfl) (by first | rfl | assumption | omega | (simp only [*, Bool.not_false, Bool.not_true]; first | done | fail) | (simp [*]; first | done | fail)) ?_ | refine aw_block ?_ | refine aw_region T0ok cfU_ok (by rfl) ?_ | refine aw_skip ?_ | refine aw_exit ?_ | refine ra_step ?_)); exact hh.out)) : G := h ⟨k⟩
theorem gd_KEB {H G : Prop} (k : H) (h : Hid H → G := by (intro hh; (refine aw_draw mixed T0ok cfU_ok [] (by rfl) (by kernel_rfl) ?_); exact hh.out)) : G := h ⟨k⟩
abbrev dCs (d : Dd) : List AC := [.v (.int .i64 d.k), .v (.int .i64 d.n), .v (.int .i64 d.p.k), .v (.int .i64 d.p.a), .v (.int .i64 d.p.b), .v (.int .i64 d.p.c)]
abbrev dV (d : Dd) : AV := .g (.agg (dCs d))
abbrev dRow (l : List Dd) : Ent := rwE 48 l
theorem k_eqD1 (d : Dd) : Kon Try.prog 49 [dV d, dV d] [] (vB true) [] [] := by
  have e : ∀ x : Int, (x != x) = false := fun x => by simp
  have e1 := e d.k
  have e2 := e d.n
  have hK := k_eqGate d.p
  (refine kon_mk T0ok (fn := Try.f49) (c := Try.f49.body.get rfl) Try.func49 rfl (by rfl) (by rfl) (by rfl) ?_; intro hfit hfe)
  (repeat (first | refine gq_KEB ?_ | (refine ga_KEB ?_; intro _q ⟨_he, _hq⟩)))
  ((try refine aw_ret ?_); refine ret_auto2 (by rfl) (by rfl) (by rfl) (by repeat (first | exact trivial | refine ⟨by first | rfl | omega, ?_⟩)) ?_ (by repeat (first | exact trivial | refine ⟨by rfl, by rfl, ?_⟩)) (by repeat (first | exact trivial | refine ⟨by rfl, by rfl, ?_⟩)); try rfl)
theorem k_eqD0 : Kon Try.prog 19 [.g (.one (.ro 6 0 [])), .g (.one (.ro 6 0 []))] [] (vB true) [] [] := by
  (refine kon_mk T0ok (fn := Try.f19) (c := Try.f19.body.get rfl) Try.func19 rfl (by rfl) (by rfl) (by rfl) ?_; intro hfit hfe)
  (repeat (first | refine gq_KEB ?_ | (refine ga_KEB ?_; intro _q ⟨_he, _hq⟩)))
  refine aw_unroll 1 ?_
  (repeat (first | refine gq_KEB ?_ | (refine ga_KEB ?_; intro _q ⟨_he, _hq⟩) | refine gd_KEB ?_))
  ((try refine aw_ret ?_); refine ret_auto2 (by rfl) (by rfl) (by rfl) (by repeat (first | exact trivial | refine ⟨by first | rfl | omega, ?_⟩)) ?_ (by repeat (first | exact trivial | refine ⟨by rfl, by rfl, ?_⟩)) (by repeat (first | exact trivial | refine ⟨by rfl, by rfl, ?_⟩)); try rfl)
theorem k_eqD (d : Dd) : Kon Try.prog 19 [roA [d], roA [d]] [] (vB true) [] [] := by
  (refine kon_mk T0ok (fn := Try.f19) (c := Try.f19.body.get rfl) Try.func19 rfl (by rfl) (by rfl) (by rfl) ?_; intro hfit hfe)
  (repeat (first | refine gq_KEB ?_ | (refine ga_KEB ?_; intro _q ⟨_he, _hq⟩)))
  refine aw_unroll 2 ?_
  (repeat (first | refine gq_KEB ?_ | (refine ga_KEB ?_; intro _q ⟨_he, _hq⟩) | refine gd_KEB ?_))
  ((try refine aw_ret ?_); refine ret_auto2 (by rfl) (by rfl) (by rfl) (by repeat (first | exact trivial | refine ⟨by first | rfl | omega, ?_⟩)) ?_ (by repeat (first | exact trivial | refine ⟨by rfl, by rfl, ?_⟩)) (by repeat (first | exact trivial | refine ⟨by rfl, by rfl, ?_⟩)); try rfl)
/-- Marks in gates. -/
def mkG1 (l : List Gt) (i : Nat) (k : Int) : List Gt :=
  let l1 := l.set i ⟨k, (l.getD i Cel.no).a, (l.getD i Cel.no).b, (l.getD i Cel.no).c⟩
  let l2 := l1.set i ⟨(l1.getD i Cel.no).k, k + 1, (l1.getD i Cel.no).b, (l1.getD i Cel.no).c⟩
  let l3 := l2.set i ⟨(l2.getD i Cel.no).k, (l2.getD i Cel.no).a, k + 1 + 1, (l2.getD i Cel.no).c⟩
  l3.set i ⟨(l3.getD i Cel.no).k, (l3.getD i Cel.no).a, (l3.getD i Cel.no).b, k + 1 + 1 + 1⟩
def mkG (k : Int) (l : List Gt) : Nat → List Gt
  | 0 => l
  | i + 1 => mkG1 (mkG k l i) i (k + 4 * (i : Int))
theorem mkG_len (k : Int) (l : List Gt) : ∀ i, (mkG k l i).length = l.length
  | 0 => rfl
  | i + 1 => by rw [mkG, mkG1]; simp only [List.length_set]; exact mkG_len k l i
set_option maxHeartbeats 1000000 in
theorem k_markG (l : List Gt) (n : Nat) (k : Int) (h : n = l.length ∧ 0 ≤ k ∧ k ≤ 10000000 ∧ l.length ≤ 10000000) : Kon Try.prog 50 [.g (.one (.sl 100000 0 n)), vI k] [gRow l] (vI (k + 4 * (l.length : Int))) [] [gRow (mkG k l l.length)] := by
  obtain ⟨rfl, h⟩ := h
  (refine kon_mk T0ok (fn := Try.f50) (c := Try.f50.body.get rfl) Try.func50 rfl (by rfl) (by rfl) (by rfl) ?_; intro hfit hfe)
  (repeat (first | refine gq_KEB ?_ | (refine ga_KEB ?_; intro _q ⟨_he, _hq⟩)))
  refine aw_rd [0] [] (fun i : Nat => [(1, vI (k + 4 * (i : Int))), (5, vI i)]) (fun i => [(100000, (0, gRow (mkG k l i)))]) (fun i => i ≤ l.length) (fun i => l.length - i) 0 (by rfl) (by rfl) ?_ (by rfl) (by repeat (first | exact trivial | refine ⟨by rfl, ?_⟩ | refine ⟨vI_of (by rfl) (by omega), ?_⟩)) ⟨by (simp only [St.put, Gin, Nat.le_refl, if_true, Nat.sub_self]; rfl), trivial⟩ ?_
  · exact Nat.zero_le _
  rintro i hi
  have hl2 := mkG_len k l i
  rcases Nat.lt_or_ge i l.length with h1 | h1
  · have hd : decide ((i : Int) < (l.length : Int)) = true := decide_eq_true (by omega)
    have hinv : i + 1 ≤ l.length := h1
    (repeat (first | refine gq_KEB ?_ | (refine ga_KEB ?_; intro _q ⟨_he, _hq⟩)))
    exact ⟨i + 1, hinv, ⟨by rfl, (by repeat (first | exact trivial | refine ⟨by rfl, ?_⟩ | refine ⟨vI_of (by rfl) (by omega), ?_⟩)), (by repeat (first | exact trivial | refine ⟨by rfl, ?_⟩ | refine ⟨vI_of (by rfl) (by omega), ?_⟩))⟩, (by first | omega | (dsimp only; omega))⟩
  · obtain rfl : i = l.length := by omega
    have hd : decide ((l.length : Int) < (l.length : Int)) = false := decide_eq_false (by omega)
    (repeat (first | refine gq_KEB ?_ | (refine ga_KEB ?_; intro _q ⟨_he, _hq⟩)))
    ((try refine aw_ret ?_); refine ret_auto2 (by rfl) (by rfl) (by rfl) (by repeat (first | exact trivial | refine ⟨by first | rfl | omega, ?_⟩)) ?_ (by repeat (first | exact trivial | refine ⟨by rfl, by rfl, ?_⟩)) (by repeat (first | exact trivial | refine ⟨by rfl, by rfl, ?_⟩)); try rfl)
theorem k_markBn (n : Int) (l : List Gt) (m : Nat) (f w a : Int) (k : Int) (h : m = l.length ∧ 0 ≤ k ∧ k ≤ 10000000 ∧ l.length ≤ 10000000) : Kon Try.prog 20 [.g (.agg [.v (.int .i64 n), .sl 100000 0 m, .v (.int .i64 f), .v (.int .i64 w), .v (.int .i64 a)]), vI k] [gRow l] (vI (k + 4 * (l.length : Int))) [] [gRow (mkG k l l.length)] := by
  have hK := k_markG l m k h
  (refine kon_mk T0ok (fn := Try.f20) (c := Try.f20.body.get rfl) Try.func20 rfl (by rfl) (by rfl) (by rfl) ?_; intro hfit hfe)
  (repeat (first | refine gq_KEB ?_ | (refine ga_KEB ?_; intro _q ⟨_he, _hq⟩)))
  ((try refine aw_ret ?_); refine ret_auto2 (by rfl) (by rfl) (by rfl) (by repeat (first | exact trivial | refine ⟨by first | rfl | omega, ?_⟩)) ?_ (by repeat (first | exact trivial | refine ⟨by rfl, by rfl, ?_⟩)) (by repeat (first | exact trivial | refine ⟨by rfl, by rfl, ?_⟩)); try rfl)
theorem k_markD0 : Kon Try.prog 21 [vN, vI 1] [] (vI 1) [] [] := by
  (refine kon_mk T0ok (fn := Try.f21) (c := Try.f21.body.get rfl) Try.func21 rfl (by rfl) (by rfl) (by rfl) ?_; intro hfit hfe)
  (repeat (first | refine gq_KEB ?_ | (refine ga_KEB ?_; intro _q ⟨_he, _hq⟩)))
  refine aw_unroll 1 ?_
  (repeat (first | refine gq_KEB ?_ | (refine ga_KEB ?_; intro _q ⟨_he, _hq⟩)))
  ((try refine aw_ret ?_); refine ret_auto2 (by rfl) (by rfl) (by rfl) (by repeat (first | exact trivial | refine ⟨by first | rfl | omega, ?_⟩)) ?_ (by repeat (first | exact trivial | refine ⟨by rfl, by rfl, ?_⟩)) (by repeat (first | exact trivial | refine ⟨by rfl, by rfl, ?_⟩)); try rfl)
abbrev dM : Dd := ⟨1, 2, ⟨3, 4, 5, 6⟩⟩
theorem k_markD1 (d : Dd) : Kon Try.prog 21 [.g (.one (.sl 100000 0 1)), vI 1] [dRow [d]] (vI 7) [] [dRow [dM]] := by
  (refine kon_mk T0ok (fn := Try.f21) (c := Try.f21.body.get rfl) Try.func21 rfl (by rfl) (by rfl) (by rfl) ?_; intro hfit hfe)
  (repeat (first | refine gq_KEB ?_ | (refine ga_KEB ?_; intro _q ⟨_he, _hq⟩)))
  refine aw_unroll 2 ?_
  (repeat (first | refine gq_KEB ?_ | (refine ga_KEB ?_; intro _q ⟨_he, _hq⟩)))
  ((try refine aw_ret ?_); refine ret_auto2 (by rfl) (by rfl) (by rfl) (by repeat (first | exact trivial | refine ⟨by first | rfl | omega, ?_⟩)) ?_ (by repeat (first | exact trivial | refine ⟨by rfl, by rfl, ?_⟩)) (by repeat (first | exact trivial | refine ⟨by rfl, by rfl, ?_⟩)); try rfl)
theorem k_heldD0 : Kon Try.prog 22 [.g (.one (.ro 6 0 [])), vI 1] [] (vI 1) [] [] := by
  (refine kon_mk T0ok (fn := Try.f22) (c := Try.f22.body.get rfl) Try.func22 rfl (by rfl) (by rfl) (by rfl) ?_; intro hfit hfe)
  (repeat (first | refine gq_KEB ?_ | (refine ga_KEB ?_; intro _q ⟨_he, _hq⟩)))
  refine aw_unroll 1 ?_
  (repeat (first | refine gq_KEB ?_ | (refine ga_KEB ?_; intro _q ⟨_he, _hq⟩)))
  ((try refine aw_ret ?_); refine ret_auto2 (by rfl) (by rfl) (by rfl) (by repeat (first | exact trivial | refine ⟨by first | rfl | omega, ?_⟩)) ?_ (by repeat (first | exact trivial | refine ⟨by rfl, by rfl, ?_⟩)) (by repeat (first | exact trivial | refine ⟨by rfl, by rfl, ?_⟩)); try rfl)
theorem k_heldD1 : Kon Try.prog 22 [roA [dM], vI 1] [] (vI 7) [] [] := by
  (refine kon_mk T0ok (fn := Try.f22) (c := Try.f22.body.get rfl) Try.func22 rfl (by rfl) (by rfl) (by rfl) ?_; intro hfit hfe)
  (repeat (first | refine gq_KEB ?_ | (refine ga_KEB ?_; intro _q ⟨_he, _hq⟩)))
  refine aw_unroll 2 ?_
  (repeat (first | refine gq_KEB ?_ | (refine ga_KEB ?_; intro _q ⟨_he, _hq⟩)))
  ((try refine aw_ret ?_); refine ret_auto2 (by rfl) (by rfl) (by rfl) (by repeat (first | exact trivial | refine ⟨by first | rfl | omega, ?_⟩)) ?_ (by repeat (first | exact trivial | refine ⟨by rfl, by rfl, ?_⟩)) (by repeat (first | exact trivial | refine ⟨by rfl, by rfl, ?_⟩)); try rfl)
abbrev hD (a : Int) : Dd := ⟨1, a, ⟨0, 0, 0, 0⟩⟩
section
variable (n : Int) (l : List Gt) (f w a : Int) (hl : l.length ≤ 100000000) (hr : -9223372036854775808 ≤ n ∧ n ≤ 9223372036854775807)
include hl hr
theorem k_hd0 (h : (bok n l f w a && decide (a > 0)) = false) : Kon Try.prog 18 [bG n l f w a] [] vN [] [] := by
  have hV := k_bv n l f w a hl hr
  cases h1 : bok n l f w a with
  | false =>
    rw [h1] at hV
    (refine kon_mk T0ok (fn := Try.f18) (c := Try.f18.body.get rfl) Try.func18 rfl (by rfl) (by rfl) (by rfl) ?_; intro hfit hfe)
    (repeat (first | refine gq_KEB ?_ | (refine ga_KEB ?_; intro _q ⟨_he, _hq⟩) | refine gd_KEB ?_))
    ((try refine aw_ret ?_); refine ret_auto2 (by rfl) (by rfl) (by rfl) (by repeat (first | exact trivial | refine ⟨by first | rfl | omega, ?_⟩)) ?_ (by repeat (first | exact trivial | refine ⟨by rfl, by rfl, ?_⟩)) (by repeat (first | exact trivial | refine ⟨by rfl, by rfl, ?_⟩)); try rfl)
  | true =>
    rw [h1] at hV h
    have ha := (bok_t h1).2.2.1
    have h2 : (a == 0) = true := by rw [beq_iff_eq]; have : ¬ a > 0 := by simpa using h
                                    omega
    (refine kon_mk T0ok (fn := Try.f18) (c := Try.f18.body.get rfl) Try.func18 rfl (by rfl) (by rfl) (by rfl) ?_; intro hfit hfe)
    (repeat (first | refine gq_KEB ?_ | (refine ga_KEB ?_; intro _q ⟨_he, _hq⟩) | refine gd_KEB ?_))
    ((try refine aw_ret ?_); refine ret_auto2 (by rfl) (by rfl) (by rfl) (by repeat (first | exact trivial | refine ⟨by first | rfl | omega, ?_⟩)) ?_ (by repeat (first | exact trivial | refine ⟨by rfl, by rfl, ?_⟩)) (by repeat (first | exact trivial | refine ⟨by rfl, by rfl, ?_⟩)); try rfl)
theorem k_hd1 (h : (bok n l f w a && decide (a > 0)) = true) : Kon Try.prog 18 [bG n l f w a] [] (slA 0 0 [hD a]) [dRow [hD a]] [] := by
  have hV := k_bv n l f w a hl hr
  rw [Bool.and_eq_true] at h
  rw [h.1] at hV
  have h2 : (a == 0) = false := by rw [beq_eq_false_iff_ne]; have : a > 0 := by simpa using h.2
                                   omega
  clear h
  (refine kon_mk T0ok (fn := Try.f18) (c := Try.f18.body.get rfl) Try.func18 rfl (by rfl) (by rfl) (by rfl) ?_; intro hfit hfe)
  (repeat (first | refine gq_KEB ?_ | (refine ga_KEB ?_; intro _q ⟨_he, _hq⟩) | refine gd_KEB ?_))
  ((try refine aw_ret ?_); refine ret_auto2 (by rfl) (by rfl) (by rfl) (by repeat (first | exact trivial | refine ⟨by first | rfl | omega, ?_⟩)) ?_ (by repeat (first | exact trivial | refine ⟨by rfl, by rfl, ?_⟩)) (by repeat (first | exact trivial | refine ⟨by rfl, by rfl, ?_⟩)); try rfl)
theorem k_hdS0 (h : (bok n l f w a && decide (a > 0)) = false) : Kon Try.prog 17 [bG n l f w a] [] (slA 0 0 ([] : List Dd)) [dRow []] [] := by
  have hV := k_bvS n l f w a hl hr
  cases h1 : bok n l f w a with
  | false =>
    rw [h1] at hV
    (refine kon_mk T0ok (fn := Try.f17) (c := Try.f17.body.get rfl) Try.func17 rfl (by rfl) (by rfl) (by rfl) ?_; intro hfit hfe)
    (repeat (first | refine gq_KEB ?_ | (refine ga_KEB ?_; intro _q ⟨_he, _hq⟩) | refine gd_KEB ?_))
    ((try refine aw_ret ?_); refine ret_auto2 (by rfl) (by rfl) (by rfl) (by repeat (first | exact trivial | refine ⟨by first | rfl | omega, ?_⟩)) ?_ (by repeat (first | exact trivial | refine ⟨by rfl, by rfl, ?_⟩)) (by repeat (first | exact trivial | refine ⟨by rfl, by rfl, ?_⟩)); try rfl)
  | true =>
    rw [h1] at hV h
    have h2 : decide (a > 0) = false := h
    (refine kon_mk T0ok (fn := Try.f17) (c := Try.f17.body.get rfl) Try.func17 rfl (by rfl) (by rfl) (by rfl) ?_; intro hfit hfe)
    (repeat (first | refine gq_KEB ?_ | (refine ga_KEB ?_; intro _q ⟨_he, _hq⟩) | refine gd_KEB ?_))
    ((try refine aw_ret ?_); refine ret_auto2 (by rfl) (by rfl) (by rfl) (by repeat (first | exact trivial | refine ⟨by first | rfl | omega, ?_⟩)) ?_ (by repeat (first | exact trivial | refine ⟨by rfl, by rfl, ?_⟩)) (by repeat (first | exact trivial | refine ⟨by rfl, by rfl, ?_⟩)); try rfl)
theorem k_hdS1 (h : (bok n l f w a && decide (a > 0)) = true) : Kon Try.prog 17 [bG n l f w a] [] (slA 0 0 [hD a]) [dRow [hD a]] [] := by
  have hV := k_bvS n l f w a hl hr
  rw [Bool.and_eq_true] at h
  rw [h.1] at hV
  have h2 : decide (a > 0) = true := h.2
  clear h
  (refine kon_mk T0ok (fn := Try.f17) (c := Try.f17.body.get rfl) Try.func17 rfl (by rfl) (by rfl) (by rfl) ?_; intro hfit hfe)
  (repeat (first | refine gq_KEB ?_ | (refine ga_KEB ?_; intro _q ⟨_he, _hq⟩) | refine gd_KEB ?_))
  ((try refine aw_ret ?_); refine ret_auto2 (by rfl) (by rfl) (by rfl) (by repeat (first | exact trivial | refine ⟨by first | rfl | omega, ?_⟩)) ?_ (by repeat (first | exact trivial | refine ⟨by rfl, by rfl, ?_⟩)) (by repeat (first | exact trivial | refine ⟨by rfl, by rfl, ?_⟩)); try rfl)
end
set_option maxHeartbeats 4000000 in
theorem k_lawHome (n : Int) (l : List Gt) (f w a : Int) (hl : l.length ≤ 9223372036854775807) (hr : -9223372036854775808 ≤ n ∧ n ≤ 9223372036854775807) : Kon Try.prog 4 [bG n l f w a] [] (vB true) [] [] := by
  have hS := k_szBn n l f w a 1048576 ⟨hl, by omega, by omega⟩
  rcases Int.lt_or_le (1048576 - (l.length : Int)) 0 with h0 | h0
  · rw [if_pos h0] at hS
    (refine kon_mk T0ok (fn := Try.f4) (c := Try.f4.body.get rfl) Try.func4 rfl (by rfl) (by rfl) (by rfl) ?_; intro hfit hfe)
    (repeat (first | refine gq_KEB ?_ | (refine ga_KEB ?_; intro _q ⟨_he, _hq⟩) | refine gd_KEB ?_))
    ((try refine aw_ret ?_); refine ret_auto2 (by rfl) (by rfl) (by rfl) (by repeat (first | exact trivial | refine ⟨by first | rfl | omega, ?_⟩)) ?_ (by repeat (first | exact trivial | refine ⟨by rfl, by rfl, ?_⟩)) (by repeat (first | exact trivial | refine ⟨by rfl, by rfl, ?_⟩)); try rfl)
  rw [if_neg (by omega)] at hS
  have hl2 : l.length ≤ 1048576 := by omega
  have hd : decide (1048576 - (l.length : Int) < 0) = false := decide_eq_false (by omega)
  have hd2 : decide (1 + 4 * (l.length : Int) < 0) = false := decide_eq_false (by omega)
  cases h : bok n l f w a && decide (a > 0) with
  | false =>
    have hV := k_hd0 n l f w a (by omega) hr h
    have hVS := k_hdS0 n l f w a (by omega) hr h
    have q1 := k_markD0
    have q2 := k_heldD0
    (refine kon_mk T0ok (fn := Try.f4) (c := Try.f4.body.get rfl) Try.func4 rfl (by rfl) (by rfl) (by rfl) ?_; intro hfit hfe)
    (repeat (first | refine gq_KEB ?_ | (refine ga_KEB ?_; intro _q ⟨_he, _hq⟩) | refine gd_KEB ?_))
    ((try refine aw_ret ?_); refine ret_auto2 (by rfl) (by rfl) (by rfl) (by repeat (first | exact trivial | refine ⟨by first | rfl | omega, ?_⟩)) ?_ (by repeat (first | exact trivial | refine ⟨by rfl, by rfl, ?_⟩)) (by repeat (first | exact trivial | refine ⟨by rfl, by rfl, ?_⟩)); try rfl)
  | true =>
    have hV := k_hd1 n l f w a (by omega) hr h
    have hVS := k_hdS1 n l f w a (by omega) hr h
    have q1 := k_markD1 (hD a)
    have q2 := k_heldD1
    (refine kon_mk T0ok (fn := Try.f4) (c := Try.f4.body.get rfl) Try.func4 rfl (by rfl) (by rfl) (by rfl) ?_; intro hfit hfe)
    (repeat (first | refine gq_KEB ?_ | (refine ga_KEB ?_; intro _q ⟨_he, _hq⟩) | refine gd_KEB ?_))
    ((try refine aw_ret ?_); refine ret_auto2 (by rfl) (by rfl) (by rfl) (by repeat (first | exact trivial | refine ⟨by first | rfl | omega, ?_⟩)) ?_ (by repeat (first | exact trivial | refine ⟨by rfl, by rfl, ?_⟩)) (by repeat (first | exact trivial | refine ⟨by rfl, by rfl, ?_⟩)); try rfl)
end Go.Proofs.Ytahopkachpachaa
