/- KMK, KMU, RowD, RowE, RowF: laid into one text. -/
import Derived.Test.YteagoafamjbpbaaQExactBenchRunI
import Derived.ProofKit
import Derived.OpenShut
import Derived.ShutString
import Derived.ChangeOld
import Derived.Below
import Derived.Lib.SmallJoins
import Derived.Deep.Slices
import Derived.Deep.Strs

/- BenchRun of both sides. -/
namespace Go.Proofs.Yteagoafamjbpbaa
set_option linter.unusedVariables false
set_option linter.unusedSimpArgs false
set_option maxRecDepth 20000
open Go.RowKit
attribute [local irreducible] runA runX AW
def wsTK : WsT := (70, ([], true)) :: wsT
theorem gq_KMK {H G : Prop} (k : H) (h : Hid H → G := by (intro hh; (first | (first | ((first | refine r_none ?_ | refine r_gt (by rfl) (by rfl) (by first | rfl | assumption | omega | (simp only [*, Bool.not_false, Bool.not_true]; first | done | fail) | (simp [*]; first | done | fail)) (by rfl) ?_ | refine r_gf (by rfl) (by rfl) (by first | rfl | assumption | omega | (simp only [*, Bool.not_false, Bool.not_true]; first | done | fail) | (simp [*]; first | done | fail)) (by rfl) ?_); (first | fail | ((first | (refine z_op (by rfl) ?_; first | refine z_ok ?_ ?_ | refine z_ex ?_ (by first | exact ft_raw rfl rfl | ((first | refine ft_rp rfl rfl rfl ?_ | refine ft_row rfl rfl rfl ?_ | refine ft_rpF rfl rfl rfl ?_ | refine ft_rowF rfl rfl rfl ?_ | refine up_row rfl rfl ?_ | refine up_rowF rfl rfl rfl ?_ | refine ct_0 rfl ?_ | refine ct_r rfl rfl ?_ | refine ct_c rfl rfl rfl ?_ | refine cu_all rfl ?_ | refine cu_to rfl ?_ | refine cu_from rfl ?_ | refine cu_p rfl ?_ | fail); (first | omega | (simp only [List.length_append, List.length_replicate, List.length_cons, List.length_nil, List.length_set, List.length_take, List.length_drop, true_and]; omega))) | exact up_raw rfl | exact pk_t (by first | rfl | assumption | omega | (simp only [*, Bool.not_false, Bool.not_true]; first | done | fail) | (simp [*]; first | done | fail)) rfl | exact pk_f (by first | rfl | assumption | omega | (simp only [*, Bool.not_false, Bool.not_true]; first | done | fail) | (simp [*]; first | done | fail)) rfl | fail | exact rw_raw | exact pu_cv (fun w => rfl) (by omega) | exact pu_of (fun w => rfl) rfl | exact be_of (fun w => rfl) | exact nc_of (fun _ _ _ _ => rfl) rfl | exact bu_of (fun w => rfl) rfl | fail) ?_) | ((first | refine q_callE wsTK wsZ (by rfl) ?_ | refine q_callVE wsTK (by rfl) (by rfl) ?_); refine ⟨_, _, _, (by first | assumption | exact k_copyS _ _ _ _ _ (by omega)), _, by rfl, ?_, ?_⟩)); focus (first | exact trivial | fail | exact rfl | (first | omega | (simp only [List.length_append, List.length_replicate, List.length_cons, List.length_nil, List.length_set, List.length_take, List.length_drop, true_and]; omega)) | exact cvB (fun w => rfl) | ((repeat' (first | exact rfl | exact cV_len _ | exact cV_ln rfl (by omega) | exact Cel.pos | omega | exact trivial | refine And.intro ?_ ?_)); done) | (simp [*]; done) | (simp; omega))) | fail)) | refine r_nt (by rfl) (by rfl) (by first | rfl | assumption | omega | (simp only [*, Bool.not_false, Bool.not_true]; first | done | fail) | (simp [*]; first | done | fail)) (by rfl) ?_ | refine r_nf (by rfl) (by rfl) (by first | rfl | assumption | omega | (simp only [*, Bool.not_false, Bool.not_true]; first | done | fail) | (simp [*]; first | done | fail)) (by rfl) ?_ | refine r_gu (by rfl) (by rfl) (by rfl) ?_ | refine r_nil ?_) | (first | refine aw_seq ?_ | refine aw_ct (by rfl) (by first | rfl | assumption | omega | (simp only [*, Bool.not_false, Bool.not_true]; first | done | fail) | (simp [*]; first | done | fail)) ?_ | refine aw_cf (by rfl) (by first | rfl | assumption | omega | (simp only [*, Bool.not_false, Bool.not_true]; first | done | fail) | (simp [*]; first | done | fail)) ?_ | refine aw_block ?_ | refine aw_region T0ok cfU_ok (by rfl) ?_ | refine aw_skip ?_ | refine aw_exit ?_ | refine ra_step ?_)); (repeat (first | (first | ((first | refine r_none ?_ | refine r_gt (by rfl) (by rfl) (by first | rfl | assumption | omega | (simp only [*, Bool.not_false, Bool.not_true]; first | done | fail) | (simp [*]; first | done | fail)) (by rfl) ?_ | refine r_gf (by rfl) (by rfl) (by first | rfl | assumption | omega | (simp only [*, Bool.not_false, Bool.not_true]; first | done | fail) | (simp [*]; first | done | fail)) (by rfl) ?_); (first | fail | ((first | (refine z_op (by rfl) ?_; first | refine z_ok ?_ ?_ | refine z_ex ?_ (by first | exact ft_raw rfl rfl | ((first | refine ft_rp rfl rfl rfl ?_ | refine ft_row rfl rfl rfl ?_ | refine ft_rpF rfl rfl rfl ?_ | refine ft_rowF rfl rfl rfl ?_ | refine up_row rfl rfl ?_ | refine up_rowF rfl rfl rfl ?_ | refine ct_0 rfl ?_ | refine ct_r rfl rfl ?_ | refine ct_c rfl rfl rfl ?_ | refine cu_all rfl ?_ | refine cu_to rfl ?_ | refine cu_from rfl ?_ | refine cu_p rfl ?_ | fail); (first | omega | (simp only [List.length_append, List.length_replicate, List.length_cons, List.length_nil, List.length_set, List.length_take, List.length_drop, true_and]; omega))) | exact up_raw rfl | exact pk_t (by first | rfl | assumption | omega | (simp only [*, Bool.not_false, Bool.not_true]; first | done | fail) | (simp [*]; first | done | fail)) rfl | exact pk_f (by first | rfl | assumption | omega | (simp only [*, Bool.not_false, Bool.not_true]; first | done | fail) | (simp [*]; first | done | fail)) rfl | fail | exact rw_raw | exact pu_cv (fun w => rfl) (by omega) | exact pu_of (fun w => rfl) rfl | exact be_of (fun w => rfl) | exact nc_of (fun _ _ _ _ => rfl) rfl | exact bu_of (fun w => rfl) rfl | fail) ?_) | ((first | refine q_callE wsTK wsZ (by rfl) ?_ | refine q_callVE wsTK (by rfl) (by rfl) ?_); refine ⟨_, _, _, (by first | assumption | exact k_copyS _ _ _ _ _ (by omega)), _, by rfl, ?_, ?_⟩)); focus (first | exact trivial | fail | exact rfl | (first | omega | (simp only [List.length_append, List.length_replicate, List.length_cons, List.length_nil, List.length_set, List.length_take, List.length_drop, true_and]; omega)) | exact cvB (fun w => rfl) | ((repeat' (first | exact rfl | exact cV_len _ | exact cV_ln rfl (by omega) | exact Cel.pos | omega | exact trivial | refine And.intro ?_ ?_)); done) | (simp [*]; done) | (simp; omega))) | fail)) | refine r_nt (by rfl) (by rfl) (by first | rfl | assumption | omega | (simp only [*, Bool.not_false, Bool.not_true]; first | done | fail) | (simp [*]; first | done | fail)) (by rfl) ?_ | refine r_nf (by rfl) (by rfl) (by first | rfl | assumption | omega | (simp only [*, Bool.not_false, Bool.not_true]; first | done | fail) | (simp [*]; first | done | fail)) (by rfl) ?_ | refine r_gu (by rfl) (by rfl) (by rfl) ?_ | refine r_nil ?_) | (first | refine aw_seq ?_ | refine aw_ct (by rfl) (by first | rfl | assumption | omega | (simp only [*, Bool.not_false, Bool.not_true]; first | done | fail) | (simp [*]; first | done | fail)) ?_ | refine aw_cf (by rfl) (by first | rfl | assumption | omega | (simp only [*, Bool.not_false, Bool.not_true]; first | done | fail) | (simp [*]; first | done | fail)) ?_ | refine aw_block ?_ | refine aw_region T0ok cfU_ok (by rfl) ?_ | refine aw_skip ?_ | refine aw_exit ?_ | refine ra_step ?_))); exact hh.out)) : G := h ⟨k⟩
theorem ga_KMK {H G : Prop} (k : H) (h : Hid H → G := by (intro hh; (first | refine r_none ?_ | refine r_gt (by rfl) (by rfl) (by first | rfl | assumption | omega | (simp only [*, Bool.not_false, Bool.not_true]; first | done | fail) | (simp [*]; first | done | fail)) (by rfl) ?_ | refine r_gf (by rfl) (by rfl) (by first | rfl | assumption | omega | (simp only [*, Bool.not_false, Bool.not_true]; first | done | fail) | (simp [*]; first | done | fail)) (by rfl) ?_); refine z_op (by rfl) ?_; refine z_al ?_ hh.out; focus (first | exact trivial | fail | exact rfl | (first | omega | (simp only [List.length_append, List.length_replicate, List.length_cons, List.length_nil, List.length_set, List.length_take, List.length_drop, true_and]; omega)) | exact cvB (fun w => rfl) | ((repeat' (first | exact rfl | exact cV_len _ | exact cV_ln rfl (by omega) | exact Cel.pos | omega | exact trivial | refine And.intro ?_ ?_)); done) | (simp [*]; done) | (simp; omega)))) : G := h ⟨k⟩
theorem gs_KMK {H G : Prop} (k : H) (h : Hid H → G := by (intro hh; (first | ((first | refine r_none ?_ | refine r_gt (by rfl) (by rfl) (by first | rfl | assumption | omega | (simp only [*, Bool.not_false, Bool.not_true]; first | done | fail) | (simp [*]; first | done | fail)) (by rfl) ?_ | refine r_gf (by rfl) (by rfl) (by first | rfl | assumption | omega | (simp only [*, Bool.not_false, Bool.not_true]; first | done | fail) | (simp [*]; first | done | fail)) (by rfl) ?_); (first | fail | ((first | (refine z_op (by rfl) ?_; first | refine z_ok ?_ ?_ | refine z_ex ?_ (by first | exact ft_raw rfl rfl | ((first | refine ft_rp rfl rfl rfl ?_ | refine ft_row rfl rfl rfl ?_ | refine ft_rpF rfl rfl rfl ?_ | refine ft_rowF rfl rfl rfl ?_ | refine up_row rfl rfl ?_ | refine up_rowF rfl rfl rfl ?_ | refine ct_0 rfl ?_ | refine ct_r rfl rfl ?_ | refine ct_c rfl rfl rfl ?_ | refine cu_all rfl ?_ | refine cu_to rfl ?_ | refine cu_from rfl ?_ | refine cu_p rfl ?_ | fail); (first | omega | (simp only [List.length_append, List.length_replicate, List.length_cons, List.length_nil, List.length_set, List.length_take, List.length_drop, true_and]; omega))) | exact up_raw rfl | exact pk_t (by first | rfl | assumption | omega | (simp only [*, Bool.not_false, Bool.not_true]; first | done | fail) | (simp [*]; first | done | fail)) rfl | exact pk_f (by first | rfl | assumption | omega | (simp only [*, Bool.not_false, Bool.not_true]; first | done | fail) | (simp [*]; first | done | fail)) rfl | fail | exact rw_raw | exact pu_cv (fun w => rfl) (by omega) | exact pu_of (fun w => rfl) rfl | exact be_of (fun w => rfl) | exact nc_of (fun _ _ _ _ => rfl) rfl | exact bu_of (fun w => rfl) rfl | fail) ?_) | ((first | refine q_callE wsTK wsZ (by rfl) ?_ | refine q_callVE wsTK (by rfl) (by rfl) ?_); refine ⟨_, _, _, (by first | assumption | exact k_copyS _ _ _ _ _ (by omega)), _, by rfl, ?_, ?_⟩)); focus (first | exact trivial | fail | exact rfl | (first | omega | (simp only [List.length_append, List.length_replicate, List.length_cons, List.length_nil, List.length_set, List.length_take, List.length_drop, true_and]; omega)) | exact cvB (fun w => rfl) | ((repeat' (first | exact rfl | exact cV_len _ | exact cV_ln rfl (by omega) | exact Cel.pos | omega | exact trivial | refine And.intro ?_ ?_)); done) | (simp [*]; done) | (simp; omega))) | fail)) | refine r_nt (by rfl) (by rfl) (by first | rfl | assumption | omega | (simp only [*, Bool.not_false, Bool.not_true]; first | done | fail) | (simp [*]; first | done | fail)) (by rfl) ?_ | refine r_nf (by rfl) (by rfl) (by first | rfl | assumption | omega | (simp only [*, Bool.not_false, Bool.not_true]; first | done | fail) | (simp [*]; first | done | fail)) (by rfl) ?_ | refine r_gu (by rfl) (by rfl) (by rfl) ?_ | refine r_nil ?_); (repeat (first | ((first | refine r_none ?_ | refine r_gt (by rfl) (by rfl) (by first | rfl | assumption | omega | (simp only [*, Bool.not_false, Bool.not_true]; first | done | fail) | (simp [*]; first | done | fail)) (by rfl) ?_ | refine r_gf (by rfl) (by rfl) (by first | rfl | assumption | omega | (simp only [*, Bool.not_false, Bool.not_true]; first | done | fail) | (simp [*]; first | done | fail)) (by rfl) ?_); (first | fail | ((first | (refine z_op (by rfl) ?_; first | refine z_ok ?_ ?_ | refine z_ex ?_ (by first | exact ft_raw rfl rfl | ((first | refine ft_rp rfl rfl rfl ?_ | refine ft_row rfl rfl rfl ?_ | refine ft_rpF rfl rfl rfl ?_ | refine ft_rowF rfl rfl rfl ?_ | refine up_row rfl rfl ?_ | refine up_rowF rfl rfl rfl ?_ | refine ct_0 rfl ?_ | refine ct_r rfl rfl ?_ | refine ct_c rfl rfl rfl ?_ | refine cu_all rfl ?_ | refine cu_to rfl ?_ | refine cu_from rfl ?_ | refine cu_p rfl ?_ | fail); (first | omega | (simp only [List.length_append, List.length_replicate, List.length_cons, List.length_nil, List.length_set, List.length_take, List.length_drop, true_and]; omega))) | exact up_raw rfl | exact pk_t (by first | rfl | assumption | omega | (simp only [*, Bool.not_false, Bool.not_true]; first | done | fail) | (simp [*]; first | done | fail)) rfl | exact pk_f (by first | rfl | assumption | omega | (simp only [*, Bool.not_false, Bool.not_true]; first | done | fail) | (simp [*]; first | done | fail)) rfl | fail | exact rw_raw | exact pu_cv (fun w => rfl) (by omega) | exact pu_of (fun w => rfl) rfl | exact be_of (fun w => rfl) | exact nc_of (fun _ _ _ _ => rfl) rfl | exact bu_of (fun w => rfl) rfl | fail) ?_) | ((first | refine q_callE wsTK wsZ (by rfl) ?_ | refine q_callVE wsTK (by rfl) (by rfl) ?_); refine ⟨_, _, _, (by first | assumption | exact k_copyS _ _ _ _ _ (by omega)), _, by rfl, ?_, ?_⟩)); focus (first | exact trivial | fail | exact rfl | (first | omega | (simp only [List.length_append, List.length_replicate, List.length_cons, List.length_nil, List.length_set, List.length_take, List.length_drop, true_and]; omega)) | exact cvB (fun w => rfl) | ((repeat' (first | exact rfl | exact cV_len _ | exact cV_ln rfl (by omega) | exact Cel.pos | omega | exact trivial | refine And.intro ?_ ?_)); done) | (simp [*]; done) | (simp; omega))) | fail)) | refine r_nt (by rfl) (by rfl) (by first | rfl | assumption | omega | (simp only [*, Bool.not_false, Bool.not_true]; first | done | fail) | (simp [*]; first | done | fail)) (by rfl) ?_ | refine r_nf (by rfl) (by rfl) (by first | rfl | assumption | omega | (simp only [*, Bool.not_false, Bool.not_true]; first | done | fail) | (simp [*]; first | done | fail)) (by rfl) ?_ | refine r_gu (by rfl) (by rfl) (by rfl) ?_ | refine r_nil ?_)); exact hh.out)) : G := h ⟨k⟩
theorem gc_KMK {H G : Prop} (k : H) (h : Hid H → G := by (intro hh; (first | refine aw_seq ?_ | refine aw_ct (by rfl) (by first | rfl | assumption | omega | (simp only [*, Bool.not_false, Bool.not_true]; first | done | fail) | (simp [*]; first | done | fail)) ?_ | refine aw_cf (by rfl) (by first | rfl | assumption | omega | (simp only [*, Bool.not_false, Bool.not_true]; first | done | fail) | (simp [*]; first | done | fail)) ?_ | refine aw_block ?_ | refine aw_region T0ok cfU_ok (by rfl) ?_ | refine aw_skip ?_ | refine aw_exit ?_ | refine ra_step ?_); (repeat (first | refine aw_seq ?_ | refine aw_ct (by rfl) (by first | rfl | assumption | omega | (simp only [*, Bool.not_false, Bool.not_true]; first | done | fail) | (simp [*]; first | done | fail)) ?_ | refine aw_cf (by rfl) (by first | rfl | assumption | omega | (simp only [*, Bool.not_false, Bool.not_true]; first | done | fail) | (simp [*]; first | done | fail)) ?_ | refine aw_block ?_ | refine aw_region T0ok cfU_ok (by rfl) ?_ | refine aw_skip ?_ | refine aw_exit ?_ | refine ra_step ?_)); exact hh.out)) : G := h ⟨k⟩
abbrev BS := List Gt × Int × Nat
def stp (n : Int) (s : BS × Nat) (d : Dd) : BS × Nat := ((doR n s.1.1 s.1.2.1 s.1.2.2 d).1, if (doR n s.1.1 s.1.2.1 s.1.2.2 d).2 then s.2 + 1 else s.2)
def runM (n : Int) (s : BS × Nat) (ds : List Dd) : BS × Nat := ds.foldl (stp n) s
theorem runM_drop {n : Int} {s : BS × Nat} {ds : List Dd} {i : Nat} (h : i < ds.length) : runM n s (ds.drop i) = runM n (stp n s (ds.getD i Cel.no)) (ds.drop (i + 1)) := by
  have e : ds.getD i Cel.no = ds[i] := by simp [List.getD_eq_getElem?_getD, h]
  rw [List.drop_eq_getElem_cons h, e]; rfl
theorem doR_no {n : Int} {l l' : List Gt} {w w' : Int} {A A' : Nat} {d : Dd} (h : doR n l w A d = ((l', w', A'), false)) : l' = l ∧ w' = w ∧ A' = A := by
  unfold doR at h
  split at h
  · cases h
  · cases h; exact ⟨rfl, rfl, rfl⟩
theorem bs_inj {n : Int} {l l' : List Gt} {w w' : Int} {A A' q m : Nat} (h : runM n ((l, w, A), q) [] = ((l', w', A'), m)) : l = l' ∧ w = w' ∧ A = A' ∧ q = m := by
  have h2 : (((l, w, A), q) : BS × Nat) = ((l', w', A'), m) := h
  cases h2
  exact ⟨rfl, rfl, rfl, rfl⟩
abbrev bCr (n : Int) (l : List Gt) (f w a : Int) : List AC := [.v (.int .i64 n), roG l, .v (.int .i64 f), .v (.int .i64 w), .v (.int .i64 a)]
abbrev bN (n : Int) (l : List Gt) (f w a : Int) (m : Int) : AV := .tup [.agg [.v (.int .i64 n), .sl 0 0 l.length, .v (.int .i64 f), .v (.int .i64 w), .v (.int .i64 a)], .one (.v (.int .i64 m))]
abbrev bN0 : AV := .tup [.agg [.v (.int .i64 0), .v (.slice none 0 0), .v (.int .i64 0), .v (.int .i64 0), .v (.int .i64 0)], .one (.v (.int .i64 0))]
theorem k_brI0 (n : Int) (l : List Gt) (f w a : Int) (ds : List Dd) (hl : l.length ≤ 10000000) (hr : -9223372036854775808 ≤ n ∧ n ≤ 9223372036854775807) (h : bok n l f w a = false ∨ 40 < ds.length) (hdl : ds.length ≤ 10000000) : Kon Try.prog 25 [bG n l f w a, roA ds] [] bN0 [] [] := by
  have hB := k_bv n l f w a (by omega) hr
  cases hb : bok n l f w a with
  | false =>
    rw [hb] at hB
    (refine kon_mk T0ok (fn := Try.f25) (c := Try.f25.body.get rfl) Try.func25 rfl (by rfl) (by rfl) (by rfl) ?_; intro hfit hfe)
    (repeat (first | refine gq_KMK ?_ | (refine ga_KMK ?_; intro _q ⟨_he, _hq⟩)))
    ((try refine aw_ret ?_); refine ret_auto2 (by rfl) (by rfl) (by rfl) (by repeat (first | exact trivial | refine ⟨by first | rfl | omega, ?_⟩)) ?_ (by repeat (first | exact trivial | refine ⟨by rfl, by rfl, ?_⟩)) (by repeat (first | exact trivial | refine ⟨by rfl, by rfl, ?_⟩)); try rfl)
  | true =>
    rw [hb] at hB
    have hd : decide ((ds.length : Int) > 40) = true := decide_eq_true (by
      rcases h with h | h
      · rw [hb] at h; cases h
      · omega)
    (refine kon_mk T0ok (fn := Try.f25) (c := Try.f25.body.get rfl) Try.func25 rfl (by rfl) (by rfl) (by rfl) ?_; intro hfit hfe)
    (repeat (first | refine gq_KMK ?_ | (refine ga_KMK ?_; intro _q ⟨_he, _hq⟩)))
    ((try refine aw_ret ?_); refine ret_auto2 (by rfl) (by rfl) (by rfl) (by repeat (first | exact trivial | refine ⟨by first | rfl | omega, ?_⟩)) ?_ (by repeat (first | exact trivial | refine ⟨by rfl, by rfl, ?_⟩)) (by repeat (first | exact trivial | refine ⟨by rfl, by rfl, ?_⟩)); try rfl)
theorem k_brS0 (n : Int) (l : List Gt) (f w a : Int) (ds : List Dd) (hl : l.length ≤ 10000000) (hr : -9223372036854775808 ≤ n ∧ n ≤ 9223372036854775807) (h : bok n l f w a = false ∨ 40 < ds.length) (hdl : ds.length ≤ 10000000) : Kon Try.prog 37 [bG n l f w a, roA ds] [] bN0 [] [] := by
  have hB := k_bvS n l f w a (by omega) hr
  cases hb : bok n l f w a with
  | false =>
    rw [hb] at hB
    (refine kon_mk T0ok (fn := Try.f37) (c := Try.f37.body.get rfl) Try.func37 rfl (by rfl) (by rfl) (by rfl) ?_; intro hfit hfe)
    (repeat (first | refine gq_KMK ?_ | (refine ga_KMK ?_; intro _q ⟨_he, _hq⟩)))
    ((try refine aw_ret ?_); refine ret_auto2 (by rfl) (by rfl) (by rfl) (by repeat (first | exact trivial | refine ⟨by first | rfl | omega, ?_⟩)) ?_ (by repeat (first | exact trivial | refine ⟨by rfl, by rfl, ?_⟩)) (by repeat (first | exact trivial | refine ⟨by rfl, by rfl, ?_⟩)); try rfl)
  | true =>
    rw [hb] at hB
    have hd : decide ((ds.length : Int) > 40) = true := decide_eq_true (by
      rcases h with h | h
      · rw [hb] at h; cases h
      · omega)
    (refine kon_mk T0ok (fn := Try.f37) (c := Try.f37.body.get rfl) Try.func37 rfl (by rfl) (by rfl) (by rfl) ?_; intro hfit hfe)
    (repeat (first | refine gq_KMK ?_ | (refine ga_KMK ?_; intro _q ⟨_he, _hq⟩)))
    ((try refine aw_ret ?_); refine ret_auto2 (by rfl) (by rfl) (by rfl) (by repeat (first | exact trivial | refine ⟨by first | rfl | omega, ?_⟩)) ?_ (by repeat (first | exact trivial | refine ⟨by rfl, by rfl, ?_⟩)) (by repeat (first | exact trivial | refine ⟨by rfl, by rfl, ?_⟩)); try rfl)
set_option maxHeartbeats 4000000 in
theorem kn_brI {n : Int} {l l' : List Gt} {f w w' : Int} {A A' m : Nat} {ds : List Dd} (h : bok n l f w A = true) (hdl : ds.length ≤ 40) (hR : runM n ((l, w, A), 0) ds = ((l', w', A'), m)) : Kon Try.prog 25 [bG n l f w (A : Int), roA ds] [] (bN n l' f w' (A' : Int) (m : Int)) [gRow l'] [] := by
  have hn := (cokB_t (bok_t h).1).1
  have hl := (cokB_t (bok_t h).1).2.1
  have hB := k_bv n l f w A (by omega) (by omega)
  rw [h] at hB
  have hd40 : decide ((ds.length : Int) > 40) = false := decide_eq_false (by omega)
  (refine kon_mk T0ok (fn := Try.f25) (c := Try.f25.body.get rfl) Try.func25 rfl (by rfl) (by rfl) (by rfl) ?_; intro hfit hfe)
  (repeat (first | refine gq_KMK ?_ | (refine ga_KMK ?_; intro _q ⟨_he, _hq⟩)))
  (refine aw_rd [0, 1, 2, 4, 20, 21] [64] (fun g : (BS × Nat) × Nat => [(6, vI (g.1.2 : Int)), (22, vI (g.2 : Int))]) (fun g => [(32, (0, .box (bCr n g.1.1.1 f g.1.1.2.1 (g.1.1.2.2 : Int))))]) (fun g => g.2 ≤ ds.length ∧ g.1.2 ≤ g.2 ∧ bok n g.1.1.1 f g.1.1.2.1 (g.1.1.2.2 : Int) = true ∧ runM n g.1 (ds.drop g.2) = ((l', w', A'), m)) (fun g => ds.length - g.2) (((l, w, A), 0), 0) (by rfl) (by rfl) ?_ (by rfl) (by repeat (first | exact trivial | refine ⟨by rfl, ?_⟩ | refine ⟨vI_of (by rfl) (by omega), ?_⟩)) (by repeat (first | exact trivial | refine ⟨by rfl, ?_⟩ | refine ⟨vI_of (by rfl) (by omega), ?_⟩)) ?_)
  · exact ⟨Nat.zero_le _, Nat.le_refl _, h, hR⟩
  rintro ⟨⟨⟨x, v, B⟩, q⟩, i⟩ ⟨hi, hq, hb, hz⟩
  dsimp only at hi hq hb hz ⊢
  rcases Nat.lt_or_ge i ds.length with h5 | h5
  · have hd : decide ((i : Int) < (ds.length : Int)) = true := decide_eq_true (by omega)
    rw [runM_drop h5] at hz
    obtain ⟨d, hde⟩ : ∃ d, ds.getD i Cel.no = d := ⟨_, rfl⟩
    rw [hde] at hz
    rcases hr2 : doR n x v B d with ⟨⟨x2, v2, B2⟩, ok⟩
    have hD := kn_doI hb hr2
    have hb2 := doR_ok hb hr2
    have hdn : ds.getD (i : Int).toNat Cel.no = d := hde
    cases ok with
    | true =>
      have es : stp n ((x, v, B), q) d = ((x2, v2, B2), q + 1) := by unfold stp; dsimp only; rw [hr2]; rfl
      rw [es] at hz
      have hinv : i + 1 ≤ ds.length ∧ q + 1 ≤ i + 1 ∧ bok n x2 f v2 (B2 : Int) = true ∧ runM n ((x2, v2, B2), q + 1) (ds.drop (i + 1)) = ((l', w', A'), m) := ⟨h5, by omega, hb2, hz⟩
      clear hz es hR hde hr2
      (repeat (first | refine gq_KMK ?_ | (refine ga_KMK ?_; intro _q ⟨_he, _hq⟩)))
      rw [show ds.getD (i : Int).toNat Cel.no = d from hdn]
      (repeat (first | refine gq_KMK ?_ | (refine ga_KMK ?_; intro _q ⟨_he, _hq⟩)))
      exact ⟨(((x2, v2, B2), q + 1), i + 1), hinv, ⟨by rfl, (by repeat (first | exact trivial | refine ⟨by rfl, ?_⟩ | refine ⟨vI_of (by rfl) (by omega), ?_⟩)), (by repeat (first | exact trivial | refine ⟨by rfl, ?_⟩ | refine ⟨vI_of (by rfl) (by omega), ?_⟩))⟩, (by first | omega | (dsimp only; omega))⟩
    | false =>
      have es : stp n ((x, v, B), q) d = ((x2, v2, B2), q) := by unfold stp; dsimp only; rw [hr2]; rfl
      rw [es] at hz
      obtain ⟨e1, e2, e3⟩ := doR_no hr2
      subst e1
      subst e2
      subst e3
      have hinv : i + 1 ≤ ds.length ∧ q ≤ i + 1 ∧ bok n x2 f v2 (B2 : Int) = true ∧ runM n ((x2, v2, B2), q) (ds.drop (i + 1)) = ((l', w', A'), m) := ⟨h5, by omega, hb2, hz⟩
      clear hz es hR hde hr2
      (repeat (first | refine gq_KMK ?_ | (refine ga_KMK ?_; intro _q ⟨_he, _hq⟩)))
      rw [show ds.getD (i : Int).toNat Cel.no = d from hdn]
      (repeat (first | refine gq_KMK ?_ | (refine ga_KMK ?_; intro _q ⟨_he, _hq⟩)))
      exact ⟨(((x2, v2, B2), q), i + 1), hinv, ⟨by rfl, (by repeat (first | exact trivial | refine ⟨by rfl, ?_⟩ | refine ⟨vI_of (by rfl) (by omega), ?_⟩)), (by repeat (first | exact trivial | refine ⟨by rfl, ?_⟩ | refine ⟨vI_of (by rfl) (by omega), ?_⟩))⟩, (by first | omega | (dsimp only; omega))⟩
  · have hd : decide ((i : Int) < (ds.length : Int)) = false := decide_eq_false (by omega)
    obtain rfl : i = ds.length := by omega
    rw [List.drop_length] at hz
    obtain ⟨e1, e2, e3, e4⟩ := bs_inj hz
    subst e1
    subst e2
    subst e3
    subst e4
    have hx := (cokB_t (bok_t hb).1).2.1
    have hBx := (bok_t hb).2.2.1
    have hC := k_copyO n x f v B (by omega)
    clear hz hR
    (repeat (first | refine gq_KMK ?_ | (refine ga_KMK ?_; intro _q ⟨_he, _hq⟩)))
    ((try refine aw_ret ?_); refine ret_auto2 (by rfl) (by rfl) (by rfl) (by repeat (first | exact trivial | refine ⟨by first | rfl | omega, ?_⟩)) ?_ (by repeat (first | exact trivial | refine ⟨by rfl, by rfl, ?_⟩)) (by repeat (first | exact trivial | refine ⟨by rfl, by rfl, ?_⟩)); try rfl)
set_option maxHeartbeats 4000000 in
theorem kn_brS {n : Int} {l l' : List Gt} {f w w' : Int} {A A' m : Nat} {ds : List Dd} (h : bok n l f w A = true) (hdl : ds.length ≤ 40) (hR : runM n ((l, w, A), 0) ds = ((l', w', A'), m)) : Kon Try.prog 37 [bG n l f w (A : Int), roA ds] [] (.tup [.agg (bCr n l' f w' (A' : Int)), .one (.v (.int .i64 (m : Int)))]) [] [] := by
  have hn := (cokB_t (bok_t h).1).1
  have hl := (cokB_t (bok_t h).1).2.1
  have hB := k_bvS n l f w A (by omega) (by omega)
  rw [h] at hB
  have hd40 : decide ((ds.length : Int) > 40) = false := decide_eq_false (by omega)
  (refine kon_mk T0ok (fn := Try.f37) (c := Try.f37.body.get rfl) Try.func37 rfl (by rfl) (by rfl) (by rfl) ?_; intro hfit hfe)
  (repeat refine gc_KMK ?_)
  (repeat (first | refine gs_KMK ?_ | (refine ga_KMK ?_; intro _q ⟨_he, _hq⟩)))
  (repeat refine gc_KMK ?_)
  (repeat (first | refine gs_KMK ?_ | (refine ga_KMK ?_; intro _q ⟨_he, _hq⟩)))
  (repeat refine gc_KMK ?_)
  (repeat (first | refine gs_KMK ?_ | (refine ga_KMK ?_; intro _q ⟨_he, _hq⟩)))
  (refine aw_freeze 336 (by rfl) (by rfl) ?_; refine aw_box 96 1 (by rfl) (by rfl) (by first | exact trivial | ((repeat' (first | exact rfl | exact cV_len _ | exact cV_ln rfl (by omega) | exact Cel.pos | omega | exact trivial | refine And.intro ?_ ?_)); first | done | fail)) (by rfl) ?_)
  (repeat (first | refine gq_KMK ?_ | (refine ga_KMK ?_; intro _q ⟨_he, _hq⟩)))
  (refine aw_rd [0, 1, 4, 6] [64] (fun g : (BS × Nat) × Nat => [(7, vI (g.1.2 : Int)), (8, vI (g.2 : Int))]) (fun g => [(96, (0, .box (bCr n g.1.1.1 f g.1.1.2.1 (g.1.1.2.2 : Int))))]) (fun g => g.2 ≤ ds.length ∧ g.1.2 ≤ g.2 ∧ bok n g.1.1.1 f g.1.1.2.1 (g.1.1.2.2 : Int) = true ∧ runM n g.1 (ds.drop g.2) = ((l', w', A'), m)) (fun g => ds.length - g.2) (((l, w, A), 0), 0) (by rfl) (by rfl) ?_ (by rfl) (by repeat (first | exact trivial | refine ⟨by rfl, ?_⟩ | refine ⟨vI_of (by rfl) (by omega), ?_⟩)) (by repeat (first | exact trivial | refine ⟨by rfl, ?_⟩ | refine ⟨vI_of (by rfl) (by omega), ?_⟩)) ?_)
  · exact ⟨Nat.zero_le _, Nat.le_refl _, h, hR⟩
  rintro ⟨⟨⟨x, v, B⟩, q⟩, i⟩ ⟨hi, hq, hb, hz⟩
  dsimp only at hi hq hb hz ⊢
  rcases Nat.lt_or_ge i ds.length with h5 | h5
  · have hd : decide ((i : Int) < (ds.length : Int)) = true := decide_eq_true (by omega)
    rw [runM_drop h5] at hz
    obtain ⟨d, hde⟩ : ∃ d, ds.getD i Cel.no = d := ⟨_, rfl⟩
    rw [hde] at hz
    rcases hr2 : doR n x v B d with ⟨⟨x2, v2, B2⟩, ok⟩
    have hD := kn_doS hb hr2
    have hb2 := doR_ok hb hr2
    have hdn : ds.getD (i : Int).toNat Cel.no = d := hde
    rw [← hdn] at hD
    cases ok with
    | true =>
      have es : stp n ((x, v, B), q) d = ((x2, v2, B2), q + 1) := by unfold stp; dsimp only; rw [hr2]; rfl
      rw [es] at hz
      have hinv : i + 1 ≤ ds.length ∧ q + 1 ≤ i + 1 ∧ bok n x2 f v2 (B2 : Int) = true ∧ runM n ((x2, v2, B2), q + 1) (ds.drop (i + 1)) = ((l', w', A'), m) := ⟨h5, by omega, hb2, hz⟩
      clear hz es hR hde hr2
      (repeat (first | refine gq_KMK ?_ | (refine ga_KMK ?_; intro _q ⟨_he, _hq⟩)))
      (refine aw_draw mixed T0ok cfU_ok [(544, [5, 10]), (144, [9, 10])] (by rfl) (by kernel_rfl) ?_)
      (repeat (first | refine gs_KMK ?_ | (refine ga_KMK ?_; intro _q ⟨_he, _hq⟩)))
      (refine aw_freeze 544 (by rfl) (by rfl) ?_; refine aw_box 144 1 (by rfl) (by rfl) (by first | exact trivial | ((repeat' (first | exact rfl | exact cV_len _ | exact cV_ln rfl (by omega) | exact Cel.pos | omega | exact trivial | refine And.intro ?_ ?_)); first | done | fail)) (by rfl) ?_)
      (repeat (first | refine gq_KMK ?_ | (refine ga_KMK ?_; intro _q ⟨_he, _hq⟩)))
      exact ⟨(((x2, v2, B2), q + 1), i + 1), hinv, ⟨by rfl, (by repeat (first | exact trivial | refine ⟨by rfl, ?_⟩ | refine ⟨vI_of (by rfl) (by omega), ?_⟩)), (by repeat (first | exact trivial | refine ⟨by rfl, ?_⟩ | refine ⟨vI_of (by rfl) (by omega), ?_⟩))⟩, (by first | omega | (dsimp only; omega))⟩
    | false =>
      have es : stp n ((x, v, B), q) d = ((x2, v2, B2), q) := by unfold stp; dsimp only; rw [hr2]; rfl
      rw [es] at hz
      obtain ⟨e1, e2, e3⟩ := doR_no hr2
      subst e1
      subst e2
      subst e3
      have hinv : i + 1 ≤ ds.length ∧ q ≤ i + 1 ∧ bok n x2 f v2 (B2 : Int) = true ∧ runM n ((x2, v2, B2), q) (ds.drop (i + 1)) = ((l', w', A'), m) := ⟨h5, by omega, hb2, hz⟩
      clear hz es hR hde hr2
      (repeat (first | refine gq_KMK ?_ | (refine ga_KMK ?_; intro _q ⟨_he, _hq⟩)))
      (refine aw_draw mixed T0ok cfU_ok [(544, [5, 10]), (144, [9, 10])] (by rfl) (by kernel_rfl) ?_)
      (repeat (first | refine gs_KMK ?_ | (refine ga_KMK ?_; intro _q ⟨_he, _hq⟩)))
      (refine aw_freeze 544 (by rfl) (by rfl) ?_; refine aw_box 144 1 (by rfl) (by rfl) (by first | exact trivial | ((repeat' (first | exact rfl | exact cV_len _ | exact cV_ln rfl (by omega) | exact Cel.pos | omega | exact trivial | refine And.intro ?_ ?_)); first | done | fail)) (by rfl) ?_)
      (repeat (first | refine gq_KMK ?_ | (refine ga_KMK ?_; intro _q ⟨_he, _hq⟩)))
      exact ⟨(((x2, v2, B2), q), i + 1), hinv, ⟨by rfl, (by repeat (first | exact trivial | refine ⟨by rfl, ?_⟩ | refine ⟨vI_of (by rfl) (by omega), ?_⟩)), (by repeat (first | exact trivial | refine ⟨by rfl, ?_⟩ | refine ⟨vI_of (by rfl) (by omega), ?_⟩))⟩, (by first | omega | (dsimp only; omega))⟩
  · have hd : decide ((i : Int) < (ds.length : Int)) = false := decide_eq_false (by omega)
    obtain rfl : i = ds.length := by omega
    rw [List.drop_length] at hz
    obtain ⟨e1, e2, e3, e4⟩ := bs_inj hz
    subst e1
    subst e2
    subst e3
    subst e4
    clear hz hR
    (repeat (first | refine gq_KMK ?_ | (refine ga_KMK ?_; intro _q ⟨_he, _hq⟩)))
    ((try refine aw_ret ?_); refine ret_auto2 (by rfl) (by rfl) (by rfl) (by repeat (first | exact trivial | refine ⟨by first | rfl | omega, ?_⟩)) ?_ (by repeat (first | exact trivial | refine ⟨by rfl, by rfl, ?_⟩)) (by repeat (first | exact trivial | refine ⟨by rfl, by rfl, ?_⟩)); try rfl)
end Go.Proofs.Yteagoafamjbpbaa

/- The law FnExactBenchRun. -/
namespace Go.Proofs.Yteagoafamjbpbaa
set_option linter.unusedVariables false
set_option linter.unusedSimpArgs false
set_option maxRecDepth 20000
open Go.RowKit
theorem up_rowFF {α : Type} [Cel α] {l : List α} {q : Int} {z o1 o2 : Nat} {v : Value} {u : α} (hz : z = Cel.sz α) (ho : Nat.blt (o1 + o2) (Cel.sz α) = true) (hu : Cel.un (α := α) ((Cel.f (l.getD q.toNat Cel.no)).set (o1 + o2) v) = some u) (hq : 0 ≤ q ∧ q < l.length) : Up1 (cV l) (q.toNat * z + o1 + o2) [v] (cV (l.set q.toNat u)) () := by
  rw [Nat.add_assoc]; exact up_rowF hz ho hu hq
attribute [local irreducible] runA runX AW
def wsTU : WsT := (43, ([0], false)) :: (81, ([0], false)) :: (34, ([0], false)) :: (37, ([], true)) :: wsT
def wsZU : List (Nat × Nat) := [(33, 4), (35, 4), (82, 4), (999999, 0)]
theorem gq_KMU {H G : Prop} (k : H) (h : Hid H → G := by (intro hh; (first | (first | ((first | refine r_none ?_ | refine r_gt (by rfl) (by rfl) (by first | rfl | assumption | omega | (simp only [*, Bool.not_false, Bool.not_true]; first | done | fail) | (simp [*]; first | done | fail)) (by rfl) ?_ | refine r_gf (by rfl) (by rfl) (by first | rfl | assumption | omega | (simp only [*, Bool.not_false, Bool.not_true]; first | done | fail) | (simp [*]; first | done | fail)) (by rfl) ?_); (first | fail | ((first | (refine z_op (by rfl) ?_; first | refine z_ok ?_ ?_ | refine z_ex ?_ (by first | exact ft_raw rfl rfl | ((first | refine ft_rp rfl rfl rfl ?_ | refine ft_row rfl rfl rfl ?_ | refine ft_rpF rfl rfl rfl ?_ | refine ft_rowF rfl rfl rfl ?_ | refine up_row rfl rfl ?_ | refine up_rowF rfl rfl rfl ?_ | refine ct_0 rfl ?_ | refine ct_r rfl rfl ?_ | refine ct_c rfl rfl rfl ?_ | refine cu_all rfl ?_ | refine cu_to rfl ?_ | refine cu_from rfl ?_ | refine cu_p rfl ?_ | refine mk_c Dd rfl rfl rfl ?_); (first | omega | (simp only [List.length_append, List.length_replicate, List.length_cons, List.length_nil, List.length_set, List.length_take, List.length_drop, true_and]; omega))) | exact up_raw rfl | exact pk_t (by first | rfl | assumption | omega | (simp only [*, Bool.not_false, Bool.not_true]; first | done | fail) | (simp [*]; first | done | fail)) rfl | exact pk_f (by first | rfl | assumption | omega | (simp only [*, Bool.not_false, Bool.not_true]; first | done | fail) | (simp [*]; first | done | fail)) rfl | fail | exact rw_raw | exact pu_cv (fun w => rfl) (by omega) | exact pu_of (fun w => rfl) rfl | exact be_of (fun w => rfl) | exact nc_of (fun _ _ _ _ => rfl) rfl | exact bu_of (fun w => rfl) rfl | (refine up_rowFF (α := Dd) rfl rfl rfl ?_; (first | omega | (simp only [List.length_append, List.length_replicate, List.length_cons, List.length_nil, List.length_set, List.length_take, List.length_drop, true_and]; omega)))) ?_) | ((first | refine q_callE wsTU wsZU (by rfl) ?_ | refine q_callVE wsTU (by rfl) (by rfl) ?_); refine ⟨_, _, _, (by first | assumption | exact k_toBn _ _ _ _ _ (by omega) | exact k_eqBn _ _ _ _ _ (by omega) | exact k_toDeed _ | exact k_eqD1 _ | exact k_markBn0 _ _ _ _), _, by rfl, ?_, ?_⟩)); focus (first | exact trivial | fail | exact rfl | (first | omega | (simp only [List.length_append, List.length_replicate, List.length_cons, List.length_nil, List.length_set, List.length_take, List.length_drop, true_and]; omega)) | exact cvB (fun w => rfl) | ((repeat' (first | exact rfl | exact cV_len _ | exact cV_ln rfl (by omega) | exact Cel.pos | omega | exact trivial | refine And.intro ?_ ?_)); done) | (simp [*]; done) | (simp; omega))) | fail)) | refine r_nt (by rfl) (by rfl) (by first | rfl | assumption | omega | (simp only [*, Bool.not_false, Bool.not_true]; first | done | fail) | (simp [*]; first | done | fail)) (by rfl) ?_ | refine r_nf (by rfl) (by rfl) (by first | rfl | assumption | omega | (simp only [*, Bool.not_false, Bool.not_true]; first | done | fail) | (simp [*]; first | done | fail)) (by rfl) ?_ | refine r_gu (by rfl) (by rfl) (by rfl) ?_ | refine r_nil ?_) | (first | refine aw_seq ?_ | refine aw_ct (by rfl) (by first | rfl | assumption | omega | (simp only [*, Bool.not_false, Bool.not_true]; first | done | fail) | (simp [*]; first | done | fail)) ?_ | refine aw_cf (by rfl) (by first | rfl | assumption | omega | (simp only [*, Bool.not_false, Bool.not_true]; first | done | fail) | (simp [*]; first | done | fail)) ?_ | refine aw_block ?_ | refine aw_region T0ok cfU_ok (by rfl) ?_ | refine aw_skip ?_ | refine aw_exit ?_ | refine ra_step ?_)); (repeat (first | (first | ((first | refine r_none ?_ | refine r_gt (by rfl) (by rfl) (by first | rfl | assumption | omega | (simp only [*, Bool.not_false, Bool.not_true]; first | done | fail) | (simp [*]; first | done | fail)) (by rfl) ?_ | refine r_gf (by rfl) (by rfl) (by first | rfl | assumption | omega | (simp only [*, Bool.not_false, Bool.not_true]; first | done | fail) | (simp [*]; first | done | fail)) (by rfl) ?_); (first | fail | ((first | (refine z_op (by rfl) ?_; first | refine z_ok ?_ ?_ | refine z_ex ?_ (by first | exact ft_raw rfl rfl | ((first | refine ft_rp rfl rfl rfl ?_ | refine ft_row rfl rfl rfl ?_ | refine ft_rpF rfl rfl rfl ?_ | refine ft_rowF rfl rfl rfl ?_ | refine up_row rfl rfl ?_ | refine up_rowF rfl rfl rfl ?_ | refine ct_0 rfl ?_ | refine ct_r rfl rfl ?_ | refine ct_c rfl rfl rfl ?_ | refine cu_all rfl ?_ | refine cu_to rfl ?_ | refine cu_from rfl ?_ | refine cu_p rfl ?_ | refine mk_c Dd rfl rfl rfl ?_); (first | omega | (simp only [List.length_append, List.length_replicate, List.length_cons, List.length_nil, List.length_set, List.length_take, List.length_drop, true_and]; omega))) | exact up_raw rfl | exact pk_t (by first | rfl | assumption | omega | (simp only [*, Bool.not_false, Bool.not_true]; first | done | fail) | (simp [*]; first | done | fail)) rfl | exact pk_f (by first | rfl | assumption | omega | (simp only [*, Bool.not_false, Bool.not_true]; first | done | fail) | (simp [*]; first | done | fail)) rfl | fail | exact rw_raw | exact pu_cv (fun w => rfl) (by omega) | exact pu_of (fun w => rfl) rfl | exact be_of (fun w => rfl) | exact nc_of (fun _ _ _ _ => rfl) rfl | exact bu_of (fun w => rfl) rfl | (refine up_rowFF (α := Dd) rfl rfl rfl ?_; (first | omega | (simp only [List.length_append, List.length_replicate, List.length_cons, List.length_nil, List.length_set, List.length_take, List.length_drop, true_and]; omega)))) ?_) | ((first | refine q_callE wsTU wsZU (by rfl) ?_ | refine q_callVE wsTU (by rfl) (by rfl) ?_); refine ⟨_, _, _, (by first | assumption | exact k_toBn _ _ _ _ _ (by omega) | exact k_eqBn _ _ _ _ _ (by omega) | exact k_toDeed _ | exact k_eqD1 _ | exact k_markBn0 _ _ _ _), _, by rfl, ?_, ?_⟩)); focus (first | exact trivial | fail | exact rfl | (first | omega | (simp only [List.length_append, List.length_replicate, List.length_cons, List.length_nil, List.length_set, List.length_take, List.length_drop, true_and]; omega)) | exact cvB (fun w => rfl) | ((repeat' (first | exact rfl | exact cV_len _ | exact cV_ln rfl (by omega) | exact Cel.pos | omega | exact trivial | refine And.intro ?_ ?_)); done) | (simp [*]; done) | (simp; omega))) | fail)) | refine r_nt (by rfl) (by rfl) (by first | rfl | assumption | omega | (simp only [*, Bool.not_false, Bool.not_true]; first | done | fail) | (simp [*]; first | done | fail)) (by rfl) ?_ | refine r_nf (by rfl) (by rfl) (by first | rfl | assumption | omega | (simp only [*, Bool.not_false, Bool.not_true]; first | done | fail) | (simp [*]; first | done | fail)) (by rfl) ?_ | refine r_gu (by rfl) (by rfl) (by rfl) ?_ | refine r_nil ?_) | (first | refine aw_seq ?_ | refine aw_ct (by rfl) (by first | rfl | assumption | omega | (simp only [*, Bool.not_false, Bool.not_true]; first | done | fail) | (simp [*]; first | done | fail)) ?_ | refine aw_cf (by rfl) (by first | rfl | assumption | omega | (simp only [*, Bool.not_false, Bool.not_true]; first | done | fail) | (simp [*]; first | done | fail)) ?_ | refine aw_block ?_ | refine aw_region T0ok cfU_ok (by rfl) ?_ | refine aw_skip ?_ | refine aw_exit ?_ | refine ra_step ?_))); exact hh.out)) : G := h ⟨k⟩
theorem ga_KMU {H G : Prop} (k : H) (h : Hid H → G := by (intro hh; (first | refine r_none ?_ | refine r_gt (by rfl) (by rfl) (by first | rfl | assumption | omega | (simp only [*, Bool.not_false, Bool.not_true]; first | done | fail) | (simp [*]; first | done | fail)) (by rfl) ?_ | refine r_gf (by rfl) (by rfl) (by first | rfl | assumption | omega | (simp only [*, Bool.not_false, Bool.not_true]; first | done | fail) | (simp [*]; first | done | fail)) (by rfl) ?_); refine z_op (by rfl) ?_; refine z_al ?_ hh.out; focus (first | exact trivial | fail | exact rfl | (first | omega | (simp only [List.length_append, List.length_replicate, List.length_cons, List.length_nil, List.length_set, List.length_take, List.length_drop, true_and]; omega)) | exact cvB (fun w => rfl) | ((repeat' (first | exact rfl | exact cV_len _ | exact cV_ln rfl (by omega) | exact Cel.pos | omega | exact trivial | refine And.intro ?_ ?_)); done) | (simp [*]; done) | (simp; omega)))) : G := h ⟨k⟩
theorem gd_KMU {H G : Prop} (k : H) (h : Hid H → G := by (intro hh; (refine aw_draw mixed T0ok cfU_ok [] (by rfl) (by kernel_rfl) ?_); exact hh.out)) : G := h ⟨k⟩
theorem k_szDs (l : List Dd) (m : Int) (h : l.length ≤ 9223372036854775807 ∧ 0 ≤ m ∧ m ≤ 10000000) : Kon Try.prog 40 [roA l, vI m] [] (vI (if m - l.length < 0 then -1 else m - l.length)) [] [] := by
  rcases Int.lt_or_le (m - l.length) 0 with h1 | h1
  · have hd : decide (m - (l.length : Int) < 0) = true := decide_eq_true h1
    rw [if_pos h1]
    (refine kon_mk T0ok (fn := Try.f40) (c := Try.f40.body.get rfl) Try.func40 rfl (by rfl) (by rfl) (by rfl) ?_; intro hfit hfe)
    (repeat (first | refine gq_KMU ?_ | (refine ga_KMU ?_; intro _q ⟨_he, _hq⟩)))
    ((try refine aw_ret ?_); refine ret_auto2 (by rfl) (by rfl) (by rfl) (by repeat (first | exact trivial | refine ⟨by first | rfl | omega, ?_⟩)) ?_ (by repeat (first | exact trivial | refine ⟨by rfl, by rfl, ?_⟩)) (by repeat (first | exact trivial | refine ⟨by rfl, by rfl, ?_⟩)); try rfl)
  · have hd : decide (m - (l.length : Int) < 0) = false := decide_eq_false (by omega)
    rw [if_neg (by omega)]
    (refine kon_mk T0ok (fn := Try.f40) (c := Try.f40.body.get rfl) Try.func40 rfl (by rfl) (by rfl) (by rfl) ?_; intro hfit hfe)
    (repeat (first | refine gq_KMU ?_ | (refine ga_KMU ?_; intro _q ⟨_he, _hq⟩)))
    ((try refine aw_ret ?_); refine ret_auto2 (by rfl) (by rfl) (by rfl) (by repeat (first | exact trivial | refine ⟨by first | rfl | omega, ?_⟩)) ?_ (by repeat (first | exact trivial | refine ⟨by rfl, by rfl, ?_⟩)) (by repeat (first | exact trivial | refine ⟨by rfl, by rfl, ?_⟩)); try rfl)
abbrev d0 : Dd := Cel.no
theorem k_toDs (l : List Dd) (h : l.length ≤ 10000000) : Kon Try.prog 41 [roA l] [] (slA 0 0 l) [dRow l] [] := by
  (refine kon_mk T0ok (fn := Try.f41) (c := Try.f41.body.get rfl) Try.func41 rfl (by rfl) (by rfl) (by rfl) ?_; intro hfit hfe)
  have hrl : (List.replicate (l.length : Int).toNat (Cel.no : Dd)).length = l.length := by rw [List.length_replicate]; omega
  (repeat (first | refine gq_KMU ?_ | (refine ga_KMU ?_; intro _q ⟨_he, _hq⟩)))
  (refine aw_rd [0, 3] [] (fun i : Nat => [(4, vI i)]) (fun i => [(112, (0, dRow (l.take i ++ List.replicate (l.length - i) d0)))]) (fun i => i ≤ l.length) (fun i => l.length - i) 0 (by rfl) (by rfl) ?_ (by rfl) (by repeat (first | exact trivial | refine ⟨by rfl, ?_⟩ | refine ⟨vI_of (by rfl) (by omega), ?_⟩)) (by repeat (first | exact trivial | refine ⟨by rfl, ?_⟩ | refine ⟨vI_of (by rfl) (by omega), ?_⟩)) ?_)
  · exact Nat.zero_le _
  rintro i hi
  rcases Nat.lt_or_ge i l.length with h1 | h1
  · have hd : decide ((i : Int) < (l.length : Int)) = true := decide_eq_true (by omega)
    have hl2 : (l.take i ++ List.replicate (l.length - i) d0).length = l.length := by simp; omega
    have e : (l.take i ++ List.replicate (l.length - i) d0).set (i : Int).toNat (l.getD (i : Int).toNat d0) = l.take (i + 1) ++ List.replicate (l.length - (i + 1)) d0 := by
      rw [show l.length - i = (l.length - (i + 1)) + 1 by omega, List.replicate_succ, List.take_succ_eq_append_getElem h1]
      have h2 : (i : Int).toNat = (l.take i).length := by simp; omega
      have h3 : l.getD (i : Int).toNat d0 = l[i] := by rw [Int.toNat_natCast, List.getD_eq_getElem?_getD, List.getElem?_eq_getElem h1]; rfl
      rw [h3, h2, set_end, List.append_assoc]; rfl
    have hinv : i + 1 ≤ l.length := h1
    (repeat (first | refine gq_KMU ?_ | (refine ga_KMU ?_; intro _q ⟨_he, _hq⟩)))
    exact ⟨i + 1, hinv, ⟨by rfl, (by repeat (first | exact trivial | refine ⟨by rfl, ?_⟩ | refine ⟨vI_of (by rfl) (by omega), ?_⟩)), ⟨Eq.trans (b := some (0, dRow ((l.take i ++ List.replicate (l.length - i) d0).set (i : Int).toNat (l.getD (i : Int).toNat d0)))) (by rfl) (by rw [e]), (by repeat (first | exact trivial | refine ⟨by rfl, ?_⟩ | refine ⟨vI_of (by rfl) (by omega), ?_⟩))⟩⟩, (by first | omega | (dsimp only; omega))⟩
  · obtain rfl : i = l.length := by omega
    have hd : decide ((l.length : Int) < (l.length : Int)) = false := decide_eq_false (by omega)
    have e : l.take l.length ++ List.replicate (l.length - l.length) d0 = l := by simp
    rw [e]
    (repeat (first | refine gq_KMU ?_ | (refine ga_KMU ?_; intro _q ⟨_he, _hq⟩)))
    ((try refine aw_ret ?_); refine ret_auto2 (by rfl) (by rfl) (by rfl) (by repeat (first | exact trivial | refine ⟨by first | rfl | omega, ?_⟩)) ?_ (by repeat (first | exact trivial | refine ⟨by rfl, by rfl, ?_⟩)) (by repeat (first | exact trivial | refine ⟨by rfl, by rfl, ?_⟩)); try rfl)
    exact congrArg (fun n => AV.g (.one (.sl 0 0 n))) hrl
theorem k_eqDs (l : List Dd) (h : l.length ≤ 10000000) : Kon Try.prog 42 [roA l, roA l] [] (vB true) [] [] := by
  have h1 : ((l.length : Int) != (l.length : Int)) = false := by simp
  (refine kon_mk T0ok (fn := Try.f42) (c := Try.f42.body.get rfl) Try.func42 rfl (by rfl) (by rfl) (by rfl) ?_; intro hfit hfe)
  (repeat (first | refine gq_KMU ?_ | (refine ga_KMU ?_; intro _q ⟨_he, _hq⟩)))
  (refine aw_rd [0, 1, 4] [] (fun i : Nat => [(5, vI i)]) (fun _ => []) (fun i => i ≤ l.length) (fun i => l.length - i) 0 (by rfl) (by rfl) ?_ (by rfl) (by repeat (first | exact trivial | refine ⟨by rfl, ?_⟩ | refine ⟨vI_of (by rfl) (by omega), ?_⟩)) (by repeat (first | exact trivial | refine ⟨by rfl, ?_⟩ | refine ⟨vI_of (by rfl) (by omega), ?_⟩)) ?_)
  · exact Nat.zero_le _
  rintro i hi
  rcases Nat.lt_or_ge i l.length with h5 | h5
  · have hd : decide ((i : Int) < (l.length : Int)) = true := decide_eq_true (by omega)
    (repeat (first | refine gq_KMU ?_ | (refine ga_KMU ?_; intro _q ⟨_he, _hq⟩) | refine gd_KMU ?_))
    exact ⟨i + 1, h5, ⟨by rfl, (by repeat (first | exact trivial | refine ⟨by rfl, ?_⟩ | refine ⟨vI_of (by rfl) (by omega), ?_⟩)), (by repeat (first | exact trivial | refine ⟨by rfl, ?_⟩ | refine ⟨vI_of (by rfl) (by omega), ?_⟩))⟩, (by first | omega | (dsimp only; omega))⟩
  · have hd : decide ((i : Int) < (l.length : Int)) = false := decide_eq_false (by omega)
    (repeat (first | refine gq_KMU ?_ | (refine ga_KMU ?_; intro _q ⟨_he, _hq⟩) | refine gd_KMU ?_))
    ((try refine aw_ret ?_); refine ret_auto2 (by rfl) (by rfl) (by rfl) (by repeat (first | exact trivial | refine ⟨by first | rfl | omega, ?_⟩)) ?_ (by repeat (first | exact trivial | refine ⟨by rfl, by rfl, ?_⟩)) (by repeat (first | exact trivial | refine ⟨by rfl, by rfl, ?_⟩)); try rfl)
def mkD1 (l : List Dd) (i : Nat) (k : Int) : List Dd :=
  let l0 := l.set i ⟨k, (l.getD i Cel.no).n, (l.getD i Cel.no).p⟩
  let l1 := l0.set i ⟨(l0.getD i Cel.no).k, k + 1, (l0.getD i Cel.no).p⟩
  let l2 := l1.set i ⟨(l1.getD i Cel.no).k, (l1.getD i Cel.no).n, ⟨k + 1 + 1, (l1.getD i Cel.no).p.a, (l1.getD i Cel.no).p.b, (l1.getD i Cel.no).p.c⟩⟩
  let l3 := l2.set i ⟨(l2.getD i Cel.no).k, (l2.getD i Cel.no).n, ⟨(l2.getD i Cel.no).p.k, k + 1 + 1 + 1, (l2.getD i Cel.no).p.b, (l2.getD i Cel.no).p.c⟩⟩
  let l4 := l3.set i ⟨(l3.getD i Cel.no).k, (l3.getD i Cel.no).n, ⟨(l3.getD i Cel.no).p.k, (l3.getD i Cel.no).p.a, k + 1 + 1 + 1 + 1, (l3.getD i Cel.no).p.c⟩⟩
  l4.set i ⟨(l4.getD i Cel.no).k, (l4.getD i Cel.no).n, ⟨(l4.getD i Cel.no).p.k, (l4.getD i Cel.no).p.a, (l4.getD i Cel.no).p.b, k + 1 + 1 + 1 + 1 + 1⟩⟩
def mkD (k : Int) (l : List Dd) : Nat → List Dd
  | 0 => l
  | i + 1 => mkD1 (mkD k l i) i (k + 6 * (i : Int))
theorem mkD_len (k : Int) (l : List Dd) : ∀ i, (mkD k l i).length = l.length
  | 0 => rfl
  | i + 1 => by rw [mkD, mkD1]; simp only [List.length_set]; exact mkD_len k l i
set_option maxHeartbeats 2000000 in
theorem k_markDs (l : List Dd) (n : Nat) (k : Int) (h : n = l.length ∧ 0 ≤ k ∧ k ≤ 10000000 ∧ l.length ≤ 10000000) : Kon Try.prog 43 [.g (.one (.sl 100000 0 n)), vI k] [dRow l] (vI (k + 6 * (l.length : Int))) [] [dRow (mkD k l l.length)] := by
  obtain ⟨rfl, h⟩ := h
  (refine kon_mk T0ok (fn := Try.f43) (c := Try.f43.body.get rfl) Try.func43 rfl (by rfl) (by rfl) (by rfl) ?_; intro hfit hfe)
  (repeat (first | refine gq_KMU ?_ | (refine ga_KMU ?_; intro _q ⟨_he, _hq⟩)))
  refine aw_rd [0] [] (fun i : Nat => [(1, vI (k + 6 * (i : Int))), (5, vI i)]) (fun i => [(100000, (0, dRow (mkD k l i)))]) (fun i => i ≤ l.length) (fun i => l.length - i) 0 (by rfl) (by rfl) ?_ (by rfl) (by repeat (first | exact trivial | refine ⟨by rfl, ?_⟩ | refine ⟨vI_of (by rfl) (by omega), ?_⟩)) ⟨by (simp only [St.put, Gin, Nat.le_refl, if_true, Nat.sub_self]; rfl), trivial⟩ ?_
  · exact Nat.zero_le _
  rintro i hi
  have hl2 := mkD_len k l i
  rcases Nat.lt_or_ge i l.length with h1 | h1
  · have hd : decide ((i : Int) < (l.length : Int)) = true := decide_eq_true (by omega)
    have hinv : i + 1 ≤ l.length := h1
    (repeat (first | refine gq_KMU ?_ | (refine ga_KMU ?_; intro _q ⟨_he, _hq⟩)))
    exact ⟨i + 1, hinv, ⟨by rfl, (by repeat (first | exact trivial | refine ⟨by rfl, ?_⟩ | refine ⟨vI_of (by rfl) (by omega), ?_⟩)), (by repeat (first | exact trivial | refine ⟨by rfl, ?_⟩ | refine ⟨vI_of (by rfl) (by omega), ?_⟩))⟩, (by first | omega | (dsimp only; omega))⟩
  · obtain rfl : i = l.length := by omega
    have hd : decide ((l.length : Int) < (l.length : Int)) = false := decide_eq_false (by omega)
    (repeat (first | refine gq_KMU ?_ | (refine ga_KMU ?_; intro _q ⟨_he, _hq⟩)))
    ((try refine aw_ret ?_); refine ret_auto2 (by rfl) (by rfl) (by rfl) (by repeat (first | exact trivial | refine ⟨by first | rfl | omega, ?_⟩)) ?_ (by repeat (first | exact trivial | refine ⟨by rfl, by rfl, ?_⟩)) (by repeat (first | exact trivial | refine ⟨by rfl, by rfl, ?_⟩)); try rfl)
theorem runM_ok (n f : Int) : ∀ (s : BS × Nat) (ds : List Dd), bok n s.1.1 f s.1.2.1 (s.1.2.2 : Int) = true → bok n (runM n s ds).1.1 f (runM n s ds).1.2.1 ((runM n s ds).1.2.2 : Int) = true
  | s, [], h => h
  | s, d :: ds, h => by
    show bok n (runM n (stp n s d) ds).1.1 f (runM n (stp n s d) ds).1.2.1 ((runM n (stp n s d) ds).1.2.2 : Int) = true
    refine runM_ok n f (stp n s d) ds ?_
    rcases hr : doR n s.1.1 s.1.2.1 s.1.2.2 d with ⟨⟨l', w', A'⟩, ok⟩
    have := doR_ok h hr
    unfold stp
    rw [hr]
    exact this
set_option maxHeartbeats 8000000 in
theorem k_lawXBR (n : Int) (l : List Gt) (f w a : Int) (hl : l.length ≤ 9223372036854775807) (hr : -9223372036854775808 ≤ n ∧ n ≤ 9223372036854775807) (ds : List Dd) (hdl : ds.length ≤ 9223372036854775807) : Kon Try.prog 9 [bG n l f w a, roA ds] [] (vB true) [] [] := by
  have hS := k_szBn n l f w a 1048576 ⟨hl, by omega, by omega⟩
  rcases Int.lt_or_le (1048576 - (l.length : Int)) 0 with h0 | h0
  · rw [if_pos h0] at hS
    (refine kon_mk T0ok (fn := Try.f9) (c := Try.f9.body.get rfl) Try.func9 rfl (by rfl) (by rfl) (by rfl) ?_; intro hfit hfe)
    (repeat (first | refine gq_KMU ?_ | (refine ga_KMU ?_; intro _q ⟨_he, _hq⟩)))
    ((try refine aw_ret ?_); refine ret_auto2 (by rfl) (by rfl) (by rfl) (by repeat (first | exact trivial | refine ⟨by first | rfl | omega, ?_⟩)) ?_ (by repeat (first | exact trivial | refine ⟨by rfl, by rfl, ?_⟩)) (by repeat (first | exact trivial | refine ⟨by rfl, by rfl, ?_⟩)); try rfl)
  rw [if_neg (by omega)] at hS
  have hl2 : l.length ≤ 1048576 := by omega
  have hd : decide (1048576 - (l.length : Int) < 0) = false := decide_eq_false (by omega)
  have hS2 := k_szDs ds (1048576 - (l.length : Int)) ⟨hdl, by omega, by omega⟩
  rcases Int.lt_or_le (1048576 - (l.length : Int) - (ds.length : Int)) 0 with h1 | h1
  · rw [if_pos h1] at hS2
    (refine kon_mk T0ok (fn := Try.f9) (c := Try.f9.body.get rfl) Try.func9 rfl (by rfl) (by rfl) (by rfl) ?_; intro hfit hfe)
    (repeat (first | refine gq_KMU ?_ | (refine ga_KMU ?_; intro _q ⟨_he, _hq⟩)))
    ((try refine aw_ret ?_); refine ret_auto2 (by rfl) (by rfl) (by rfl) (by repeat (first | exact trivial | refine ⟨by first | rfl | omega, ?_⟩)) ?_ (by repeat (first | exact trivial | refine ⟨by rfl, by rfl, ?_⟩)) (by repeat (first | exact trivial | refine ⟨by rfl, by rfl, ?_⟩)); try rfl)
  rw [if_neg (by omega)] at hS2
  have hds2 : ds.length ≤ 1048576 := by omega
  have hd1 : decide (1048576 - (l.length : Int) - (ds.length : Int) < 0) = false := decide_eq_false (by omega)
  have hd2 : decide (1 + 4 * (l.length : Int) + 6 * (ds.length : Int) < 0) = false := decide_eq_false (by omega)
  have hE0 := k_eqBn n l f w a (by omega)
  have hT := k_toBn n l f w a (by omega)
  have hTD := k_toDs ds (by omega)
  have hED := k_eqDs ds (by omega)
  have hMk := k_markBn n l l.length f w a 1 (by omega)
  have hMD := k_markDs ds ds.length (1 + 4 * (l.length : Int)) (by omega)
  generalize mkD (1 + 4 * (l.length : Int)) ds ds.length = ds' at *
  by_cases hv : bok n l f w a = false ∨ 40 < ds.length
  · have hI := k_brI0 n l f w a ds (by omega) hr hv (by omega)
    have hSp := k_brS0 n l f w a ds (by omega) hr hv (by omega)
    have hE := k_eqBn 0 [] 0 0 0 (by simp)
    have hH := k_heldBn 0 [] 0 0 0 1 (by simp) (fun j hj => by simp at hj)
    clear hv
    (refine kon_mk T0ok (fn := Try.f9) (c := Try.f9.body.get rfl) Try.func9 rfl (by rfl) (by rfl) (by rfl) ?_; intro hfit hfe)
    (repeat (first | refine gq_KMU ?_ | (refine ga_KMU ?_; intro _q ⟨_he, _hq⟩)))
    (refine aw_draw mixed T0ok cfU_ok [(896, [2, 3])] (by rfl) (by kernel_rfl) ?_)
    (repeat (first | refine gq_KMU ?_ | (refine ga_KMU ?_; intro _q ⟨_he, _hq⟩)))
    ((try refine aw_ret ?_); refine ret_auto2 (by rfl) (by rfl) (by rfl) (by repeat (first | exact trivial | refine ⟨by first | rfl | omega, ?_⟩)) ?_ (by repeat (first | exact trivial | refine ⟨by rfl, by rfl, ?_⟩)) (by repeat (first | exact trivial | refine ⟨by rfl, by rfl, ?_⟩)); try rfl)
  · have hb : bok n l f w a = true := by
      cases h : bok n l f w a with
      | true => rfl
      | false => exact absurd (.inl h) hv
    have h40 : ds.length ≤ 40 := by omega
    clear hv
    obtain ⟨A, rfl⟩ : ∃ A : Nat, a = (A : Int) := ⟨a.toNat, by have := (bok_t hb).2.2.1; omega⟩
    rcases hR : runM n ((l, w, A), 0) ds with ⟨⟨l', w', A'⟩, m⟩
    have hI := kn_brI hb h40 hR
    have hSp := kn_brS hb h40 hR
    have hb' : bok n l' f w' A' = true := by
      have := runM_ok n f ((l, w, A), 0) ds hb
      rw [hR] at this
      exact this
    have hl' := (cokB_t (bok_t hb').1).2.1
    have hE := k_eqBn n l' f w' A' (by omega)
    have hH : Kon Try.prog 35 [.g (.agg [.v (.int .i64 n), .ro (Cel.sz Gt) (mkG 1 l' l'.length).length (cV (mkG 1 l' l'.length)), .v (.int .i64 f), .v (.int .i64 w'), .v (.int .i64 (A' : Int))]), vI 1] [] (vI (1 + 4 * ((mkG 1 l' l'.length).length : Int))) [] [] := k_heldBn n (mkG 1 l' l'.length) f w' A' 1 (by rw [mkG_len]; omega) (fun j hj => mkG_at 1 l' l'.length j (by rw [mkG_len] at hj; exact hj) (Nat.le_refl _))
    rw [mkG_len] at hH
    have hMk' := k_markBn n l' l'.length f w' A' 1 (by omega)
    have hml := mkG_len 1 l' l'.length
    generalize mkG 1 l' l'.length = X' at *
    have hd3 : decide (1 + 4 * (l'.length : Int) < 0) = false := decide_eq_false (by omega)
    have hmm : ((m : Int) != (m : Int)) = false := by simp
    have hq : ((1 + 4 * (l'.length : Int)) != 1 + 4 * (l'.length : Int)) = false := by simp
    clear hR hb hb'
    (refine kon_mk T0ok (fn := Try.f9) (c := Try.f9.body.get rfl) Try.func9 rfl (by rfl) (by rfl) (by rfl) ?_; intro hfit hfe)
    (repeat (first | refine gq_KMU ?_ | (refine ga_KMU ?_; intro _q ⟨_he, _hq⟩)))
    (refine aw_draw mixed T0ok cfU_ok [(896, [2, 3])] (by rfl) (by kernel_rfl) ?_)
    (repeat (first | refine gq_KMU ?_ | (refine ga_KMU ?_; intro _q ⟨_he, _hq⟩)))
    ((try refine aw_ret ?_); refine ret_auto2 (by rfl) (by rfl) (by rfl) (by repeat (first | exact trivial | refine ⟨by first | rfl | omega, ?_⟩)) ?_ (by repeat (first | exact trivial | refine ⟨by rfl, by rfl, ?_⟩)) (by repeat (first | exact trivial | refine ⟨by rfl, by rfl, ?_⟩)); try rfl)
end Go.Proofs.Yteagoafamjbpbaa

/- How arguments that came in read: slices of whatever elements. -/
namespace Go.Proofs.Yteagoafamjbpbaa
set_option linter.unusedVariables false
set_option linter.unusedSimpArgs false
open Go.ChangeShapes Go.WideShapes Go.ChangeAt Go.RowKit Go.Joins Go.Deep

theorem own : ownKnob Try.prog.godebug = none := by kernel_rfl
theorem laidOut : laidOutB Try.prog = true := by kernel_rfl
/-- The frame of a row's proof, from its walk: the arguments opened by the caller. -/
theorem row_end {H : Type} {enc : TypeId × Value → H} {W : World} {t : TypeId} {v : Value} {d : DataW H} {p : List MemPlace} (h : DataW.Trod enc Try.prog W 0 (fun _ => true) true t v d p) : ∀ x ∈ p, x.block < W.heap.size := by
  obtain ⟨m, hm⟩ := h; exact DataW.trod_lt m _ _ _ hm
theorem add_plain (b off j : Nat) : (⟨b, off, none⟩ : Addr).add j = ⟨b, off + j, none⟩ := by
  unfold Addr.add; split <;> simp_all
theorem list_of {α : Type} (p : Nat → α → Prop) (n : Nat) (h : ∀ j, j < n → ∃ v, p j v) : ∃ l : List α, l.length = n ∧ ∀ j (hj : j < l.length), p j l[j] := by
  induction n with
  | zero => exact ⟨[], rfl, fun j hj => by simp at hj⟩
  | succ n ih =>
    obtain ⟨l, hl, hp⟩ := ih fun j hj => h j (by omega)
    obtain ⟨v, hv⟩ := h n (by omega)
    refine ⟨l ++ [v], by simp [hl], fun j hj => ?_⟩
    by_cases hlt : j < l.length
    · rw [List.getElem_append_left hlt]; exact hp j hlt
    · have e : j = l.length := by simp at hj; omega
      subst e
      simp [hl, hv]
section
variable {H : Type} {enc : TypeId × Value → H} {P : Program} {w : World} {α : Type} [Cel α]
/-- Cells of a type are those of an element. -/
def OpensC (enc : TypeId × Value → H) (P : Program) (w : World) (e : TypeId) (α : Type) [Cel α] : Prop := ∀ n cs x, DataW.trod enc P w 0 (fun _ => true) true n e cs = some x → ∃ a : α, cs = Cel.f a
theorem mapM_get {α β : Type} {f : α → Option β} : ∀ {l : List α} {r : List β}, l.mapM f = some r → r.length = l.length ∧ ∀ (j : Nat) (x : α), l[j]? = some x → ∃ y, r[j]? = some y ∧ f x = some y
  | [], r, h => by
    simp at h; subst h; exact ⟨rfl, fun j x hj => by simp at hj⟩
  | a :: l, r, h => by
    rw [List.mapM_cons] at h
    cases ha : f a with
    | none => simp [ha] at h
    | some y =>
      cases hl : l.mapM f with
      | none => simp [ha, hl] at h
      | some r' =>
        simp [ha, hl] at h
        subst h
        obtain ⟨h1, h2⟩ := mapM_get hl
        refine ⟨by simp [h1], fun j x hj => ?_⟩
        cases j with
        | zero => simp at hj; subst hj; exact ⟨y, rfl, ha⟩
        | succ j => obtain ⟨z, hz, hf⟩ := h2 j x (by simpa using hj); exact ⟨z, by simpa using hz, hf⟩
theorem ro_of_trod {t e : TypeId} {fuel : Nat} {v : Value} {y : DataW H × List MemPlace} (ht : P.underlying t = some (.slice e)) (hc : P.cellsOf e = Cel.sz α) (ho : OpensC enc P w e α)
    (h : DataW.trod enc P w 0 (fun _ => true) true fuel t [v] = some y) : ∃ l : List α, Rep0 w (.g (.one (.ro (Cel.sz α) l.length (cV l)))) v := by
  rcases open_slice ht h with ⟨hcs, _⟩ | ⟨a, len, cap, m, n, D, Pl, hcs, _, hl, hm, hmm, rfl, hx⟩
  · simp at hcs
    subst hcs
    exact ⟨[], ⟨by simp, rfl⟩, none, 0, rfl, Nat.le_refl _, by unfold maxLen; omega, fun h => absurd h (Nat.lt_irrefl _)⟩
  · simp at hcs
    subst hcs
    simp at hmm
    subst hmm
    rw [hc] at hx
    obtain ⟨l, hll, hlp⟩ := list_of (fun j (u : α) => w.cells? 0 (a.add (j * Cel.sz α)) (Cel.sz α) = some (Cel.f u)) len fun j hj => by
      obtain ⟨cs', h1, h2⟩ := hx j (by omega)
      obtain ⟨u, rfl⟩ := ho _ _ _ h2
      exact ⟨u, h1⟩
    have hcell : ∀ (j o : Nat) (hj : j < l.length) (ho : o < Cel.sz α), ∃ x, (Cel.f l[j])[o]? = some x ∧ w.cell? ((a.add (j * Cel.sz α)).add o) = some x := by
      intro j o hj ho
      have h1 := hlp j hj
      unfold World.cells? at h1
      rw [if_pos (Nat.zero_le _)] at h1
      obtain ⟨_, h2⟩ := mapM_get h1
      obtain ⟨x, h3, h4⟩ := h2 o o (by simp [ho])
      exact ⟨x, h3, h4⟩
    refine ⟨l, ⟨by rw [cV_len], cV_one l⟩, some a, m, by rw [hll], by omega, hm, fun hn => ?_⟩
    obtain ⟨b, off, spot⟩ := a
    have hspot : spot = none := by
      obtain ⟨x, _, h2⟩ := hcell 0 0 hn Cel.pos
      have := World.cell?_spot h2
      simpa [Addr.add] using this
    subst hspot
    refine ⟨b, off, rfl, ?_, fun j x hj => ?_⟩
    · obtain ⟨x, _, h2⟩ := hcell 0 0 hn Cel.pos
      rw [add_plain, add_plain] at h2
      exact World.block_lt_of_cell? w _ h2
    · have hpos : 0 < Cel.sz α := Cel.pos
      have hlt : j < l.length * Cel.sz α := by rw [← cV_len]; exact (List.getElem?_eq_some_iff.1 hj).1
      have hdm := Nat.div_add_mod j (Cel.sz α)
      have hml := Nat.mod_lt j hpos
      have hdl : j / Cel.sz α < l.length := Nat.div_lt_of_lt_mul (by rw [Nat.mul_comm]; exact hlt)
      obtain ⟨y, h1, h2⟩ := hcell (j / Cel.sz α) (j % Cel.sz α) hdl hml
      rw [add_plain, add_plain] at h2
      have e1 : l.getD (j / Cel.sz α) Cel.no = l[j / Cel.sz α] := by simp [List.getD_eq_getElem?_getD, hdl]
      have h3 := cV_cell (l := l) (j := j / Cel.sz α) (o := j % Cel.sz α) (v := y) hdl (by rw [e1]; exact h1)
      have e2 : j / Cel.sz α * Cel.sz α + j % Cel.sz α = j := by rw [Nat.mul_comm]; exact hdm
      rw [e2, hj] at h3
      cases h3
      rw [show off + j = off + j / Cel.sz α * Cel.sz α + j % Cel.sz α by omega]
      exact h2
end
section
variable {H : Type} {enc : TypeId × Value → H} {P : Program} {w : World}
theorem slice_shape {e t : TypeId} {v : Value} {d : DataW H} {ps : List MemPlace} {r : Reach} {b0 : Nat} (ht : P.underlying t = some (.slice e)) (hval : Value.okWide P w r b0 t v) (h : DataW.Trod enc P w 0 (fun _ => true) true t v d ps) : ∃ fuel y, DataW.trod enc P w 0 (fun _ => true) true fuel t [v] = some y := by
  obtain ⟨A, n, c, rfl⟩ := okWide_slice ht hval
  obtain ⟨fuel, hf⟩ := h
  exact ⟨fuel, _, hf⟩
end
section
variable {H : Type} {enc : TypeId × Value → H} {P : Program} {w : World}
theorem rep_v {x : Value} (h : x.oneCell' = true) : AC.rep w (fun _ => undef) (fun _ => none) (fun b => b < w.heap.size) (.v x) x := ⟨rfl, h⟩
/-- Cells side by side. -/
theorem rep_agg {cs : List AC} {vs : Array Value} (hn : vs.size = cs.length) (h : ∀ (j : Nat) (c : AC), cs[j]? = some c → ∃ z, vs[j]? = some z ∧ AC.rep w (fun _ => undef) (fun _ => none) (fun b => b < w.heap.size) c z) : Rep0 w (.g (.agg cs)) (.agg vs) := ⟨vs, rfl, hn, h⟩
end
/-- A law answers true and leaves what was there, by its contract. -/
theorem law_of_kon {P : Program} {f : FuncId} {aa : List AV} (h : Kon P f aa [] (vB true) [] []) {vs : Array Value} {w : World} (hs : vs.size = aa.length) (hr : ∀ (j : Nat) (a : AV), aa[j]? = some a → ∃ z, vs[j]? = some z ∧ Rep0 w a z) :
    Calls P f vs w fun e w' => e = .returned (.bool true) ∧ Below w.heap.size w w' := by
  obtain ⟨C, hC, hCe⟩ := h
  exact law_run hC hCe hs hr
end Go.Proofs.Yteagoafamjbpbaa

/- How benches that came in read. -/
namespace Go.Proofs.Yteagoafamjbpbaa
set_option linter.unusedVariables false
set_option linter.unusedSimpArgs false
open Go.ChangeShapes Go.WideShapes Go.ChangeAt Go.RowKit Go.Joins Go.Deep
section
variable {H : Type} {enc : TypeId × Value → H} {P : Program} {w : World}
theorem list5 {α : Type} {l : List α} (h : l.length = 5) : ∃ a b c d e, l = [a, b, c, d, e] := by
  match l, h with
  | [a, b, c, d, e], _ => exact ⟨a, b, c, d, e, rfl⟩
theorem list4 {α : Type} {l : List α} (h : l.length = 4) : ∃ a b c d, l = [a, b, c, d] := by
  match l, h with
  | [a, b, c, d], _ => exact ⟨a, b, c, d, rfl⟩
theorem opens_gate {e : TypeId} {f0 f1 f2 f3 : Field} (he : P.underlying e = some (.struct #[f0, f1, f2, f3])) (hone : oneCellFields P #[f0, f1, f2, f3] = true) (hC : P.cellsOf e = 4)
    (h0 : P.underlying f0.type = some (.int .i64)) (h1 : P.underlying f1.type = some (.int .i64)) (h2 : P.underlying f2.type = some (.int .i64)) (h3 : P.underlying f3.type = some (.int .i64)) : OpensC enc P w e Gt := by
  intro n cs x h
  obtain ⟨y0, y1, y2, y3, m, _, hl, g0, g1, g2, g3⟩ := trod_struct4 he h
  obtain ⟨c0, c1, c2, c3, rfl⟩ := list4 (hl.trans hC)
  obtain ⟨o0, k0⟩ := hone_of hone 0 f0 rfl
  obtain ⟨o1, k1⟩ := hone_of hone 1 f1 rfl
  obtain ⟨o2, k2⟩ := hone_of hone 2 f2 rfl
  obtain ⟨o3, k3⟩ := hone_of hone 3 f3 rfl
  rw [o0, k0] at g0
  rw [o1, k1] at g1
  rw [o2, k2] at g2
  rw [o3, k3] at g3
  obtain ⟨i0, e0, _⟩ := DataW.trod_int h0 g0
  obtain ⟨i1, e1, _⟩ := DataW.trod_int h1 g1
  obtain ⟨i2, e2, _⟩ := DataW.trod_int h2 g2
  obtain ⟨i3, e3, _⟩ := DataW.trod_int h3 g3
  simp at e0 e1 e2 e3
  subst e0 e1 e2 e3
  exact ⟨⟨i0, i1, i2, i3⟩, rfl⟩
theorem i64_in_of {k : Int} (h : (Lit.int .i64 k).wf = true) : -9223372036854775808 ≤ k ∧ k ≤ 9223372036854775807 := by
  simp [Lit.wf, IntKind.min, IntKind.max, IntKind.signed, IntKind.bits] at h
  omega
theorem bench_of_trod {t e : TypeId} {f0 f1 f2 f3 f4 : Field} {v : Value} {d : DataW H} {ps : List MemPlace} {r : Reach} {b0 : Nat} (ht : P.underlying t = some (.struct #[f0, f1, f2, f3, f4])) (hone : oneCellFields P #[f0, f1, f2, f3, f4] = true) (hC : P.cellsOf t = 5)
    (h0 : P.underlying f0.type = some (.int .i64)) (h1 : P.underlying f1.type = some (.slice e)) (hz : P.cellsOf e = 4) (hg : OpensC enc P w e Gt) (h2 : P.underlying f2.type = some (.int .i64)) (h3 : P.underlying f3.type = some (.int .i64)) (h4 : P.underlying f4.type = some (.int .i64))
    (hval : Value.okWide P w r b0 t v) (h : DataW.Trod enc P w 0 (fun _ => true) true t v d ps) :
    ∃ (n : Int) (l : List Gt) (f wd a : Int), (-9223372036854775808 ≤ n ∧ n ≤ 9223372036854775807) ∧ l.length ≤ 9223372036854775807 ∧ Rep0 w (.g (.agg [.v (.int .i64 n), .ro 4 l.length (cV l), .v (.int .i64 f), .v (.int .i64 wd), .v (.int .i64 a)])) v := by
  obtain ⟨cs, rfl, hsz⟩ := okWide_struct ht hval
  obtain ⟨fuel, hf⟩ := h
  obtain ⟨xs, m, _, _, hl, hlen, hk⟩ := DataW.trod_struct ht hf
  obtain ⟨L⟩ := cs
  obtain ⟨c0, c1, c2, c3, c4, rfl⟩ := list5 (l := L) (by have := hsz.trans hC; simpa using this)
  obtain ⟨y0, y1, y2, y3, y4, rfl⟩ := list5 (l := xs) (by simpa using hlen)
  obtain ⟨o0, k0⟩ := hone_of hone 0 f0 rfl
  obtain ⟨o1, k1⟩ := hone_of hone 1 f1 rfl
  obtain ⟨o2, k2⟩ := hone_of hone 2 f2 rfl
  obtain ⟨o3, k3⟩ := hone_of hone 3 f3 rfl
  obtain ⟨o4, k4⟩ := hone_of hone 4 f4 rfl
  have g0 := hk 0 f0 rfl
  have g1 := hk 1 f1 rfl
  have g2 := hk 2 f2 rfl
  have g3 := hk 3 f3 rfl
  have g4 := hk 4 f4 rfl
  simp [Value.cells, o0, k0] at g0
  simp [Value.cells, o1, k1] at g1
  simp [Value.cells, o2, k2] at g2
  simp [Value.cells, o3, k3] at g3
  simp [Value.cells, o4, k4] at g4
  obtain ⟨i0, e0, _, w0⟩ := DataW.trod_int h0 g0
  obtain ⟨i2, e2, _⟩ := DataW.trod_int h2 g2
  obtain ⟨i3, e3, _⟩ := DataW.trod_int h3 g3
  obtain ⟨i4, e4, _⟩ := DataW.trod_int h4 g4
  obtain ⟨l, hl2⟩ := ro_of_trod (α := Gt) h1 hz hg g1
  simp at e0 e2 e3 e4
  subst e0 e2 e3 e4
  have hlen2 : l.length ≤ 9223372036854775807 := by
    obtain ⟨_, A, c, _, q1, q2, _⟩ := hl2
    unfold maxLen at q2
    omega
  refine ⟨i0, l, i2, i3, i4, i64_in_of w0, hlen2, rep_agg rfl ?_⟩
  intro j c hj
  rcases j with _ | _ | _ | _ | _ | j
  · cases hj; exact ⟨_, rfl, rep_v rfl⟩
  · cases hj; exact ⟨_, rfl, hl2⟩
  · cases hj; exact ⟨_, rfl, rep_v rfl⟩
  · cases hj; exact ⟨_, rfl, rep_v rfl⟩
  · cases hj; exact ⟨_, rfl, rep_v rfl⟩
  · simp at hj
end
end Go.Proofs.Yteagoafamjbpbaa

/- How deeds that came in read. -/
namespace Go.Proofs.Yteagoafamjbpbaa
set_option linter.unusedVariables false
set_option linter.unusedSimpArgs false
open Go.ChangeShapes Go.WideShapes Go.ChangeAt Go.RowKit Go.Joins Go.Deep
section
variable {H : Type} {enc : TypeId × Value → H} {P : Program} {w : World}
theorem list6 {α : Type} {l : List α} (h : l.length = 6) : ∃ a b c d e f, l = [a, b, c, d, e, f] := by
  match l, h with
  | [a, b, c, d, e, f], _ => exact ⟨a, b, c, d, e, f, rfl⟩
theorem list3 {α : Type} {l : List α} (h : l.length = 3) : ∃ a b c, l = [a, b, c] := by
  match l, h with
  | [a, b, c], _ => exact ⟨a, b, c, rfl⟩
theorem opens_deed {e : TypeId} {f0 f1 f2 : Field} (he : P.underlying e = some (.struct #[f0, f1, f2])) (hC : P.cellsOf e = 6) (ho : (f0.offset, f1.offset, f2.offset) = (0, 1, 2)) (hs : (P.cellsOf f0.type, P.cellsOf f1.type, P.cellsOf f2.type) = (1, 1, 4))
    (h0 : P.underlying f0.type = some (.int .i64)) (h1 : P.underlying f1.type = some (.int .i64)) (hg : OpensC enc P w f2.type Gt) : OpensC enc P w e Dd := by
  intro n cs x h
  obtain ⟨xs, m, _, _, hl, hlen, hk⟩ := DataW.trod_struct he h
  obtain ⟨c0, c1, c2, c3, c4, c5, rfl⟩ := list6 (hl.trans hC)
  obtain ⟨y0, y1, y2, rfl⟩ := list3 (l := xs) (by simpa using hlen)
  obtain ⟨o0, o⟩ := Prod.mk.inj ho
  obtain ⟨o1, o2⟩ := Prod.mk.inj o
  obtain ⟨s0, s⟩ := Prod.mk.inj hs
  obtain ⟨s1, s2⟩ := Prod.mk.inj s
  have g0 := hk 0 f0 rfl
  have g1 := hk 1 f1 rfl
  have g2 := hk 2 f2 rfl
  rw [o0, s0] at g0
  rw [o1, s1] at g1
  rw [o2, s2] at g2
  simp at g0 g1 g2
  obtain ⟨i0, e0, _⟩ := DataW.trod_int h0 g0
  obtain ⟨i1, e1, _⟩ := DataW.trod_int h1 g1
  obtain ⟨p, ep⟩ := hg _ _ _ g2
  simp at e0 e1
  subst e0 e1
  refine ⟨⟨i0, i1, p⟩, ?_⟩
  show [_, _, c2, c3, c4, c5] = _
  rw [ep]; rfl
theorem deeds_of_trod {e t : TypeId} {v : Value} {d : DataW H} {ps : List MemPlace} {r : Reach} {b0 : Nat} (ht : P.underlying t = some (.slice e)) (hc : P.cellsOf e = 6) (ho : OpensC enc P w e Dd) (hval : Value.okWide P w r b0 t v) (h : DataW.Trod enc P w 0 (fun _ => true) true t v d ps) :
    ∃ l : List Dd, Rep0 w (roA l) v := by
  obtain ⟨fuel, y, hf⟩ := slice_shape ht hval h
  exact ro_of_trod (α := Dd) ht hc ho hf
theorem ro_len {α : Type} [Cel α] {l : List α} {v : Value} (h : Rep0 w (roA l) v) : l.length ≤ 9223372036854775807 := by
  obtain ⟨_, A, c, _, q1, q2, _⟩ := h
  unfold maxLen at q2
  omega
end
end Go.Proofs.Yteagoafamjbpbaa
