/- SameCircuit of both sides in full. -/
import Derived.Test.YtgifhhefcmmdfaaKBQ
namespace Go.Proofs.Ytgifhhefcmmdfaa
set_option linter.unusedVariables false
set_option linter.unusedSimpArgs false
set_option maxRecDepth 20000
open Go.RowKit
attribute [local irreducible] runA runX AW
def wsTT : WsT := (41, ([], true)) :: wsT
theorem gq_KBT {H G : Prop} (k : H) (h : Hid H → G := by (intro hh; (first | (first | ((first | refine r_none ?_ | refine r_gt (by rfl) (by rfl) (by first | rfl | assumption | omega | (simp only [*, Bool.not_false, Bool.not_true]; first | done | fail) | (simp [*]; first | done | fail)) (by rfl) ?_ | refine r_gf (by rfl) (by rfl) (by first | rfl | assumption | omega | (simp only [*, Bool.not_false, Bool.not_true]; first | done | fail) | (simp [*]; first | done | fail)) (by rfl) ?_); (first | fail | ((first | (refine z_op (by rfl) ?_; first | refine z_ok ?_ ?_ | refine z_ex ?_ (by first | exact ft_raw rfl rfl | ((first | refine ft_rp rfl rfl rfl ?_ | refine ft_row rfl rfl rfl ?_ | refine ft_rpF rfl rfl rfl ?_ | refine ft_rowF rfl rfl rfl ?_ | refine up_row rfl rfl ?_ | refine up_rowF rfl rfl rfl ?_ | refine ct_0 rfl ?_ | refine ct_r rfl rfl ?_ | refine ct_c rfl rfl rfl ?_ | refine cu_all rfl ?_ | refine cu_to rfl ?_ | refine cu_from rfl ?_ | refine cu_p rfl ?_ | (first | refine mk_0 Int rfl rfl ?_ | refine mk_0 Gt rfl rfl ?_)); (first | omega | (simp only [List.length_append, List.length_replicate, List.length_cons, List.length_nil, List.length_set, List.length_take, List.length_drop, true_and]; omega))) | exact up_raw rfl | exact pk_t (by first | rfl | assumption | omega | (simp only [*, Bool.not_false, Bool.not_true]; first | done | fail) | (simp [*]; first | done | fail)) rfl | exact pk_f (by first | rfl | assumption | omega | (simp only [*, Bool.not_false, Bool.not_true]; first | done | fail) | (simp [*]; first | done | fail)) rfl | exact rw_c Int rfl | exact rw_raw | exact pu_cv (fun w => rfl) (by omega) | exact pu_of (fun w => rfl) rfl | exact be_of (fun w => rfl) | exact nc_of (fun _ _ _ _ => rfl) rfl | exact bu_of (fun w => rfl) rfl | fail) ?_) | ((first | refine q_callE wsTT wsZ (by rfl) ?_ | refine q_callVE wsTT (by rfl) (by rfl) ?_); refine ⟨_, _, _, (by first | assumption | exact k_alive), _, by rfl, ?_, ?_⟩)); focus (first | exact trivial | fail | exact rfl | (first | omega | (simp only [List.length_append, List.length_replicate, List.length_cons, List.length_nil, List.length_set, List.length_take, List.length_drop, true_and]; omega)) | exact cvB (fun w => rfl) | ((repeat' (first | exact rfl | exact cV_len _ | exact cV_ln rfl (by omega) | exact Cel.pos | omega | exact trivial | refine And.intro ?_ ?_)); done) | (simp [*]; done) | (simp; omega))) | fail)) | refine r_nt (by rfl) (by rfl) (by first | rfl | assumption | omega | (simp only [*, Bool.not_false, Bool.not_true]; first | done | fail) | (simp [*]; first | done | fail)) (by rfl) ?_ | refine r_nf (by rfl) (by rfl) (by first | rfl | assumption | omega | (simp only [*, Bool.not_false, Bool.not_true]; first | done | fail) | (simp [*]; first | done | fail)) (by rfl) ?_ | refine r_gu (by rfl) (by rfl) (by rfl) ?_ | refine r_nil ?_) | (first | refine aw_seq ?_ | refine aw_ct (by rfl) (by first | rfl | assumption | omega | (simp only [*, Bool.not_false, Bool.not_true]; first | done | fail) | (simp [*]; first | done | fail)) ?_ | refine aw_cf (by rfl) (by first | rfl | assumption | omega | (simp only [*, Bool.not_false, Bool.not_true]; first | done | fail) | (simp [*]; first | done | fail)) ?_ | refine aw_block ?_ | refine aw_region T0ok cfU_ok (by rfl) ?_ | refine aw_skip ?_ | refine aw_exit ?_ | refine ra_step ?_)); (repeat (first | (first | ((first | refine r_none ?_ | refine r_gt (by rfl) (by rfl) (by first | rfl | assumption | omega | (simp only [*, Bool.not_false, Bool.not_true]; first | done | fail) | (simp [*]; first | done | fail)) (by rfl) ?_ | refine r_gf (by rfl) (by rfl) (by first | rfl | assumption | omega | (simp only [*, Bool.not_false, Bool.not_true]; first | done | fail) | (simp [*]; first | done | fail)) (by rfl) ?_); (first | fail | ((first | (refine z_op (by rfl) ?_; first | refine z_ok ?_ ?_ | refine z_ex ?_ (by first | exact ft_raw rfl rfl | ((first | refine ft_rp rfl rfl rfl ?_ | refine ft_row rfl rfl rfl ?_ | refine ft_rpF rfl rfl rfl ?_ | refine ft_rowF rfl rfl rfl ?_ | refine up_row rfl rfl ?_ | refine up_rowF rfl rfl rfl ?_ | refine ct_0 rfl ?_ | refine ct_r rfl rfl ?_ | refine ct_c rfl rfl rfl ?_ | refine cu_all rfl ?_ | refine cu_to rfl ?_ | refine cu_from rfl ?_ | refine cu_p rfl ?_ | (first | refine mk_0 Int rfl rfl ?_ | refine mk_0 Gt rfl rfl ?_)); (first | omega | (simp only [List.length_append, List.length_replicate, List.length_cons, List.length_nil, List.length_set, List.length_take, List.length_drop, true_and]; omega))) | exact up_raw rfl | exact pk_t (by first | rfl | assumption | omega | (simp only [*, Bool.not_false, Bool.not_true]; first | done | fail) | (simp [*]; first | done | fail)) rfl | exact pk_f (by first | rfl | assumption | omega | (simp only [*, Bool.not_false, Bool.not_true]; first | done | fail) | (simp [*]; first | done | fail)) rfl | exact rw_c Int rfl | exact rw_raw | exact pu_cv (fun w => rfl) (by omega) | exact pu_of (fun w => rfl) rfl | exact be_of (fun w => rfl) | exact nc_of (fun _ _ _ _ => rfl) rfl | exact bu_of (fun w => rfl) rfl | fail) ?_) | ((first | refine q_callE wsTT wsZ (by rfl) ?_ | refine q_callVE wsTT (by rfl) (by rfl) ?_); refine ⟨_, _, _, (by first | assumption | exact k_alive), _, by rfl, ?_, ?_⟩)); focus (first | exact trivial | fail | exact rfl | (first | omega | (simp only [List.length_append, List.length_replicate, List.length_cons, List.length_nil, List.length_set, List.length_take, List.length_drop, true_and]; omega)) | exact cvB (fun w => rfl) | ((repeat' (first | exact rfl | exact cV_len _ | exact cV_ln rfl (by omega) | exact Cel.pos | omega | exact trivial | refine And.intro ?_ ?_)); done) | (simp [*]; done) | (simp; omega))) | fail)) | refine r_nt (by rfl) (by rfl) (by first | rfl | assumption | omega | (simp only [*, Bool.not_false, Bool.not_true]; first | done | fail) | (simp [*]; first | done | fail)) (by rfl) ?_ | refine r_nf (by rfl) (by rfl) (by first | rfl | assumption | omega | (simp only [*, Bool.not_false, Bool.not_true]; first | done | fail) | (simp [*]; first | done | fail)) (by rfl) ?_ | refine r_gu (by rfl) (by rfl) (by rfl) ?_ | refine r_nil ?_) | (first | refine aw_seq ?_ | refine aw_ct (by rfl) (by first | rfl | assumption | omega | (simp only [*, Bool.not_false, Bool.not_true]; first | done | fail) | (simp [*]; first | done | fail)) ?_ | refine aw_cf (by rfl) (by first | rfl | assumption | omega | (simp only [*, Bool.not_false, Bool.not_true]; first | done | fail) | (simp [*]; first | done | fail)) ?_ | refine aw_block ?_ | refine aw_region T0ok cfU_ok (by rfl) ?_ | refine aw_skip ?_ | refine aw_exit ?_ | refine ra_step ?_))); exact hh.out)) : G := h ⟨k⟩
theorem ga_KBT {H G : Prop} (k : H) (h : Hid H → G := by (intro hh; (first | refine r_none ?_ | refine r_gt (by rfl) (by rfl) (by first | rfl | assumption | omega | (simp only [*, Bool.not_false, Bool.not_true]; first | done | fail) | (simp [*]; first | done | fail)) (by rfl) ?_ | refine r_gf (by rfl) (by rfl) (by first | rfl | assumption | omega | (simp only [*, Bool.not_false, Bool.not_true]; first | done | fail) | (simp [*]; first | done | fail)) (by rfl) ?_); refine z_op (by rfl) ?_; refine z_al ?_ hh.out; focus (first | exact trivial | fail | exact rfl | (first | omega | (simp only [List.length_append, List.length_replicate, List.length_cons, List.length_nil, List.length_set, List.length_take, List.length_drop, true_and]; omega)) | exact cvB (fun w => rfl) | ((repeat' (first | exact rfl | exact cV_len _ | exact cV_ln rfl (by omega) | exact Cel.pos | omega | exact trivial | refine And.intro ?_ ?_)); done) | (simp [*]; done) | (simp; omega)))) : G := h ⟨k⟩
theorem gs_KBT {H G : Prop} (k : H) (h : Hid H → G := by (intro hh; (first | ((first | refine r_none ?_ | refine r_gt (by rfl) (by rfl) (by first | rfl | assumption | omega | (simp only [*, Bool.not_false, Bool.not_true]; first | done | fail) | (simp [*]; first | done | fail)) (by rfl) ?_ | refine r_gf (by rfl) (by rfl) (by first | rfl | assumption | omega | (simp only [*, Bool.not_false, Bool.not_true]; first | done | fail) | (simp [*]; first | done | fail)) (by rfl) ?_); (first | fail | ((first | (refine z_op (by rfl) ?_; first | refine z_ok ?_ ?_ | refine z_ex ?_ (by first | exact ft_raw rfl rfl | ((first | refine ft_rp rfl rfl rfl ?_ | refine ft_row rfl rfl rfl ?_ | refine ft_rpF rfl rfl rfl ?_ | refine ft_rowF rfl rfl rfl ?_ | refine up_row rfl rfl ?_ | refine up_rowF rfl rfl rfl ?_ | refine ct_0 rfl ?_ | refine ct_r rfl rfl ?_ | refine ct_c rfl rfl rfl ?_ | refine cu_all rfl ?_ | refine cu_to rfl ?_ | refine cu_from rfl ?_ | refine cu_p rfl ?_ | (first | refine mk_0 Int rfl rfl ?_ | refine mk_0 Gt rfl rfl ?_)); (first | omega | (simp only [List.length_append, List.length_replicate, List.length_cons, List.length_nil, List.length_set, List.length_take, List.length_drop, true_and]; omega))) | exact up_raw rfl | exact pk_t (by first | rfl | assumption | omega | (simp only [*, Bool.not_false, Bool.not_true]; first | done | fail) | (simp [*]; first | done | fail)) rfl | exact pk_f (by first | rfl | assumption | omega | (simp only [*, Bool.not_false, Bool.not_true]; first | done | fail) | (simp [*]; first | done | fail)) rfl | exact rw_c Int rfl | exact rw_raw | exact pu_cv (fun w => rfl) (by omega) | exact pu_of (fun w => rfl) rfl | exact be_of (fun w => rfl) | exact nc_of (fun _ _ _ _ => rfl) rfl | exact bu_of (fun w => rfl) rfl | fail) ?_) | ((first | refine q_callE wsTT wsZ (by rfl) ?_ | refine q_callVE wsTT (by rfl) (by rfl) ?_); refine ⟨_, _, _, (by first | assumption | exact k_alive), _, by rfl, ?_, ?_⟩)); focus (first | exact trivial | fail | exact rfl | (first | omega | (simp only [List.length_append, List.length_replicate, List.length_cons, List.length_nil, List.length_set, List.length_take, List.length_drop, true_and]; omega)) | exact cvB (fun w => rfl) | ((repeat' (first | exact rfl | exact cV_len _ | exact cV_ln rfl (by omega) | exact Cel.pos | omega | exact trivial | refine And.intro ?_ ?_)); done) | (simp [*]; done) | (simp; omega))) | fail)) | refine r_nt (by rfl) (by rfl) (by first | rfl | assumption | omega | (simp only [*, Bool.not_false, Bool.not_true]; first | done | fail) | (simp [*]; first | done | fail)) (by rfl) ?_ | refine r_nf (by rfl) (by rfl) (by first | rfl | assumption | omega | (simp only [*, Bool.not_false, Bool.not_true]; first | done | fail) | (simp [*]; first | done | fail)) (by rfl) ?_ | refine r_gu (by rfl) (by rfl) (by rfl) ?_ | refine r_nil ?_); (repeat (first | ((first | refine r_none ?_ | refine r_gt (by rfl) (by rfl) (by first | rfl | assumption | omega | (simp only [*, Bool.not_false, Bool.not_true]; first | done | fail) | (simp [*]; first | done | fail)) (by rfl) ?_ | refine r_gf (by rfl) (by rfl) (by first | rfl | assumption | omega | (simp only [*, Bool.not_false, Bool.not_true]; first | done | fail) | (simp [*]; first | done | fail)) (by rfl) ?_); (first | fail | ((first | (refine z_op (by rfl) ?_; first | refine z_ok ?_ ?_ | refine z_ex ?_ (by first | exact ft_raw rfl rfl | ((first | refine ft_rp rfl rfl rfl ?_ | refine ft_row rfl rfl rfl ?_ | refine ft_rpF rfl rfl rfl ?_ | refine ft_rowF rfl rfl rfl ?_ | refine up_row rfl rfl ?_ | refine up_rowF rfl rfl rfl ?_ | refine ct_0 rfl ?_ | refine ct_r rfl rfl ?_ | refine ct_c rfl rfl rfl ?_ | refine cu_all rfl ?_ | refine cu_to rfl ?_ | refine cu_from rfl ?_ | refine cu_p rfl ?_ | (first | refine mk_0 Int rfl rfl ?_ | refine mk_0 Gt rfl rfl ?_)); (first | omega | (simp only [List.length_append, List.length_replicate, List.length_cons, List.length_nil, List.length_set, List.length_take, List.length_drop, true_and]; omega))) | exact up_raw rfl | exact pk_t (by first | rfl | assumption | omega | (simp only [*, Bool.not_false, Bool.not_true]; first | done | fail) | (simp [*]; first | done | fail)) rfl | exact pk_f (by first | rfl | assumption | omega | (simp only [*, Bool.not_false, Bool.not_true]; first | done | fail) | (simp [*]; first | done | fail)) rfl | exact rw_c Int rfl | exact rw_raw | exact pu_cv (fun w => rfl) (by omega) | exact pu_of (fun w => rfl) rfl | exact be_of (fun w => rfl) | exact nc_of (fun _ _ _ _ => rfl) rfl | exact bu_of (fun w => rfl) rfl | fail) ?_) | ((first | refine q_callE wsTT wsZ (by rfl) ?_ | refine q_callVE wsTT (by rfl) (by rfl) ?_); refine ⟨_, _, _, (by first | assumption | exact k_alive), _, by rfl, ?_, ?_⟩)); focus (first | exact trivial | fail | exact rfl | (first | omega | (simp only [List.length_append, List.length_replicate, List.length_cons, List.length_nil, List.length_set, List.length_take, List.length_drop, true_and]; omega)) | exact cvB (fun w => rfl) | ((repeat' (first | exact rfl | exact cV_len _ | exact cV_ln rfl (by omega) | exact Cel.pos | omega | exact trivial | refine And.intro ?_ ?_)); done) | (simp [*]; done) | (simp; omega))) | fail)) | refine r_nt (by rfl) (by rfl) (by first | rfl | assumption | omega | (simp only [*, Bool.not_false, Bool.not_true]; first | done | fail) | (simp [*]; first | done | fail)) (by rfl) ?_ | refine r_nf (by rfl) (by rfl) (by first | rfl | assumption | omega | (simp only [*, Bool.not_false, Bool.not_true]; first | done | fail) | (simp [*]; first | done | fail)) (by rfl) ?_ | refine r_gu (by rfl) (by rfl) (by rfl) ?_ | refine r_nil ?_)); exact hh.out)) : G := h ⟨k⟩
theorem gc_KBT {H G : Prop} (k : H) (h : Hid H → G := by (intro hh; (first | refine aw_seq ?_ | refine aw_ct (by rfl) (by first | rfl | assumption | omega | (simp only [*, Bool.not_false, Bool.not_true]; first | done | fail) | (simp [*]; first | done | fail)) ?_ | refine aw_cf (by rfl) (by first | rfl | assumption | omega | (simp only [*, Bool.not_false, Bool.not_true]; first | done | fail) | (simp [*]; first | done | fail)) ?_ | refine aw_block ?_ | refine aw_region T0ok cfU_ok (by rfl) ?_ | refine aw_skip ?_ | refine aw_exit ?_ | refine ra_step ?_); (repeat (first | refine aw_seq ?_ | refine aw_ct (by rfl) (by first | rfl | assumption | omega | (simp only [*, Bool.not_false, Bool.not_true]; first | done | fail) | (simp [*]; first | done | fail)) ?_ | refine aw_cf (by rfl) (by first | rfl | assumption | omega | (simp only [*, Bool.not_false, Bool.not_true]; first | done | fail) | (simp [*]; first | done | fail)) ?_ | refine aw_block ?_ | refine aw_region T0ok cfU_ok (by rfl) ?_ | refine aw_skip ?_ | refine aw_exit ?_ | refine ra_step ?_)); exact hh.out)) : G := h ⟨k⟩
theorem gd_KBT {H G : Prop} (k : H) (h : Hid H → G := by (intro hh; (refine aw_draw mixed T0ok cfU_ok [] (by rfl) (by kernel_rfl) ?_); exact hh.out)) : G := h ⟨k⟩
theorem eqd_step {l m : List Int} {i : Nat} (h1 : i < l.length) (h2 : i < m.length) : (l.drop i == m.drop i) = ((l.getD i 0 == m.getD i 0) && (l.drop (i + 1) == m.drop (i + 1))) := by
  have e1 : l.getD i 0 = l[i] := by simp [List.getD_eq_getElem?_getD, h1]
  have e2 : m.getD i 0 = m[i] := by simp [List.getD_eq_getElem?_getD, h2]
  rw [List.drop_eq_getElem_cons h1, List.drop_eq_getElem_cons h2, e1, e2]; rfl
theorem k_eqI2 (l m : List Int) (h : l.length ≤ 10000000) (hm : m.length = l.length) : Kon Try.prog 82 [roA l, roA m] [] (vB (l == m)) [] [] := by
  have h1 : ((l.length : Int) != (m.length : Int)) = false := by rw [hm]; simp
  (refine kon_mk T0ok (fn := Try.f82) (c := Try.f82.body.get rfl) Try.func82 rfl (by rfl) (by rfl) (by rfl) ?_; intro hfit hfe)
  (repeat (first | refine gq_KBT ?_ | (refine ga_KBT ?_; intro _q ⟨_he, _hq⟩)))
  (refine aw_rd [0, 1, 12] [] (fun i : Nat => [(13, vI i)]) (fun _ => []) (fun i => i ≤ l.length ∧ (l.drop i == m.drop i) = (l == m)) (fun i => l.length - i) 0 (by rfl) (by rfl) ?_ (by rfl) (by repeat (first | exact trivial | refine ⟨by rfl, ?_⟩ | refine ⟨vI_of (by rfl) (by omega), ?_⟩)) (by repeat (first | exact trivial | refine ⟨by rfl, ?_⟩ | refine ⟨vI_of (by rfl) (by omega), ?_⟩)) ?_)
  · exact ⟨Nat.zero_le _, by rw [List.drop_zero, List.drop_zero]⟩
  rintro i ⟨hi, hz⟩
  rcases Nat.lt_or_ge i l.length with h5 | h5
  · have hd : decide ((i : Int) < (l.length : Int)) = true := decide_eq_true (by omega)
    rw [eqd_step h5 (by omega)] at hz
    cases hx : (l.getD i 0 == m.getD i 0) with
    | true =>
      have hx' : (l.getD (i : Int).toNat Cel.no != m.getD (i : Int).toNat Cel.no) = false := by
        show (!(l.getD i 0 == m.getD i 0)) = false
        rw [hx]; rfl
      rw [hx, Bool.true_and] at hz
      have hinv : i + 1 ≤ l.length ∧ (l.drop (i + 1) == m.drop (i + 1)) = (l == m) := ⟨h5, hz⟩
      clear hz hx
      (repeat (first | refine gq_KBT ?_ | (refine ga_KBT ?_; intro _q ⟨_he, _hq⟩) | refine gd_KBT ?_))
      exact ⟨i + 1, hinv, ⟨by rfl, (by repeat (first | exact trivial | refine ⟨by rfl, ?_⟩ | refine ⟨vI_of (by rfl) (by omega), ?_⟩)), (by repeat (first | exact trivial | refine ⟨by rfl, ?_⟩ | refine ⟨vI_of (by rfl) (by omega), ?_⟩))⟩, (by first | omega | (dsimp only; omega))⟩
    | false =>
      have hx' : (l.getD (i : Int).toNat Cel.no != m.getD (i : Int).toNat Cel.no) = true := by
        show (!(l.getD i 0 == m.getD i 0)) = true
        rw [hx]; rfl
      rw [hx, Bool.false_and] at hz
      rw [← hz]
      clear hz hx
      (repeat (first | refine gq_KBT ?_ | (refine ga_KBT ?_; intro _q ⟨_he, _hq⟩) | refine gd_KBT ?_))
      ((try refine aw_ret ?_); refine ret_auto2 (by rfl) (by rfl) (by rfl) (by repeat (first | exact trivial | refine ⟨by first | rfl | omega, ?_⟩)) ?_ (by repeat (first | exact trivial | refine ⟨by rfl, by rfl, ?_⟩)) (by repeat (first | exact trivial | refine ⟨by rfl, by rfl, ?_⟩)); try rfl)
  · have hd : decide ((i : Int) < (l.length : Int)) = false := decide_eq_false (by omega)
    rw [List.drop_of_length_le h5, List.drop_of_length_le (by omega)] at hz
    rw [← hz]
    clear hz
    (repeat (first | refine gq_KBT ?_ | (refine ga_KBT ?_; intro _q ⟨_he, _hq⟩) | refine gd_KBT ?_))
    ((try refine aw_ret ?_); refine ret_auto2 (by rfl) (by rfl) (by rfl) (by repeat (first | exact trivial | refine ⟨by first | rfl | omega, ?_⟩)) ?_ (by repeat (first | exact trivial | refine ⟨by rfl, by rfl, ?_⟩)) (by repeat (first | exact trivial | refine ⟨by rfl, by rfl, ?_⟩)); try rfl)
def smB (n : Int) (a b : List Gt) : Bool := cokB n a && (cokB n b && (tabN a (2 ^ n.toNat) == tabN b (2 ^ n.toNat)))
theorem two_n (n : Int) : (1 * 2 ^ n.toNat : Int) = ((2 ^ n.toNat : Nat) : Int) := by simp
theorem two_le {n : Int} (hn : 1 ≤ n ∧ n ≤ 8) : 2 ^ n.toNat ≤ 256 := by
  have := (pow_8 hn).2
  have e : ((2 ^ n.toNat : Nat) : Int) = 2 ^ n.toNat := by simp
  omega
theorem k_smI (n : Int) (a b : List Gt) (ha : a.length ≤ 1000) (hb : b.length ≤ 1000) : Kon Try.prog 25 [vI n, roA a, roA b] [] (vB (smB n a b)) [] [] := by
  have hA := k_cv n a (by omega)
  have hB := k_cv n b (by omega)
  unfold smB
  cases h1 : cokB n a with
  | false =>
    rw [h1] at hA
    (refine kon_mk T0ok (fn := Try.f25) (c := Try.f25.body.get rfl) Try.func25 rfl (by rfl) (by rfl) (by rfl) ?_; intro hfit hfe)
    (repeat (first | refine gq_KBT ?_ | (refine ga_KBT ?_; intro _q ⟨_he, _hq⟩)))
    ((try refine aw_ret ?_); refine ret_auto2 (by rfl) (by rfl) (by rfl) (by repeat (first | exact trivial | refine ⟨by first | rfl | omega, ?_⟩)) ?_ (by repeat (first | exact trivial | refine ⟨by rfl, by rfl, ?_⟩)) (by repeat (first | exact trivial | refine ⟨by rfl, by rfl, ?_⟩)); try rfl)
  | true =>
    rw [h1] at hA
    cases h2 : cokB n b with
    | false =>
      rw [h2] at hB
      (refine kon_mk T0ok (fn := Try.f25) (c := Try.f25.body.get rfl) Try.func25 rfl (by rfl) (by rfl) (by rfl) ?_; intro hfit hfe)
      (repeat (first | refine gq_KBT ?_ | (refine ga_KBT ?_; intro _q ⟨_he, _hq⟩)))
      ((try refine aw_ret ?_); refine ret_auto2 (by rfl) (by rfl) (by rfl) (by repeat (first | exact trivial | refine ⟨by first | rfl | omega, ?_⟩)) ?_ (by repeat (first | exact trivial | refine ⟨by rfl, by rfl, ?_⟩)) (by repeat (first | exact trivial | refine ⟨by rfl, by rfl, ?_⟩)); try rfl)
    | true =>
      rw [h2] at hB
      have hT := k_tab n a h1 _ (two_n n)
      have hT' := k_tab n b h2 _ (two_n n)
      have hE := k_eqI2 (tabN a (2 ^ n.toNat)) (tabN b (2 ^ n.toNat)) (by rw [tabN_len]; have := two_le (cokB_t h1).1; omega) (by rw [tabN_len, tabN_len])
      generalize tabN a (2 ^ n.toNat) = X at *
      generalize tabN b (2 ^ n.toNat) = Y at *
      (refine kon_mk T0ok (fn := Try.f25) (c := Try.f25.body.get rfl) Try.func25 rfl (by rfl) (by rfl) (by rfl) ?_; intro hfit hfe)
      (repeat (first | refine gq_KBT ?_ | (refine ga_KBT ?_; intro _q ⟨_he, _hq⟩)))
      ((try refine aw_ret ?_); refine ret_auto2 (by rfl) (by rfl) (by rfl) (by repeat (first | exact trivial | refine ⟨by first | rfl | omega, ?_⟩)) ?_ (by repeat (first | exact trivial | refine ⟨by rfl, by rfl, ?_⟩)) (by repeat (first | exact trivial | refine ⟨by rfl, by rfl, ?_⟩)); try rfl)
theorem k_smS (n : Int) (a b : List Gt) (ha : a.length ≤ 1000) (hb : b.length ≤ 1000) (hn : -1 ≤ n ∧ n ≤ 9) : Kon Try.prog 42 [vI n, roA a, roA b] [] (vB (smB n a b)) [] [] := by
  have hA := k_cvS n a (by omega) (by omega)
  have hB := k_cvS n b (by omega) (by omega)
  unfold smB
  cases h1 : cokB n a with
  | false =>
    rw [h1] at hA
    have hT := k_ctS0 n a ha hn h1
    cases h2 : cokB n b with
    | false =>
      rw [h2] at hB
      have hT' := k_ctS0 n b hb hn h2
      (refine kon_mk T0ok (fn := Try.f42) (c := Try.f42.body.get rfl) Try.func42 rfl (by rfl) (by rfl) (by rfl) ?_; intro hfit hfe)
      (repeat (first | refine gq_KBT ?_ | (refine ga_KBT ?_; intro _q ⟨_he, _hq⟩)))
      refine aw_unroll 3 ?_
      (repeat (first | refine gq_KBT ?_ | (refine ga_KBT ?_; intro _q ⟨_he, _hq⟩)))
      ((try refine aw_ret ?_); refine ret_auto2 (by rfl) (by rfl) (by rfl) (by repeat (first | exact trivial | refine ⟨by first | rfl | omega, ?_⟩)) ?_ (by repeat (first | exact trivial | refine ⟨by rfl, by rfl, ?_⟩)) (by repeat (first | exact trivial | refine ⟨by rfl, by rfl, ?_⟩)); try rfl)
    | true =>
      rw [h2] at hB
      have hT' := k_ctS n b h2 _ (two_n n)
      generalize tabN b (2 ^ n.toNat) = Y at *
      (refine kon_mk T0ok (fn := Try.f42) (c := Try.f42.body.get rfl) Try.func42 rfl (by rfl) (by rfl) (by rfl) ?_; intro hfit hfe)
      (repeat (first | refine gq_KBT ?_ | (refine ga_KBT ?_; intro _q ⟨_he, _hq⟩)))
      refine aw_unroll 3 ?_
      (repeat (first | refine gq_KBT ?_ | (refine ga_KBT ?_; intro _q ⟨_he, _hq⟩)))
      ((try refine aw_ret ?_); refine ret_auto2 (by rfl) (by rfl) (by rfl) (by repeat (first | exact trivial | refine ⟨by first | rfl | omega, ?_⟩)) ?_ (by repeat (first | exact trivial | refine ⟨by rfl, by rfl, ?_⟩)) (by repeat (first | exact trivial | refine ⟨by rfl, by rfl, ?_⟩)); try rfl)
  | true =>
    rw [h1] at hA
    have hT := k_ctS n a h1 _ (two_n n)
    have hX := tabN_len a (2 ^ n.toNat)
    have h8 := two_le (cokB_t h1).1
    have h0 : 0 < 2 ^ n.toNat := Nat.pow_pos (by decide)
    cases h2 : cokB n b with
    | false =>
      rw [h2] at hB
      have hT' := k_ctS0 n b hb hn h2
      generalize tabN a (2 ^ n.toNat) = X at *
      have hd0 : decide ((0 : Int) < (X.length : Int)) = true := decide_eq_true (by omega)
      (refine kon_mk T0ok (fn := Try.f42) (c := Try.f42.body.get rfl) Try.func42 rfl (by rfl) (by rfl) (by rfl) ?_; intro hfit hfe)
      (repeat (first | refine gq_KBT ?_ | (refine ga_KBT ?_; intro _q ⟨_he, _hq⟩)))
      refine aw_unroll 3 ?_
      (repeat (first | refine gq_KBT ?_ | (refine ga_KBT ?_; intro _q ⟨_he, _hq⟩)))
      ((try refine aw_ret ?_); refine ret_auto2 (by rfl) (by rfl) (by rfl) (by repeat (first | exact trivial | refine ⟨by first | rfl | omega, ?_⟩)) ?_ (by repeat (first | exact trivial | refine ⟨by rfl, by rfl, ?_⟩)) (by repeat (first | exact trivial | refine ⟨by rfl, by rfl, ?_⟩)); try rfl)
    | true =>
      rw [h2] at hB
      have hT' := k_ctS n b h2 _ (two_n n)
      have hY := tabN_len b (2 ^ n.toNat)
      generalize tabN a (2 ^ n.toNat) = X at *
      generalize tabN b (2 ^ n.toNat) = Y at *
      rw [Bool.true_and, Bool.true_and]
      (refine kon_mk T0ok (fn := Try.f42) (c := Try.f42.body.get rfl) Try.func42 rfl (by rfl) (by rfl) (by rfl) ?_; intro hfit hfe)
      (repeat (first | refine gq_KBT ?_ | (refine ga_KBT ?_; intro _q ⟨_he, _hq⟩)))
      (refine aw_rd [0, 1, 2, 7, 8] [192, 240] (fun i : Nat => [(9, vI i)]) (fun _ => []) (fun i => i ≤ X.length ∧ (X.drop i == Y.drop i) = (X == Y)) (fun i => X.length - i) 0 (by rfl) (by rfl) ?_ (by rfl) (by repeat (first | exact trivial | refine ⟨by rfl, ?_⟩ | refine ⟨vI_of (by rfl) (by omega), ?_⟩)) (by repeat (first | exact trivial | refine ⟨by rfl, ?_⟩ | refine ⟨vI_of (by rfl) (by omega), ?_⟩)) ?_)
      · exact ⟨Nat.zero_le _, by rw [List.drop_zero, List.drop_zero]⟩
      rintro i ⟨hi, hz⟩
      rcases Nat.lt_or_ge i X.length with h5 | h5
      · have hd : decide ((i : Int) < (X.length : Int)) = true := decide_eq_true (by omega)
        have hd' : decide ((i : Int) < (Y.length : Int)) = true := decide_eq_true (by omega)
        rw [eqd_step h5 (by omega)] at hz
        cases hx : (X.getD i 0 == Y.getD i 0) with
        | true =>
          have hx' : (X.getD (i : Int).toNat Cel.no != Y.getD (i : Int).toNat Cel.no) = false := by
            show (!(X.getD i 0 == Y.getD i 0)) = false
            rw [hx]; rfl
          rw [hx, Bool.true_and] at hz
          have hinv : i + 1 ≤ X.length ∧ (X.drop (i + 1) == Y.drop (i + 1)) = (X == Y) := ⟨h5, hz⟩
          clear hz hx
          (repeat (first | refine gq_KBT ?_ | (refine ga_KBT ?_; intro _q ⟨_he, _hq⟩) | refine gd_KBT ?_))
          exact ⟨i + 1, hinv, ⟨by rfl, (by repeat (first | exact trivial | refine ⟨by rfl, ?_⟩ | refine ⟨vI_of (by rfl) (by omega), ?_⟩)), (by repeat (first | exact trivial | refine ⟨by rfl, ?_⟩ | refine ⟨vI_of (by rfl) (by omega), ?_⟩))⟩, (by first | omega | (dsimp only; omega))⟩
        | false =>
          have hx' : (X.getD (i : Int).toNat Cel.no != Y.getD (i : Int).toNat Cel.no) = true := by
            show (!(X.getD i 0 == Y.getD i 0)) = true
            rw [hx]; rfl
          rw [hx, Bool.false_and] at hz
          rw [← hz]
          clear hz hx
          (repeat (first | refine gq_KBT ?_ | (refine ga_KBT ?_; intro _q ⟨_he, _hq⟩) | refine gd_KBT ?_))
          ((try refine aw_ret ?_); refine ret_auto2 (by rfl) (by rfl) (by rfl) (by repeat (first | exact trivial | refine ⟨by first | rfl | omega, ?_⟩)) ?_ (by repeat (first | exact trivial | refine ⟨by rfl, by rfl, ?_⟩)) (by repeat (first | exact trivial | refine ⟨by rfl, by rfl, ?_⟩)); try rfl)
      · have hd : decide ((i : Int) < (X.length : Int)) = false := decide_eq_false (by omega)
        rw [List.drop_of_length_le h5, List.drop_of_length_le (by omega)] at hz
        rw [← hz]
        clear hz
        (repeat (first | refine gq_KBT ?_ | (refine ga_KBT ?_; intro _q ⟨_he, _hq⟩) | refine gd_KBT ?_))
        ((try refine aw_ret ?_); refine ret_auto2 (by rfl) (by rfl) (by rfl) (by repeat (first | exact trivial | refine ⟨by first | rfl | omega, ?_⟩)) ?_ (by repeat (first | exact trivial | refine ⟨by rfl, by rfl, ?_⟩)) (by repeat (first | exact trivial | refine ⟨by rfl, by rfl, ?_⟩)); try rfl)
theorem beq_commL (X Y : List Int) : (X == Y) = (Y == X) := by
  rw [Bool.eq_iff_iff, beq_iff_eq, beq_iff_eq]; exact ⟨Eq.symm, Eq.symm⟩
theorem smB_comm (n : Int) (a b : List Gt) : smB n b a = smB n a b := by
  unfold smB
  rw [beq_commL (tabN b _), ← Bool.and_assoc, Bool.and_comm (cokB n b), Bool.and_assoc]
theorem smB_self (n : Int) (a : List Gt) : smB n a a = cokB n a := by
  unfold smB
  rw [beq_self_eq_true, Bool.and_true, Bool.and_self]
theorem smB_back {n : Int} {a b : List Gt} (h : smB n a b = true) : smB n a.reverse b.reverse = true := by
  unfold smB at h ⊢
  rw [Bool.and_eq_true, Bool.and_eq_true, beq_iff_eq] at h
  obtain ⟨h1, h2, h3⟩ := h
  obtain ⟨hn, hl, ha⟩ := cokB_t h1
  obtain ⟨_, hl2, hb⟩ := cokB_t h2
  have har : a.reverse.all (gok n) = true := by rw [List.all_reverse]; exact ha
  have hbr : b.reverse.all (gok n) = true := by rw [List.all_reverse]; exact hb
  rw [cokB_mkM hn (by rw [List.length_reverse]; omega) har, cokB_mkM hn (by rw [List.length_reverse]; omega) hbr, Bool.true_and, Bool.true_and, beq_iff_eq]
  have hN := two_n n
  obtain ⟨N, hNe⟩ : ∃ N : Nat, 2 ^ n.toNat = N := ⟨_, rfl⟩
  rw [hNe] at h3 hN ⊢
  have hN2 : (2 : Int) ^ n.toNat = (N : Int) := by rw [← hN, Int.one_mul]
  have heq : ∀ i : Nat, i < N → cr a (i : Int) = cr b (i : Int) := fun i hi => by rw [← tabN_get a N i hi, ← tabN_get b N i hi, h3]
  refine tabN_ext fun i hi => ?_
  have hv := cr_lt har (w := (i : Int)) (by rw [hN2]; omega)
  rw [hN2] at hv
  have h4 := cr_back har (w := (i : Int)) (by rw [hN2]; omega)
  rw [List.reverse_reverse] at h4
  obtain ⟨v, hve⟩ : ∃ v : Nat, cr a.reverse (i : Int) = (v : Int) := ⟨(cr a.reverse (i : Int)).toNat, by omega⟩
  rw [hve] at h4 hv ⊢
  rw [heq v (by omega)] at h4
  have h5 := cr_back hb (w := (v : Int)) (by rw [hN2]; omega)
  rw [h4] at h5
  exact h5.symm
set_option maxHeartbeats 4000000 in
theorem k_lawSC (l : List UInt8) : Kon Try.prog 8 [roA l] [] (vB true) [] [] := by
  rcases Nat.lt_or_ge 1048576 l.length with h0 | h0
  · have hd : decide ((l.length : Int) > 1048576) = true := decide_eq_true (by omega)
    (refine kon_mk T0ok (fn := Try.f8) (c := Try.f8.body.get rfl) Try.func8 rfl (by rfl) (by rfl) (by rfl) ?_; intro hfit hfe)
    (repeat (first | refine gq_KBT ?_ | (refine ga_KBT ?_; intro _q ⟨_he, _hq⟩)))
    ((try refine aw_ret ?_); refine ret_auto2 (by rfl) (by rfl) (by rfl) (by repeat (first | exact trivial | refine ⟨by first | rfl | omega, ?_⟩)) ?_ (by repeat (first | exact trivial | refine ⟨by rfl, by rfl, ?_⟩)) (by repeat (first | exact trivial | refine ⟨by rfl, by rfl, ?_⟩)); try rfl)
  have hd : decide ((l.length : Int) > 1048576) = false := decide_eq_false (by omega)
  obtain ⟨L, a, b, hL, hal, hbl, hD⟩ := ex_dSame l (by omega)
  have hI := k_smI L a b (by omega) (by omega)
  have hS := k_smS L a b (by omega) (by omega) hL
  have hBA := k_smI L b a (by omega) (by omega)
  have hAA := k_smI L a a (by omega) (by omega)
  have hV := k_cv L a (by omega)
  rw [smB_comm] at hBA
  rw [smB_self] at hAA
  cases hs : smB L a b with
  | false =>
    rw [hs] at hI hS hBA
    cases hc : cokB L a with
    | false =>
      rw [hc] at hAA hV
      (refine kon_mk T0ok (fn := Try.f8) (c := Try.f8.body.get rfl) Try.func8 rfl (by rfl) (by rfl) (by rfl) ?_; intro hfit hfe)
      (repeat (first | refine gq_KBT ?_ | (refine ga_KBT ?_; intro _q ⟨_he, _hq⟩)))
      (repeat (first | refine gq_KBT ?_ | (refine ga_KBT ?_; intro _q ⟨_he, _hq⟩) | refine gd_KBT ?_))
      ((try refine aw_ret ?_); refine ret_auto2 (by rfl) (by rfl) (by rfl) (by repeat (first | exact trivial | refine ⟨by first | rfl | omega, ?_⟩)) ?_ (by repeat (first | exact trivial | refine ⟨by rfl, by rfl, ?_⟩)) (by repeat (first | exact trivial | refine ⟨by rfl, by rfl, ?_⟩)); try rfl)
    | true =>
      rw [hc] at hAA hV
      (refine kon_mk T0ok (fn := Try.f8) (c := Try.f8.body.get rfl) Try.func8 rfl (by rfl) (by rfl) (by rfl) ?_; intro hfit hfe)
      (repeat (first | refine gq_KBT ?_ | (refine ga_KBT ?_; intro _q ⟨_he, _hq⟩)))
      (repeat (first | refine gq_KBT ?_ | (refine ga_KBT ?_; intro _q ⟨_he, _hq⟩) | refine gd_KBT ?_))
      ((try refine aw_ret ?_); refine ret_auto2 (by rfl) (by rfl) (by rfl) (by repeat (first | exact trivial | refine ⟨by first | rfl | omega, ?_⟩)) ?_ (by repeat (first | exact trivial | refine ⟨by rfl, by rfl, ?_⟩)) (by repeat (first | exact trivial | refine ⟨by rfl, by rfl, ?_⟩)); try rfl)
  | true =>
    have hR := k_smI L a.reverse b.reverse (by rw [List.length_reverse]; omega) (by rw [List.length_reverse]; omega)
    rw [smB_back hs] at hR
    have hs' := hs
    unfold smB at hs'
    rw [Bool.and_eq_true, Bool.and_eq_true] at hs'
    rw [hs] at hI hS hBA
    have hc := hs'.1
    have hBk := k_back L a (by omega) hs'.1
    have hBk2 := k_back L b (by omega) hs'.2.1
    rw [hc] at hAA hV
    (refine kon_mk T0ok (fn := Try.f8) (c := Try.f8.body.get rfl) Try.func8 rfl (by rfl) (by rfl) (by rfl) ?_; intro hfit hfe)
    (repeat (first | refine gq_KBT ?_ | (refine ga_KBT ?_; intro _q ⟨_he, _hq⟩)))
    (repeat (first | refine gq_KBT ?_ | (refine ga_KBT ?_; intro _q ⟨_he, _hq⟩) | refine gd_KBT ?_))
    ((try refine aw_ret ?_); refine ret_auto2 (by rfl) (by rfl) (by rfl) (by repeat (first | exact trivial | refine ⟨by first | rfl | omega, ?_⟩)) ?_ (by repeat (first | exact trivial | refine ⟨by rfl, by rfl, ?_⟩)) (by repeat (first | exact trivial | refine ⟨by rfl, by rfl, ?_⟩)); try rfl)
end Go.Proofs.Ytgifhhefcmmdfaa
