/- KGX, KGV, KGY, PJ, EQ, KGR, PK, KCB, KCC, KBP, KME, KGK, KGL, KEA, ED, KEB, DM: laid into one text. -/
import Derived.Test.YtgphlcdinejmdaaGreatDoorQVE
import Derived.Test.YtgphlcdinejmdaaGreatDoorQVF
import Derived.Test.YtgphlcdinejmdaaGreatDoorQVG
import Derived.Test.YtgphlcdinejmdaaGreatDoorQVH
import Derived.ChangeKeysEq

/- Numbers sorted: one, and two. -/
namespace Go.Proofs.YtgphlcdinejmdaaGreatDoor
set_option linter.unusedVariables false
set_option linter.unusedSimpArgs false
set_option maxRecDepth 20000
open Go.RowKit
attribute [local irreducible] runA runX AW

end Go.Proofs.YtgphlcdinejmdaaGreatDoor

/- The reference's Changes and Apart. -/
namespace Go.Proofs.YtgphlcdinejmdaaGreatDoor
set_option linter.unusedVariables false
set_option linter.unusedSimpArgs false
set_option maxRecDepth 20000
open Go.RowKit
attribute [local irreducible] runA runX AW
theorem gq_KGV {H G : Prop} (k : H) (h : Hid H → G := by (intro hh; (first | (first | ((first | refine r_none ?_ | refine r_gt (by rfl) (by rfl) (by first | rfl | assumption | omega | (simp only [*, Bool.not_false, Bool.not_true]; first | done | fail) | (simp [*]; first | done | fail)) (by rfl) ?_ | refine r_gf (by rfl) (by rfl) (by first | rfl | assumption | omega | (simp only [*, Bool.not_false, Bool.not_true]; first | done | fail) | (simp [*]; first | done | fail)) (by rfl) ?_); (first | fail | ((first | (refine z_op (by rfl) ?_; first | refine z_ok ?_ ?_ | refine z_ex ?_ (by first | exact ft_raw rfl rfl | ((first | refine ft_rp rfl rfl rfl ?_ | refine ft_row rfl rfl rfl ?_ | refine ft_rpF rfl rfl rfl ?_ | refine ft_rowF rfl rfl rfl ?_ | refine up_row rfl rfl ?_ | refine up_rowF rfl rfl rfl ?_ | refine ct_0 rfl ?_ | refine ct_r rfl rfl ?_ | refine ct_c rfl rfl rfl ?_ | refine cu_all rfl ?_ | refine cu_to rfl ?_ | refine cu_from rfl ?_ | refine cu_p rfl ?_ | fail); (first | omega | (simp only [List.length_append, List.length_replicate, List.length_cons, List.length_nil, List.length_set, List.length_take, List.length_drop, true_and]; omega))) | exact up_raw rfl | exact pk_t (by first | rfl | assumption | omega | (simp only [*, Bool.not_false, Bool.not_true]; first | done | fail) | (simp [*]; first | done | fail)) rfl | exact pk_f (by first | rfl | assumption | omega | (simp only [*, Bool.not_false, Bool.not_true]; first | done | fail) | (simp [*]; first | done | fail)) rfl | exact rw_c Int rfl | exact rw_raw | exact pu_cv (fun w => rfl) (by omega) | exact pu_of (fun w => rfl) rfl | exact be_of (fun w => rfl) | exact nc_of (fun _ _ _ _ => rfl) rfl | exact bu_of (fun w => rfl) rfl | fail) ?_) | ((first | refine q_callE wsT wsZ (by rfl) ?_ | refine q_callVE wsT (by rfl) (by rfl) ?_); refine ⟨_, _, _, (by first | assumption | exact k_gvS _ _ (by omega) | exact k_linesS _ | exact k_has _ _ (by omega)), _, by rfl, ?_, ?_⟩)); focus (first | exact trivial | fail | exact rfl | (first | omega | (simp only [List.length_append, List.length_replicate, List.length_cons, List.length_nil, List.length_set, List.length_take, List.length_drop, true_and]; omega)) | exact cvB (fun w => rfl) | ((repeat' (first | exact rfl | exact cV_len _ | exact cV_ln rfl (by omega) | exact Cel.pos | omega | exact trivial | refine And.intro ?_ ?_)); done) | (simp [*]; done) | (simp; omega))) | fail)) | refine r_nt (by rfl) (by rfl) (by first | rfl | assumption | omega | (simp only [*, Bool.not_false, Bool.not_true]; first | done | fail) | (simp [*]; first | done | fail)) (by rfl) ?_ | refine r_nf (by rfl) (by rfl) (by first | rfl | assumption | omega | (simp only [*, Bool.not_false, Bool.not_true]; first | done | fail) | (simp [*]; first | done | fail)) (by rfl) ?_ | refine r_gu (by rfl) (by rfl) (by rfl) ?_ | refine r_nil ?_) | (first | refine aw_seq ?_ | refine aw_ct (by rfl) (by first | rfl | assumption | omega | (simp only [*, Bool.not_false, Bool.not_true]; first | done | fail) | (simp [*]; first | done | fail)) ?_ | refine aw_cf (by rfl) (by first | rfl | assumption | omega | (simp only [*, Bool.not_false, Bool.not_true]; first | done | fail) | (simp [*]; first | done | fail)) ?_ | refine aw_block ?_ | refine aw_region T0ok cfU_ok (by rfl) ?_ | refine aw_skip ?_ | refine aw_exit ?_ | refine ra_step ?_)); (repeat (first | (first | ((first | refine r_none ?_ | refine r_gt (by rfl) (by rfl) (by first | rfl | assumption | omega | (simp only [*, Bool.not_false, Bool.not_true]; first | done | fail) | (simp [*]; first | done | fail)) (by rfl) ?_ | refine r_gf (by rfl) (by rfl) (by first | rfl | assumption | omega | (simp only [*, Bool.not_false, Bool.not_true]; first | done | fail) | (simp [*]; first | done | fail)) (by rfl) ?_); (first | fail | ((first | (refine z_op (by rfl) ?_; first | refine z_ok ?_ ?_ | refine z_ex ?_ (by first | exact ft_raw rfl rfl | ((first | refine ft_rp rfl rfl rfl ?_ | refine ft_row rfl rfl rfl ?_ | refine ft_rpF rfl rfl rfl ?_ | refine ft_rowF rfl rfl rfl ?_ | refine up_row rfl rfl ?_ | refine up_rowF rfl rfl rfl ?_ | refine ct_0 rfl ?_ | refine ct_r rfl rfl ?_ | refine ct_c rfl rfl rfl ?_ | refine cu_all rfl ?_ | refine cu_to rfl ?_ | refine cu_from rfl ?_ | refine cu_p rfl ?_ | fail); (first | omega | (simp only [List.length_append, List.length_replicate, List.length_cons, List.length_nil, List.length_set, List.length_take, List.length_drop, true_and]; omega))) | exact up_raw rfl | exact pk_t (by first | rfl | assumption | omega | (simp only [*, Bool.not_false, Bool.not_true]; first | done | fail) | (simp [*]; first | done | fail)) rfl | exact pk_f (by first | rfl | assumption | omega | (simp only [*, Bool.not_false, Bool.not_true]; first | done | fail) | (simp [*]; first | done | fail)) rfl | exact rw_c Int rfl | exact rw_raw | exact pu_cv (fun w => rfl) (by omega) | exact pu_of (fun w => rfl) rfl | exact be_of (fun w => rfl) | exact nc_of (fun _ _ _ _ => rfl) rfl | exact bu_of (fun w => rfl) rfl | fail) ?_) | ((first | refine q_callE wsT wsZ (by rfl) ?_ | refine q_callVE wsT (by rfl) (by rfl) ?_); refine ⟨_, _, _, (by first | assumption | exact k_gvS _ _ (by omega) | exact k_linesS _ | exact k_has _ _ (by omega)), _, by rfl, ?_, ?_⟩)); focus (first | exact trivial | fail | exact rfl | (first | omega | (simp only [List.length_append, List.length_replicate, List.length_cons, List.length_nil, List.length_set, List.length_take, List.length_drop, true_and]; omega)) | exact cvB (fun w => rfl) | ((repeat' (first | exact rfl | exact cV_len _ | exact cV_ln rfl (by omega) | exact Cel.pos | omega | exact trivial | refine And.intro ?_ ?_)); done) | (simp [*]; done) | (simp; omega))) | fail)) | refine r_nt (by rfl) (by rfl) (by first | rfl | assumption | omega | (simp only [*, Bool.not_false, Bool.not_true]; first | done | fail) | (simp [*]; first | done | fail)) (by rfl) ?_ | refine r_nf (by rfl) (by rfl) (by first | rfl | assumption | omega | (simp only [*, Bool.not_false, Bool.not_true]; first | done | fail) | (simp [*]; first | done | fail)) (by rfl) ?_ | refine r_gu (by rfl) (by rfl) (by rfl) ?_ | refine r_nil ?_) | (first | refine aw_seq ?_ | refine aw_ct (by rfl) (by first | rfl | assumption | omega | (simp only [*, Bool.not_false, Bool.not_true]; first | done | fail) | (simp [*]; first | done | fail)) ?_ | refine aw_cf (by rfl) (by first | rfl | assumption | omega | (simp only [*, Bool.not_false, Bool.not_true]; first | done | fail) | (simp [*]; first | done | fail)) ?_ | refine aw_block ?_ | refine aw_region T0ok cfU_ok (by rfl) ?_ | refine aw_skip ?_ | refine aw_exit ?_ | refine ra_step ?_))); exact hh.out)) : G := h ⟨k⟩
theorem ga_KGV {H G : Prop} (k : H) (h : Hid H → G := by (intro hh; (first | refine r_none ?_ | refine r_gt (by rfl) (by rfl) (by first | rfl | assumption | omega | (simp only [*, Bool.not_false, Bool.not_true]; first | done | fail) | (simp [*]; first | done | fail)) (by rfl) ?_ | refine r_gf (by rfl) (by rfl) (by first | rfl | assumption | omega | (simp only [*, Bool.not_false, Bool.not_true]; first | done | fail) | (simp [*]; first | done | fail)) (by rfl) ?_); refine z_op (by rfl) ?_; refine z_al ?_ hh.out; focus (first | exact trivial | fail | exact rfl | (first | omega | (simp only [List.length_append, List.length_replicate, List.length_cons, List.length_nil, List.length_set, List.length_take, List.length_drop, true_and]; omega)) | exact cvB (fun w => rfl) | ((repeat' (first | exact rfl | exact cV_len _ | exact cV_ln rfl (by omega) | exact Cel.pos | omega | exact trivial | refine And.intro ?_ ?_)); done) | (simp [*]; done) | (simp; omega)))) : G := h ⟨k⟩
theorem gs_KGV {H G : Prop} (k : H) (h : Hid H → G := by (intro hh; (first | ((first | refine r_none ?_ | refine r_gt (by rfl) (by rfl) (by first | rfl | assumption | omega | (simp only [*, Bool.not_false, Bool.not_true]; first | done | fail) | (simp [*]; first | done | fail)) (by rfl) ?_ | refine r_gf (by rfl) (by rfl) (by first | rfl | assumption | omega | (simp only [*, Bool.not_false, Bool.not_true]; first | done | fail) | (simp [*]; first | done | fail)) (by rfl) ?_); (first | fail | ((first | (refine z_op (by rfl) ?_; first | refine z_ok ?_ ?_ | refine z_ex ?_ (by first | exact ft_raw rfl rfl | ((first | refine ft_rp rfl rfl rfl ?_ | refine ft_row rfl rfl rfl ?_ | refine ft_rpF rfl rfl rfl ?_ | refine ft_rowF rfl rfl rfl ?_ | refine up_row rfl rfl ?_ | refine up_rowF rfl rfl rfl ?_ | refine ct_0 rfl ?_ | refine ct_r rfl rfl ?_ | refine ct_c rfl rfl rfl ?_ | refine cu_all rfl ?_ | refine cu_to rfl ?_ | refine cu_from rfl ?_ | refine cu_p rfl ?_ | fail); (first | omega | (simp only [List.length_append, List.length_replicate, List.length_cons, List.length_nil, List.length_set, List.length_take, List.length_drop, true_and]; omega))) | exact up_raw rfl | exact pk_t (by first | rfl | assumption | omega | (simp only [*, Bool.not_false, Bool.not_true]; first | done | fail) | (simp [*]; first | done | fail)) rfl | exact pk_f (by first | rfl | assumption | omega | (simp only [*, Bool.not_false, Bool.not_true]; first | done | fail) | (simp [*]; first | done | fail)) rfl | exact rw_c Int rfl | exact rw_raw | exact pu_cv (fun w => rfl) (by omega) | exact pu_of (fun w => rfl) rfl | exact be_of (fun w => rfl) | exact nc_of (fun _ _ _ _ => rfl) rfl | exact bu_of (fun w => rfl) rfl | fail) ?_) | ((first | refine q_callE wsT wsZ (by rfl) ?_ | refine q_callVE wsT (by rfl) (by rfl) ?_); refine ⟨_, _, _, (by first | assumption | exact k_gvS _ _ (by omega) | exact k_linesS _ | exact k_has _ _ (by omega)), _, by rfl, ?_, ?_⟩)); focus (first | exact trivial | fail | exact rfl | (first | omega | (simp only [List.length_append, List.length_replicate, List.length_cons, List.length_nil, List.length_set, List.length_take, List.length_drop, true_and]; omega)) | exact cvB (fun w => rfl) | ((repeat' (first | exact rfl | exact cV_len _ | exact cV_ln rfl (by omega) | exact Cel.pos | omega | exact trivial | refine And.intro ?_ ?_)); done) | (simp [*]; done) | (simp; omega))) | fail)) | refine r_nt (by rfl) (by rfl) (by first | rfl | assumption | omega | (simp only [*, Bool.not_false, Bool.not_true]; first | done | fail) | (simp [*]; first | done | fail)) (by rfl) ?_ | refine r_nf (by rfl) (by rfl) (by first | rfl | assumption | omega | (simp only [*, Bool.not_false, Bool.not_true]; first | done | fail) | (simp [*]; first | done | fail)) (by rfl) ?_ | refine r_gu (by rfl) (by rfl) (by rfl) ?_ | refine r_nil ?_); (repeat (first | ((first | refine r_none ?_ | refine r_gt (by rfl) (by rfl) (by first | rfl | assumption | omega | (simp only [*, Bool.not_false, Bool.not_true]; first | done | fail) | (simp [*]; first | done | fail)) (by rfl) ?_ | refine r_gf (by rfl) (by rfl) (by first | rfl | assumption | omega | (simp only [*, Bool.not_false, Bool.not_true]; first | done | fail) | (simp [*]; first | done | fail)) (by rfl) ?_); (first | fail | ((first | (refine z_op (by rfl) ?_; first | refine z_ok ?_ ?_ | refine z_ex ?_ (by first | exact ft_raw rfl rfl | ((first | refine ft_rp rfl rfl rfl ?_ | refine ft_row rfl rfl rfl ?_ | refine ft_rpF rfl rfl rfl ?_ | refine ft_rowF rfl rfl rfl ?_ | refine up_row rfl rfl ?_ | refine up_rowF rfl rfl rfl ?_ | refine ct_0 rfl ?_ | refine ct_r rfl rfl ?_ | refine ct_c rfl rfl rfl ?_ | refine cu_all rfl ?_ | refine cu_to rfl ?_ | refine cu_from rfl ?_ | refine cu_p rfl ?_ | fail); (first | omega | (simp only [List.length_append, List.length_replicate, List.length_cons, List.length_nil, List.length_set, List.length_take, List.length_drop, true_and]; omega))) | exact up_raw rfl | exact pk_t (by first | rfl | assumption | omega | (simp only [*, Bool.not_false, Bool.not_true]; first | done | fail) | (simp [*]; first | done | fail)) rfl | exact pk_f (by first | rfl | assumption | omega | (simp only [*, Bool.not_false, Bool.not_true]; first | done | fail) | (simp [*]; first | done | fail)) rfl | exact rw_c Int rfl | exact rw_raw | exact pu_cv (fun w => rfl) (by omega) | exact pu_of (fun w => rfl) rfl | exact be_of (fun w => rfl) | exact nc_of (fun _ _ _ _ => rfl) rfl | exact bu_of (fun w => rfl) rfl | fail) ?_) | ((first | refine q_callE wsT wsZ (by rfl) ?_ | refine q_callVE wsT (by rfl) (by rfl) ?_); refine ⟨_, _, _, (by first | assumption | exact k_gvS _ _ (by omega) | exact k_linesS _ | exact k_has _ _ (by omega)), _, by rfl, ?_, ?_⟩)); focus (first | exact trivial | fail | exact rfl | (first | omega | (simp only [List.length_append, List.length_replicate, List.length_cons, List.length_nil, List.length_set, List.length_take, List.length_drop, true_and]; omega)) | exact cvB (fun w => rfl) | ((repeat' (first | exact rfl | exact cV_len _ | exact cV_ln rfl (by omega) | exact Cel.pos | omega | exact trivial | refine And.intro ?_ ?_)); done) | (simp [*]; done) | (simp; omega))) | fail)) | refine r_nt (by rfl) (by rfl) (by first | rfl | assumption | omega | (simp only [*, Bool.not_false, Bool.not_true]; first | done | fail) | (simp [*]; first | done | fail)) (by rfl) ?_ | refine r_nf (by rfl) (by rfl) (by first | rfl | assumption | omega | (simp only [*, Bool.not_false, Bool.not_true]; first | done | fail) | (simp [*]; first | done | fail)) (by rfl) ?_ | refine r_gu (by rfl) (by rfl) (by rfl) ?_ | refine r_nil ?_)); exact hh.out)) : G := h ⟨k⟩
theorem gc_KGV {H G : Prop} (k : H) (h : Hid H → G := by (intro hh; (first | refine aw_seq ?_ | refine aw_ct (by rfl) (by first | rfl | assumption | omega | (simp only [*, Bool.not_false, Bool.not_true]; first | done | fail) | (simp [*]; first | done | fail)) ?_ | refine aw_cf (by rfl) (by first | rfl | assumption | omega | (simp only [*, Bool.not_false, Bool.not_true]; first | done | fail) | (simp [*]; first | done | fail)) ?_ | refine aw_block ?_ | refine aw_region T0ok cfU_ok (by rfl) ?_ | refine aw_skip ?_ | refine aw_exit ?_ | refine ra_step ?_); (repeat (first | refine aw_seq ?_ | refine aw_ct (by rfl) (by first | rfl | assumption | omega | (simp only [*, Bool.not_false, Bool.not_true]; first | done | fail) | (simp [*]; first | done | fail)) ?_ | refine aw_cf (by rfl) (by first | rfl | assumption | omega | (simp only [*, Bool.not_false, Bool.not_true]; first | done | fail) | (simp [*]; first | done | fail)) ?_ | refine aw_block ?_ | refine aw_region T0ok cfU_ok (by rfl) ?_ | refine aw_skip ?_ | refine aw_exit ?_ | refine ra_step ?_)); exact hh.out)) : G := h ⟨k⟩
theorem gd_KGV {H G : Prop} (k : H) (h : Hid H → G := by (intro hh; (refine aw_draw mixed T0ok cfU_ok [] (by rfl) (by kernel_rfl) ?_); exact hh.out)) : G := h ⟨k⟩
def mn (a b : Int) : Int := if b < a then b else a
def mx (a b : Int) : Int := if b > a then b else a
/-- The lines that a gate changes. -/
def chgL (g : Gt) : List Int := if g.k = 0 then [g.a] else if g.k = 1 then [g.b] else if g.k = 2 then [g.c] else if g.k = 3 then [mn g.a g.b, mx g.a g.b] else [mn g.b g.c, mx g.b g.c]
def chM (n : Int) (g : Gt) : List Int := if gok n g = true then chgL g else []
theorem chgL_len (g : Gt) : (chgL g).length ≤ 2 := by unfold chgL; split <;> (try split) <;> (try split) <;> (try split) <;> simp
theorem chM_len (n : Int) (g : Gt) : (chM n g).length ≤ 2 := by unfold chM; split; exact chgL_len g; simp
theorem k_chS (n : Int) (g : Gt) (hr : -9223372036854775808 ≤ n ∧ n ≤ 9223372036854775807) : Kon Tryz.prog 114 [vI n, gV g] [] (slA 0 0 (chM n g)) [iRow (chM n g)] [] := by
  have hK := k_gvS n g hr
  unfold chM
  cases h : gok n g with
  | false =>
    rw [h] at hK
    rw [if_neg (by decide)]
    (refine kon_mk T0ok (fn := Tryz.f114) (c := Tryz.f114.body.get rfl) Tryz.func114 rfl (by rfl) (by rfl) (by rfl) ?_; intro hfit hfe)
    (repeat (first | refine gq_KGV ?_ | (refine ga_KGV ?_; intro _q ⟨_he, _hq⟩)))
    ((try refine aw_ret ?_); refine ret_auto2 (by rfl) (by rfl) (by rfl) (by repeat (first | exact trivial | refine ⟨by first | rfl | omega, ?_⟩)) ?_ (by repeat (first | exact trivial | refine ⟨by rfl, by rfl, ?_⟩)) (by repeat (first | exact trivial | refine ⟨by rfl, by rfl, ?_⟩)); try rfl)
  | true =>
    rw [h] at hK
    rw [if_pos rfl]
    have hb := (gok_bd h).2.1
    obtain ⟨k, a, b, c⟩ := g
    dsimp only at hb hK ⊢
    have h' : k = 0 ∨ k = 1 ∨ k = 2 ∨ k = 3 ∨ k = 4 := by omega
    rcases h' with rfl | rfl | rfl | rfl | rfl
    all_goals
      (refine kon_mk T0ok (fn := Tryz.f114) (c := Tryz.f114.body.get rfl) Tryz.func114 rfl (by rfl) (by rfl) (by rfl) ?_; intro hfit hfe)
      (repeat (first | refine gq_KGV ?_ | (refine ga_KGV ?_; intro _q ⟨_he, _hq⟩)))
      ((try refine aw_ret ?_); refine ret_auto2 (by rfl) (by rfl) (by rfl) (by repeat (first | exact trivial | refine ⟨by first | rfl | omega, ?_⟩)) ?_ (by repeat (first | exact trivial | refine ⟨by rfl, by rfl, ?_⟩)) (by repeat (first | exact trivial | refine ⟨by rfl, by rfl, ?_⟩)); try rfl)
def anyB (l m : List Int) : Bool := l.any (fun x => hasB m x)
theorem any_drop {l m : List Int} {i : Nat} (hi : i < l.length) : anyB (l.drop i) m = (hasB m (l.getD i 0) || anyB (l.drop (i + 1)) m) := by
  have e : l.getD i 0 = l[i] := by simp [List.getD_eq_getElem?_getD, hi]
  rw [List.drop_eq_getElem_cons hi, e]; rfl
def touB (g h : Gt) : Bool := anyB (chgL g) (lns h)
def apaB (g h : Gt) : Bool := !(touB g h) && !(touB h g)
def apM (n : Int) (a b : Gt) : Bool := gok n a && (gok n b && apaB a b)
theorem lns_len (g : Gt) : (lns g).length ≤ 3 := by unfold lns; split <;> (try split) <;> (try split) <;> simp
theorem apM_eq (n : Int) (a b : Gt) : (!(anyB (chM n a) (lns b)) && (!(anyB (chM n b) (lns a)) && (gok n a && gok n b))) = apM n a b := by
  unfold apM apaB touB chM
  cases gok n a <;> cases gok n b <;> simp
set_option maxHeartbeats 2000000 in
theorem k_apS (n : Int) (a b : Gt) (hr : -9223372036854775808 ≤ n ∧ n ≤ 9223372036854775807) : Kon Tryz.prog 100 [vI n, gV a, gV b] [] (vB (apM n a b)) [] [] := by
  rw [← apM_eq]
  have hX := k_chS n a hr
  have hY := k_chS n b hr
  have lX := chM_len n a
  have lY := chM_len n b
  generalize chM n a = X at hX lX ⊢
  generalize chM n b = Y at hY lY ⊢
  have la := lns_len a
  have lb := lns_len b
  have hA := k_linesS a
  have hB := k_linesS b
  generalize lns a = A at hA la ⊢
  generalize lns b = B at hB lb ⊢
  have hHA : ∀ x, Kon Tryz.prog 69 [roA A, vI x] [] (vB (hasB A x)) [] [] := fun x => k_has A x (by omega)
  have hHB : ∀ x, Kon Tryz.prog 69 [roA B, vI x] [] (vB (hasB B x)) [] [] := fun x => k_has B x (by omega)
  (refine kon_mk T0ok (fn := Tryz.f100) (c := Tryz.f100.body.get rfl) Tryz.func100 rfl (by rfl) (by rfl) (by rfl) ?_; intro hfit hfe)
  (repeat refine gc_KGV ?_)
  (repeat (first | refine gs_KGV ?_ | (refine ga_KGV ?_; intro _q ⟨_he, _hq⟩)))
  (repeat refine gc_KGV ?_)
  (repeat (first | refine gs_KGV ?_ | (refine ga_KGV ?_; intro _q ⟨_he, _hq⟩)))
  (refine aw_freeze 208 (by rfl) (by rfl) ?_; refine aw_slot 7 1 (by rfl) (by rfl) (by first | exact trivial | omega | exact cvB (fun w => rfl) | ((repeat (any_goals (first | exact rfl | exact cV_len _ | exact cV_ln rfl (by omega) | exact Cel.pos | omega | exact trivial | refine And.intro ?_ ?_))); first | done | fail) | (simp [*]; first | done | fail)) ?_)
  (repeat refine gc_KGV ?_)
  (repeat (first | refine gs_KGV ?_ | (refine ga_KGV ?_; intro _q ⟨_he, _hq⟩)))
  (refine aw_freeze 256 (by rfl) (by rfl) ?_; refine aw_slot 8 1 (by rfl) (by rfl) (by first | exact trivial | omega | exact cvB (fun w => rfl) | ((repeat (any_goals (first | exact rfl | exact cV_len _ | exact cV_ln rfl (by omega) | exact Cel.pos | omega | exact trivial | refine And.intro ?_ ?_))); first | done | fail) | (simp [*]; first | done | fail)) ?_)
  (repeat (first | refine gq_KGV ?_ | (refine ga_KGV ?_; intro _q ⟨_he, _hq⟩)))
  (refine aw_rd [0, 4, 5, 7, 8] [64, 80] (fun i : Nat => [(9, vI i)]) (fun _ => []) (fun i => i ≤ X.length ∧ anyB (X.drop i) B = anyB X B) (fun i => X.length - i) 0 (by rfl) (by rfl) ?_ (by rfl) (by repeat (first | exact trivial | refine ⟨by rfl, ?_⟩ | refine ⟨vI_of (by rfl) (by omega), ?_⟩)) (by repeat (first | exact trivial | refine ⟨by rfl, ?_⟩ | refine ⟨vI_of (by rfl) (by omega), ?_⟩)) ?_)
  · exact ⟨Nat.zero_le _, by rw [List.drop_zero]⟩
  rintro i ⟨hi, hz⟩
  rcases Nat.lt_or_ge i X.length with h6 | h6
  · have hd : decide ((i : Int) < (X.length : Int)) = true := by simpa using h6
    rw [any_drop h6] at hz
    replace hz : (hasB B (X.getD (i : Int).toNat (Cel.no : Int)) || anyB (X.drop (i + 1)) B) = anyB X B := hz
    have hK2 := hHB (X.getD (i : Int).toNat (Cel.no : Int))
    cases hv : hasB B (X.getD (i : Int).toNat (Cel.no : Int)) with
    | true =>
      rw [hv] at hK2
      rw [hv, Bool.true_or] at hz
      rw [← hz]
      clear hz
      (repeat (first | refine gq_KGV ?_ | (refine ga_KGV ?_; intro _q ⟨_he, _hq⟩) | refine gd_KGV ?_))
      ((try refine aw_ret ?_); refine ret_auto2 (by rfl) (by rfl) (by rfl) (by repeat (first | exact trivial | refine ⟨by first | rfl | omega, ?_⟩)) ?_ (by repeat (first | exact trivial | refine ⟨by rfl, by rfl, ?_⟩)) (by repeat (first | exact trivial | refine ⟨by rfl, by rfl, ?_⟩)); try rfl)
    | false =>
      rw [hv] at hK2
      rw [hv, Bool.false_or] at hz
      have hinv : i + 1 ≤ X.length ∧ anyB (X.drop (i + 1)) B = anyB X B := ⟨h6, hz⟩
      clear hz
      (repeat (first | refine gq_KGV ?_ | (refine ga_KGV ?_; intro _q ⟨_he, _hq⟩) | refine gd_KGV ?_))
      exact ⟨i + 1, hinv, ⟨by rfl, (by repeat (first | exact trivial | refine ⟨by rfl, ?_⟩ | refine ⟨vI_of (by rfl) (by omega), ?_⟩)), (by repeat (first | exact trivial | refine ⟨by rfl, ?_⟩ | refine ⟨vI_of (by rfl) (by omega), ?_⟩))⟩, (by first | omega | (dsimp only; omega))⟩
  · have hd : decide ((i : Int) < (X.length : Int)) = false := by simp; omega
    rw [List.drop_of_length_le h6] at hz
    rw [← hz]
    clear hz
    (repeat (first | refine gq_KGV ?_ | (refine ga_KGV ?_; intro _q ⟨_he, _hq⟩)))
    (refine aw_rd [0, 4, 5, 8] [64, 80] (fun i : Nat => [(10, vI i)]) (fun _ => []) (fun i => i ≤ Y.length ∧ anyB (Y.drop i) A = anyB Y A) (fun i => Y.length - i) 0 (by rfl) (by rfl) ?_ (by rfl) (by repeat (first | exact trivial | refine ⟨by rfl, ?_⟩ | refine ⟨vI_of (by rfl) (by omega), ?_⟩)) (by repeat (first | exact trivial | refine ⟨by rfl, ?_⟩ | refine ⟨vI_of (by rfl) (by omega), ?_⟩)) ?_)
    · exact ⟨Nat.zero_le _, by rw [List.drop_zero]⟩
    rintro j ⟨hj, hz⟩
    rcases Nat.lt_or_ge j Y.length with h7 | h7
    · have hd : decide ((j : Int) < (Y.length : Int)) = true := by simpa using h7
      rw [any_drop h7] at hz
      replace hz : (hasB A (Y.getD (j : Int).toNat (Cel.no : Int)) || anyB (Y.drop (j + 1)) A) = anyB Y A := hz
      have hK2 := hHA (Y.getD (j : Int).toNat (Cel.no : Int))
      cases hv : hasB A (Y.getD (j : Int).toNat (Cel.no : Int)) with
      | true =>
        rw [hv] at hK2
        rw [hv, Bool.true_or] at hz
        rw [← hz]
        clear hz
        (repeat (first | refine gq_KGV ?_ | (refine ga_KGV ?_; intro _q ⟨_he, _hq⟩) | refine gd_KGV ?_))
        ((try refine aw_ret ?_); refine ret_auto2 (by rfl) (by rfl) (by rfl) (by repeat (first | exact trivial | refine ⟨by first | rfl | omega, ?_⟩)) ?_ (by repeat (first | exact trivial | refine ⟨by rfl, by rfl, ?_⟩)) (by repeat (first | exact trivial | refine ⟨by rfl, by rfl, ?_⟩)); try rfl)
      | false =>
        rw [hv] at hK2
        rw [hv, Bool.false_or] at hz
        have hinv : j + 1 ≤ Y.length ∧ anyB (Y.drop (j + 1)) A = anyB Y A := ⟨h7, hz⟩
        clear hz
        (repeat (first | refine gq_KGV ?_ | (refine ga_KGV ?_; intro _q ⟨_he, _hq⟩) | refine gd_KGV ?_))
        exact ⟨j + 1, hinv, ⟨by rfl, (by repeat (first | exact trivial | refine ⟨by rfl, ?_⟩ | refine ⟨vI_of (by rfl) (by omega), ?_⟩)), (by repeat (first | exact trivial | refine ⟨by rfl, ?_⟩ | refine ⟨vI_of (by rfl) (by omega), ?_⟩))⟩, (by first | omega | (dsimp only; omega))⟩
    · have hd : decide ((j : Int) < (Y.length : Int)) = false := by simp; omega
      rw [List.drop_of_length_le h7] at hz
      rw [← hz]
      clear hz
      have hGa := k_gvS n a hr
      have hGb := k_gvS n b hr
      cases h1 : gok n a <;> cases h2 : gok n b <;> rw [h1] at hGa <;> rw [h2] at hGb
      all_goals
        (repeat (first | refine gq_KGV ?_ | (refine ga_KGV ?_; intro _q ⟨_he, _hq⟩)))
        ((try refine aw_ret ?_); refine ret_auto2 (by rfl) (by rfl) (by rfl) (by repeat (first | exact trivial | refine ⟨by first | rfl | omega, ?_⟩)) ?_ (by repeat (first | exact trivial | refine ⟨by rfl, by rfl, ?_⟩)) (by repeat (first | exact trivial | refine ⟨by rfl, by rfl, ?_⟩)); try rfl)
end Go.Proofs.YtgphlcdinejmdaaGreatDoor

/- impl's Changes and Apart. -/
namespace Go.Proofs.YtgphlcdinejmdaaGreatDoor
set_option linter.unusedVariables false
set_option linter.unusedSimpArgs false
set_option maxRecDepth 20000
open Go.RowKit
attribute [local irreducible] runA runX AW
end Go.Proofs.YtgphlcdinejmdaaGreatDoor

/- Plain law: gates that are apart commute. -/
namespace Go.Proofs.YtgphlcdinejmdaaGreatDoor
set_option linter.unusedVariables false
set_option linter.unusedSimpArgs false
theorem mn_or (a b : Int) : (mn a b = a ∧ mx a b = b) ∨ (mn a b = b ∧ mx a b = a) := by
  unfold mn mx
  by_cases h : b < a
  · right; rw [if_pos h, if_neg (by omega)]; exact ⟨rfl, rfl⟩
  · left; rw [if_neg h]
    by_cases h2 : b > a
    · rw [if_pos h2]; exact ⟨rfl, rfl⟩
    · rw [if_neg h2]; exact ⟨rfl, by omega⟩
theorem mn_mem (a b x : Int) : x ∈ [mn a b, mx a b] ↔ x = a ∨ x = b := by
  rcases mn_or a b with ⟨h1, h2⟩ | ⟨h1, h2⟩ <;> rw [h1, h2] <;> simp [or_comm]
/-- What is turned is told. -/
theorem gm_told {n : Int} {g : Gt} (h : gok n g = true) {i : Nat} (hb : (gm g).testBit i = true) : ∃ x ∈ chgL g, x.toNat = i ∧ 0 ≤ x ∧ x < n := by
  obtain ⟨_, hf⟩ := gok_facts h
  rcases hf with ⟨hk, ha, _⟩ | ⟨hk | hk, ha, hb', hne, _⟩ | ⟨hk | hk, ha, hb', hne, hc, hne2, hne3⟩
  · rw [gm0 hk, two_bit] at hb
    exact ⟨g.a, by unfold chgL; rw [if_pos hk]; simp, of_decide_eq_true hb, ha⟩
  · rw [gm1 hk, two_bit] at hb
    exact ⟨g.b, by unfold chgL; rw [if_neg (by omega), if_pos hk]; simp, of_decide_eq_true hb, hb'⟩
  · rw [gm3 hk, Nat.testBit_xor, two_bit, two_bit] at hb
    have e : chgL g = [mn g.a g.b, mx g.a g.b] := by unfold chgL; rw [if_neg (by omega), if_neg (by omega), if_neg (by omega), if_pos hk]
    rw [e]
    by_cases h1 : g.a.toNat = i
    · exact ⟨g.a, (mn_mem _ _ _).2 (.inl rfl), h1, ha⟩
    · rw [decide_eq_false h1, Bool.false_xor] at hb
      exact ⟨g.b, (mn_mem _ _ _).2 (.inr rfl), of_decide_eq_true hb, hb'⟩
  · rw [gm2 hk, two_bit] at hb
    exact ⟨g.c, by unfold chgL; rw [if_neg (by omega), if_neg (by omega), if_pos hk]; simp, of_decide_eq_true hb, hc⟩
  · rw [gm4 hk, Nat.testBit_xor, two_bit, two_bit] at hb
    have e : chgL g = [mn g.b g.c, mx g.b g.c] := by unfold chgL; rw [if_neg (by omega), if_neg (by omega), if_neg (by omega), if_neg (by omega)]
    rw [e]
    by_cases h1 : g.b.toNat = i
    · exact ⟨g.b, (mn_mem _ _ _).2 (.inl rfl), h1, hb'⟩
    · rw [decide_eq_false h1, Bool.false_xor] at hb
      exact ⟨g.c, (mn_mem _ _ _).2 (.inr rfl), of_decide_eq_true hb, hc⟩
theorem lns_in {n : Int} {g : Gt} (h : gok n g = true) : ∀ x ∈ lns g, 0 ≤ x ∧ x < n := by
  obtain ⟨_, hf⟩ := gok_facts h
  intro x hx
  unfold lns at hx
  split at hx
  · simp at hx; omega
  · split at hx
    · simp at hx; omega
    · split at hx
      · simp at hx; omega
      · cases hx
theorem gc_congr {n : Int} {g : Gt} (h : gok n g = true) {w w' : Int} (he : ∀ x ∈ lns g, bt w x = bt w' x) : gc g w = gc g w' := by
  obtain ⟨_, hf⟩ := gok_facts h
  rcases hf with ⟨hk, ha, _⟩ | ⟨hk | hk, ha, hb', hne, _⟩ | ⟨hk | hk, ha, hb', hne, hc, hne2, hne3⟩
  · rw [gc0 hk, gc0 hk]
  · have e : lns g = [g.a, g.b] := by unfold lns; rw [if_neg (by omega), if_pos (by omega)]
    rw [e] at he
    rw [gc1 hk, gc1 hk, he g.a (by simp)]
  · have e : lns g = [g.a, g.b] := by unfold lns; rw [if_neg (by omega), if_pos (by omega)]
    rw [e] at he
    rw [gc3 hk, gc3 hk, he g.a (by simp), he g.b (by simp)]
  · have e : lns g = [g.a, g.b, g.c] := by unfold lns; rw [if_neg (by omega), if_neg (by omega), if_pos (by omega)]
    rw [e] at he
    rw [gc2 hk, gc2 hk, he g.a (by simp), he g.b (by simp)]
  · have e : lns g = [g.a, g.b, g.c] := by unfold lns; rw [if_neg (by omega), if_neg (by omega), if_pos (by omega)]
    rw [e] at he
    rw [gc4 hk, gc4 hk, he g.a (by simp), he g.b (by simp), he g.c (by simp)]
theorem tou_f {g h : Gt} (ht : touB g h = false) : ∀ x ∈ chgL g, ∀ y ∈ lns h, x ≠ y := by
  intro x hx y hy e
  subst e
  have : touB g h = true := by
    unfold touB anyB
    rw [List.any_eq_true]
    exact ⟨x, hx, by unfold hasB; rw [List.any_eq_true]; exact ⟨x, hy, by simp⟩⟩
  rw [this] at ht; cases ht
/-- A gate that touches no line of another one leaves what it looks at. -/
theorem gc_keep {n : Int} {g h : Gt} (hg : gok n g = true) (hh : gok n h = true) (ht : touB g h = false) (w : Int) : gc h (gr g w) = gc h w := by
  refine gc_congr hh fun y hy => ?_
  rw [gr_bt]
  have hf : (gm g).testBit y.toNat = false := by
    cases hb : (gm g).testBit y.toNat with
    | false => rfl
    | true =>
      obtain ⟨x, hx, he, h0, _⟩ := gm_told hg hb
      have hy0 := lns_in hh y hy
      exact absurd (show x = y by omega) (tou_f ht x hx y hy)
  rw [hf, Bool.and_false, Bool.xor_false]
theorem apa_t {a b : Gt} (h : apaB a b = true) : touB a b = false ∧ touB b a = false := by
  unfold apaB at h
  simp only [Bool.and_eq_true, Bool.not_eq_true'] at h
  exact h
theorem apa_comm {n : Int} {a b : Gt} (ha : gok n a = true) (hb : gok n b = true) (h : apaB a b = true) (w : Int) : gr a (gr b w) = gr b (gr a w) := by
  obtain ⟨h1, h2⟩ := apa_t h
  have e1 := gc_keep ha hb h1 w
  have e2 := gc_keep hb ha h2 w
  have e : (gr a (gr b w)).toNat = (gr b (gr a w)).toNat := by
    apply Nat.eq_of_testBit_eq
    intro i
    rw [gr_bit, gr_bit, gr_bit, gr_bit, e1, e2]
    cases gc a w <;> cases gc b w <;> cases w.toNat.testBit i <;> cases (gm a).testBit i <;> cases (gm b).testBit i <;> rfl
  have := gr_nn a (gr b w)
  have := gr_nn b (gr a w)
  omega
end Go.Proofs.YtgphlcdinejmdaaGreatDoor

/- Gates compared, deeds compared; deeds as cells. -/
namespace Go.Proofs.YtgphlcdinejmdaaGreatDoor
set_option linter.unusedVariables false
set_option linter.unusedSimpArgs false
set_option maxRecDepth 20000
open Go.RowKit
def chk4 (ti : TypeId) : List Field → Bool
  | [f, f', f'', f3] => (f.name != "_") && (f.type == ti) && (f.offset == 0) && ((f'.name != "_") && (f'.type == ti) && (f'.offset == 1)) && ((f''.name != "_") && (f''.type == ti) && (f''.offset == 2)) && ((f3.name != "_") && (f3.type == ti) && (f3.offset == 3))
  | _ => false
theorem equal_gate (k a b c k' a' b' c' : Int) (w : World) : (Op.equalIn 10000 24 (.agg #[.int .i64 k, .int .i64 a, .int .i64 b, .int .i64 c]) (.agg #[.int .i64 k', .int .i64 a', .int .i64 b', .int .i64 c'])).run Tryz.prog w = .ok (k == k' && (a == a' && (b == b' && c == c'))) w := by
  rw [run_equalIn_agg (ht := by kernel_rfl) (hp := by kernel_rfl)]
  have hc : chk4 3 (Tryz.prog.fieldsOf 24).toList = true := by kernel_rfl
  have hi : Tryz.prog.underlying 3 = some (.int .i64) := by kernel_rfl
  have hz : ∀ (xs : Array Value) (k : Nat) (v : Value) (w : World), xs[k]? = some v → (part 3 xs k).run Tryz.prog w = .ok v w := fun xs k v w h => run_part_plain w (by kernel_rfl) h
  have z0 := fun w => hz #[.int .i64 k, .int .i64 a, .int .i64 b, .int .i64 c] 0 _ w rfl
  have y0 := fun w => hz #[.int .i64 k', .int .i64 a', .int .i64 b', .int .i64 c'] 0 _ w rfl
  have z1 := fun w => hz #[.int .i64 k, .int .i64 a, .int .i64 b, .int .i64 c] 1 _ w rfl
  have y1 := fun w => hz #[.int .i64 k', .int .i64 a', .int .i64 b', .int .i64 c'] 1 _ w rfl
  have z2 := fun w => hz #[.int .i64 k, .int .i64 a, .int .i64 b, .int .i64 c] 2 _ w rfl
  have y2 := fun w => hz #[.int .i64 k', .int .i64 a', .int .i64 b', .int .i64 c'] 2 _ w rfl
  have z3 := fun w => hz #[.int .i64 k, .int .i64 a, .int .i64 b, .int .i64 c] 3 _ w rfl
  have y3 := fun w => hz #[.int .i64 k', .int .i64 a', .int .i64 b', .int .i64 c'] 3 _ w rfl
  have e : ∀ (x y : Int) w, (Op.equalIn 9999 3 (.int .i64 x) (.int .i64 y)).run Tryz.prog w = .ok (x == y) w := fun x y w => run_equalIn_int (P := Tryz.prog) w 9998 3 .i64 .i64 x y hi
  clear hz
  generalize (Tryz.prog.fieldsOf 24).toList = fs at hc ⊢
  unfold chk4 at hc
  split at hc
  · rename_i f f' f'' f3
    simp only [Bool.and_eq_true, bne_iff_ne, beq_iff_eq] at hc
    obtain ⟨⟨⟨⟨⟨h1, h2⟩, h3⟩, ⟨⟨h4, h5⟩, h6⟩⟩, ⟨⟨h7, h8⟩, h9⟩⟩, ⟨⟨g1, g2⟩, g3⟩⟩ := hc
    simp only [Op.eqFields, h1, h2, h3, h4, h5, h6, h7, h8, h9, g1, g2, g3, if_true, ne_eq, not_false_eq_true, Sem.run_bind, z0, y0, Result.andThen_ok]
    erw [e k k' w]
    cases (k == k')
    · rfl
    simp only [Result.andThen_ok, Bool.not_true, Bool.false_eq_true, if_false, Sem.run_bind, z1, y1]
    erw [e a a' w]
    cases (a == a')
    · rfl
    simp only [Result.andThen_ok, Bool.not_true, Bool.false_eq_true, if_false, Sem.run_bind, z2, y2]
    erw [e b b' w]
    cases (b == b')
    · rfl
    simp only [Result.andThen_ok, Bool.not_true, Bool.false_eq_true, if_false, Sem.run_bind, z3, y3]
    erw [e c c' w]
    cases (c == c') <;> rfl
  · cases hc
theorem eq_gate (x y : Operand) (k a b c k' a' b' c' : Int) (w : World) : (do eqGuard .eql 24 x y (.agg #[.int .i64 k, .int .i64 a, .int .i64 b, .int .i64 c]) (.agg #[.int .i64 k', .int .i64 a', .int .i64 b', .int .i64 c']); binOp .eql 24 (.agg #[.int .i64 k, .int .i64 a, .int .i64 b, .int .i64 c]) (.agg #[.int .i64 k', .int .i64 a', .int .i64 b', .int .i64 c']) : Sem Value).run Tryz.prog w = .ok (.bool (k == k' && (a == a' && (b == b' && c == c')))) w := by
  rw [Sem.run_bind, run_eqGuard_agg (hm := by kernel_rfl)]
  simp only [Result.andThen_ok]
  rw [run_eql_struct, equal_gate]; rfl
end Go.Proofs.YtgphlcdinejmdaaGreatDoor

/- Gates compared; circuits compared; Clip; what all words become; what circuits cost. -/
namespace Go.Proofs.YtgphlcdinejmdaaGreatDoor
set_option linter.unusedVariables false
set_option linter.unusedSimpArgs false
set_option maxRecDepth 20000
open Go.RowKit







attribute [local irreducible] runA runX AW
def geq (g h : Gt) : Bool := g.k == h.k && (g.a == h.a && (g.b == h.b && g.c == h.c))
theorem geq_refl (g : Gt) : geq g g = true := by simp [geq]
theorem geq_iff {g h : Gt} : geq g h = true ↔ g = h := by
  obtain ⟨k, a, b, c⟩ := g
  obtain ⟨k', a', b', c'⟩ := h
  simp [geq]




















































end Go.Proofs.YtgphlcdinejmdaaGreatDoor

/- Plain: the first useless pair. -/
namespace Go.Proofs.YtgphlcdinejmdaaGreatDoor
set_option linter.unusedVariables false
set_option linter.unusedSimpArgs false
/-- The place of the same gate behind gates that are apart. -/
def uI (g : Gt) : List Gt → Nat → Int
  | [], _ => -1
  | x :: l, k => bif geq x g then (k : Int) else bif apaB x g then uI g l (k + 1) else -1
def usl : List Gt → Nat → Int × Int
  | [], _ => (-1, -1)
  | g :: l, i => bif decide (uI g l (i + 1) ≥ 0) then ((i : Int), uI g l (i + 1)) else usl l (i + 1)
theorem uI_drop {g : Gt} {l : List Gt} {i : Nat} (hi : i < l.length) : uI g (l.drop i) i = bif geq (l.getD i Cel.no) g then (i : Int) else bif apaB (l.getD i Cel.no) g then uI g (l.drop (i + 1)) (i + 1) else -1 := by
  have e : l.getD i Cel.no = l[i] := by simp [List.getD_eq_getElem?_getD, hi]
  rw [List.drop_eq_getElem_cons hi, e]; rfl
theorem usl_drop {l : List Gt} {i : Nat} (hi : i < l.length) : usl (l.drop i) i = bif decide (uI (l.getD i Cel.no) (l.drop (i + 1)) (i + 1) ≥ 0) then ((i : Int), uI (l.getD i Cel.no) (l.drop (i + 1)) (i + 1)) else usl (l.drop (i + 1)) (i + 1) := by
  have e : l.getD i Cel.no = l[i] := by simp [List.getD_eq_getElem?_getD, hi]
  rw [List.drop_eq_getElem_cons hi, e]; rfl
/-- What a found place is. -/
theorem uI_spec {g : Gt} : ∀ (l : List Gt) (k : Nat), uI g l k = -1 ∨ ∃ j : Nat, uI g l k = ((k + j : Nat) : Int) ∧ j < l.length ∧ l.getD j Cel.no = g ∧ ∀ x ∈ l.take j, apaB x g = true
  | [], k => .inl rfl
  | x :: l, k => by
    rw [uI]
    cases h : geq x g with
    | true => exact .inr ⟨0, by simp, by simp, geq_iff.1 h, fun y hy => by cases hy⟩
    | false =>
      cases h2 : apaB x g with
      | false => exact .inl rfl
      | true =>
        rcases uI_spec l (k + 1) with h3 | ⟨j, h3, h4, h5, h6⟩
        · exact .inl h3
        · refine .inr ⟨j + 1, ?_, by simp; omega, by simpa using h5, fun y hy => ?_⟩
          · show uI g l (k + 1) = _
            rw [h3]; congr 1; omega
          · rw [List.take_succ_cons] at hy
            rcases List.mem_cons.1 hy with rfl | hy
            · exact h2
            · exact h6 y hy
theorem usl_spec : ∀ (l : List Gt) (i : Nat), usl l i = (-1, -1) ∨ ∃ a b : Nat, usl l i = (((i + a : Nat) : Int), ((i + b : Nat) : Int)) ∧ a < b ∧ b < l.length ∧ l.getD a Cel.no = l.getD b Cel.no ∧ ∀ x ∈ (l.drop (a + 1)).take (b - (a + 1)), apaB x (l.getD a Cel.no) = true
  | [], i => .inl rfl
  | g :: l, i => by
    rw [usl]
    rcases uI_spec (g := g) l (i + 1) with h | ⟨j, h1, h2, h3, h4⟩
    · rw [h]
      rcases usl_spec l (i + 1) with h5 | ⟨a, b, h5, h6, h7, h8, h9⟩
      · exact .inl h5
      · refine .inr ⟨a + 1, b + 1, ?_, by omega, by simp; omega, by simpa using h8, ?_⟩
        · show usl l (i + 1) = _
          rw [h5]; congr 2 <;> omega
        · simpa using h9
    · right
      refine ⟨0, j + 1, ?_, by omega, by simp; omega, by simpa using h3.symm, by simpa using h4⟩
      rw [h1, decide_eq_true (by omega)]
      show ((i : Int), ((i + 1 + j : Nat) : Int)) = _
      congr 2; omega
theorem cr_one (g : Gt) (l : List Gt) (w : Int) : cr (g :: l) w = cr l (gr g w) := rfl
/-- A gate goes through gates that are apart. -/
theorem cr_thru {n : Int} {g : Gt} (hg : gok n g = true) : ∀ {m : List Gt}, m.all (gok n) = true → (∀ x ∈ m, apaB x g = true) → ∀ w : Int, gr g (cr m w) = cr m (gr g w)
  | [], _, _, w => rfl
  | x :: m, hm, ha, w => by
    rw [List.all_cons, Bool.and_eq_true] at hm
    rw [cr_one, cr_one, cr_thru hg hm.2 (fun y hy => ha y (List.mem_cons_of_mem _ hy))]
    rw [apa_comm hm.1 hg (ha x (List.mem_cons_self))]
/-- Without a useless pair a circuit makes the same. -/
theorem cr_less {n : Int} {g : Gt} {p m s : List Gt} (hg : gok n g = true) (hp : p.all (gok n) = true) (hm : m.all (gok n) = true) (ha : ∀ x ∈ m, apaB x g = true) {w : Int} (hw : 0 ≤ w ∧ w < 2 ^ n.toNat) : cr (p ++ g :: m ++ g :: s) w = cr (p ++ m ++ s) w := by
  have hw2 := cr_lt hp hw
  rw [cr_append, cr_append, cr_append, cr_append, cr_one, cr_one, cr_thru hg hm ha, gr_gr hg hw2.1]
theorem split_pair {l : List Gt} {a b : Nat} (h1 : a < b) (h2 : b < l.length) : l = l.take a ++ l.getD a Cel.no :: (l.drop (a + 1)).take (b - (a + 1)) ++ l.getD b Cel.no :: l.drop (b + 1) := by
  have ea : l.getD a Cel.no = l[a] := by simp [List.getD_eq_getElem?_getD, show a < l.length by omega]
  have eb : l.getD b Cel.no = l[b] := by simp [List.getD_eq_getElem?_getD, h2]
  have e1 : l.drop a = l[a] :: l.drop (a + 1) := List.drop_eq_getElem_cons (by omega)
  have e2 : l.drop b = l[b] :: l.drop (b + 1) := List.drop_eq_getElem_cons h2
  have e3 : l.drop (a + 1) = (l.drop (a + 1)).take (b - (a + 1)) ++ l.drop b := by
    have := (List.take_append_drop (b - (a + 1)) (l.drop (a + 1))).symm
    rw [List.drop_drop, show a + 1 + (b - (a + 1)) = b by omega] at this
    exact this
  calc l = l.take a ++ l.drop a := (List.take_append_drop a l).symm
    _ = _ := by
      rw [e1, ea, eb, List.append_assoc, List.cons_append, ← e2]
      congr 2
end Go.Proofs.YtgphlcdinejmdaaGreatDoor

/- The first useless pair, both sides. -/
namespace Go.Proofs.YtgphlcdinejmdaaGreatDoor
set_option linter.unusedVariables false
set_option linter.unusedSimpArgs false
set_option maxRecDepth 20000
open Go.RowKit
attribute [local irreducible] runA runX AW
end Go.Proofs.YtgphlcdinejmdaaGreatDoor

/- The first useless pair: the reference. -/
namespace Go.Proofs.YtgphlcdinejmdaaGreatDoor
set_option linter.unusedVariables false
set_option linter.unusedSimpArgs false
set_option maxRecDepth 20000
open Go.RowKit
attribute [local irreducible] runA runX AW
theorem gq_KCC {H G : Prop} (k : H) (h : Hid H → G := by (intro hh; (first | (first | ((first | refine r_none ?_ | refine r_gt (by rfl) (by rfl) (by first | rfl | assumption | omega | (simp only [*, Bool.not_false, Bool.not_true]; first | done | fail) | (simp [*]; first | done | fail)) (by rfl) ?_ | refine r_gf (by rfl) (by rfl) (by first | rfl | assumption | omega | (simp only [*, Bool.not_false, Bool.not_true]; first | done | fail) | (simp [*]; first | done | fail)) (by rfl) ?_); (first | fail | ((first | (refine z_op (by rfl) ?_; first | refine z_ok ?_ ?_ | refine z_ex ?_ (by first | exact ft_raw rfl rfl | ((first | refine ft_rp rfl rfl rfl ?_ | refine ft_row rfl rfl rfl ?_ | refine ft_rpF rfl rfl rfl ?_ | refine ft_rowF rfl rfl rfl ?_ | refine up_row rfl rfl ?_ | refine up_rowF rfl rfl rfl ?_ | refine ct_0 rfl ?_ | refine ct_r rfl rfl ?_ | refine ct_c rfl rfl rfl ?_ | refine cu_all rfl ?_ | refine cu_to rfl ?_ | refine cu_from rfl ?_ | refine cu_p rfl ?_ | fail); (first | omega | (simp only [List.length_append, List.length_replicate, List.length_cons, List.length_nil, List.length_set, List.length_take, List.length_drop, true_and]; omega))) | exact up_raw rfl | exact pk_t (by first | rfl | assumption | omega | (simp only [*, Bool.not_false, Bool.not_true]; first | done | fail) | (simp [*]; first | done | fail)) rfl | exact pk_f (by first | rfl | assumption | omega | (simp only [*, Bool.not_false, Bool.not_true]; first | done | fail) | (simp [*]; first | done | fail)) rfl | fail | exact rw_raw | exact pu_cv (fun w => rfl) (by omega) | exact pu_of (fun w => rfl) rfl | exact be_of (fun w => rfl) | exact nc_of (fun _ _ _ _ => rfl) rfl | exact bu_of (fun w => rfl) rfl | (first | exact pu_of (fun w => eq_gate _ _ _ _ _ _ _ _ _ _ w) rfl)) ?_) | ((first | refine q_callE wsT wsZ (by rfl) ?_ | refine q_callVE wsT (by rfl) (by rfl) ?_); refine ⟨_, _, _, (by first | assumption), _, by rfl, ?_, ?_⟩)); focus (first | exact trivial | fail | exact rfl | (first | omega | (simp only [List.length_append, List.length_replicate, List.length_cons, List.length_nil, List.length_set, List.length_take, List.length_drop, true_and]; omega)) | exact cvB (fun w => rfl) | ((repeat' (first | exact rfl | exact cV_len _ | exact cV_ln rfl (by omega) | exact Cel.pos | omega | exact trivial | refine And.intro ?_ ?_)); done) | (simp [*]; done) | (simp; omega))) | fail)) | refine r_nt (by rfl) (by rfl) (by first | rfl | assumption | omega | (simp only [*, Bool.not_false, Bool.not_true]; first | done | fail) | (simp [*]; first | done | fail)) (by rfl) ?_ | refine r_nf (by rfl) (by rfl) (by first | rfl | assumption | omega | (simp only [*, Bool.not_false, Bool.not_true]; first | done | fail) | (simp [*]; first | done | fail)) (by rfl) ?_ | refine r_gu (by rfl) (by rfl) (by rfl) ?_ | refine r_nil ?_) | (first | refine aw_seq ?_ | refine aw_ct (by rfl) (by first | rfl | assumption | omega | (simp only [*, Bool.not_false, Bool.not_true]; first | done | fail) | (simp [*]; first | done | fail)) ?_ | refine aw_cf (by rfl) (by first | rfl | assumption | omega | (simp only [*, Bool.not_false, Bool.not_true]; first | done | fail) | (simp [*]; first | done | fail)) ?_ | refine aw_block ?_ | refine aw_region T0ok cfU_ok (by rfl) ?_ | refine aw_skip ?_ | refine aw_exit ?_ | refine ra_step ?_)); (repeat (first | (first | ((first | refine r_none ?_ | refine r_gt (by rfl) (by rfl) (by first | rfl | assumption | omega | (simp only [*, Bool.not_false, Bool.not_true]; first | done | fail) | (simp [*]; first | done | fail)) (by rfl) ?_ | refine r_gf (by rfl) (by rfl) (by first | rfl | assumption | omega | (simp only [*, Bool.not_false, Bool.not_true]; first | done | fail) | (simp [*]; first | done | fail)) (by rfl) ?_); (first | fail | ((first | (refine z_op (by rfl) ?_; first | refine z_ok ?_ ?_ | refine z_ex ?_ (by first | exact ft_raw rfl rfl | ((first | refine ft_rp rfl rfl rfl ?_ | refine ft_row rfl rfl rfl ?_ | refine ft_rpF rfl rfl rfl ?_ | refine ft_rowF rfl rfl rfl ?_ | refine up_row rfl rfl ?_ | refine up_rowF rfl rfl rfl ?_ | refine ct_0 rfl ?_ | refine ct_r rfl rfl ?_ | refine ct_c rfl rfl rfl ?_ | refine cu_all rfl ?_ | refine cu_to rfl ?_ | refine cu_from rfl ?_ | refine cu_p rfl ?_ | fail); (first | omega | (simp only [List.length_append, List.length_replicate, List.length_cons, List.length_nil, List.length_set, List.length_take, List.length_drop, true_and]; omega))) | exact up_raw rfl | exact pk_t (by first | rfl | assumption | omega | (simp only [*, Bool.not_false, Bool.not_true]; first | done | fail) | (simp [*]; first | done | fail)) rfl | exact pk_f (by first | rfl | assumption | omega | (simp only [*, Bool.not_false, Bool.not_true]; first | done | fail) | (simp [*]; first | done | fail)) rfl | fail | exact rw_raw | exact pu_cv (fun w => rfl) (by omega) | exact pu_of (fun w => rfl) rfl | exact be_of (fun w => rfl) | exact nc_of (fun _ _ _ _ => rfl) rfl | exact bu_of (fun w => rfl) rfl | (first | exact pu_of (fun w => eq_gate _ _ _ _ _ _ _ _ _ _ w) rfl)) ?_) | ((first | refine q_callE wsT wsZ (by rfl) ?_ | refine q_callVE wsT (by rfl) (by rfl) ?_); refine ⟨_, _, _, (by first | assumption), _, by rfl, ?_, ?_⟩)); focus (first | exact trivial | fail | exact rfl | (first | omega | (simp only [List.length_append, List.length_replicate, List.length_cons, List.length_nil, List.length_set, List.length_take, List.length_drop, true_and]; omega)) | exact cvB (fun w => rfl) | ((repeat' (first | exact rfl | exact cV_len _ | exact cV_ln rfl (by omega) | exact Cel.pos | omega | exact trivial | refine And.intro ?_ ?_)); done) | (simp [*]; done) | (simp; omega))) | fail)) | refine r_nt (by rfl) (by rfl) (by first | rfl | assumption | omega | (simp only [*, Bool.not_false, Bool.not_true]; first | done | fail) | (simp [*]; first | done | fail)) (by rfl) ?_ | refine r_nf (by rfl) (by rfl) (by first | rfl | assumption | omega | (simp only [*, Bool.not_false, Bool.not_true]; first | done | fail) | (simp [*]; first | done | fail)) (by rfl) ?_ | refine r_gu (by rfl) (by rfl) (by rfl) ?_ | refine r_nil ?_) | (first | refine aw_seq ?_ | refine aw_ct (by rfl) (by first | rfl | assumption | omega | (simp only [*, Bool.not_false, Bool.not_true]; first | done | fail) | (simp [*]; first | done | fail)) ?_ | refine aw_cf (by rfl) (by first | rfl | assumption | omega | (simp only [*, Bool.not_false, Bool.not_true]; first | done | fail) | (simp [*]; first | done | fail)) ?_ | refine aw_block ?_ | refine aw_region T0ok cfU_ok (by rfl) ?_ | refine aw_skip ?_ | refine aw_exit ?_ | refine ra_step ?_))); exact hh.out)) : G := h ⟨k⟩
theorem ga_KCC {H G : Prop} (k : H) (h : Hid H → G := by (intro hh; (first | refine r_none ?_ | refine r_gt (by rfl) (by rfl) (by first | rfl | assumption | omega | (simp only [*, Bool.not_false, Bool.not_true]; first | done | fail) | (simp [*]; first | done | fail)) (by rfl) ?_ | refine r_gf (by rfl) (by rfl) (by first | rfl | assumption | omega | (simp only [*, Bool.not_false, Bool.not_true]; first | done | fail) | (simp [*]; first | done | fail)) (by rfl) ?_); refine z_op (by rfl) ?_; refine z_al ?_ hh.out; focus (first | exact trivial | fail | exact rfl | (first | omega | (simp only [List.length_append, List.length_replicate, List.length_cons, List.length_nil, List.length_set, List.length_take, List.length_drop, true_and]; omega)) | exact cvB (fun w => rfl) | ((repeat' (first | exact rfl | exact cV_len _ | exact cV_ln rfl (by omega) | exact Cel.pos | omega | exact trivial | refine And.intro ?_ ?_)); done) | (simp [*]; done) | (simp; omega)))) : G := h ⟨k⟩
theorem gd_KCC {H G : Prop} (k : H) (h : Hid H → G := by (intro hh; (refine aw_draw mixed T0ok cfU_ok [] (by rfl) (by kernel_rfl) ?_); exact hh.out)) : G := h ⟨k⟩
abbrev prS (x y : Int) : AV := .tup [.one (.v (.int .i64 x)), .one (.v (.int .i64 y))]
/-- The gates between. -/
def seg (l : List Gt) (a b : Nat) : List Gt := (l.drop (a + 1)).take (b - (a + 1))
theorem seg_succ {l : List Gt} {a b : Nat} (h : a + 1 ≤ b) (hb : b < l.length) : seg l a (b + 1) = seg l a b ++ [l.getD b Cel.no] := by
  have e : l.getD b Cel.no = l[b] := by simp [List.getD_eq_getElem?_getD, hb]
  unfold seg
  rw [show b + 1 - (a + 1) = (b - (a + 1)) + 1 by omega]
  have hlt : b - (a + 1) < (l.drop (a + 1)).length := by rw [List.length_drop]; omega
  rw [List.take_succ_eq_append_getElem hlt, List.getElem_drop, e]
  congr 3; omega
def frB (n : Int) (l : List Gt) (a b k : Nat) : Bool := geq (l.getD a Cel.no) (l.getD b Cel.no) && (seg l a k).all (fun x => geq x (l.getD b Cel.no) || apM n x (l.getD b Cel.no))
theorem frB_start (n : Int) (l : List Gt) (a b : Nat) : frB n l a b (a + 1) = geq (l.getD a Cel.no) (l.getD b Cel.no) := by
  unfold frB seg; simp
theorem frB_succ {n : Int} {l : List Gt} {a b k : Nat} (h : a + 1 ≤ k) (hk : k < l.length) : frB n l a b (k + 1) = (frB n l a b k && (geq (l.getD k Cel.no) (l.getD b Cel.no) || apM n (l.getD k Cel.no) (l.getD b Cel.no))) := by
  unfold frB
  rw [seg_succ h hk, List.all_append]
  simp [Bool.and_assoc]
theorem frB_false {n : Int} {l : List Gt} {a b : Nat} : ∀ (d k : Nat), a + 1 ≤ k → k + d ≤ l.length → frB n l a b k = false → frB n l a b (k + d) = false
  | 0, k, _, _, h => h
  | d + 1, k, h1, h2, h => by
    have := frB_false (n := n) (l := l) (a := a) (b := b) d (k + 1) (by omega) (by omega) (by rw [frB_succ h1 (by omega), h]; rfl)
    rwa [show k + (d + 1) = k + 1 + d by omega]
/-- What is known in the middle loop. -/
def Mid (l : List Gt) (a b : Nat) : Prop := ((∀ x ∈ seg l a b, geq x (l.getD a Cel.no) = false ∧ apaB x (l.getD a Cel.no) = true) ∧ uI (l.getD a Cel.no) (l.drop b) b = uI (l.getD a Cel.no) (l.drop (a + 1)) (a + 1)) ∨
  ((∃ x ∈ seg l a b, geq x (l.getD a Cel.no) = false ∧ apaB x (l.getD a Cel.no) = false) ∧ uI (l.getD a Cel.no) (l.drop (a + 1)) (a + 1) = -1)
theorem mid_start (l : List Gt) (a : Nat) : Mid l a (a + 1) := .inl ⟨fun x hx => by unfold seg at hx; simp at hx, rfl⟩
theorem apM_ok {n : Int} {x y : Gt} (hx : gok n x = true) (hy : gok n y = true) : apM n x y = apaB x y := by unfold apM; rw [hx, hy]; rfl
theorem seg_ok {n : Int} {l : List Gt} (h : l.all (gok n) = true) {a b : Nat} : ∀ x ∈ seg l a b, gok n x = true := by
  intro x hx
  rw [List.all_eq_true] at h
  exact h x (List.mem_of_mem_drop (List.mem_of_mem_take hx))
theorem mid_found {n : Int} {l : List Gt} (h : l.all (gok n) = true) {a b : Nat} (ha : a + 1 ≤ b) (hb : b < l.length) (hm : Mid l a b) (hf : frB n l a b b = true) : usl (l.drop a) a = ((a : Int), (b : Int)) := by
  unfold frB at hf
  rw [Bool.and_eq_true] at hf
  obtain ⟨h1, h2⟩ := hf
  have e : l.getD a Cel.no = l.getD b Cel.no := geq_iff.1 h1
  rcases hm with ⟨m1, m2⟩ | ⟨⟨x, hx, m1, m2⟩, _⟩
  · have hu : uI (l.getD a Cel.no) (l.drop b) b = (b : Int) := by
      rw [uI_drop hb, ← e, geq_refl]; rfl
    rw [usl_drop (by omega), ← m2, hu, decide_eq_true (by omega)]; rfl
  · have := List.all_eq_true.1 h2 x hx
    rw [← e, m1, Bool.false_or, apM_ok (seg_ok h x hx) (all_at h (by omega)), m2] at this
    cases this
theorem mid_next {n : Int} {l : List Gt} (h : l.all (gok n) = true) {a b : Nat} (ha : a + 1 ≤ b) (hb : b < l.length) (hm : Mid l a b) (hf : frB n l a b b = false) : Mid l a (b + 1) := by
  unfold Mid
  rw [seg_succ ha hb]
  rcases hm with ⟨m1, m2⟩ | ⟨⟨x, hx, m1, m2⟩, m3⟩
  · have hne : geq (l.getD b Cel.no) (l.getD a Cel.no) = false := by
      cases hq : geq (l.getD b Cel.no) (l.getD a Cel.no) with
      | false => rfl
      | true =>
        have e : l.getD b Cel.no = l.getD a Cel.no := geq_iff.1 hq
        have : frB n l a b b = true := by
          unfold frB
          rw [e, geq_refl, Bool.true_and, List.all_eq_true]
          intro x hx
          rw [apM_ok (seg_ok h x hx) (all_at h (by omega)), (m1 x hx).2, Bool.or_true]
        rw [this] at hf; cases hf
    rw [uI_drop hb, hne] at m2
    dsimp only [cond_false] at m2
    cases hap : apaB (l.getD b Cel.no) (l.getD a Cel.no) with
    | true =>
      rw [hap] at m2
      left
      refine ⟨fun x hx => ?_, m2⟩
      rcases List.mem_append.1 hx with hx | hx
      · exact m1 x hx
      · rw [List.mem_singleton.1 hx]; exact ⟨hne, hap⟩
    | false =>
      rw [hap] at m2
      right
      exact ⟨⟨_, List.mem_append_right _ (List.mem_singleton.2 rfl), hne, hap⟩, m2.symm⟩
  · exact .inr ⟨⟨x, List.mem_append_left _ hx, m1, m2⟩, m3⟩
theorem mid_end {l : List Gt} {a : Nat} (ha : a < l.length) (hm : Mid l a l.length) : usl (l.drop a) a = usl (l.drop (a + 1)) (a + 1) := by
  have hu : uI (l.getD a Cel.no) (l.drop (a + 1)) (a + 1) = -1 := by
    rcases hm with ⟨_, m2⟩ | ⟨_, m2⟩
    · rw [List.drop_of_length_le (Nat.le_refl _), uI] at m2; exact m2.symm
    · exact m2
  rw [usl_drop ha, hu]; rfl
set_option maxHeartbeats 4000000 in
theorem k_uspS (n : Int) (l : List Gt) (h : cokB n l = true) : Kon Tryz.prog 82 [vI n, roA l] [] (prS (usl l 0).1 (usl l 0).2) [] [] := by
  obtain ⟨hn, hl, ha⟩ := cokB_t h
  have hC := k_cvS n l (by omega) (by omega)
  rw [h] at hC
  (refine kon_mk T0ok (fn := Tryz.f82) (c := Tryz.f82.body.get rfl) Tryz.func82 rfl (by rfl) (by rfl) (by rfl) ?_; intro hfit hfe)
  (repeat (first | refine gq_KCC ?_ | (refine ga_KCC ?_; intro _q ⟨_he, _hq⟩)))
  (refine aw_rd [0, 1, 4, 5] [] (fun i : Nat => [(6, vI i)]) (fun _ => []) (fun i => i ≤ l.length ∧ usl (l.drop i) i = usl l 0) (fun i => l.length - i) 0 (by rfl) (by rfl) ?_ (by rfl) (by repeat (first | exact trivial | refine ⟨by rfl, ?_⟩ | refine ⟨vI_of (by rfl) (by omega), ?_⟩)) (by repeat (first | exact trivial | refine ⟨by rfl, ?_⟩ | refine ⟨vI_of (by rfl) (by omega), ?_⟩)) ?_)
  · exact ⟨Nat.zero_le _, by rw [List.drop_zero]⟩
  rintro i ⟨hi, hz⟩
  rcases Nat.lt_or_ge i l.length with h5 | h5
  · have hd : decide ((i : Int) < (l.length : Int)) = true := decide_eq_true (by omega)
    (repeat (first | refine gq_KCC ?_ | (refine ga_KCC ?_; intro _q ⟨_he, _hq⟩)))
    (refine aw_rd [0, 1, 4, 5, 6] [] (fun b : Nat => [(7, vI b)]) (fun _ => []) (fun b => i + 1 ≤ b ∧ b ≤ l.length ∧ Mid l i b) (fun b => l.length - b) (i + 1) (by rfl) (by rfl) ?_ (by rfl) (by repeat (first | exact trivial | refine ⟨by rfl, ?_⟩ | refine ⟨vI_of (by rfl) (by omega), ?_⟩)) (by repeat (first | exact trivial | refine ⟨by rfl, ?_⟩ | refine ⟨vI_of (by rfl) (by omega), ?_⟩)) ?_)
    · exact ⟨Nat.le_refl _, h5, mid_start l i⟩
    rintro b ⟨hb1, hb2, hm⟩
    rcases Nat.lt_or_ge b l.length with h6 | h6
    · have hd2 : decide ((b : Int) < (l.length : Int)) = true := decide_eq_true (by omega)
      (repeat (first | refine gq_KCC ?_ | (refine ga_KCC ?_; intro _q ⟨_he, _hq⟩)))
      (refine aw_draw mixed T0ok cfU_ok [] (by rfl) (by kernel_rfl) ?_)
      (repeat (first | refine gq_KCC ?_ | (refine ga_KCC ?_; intro _q ⟨_he, _hq⟩)))
      refine aw_rd [0, 1, 4, 5, 6, 7] [] (fun g : Nat × Bool => [(8, vB g.2), (9, vI g.1)]) (fun _ => []) (fun g => (i + 1 ≤ g.1 ∧ g.1 ≤ b) ∧ g.2 = frB n l i b g.1) (fun g => b - g.1) (i + 1, geq (l.getD i Cel.no) (l.getD b Cel.no)) (by rfl) (by rfl) ?_ (by rfl) (by repeat (first | exact trivial | refine ⟨by rfl, ?_⟩ | refine ⟨vI_of (by rfl) (by omega), ?_⟩)) (by repeat (first | exact trivial | refine ⟨by rfl, ?_⟩ | refine ⟨vI_of (by rfl) (by omega), ?_⟩)) ?_
      · exact ⟨⟨Nat.le_refl _, hb1⟩, (frB_start n l i b).symm⟩
      rintro ⟨k, f⟩ ⟨⟨hk1, hk2⟩, hf⟩
      dsimp only at hk1 hk2 hf ⊢
      have fin : (k = b ∨ f = false) → f = frB n l i b b := by
        rintro (rfl | rfl)
        · exact hf
        · have := frB_false (n := n) (l := l) (a := i) (b := b) (b - k) k hk1 (by omega) hf.symm
          rw [show k + (b - k) = b by omega] at this
          exact this.symm
      cases hkb : decide ((k : Int) < (b : Int)) with
      | false =>
        have hk3 : k = b := by have := of_decide_eq_false hkb; omega
        have hff := fin (.inl hk3)
        clear fin
        cases f with
        | true =>
          have hu := mid_found ha hb1 h6 hm hff.symm
          rw [← hz, hu]
          clear hz hu hm hff hf
          (repeat (first | refine gq_KCC ?_ | (refine ga_KCC ?_; intro _q ⟨_he, _hq⟩)))
          ((try refine aw_ret ?_); refine ret_auto2 (by rfl) (by rfl) (by rfl) (by repeat (first | exact trivial | refine ⟨by first | rfl | omega, ?_⟩)) ?_ (by repeat (first | exact trivial | refine ⟨by rfl, by rfl, ?_⟩)) (by repeat (first | exact trivial | refine ⟨by rfl, by rfl, ?_⟩)); try rfl)
        | false =>
          have hm2 := mid_next ha hb1 h6 hm hff.symm
          have hinv : i + 1 ≤ b + 1 ∧ b + 1 ≤ l.length ∧ Mid l i (b + 1) := ⟨by omega, h6, hm2⟩
          clear hz hm hff hf hm2
          (repeat (first | refine gq_KCC ?_ | (refine ga_KCC ?_; intro _q ⟨_he, _hq⟩)))
          exact ⟨b + 1, hinv, ⟨by rfl, (by repeat (first | exact trivial | refine ⟨by rfl, ?_⟩ | refine ⟨vI_of (by rfl) (by omega), ?_⟩)), (by repeat (first | exact trivial | refine ⟨by rfl, ?_⟩ | refine ⟨vI_of (by rfl) (by omega), ?_⟩))⟩, (by first | omega | (dsimp only; omega))⟩
      | true =>
        have hk3 : k < b := by have := of_decide_eq_true hkb; omega
        cases f with
        | false =>
          have hff := fin (.inr rfl)
          clear fin
          have hm2 := mid_next ha hb1 h6 hm hff.symm
          have hinv : i + 1 ≤ b + 1 ∧ b + 1 ≤ l.length ∧ Mid l i (b + 1) := ⟨by omega, h6, hm2⟩
          clear hz hm hff hf hm2
          (repeat (first | refine gq_KCC ?_ | (refine ga_KCC ?_; intro _q ⟨_he, _hq⟩)))
          exact ⟨b + 1, hinv, ⟨by rfl, (by repeat (first | exact trivial | refine ⟨by rfl, ?_⟩ | refine ⟨vI_of (by rfl) (by omega), ?_⟩)), (by repeat (first | exact trivial | refine ⟨by rfl, ?_⟩ | refine ⟨vI_of (by rfl) (by omega), ?_⟩))⟩, (by first | omega | (dsimp only; omega))⟩
        | true =>
          clear fin
          have hs := frB_succ (n := n) (l := l) (a := i) (b := b) hk1 (show k < l.length by omega)
          rw [← hf, Bool.true_and] at hs
          have hA := k_apS n (l.getD k Cel.no) (l.getD b Cel.no) (by omega)
          cases hge : geq (l.getD k Cel.no) (l.getD b Cel.no) with
          | true =>
            have hge' : ((l.getD (k : Int).toNat Cel.no : Gt).k == (l.getD (b : Int).toNat Cel.no : Gt).k && ((l.getD (k : Int).toNat Cel.no : Gt).a == (l.getD (b : Int).toNat Cel.no : Gt).a && ((l.getD (k : Int).toNat Cel.no : Gt).b == (l.getD (b : Int).toNat Cel.no : Gt).b && (l.getD (k : Int).toNat Cel.no : Gt).c == (l.getD (b : Int).toNat Cel.no : Gt).c))) = true := hge
            rw [hge, Bool.true_or] at hs
            have hinv : (i + 1 ≤ k + 1 ∧ k + 1 ≤ b) ∧ true = frB n l i b (k + 1) := ⟨by omega, hs.symm⟩
            clear hz hm hf hge hs
            (repeat (first | refine gq_KCC ?_ | (refine ga_KCC ?_; intro _q ⟨_he, _hq⟩) | refine gd_KCC ?_))
            exact ⟨(k + 1, true), hinv, ⟨by rfl, (by repeat (first | exact trivial | refine ⟨by rfl, ?_⟩ | refine ⟨vI_of (by rfl) (by omega), ?_⟩)), (by repeat (first | exact trivial | refine ⟨by rfl, ?_⟩ | refine ⟨vI_of (by rfl) (by omega), ?_⟩))⟩, (by first | omega | (dsimp only; omega))⟩
          | false =>
            have hge' : ((l.getD (k : Int).toNat Cel.no : Gt).k == (l.getD (b : Int).toNat Cel.no : Gt).k && ((l.getD (k : Int).toNat Cel.no : Gt).a == (l.getD (b : Int).toNat Cel.no : Gt).a && ((l.getD (k : Int).toNat Cel.no : Gt).b == (l.getD (b : Int).toNat Cel.no : Gt).b && (l.getD (k : Int).toNat Cel.no : Gt).c == (l.getD (b : Int).toNat Cel.no : Gt).c))) = false := hge
            rw [hge, Bool.false_or] at hs
            have hinv : (i + 1 ≤ k + 1 ∧ k + 1 ≤ b) ∧ apM n (l.getD k Cel.no) (l.getD b Cel.no) = frB n l i b (k + 1) := ⟨by omega, hs.symm⟩
            clear hz hm hf hge hs
            (repeat (first | refine gq_KCC ?_ | (refine ga_KCC ?_; intro _q ⟨_he, _hq⟩) | refine gd_KCC ?_))
            exact ⟨(k + 1, apM n (l.getD k Cel.no) (l.getD b Cel.no)), hinv, ⟨by rfl, (by repeat (first | exact trivial | refine ⟨by rfl, ?_⟩ | refine ⟨vI_of (by rfl) (by omega), ?_⟩)), (by repeat (first | exact trivial | refine ⟨by rfl, ?_⟩ | refine ⟨vI_of (by rfl) (by omega), ?_⟩))⟩, (by first | omega | (dsimp only; omega))⟩
    · have hd2 : decide ((b : Int) < (l.length : Int)) = false := decide_eq_false (by omega)
      have hbl : b = l.length := by omega
      subst hbl
      have he := mid_end h5 hm
      have hinv : i + 1 ≤ l.length ∧ usl (l.drop (i + 1)) (i + 1) = usl l 0 := ⟨h5, he.symm.trans hz⟩
      clear hz hm he
      (repeat (first | refine gq_KCC ?_ | (refine ga_KCC ?_; intro _q ⟨_he, _hq⟩)))
      exact ⟨i + 1, hinv, ⟨by rfl, (by repeat (first | exact trivial | refine ⟨by rfl, ?_⟩ | refine ⟨vI_of (by rfl) (by omega), ?_⟩)), (by repeat (first | exact trivial | refine ⟨by rfl, ?_⟩ | refine ⟨vI_of (by rfl) (by omega), ?_⟩))⟩, (by first | omega | (dsimp only; omega))⟩
  · have hd : decide ((i : Int) < (l.length : Int)) = false := decide_eq_false (by omega)
    rw [List.drop_of_length_le h5, usl] at hz
    rw [← hz]
    clear hz
    (repeat (first | refine gq_KCC ?_ | (refine ga_KCC ?_; intro _q ⟨_he, _hq⟩)))
    ((try refine aw_ret ?_); refine ret_auto2 (by rfl) (by rfl) (by rfl) (by repeat (first | exact trivial | refine ⟨by first | rfl | omega, ?_⟩)) ?_ (by repeat (first | exact trivial | refine ⟨by rfl, by rfl, ?_⟩)) (by repeat (first | exact trivial | refine ⟨by rfl, by rfl, ?_⟩)); try rfl)
end Go.Proofs.YtgphlcdinejmdaaGreatDoor

/- spec.l2Drop, spec.CircuitShort (some circuit), the draw of FnSameCircuit. -/



namespace Go.Proofs.YtgphlcdinejmdaaGreatDoor
set_option linter.unusedVariables false
set_option linter.unusedSimpArgs false
set_option maxRecDepth 20000
open Go.RowKit
attribute [local irreducible] runA runX AW
theorem cokB_mk3 {n : Int} {l : List Gt} (h1 : 1 ≤ n ∧ n ≤ 8) (h2 : l.length ≤ 24) (h3 : l.all (gok n) = true) : cokB n l = true := by
  unfold cokB btw
  rw [decide_eq_true h1.1, decide_eq_true h1.2, decide_eq_true (by omega), h3]; rfl
/-- Without the gates at a and b. -/
def drp (l : List Gt) (a b : Int) : Nat → List Gt
  | 0 => []
  | i + 1 => if ((i : Int) != a && (i : Int) != b) = true then drp l a b i ++ [l.getD i Cel.no] else drp l a b i
theorem drp_len (l : List Gt) (a b : Int) : ∀ i : Nat, (drp l a b i).length ≤ i
  | 0 => Nat.le_refl _
  | i + 1 => by
    have := drp_len l a b i
    rw [drp]; split
    · rw [List.length_append]; simp; omega
    · omega
theorem drp_less (l : List Gt) (a : Nat) (b : Int) : ∀ i : Nat, a < i → (drp l a b i).length < i
  | 0, h => by omega
  | i + 1, h => by
    rw [drp]; split
    · rename_i hc
      have : a < i := by
        rcases Nat.lt_or_ge a i with h1 | h1
        · exact h1
        · obtain rfl : a = i := by omega
          simp at hc
      have := drp_less l a b i this
      rw [List.length_append]; simp; omega
    · have := drp_len l a b i
      omega
theorem drp_mem (l : List Gt) (a b : Int) : ∀ i : Nat, i ≤ l.length → ∀ g ∈ drp l a b i, g ∈ l
  | 0, _, g, h => by cases h
  | i + 1, hi, g, h => by
    rw [drp] at h; split at h
    · rcases List.mem_append.1 h with h | h
      · exact drp_mem l a b i (by omega) g h
      · have e : l.getD i Cel.no = l[i] := by simp [List.getD_eq_getElem?_getD, show i < l.length by omega]
        rw [List.mem_singleton.1 h, e]
        exact List.getElem_mem _
    · exact drp_mem l a b i (by omega) g h
theorem drp_ok {n : Int} {l : List Gt} {a b : Int} (h : cokB n l = true) : cokB n (drp l a b l.length) = true := by
  obtain ⟨hn, hl, ha⟩ := cokB_t h
  refine cokB_mk3 hn (by have := drp_len l a b l.length; omega) ?_
  rw [List.all_eq_true] at ha ⊢
  exact fun g hg => ha g (drp_mem l a b l.length (Nat.le_refl _) g hg)
/-- Dropped as long as there is a pair. -/
def shr (l : List Gt) : Nat → List Gt
  | 0 => l
  | f + 1 => if (usl l 0).1 < 0 then l else shr (drp l (usl l 0).1 (usl l 0).2 l.length) f
theorem shr_len : ∀ (f : Nat) (l : List Gt), (shr l f).length ≤ l.length
  | 0, l => Nat.le_refl _
  | f + 1, l => by
    rw [shr]; split
    · exact Nat.le_refl _
    · exact Nat.le_trans (shr_len f _) (drp_len _ _ _ _)
theorem usl_less (l : List Gt) (h : ¬ (usl l 0).1 < 0) : (drp l (usl l 0).1 (usl l 0).2 l.length).length < l.length := by
  rcases usl_spec l 0 with hu | ⟨a, b, hu, hab, hbl, _⟩
  · rw [hu] at h; simp at h
  · rw [hu, Nat.zero_add]
    exact drp_less l a _ l.length (by omega)
theorem shr_step (l : List Gt) (h : ¬ (usl l 0).1 < 0) : shr (drp l (usl l 0).1 (usl l 0).2 l.length) (drp l (usl l 0).1 (usl l 0).2 l.length).length = shr l l.length := by
  have key : ∀ (f f' : Nat) (o : List Gt), o.length ≤ f → o.length ≤ f' → shr o f = shr o f' := by
    intro f
    induction f with
    | zero =>
      intro f' o h1 h2
      have e : o = [] := List.eq_nil_of_length_eq_zero (by omega)
      subst e
      cases f' with
      | zero => rfl
      | succ f' => rw [shr, shr]; rfl
    | succ f ih =>
      intro f' o h1 h2
      cases f' with
      | zero =>
        have e : o = [] := List.eq_nil_of_length_eq_zero (by omega)
        subst e
        rw [shr, shr]; rfl
      | succ f' =>
        rw [shr, shr]
        split
        · rfl
        · rename_i hn
          have := usl_less o hn
          exact ih f' _ (by omega) (by omega)
  have hl := usl_less l h
  obtain ⟨m, hm⟩ : ∃ m, l.length = m + 1 := ⟨l.length - 1, by omega⟩
  conv => rhs; rw [hm, shr, if_neg h]
  exact key _ _ _ (Nat.le_refl _) (by omega)
end Go.Proofs.YtgphlcdinejmdaaGreatDoor

/- impl.short: circuits made shorter, by the program. -/
namespace Go.Proofs.YtgphlcdinejmdaaGreatDoor
set_option linter.unusedVariables false
set_option linter.unusedSimpArgs false
set_option maxRecDepth 20000
open Go.RowKit
attribute [local irreducible] runA runX AW

/-- Dropped: three parts. -/
theorem drp_lt (l : List Gt) (a b : Nat) : ∀ i : Nat, i ≤ l.length → i ≤ a → a < b → drp l a b i = l.take i
  | 0, _, _, _ => by simp [drp]
  | i + 1, hi, h, hab => by
    have e : l.getD i Cel.no = l[i] := by simp [List.getD_eq_getElem?_getD, show i < l.length by omega]
    rw [drp, if_pos (by simp only [Bool.and_eq_true, bne_iff_ne]; omega), drp_lt l a b i (by omega) (by omega) hab, e, List.take_append_getElem]
theorem drp_mid (l : List Gt) (a b : Nat) : ∀ i : Nat, i ≤ l.length → a < i → i ≤ b → drp l a b i = l.take a ++ (l.take i).drop (a + 1)
  | 0, _, h, _ => by omega
  | i + 1, hi, h, hb => by
    have e : l.getD i Cel.no = l[i] := by simp [List.getD_eq_getElem?_getD, show i < l.length by omega]
    rcases Nat.lt_or_ge a i with h1 | h1
    · rw [drp, if_pos (by simp only [Bool.and_eq_true, bne_iff_ne]; omega), drp_mid l a b i (by omega) h1 (by omega), e, List.append_assoc, ← List.take_append_getElem (show i < l.length by omega), List.drop_append_of_le_length (by rw [List.length_take]; omega)]
    · obtain rfl : a = i := by omega
      rw [drp, if_neg (by simp), drp_lt l a b a (by omega) (Nat.le_refl _) (by omega)]
      simp
theorem drp_del (l : List Gt) (a b : Nat) (hab : a < b) : ∀ i : Nat, i ≤ l.length → b < i → drp l a b i = l.take a ++ ((l.take b).drop (a + 1) ++ (l.take i).drop (b + 1))
  | 0, _, h => by omega
  | i + 1, hi, h => by
    have e : l.getD i Cel.no = l[i] := by simp [List.getD_eq_getElem?_getD, show i < l.length by omega]
    rcases Nat.lt_or_ge b i with h1 | h1
    · rw [drp, if_pos (by simp only [Bool.and_eq_true, bne_iff_ne]; omega), drp_del l a b hab i (by omega) h1, e, List.append_assoc, List.append_assoc, ← List.take_append_getElem (show i < l.length by omega), List.drop_append_of_le_length (by rw [List.length_take]; omega)]
    · obtain rfl : b = i := by omega
      rw [drp, if_neg (by simp), drp_mid l a b b (by omega) hab (Nat.le_refl _)]
      simp
end Go.Proofs.YtgphlcdinejmdaaGreatDoor

/- Valid benches, both sides; their copies in the exact laws. -/
namespace Go.Proofs.YtgphlcdinejmdaaGreatDoor
set_option linter.unusedVariables false
set_option linter.unusedSimpArgs false
set_option maxRecDepth 20000
open Go.RowKit
attribute [local irreducible] runA runX AW
theorem gq_KGK {H G : Prop} (k : H) (h : Hid H → G := by (intro hh; (first | (first | ((first | refine r_none ?_ | refine r_gt (by rfl) (by rfl) (by first | rfl | assumption | omega | (simp only [*, Bool.not_false, Bool.not_true]; first | done | fail) | (simp [*]; first | done | fail)) (by rfl) ?_ | refine r_gf (by rfl) (by rfl) (by first | rfl | assumption | omega | (simp only [*, Bool.not_false, Bool.not_true]; first | done | fail) | (simp [*]; first | done | fail)) (by rfl) ?_); (first | fail | ((first | (refine z_op (by rfl) ?_; first | refine z_ok ?_ ?_ | refine z_ex ?_ (by first | exact ft_raw rfl rfl | ((first | refine ft_rp rfl rfl rfl ?_ | refine ft_row rfl rfl rfl ?_ | refine ft_rpF rfl rfl rfl ?_ | refine ft_rowF rfl rfl rfl ?_ | refine up_row rfl rfl ?_ | refine up_rowF rfl rfl rfl ?_ | refine ct_0 rfl ?_ | refine ct_r rfl rfl ?_ | refine ct_c rfl rfl rfl ?_ | refine cu_all rfl ?_ | refine cu_to rfl ?_ | refine cu_from rfl ?_ | refine cu_p rfl ?_ | refine mk_c Gt rfl rfl rfl ?_); (first | omega | (simp only [List.length_append, List.length_replicate, List.length_cons, List.length_nil, List.length_set, List.length_take, List.length_drop, true_and]; omega))) | exact up_raw rfl | exact pk_t (by first | rfl | assumption | omega | (simp only [*, Bool.not_false, Bool.not_true]; first | done | fail) | (simp [*]; first | done | fail)) rfl | exact pk_f (by first | rfl | assumption | omega | (simp only [*, Bool.not_false, Bool.not_true]; first | done | fail) | (simp [*]; first | done | fail)) rfl | fail | exact rw_raw | exact pu_cv (fun w => rfl) (by omega) | exact pu_of (fun w => rfl) rfl | exact be_of (fun w => rfl) | exact nc_of (fun _ _ _ _ => rfl) rfl | exact bu_of (fun w => rfl) rfl | fail) ?_) | ((first | refine q_callE wsTB wsZ (by rfl) ?_ | refine q_callVE wsTB (by rfl) (by rfl) ?_); refine ⟨_, _, _, (by first | assumption | exact k_within _ _ _ | exact k_l1In _ _ _ | exact k_wvS2 _ _ | exact k_wv _ _ | exact k_ahead _ _ _ _ _ (by omega) (by omega)), _, by rfl, ?_, ?_⟩)); focus (first | exact trivial | fail | exact rfl | (first | omega | (simp only [List.length_append, List.length_replicate, List.length_cons, List.length_nil, List.length_set, List.length_take, List.length_drop, true_and]; omega)) | exact cvB (fun w => rfl) | ((repeat' (first | exact rfl | exact cV_len _ | exact cV_ln rfl (by omega) | exact Cel.pos | omega | exact trivial | refine And.intro ?_ ?_)); done) | (simp [*]; done) | (simp; omega))) | fail)) | refine r_nt (by rfl) (by rfl) (by first | rfl | assumption | omega | (simp only [*, Bool.not_false, Bool.not_true]; first | done | fail) | (simp [*]; first | done | fail)) (by rfl) ?_ | refine r_nf (by rfl) (by rfl) (by first | rfl | assumption | omega | (simp only [*, Bool.not_false, Bool.not_true]; first | done | fail) | (simp [*]; first | done | fail)) (by rfl) ?_ | refine r_gu (by rfl) (by rfl) (by rfl) ?_ | refine r_nil ?_) | (first | refine aw_seq ?_ | refine aw_ct (by rfl) (by first | rfl | assumption | omega | (simp only [*, Bool.not_false, Bool.not_true]; first | done | fail) | (simp [*]; first | done | fail)) ?_ | refine aw_cf (by rfl) (by first | rfl | assumption | omega | (simp only [*, Bool.not_false, Bool.not_true]; first | done | fail) | (simp [*]; first | done | fail)) ?_ | refine aw_block ?_ | refine aw_region T0ok cfU_ok (by rfl) ?_ | refine aw_skip ?_ | refine aw_exit ?_ | refine ra_step ?_)); (repeat (first | (first | ((first | refine r_none ?_ | refine r_gt (by rfl) (by rfl) (by first | rfl | assumption | omega | (simp only [*, Bool.not_false, Bool.not_true]; first | done | fail) | (simp [*]; first | done | fail)) (by rfl) ?_ | refine r_gf (by rfl) (by rfl) (by first | rfl | assumption | omega | (simp only [*, Bool.not_false, Bool.not_true]; first | done | fail) | (simp [*]; first | done | fail)) (by rfl) ?_); (first | fail | ((first | (refine z_op (by rfl) ?_; first | refine z_ok ?_ ?_ | refine z_ex ?_ (by first | exact ft_raw rfl rfl | ((first | refine ft_rp rfl rfl rfl ?_ | refine ft_row rfl rfl rfl ?_ | refine ft_rpF rfl rfl rfl ?_ | refine ft_rowF rfl rfl rfl ?_ | refine up_row rfl rfl ?_ | refine up_rowF rfl rfl rfl ?_ | refine ct_0 rfl ?_ | refine ct_r rfl rfl ?_ | refine ct_c rfl rfl rfl ?_ | refine cu_all rfl ?_ | refine cu_to rfl ?_ | refine cu_from rfl ?_ | refine cu_p rfl ?_ | refine mk_c Gt rfl rfl rfl ?_); (first | omega | (simp only [List.length_append, List.length_replicate, List.length_cons, List.length_nil, List.length_set, List.length_take, List.length_drop, true_and]; omega))) | exact up_raw rfl | exact pk_t (by first | rfl | assumption | omega | (simp only [*, Bool.not_false, Bool.not_true]; first | done | fail) | (simp [*]; first | done | fail)) rfl | exact pk_f (by first | rfl | assumption | omega | (simp only [*, Bool.not_false, Bool.not_true]; first | done | fail) | (simp [*]; first | done | fail)) rfl | fail | exact rw_raw | exact pu_cv (fun w => rfl) (by omega) | exact pu_of (fun w => rfl) rfl | exact be_of (fun w => rfl) | exact nc_of (fun _ _ _ _ => rfl) rfl | exact bu_of (fun w => rfl) rfl | fail) ?_) | ((first | refine q_callE wsTB wsZ (by rfl) ?_ | refine q_callVE wsTB (by rfl) (by rfl) ?_); refine ⟨_, _, _, (by first | assumption | exact k_within _ _ _ | exact k_l1In _ _ _ | exact k_wvS2 _ _ | exact k_wv _ _ | exact k_ahead _ _ _ _ _ (by omega) (by omega)), _, by rfl, ?_, ?_⟩)); focus (first | exact trivial | fail | exact rfl | (first | omega | (simp only [List.length_append, List.length_replicate, List.length_cons, List.length_nil, List.length_set, List.length_take, List.length_drop, true_and]; omega)) | exact cvB (fun w => rfl) | ((repeat' (first | exact rfl | exact cV_len _ | exact cV_ln rfl (by omega) | exact Cel.pos | omega | exact trivial | refine And.intro ?_ ?_)); done) | (simp [*]; done) | (simp; omega))) | fail)) | refine r_nt (by rfl) (by rfl) (by first | rfl | assumption | omega | (simp only [*, Bool.not_false, Bool.not_true]; first | done | fail) | (simp [*]; first | done | fail)) (by rfl) ?_ | refine r_nf (by rfl) (by rfl) (by first | rfl | assumption | omega | (simp only [*, Bool.not_false, Bool.not_true]; first | done | fail) | (simp [*]; first | done | fail)) (by rfl) ?_ | refine r_gu (by rfl) (by rfl) (by rfl) ?_ | refine r_nil ?_) | (first | refine aw_seq ?_ | refine aw_ct (by rfl) (by first | rfl | assumption | omega | (simp only [*, Bool.not_false, Bool.not_true]; first | done | fail) | (simp [*]; first | done | fail)) ?_ | refine aw_cf (by rfl) (by first | rfl | assumption | omega | (simp only [*, Bool.not_false, Bool.not_true]; first | done | fail) | (simp [*]; first | done | fail)) ?_ | refine aw_block ?_ | refine aw_region T0ok cfU_ok (by rfl) ?_ | refine aw_skip ?_ | refine aw_exit ?_ | refine ra_step ?_))); exact hh.out)) : G := h ⟨k⟩
theorem ga_KGK {H G : Prop} (k : H) (h : Hid H → G := by (intro hh; (first | refine r_none ?_ | refine r_gt (by rfl) (by rfl) (by first | rfl | assumption | omega | (simp only [*, Bool.not_false, Bool.not_true]; first | done | fail) | (simp [*]; first | done | fail)) (by rfl) ?_ | refine r_gf (by rfl) (by rfl) (by first | rfl | assumption | omega | (simp only [*, Bool.not_false, Bool.not_true]; first | done | fail) | (simp [*]; first | done | fail)) (by rfl) ?_); refine z_op (by rfl) ?_; refine z_alV ?_ hh.out; focus (first | exact trivial | fail | exact rfl | (first | omega | (simp only [List.length_append, List.length_replicate, List.length_cons, List.length_nil, List.length_set, List.length_take, List.length_drop, true_and]; omega)) | exact cvB (fun w => rfl) | ((repeat' (first | exact rfl | exact cV_len _ | exact cV_ln rfl (by omega) | exact Cel.pos | omega | exact trivial | refine And.intro ?_ ?_)); done) | (simp [*]; done) | (simp; omega)))) : G := h ⟨k⟩
theorem gd_KGK {H G : Prop} (k : H) (h : Hid H → G := by (intro hh; (refine aw_draw mixed T0ok cfU_ok [] (by rfl) (by kernel_rfl) ?_); exact hh.out)) : G := h ⟨k⟩




def wsTB : WsT := wsT

abbrev roG (l : List Gt) : AC := .ro 4 l.length (cV l)
/-- A bench whose gates are only read. -/
abbrev bG (n : Int) (l : List Gt) (f w a : Int) : AV := .g (.agg [.v (.int .i64 n), roG l, .v (.int .i64 f), .v (.int .i64 w), .v (.int .i64 a)])
def bok (n : Int) (l : List Gt) (f w a : Int) : Bool := cokB n l && (wvB n f && (btw a 0 (l.length : Int) && (w == cr (l.take a.toNat) f)))




theorem all_take {p : Gt → Bool} {l : List Gt} (h : l.all p = true) (k : Nat) : (l.take k).all p = true := by
  rw [List.all_eq_true] at h ⊢
  exact fun x hx => h x (List.mem_of_mem_take hx)
theorem all_dropT {p : Gt → Bool} {l : List Gt} (h : l.all p = true) (k : Nat) : (l.drop k).all p = true := by
  rw [List.all_eq_true] at h ⊢
  exact fun x hx => h x (List.mem_of_mem_drop hx)
theorem cokB_of {n : Int} {l : List Gt} (h1 : 1 ≤ n ∧ n ≤ 8) (h2 : l.length ≤ 24) (h3 : l.all (gok n) = true) : cokB n l = true := by
  unfold cokB btw
  rw [decide_eq_true h1.1, decide_eq_true h1.2, decide_eq_true (by omega), h3]; rfl
theorem cokB_take {n : Int} {l : List Gt} (h : cokB n l = true) (k : Nat) : cokB n (l.take k) = true := by
  obtain ⟨h1, h2, h3⟩ := cokB_t h
  exact cokB_of h1 (by rw [List.length_take]; omega) (all_take h3 k)































set_option maxHeartbeats 1000000 in
theorem k_bvS (n : Int) (l : List Gt) (f w a : Int) (hl : l.length ≤ 100000000) (hr : -9223372036854775808 ≤ n ∧ n ≤ 9223372036854775807) : Kon Tryz.prog 63 [bG n l f w a] [] (vB (bok n l f w a)) [] [] := by
  unfold bok
  have hC := k_cvS n l hl hr
  cases h1 : cokB n l with
  | false =>
    rw [h1] at hC
    (refine kon_mk T0ok (fn := Tryz.f63) (c := Tryz.f63.body.get rfl) Tryz.func63 rfl (by rfl) (by rfl) (by rfl) ?_; intro hfit hfe)
    (repeat (first | refine gq_KGK ?_ | (refine ga_KGK ?_; intro _hq) | refine gd_KGK ?_))
    ((try refine aw_ret ?_); refine ret_auto2 (by rfl) (by rfl) (by rfl) (by repeat (first | exact trivial | refine ⟨by first | rfl | omega, ?_⟩)) ?_ (by repeat (first | exact trivial | refine ⟨by rfl, by rfl, ?_⟩)) (by repeat (first | exact trivial | refine ⟨by rfl, by rfl, ?_⟩)); try rfl)
  | true =>
    rw [h1] at hC
    have hc := cokB_t h1
    cases h2 : wvB n f with
    | false =>
      (refine kon_mk T0ok (fn := Tryz.f63) (c := Tryz.f63.body.get rfl) Tryz.func63 rfl (by rfl) (by rfl) (by rfl) ?_; intro hfit hfe)
      (repeat (first | refine gq_KGK ?_ | (refine ga_KGK ?_; intro _hq) | refine gd_KGK ?_))
      ((try refine aw_ret ?_); refine ret_auto2 (by rfl) (by rfl) (by rfl) (by repeat (first | exact trivial | refine ⟨by first | rfl | omega, ?_⟩)) ?_ (by repeat (first | exact trivial | refine ⟨by rfl, by rfl, ?_⟩)) (by repeat (first | exact trivial | refine ⟨by rfl, by rfl, ?_⟩)); try rfl)
    | true =>
      cases h3 : btw a 0 (l.length : Int) with
      | false =>
        (refine kon_mk T0ok (fn := Tryz.f63) (c := Tryz.f63.body.get rfl) Tryz.func63 rfl (by rfl) (by rfl) (by rfl) ?_; intro hfit hfe)
        (repeat (first | refine gq_KGK ?_ | (refine ga_KGK ?_; intro _hq) | refine gd_KGK ?_))
        ((try refine aw_ret ?_); refine ret_auto2 (by rfl) (by rfl) (by rfl) (by repeat (first | exact trivial | refine ⟨by first | rfl | omega, ?_⟩)) ?_ (by repeat (first | exact trivial | refine ⟨by rfl, by rfl, ?_⟩)) (by repeat (first | exact trivial | refine ⟨by rfl, by rfl, ?_⟩)); try rfl)
      | true =>
        have h3' := btw_t h3
        have hlt : (l.take a.toNat).length ≤ 100000000 := by rw [List.length_take]; omega
        (have hR := k_crunS n (l.take a.toNat) f hlt hr; have hk : cokB n (l.take a.toNat) = true := cokB_take h1 a.toNat; rw [crM, hk, h2, Bool.and_self, if_pos rfl] at hR)
        (refine kon_mk T0ok (fn := Tryz.f63) (c := Tryz.f63.body.get rfl) Tryz.func63 rfl (by rfl) (by rfl) (by rfl) ?_; intro hfit hfe)
        (repeat (first | refine gq_KGK ?_ | (refine ga_KGK ?_; intro _hq) | refine gd_KGK ?_))
        ((try refine aw_ret ?_); refine ret_auto2 (by rfl) (by rfl) (by rfl) (by repeat (first | exact trivial | refine ⟨by first | rfl | omega, ?_⟩)) ?_ (by repeat (first | exact trivial | refine ⟨by rfl, by rfl, ?_⟩)) (by repeat (first | exact trivial | refine ⟨by rfl, by rfl, ?_⟩)); try rfl)
end Go.Proofs.YtgphlcdinejmdaaGreatDoor

/- Benches in the exact laws: sizes, copies, comparison with themselves. -/
namespace Go.Proofs.YtgphlcdinejmdaaGreatDoor
set_option linter.unusedVariables false
set_option linter.unusedSimpArgs false
set_option maxRecDepth 20000
open Go.RowKit
attribute [local irreducible] runA runX AW
end Go.Proofs.YtgphlcdinejmdaaGreatDoor

/- The word behind all gates, both sides; the law FnExactBenchEnd. -/
namespace Go.Proofs.YtgphlcdinejmdaaGreatDoor
set_option linter.unusedVariables false
set_option linter.unusedSimpArgs false
set_option maxRecDepth 20000
open Go.RowKit
attribute [local irreducible] runA runX AW
theorem bok_t {n : Int} {l : List Gt} {f w a : Int} (h : bok n l f w a = true) : cokB n l = true ∧ wvB n f = true ∧ (0 ≤ a ∧ a ≤ l.length) ∧ w = cr (l.take a.toNat) f := by
  unfold bok at h
  simp only [Bool.and_eq_true, beq_iff_eq] at h
  exact ⟨h.1, h.2.1, btw_t h.2.2.1, h.2.2.2⟩
end Go.Proofs.YtgphlcdinejmdaaGreatDoor

/- Deeds as cells, deeds compared. -/
namespace Go.Proofs.YtgphlcdinejmdaaGreatDoor
set_option linter.unusedVariables false
set_option linter.unusedSimpArgs false
set_option maxRecDepth 20000
open Go.RowKit
/-- A deed. -/
structure Dd where
  k : Int
  n : Int
  p : Gt
instance : Cel Dd where
  f d := [.int .i64 d.k, .int .i64 d.n, .int .i64 d.p.k, .int .i64 d.p.a, .int .i64 d.p.b, .int .i64 d.p.c]
  un vs := match vs with
    | [.int .i64 x, .int .i64 y, .int .i64 k, .int .i64 a, .int .i64 b, .int .i64 c] => some ⟨x, y, ⟨k, a, b, c⟩⟩
    | _ => none
  sz := 6
  no := ⟨0, 0, ⟨0, 0, 0, 0⟩⟩
  pos := by omega
  len _ := rfl
  one _ := rfl
  unf vs a h := by
    split at h
    · cases h; rfl
    · cases h
abbrev dCs (d : Dd) : List AC := [.v (.int .i64 d.k), .v (.int .i64 d.n), .v (.int .i64 d.p.k), .v (.int .i64 d.p.a), .v (.int .i64 d.p.b), .v (.int .i64 d.p.c)]
abbrev dV (d : Dd) : AV := .g (.agg (dCs d))
abbrev dRow (l : List Dd) : Ent := rwE 26 l
theorem equal_gate9 (k a b c k' a' b' c' : Int) (w : World) : (Op.equalIn 9999 24 (.agg #[.int .i64 k, .int .i64 a, .int .i64 b, .int .i64 c]) (.agg #[.int .i64 k', .int .i64 a', .int .i64 b', .int .i64 c'])).run Tryz.prog w = .ok (k == k' && (a == a' && (b == b' && c == c'))) w := by
  rw [run_equalIn_agg (ht := by kernel_rfl) (hp := by kernel_rfl)]
  have hc : chk4 3 (Tryz.prog.fieldsOf 24).toList = true := by kernel_rfl
  have hi : Tryz.prog.underlying 3 = some (.int .i64) := by kernel_rfl
  have hz : ∀ (xs : Array Value) (k : Nat) (v : Value) (w : World), xs[k]? = some v → (part 3 xs k).run Tryz.prog w = .ok v w := fun xs k v w h => run_part_plain w (by kernel_rfl) h
  have z0 := fun w => hz #[.int .i64 k, .int .i64 a, .int .i64 b, .int .i64 c] 0 _ w rfl
  have y0 := fun w => hz #[.int .i64 k', .int .i64 a', .int .i64 b', .int .i64 c'] 0 _ w rfl
  have z1 := fun w => hz #[.int .i64 k, .int .i64 a, .int .i64 b, .int .i64 c] 1 _ w rfl
  have y1 := fun w => hz #[.int .i64 k', .int .i64 a', .int .i64 b', .int .i64 c'] 1 _ w rfl
  have z2 := fun w => hz #[.int .i64 k, .int .i64 a, .int .i64 b, .int .i64 c] 2 _ w rfl
  have y2 := fun w => hz #[.int .i64 k', .int .i64 a', .int .i64 b', .int .i64 c'] 2 _ w rfl
  have z3 := fun w => hz #[.int .i64 k, .int .i64 a, .int .i64 b, .int .i64 c] 3 _ w rfl
  have y3 := fun w => hz #[.int .i64 k', .int .i64 a', .int .i64 b', .int .i64 c'] 3 _ w rfl
  have e : ∀ (x y : Int) w, (Op.equalIn 9998 3 (.int .i64 x) (.int .i64 y)).run Tryz.prog w = .ok (x == y) w := fun x y w => run_equalIn_int (P := Tryz.prog) w 9997 3 .i64 .i64 x y hi
  clear hz
  generalize (Tryz.prog.fieldsOf 24).toList = fs at hc ⊢
  unfold chk4 at hc
  split at hc
  · rename_i f f' f'' f3
    simp only [Bool.and_eq_true, bne_iff_ne, beq_iff_eq] at hc
    obtain ⟨⟨⟨⟨⟨h1, h2⟩, h3⟩, ⟨⟨h4, h5⟩, h6⟩⟩, ⟨⟨h7, h8⟩, h9⟩⟩, ⟨⟨g1, g2⟩, g3⟩⟩ := hc
    simp only [Op.eqFields, h1, h2, h3, h4, h5, h6, h7, h8, h9, g1, g2, g3, if_true, ne_eq, not_false_eq_true, Sem.run_bind, z0, y0, Result.andThen_ok]
    erw [e k k' w]
    cases (k == k')
    · rfl
    simp only [Result.andThen_ok, Bool.not_true, Bool.false_eq_true, if_false, Sem.run_bind, z1, y1]
    erw [e a a' w]
    cases (a == a')
    · rfl
    simp only [Result.andThen_ok, Bool.not_true, Bool.false_eq_true, if_false, Sem.run_bind, z2, y2]
    erw [e b b' w]
    cases (b == b')
    · rfl
    simp only [Result.andThen_ok, Bool.not_true, Bool.false_eq_true, if_false, Sem.run_bind, z3, y3]
    erw [e c c' w]
    cases (c == c') <;> rfl
  · cases hc
def chk3 (ti tg : TypeId) : List Field → Bool
  | [f, f', f''] => (f.name != "_") && (f.type == ti) && (f.offset == 0) && ((f'.name != "_") && (f'.type == ti) && (f'.offset == 1)) && ((f''.name != "_") && (f''.type == tg) && (f''.offset == 2))
  | _ => false
abbrev dA (k n g a b c : Int) : Value := .agg #[.int .i64 k, .int .i64 n, .int .i64 g, .int .i64 a, .int .i64 b, .int .i64 c]
theorem equal_deed (k n g a b c k' n' g' a' b' c' : Int) (w : World) : (Op.equalIn 10000 26 (dA k n g a b c) (dA k' n' g' a' b' c')).run Tryz.prog w = .ok (k == k' && (n == n' && (g == g' && (a == a' && (b == b' && c == c'))))) w := by
  rw [run_equalIn_agg (ht := by kernel_rfl) (hp := by kernel_rfl)]
  have hc : chk3 3 24 (Tryz.prog.fieldsOf 26).toList = true := by kernel_rfl
  have hi : Tryz.prog.underlying 3 = some (.int .i64) := by kernel_rfl
  have hz : ∀ (xs : Array Value) (k : Nat) (v : Value) (w : World), xs[k]? = some v → (part 3 xs k).run Tryz.prog w = .ok v w := fun xs k v w h => run_part_plain w (by kernel_rfl) h
  have z0 := fun w => hz #[.int .i64 k, .int .i64 n, .int .i64 g, .int .i64 a, .int .i64 b, .int .i64 c] 0 _ w rfl
  have y0 := fun w => hz #[.int .i64 k', .int .i64 n', .int .i64 g', .int .i64 a', .int .i64 b', .int .i64 c'] 0 _ w rfl
  have z1 := fun w => hz #[.int .i64 k, .int .i64 n, .int .i64 g, .int .i64 a, .int .i64 b, .int .i64 c] 1 _ w rfl
  have y1 := fun w => hz #[.int .i64 k', .int .i64 n', .int .i64 g', .int .i64 a', .int .i64 b', .int .i64 c'] 1 _ w rfl
  have z2 : ∀ w, (part 24 #[.int .i64 k, .int .i64 n, .int .i64 g, .int .i64 a, .int .i64 b, .int .i64 c] 2).run Tryz.prog w = .ok (.agg #[.int .i64 g, .int .i64 a, .int .i64 b, .int .i64 c]) w := fun w => by kernel_rfl
  have y2 : ∀ w, (part 24 #[.int .i64 k', .int .i64 n', .int .i64 g', .int .i64 a', .int .i64 b', .int .i64 c'] 2).run Tryz.prog w = .ok (.agg #[.int .i64 g', .int .i64 a', .int .i64 b', .int .i64 c']) w := fun w => by kernel_rfl
  have e : ∀ (x y : Int) w, (Op.equalIn 9999 3 (.int .i64 x) (.int .i64 y)).run Tryz.prog w = .ok (x == y) w := fun x y w => run_equalIn_int (P := Tryz.prog) w 9998 3 .i64 .i64 x y hi
  clear hz
  generalize (Tryz.prog.fieldsOf 26).toList = fs at hc ⊢
  unfold chk3 at hc
  split at hc
  · rename_i f f' f''
    simp only [Bool.and_eq_true, bne_iff_ne, beq_iff_eq] at hc
    obtain ⟨⟨⟨⟨h1, h2⟩, h3⟩, ⟨⟨h4, h5⟩, h6⟩⟩, ⟨⟨h7, h8⟩, h9⟩⟩ := hc
    simp only [Op.eqFields, h1, h2, h3, h4, h5, h6, h7, h8, h9, if_true, ne_eq, not_false_eq_true, Sem.run_bind, z0, y0, Result.andThen_ok]
    erw [e k k' w]
    cases (k == k')
    · rfl
    simp only [Result.andThen_ok, Bool.not_true, Bool.false_eq_true, if_false, Sem.run_bind, z1, y1]
    erw [e n n' w]
    cases (n == n')
    · rfl
    simp only [Result.andThen_ok, Bool.not_true, Bool.false_eq_true, if_false, Sem.run_bind, z2, y2]
    erw [equal_gate9 g a b c g' a' b' c' w]
    cases (g == g' && (a == a' && (b == b' && c == c'))) <;> rfl
  · cases hc
theorem eq_deed (x y : Operand) (k n g a b c k' n' g' a' b' c' : Int) (w : World) : (do eqGuard .eql 26 x y (dA k n g a b c) (dA k' n' g' a' b' c'); binOp .eql 26 (dA k n g a b c) (dA k' n' g' a' b' c') : Sem Value).run Tryz.prog w = .ok (.bool (k == k' && (n == n' && (g == g' && (a == a' && (b == b' && c == c')))))) w := by
  rw [Sem.run_bind, run_eqGuard_agg (hm := by kernel_rfl)]
  simp only [Result.andThen_ok]
  rw [run_eql_struct, equal_deed]; rfl
theorem neq_deed (x y : Operand) (k n g a b c k' n' g' a' b' c' : Int) (w : World) : (do eqGuard .neq 26 x y (dA k n g a b c) (dA k' n' g' a' b' c'); binOp .neq 26 (dA k n g a b c) (dA k' n' g' a' b' c') : Sem Value).run Tryz.prog w = .ok (.bool (!(k == k' && (n == n' && (g == g' && (a == a' && (b == b' && c == c'))))))) w := by
  rw [Sem.run_bind, run_eqGuard_agg (hm := by kernel_rfl)]
  simp only [Result.andThen_ok]
  rw [run_neq_struct, equal_deed]; rfl
end Go.Proofs.YtgphlcdinejmdaaGreatDoor

/- The way home, both sides; marks; the law FnExactHomeDeeds. -/
namespace Go.Proofs.YtgphlcdinejmdaaGreatDoor
set_option linter.unusedVariables false
set_option linter.unusedSimpArgs false
set_option maxRecDepth 20000
open Go.RowKit
attribute [local irreducible] runA runX AW







abbrev hD (a : Int) : Dd := ⟨1, a, ⟨0, 0, 0, 0⟩⟩
section
variable (n : Int) (l : List Gt) (f w a : Int) (hl : l.length ≤ 100000000) (hr : -9223372036854775808 ≤ n ∧ n ≤ 9223372036854775807)
include hl hr

















































end





























end Go.Proofs.YtgphlcdinejmdaaGreatDoor

/- spec.l10Named. -/
namespace Go.Proofs.YtgphlcdinejmdaaGreatDoor
set_option linter.unusedVariables false
set_option linter.unusedSimpArgs false
set_option maxRecDepth 20000
open Go.RowKit
attribute [local irreducible] runA runX AW
theorem gq_DM {H G : Prop} (k : H) (h : Hid H → G := by (intro hh; (first | (first | ((first | refine r_none ?_ | refine r_gt (by rfl) (by rfl) (by first | rfl | assumption | omega | (simp only [*, Bool.not_false, Bool.not_true]; first | done | fail) | (simp [*]; first | done | fail)) (by rfl) ?_ | refine r_gf (by rfl) (by rfl) (by first | rfl | assumption | omega | (simp only [*, Bool.not_false, Bool.not_true]; first | done | fail) | (simp [*]; first | done | fail)) (by rfl) ?_); (first | fail | ((first | (refine z_op (by rfl) ?_; first | refine z_ok ?_ ?_ | refine z_ex ?_ (by first | exact ft_raw rfl rfl | ((first | refine ft_rp rfl rfl rfl ?_ | refine ft_row rfl rfl rfl ?_ | refine ft_rpF rfl rfl rfl ?_ | refine ft_rowF rfl rfl rfl ?_ | refine up_row rfl rfl ?_ | refine up_rowF rfl rfl rfl ?_ | refine ct_0 rfl ?_ | refine ct_r rfl rfl ?_ | refine ct_c rfl rfl rfl ?_ | refine cu_all rfl ?_ | refine cu_to rfl ?_ | refine cu_from rfl ?_ | refine cu_p rfl ?_ | fail); (first | omega | (simp only [List.length_append, List.length_replicate, List.length_cons, List.length_nil, List.length_set, List.length_take, List.length_drop, true_and]; omega))) | exact up_raw rfl | exact pk_t (by first | rfl | assumption | omega | (simp only [*, Bool.not_false, Bool.not_true]; first | done | fail) | (simp [*]; first | done | fail)) rfl | exact pk_f (by first | rfl | assumption | omega | (simp only [*, Bool.not_false, Bool.not_true]; first | done | fail) | (simp [*]; first | done | fail)) rfl | fail | exact rw_raw | exact pu_cv (fun w => rfl) (by omega) | exact pu_of (fun w => rfl) rfl | exact be_of (fun w => rfl) | exact nc_of (fun _ _ _ _ => rfl) rfl | exact bu_of (fun w => rfl) rfl | (first | exact pu_of (fun w => eq_gate _ _ _ _ _ _ _ _ _ _ w) rfl)) ?_) | ((first | refine q_callE wsT wsZ (by rfl) ?_ | refine q_callVE wsT (by rfl) (by rfl) ?_); refine ⟨_, _, _, (by first | assumption), _, by rfl, ?_, ?_⟩)); focus (first | exact trivial | fail | exact rfl | (first | omega | (simp only [List.length_append, List.length_replicate, List.length_cons, List.length_nil, List.length_set, List.length_take, List.length_drop, true_and]; omega)) | exact cvB (fun w => rfl) | ((repeat' (first | exact rfl | exact cV_len _ | exact cV_ln rfl (by omega) | exact Cel.pos | omega | exact trivial | refine And.intro ?_ ?_)); done) | (simp [*]; done) | (simp; omega))) | fail)) | refine r_nt (by rfl) (by rfl) (by first | rfl | assumption | omega | (simp only [*, Bool.not_false, Bool.not_true]; first | done | fail) | (simp [*]; first | done | fail)) (by rfl) ?_ | refine r_nf (by rfl) (by rfl) (by first | rfl | assumption | omega | (simp only [*, Bool.not_false, Bool.not_true]; first | done | fail) | (simp [*]; first | done | fail)) (by rfl) ?_ | refine r_gu (by rfl) (by rfl) (by rfl) ?_ | refine r_nil ?_) | (first | refine aw_seq ?_ | refine aw_ct (by rfl) (by first | rfl | assumption | omega | (simp only [*, Bool.not_false, Bool.not_true]; first | done | fail) | (simp [*]; first | done | fail)) ?_ | refine aw_cf (by rfl) (by first | rfl | assumption | omega | (simp only [*, Bool.not_false, Bool.not_true]; first | done | fail) | (simp [*]; first | done | fail)) ?_ | refine aw_block ?_ | refine aw_region T0ok cfU_ok (by rfl) ?_ | refine aw_skip ?_ | refine aw_exit ?_ | refine ra_step ?_)); (repeat (first | (first | ((first | refine r_none ?_ | refine r_gt (by rfl) (by rfl) (by first | rfl | assumption | omega | (simp only [*, Bool.not_false, Bool.not_true]; first | done | fail) | (simp [*]; first | done | fail)) (by rfl) ?_ | refine r_gf (by rfl) (by rfl) (by first | rfl | assumption | omega | (simp only [*, Bool.not_false, Bool.not_true]; first | done | fail) | (simp [*]; first | done | fail)) (by rfl) ?_); (first | fail | ((first | (refine z_op (by rfl) ?_; first | refine z_ok ?_ ?_ | refine z_ex ?_ (by first | exact ft_raw rfl rfl | ((first | refine ft_rp rfl rfl rfl ?_ | refine ft_row rfl rfl rfl ?_ | refine ft_rpF rfl rfl rfl ?_ | refine ft_rowF rfl rfl rfl ?_ | refine up_row rfl rfl ?_ | refine up_rowF rfl rfl rfl ?_ | refine ct_0 rfl ?_ | refine ct_r rfl rfl ?_ | refine ct_c rfl rfl rfl ?_ | refine cu_all rfl ?_ | refine cu_to rfl ?_ | refine cu_from rfl ?_ | refine cu_p rfl ?_ | fail); (first | omega | (simp only [List.length_append, List.length_replicate, List.length_cons, List.length_nil, List.length_set, List.length_take, List.length_drop, true_and]; omega))) | exact up_raw rfl | exact pk_t (by first | rfl | assumption | omega | (simp only [*, Bool.not_false, Bool.not_true]; first | done | fail) | (simp [*]; first | done | fail)) rfl | exact pk_f (by first | rfl | assumption | omega | (simp only [*, Bool.not_false, Bool.not_true]; first | done | fail) | (simp [*]; first | done | fail)) rfl | fail | exact rw_raw | exact pu_cv (fun w => rfl) (by omega) | exact pu_of (fun w => rfl) rfl | exact be_of (fun w => rfl) | exact nc_of (fun _ _ _ _ => rfl) rfl | exact bu_of (fun w => rfl) rfl | (first | exact pu_of (fun w => eq_gate _ _ _ _ _ _ _ _ _ _ w) rfl)) ?_) | ((first | refine q_callE wsT wsZ (by rfl) ?_ | refine q_callVE wsT (by rfl) (by rfl) ?_); refine ⟨_, _, _, (by first | assumption), _, by rfl, ?_, ?_⟩)); focus (first | exact trivial | fail | exact rfl | (first | omega | (simp only [List.length_append, List.length_replicate, List.length_cons, List.length_nil, List.length_set, List.length_take, List.length_drop, true_and]; omega)) | exact cvB (fun w => rfl) | ((repeat' (first | exact rfl | exact cV_len _ | exact cV_ln rfl (by omega) | exact Cel.pos | omega | exact trivial | refine And.intro ?_ ?_)); done) | (simp [*]; done) | (simp; omega))) | fail)) | refine r_nt (by rfl) (by rfl) (by first | rfl | assumption | omega | (simp only [*, Bool.not_false, Bool.not_true]; first | done | fail) | (simp [*]; first | done | fail)) (by rfl) ?_ | refine r_nf (by rfl) (by rfl) (by first | rfl | assumption | omega | (simp only [*, Bool.not_false, Bool.not_true]; first | done | fail) | (simp [*]; first | done | fail)) (by rfl) ?_ | refine r_gu (by rfl) (by rfl) (by rfl) ?_ | refine r_nil ?_) | (first | refine aw_seq ?_ | refine aw_ct (by rfl) (by first | rfl | assumption | omega | (simp only [*, Bool.not_false, Bool.not_true]; first | done | fail) | (simp [*]; first | done | fail)) ?_ | refine aw_cf (by rfl) (by first | rfl | assumption | omega | (simp only [*, Bool.not_false, Bool.not_true]; first | done | fail) | (simp [*]; first | done | fail)) ?_ | refine aw_block ?_ | refine aw_region T0ok cfU_ok (by rfl) ?_ | refine aw_skip ?_ | refine aw_exit ?_ | refine ra_step ?_))); exact hh.out)) : G := h ⟨k⟩
theorem ga_DM {H G : Prop} (k : H) (h : Hid H → G := by (intro hh; (first | refine r_none ?_ | refine r_gt (by rfl) (by rfl) (by first | rfl | assumption | omega | (simp only [*, Bool.not_false, Bool.not_true]; first | done | fail) | (simp [*]; first | done | fail)) (by rfl) ?_ | refine r_gf (by rfl) (by rfl) (by first | rfl | assumption | omega | (simp only [*, Bool.not_false, Bool.not_true]; first | done | fail) | (simp [*]; first | done | fail)) (by rfl) ?_); refine z_op (by rfl) ?_; refine z_al ?_ hh.out; focus (first | exact trivial | fail | exact rfl | (first | omega | (simp only [List.length_append, List.length_replicate, List.length_cons, List.length_nil, List.length_set, List.length_take, List.length_drop, true_and]; omega)) | exact cvB (fun w => rfl) | ((repeat' (first | exact rfl | exact cV_len _ | exact cV_ln rfl (by omega) | exact Cel.pos | omega | exact trivial | refine And.intro ?_ ?_)); done) | (simp [*]; done) | (simp; omega)))) : G := h ⟨k⟩
/-- What is said of a deed. -/
def nmD (d : Dd) : Bool :=
  if d.k = 0 ∨ d.k = 1 then (d.p.k == 0 && (d.p.a == 0 && (d.p.b == 0 && d.p.c == 0)))
  else if d.k = 2 then d.n == 0
  else if d.k = 3 ∨ d.k = 4 then d.n == 0 && (d.p.k == 0 && (d.p.a == 0 && (d.p.b == 0 && d.p.c == 0)))
  else false
theorem k_named0 (d : Dd) (h : d.k = 0) : Kon Tryz.prog 24 [dV d] [] (vB (nmD d)) [] [] := by
  obtain ⟨k, n, p⟩ := d
  obtain rfl : k = 0 := h
  (refine kon_mk T0ok (fn := Tryz.f24) (c := Tryz.f24.body.get rfl) Tryz.func24 rfl (by rfl) (by rfl) (by rfl) ?_; intro hfit hfe)
  (repeat (first | refine gq_DM ?_ | (refine ga_DM ?_; intro _q ⟨_he, _hq⟩)))
  ((try refine aw_ret ?_); refine ret_auto2 (by rfl) (by rfl) (by rfl) (by repeat (first | exact trivial | refine ⟨by first | rfl | omega, ?_⟩)) ?_ (by repeat (first | exact trivial | refine ⟨by rfl, by rfl, ?_⟩)) (by repeat (first | exact trivial | refine ⟨by rfl, by rfl, ?_⟩)); try rfl)
theorem k_named1 (d : Dd) (h : d.k = 1) : Kon Tryz.prog 24 [dV d] [] (vB (nmD d)) [] [] := by
  obtain ⟨k, n, p⟩ := d
  obtain rfl : k = 1 := h
  (refine kon_mk T0ok (fn := Tryz.f24) (c := Tryz.f24.body.get rfl) Tryz.func24 rfl (by rfl) (by rfl) (by rfl) ?_; intro hfit hfe)
  (repeat (first | refine gq_DM ?_ | (refine ga_DM ?_; intro _q ⟨_he, _hq⟩)))
  ((try refine aw_ret ?_); refine ret_auto2 (by rfl) (by rfl) (by rfl) (by repeat (first | exact trivial | refine ⟨by first | rfl | omega, ?_⟩)) ?_ (by repeat (first | exact trivial | refine ⟨by rfl, by rfl, ?_⟩)) (by repeat (first | exact trivial | refine ⟨by rfl, by rfl, ?_⟩)); try rfl)
theorem k_named2 (d : Dd) (h : d.k = 2) : Kon Tryz.prog 24 [dV d] [] (vB (nmD d)) [] [] := by
  obtain ⟨k, n, p⟩ := d
  obtain rfl : k = 2 := h
  (refine kon_mk T0ok (fn := Tryz.f24) (c := Tryz.f24.body.get rfl) Tryz.func24 rfl (by rfl) (by rfl) (by rfl) ?_; intro hfit hfe)
  (repeat (first | refine gq_DM ?_ | (refine ga_DM ?_; intro _q ⟨_he, _hq⟩)))
  ((try refine aw_ret ?_); refine ret_auto2 (by rfl) (by rfl) (by rfl) (by repeat (first | exact trivial | refine ⟨by first | rfl | omega, ?_⟩)) ?_ (by repeat (first | exact trivial | refine ⟨by rfl, by rfl, ?_⟩)) (by repeat (first | exact trivial | refine ⟨by rfl, by rfl, ?_⟩)); try rfl)
theorem k_named3 (d : Dd) (h : d.k = 3) : Kon Tryz.prog 24 [dV d] [] (vB (nmD d)) [] [] := by
  obtain ⟨k, n, p⟩ := d
  obtain rfl : k = 3 := h
  cases hx : (n == 0) with
  | true =>
    have e : nmD ⟨3, n, p⟩ = (p.k == 0 && (p.a == 0 && (p.b == 0 && p.c == 0))) := by simp [nmD, hx]
    rw [e]
    (refine kon_mk T0ok (fn := Tryz.f24) (c := Tryz.f24.body.get rfl) Tryz.func24 rfl (by rfl) (by rfl) (by rfl) ?_; intro hfit hfe)
    (repeat (first | refine gq_DM ?_ | (refine ga_DM ?_; intro _q ⟨_he, _hq⟩)))
    ((try refine aw_ret ?_); refine ret_auto2 (by rfl) (by rfl) (by rfl) (by repeat (first | exact trivial | refine ⟨by first | rfl | omega, ?_⟩)) ?_ (by repeat (first | exact trivial | refine ⟨by rfl, by rfl, ?_⟩)) (by repeat (first | exact trivial | refine ⟨by rfl, by rfl, ?_⟩)); try rfl)
  | false =>
    have e : nmD ⟨3, n, p⟩ = false := by simp [nmD, hx]
    rw [e]
    (refine kon_mk T0ok (fn := Tryz.f24) (c := Tryz.f24.body.get rfl) Tryz.func24 rfl (by rfl) (by rfl) (by rfl) ?_; intro hfit hfe)
    (repeat (first | refine gq_DM ?_ | (refine ga_DM ?_; intro _q ⟨_he, _hq⟩)))
    ((try refine aw_ret ?_); refine ret_auto2 (by rfl) (by rfl) (by rfl) (by repeat (first | exact trivial | refine ⟨by first | rfl | omega, ?_⟩)) ?_ (by repeat (first | exact trivial | refine ⟨by rfl, by rfl, ?_⟩)) (by repeat (first | exact trivial | refine ⟨by rfl, by rfl, ?_⟩)); try rfl)
theorem k_named4 (d : Dd) (h : d.k = 4) : Kon Tryz.prog 24 [dV d] [] (vB (nmD d)) [] [] := by
  obtain ⟨k, n, p⟩ := d
  obtain rfl : k = 4 := h
  cases hx : (n == 0) with
  | true =>
    have e : nmD ⟨4, n, p⟩ = (p.k == 0 && (p.a == 0 && (p.b == 0 && p.c == 0))) := by simp [nmD, hx]
    rw [e]
    (refine kon_mk T0ok (fn := Tryz.f24) (c := Tryz.f24.body.get rfl) Tryz.func24 rfl (by rfl) (by rfl) (by rfl) ?_; intro hfit hfe)
    (repeat (first | refine gq_DM ?_ | (refine ga_DM ?_; intro _q ⟨_he, _hq⟩)))
    ((try refine aw_ret ?_); refine ret_auto2 (by rfl) (by rfl) (by rfl) (by repeat (first | exact trivial | refine ⟨by first | rfl | omega, ?_⟩)) ?_ (by repeat (first | exact trivial | refine ⟨by rfl, by rfl, ?_⟩)) (by repeat (first | exact trivial | refine ⟨by rfl, by rfl, ?_⟩)); try rfl)
  | false =>
    have e : nmD ⟨4, n, p⟩ = false := by simp [nmD, hx]
    rw [e]
    (refine kon_mk T0ok (fn := Tryz.f24) (c := Tryz.f24.body.get rfl) Tryz.func24 rfl (by rfl) (by rfl) (by rfl) ?_; intro hfit hfe)
    (repeat (first | refine gq_DM ?_ | (refine ga_DM ?_; intro _q ⟨_he, _hq⟩)))
    ((try refine aw_ret ?_); refine ret_auto2 (by rfl) (by rfl) (by rfl) (by repeat (first | exact trivial | refine ⟨by first | rfl | omega, ?_⟩)) ?_ (by repeat (first | exact trivial | refine ⟨by rfl, by rfl, ?_⟩)) (by repeat (first | exact trivial | refine ⟨by rfl, by rfl, ?_⟩)); try rfl)
theorem k_namedX (d : Dd) (h : d.k < 0 ∨ 4 < d.k) : Kon Tryz.prog 24 [dV d] [] (vB false) [] [] := by
  obtain ⟨k, n, p⟩ := d
  dsimp only at h
  have h0 : (k == 0) = false := by rw [beq_eq_false_iff_ne]; omega
  have h1 : (k == 1) = false := by rw [beq_eq_false_iff_ne]; omega
  have h2 : (k == 2) = false := by rw [beq_eq_false_iff_ne]; omega
  have h3 : (k == 3) = false := by rw [beq_eq_false_iff_ne]; omega
  have h4 : (k == 4) = false := by rw [beq_eq_false_iff_ne]; omega
  (refine kon_mk T0ok (fn := Tryz.f24) (c := Tryz.f24.body.get rfl) Tryz.func24 rfl (by rfl) (by rfl) (by rfl) ?_; intro hfit hfe)
  (repeat (first | refine gq_DM ?_ | (refine ga_DM ?_; intro _q ⟨_he, _hq⟩)))
  ((try refine aw_ret ?_); refine ret_auto2 (by rfl) (by rfl) (by rfl) (by repeat (first | exact trivial | refine ⟨by first | rfl | omega, ?_⟩)) ?_ (by repeat (first | exact trivial | refine ⟨by rfl, by rfl, ?_⟩)) (by repeat (first | exact trivial | refine ⟨by rfl, by rfl, ?_⟩)); try rfl)
end Go.Proofs.YtgphlcdinejmdaaGreatDoor
