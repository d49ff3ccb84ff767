/- KEF, KEG, KEH, PL, KMH, KMI, KMJ, KMK: laid into one text. -/
import Derived.Test.YtgphlcdinejmdaaGreatDoorQJI
import Derived.Test.YtgphlcdinejmdaaGreatDoorQJK

/- spec.CircuitShort whose result is a row of its own. -/
namespace Go.Proofs.YtgphlcdinejmdaaGreatDoor
set_option linter.unusedVariables false
set_option linter.unusedSimpArgs false
set_option maxRecDepth 20000
open Go.RowKit
attribute [local irreducible] runA runX AW
theorem gq_KEF {H G : Prop} (k : H) (h : Hid H → G := by (intro hh; (first | (first | ((first | refine r_none ?_ | refine r_gt (by rfl) (by rfl) (by first | rfl | assumption | omega | (simp only [*, Bool.not_false, Bool.not_true]; first | done | fail) | (simp [*]; first | done | fail)) (by rfl) ?_ | refine r_gf (by rfl) (by rfl) (by first | rfl | assumption | omega | (simp only [*, Bool.not_false, Bool.not_true]; first | done | fail) | (simp [*]; first | done | fail)) (by rfl) ?_); (first | fail | ((first | (refine z_op (by rfl) ?_; first | refine z_ok ?_ ?_ | refine z_ex ?_ (by first | exact ft_raw rfl rfl | ((first | refine ft_rp rfl rfl rfl ?_ | refine ft_row rfl rfl rfl ?_ | refine ft_rpF rfl rfl rfl ?_ | refine ft_rowF rfl rfl rfl ?_ | refine up_row rfl rfl ?_ | refine up_rowF rfl rfl rfl ?_ | refine ct_0 rfl ?_ | refine ct_r rfl rfl ?_ | refine ct_c rfl rfl rfl ?_ | refine cu_all rfl ?_ | refine cu_to rfl ?_ | refine cu_from rfl ?_ | refine cu_p rfl ?_ | (first | refine mk_0 Int rfl rfl ?_ | refine mk_0 Gt rfl rfl ?_)); (first | omega | (simp only [List.length_append, List.length_replicate, List.length_cons, List.length_nil, List.length_set, List.length_take, List.length_drop, true_and]; omega))) | exact up_raw rfl | exact pk_t (by first | rfl | assumption | omega | (simp only [*, Bool.not_false, Bool.not_true]; first | done | fail) | (simp [*]; first | done | fail)) rfl | exact pk_f (by first | rfl | assumption | omega | (simp only [*, Bool.not_false, Bool.not_true]; first | done | fail) | (simp [*]; first | done | fail)) rfl | exact rw_c Gt rfl | exact rw_raw | exact pu_cv (fun w => rfl) (by omega) | exact pu_of (fun w => rfl) rfl | exact be_of (fun w => rfl) | exact nc_of (fun _ _ _ _ => rfl) rfl | exact bu_of (fun w => rfl) rfl | fail) ?_) | ((first | refine q_callE wsT wsZ (by rfl) ?_ | refine q_callVE wsT (by rfl) (by rfl) ?_); refine ⟨_, _, _, (by first | assumption), _, by rfl, ?_, ?_⟩)); focus (first | exact trivial | fail | exact rfl | (first | omega | (simp only [List.length_append, List.length_replicate, List.length_cons, List.length_nil, List.length_set, List.length_take, List.length_drop, true_and]; omega)) | exact cvB (fun w => rfl) | ((repeat' (first | exact rfl | exact cV_len _ | exact cV_ln rfl (by omega) | exact Cel.pos | omega | exact trivial | refine And.intro ?_ ?_)); done) | (simp [*]; done) | (simp; omega))) | fail)) | refine r_nt (by rfl) (by rfl) (by first | rfl | assumption | omega | (simp only [*, Bool.not_false, Bool.not_true]; first | done | fail) | (simp [*]; first | done | fail)) (by rfl) ?_ | refine r_nf (by rfl) (by rfl) (by first | rfl | assumption | omega | (simp only [*, Bool.not_false, Bool.not_true]; first | done | fail) | (simp [*]; first | done | fail)) (by rfl) ?_ | refine r_gu (by rfl) (by rfl) (by rfl) ?_ | refine r_nil ?_) | (first | refine aw_seq ?_ | refine aw_ct (by rfl) (by first | rfl | assumption | omega | (simp only [*, Bool.not_false, Bool.not_true]; first | done | fail) | (simp [*]; first | done | fail)) ?_ | refine aw_cf (by rfl) (by first | rfl | assumption | omega | (simp only [*, Bool.not_false, Bool.not_true]; first | done | fail) | (simp [*]; first | done | fail)) ?_ | refine aw_block ?_ | refine aw_region T0ok cfU_ok (by rfl) ?_ | refine aw_skip ?_ | refine aw_exit ?_ | refine ra_step ?_)); (repeat (first | (first | ((first | refine r_none ?_ | refine r_gt (by rfl) (by rfl) (by first | rfl | assumption | omega | (simp only [*, Bool.not_false, Bool.not_true]; first | done | fail) | (simp [*]; first | done | fail)) (by rfl) ?_ | refine r_gf (by rfl) (by rfl) (by first | rfl | assumption | omega | (simp only [*, Bool.not_false, Bool.not_true]; first | done | fail) | (simp [*]; first | done | fail)) (by rfl) ?_); (first | fail | ((first | (refine z_op (by rfl) ?_; first | refine z_ok ?_ ?_ | refine z_ex ?_ (by first | exact ft_raw rfl rfl | ((first | refine ft_rp rfl rfl rfl ?_ | refine ft_row rfl rfl rfl ?_ | refine ft_rpF rfl rfl rfl ?_ | refine ft_rowF rfl rfl rfl ?_ | refine up_row rfl rfl ?_ | refine up_rowF rfl rfl rfl ?_ | refine ct_0 rfl ?_ | refine ct_r rfl rfl ?_ | refine ct_c rfl rfl rfl ?_ | refine cu_all rfl ?_ | refine cu_to rfl ?_ | refine cu_from rfl ?_ | refine cu_p rfl ?_ | (first | refine mk_0 Int rfl rfl ?_ | refine mk_0 Gt rfl rfl ?_)); (first | omega | (simp only [List.length_append, List.length_replicate, List.length_cons, List.length_nil, List.length_set, List.length_take, List.length_drop, true_and]; omega))) | exact up_raw rfl | exact pk_t (by first | rfl | assumption | omega | (simp only [*, Bool.not_false, Bool.not_true]; first | done | fail) | (simp [*]; first | done | fail)) rfl | exact pk_f (by first | rfl | assumption | omega | (simp only [*, Bool.not_false, Bool.not_true]; first | done | fail) | (simp [*]; first | done | fail)) rfl | exact rw_c Gt rfl | exact rw_raw | exact pu_cv (fun w => rfl) (by omega) | exact pu_of (fun w => rfl) rfl | exact be_of (fun w => rfl) | exact nc_of (fun _ _ _ _ => rfl) rfl | exact bu_of (fun w => rfl) rfl | fail) ?_) | ((first | refine q_callE wsT wsZ (by rfl) ?_ | refine q_callVE wsT (by rfl) (by rfl) ?_); refine ⟨_, _, _, (by first | assumption), _, by rfl, ?_, ?_⟩)); focus (first | exact trivial | fail | exact rfl | (first | omega | (simp only [List.length_append, List.length_replicate, List.length_cons, List.length_nil, List.length_set, List.length_take, List.length_drop, true_and]; omega)) | exact cvB (fun w => rfl) | ((repeat' (first | exact rfl | exact cV_len _ | exact cV_ln rfl (by omega) | exact Cel.pos | omega | exact trivial | refine And.intro ?_ ?_)); done) | (simp [*]; done) | (simp; omega))) | fail)) | refine r_nt (by rfl) (by rfl) (by first | rfl | assumption | omega | (simp only [*, Bool.not_false, Bool.not_true]; first | done | fail) | (simp [*]; first | done | fail)) (by rfl) ?_ | refine r_nf (by rfl) (by rfl) (by first | rfl | assumption | omega | (simp only [*, Bool.not_false, Bool.not_true]; first | done | fail) | (simp [*]; first | done | fail)) (by rfl) ?_ | refine r_gu (by rfl) (by rfl) (by rfl) ?_ | refine r_nil ?_) | (first | refine aw_seq ?_ | refine aw_ct (by rfl) (by first | rfl | assumption | omega | (simp only [*, Bool.not_false, Bool.not_true]; first | done | fail) | (simp [*]; first | done | fail)) ?_ | refine aw_cf (by rfl) (by first | rfl | assumption | omega | (simp only [*, Bool.not_false, Bool.not_true]; first | done | fail) | (simp [*]; first | done | fail)) ?_ | refine aw_block ?_ | refine aw_region T0ok cfU_ok (by rfl) ?_ | refine aw_skip ?_ | refine aw_exit ?_ | refine ra_step ?_))); exact hh.out)) : G := h ⟨k⟩
theorem ga_KEF {H G : Prop} (k : H) (h : Hid H → G := by (intro hh; (first | refine r_none ?_ | refine r_gt (by rfl) (by rfl) (by first | rfl | assumption | omega | (simp only [*, Bool.not_false, Bool.not_true]; first | done | fail) | (simp [*]; first | done | fail)) (by rfl) ?_ | refine r_gf (by rfl) (by rfl) (by first | rfl | assumption | omega | (simp only [*, Bool.not_false, Bool.not_true]; first | done | fail) | (simp [*]; first | done | fail)) (by rfl) ?_); refine z_op (by rfl) ?_; refine z_al ?_ hh.out; focus (first | exact trivial | fail | exact rfl | (first | omega | (simp only [List.length_append, List.length_replicate, List.length_cons, List.length_nil, List.length_set, List.length_take, List.length_drop, true_and]; omega)) | exact cvB (fun w => rfl) | ((repeat' (first | exact rfl | exact cV_len _ | exact cV_ln rfl (by omega) | exact Cel.pos | omega | exact trivial | refine And.intro ?_ ?_)); done) | (simp [*]; done) | (simp; omega)))) : G := h ⟨k⟩
theorem k_dropO (l : List Gt) (a b : Int) (h : l.length ≤ 1000) : Kon Tryz.prog 83 [roA l, vI a, vI b] [] (slA 0 0 (drp l a b l.length)) [gRow (drp l a b l.length)] [] := by
  (refine kon_mk T0ok (fn := Tryz.f83) (c := Tryz.f83.body.get rfl) Tryz.func83 rfl (by rfl) (by rfl) (by rfl) ?_; intro hfit hfe)
  (repeat (first | refine gq_KEF ?_ | (refine ga_KEF ?_; intro _q ⟨_he, _hq⟩)))
  (refine aw_rd [0, 1, 2] [] (fun i : Nat => [(7, .g (.one (.sl 144 (drp l a b i).length (drp l a b i).length))), (8, vI i)]) (fun i => [(144, ((drp l a b i).length, gRow (drp l a b i)))]) (fun i => i ≤ l.length) (fun i => l.length - i) 0 (by rfl) (by rfl) ?_ (by rfl) (by repeat (first | exact trivial | refine ⟨by rfl, ?_⟩ | refine ⟨vI_of (by rfl) (by omega), ?_⟩)) (by repeat (first | exact trivial | refine ⟨by rfl, ?_⟩ | refine ⟨vI_of (by rfl) (by omega), ?_⟩)) ?_)
  · exact Nat.zero_le _
  rintro i hi
  have hil := drp_len l a b i
  rcases Nat.lt_or_ge i l.length with h5 | h5
  · have hd : decide ((i : Int) < (l.length : Int)) = true := decide_eq_true (by omega)
    cases hk : ((i : Int) != a && (i : Int) != b) with
    | true =>
      have e : drp l a b (i + 1) = drp l a b i ++ [l.getD i Cel.no] := by rw [drp, if_pos hk]
      have hk' := hk
      rw [Bool.and_eq_true] at hk'
      obtain ⟨hk1, hk2⟩ := hk'
      have e2 : (drp l a b (i + 1)).length = (drp l a b i).length + 1 := by rw [e, List.length_append]; rfl
      (repeat (first | refine gq_KEF ?_ | (refine ga_KEF ?_; intro _q ⟨_he, _hq⟩)))
      refine ⟨i + 1, h5, ?_, (by first | omega | (dsimp only; omega))⟩
      dsimp only
      rw [e2, e]
      refine ⟨by rfl, ⟨?_, (by repeat (first | exact trivial | refine ⟨by rfl, ?_⟩ | refine ⟨vI_of (by rfl) (by omega), ?_⟩))⟩, (by repeat (first | exact trivial | refine ⟨by rfl, ?_⟩ | refine ⟨vI_of (by rfl) (by omega), ?_⟩))⟩
      simp [St.put, St.lay, upd]
      rfl
    | false =>
      have e : drp l a b (i + 1) = drp l a b i := by rw [drp, if_neg (by rw [hk]; decide)]
      cases hk1 : ((i : Int) != a) with
      | false =>
        (repeat (first | refine gq_KEF ?_ | (refine ga_KEF ?_; intro _q ⟨_he, _hq⟩)))
        refine ⟨i + 1, h5, ?_, (by first | omega | (dsimp only; omega))⟩
        dsimp only
        rw [e]
        exact ⟨by rfl, ⟨by rfl, (by repeat (first | exact trivial | refine ⟨by rfl, ?_⟩ | refine ⟨vI_of (by rfl) (by omega), ?_⟩))⟩, (by repeat (first | exact trivial | refine ⟨by rfl, ?_⟩ | refine ⟨vI_of (by rfl) (by omega), ?_⟩))⟩
      | true =>
        have hk2 : ((i : Int) != b) = false := by rw [hk1, Bool.true_and] at hk; exact hk
        (repeat (first | refine gq_KEF ?_ | (refine ga_KEF ?_; intro _q ⟨_he, _hq⟩)))
        refine ⟨i + 1, h5, ?_, (by first | omega | (dsimp only; omega))⟩
        dsimp only
        rw [e]
        exact ⟨by rfl, ⟨by rfl, (by repeat (first | exact trivial | refine ⟨by rfl, ?_⟩ | refine ⟨vI_of (by rfl) (by omega), ?_⟩))⟩, (by repeat (first | exact trivial | refine ⟨by rfl, ?_⟩ | refine ⟨vI_of (by rfl) (by omega), ?_⟩))⟩
  · obtain rfl : i = l.length := by omega
    have hd : decide ((l.length : Int) < (l.length : Int)) = false := decide_eq_false (by omega)
    (repeat (first | refine gq_KEF ?_ | (refine ga_KEF ?_; intro _q ⟨_he, _hq⟩)))
    ((try refine aw_ret ?_); refine ret_auto2 (by rfl) (by rfl) (by rfl) (by repeat (first | exact trivial | refine ⟨by first | rfl | omega, ?_⟩)) ?_ (by repeat (first | exact trivial | refine ⟨by rfl, by rfl, ?_⟩)) (by repeat (first | exact trivial | refine ⟨by rfl, by rfl, ?_⟩)); try rfl)
set_option maxHeartbeats 1000000 in
theorem k_shortO (n : Int) (l : List Gt) (hr : -9223372036854775808 ≤ n ∧ n ≤ 9223372036854775807) (h : cokB n l = true) : Kon Tryz.prog 66 [vI n, roA l] [] (slA 0 0 (shr l l.length)) [gRow (shr l l.length)] [] := by
  have hC := k_cvS n l (by have := (cokB_t h).2.1; omega) hr
  have hl24 := (cokB_t h).2.1
  rw [h] at hC
  (refine kon_mk T0ok (fn := Tryz.f66) (c := Tryz.f66.body.get rfl) Tryz.func66 rfl (by rfl) (by rfl) (by rfl) ?_; intro hfit hfe)
  (repeat (first | refine gq_KEF ?_ | (refine ga_KEF ?_; intro _q ⟨_he, _hq⟩)))
  (refine aw_rd [0, 1] [] (fun g : Option (List Gt × Nat) => match g with | none => [(5, .g (.one (.sl 128 1 l.length)))] | some g => [(5, .g (.one (.sl 464 g.2 g.1.length)))]) (fun g => match g with | none => [(128, (1, gRow l))] | some g => [(464, (g.2, gRow g.1))]) (fun g => match g with | none => True | some g => cokB n g.1 = true ∧ shr g.1 g.1.length = shr l l.length) (fun g => match g with | none => l.length + 1 | some g => g.1.length) none (by rfl) (by rfl) ?_ (by rfl) (by repeat (first | exact trivial | refine ⟨by rfl, ?_⟩ | refine ⟨vI_of (by rfl) (by omega), ?_⟩)) (by repeat (first | exact trivial | refine ⟨by rfl, ?_⟩ | refine ⟨vI_of (by rfl) (by omega), ?_⟩)) ?_)
  · exact trivial
  have hx : ∀ o : List Gt, (usl o 0).1 < 0 → shr o o.length = o := fun o hd => by
    cases hm : o.length with
    | zero => rfl
    | succ m => rw [shr, if_pos hd]
  rintro (_ | ⟨o, v⟩) ho
  · have hU := k_uspS n l h
    have hD := k_dropO l (usl l 0).1 (usl l 0).2 (by omega)
    cases hd : decide ((usl l 0).1 < 0) with
    | true =>
      rw [hx l (of_decide_eq_true hd)]
      (repeat (first | refine gq_KEF ?_ | (refine ga_KEF ?_; intro _q ⟨_he, _hq⟩)))
      ((try refine aw_ret ?_); refine ret_auto2 (by rfl) (by rfl) (by rfl) (by repeat (first | exact trivial | refine ⟨by first | rfl | omega, ?_⟩)) ?_ (by repeat (first | exact trivial | refine ⟨by rfl, by rfl, ?_⟩)) (by repeat (first | exact trivial | refine ⟨by rfl, by rfl, ?_⟩)); try rfl)
    | false =>
      have hnn := of_decide_eq_false hd
      have hless := usl_less l hnn
      have hinv : cokB n (drp l (usl l 0).1 (usl l 0).2 l.length) = true ∧ shr (drp l (usl l 0).1 (usl l 0).2 l.length) (drp l (usl l 0).1 (usl l 0).2 l.length).length = shr l l.length := ⟨drp_ok h, shr_step l hnn⟩
      generalize drp l (usl l 0).1 (usl l 0).2 l.length = o' at *
      (repeat (first | refine gq_KEF ?_ | (refine ga_KEF ?_; intro _q ⟨_he, _hq⟩)))
      exact ⟨some (o', 0), hinv, ⟨by rfl, (by repeat (first | exact trivial | refine ⟨by rfl, ?_⟩ | refine ⟨vI_of (by rfl) (by omega), ?_⟩)), (by repeat (first | exact trivial | refine ⟨by rfl, ?_⟩ | refine ⟨vI_of (by rfl) (by omega), ?_⟩))⟩, (by first | omega | (dsimp only; omega))⟩
  · obtain ⟨ho, hs⟩ : cokB n o = true ∧ shr o o.length = shr l l.length := ho
    have hU := k_uspS n o ho
    have ho24 := (cokB_t ho).2.1
    have hD := k_dropO o (usl o 0).1 (usl o 0).2 (by omega)
    cases hd : decide ((usl o 0).1 < 0) with
    | true =>
      rw [← hs, hx o (of_decide_eq_true hd)]
      clear hs
      (repeat (first | refine gq_KEF ?_ | (refine ga_KEF ?_; intro _q ⟨_he, _hq⟩)))
      ((try refine aw_ret ?_); refine ret_auto2 (by rfl) (by rfl) (by rfl) (by repeat (first | exact trivial | refine ⟨by first | rfl | omega, ?_⟩)) ?_ (by repeat (first | exact trivial | refine ⟨by rfl, by rfl, ?_⟩)) (by repeat (first | exact trivial | refine ⟨by rfl, by rfl, ?_⟩)); try rfl)
    | false =>
      have hnn := of_decide_eq_false hd
      have hless := usl_less o hnn
      have hinv : cokB n (drp o (usl o 0).1 (usl o 0).2 o.length) = true ∧ shr (drp o (usl o 0).1 (usl o 0).2 o.length) (drp o (usl o 0).1 (usl o 0).2 o.length).length = shr l l.length := ⟨drp_ok ho, (shr_step o hnn).trans hs⟩
      clear hs
      generalize drp o (usl o 0).1 (usl o 0).2 o.length = o' at *
      (repeat (first | refine gq_KEF ?_ | (refine ga_KEF ?_; intro _q ⟨_he, _hq⟩)))
      exact ⟨some (o', v + 1), hinv, ⟨by rfl, (by repeat (first | exact trivial | refine ⟨by rfl, ?_⟩ | refine ⟨vI_of (by rfl) (by omega), ?_⟩)), (by repeat (first | exact trivial | refine ⟨by rfl, ?_⟩ | refine ⟨vI_of (by rfl) (by omega), ?_⟩))⟩, (by first | omega | (dsimp only; omega))⟩
end Go.Proofs.YtgphlcdinejmdaaGreatDoor

/- spec.BenchDo: the deed that shortens. -/
namespace Go.Proofs.YtgphlcdinejmdaaGreatDoor
set_option linter.unusedVariables false
set_option linter.unusedSimpArgs false
set_option maxRecDepth 20000
open Go.RowKit
attribute [local irreducible] runA runX AW
def wsTG : WsT := wsT
theorem gq_KEG {H G : Prop} (k : H) (h : Hid H → G := by (intro hh; (first | (first | ((first | refine r_none ?_ | refine r_gt (by rfl) (by rfl) (by first | rfl | assumption | omega | (simp only [*, Bool.not_false, Bool.not_true]; first | done | fail) | (simp [*]; first | done | fail)) (by rfl) ?_ | refine r_gf (by rfl) (by rfl) (by first | rfl | assumption | omega | (simp only [*, Bool.not_false, Bool.not_true]; first | done | fail) | (simp [*]; first | done | fail)) (by rfl) ?_); (first | fail | ((first | (refine z_op (by rfl) ?_; first | refine z_ok ?_ ?_ | refine z_ex ?_ (by first | exact ft_raw rfl rfl | ((first | refine ft_rp rfl rfl rfl ?_ | refine ft_row rfl rfl rfl ?_ | refine ft_rpF rfl rfl rfl ?_ | refine ft_rowF rfl rfl rfl ?_ | refine up_row rfl rfl ?_ | refine up_rowF rfl rfl rfl ?_ | refine ct_0 rfl ?_ | refine ct_r rfl rfl ?_ | refine ct_c rfl rfl rfl ?_ | refine cu_all rfl ?_ | refine cu_to rfl ?_ | refine cu_from rfl ?_ | refine cu_p rfl ?_ | (first | refine mk_0 Gt rfl rfl ?_)); (first | omega | (simp only [List.length_append, List.length_replicate, List.length_cons, List.length_nil, List.length_set, List.length_take, List.length_drop, true_and]; omega))) | exact up_raw rfl | exact pk_t (by first | rfl | assumption | omega | (simp only [*, Bool.not_false, Bool.not_true]; first | done | fail) | (simp [*]; first | done | fail)) rfl | exact pk_f (by first | rfl | assumption | omega | (simp only [*, Bool.not_false, Bool.not_true]; first | done | fail) | (simp [*]; first | done | fail)) rfl | exact rw_c Gt rfl | exact rw_raw | exact pu_cv (fun w => rfl) (by omega) | exact pu_of (fun w => rfl) rfl | exact be_of (fun w => rfl) | exact nc_of (fun _ _ _ _ => rfl) rfl | exact bu_of (fun w => rfl) rfl | fail) ?_) | ((first | refine q_callE wsTG wsZ (by rfl) ?_ | refine q_callVE wsTG (by rfl) (by rfl) ?_); refine ⟨_, _, _, (by first | assumption | exact k_copyS _ _ _ _ _ (by omega)), _, by rfl, ?_, ?_⟩)); focus (first | exact trivial | fail | exact rfl | (first | omega | (simp only [List.length_append, List.length_replicate, List.length_cons, List.length_nil, List.length_set, List.length_take, List.length_drop, true_and]; omega)) | exact cvB (fun w => rfl) | ((repeat' (first | exact rfl | exact cV_len _ | exact cV_ln rfl (by omega) | exact Cel.pos | omega | exact trivial | refine And.intro ?_ ?_)); done) | (simp [*]; done) | (simp; omega))) | fail)) | refine r_nt (by rfl) (by rfl) (by first | rfl | assumption | omega | (simp only [*, Bool.not_false, Bool.not_true]; first | done | fail) | (simp [*]; first | done | fail)) (by rfl) ?_ | refine r_nf (by rfl) (by rfl) (by first | rfl | assumption | omega | (simp only [*, Bool.not_false, Bool.not_true]; first | done | fail) | (simp [*]; first | done | fail)) (by rfl) ?_ | refine r_gu (by rfl) (by rfl) (by rfl) ?_ | refine r_nil ?_) | (first | refine aw_seq ?_ | refine aw_ct (by rfl) (by first | rfl | assumption | omega | (simp only [*, Bool.not_false, Bool.not_true]; first | done | fail) | (simp [*]; first | done | fail)) ?_ | refine aw_cf (by rfl) (by first | rfl | assumption | omega | (simp only [*, Bool.not_false, Bool.not_true]; first | done | fail) | (simp [*]; first | done | fail)) ?_ | refine aw_block ?_ | refine aw_region T0ok cfU_ok (by rfl) ?_ | refine aw_skip ?_ | refine aw_exit ?_ | refine ra_step ?_)); (repeat (first | (first | ((first | refine r_none ?_ | refine r_gt (by rfl) (by rfl) (by first | rfl | assumption | omega | (simp only [*, Bool.not_false, Bool.not_true]; first | done | fail) | (simp [*]; first | done | fail)) (by rfl) ?_ | refine r_gf (by rfl) (by rfl) (by first | rfl | assumption | omega | (simp only [*, Bool.not_false, Bool.not_true]; first | done | fail) | (simp [*]; first | done | fail)) (by rfl) ?_); (first | fail | ((first | (refine z_op (by rfl) ?_; first | refine z_ok ?_ ?_ | refine z_ex ?_ (by first | exact ft_raw rfl rfl | ((first | refine ft_rp rfl rfl rfl ?_ | refine ft_row rfl rfl rfl ?_ | refine ft_rpF rfl rfl rfl ?_ | refine ft_rowF rfl rfl rfl ?_ | refine up_row rfl rfl ?_ | refine up_rowF rfl rfl rfl ?_ | refine ct_0 rfl ?_ | refine ct_r rfl rfl ?_ | refine ct_c rfl rfl rfl ?_ | refine cu_all rfl ?_ | refine cu_to rfl ?_ | refine cu_from rfl ?_ | refine cu_p rfl ?_ | (first | refine mk_0 Gt rfl rfl ?_)); (first | omega | (simp only [List.length_append, List.length_replicate, List.length_cons, List.length_nil, List.length_set, List.length_take, List.length_drop, true_and]; omega))) | exact up_raw rfl | exact pk_t (by first | rfl | assumption | omega | (simp only [*, Bool.not_false, Bool.not_true]; first | done | fail) | (simp [*]; first | done | fail)) rfl | exact pk_f (by first | rfl | assumption | omega | (simp only [*, Bool.not_false, Bool.not_true]; first | done | fail) | (simp [*]; first | done | fail)) rfl | exact rw_c Gt rfl | exact rw_raw | exact pu_cv (fun w => rfl) (by omega) | exact pu_of (fun w => rfl) rfl | exact be_of (fun w => rfl) | exact nc_of (fun _ _ _ _ => rfl) rfl | exact bu_of (fun w => rfl) rfl | fail) ?_) | ((first | refine q_callE wsTG wsZ (by rfl) ?_ | refine q_callVE wsTG (by rfl) (by rfl) ?_); refine ⟨_, _, _, (by first | assumption | exact k_copyS _ _ _ _ _ (by omega)), _, by rfl, ?_, ?_⟩)); focus (first | exact trivial | fail | exact rfl | (first | omega | (simp only [List.length_append, List.length_replicate, List.length_cons, List.length_nil, List.length_set, List.length_take, List.length_drop, true_and]; omega)) | exact cvB (fun w => rfl) | ((repeat' (first | exact rfl | exact cV_len _ | exact cV_ln rfl (by omega) | exact Cel.pos | omega | exact trivial | refine And.intro ?_ ?_)); done) | (simp [*]; done) | (simp; omega))) | fail)) | refine r_nt (by rfl) (by rfl) (by first | rfl | assumption | omega | (simp only [*, Bool.not_false, Bool.not_true]; first | done | fail) | (simp [*]; first | done | fail)) (by rfl) ?_ | refine r_nf (by rfl) (by rfl) (by first | rfl | assumption | omega | (simp only [*, Bool.not_false, Bool.not_true]; first | done | fail) | (simp [*]; first | done | fail)) (by rfl) ?_ | refine r_gu (by rfl) (by rfl) (by rfl) ?_ | refine r_nil ?_) | (first | refine aw_seq ?_ | refine aw_ct (by rfl) (by first | rfl | assumption | omega | (simp only [*, Bool.not_false, Bool.not_true]; first | done | fail) | (simp [*]; first | done | fail)) ?_ | refine aw_cf (by rfl) (by first | rfl | assumption | omega | (simp only [*, Bool.not_false, Bool.not_true]; first | done | fail) | (simp [*]; first | done | fail)) ?_ | refine aw_block ?_ | refine aw_region T0ok cfU_ok (by rfl) ?_ | refine aw_skip ?_ | refine aw_exit ?_ | refine ra_step ?_))); exact hh.out)) : G := h ⟨k⟩
theorem ga_KEG {H G : Prop} (k : H) (h : Hid H → G := by (intro hh; (first | refine r_none ?_ | refine r_gt (by rfl) (by rfl) (by first | rfl | assumption | omega | (simp only [*, Bool.not_false, Bool.not_true]; first | done | fail) | (simp [*]; first | done | fail)) (by rfl) ?_ | refine r_gf (by rfl) (by rfl) (by first | rfl | assumption | omega | (simp only [*, Bool.not_false, Bool.not_true]; first | done | fail) | (simp [*]; first | done | fail)) (by rfl) ?_); refine z_op (by rfl) ?_; refine z_al ?_ hh.out; focus (first | exact trivial | fail | exact rfl | (first | omega | (simp only [List.length_append, List.length_replicate, List.length_cons, List.length_nil, List.length_set, List.length_take, List.length_drop, true_and]; omega)) | exact cvB (fun w => rfl) | ((repeat' (first | exact rfl | exact cV_len _ | exact cV_ln rfl (by omega) | exact Cel.pos | omega | exact trivial | refine And.intro ?_ ?_)); done) | (simp [*]; done) | (simp; omega)))) : G := h ⟨k⟩
theorem gs_KEG {H G : Prop} (k : H) (h : Hid H → G := by (intro hh; (first | ((first | refine r_none ?_ | refine r_gt (by rfl) (by rfl) (by first | rfl | assumption | omega | (simp only [*, Bool.not_false, Bool.not_true]; first | done | fail) | (simp [*]; first | done | fail)) (by rfl) ?_ | refine r_gf (by rfl) (by rfl) (by first | rfl | assumption | omega | (simp only [*, Bool.not_false, Bool.not_true]; first | done | fail) | (simp [*]; first | done | fail)) (by rfl) ?_); (first | fail | ((first | (refine z_op (by rfl) ?_; first | refine z_ok ?_ ?_ | refine z_ex ?_ (by first | exact ft_raw rfl rfl | ((first | refine ft_rp rfl rfl rfl ?_ | refine ft_row rfl rfl rfl ?_ | refine ft_rpF rfl rfl rfl ?_ | refine ft_rowF rfl rfl rfl ?_ | refine up_row rfl rfl ?_ | refine up_rowF rfl rfl rfl ?_ | refine ct_0 rfl ?_ | refine ct_r rfl rfl ?_ | refine ct_c rfl rfl rfl ?_ | refine cu_all rfl ?_ | refine cu_to rfl ?_ | refine cu_from rfl ?_ | refine cu_p rfl ?_ | (first | refine mk_0 Gt rfl rfl ?_)); (first | omega | (simp only [List.length_append, List.length_replicate, List.length_cons, List.length_nil, List.length_set, List.length_take, List.length_drop, true_and]; omega))) | exact up_raw rfl | exact pk_t (by first | rfl | assumption | omega | (simp only [*, Bool.not_false, Bool.not_true]; first | done | fail) | (simp [*]; first | done | fail)) rfl | exact pk_f (by first | rfl | assumption | omega | (simp only [*, Bool.not_false, Bool.not_true]; first | done | fail) | (simp [*]; first | done | fail)) rfl | exact rw_c Gt rfl | exact rw_raw | exact pu_cv (fun w => rfl) (by omega) | exact pu_of (fun w => rfl) rfl | exact be_of (fun w => rfl) | exact nc_of (fun _ _ _ _ => rfl) rfl | exact bu_of (fun w => rfl) rfl | fail) ?_) | ((first | refine q_callE wsTG wsZ (by rfl) ?_ | refine q_callVE wsTG (by rfl) (by rfl) ?_); refine ⟨_, _, _, (by first | assumption | exact k_copyS _ _ _ _ _ (by omega)), _, by rfl, ?_, ?_⟩)); focus (first | exact trivial | fail | exact rfl | (first | omega | (simp only [List.length_append, List.length_replicate, List.length_cons, List.length_nil, List.length_set, List.length_take, List.length_drop, true_and]; omega)) | exact cvB (fun w => rfl) | ((repeat' (first | exact rfl | exact cV_len _ | exact cV_ln rfl (by omega) | exact Cel.pos | omega | exact trivial | refine And.intro ?_ ?_)); done) | (simp [*]; done) | (simp; omega))) | fail)) | refine r_nt (by rfl) (by rfl) (by first | rfl | assumption | omega | (simp only [*, Bool.not_false, Bool.not_true]; first | done | fail) | (simp [*]; first | done | fail)) (by rfl) ?_ | refine r_nf (by rfl) (by rfl) (by first | rfl | assumption | omega | (simp only [*, Bool.not_false, Bool.not_true]; first | done | fail) | (simp [*]; first | done | fail)) (by rfl) ?_ | refine r_gu (by rfl) (by rfl) (by rfl) ?_ | refine r_nil ?_); (repeat (first | ((first | refine r_none ?_ | refine r_gt (by rfl) (by rfl) (by first | rfl | assumption | omega | (simp only [*, Bool.not_false, Bool.not_true]; first | done | fail) | (simp [*]; first | done | fail)) (by rfl) ?_ | refine r_gf (by rfl) (by rfl) (by first | rfl | assumption | omega | (simp only [*, Bool.not_false, Bool.not_true]; first | done | fail) | (simp [*]; first | done | fail)) (by rfl) ?_); (first | fail | ((first | (refine z_op (by rfl) ?_; first | refine z_ok ?_ ?_ | refine z_ex ?_ (by first | exact ft_raw rfl rfl | ((first | refine ft_rp rfl rfl rfl ?_ | refine ft_row rfl rfl rfl ?_ | refine ft_rpF rfl rfl rfl ?_ | refine ft_rowF rfl rfl rfl ?_ | refine up_row rfl rfl ?_ | refine up_rowF rfl rfl rfl ?_ | refine ct_0 rfl ?_ | refine ct_r rfl rfl ?_ | refine ct_c rfl rfl rfl ?_ | refine cu_all rfl ?_ | refine cu_to rfl ?_ | refine cu_from rfl ?_ | refine cu_p rfl ?_ | (first | refine mk_0 Gt rfl rfl ?_)); (first | omega | (simp only [List.length_append, List.length_replicate, List.length_cons, List.length_nil, List.length_set, List.length_take, List.length_drop, true_and]; omega))) | exact up_raw rfl | exact pk_t (by first | rfl | assumption | omega | (simp only [*, Bool.not_false, Bool.not_true]; first | done | fail) | (simp [*]; first | done | fail)) rfl | exact pk_f (by first | rfl | assumption | omega | (simp only [*, Bool.not_false, Bool.not_true]; first | done | fail) | (simp [*]; first | done | fail)) rfl | exact rw_c Gt rfl | exact rw_raw | exact pu_cv (fun w => rfl) (by omega) | exact pu_of (fun w => rfl) rfl | exact be_of (fun w => rfl) | exact nc_of (fun _ _ _ _ => rfl) rfl | exact bu_of (fun w => rfl) rfl | fail) ?_) | ((first | refine q_callE wsTG wsZ (by rfl) ?_ | refine q_callVE wsTG (by rfl) (by rfl) ?_); refine ⟨_, _, _, (by first | assumption | exact k_copyS _ _ _ _ _ (by omega)), _, by rfl, ?_, ?_⟩)); focus (first | exact trivial | fail | exact rfl | (first | omega | (simp only [List.length_append, List.length_replicate, List.length_cons, List.length_nil, List.length_set, List.length_take, List.length_drop, true_and]; omega)) | exact cvB (fun w => rfl) | ((repeat' (first | exact rfl | exact cV_len _ | exact cV_ln rfl (by omega) | exact Cel.pos | omega | exact trivial | refine And.intro ?_ ?_)); done) | (simp [*]; done) | (simp; omega))) | fail)) | refine r_nt (by rfl) (by rfl) (by first | rfl | assumption | omega | (simp only [*, Bool.not_false, Bool.not_true]; first | done | fail) | (simp [*]; first | done | fail)) (by rfl) ?_ | refine r_nf (by rfl) (by rfl) (by first | rfl | assumption | omega | (simp only [*, Bool.not_false, Bool.not_true]; first | done | fail) | (simp [*]; first | done | fail)) (by rfl) ?_ | refine r_gu (by rfl) (by rfl) (by rfl) ?_ | refine r_nil ?_)); exact hh.out)) : G := h ⟨k⟩
theorem gc_KEG {H G : Prop} (k : H) (h : Hid H → G := by (intro hh; (first | refine aw_seq ?_ | refine aw_ct (by rfl) (by first | rfl | assumption | omega | (simp only [*, Bool.not_false, Bool.not_true]; first | done | fail) | (simp [*]; first | done | fail)) ?_ | refine aw_cf (by rfl) (by first | rfl | assumption | omega | (simp only [*, Bool.not_false, Bool.not_true]; first | done | fail) | (simp [*]; first | done | fail)) ?_ | refine aw_block ?_ | refine aw_region T0ok cfU_ok (by rfl) ?_ | refine aw_skip ?_ | refine aw_exit ?_ | refine ra_step ?_); (repeat (first | refine aw_seq ?_ | refine aw_ct (by rfl) (by first | rfl | assumption | omega | (simp only [*, Bool.not_false, Bool.not_true]; first | done | fail) | (simp [*]; first | done | fail)) ?_ | refine aw_cf (by rfl) (by first | rfl | assumption | omega | (simp only [*, Bool.not_false, Bool.not_true]; first | done | fail) | (simp [*]; first | done | fail)) ?_ | refine aw_block ?_ | refine aw_region T0ok cfU_ok (by rfl) ?_ | refine aw_skip ?_ | refine aw_exit ?_ | refine ra_step ?_)); exact hh.out)) : G := h ⟨k⟩
theorem gd_KEG {H G : Prop} (k : H) (h : Hid H → G := by (intro hh; (refine aw_draw mixed T0ok cfU_ok [] (by rfl) (by kernel_rfl) ?_); exact hh.out)) : G := h ⟨k⟩
theorem k_bdoSf (n : Int) (l : List Gt) (f w m : Int) (A : Nat) (p : Gt) (B C : List Gt) (h : bok n l f w A = true) (hN : Kon Tryz.prog 24 [dV ⟨4, m, p⟩] [] (vB true) [] [])
    (hBs : Kon Tryz.prog 66 [vI n, roA (l.take A)] [] (slA 0 0 B) [gRow B] []) (hCs : Kon Tryz.prog 66 [vI n, roA (l.drop A)] [] (slA 0 0 C) [gRow C] []) (hBC : B.length ≤ 24 ∧ C.length ≤ 24) (he : B.length + C.length = l.length) : Kon Tryz.prog 45 [bG n l f w A, dV ⟨4, m, p⟩] [] (bT n l f w A false) [gRow l] [] := by
  obtain ⟨hc, hf, hAl, hwe⟩ := bok_t h
  obtain ⟨hn, hl24, ha⟩ := cokB_t hc
  have hB := k_bvS n l f w A (by omega) (by omega)
  rw [h] at hB
  have hd : ((B.length : Int) + (C.length : Int) == (l.length : Int)) = true := by rw [beq_iff_eq]; omega
  (refine kon_mk T0ok (fn := Tryz.f45) (c := Tryz.f45.body.get rfl) Tryz.func45 rfl (by rfl) (by rfl) (by rfl) ?_; intro hfit hfe)
  (repeat (first | refine gq_KEG ?_ | (refine ga_KEG ?_; intro _q ⟨_he, _hq⟩) | refine gd_KEG ?_))
  ((try refine aw_ret ?_); refine ret_auto2 (by rfl) (by rfl) (by rfl) (by repeat (first | exact trivial | refine ⟨by first | rfl | omega, ?_⟩)) ?_ (by repeat (first | exact trivial | refine ⟨by rfl, by rfl, ?_⟩)) (by repeat (first | exact trivial | refine ⟨by rfl, by rfl, ?_⟩)); try rfl)
set_option maxHeartbeats 2000000 in
theorem k_bdoSt (n : Int) (l : List Gt) (f w m : Int) (A : Nat) (p : Gt) (B C : List Gt) (h : bok n l f w A = true) (hN : Kon Tryz.prog 24 [dV ⟨4, m, p⟩] [] (vB true) [] [])
    (hBs : Kon Tryz.prog 66 [vI n, roA (l.take A)] [] (slA 0 0 B) [gRow B] []) (hCs : Kon Tryz.prog 66 [vI n, roA (l.drop A)] [] (slA 0 0 C) [gRow C] []) (hBC : B.length ≤ 24 ∧ C.length ≤ 24) (he : B.length + C.length ≠ l.length) : Kon Tryz.prog 45 [bG n l f w A, dV ⟨4, m, p⟩] [] (bT n (B ++ C) f w (((B ++ C).length : Int) - (C.length : Int)) true) [gRow (B ++ C)] [] := by
  obtain ⟨hc, hf, hAl, hwe⟩ := bok_t h
  obtain ⟨hn, hl24, ha⟩ := cokB_t hc
  have hB := k_bvS n l f w A (by omega) (by omega)
  rw [h] at hB
  have hd : ((B.length : Int) + (C.length : Int) == (l.length : Int)) = false := by rw [beq_eq_false_iff_ne]; omega
  (refine kon_mk T0ok (fn := Tryz.f45) (c := Tryz.f45.body.get rfl) Tryz.func45 rfl (by rfl) (by rfl) (by rfl) ?_; intro hfit hfe)
  (repeat (first | refine gq_KEG ?_ | (refine ga_KEG ?_; intro _q ⟨_he, _hq⟩)))
  (refine aw_draw mixed T0ok cfU_ok [] (by rfl) (by kernel_rfl) ?_)
  (repeat (first | refine gs_KEG ?_ | (refine ga_KEG ?_; intro _q ⟨_he, _hq⟩)))
  (repeat refine gc_KEG ?_)
  (refine aw_draw mixed T0ok cfU_ok [] (by rfl) (by kernel_rfl) ?_)
  (repeat (first | refine gs_KEG ?_ | (refine ga_KEG ?_; intro _q ⟨_he, _hq⟩)))
  (repeat refine gc_KEG ?_)
  (repeat (first | refine gs_KEG ?_ | (refine ga_KEG ?_; intro _q ⟨_he, _hq⟩)))
  (repeat refine gc_KEG ?_)
  (repeat (first | refine gs_KEG ?_ | (refine ga_KEG ?_; intro _q ⟨_he, _hq⟩)))
  (repeat refine gc_KEG ?_)
  (repeat (first | refine gs_KEG ?_ | (refine ga_KEG ?_; intro _q ⟨_he, _hq⟩)))
  (repeat (first | refine gq_KEG ?_ | (refine ga_KEG ?_; intro _q ⟨_he, _hq⟩)))
  ((try refine aw_ret ?_); refine ret_auto2 (by rfl) (by rfl) (by rfl) (by repeat (first | exact trivial | refine ⟨by first | rfl | omega, ?_⟩)) ?_ (by repeat (first | exact trivial | refine ⟨by rfl, by rfl, ?_⟩)) (by repeat (first | exact trivial | refine ⟨by rfl, by rfl, ?_⟩)); try rfl)
end Go.Proofs.YtgphlcdinejmdaaGreatDoor

/- spec.BenchDo at a valid bench: some bench. -/
namespace Go.Proofs.YtgphlcdinejmdaaGreatDoor
set_option linter.unusedVariables false
set_option linter.unusedSimpArgs false
open Go.RowKit
end Go.Proofs.YtgphlcdinejmdaaGreatDoor

/- Plain: what is left of a circuit made shorter; a deed done to a bench. -/
namespace Go.Proofs.YtgphlcdinejmdaaGreatDoor
set_option linter.unusedVariables false
set_option linter.unusedSimpArgs false
theorem drp_all {n : Int} {l : List Gt} (a b : Int) (h : l.all (gok n) = true) : (drp l a b l.length).all (gok n) = true := by
  rw [List.all_eq_true] at h ⊢
  exact fun g hg => h g (drp_mem l a b l.length (Nat.le_refl _) g hg)
theorem drp_seg {l : List Gt} {a b : Nat} (hab : a < b) (hb : b < l.length) : drp l a b l.length = l.take a ++ seg l a b ++ l.drop (b + 1) := by
  rw [drp_del l a b hab l.length (Nat.le_refl _) hb, List.take_length, List.append_assoc, List.drop_take]; rfl
theorem shr_all {n : Int} : ∀ (f : Nat) (l : List Gt), l.all (gok n) = true → (shr l f).all (gok n) = true
  | 0, l, h => h
  | f + 1, l, h => by
    rw [shr]; split
    · exact h
    · exact shr_all f _ (drp_all _ _ h)
theorem shr_same {n : Int} {w : Int} (hw : 0 ≤ w ∧ w < 2 ^ n.toNat) : ∀ (f : Nat) (l : List Gt), l.all (gok n) = true → cr (shr l f) w = cr l w
  | 0, l, h => rfl
  | f + 1, l, h => by
    rw [shr]; split
    · rfl
    · rename_i hn
      rw [shr_same hw f _ (drp_all _ _ h)]
      rcases usl_spec l 0 with hu | ⟨a, b, hu, hab, hbl, heq, hap⟩
      · rw [hu] at hn; simp at hn
      · rw [Nat.zero_add, Nat.zero_add] at hu
        rw [hu]
        show cr (drp l a b l.length) w = cr l w
        have hga := all_at h (show a < l.length by omega)
        have hsp := split_pair hab hbl
        have hall := drp_all (a : Int) (b : Int) h
        rw [drp_seg hab hbl] at hall ⊢
        rw [List.all_append, List.all_append, Bool.and_eq_true, Bool.and_eq_true] at hall
        have := cr_less (s := l.drop (b + 1)) hga hall.1.1 hall.1.2 hap hw
        rw [← this]
        conv => rhs; rw [hsp]
        rw [← heq]; rfl
/-- A bench's gates, word and place behind a deed; nothing if it cannot be done. -/
def doM (n : Int) (l : List Gt) (w : Int) (A : Nat) (d : Dd) : Option (List Gt × Int × Nat) :=
  bif nmD d then (
    if d.k = 0 then (bif btw d.n 1 ((l.length : Int) - A) then some (l, fw l A d.n.toNat w, A + d.n.toNat) else none)
    else if d.k = 1 then (bif btw d.n 1 A then some (l, bw l A d.n.toNat w, A - d.n.toNat) else none)
    else if d.k = 2 then (bif gok n d.p && decide (l.length < 24) then some (l.take A ++ d.p :: l.drop A, w, A) else none)
    else if d.k = 3 then (bif decide (A < l.length) then some (l.take A ++ l.drop (A + 1), w, A) else none)
    else bif decide ((shr (l.take A) (l.take A).length).length + (shr (l.drop A) (l.drop A).length).length = l.length) then none else some (shr (l.take A) (l.take A).length ++ shr (l.drop A) (l.drop A).length, w, (shr (l.take A) (l.take A).length).length))
  else none
theorem bok_mk {n : Int} {l : List Gt} {f w : Int} {A : Nat} (hn : 1 ≤ n ∧ n ≤ 8) (hl : l.length ≤ 24) (ha : l.all (gok n) = true) (hf : wvB n f = true) (hA : A ≤ l.length) (hw : w = cr (l.take A) f) : bok n l f w A = true := by
  have hb : btw (A : Int) 0 (l.length : Int) = true := by unfold btw; rw [decide_eq_true (by omega), decide_eq_true (by omega)]; rfl
  unfold bok
  rw [cokB_mk3 hn hl ha, hf, hb]
  show (w == cr (l.take (A : Int).toNat) f) = true
  rw [beq_iff_eq]; exact hw
theorem doM_ok {n : Int} {l l' : List Gt} {f w w' : Int} {A A' : Nat} {d : Dd} (h : bok n l f w A = true) (hd : doM n l w A d = some (l', w', A')) : bok n l' f w' A' = true := by
  obtain ⟨hc, hf, hA, hwe⟩ := bok_t h
  obtain ⟨hn, hl24, ha⟩ := cokB_t hc
  have hfv := wvB_t hf
  have hAl : A ≤ l.length := by omega
  replace hwe : w = cr (l.take A) f := hwe
  have hat : (l.take A).all (gok n) = true := all_take ha A
  have had : (l.drop A).all (gok n) = true := all_dropT ha A
  unfold doM at hd
  cases hnm : nmD d with
  | false => rw [hnm] at hd; cases hd
  | true =>
    rw [hnm] at hd
    simp only [cond_true] at hd
    split at hd
    · cases hb : btw d.n 1 ((l.length : Int) - A) with
      | false => rw [hb] at hd; cases hd
      | true =>
        rw [hb] at hd
        simp only [cond_true] at hd
        cases hd
        have hb2 := btw_t hb
        obtain ⟨m, hm⟩ : ∃ m : Nat, d.n = (m : Int) := ⟨d.n.toNat, by omega⟩
        rw [hm, Int.toNat_natCast]
        refine bok_mk hn hl24 ha hf (by omega) ?_
        rw [fw, hwe, ← cr_append, List.take_add]
    · split at hd
      · cases hb : btw d.n 1 A with
        | false => rw [hb] at hd; cases hd
        | true =>
          rw [hb] at hd
          simp only [cond_true] at hd
          cases hd
          have hb2 := btw_t hb
          obtain ⟨m, hm⟩ : ∃ m : Nat, d.n = (m : Int) := ⟨d.n.toNat, by omega⟩
          rw [hm, Int.toNat_natCast]
          refine bok_mk hn hl24 ha hf (by omega) ?_
          have e1 : l.take A = l.take (A - m) ++ (l.take A).drop (A - m) := by
            conv => lhs; rw [← List.take_append_drop (A - m) (l.take A)]
            rw [List.take_take, Nat.min_eq_left (by omega)]
          have e2 : (l.take A).reverse.take m = ((l.take A).drop (A - m)).reverse := by
            rw [List.take_reverse, List.length_take]
            congr 2; omega
          have hs : ((l.take A).drop (A - m)).all (gok n) = true := all_dropT hat _
          have hv := cr_lt (all_take ha (A - m)) ⟨hfv.2.1, hfv.2.2.1⟩
          rw [bw, e2, hwe]
          conv => lhs; rw [show cr (l.take A) f = cr ((l.take A).drop (A - m)) (cr (l.take (A - m)) f) by rw [← cr_append, ← e1]]
          exact cr_back hs hv
      · split at hd
        · cases hb : (gok n d.p && decide (l.length < 24)) with
          | false => rw [hb] at hd; cases hd
          | true =>
            rw [hb] at hd
            simp only [cond_true] at hd
            cases hd
            rw [Bool.and_eq_true, decide_eq_true_eq] at hb
            refine bok_mk hn (by simp only [List.length_append, List.length_take, List.length_cons, List.length_drop]; omega) ?_ hf (by simp only [List.length_append, List.length_take, List.length_cons, List.length_drop]; omega) ?_
            · rw [List.all_append, List.all_cons, hat, had, hb.1]; rfl
            · rw [hwe, List.take_append_of_le_length (by rw [List.length_take]; omega), List.take_take, Nat.min_self]
        · split at hd
          · cases hb : decide (A < l.length) with
            | false => rw [hb] at hd; cases hd
            | true =>
              rw [hb] at hd
              simp only [cond_true] at hd
              cases hd
              have hb2 := of_decide_eq_true hb
              refine bok_mk hn (by simp only [List.length_append, List.length_take, List.length_drop]; omega) ?_ hf (by simp only [List.length_append, List.length_take, List.length_drop]; omega) ?_
              · rw [List.all_append, hat, all_dropT ha]; rfl
              · rw [hwe, List.take_append_of_le_length (by rw [List.length_take]; omega), List.take_take, Nat.min_self]
          · have b1 := shr_len (l.take A).length (l.take A)
            have b2 := shr_len (l.drop A).length (l.drop A)
            have t1 : (l.take A).length = A := by rw [List.length_take]; omega
            have t2 : (l.drop A).length = l.length - A := List.length_drop
            have hB := shr_all (l.take A).length (l.take A) hat
            have hC := shr_all (l.drop A).length (l.drop A) had
            have hS := shr_same ⟨hfv.2.1, hfv.2.2.1⟩ (l.take A).length (l.take A) hat
            generalize shr (l.take A) (l.take A).length = B at *
            generalize shr (l.drop A) (l.drop A).length = C at *
            cases hb : decide (B.length + C.length = l.length) with
            | true => rw [hb] at hd; cases hd
            | false =>
              rw [hb] at hd
              simp only [cond_false] at hd
              cases hd
              refine bok_mk hn (by rw [List.length_append]; omega) ?_ hf (by rw [List.length_append]; omega) ?_
              · rw [List.all_append, hB, hC]; rfl
              · rw [List.take_left, hS, hwe]
end Go.Proofs.YtgphlcdinejmdaaGreatDoor

/- impl.Bench: the gates before the place and behind it; a bench with other gates; its copy; gone over gates. -/
namespace Go.Proofs.YtgphlcdinejmdaaGreatDoor
set_option linter.unusedVariables false
set_option linter.unusedSimpArgs false
set_option maxRecDepth 20000
open Go.RowKit
attribute [local irreducible] runA runX AW

abbrev gZ : Gt := ⟨0, 0, 0, 0⟩





















































































end Go.Proofs.YtgphlcdinejmdaaGreatDoor

/- Deeds compared; impl.do, case by case. -/
namespace Go.Proofs.YtgphlcdinejmdaaGreatDoor
set_option linter.unusedVariables false
set_option linter.unusedSimpArgs false
set_option maxRecDepth 20000
open Go.RowKit
attribute [local irreducible] runA runX AW

end Go.Proofs.YtgphlcdinejmdaaGreatDoor

/- impl.do and spec.BenchDo by one plain model; impl.BenchDo. -/
namespace Go.Proofs.YtgphlcdinejmdaaGreatDoor
set_option linter.unusedVariables false
set_option linter.unusedSimpArgs false
set_option maxRecDepth 20000
open Go.RowKit
attribute [local irreducible] runA runX AW

def doR (n : Int) (l : List Gt) (w : Int) (A : Nat) (d : Dd) : (List Gt × Int × Nat) × Bool := match doM n l w A d with
  | some r => (r, true)
  | none => ((l, w, A), false)
theorem doR_ok {n : Int} {l l' : List Gt} {f w w' : Int} {A A' : Nat} {d : Dd} {ok : Bool} (h : bok n l f w A = true) (hR : doR n l w A d = ((l', w', A'), ok)) : bok n l' f w' A' = true := by
  unfold doR at hR
  split at hR
  · rename_i r hd
    cases hR
    exact doM_ok h hd
  · cases hR; exact h
theorem nm_X {d : Dd} (h : d.k < 0 ∨ 4 < d.k) : nmD d = false := by
  unfold nmD
  rw [if_neg (by omega), if_neg (by omega), if_neg (by omega)]






































































































theorem kn_doS {n : Int} {l l' : List Gt} {f w w' : Int} {A A' : Nat} {d : Dd} {ok : Bool} (h : bok n l f w A = true) (hR : doR n l w A d = ((l', w', A'), ok)) : Kon Tryz.prog 45 [bG n l f w (A : Int), dV d] [] (bT n l' f w' (A' : Int) ok) [gRow l'] [] := by
  obtain ⟨hc, hf, hA, hwe⟩ := bok_t h
  obtain ⟨hn, hl24, ha⟩ := cokB_t hc
  obtain ⟨k, m, p⟩ := d
  by_cases hk : k < 0 ∨ 4 < k
  · have hnm : nmD ⟨k, m, p⟩ = false := nm_X hk
    unfold doR doM at hR
    rw [hnm] at hR
    cases hR
    exact k_bdoN n l f w A _ (by omega) (by omega) h (k_namedX _ hk)
  have hN : Kon Tryz.prog 24 [dV ⟨k, m, p⟩] [] (vB (nmD ⟨k, m, p⟩)) [] [] := by
    obtain rfl | rfl | rfl | rfl | rfl : k = 0 ∨ k = 1 ∨ k = 2 ∨ k = 3 ∨ k = 4 := by omega
    · exact k_named0 _ rfl
    · exact k_named1 _ rfl
    · exact k_named2 _ rfl
    · exact k_named3 _ rfl
    · exact k_named4 _ rfl
  unfold doR doM at hR
  cases hnm : nmD ⟨k, m, p⟩ with
  | false =>
    rw [hnm] at hN hR
    cases hR
    exact k_bdoN n l f w A _ (by omega) (by omega) h hN
  | true =>
    rw [hnm] at hN
    obtain rfl | rfl | rfl | rfl | rfl : k = 0 ∨ k = 1 ∨ k = 2 ∨ k = 3 ∨ k = 4 := by omega
    · cases hb : btw m 1 ((l.length : Int) - A) with
      | false =>
        simp only [hnm, cond_true, if_true, hb, cond_false] at hR; cases hR
        exact k_bdo0f n l f w A m p h hN hb
      | true =>
        simp only [hnm, cond_true, if_true, hb] at hR; cases hR
        have hb2 := btw_t hb
        obtain ⟨m, rfl⟩ : ∃ m' : Nat, m = (m' : Int) := ⟨m.toNat, by omega⟩
        exact k_bdoF n l f w A m p (by omega) h hN (by omega)
    · cases hb : btw m 1 (A : Int) with
      | false =>
        simp only [hnm, cond_true, if_true, hb, cond_false, if_neg (show ¬ (1 : Int) = 0 by decide)] at hR; cases hR
        exact k_bdo1f n l f w A m p h hN hb
      | true =>
        simp only [hnm, cond_true, if_true, hb, if_neg (show ¬ (1 : Int) = 0 by decide)] at hR; cases hR
        have hb2 := btw_t hb
        obtain ⟨m, rfl⟩ : ∃ m' : Nat, m = (m' : Int) := ⟨m.toNat, by omega⟩
        have hG := k_bdoB n l f w A m p (by omega) h hN (by omega)
        rw [show (A : Int) - (m : Int) = ((A - m : Nat) : Int) by omega] at hG
        exact hG
    · have hm : m = 0 := by
        have e : nmD ⟨2, m, p⟩ = (m == 0) := rfl
        rw [e] at hnm; simpa using hnm
      subst hm
      cases hb : (gok n p && decide (l.length < 24)) with
      | false =>
        simp only [hnm, cond_true, if_true, hb, cond_false, if_neg (show ¬ (2 : Int) = 0 by decide), if_neg (show ¬ (2 : Int) = 1 by decide)] at hR; cases hR
        refine k_bdo2f n l f w A 0 p h hN ?_
        rw [Bool.and_eq_false_iff] at hb
        exact hb.imp id fun h => by have := of_decide_eq_false h; omega
      | true =>
        simp only [hnm, cond_true, if_true, hb, if_neg (show ¬ (2 : Int) = 0 by decide), if_neg (show ¬ (2 : Int) = 1 by decide)] at hR; cases hR
        rw [Bool.and_eq_true, decide_eq_true_eq] at hb
        have hG := k_bdoP n l f w A p hb.2 h hN hb.1
        rw [List.append_assoc] at hG
        exact hG
    · cases hb : decide (A < l.length) with
      | false =>
        simp only [hnm, cond_true, if_true, hb, cond_false, if_neg (show ¬ (3 : Int) = 0 by decide), if_neg (show ¬ (3 : Int) = 1 by decide), if_neg (show ¬ (3 : Int) = 2 by decide)] at hR; cases hR
        exact k_bdo3f n l f w A m p h hN (by have := of_decide_eq_false hb; omega)
      | true =>
        simp only [hnm, cond_true, if_true, hb, if_neg (show ¬ (3 : Int) = 0 by decide), if_neg (show ¬ (3 : Int) = 1 by decide), if_neg (show ¬ (3 : Int) = 2 by decide)] at hR; cases hR
        exact k_bdoT n l f w m A p (of_decide_eq_true hb) h hN
    · have t1 : (l.take A).length = A := by rw [List.length_take]; omega
      have t2 : (l.drop A).length = l.length - A := List.length_drop
      have b1 := shr_len (l.take A).length (l.take A)
      have b2 := shr_len (l.drop A).length (l.drop A)
      have hB := k_shortO n (l.take A) (by omega) (cokB_take hc A)
      have hC := k_shortO n (l.drop A) (by omega) (cokB_mk3 hn (by omega) (all_dropT ha A))
      generalize shr (l.take A) (l.take A).length = B at *
      generalize shr (l.drop A) (l.drop A).length = C at *
      cases hb : decide (B.length + C.length = l.length) with
      | true =>
        simp only [hnm, cond_true, hb, if_neg (show ¬ (4 : Int) = 0 by decide), if_neg (show ¬ (4 : Int) = 1 by decide), if_neg (show ¬ (4 : Int) = 2 by decide), if_neg (show ¬ (4 : Int) = 3 by decide)] at hR; cases hR
        exact k_bdoSf n l f w m A p B C h hN hB hC (by omega) (of_decide_eq_true hb)
      | false =>
        simp only [hnm, cond_true, hb, cond_false, if_neg (show ¬ (4 : Int) = 0 by decide), if_neg (show ¬ (4 : Int) = 1 by decide), if_neg (show ¬ (4 : Int) = 2 by decide), if_neg (show ¬ (4 : Int) = 3 by decide)] at hR; cases hR
        have hG := k_bdoSt n l f w m A p B C h hN hB hC (by omega) (of_decide_eq_false hb)
        rw [show (((B ++ C).length : Int) - (C.length : Int)) = (B.length : Int) by rw [List.length_append]; omega] at hG
        exact hG



















end Go.Proofs.YtgphlcdinejmdaaGreatDoor

/- BenchRun of both sides. -/
namespace Go.Proofs.YtgphlcdinejmdaaGreatDoor
set_option linter.unusedVariables false
set_option linter.unusedSimpArgs false
set_option maxRecDepth 20000
open Go.RowKit
attribute [local irreducible] runA runX AW

abbrev BS := List Gt × Int × Nat
theorem doR_no {n : Int} {l l' : List Gt} {w w' : Int} {A A' : Nat} {d : Dd} (h : doR n l w A d = ((l', w', A'), false)) : l' = l ∧ w' = w ∧ A' = A := by
  unfold doR at h
  split at h
  · cases h
  · cases h; exact ⟨rfl, rfl, rfl⟩
end Go.Proofs.YtgphlcdinejmdaaGreatDoor
