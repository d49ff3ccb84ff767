/- LK: laid into one text. -/
import Derived.Test.YtjhdfkifpmmefaaDoorQLinesF
import Derived.Test.YtjhdfkifpmmefaaDoorQLinesJ

/- ReadLine of the reference. -/
namespace Go.Proofs.YtjhdfkifpmmefaaDoor
set_option linter.unusedVariables false
set_option linter.unusedSimpArgs false
set_option maxRecDepth 20000
open Go.RowKit
attribute [local irreducible] runA runX AW
theorem gq_LK {H G : Prop} (k : H) (h : Hid H → G := by (intro hh; (first | (first | ((first | refine r_none ?_ | refine r_gt (by rfl) (by rfl) (by first | rfl | assumption | omega | (simp only [*, Bool.not_false, Bool.not_true]; first | done | fail) | (simp [*]; first | done | fail)) (by rfl) ?_ | refine r_gf (by rfl) (by rfl) (by first | rfl | assumption | omega | (simp only [*, Bool.not_false, Bool.not_true]; first | done | fail) | (simp [*]; first | done | fail)) (by rfl) ?_); (first | (first | refine r_seq (by rfl) (by rfl) (by rfl) ?_ | refine r_sne (by rfl) (by rfl) (by rfl) ?_) | ((first | (refine z_op (by rfl) ?_; first | refine z_ok ?_ ?_ | refine z_ex ?_ (by first | exact ft_raw rfl rfl | ((first | refine ft_rp rfl rfl rfl ?_ | refine ft_row rfl rfl rfl ?_ | refine ft_rpF rfl rfl rfl ?_ | refine ft_rowF rfl rfl rfl ?_ | refine up_row rfl rfl ?_ | refine up_rowF rfl rfl rfl ?_ | refine ct_0 rfl ?_ | refine ct_r rfl rfl ?_ | refine ct_c rfl rfl rfl ?_ | refine cu_all rfl ?_ | refine cu_to rfl ?_ | refine cu_from rfl ?_ | refine cu_p rfl ?_ | fail); (first | omega | (simp only [List.length_append, List.length_replicate, List.length_cons, List.length_nil, List.length_set, List.length_take, List.length_drop, true_and]; omega))) | exact up_raw rfl | exact pk_t (by first | rfl | assumption | omega | (simp only [*, Bool.not_false, Bool.not_true]; first | done | fail) | (simp [*]; first | done | fail)) rfl | exact pk_f (by first | rfl | assumption | omega | (simp only [*, Bool.not_false, Bool.not_true]; first | done | fail) | (simp [*]; first | done | fail)) rfl | fail | exact rw_raw | exact pu_cv (fun w => rfl) (by omega) | exact pu_of (fun w => rfl) rfl | exact be_of (fun w => rfl) | exact nc_of (fun _ _ _ _ => rfl) rfl | exact bu_of (fun w => rfl) rfl | fail) ?_) | ((first | refine q_callE wsT wsZ (by rfl) ?_ | refine q_callVE wsT (by rfl) (by rfl) ?_); refine ⟨_, _, _, (by first | assumption | exact k_ltS _ _ _ _), _, by rfl, ?_, ?_⟩)); focus (first | exact trivial | fail | exact rfl | (first | omega | (simp only [List.length_append, List.length_replicate, List.length_cons, List.length_nil, List.length_set, List.length_take, List.length_drop, true_and]; omega)) | exact cvB (fun w => rfl) | ((repeat' (first | exact rfl | exact cV_len _ | exact cV_ln rfl (by omega) | exact Cel.pos | omega | exact trivial | refine And.intro ?_ ?_)); done) | (simp [*]; done) | (simp; omega))) | fail)) | refine r_nt (by rfl) (by rfl) (by first | rfl | assumption | omega | (simp only [*, Bool.not_false, Bool.not_true]; first | done | fail) | (simp [*]; first | done | fail)) (by rfl) ?_ | refine r_nf (by rfl) (by rfl) (by first | rfl | assumption | omega | (simp only [*, Bool.not_false, Bool.not_true]; first | done | fail) | (simp [*]; first | done | fail)) (by rfl) ?_ | refine r_gu (by rfl) (by rfl) (by rfl) ?_ | refine r_nil ?_) | (first | refine aw_seq ?_ | refine aw_ct (by rfl) (by first | rfl | assumption | omega | (simp only [*, Bool.not_false, Bool.not_true]; first | done | fail) | (simp [*]; first | done | fail)) ?_ | refine aw_cf (by rfl) (by first | rfl | assumption | omega | (simp only [*, Bool.not_false, Bool.not_true]; first | done | fail) | (simp [*]; first | done | fail)) ?_ | refine aw_block ?_ | refine aw_region T0ok cfU_ok (by rfl) ?_ | refine aw_skip ?_ | refine aw_exit ?_ | refine ra_step ?_)); (repeat (first | (first | ((first | refine r_none ?_ | refine r_gt (by rfl) (by rfl) (by first | rfl | assumption | omega | (simp only [*, Bool.not_false, Bool.not_true]; first | done | fail) | (simp [*]; first | done | fail)) (by rfl) ?_ | refine r_gf (by rfl) (by rfl) (by first | rfl | assumption | omega | (simp only [*, Bool.not_false, Bool.not_true]; first | done | fail) | (simp [*]; first | done | fail)) (by rfl) ?_); (first | (first | refine r_seq (by rfl) (by rfl) (by rfl) ?_ | refine r_sne (by rfl) (by rfl) (by rfl) ?_) | ((first | (refine z_op (by rfl) ?_; first | refine z_ok ?_ ?_ | refine z_ex ?_ (by first | exact ft_raw rfl rfl | ((first | refine ft_rp rfl rfl rfl ?_ | refine ft_row rfl rfl rfl ?_ | refine ft_rpF rfl rfl rfl ?_ | refine ft_rowF rfl rfl rfl ?_ | refine up_row rfl rfl ?_ | refine up_rowF rfl rfl rfl ?_ | refine ct_0 rfl ?_ | refine ct_r rfl rfl ?_ | refine ct_c rfl rfl rfl ?_ | refine cu_all rfl ?_ | refine cu_to rfl ?_ | refine cu_from rfl ?_ | refine cu_p rfl ?_ | fail); (first | omega | (simp only [List.length_append, List.length_replicate, List.length_cons, List.length_nil, List.length_set, List.length_take, List.length_drop, true_and]; omega))) | exact up_raw rfl | exact pk_t (by first | rfl | assumption | omega | (simp only [*, Bool.not_false, Bool.not_true]; first | done | fail) | (simp [*]; first | done | fail)) rfl | exact pk_f (by first | rfl | assumption | omega | (simp only [*, Bool.not_false, Bool.not_true]; first | done | fail) | (simp [*]; first | done | fail)) rfl | fail | exact rw_raw | exact pu_cv (fun w => rfl) (by omega) | exact pu_of (fun w => rfl) rfl | exact be_of (fun w => rfl) | exact nc_of (fun _ _ _ _ => rfl) rfl | exact bu_of (fun w => rfl) rfl | fail) ?_) | ((first | refine q_callE wsT wsZ (by rfl) ?_ | refine q_callVE wsT (by rfl) (by rfl) ?_); refine ⟨_, _, _, (by first | assumption | exact k_ltS _ _ _ _), _, by rfl, ?_, ?_⟩)); focus (first | exact trivial | fail | exact rfl | (first | omega | (simp only [List.length_append, List.length_replicate, List.length_cons, List.length_nil, List.length_set, List.length_take, List.length_drop, true_and]; omega)) | exact cvB (fun w => rfl) | ((repeat' (first | exact rfl | exact cV_len _ | exact cV_ln rfl (by omega) | exact Cel.pos | omega | exact trivial | refine And.intro ?_ ?_)); done) | (simp [*]; done) | (simp; omega))) | fail)) | refine r_nt (by rfl) (by rfl) (by first | rfl | assumption | omega | (simp only [*, Bool.not_false, Bool.not_true]; first | done | fail) | (simp [*]; first | done | fail)) (by rfl) ?_ | refine r_nf (by rfl) (by rfl) (by first | rfl | assumption | omega | (simp only [*, Bool.not_false, Bool.not_true]; first | done | fail) | (simp [*]; first | done | fail)) (by rfl) ?_ | refine r_gu (by rfl) (by rfl) (by rfl) ?_ | refine r_nil ?_) | (first | refine aw_seq ?_ | refine aw_ct (by rfl) (by first | rfl | assumption | omega | (simp only [*, Bool.not_false, Bool.not_true]; first | done | fail) | (simp [*]; first | done | fail)) ?_ | refine aw_cf (by rfl) (by first | rfl | assumption | omega | (simp only [*, Bool.not_false, Bool.not_true]; first | done | fail) | (simp [*]; first | done | fail)) ?_ | refine aw_block ?_ | refine aw_region T0ok cfU_ok (by rfl) ?_ | refine aw_skip ?_ | refine aw_exit ?_ | refine ra_step ?_))); exact hh.out)) : G := h ⟨k⟩
theorem ga_LK {H G : Prop} (k : H) (h : Hid H → G := by (intro hh; (first | refine r_none ?_ | refine r_gt (by rfl) (by rfl) (by first | rfl | assumption | omega | (simp only [*, Bool.not_false, Bool.not_true]; first | done | fail) | (simp [*]; first | done | fail)) (by rfl) ?_ | refine r_gf (by rfl) (by rfl) (by first | rfl | assumption | omega | (simp only [*, Bool.not_false, Bool.not_true]; first | done | fail) | (simp [*]; first | done | fail)) (by rfl) ?_); refine z_op (by rfl) ?_; refine z_alV ?_ hh.out; focus (first | exact trivial | fail | exact rfl | (first | omega | (simp only [List.length_append, List.length_replicate, List.length_cons, List.length_nil, List.length_set, List.length_take, List.length_drop, true_and]; omega)) | exact cvB (fun w => rfl) | ((repeat' (first | exact rfl | exact cV_len _ | exact cV_ln rfl (by omega) | exact Cel.pos | omega | exact trivial | refine And.intro ?_ ?_)); done) | (simp [*]; done) | (simp; omega)))) : G := h ⟨k⟩
set_option maxHeartbeats 4000000 in
theorem k_rlS0 (s : List UInt8) (a b : Int) (hs : s.length ≤ 7000000) (hne : (!(s == [])) = true) (ha : wdA s = a) (hb : wdB s = b) (t0 : (ltx 0 a b 0 == s) = true) : Kon Tryd.prog 17 [vS s] [] (tupL 0 a b 0 true) [] [] := by
  have hC := k_cut s hs
  unfold wdA at ha
  unfold wdB at hb
  generalize cutA 32 [] s = ws at *
  have hA := k_dig (ws.getD (1 : Int).toNat Cel.no)
  have hB := k_dig (ws.getD (2 : Int).toNat Cel.no)
  rcases Nat.lt_or_ge 1 ws.length with h1 | h1
  · have hd1 : decide ((ws.length : Int) > 1) = true := decide_eq_true (by omega)
    rw [if_pos h1] at ha
    replace hA : Kon Tryd.prog 46 [vS (ws.getD (1 : Int).toNat Cel.no)] [] (vI a) [] [] := by rw [← ha]; exact hA
    rcases Nat.lt_or_ge 2 ws.length with h2 | h2
    · have hd2 : decide ((ws.length : Int) > 2) = true := decide_eq_true (by omega)
      rw [if_pos h2] at hb
      replace hB : Kon Tryd.prog 46 [vS (ws.getD (2 : Int).toNat Cel.no)] [] (vI b) [] [] := by rw [← hb]; exact hB
      clear ha hb
      (refine kon_mk T0ok (fn := Tryd.f17) (c := Tryd.f17.body.get rfl) Tryd.func17 rfl (by rfl) (by rfl) (by rfl) ?_; intro hfit hfe)
      (repeat (first | refine gq_LK ?_ | (refine ga_LK ?_; intro _hq)))
      refine aw_unroll 2 ?_
      (repeat (first | refine gq_LK ?_ | (refine ga_LK ?_; intro _hq)))
      ((try refine aw_ret ?_); refine ret_auto2 (by rfl) (by rfl) (by rfl) (by repeat (first | exact trivial | refine ⟨by first | rfl | omega, ?_⟩)) ?_ (by repeat (first | exact trivial | refine ⟨by rfl, by rfl, ?_⟩)) (by repeat (first | exact trivial | refine ⟨by rfl, by rfl, ?_⟩)); try rfl)
    · have hd2 : decide ((ws.length : Int) > 2) = false := decide_eq_false (by omega)
      rw [if_neg (by omega)] at hb
      subst hb
      clear ha hB
      (refine kon_mk T0ok (fn := Tryd.f17) (c := Tryd.f17.body.get rfl) Tryd.func17 rfl (by rfl) (by rfl) (by rfl) ?_; intro hfit hfe)
      (repeat (first | refine gq_LK ?_ | (refine ga_LK ?_; intro _hq)))
      refine aw_unroll 2 ?_
      (repeat (first | refine gq_LK ?_ | (refine ga_LK ?_; intro _hq)))
      ((try refine aw_ret ?_); refine ret_auto2 (by rfl) (by rfl) (by rfl) (by repeat (first | exact trivial | refine ⟨by first | rfl | omega, ?_⟩)) ?_ (by repeat (first | exact trivial | refine ⟨by rfl, by rfl, ?_⟩)) (by repeat (first | exact trivial | refine ⟨by rfl, by rfl, ?_⟩)); try rfl)
  · have hd1 : decide ((ws.length : Int) > 1) = false := decide_eq_false (by omega)
    have hd2 : decide ((ws.length : Int) > 2) = false := decide_eq_false (by omega)
    rw [if_neg (by omega)] at ha hb
    subst ha hb
    exfalso
    rw [show ltx 0 (-1) (-1) 0 = [] from by decide +kernel] at t0
    have e := eq_of_beq t0
    subst e
    cases hne
set_option maxHeartbeats 4000000 in
theorem k_rlS1 (s : List UInt8) (a b : Int) (hs : s.length ≤ 7000000) (hne : (!(s == [])) = true) (ha : wdA s = a) (hb : wdB s = b) (t0 : (ltx 0 a b 0 == s) = false) (t1 : (ltx 1 a b 0 == s) = true) : Kon Tryd.prog 17 [vS s] [] (tupL 1 a b 0 true) [] [] := by
  have hC := k_cut s hs
  unfold wdA at ha
  unfold wdB at hb
  generalize cutA 32 [] s = ws at *
  have hA := k_dig (ws.getD (1 : Int).toNat Cel.no)
  have hB := k_dig (ws.getD (2 : Int).toNat Cel.no)
  rcases Nat.lt_or_ge 1 ws.length with h1 | h1
  · have hd1 : decide ((ws.length : Int) > 1) = true := decide_eq_true (by omega)
    rw [if_pos h1] at ha
    replace hA : Kon Tryd.prog 46 [vS (ws.getD (1 : Int).toNat Cel.no)] [] (vI a) [] [] := by rw [← ha]; exact hA
    rcases Nat.lt_or_ge 2 ws.length with h2 | h2
    · have hd2 : decide ((ws.length : Int) > 2) = true := decide_eq_true (by omega)
      rw [if_pos h2] at hb
      replace hB : Kon Tryd.prog 46 [vS (ws.getD (2 : Int).toNat Cel.no)] [] (vI b) [] [] := by rw [← hb]; exact hB
      clear ha hb
      (refine kon_mk T0ok (fn := Tryd.f17) (c := Tryd.f17.body.get rfl) Tryd.func17 rfl (by rfl) (by rfl) (by rfl) ?_; intro hfit hfe)
      (repeat (first | refine gq_LK ?_ | (refine ga_LK ?_; intro _hq)))
      refine aw_unroll 3 ?_
      (repeat (first | refine gq_LK ?_ | (refine ga_LK ?_; intro _hq)))
      ((try refine aw_ret ?_); refine ret_auto2 (by rfl) (by rfl) (by rfl) (by repeat (first | exact trivial | refine ⟨by first | rfl | omega, ?_⟩)) ?_ (by repeat (first | exact trivial | refine ⟨by rfl, by rfl, ?_⟩)) (by repeat (first | exact trivial | refine ⟨by rfl, by rfl, ?_⟩)); try rfl)
    · have hd2 : decide ((ws.length : Int) > 2) = false := decide_eq_false (by omega)
      rw [if_neg (by omega)] at hb
      subst hb
      clear ha hB
      (refine kon_mk T0ok (fn := Tryd.f17) (c := Tryd.f17.body.get rfl) Tryd.func17 rfl (by rfl) (by rfl) (by rfl) ?_; intro hfit hfe)
      (repeat (first | refine gq_LK ?_ | (refine ga_LK ?_; intro _hq)))
      refine aw_unroll 3 ?_
      (repeat (first | refine gq_LK ?_ | (refine ga_LK ?_; intro _hq)))
      ((try refine aw_ret ?_); refine ret_auto2 (by rfl) (by rfl) (by rfl) (by repeat (first | exact trivial | refine ⟨by first | rfl | omega, ?_⟩)) ?_ (by repeat (first | exact trivial | refine ⟨by rfl, by rfl, ?_⟩)) (by repeat (first | exact trivial | refine ⟨by rfl, by rfl, ?_⟩)); try rfl)
  · have hd1 : decide ((ws.length : Int) > 1) = false := decide_eq_false (by omega)
    have hd2 : decide ((ws.length : Int) > 2) = false := decide_eq_false (by omega)
    rw [if_neg (by omega)] at ha hb
    subst ha hb
    exfalso
    rw [show ltx 1 (-1) (-1) 0 = [] from by decide +kernel] at t1
    have e := eq_of_beq t1
    subst e
    cases hne
set_option maxHeartbeats 4000000 in
theorem k_rlS2 (s : List UInt8) (a b : Int) (hs : s.length ≤ 7000000) (hne : (!(s == [])) = true) (ha : wdA s = a) (hb : wdB s = b) (t0 : (ltx 0 a b 0 == s) = false) (t1 : (ltx 1 a b 0 == s) = false) (t2 : (ltx 2 a 0 b == s) = true) : Kon Tryd.prog 17 [vS s] [] (tupL 2 a 0 b true) [] [] := by
  have hC := k_cut s hs
  unfold wdA at ha
  unfold wdB at hb
  generalize cutA 32 [] s = ws at *
  have hA := k_dig (ws.getD (1 : Int).toNat Cel.no)
  have hB := k_dig (ws.getD (2 : Int).toNat Cel.no)
  rcases Nat.lt_or_ge 1 ws.length with h1 | h1
  · have hd1 : decide ((ws.length : Int) > 1) = true := decide_eq_true (by omega)
    rw [if_pos h1] at ha
    replace hA : Kon Tryd.prog 46 [vS (ws.getD (1 : Int).toNat Cel.no)] [] (vI a) [] [] := by rw [← ha]; exact hA
    rcases Nat.lt_or_ge 2 ws.length with h2 | h2
    · have hd2 : decide ((ws.length : Int) > 2) = true := decide_eq_true (by omega)
      rw [if_pos h2] at hb
      replace hB : Kon Tryd.prog 46 [vS (ws.getD (2 : Int).toNat Cel.no)] [] (vI b) [] [] := by rw [← hb]; exact hB
      clear ha hb
      (refine kon_mk T0ok (fn := Tryd.f17) (c := Tryd.f17.body.get rfl) Tryd.func17 rfl (by rfl) (by rfl) (by rfl) ?_; intro hfit hfe)
      (repeat (first | refine gq_LK ?_ | (refine ga_LK ?_; intro _hq)))
      refine aw_unroll 4 ?_
      (repeat (first | refine gq_LK ?_ | (refine ga_LK ?_; intro _hq)))
      ((try refine aw_ret ?_); refine ret_auto2 (by rfl) (by rfl) (by rfl) (by repeat (first | exact trivial | refine ⟨by first | rfl | omega, ?_⟩)) ?_ (by repeat (first | exact trivial | refine ⟨by rfl, by rfl, ?_⟩)) (by repeat (first | exact trivial | refine ⟨by rfl, by rfl, ?_⟩)); try rfl)
    · have hd2 : decide ((ws.length : Int) > 2) = false := decide_eq_false (by omega)
      rw [if_neg (by omega)] at hb
      subst hb
      clear ha hB
      (refine kon_mk T0ok (fn := Tryd.f17) (c := Tryd.f17.body.get rfl) Tryd.func17 rfl (by rfl) (by rfl) (by rfl) ?_; intro hfit hfe)
      (repeat (first | refine gq_LK ?_ | (refine ga_LK ?_; intro _hq)))
      refine aw_unroll 4 ?_
      (repeat (first | refine gq_LK ?_ | (refine ga_LK ?_; intro _hq)))
      ((try refine aw_ret ?_); refine ret_auto2 (by rfl) (by rfl) (by rfl) (by repeat (first | exact trivial | refine ⟨by first | rfl | omega, ?_⟩)) ?_ (by repeat (first | exact trivial | refine ⟨by rfl, by rfl, ?_⟩)) (by repeat (first | exact trivial | refine ⟨by rfl, by rfl, ?_⟩)); try rfl)
  · have hd1 : decide ((ws.length : Int) > 1) = false := decide_eq_false (by omega)
    have hd2 : decide ((ws.length : Int) > 2) = false := decide_eq_false (by omega)
    rw [if_neg (by omega)] at ha hb
    subst ha hb
    exfalso
    rw [show ltx 2 (-1) 0 (-1) = [] from by decide +kernel] at t2
    have e := eq_of_beq t2
    subst e
    cases hne
set_option maxHeartbeats 4000000 in
theorem k_rlS3 (s : List UInt8) (a b : Int) (hs : s.length ≤ 7000000) (hne : (!(s == [])) = true) (ha : wdA s = a) (hb : wdB s = b) (t0 : (ltx 0 a b 0 == s) = false) (t1 : (ltx 1 a b 0 == s) = false) (t2 : (ltx 2 a 0 b == s) = false) (t3 : (ltx 3 a b 0 == s) = true) : Kon Tryd.prog 17 [vS s] [] (tupL 3 a b 0 true) [] [] := by
  have hC := k_cut s hs
  unfold wdA at ha
  unfold wdB at hb
  generalize cutA 32 [] s = ws at *
  have hA := k_dig (ws.getD (1 : Int).toNat Cel.no)
  have hB := k_dig (ws.getD (2 : Int).toNat Cel.no)
  rcases Nat.lt_or_ge 1 ws.length with h1 | h1
  · have hd1 : decide ((ws.length : Int) > 1) = true := decide_eq_true (by omega)
    rw [if_pos h1] at ha
    replace hA : Kon Tryd.prog 46 [vS (ws.getD (1 : Int).toNat Cel.no)] [] (vI a) [] [] := by rw [← ha]; exact hA
    rcases Nat.lt_or_ge 2 ws.length with h2 | h2
    · have hd2 : decide ((ws.length : Int) > 2) = true := decide_eq_true (by omega)
      rw [if_pos h2] at hb
      replace hB : Kon Tryd.prog 46 [vS (ws.getD (2 : Int).toNat Cel.no)] [] (vI b) [] [] := by rw [← hb]; exact hB
      clear ha hb
      (refine kon_mk T0ok (fn := Tryd.f17) (c := Tryd.f17.body.get rfl) Tryd.func17 rfl (by rfl) (by rfl) (by rfl) ?_; intro hfit hfe)
      (repeat (first | refine gq_LK ?_ | (refine ga_LK ?_; intro _hq)))
      refine aw_unroll 5 ?_
      (repeat (first | refine gq_LK ?_ | (refine ga_LK ?_; intro _hq)))
      ((try refine aw_ret ?_); refine ret_auto2 (by rfl) (by rfl) (by rfl) (by repeat (first | exact trivial | refine ⟨by first | rfl | omega, ?_⟩)) ?_ (by repeat (first | exact trivial | refine ⟨by rfl, by rfl, ?_⟩)) (by repeat (first | exact trivial | refine ⟨by rfl, by rfl, ?_⟩)); try rfl)
    · have hd2 : decide ((ws.length : Int) > 2) = false := decide_eq_false (by omega)
      rw [if_neg (by omega)] at hb
      subst hb
      clear ha hB
      (refine kon_mk T0ok (fn := Tryd.f17) (c := Tryd.f17.body.get rfl) Tryd.func17 rfl (by rfl) (by rfl) (by rfl) ?_; intro hfit hfe)
      (repeat (first | refine gq_LK ?_ | (refine ga_LK ?_; intro _hq)))
      refine aw_unroll 5 ?_
      (repeat (first | refine gq_LK ?_ | (refine ga_LK ?_; intro _hq)))
      ((try refine aw_ret ?_); refine ret_auto2 (by rfl) (by rfl) (by rfl) (by repeat (first | exact trivial | refine ⟨by first | rfl | omega, ?_⟩)) ?_ (by repeat (first | exact trivial | refine ⟨by rfl, by rfl, ?_⟩)) (by repeat (first | exact trivial | refine ⟨by rfl, by rfl, ?_⟩)); try rfl)
  · have hd1 : decide ((ws.length : Int) > 1) = false := decide_eq_false (by omega)
    have hd2 : decide ((ws.length : Int) > 2) = false := decide_eq_false (by omega)
    rw [if_neg (by omega)] at ha hb
    subst ha hb
    exfalso
    rw [show ltx 3 (-1) (-1) 0 = [] from by decide +kernel] at t3
    have e := eq_of_beq t3
    subst e
    cases hne
set_option maxHeartbeats 4000000 in
theorem k_rlS4 (s : List UInt8) (a b : Int) (hs : s.length ≤ 7000000) (hne : (!(s == [])) = true) (ha : wdA s = a) (hb : wdB s = b) (t0 : (ltx 0 a b 0 == s) = false) (t1 : (ltx 1 a b 0 == s) = false) (t2 : (ltx 2 a 0 b == s) = false) (t3 : (ltx 3 a b 0 == s) = false) (t4 : (ltx 4 0 0 a == s) = true) : Kon Tryd.prog 17 [vS s] [] (tupL 4 0 0 a true) [] [] := by
  have hC := k_cut s hs
  unfold wdA at ha
  unfold wdB at hb
  generalize cutA 32 [] s = ws at *
  have hA := k_dig (ws.getD (1 : Int).toNat Cel.no)
  have hB := k_dig (ws.getD (2 : Int).toNat Cel.no)
  rcases Nat.lt_or_ge 1 ws.length with h1 | h1
  · have hd1 : decide ((ws.length : Int) > 1) = true := decide_eq_true (by omega)
    rw [if_pos h1] at ha
    replace hA : Kon Tryd.prog 46 [vS (ws.getD (1 : Int).toNat Cel.no)] [] (vI a) [] [] := by rw [← ha]; exact hA
    rcases Nat.lt_or_ge 2 ws.length with h2 | h2
    · have hd2 : decide ((ws.length : Int) > 2) = true := decide_eq_true (by omega)
      rw [if_pos h2] at hb
      replace hB : Kon Tryd.prog 46 [vS (ws.getD (2 : Int).toNat Cel.no)] [] (vI b) [] [] := by rw [← hb]; exact hB
      clear ha hb
      (refine kon_mk T0ok (fn := Tryd.f17) (c := Tryd.f17.body.get rfl) Tryd.func17 rfl (by rfl) (by rfl) (by rfl) ?_; intro hfit hfe)
      (repeat (first | refine gq_LK ?_ | (refine ga_LK ?_; intro _hq)))
      refine aw_unroll 6 ?_
      (repeat (first | refine gq_LK ?_ | (refine ga_LK ?_; intro _hq)))
      ((try refine aw_ret ?_); refine ret_auto2 (by rfl) (by rfl) (by rfl) (by repeat (first | exact trivial | refine ⟨by first | rfl | omega, ?_⟩)) ?_ (by repeat (first | exact trivial | refine ⟨by rfl, by rfl, ?_⟩)) (by repeat (first | exact trivial | refine ⟨by rfl, by rfl, ?_⟩)); try rfl)
    · have hd2 : decide ((ws.length : Int) > 2) = false := decide_eq_false (by omega)
      rw [if_neg (by omega)] at hb
      subst hb
      clear ha hB
      (refine kon_mk T0ok (fn := Tryd.f17) (c := Tryd.f17.body.get rfl) Tryd.func17 rfl (by rfl) (by rfl) (by rfl) ?_; intro hfit hfe)
      (repeat (first | refine gq_LK ?_ | (refine ga_LK ?_; intro _hq)))
      refine aw_unroll 6 ?_
      (repeat (first | refine gq_LK ?_ | (refine ga_LK ?_; intro _hq)))
      ((try refine aw_ret ?_); refine ret_auto2 (by rfl) (by rfl) (by rfl) (by repeat (first | exact trivial | refine ⟨by first | rfl | omega, ?_⟩)) ?_ (by repeat (first | exact trivial | refine ⟨by rfl, by rfl, ?_⟩)) (by repeat (first | exact trivial | refine ⟨by rfl, by rfl, ?_⟩)); try rfl)
  · have hd1 : decide ((ws.length : Int) > 1) = false := decide_eq_false (by omega)
    have hd2 : decide ((ws.length : Int) > 2) = false := decide_eq_false (by omega)
    rw [if_neg (by omega)] at ha hb
    subst ha hb
    exfalso
    rw [show ltx 4 0 0 (-1) = [] from by decide +kernel] at t4
    have e := eq_of_beq t4
    subst e
    cases hne
set_option maxHeartbeats 4000000 in
theorem k_rlS5 (s : List UInt8) (a b : Int) (hs : s.length ≤ 7000000) (hne : (!(s == [])) = true) (ha : wdA s = a) (hb : wdB s = b) (t0 : (ltx 0 a b 0 == s) = false) (t1 : (ltx 1 a b 0 == s) = false) (t2 : (ltx 2 a 0 b == s) = false) (t3 : (ltx 3 a b 0 == s) = false) (t4 : (ltx 4 0 0 a == s) = false) (t5 : (ltx 5 0 0 0 == s) = true) : Kon Tryd.prog 17 [vS s] [] (tupL 5 0 0 0 true) [] [] := by
  have hC := k_cut s hs
  unfold wdA at ha
  unfold wdB at hb
  generalize cutA 32 [] s = ws at *
  have hA := k_dig (ws.getD (1 : Int).toNat Cel.no)
  have hB := k_dig (ws.getD (2 : Int).toNat Cel.no)
  rcases Nat.lt_or_ge 1 ws.length with h1 | h1
  · have hd1 : decide ((ws.length : Int) > 1) = true := decide_eq_true (by omega)
    rw [if_pos h1] at ha
    replace hA : Kon Tryd.prog 46 [vS (ws.getD (1 : Int).toNat Cel.no)] [] (vI a) [] [] := by rw [← ha]; exact hA
    rcases Nat.lt_or_ge 2 ws.length with h2 | h2
    · have hd2 : decide ((ws.length : Int) > 2) = true := decide_eq_true (by omega)
      rw [if_pos h2] at hb
      replace hB : Kon Tryd.prog 46 [vS (ws.getD (2 : Int).toNat Cel.no)] [] (vI b) [] [] := by rw [← hb]; exact hB
      clear ha hb
      (refine kon_mk T0ok (fn := Tryd.f17) (c := Tryd.f17.body.get rfl) Tryd.func17 rfl (by rfl) (by rfl) (by rfl) ?_; intro hfit hfe)
      (repeat (first | refine gq_LK ?_ | (refine ga_LK ?_; intro _hq)))
      refine aw_unroll 7 ?_
      (repeat (first | refine gq_LK ?_ | (refine ga_LK ?_; intro _hq)))
      ((try refine aw_ret ?_); refine ret_auto2 (by rfl) (by rfl) (by rfl) (by repeat (first | exact trivial | refine ⟨by first | rfl | omega, ?_⟩)) ?_ (by repeat (first | exact trivial | refine ⟨by rfl, by rfl, ?_⟩)) (by repeat (first | exact trivial | refine ⟨by rfl, by rfl, ?_⟩)); try rfl)
    · have hd2 : decide ((ws.length : Int) > 2) = false := decide_eq_false (by omega)
      rw [if_neg (by omega)] at hb
      subst hb
      clear ha hB
      (refine kon_mk T0ok (fn := Tryd.f17) (c := Tryd.f17.body.get rfl) Tryd.func17 rfl (by rfl) (by rfl) (by rfl) ?_; intro hfit hfe)
      (repeat (first | refine gq_LK ?_ | (refine ga_LK ?_; intro _hq)))
      refine aw_unroll 7 ?_
      (repeat (first | refine gq_LK ?_ | (refine ga_LK ?_; intro _hq)))
      ((try refine aw_ret ?_); refine ret_auto2 (by rfl) (by rfl) (by rfl) (by repeat (first | exact trivial | refine ⟨by first | rfl | omega, ?_⟩)) ?_ (by repeat (first | exact trivial | refine ⟨by rfl, by rfl, ?_⟩)) (by repeat (first | exact trivial | refine ⟨by rfl, by rfl, ?_⟩)); try rfl)
  · have hd1 : decide ((ws.length : Int) > 1) = false := decide_eq_false (by omega)
    have hd2 : decide ((ws.length : Int) > 2) = false := decide_eq_false (by omega)
    rw [if_neg (by omega)] at ha hb
    subst ha hb
    clear hA hB
    (refine kon_mk T0ok (fn := Tryd.f17) (c := Tryd.f17.body.get rfl) Tryd.func17 rfl (by rfl) (by rfl) (by rfl) ?_; intro hfit hfe)
    (repeat (first | refine gq_LK ?_ | (refine ga_LK ?_; intro _hq)))
    refine aw_unroll 7 ?_
    (repeat (first | refine gq_LK ?_ | (refine ga_LK ?_; intro _hq)))
    ((try refine aw_ret ?_); refine ret_auto2 (by rfl) (by rfl) (by rfl) (by repeat (first | exact trivial | refine ⟨by first | rfl | omega, ?_⟩)) ?_ (by repeat (first | exact trivial | refine ⟨by rfl, by rfl, ?_⟩)) (by repeat (first | exact trivial | refine ⟨by rfl, by rfl, ?_⟩)); try rfl)
set_option maxHeartbeats 4000000 in
theorem k_rlS6 (s : List UInt8) (a b : Int) (hs : s.length ≤ 7000000) (hne : (!(s == [])) = true) (ha : wdA s = a) (hb : wdB s = b) (t0 : (ltx 0 a b 0 == s) = false) (t1 : (ltx 1 a b 0 == s) = false) (t2 : (ltx 2 a 0 b == s) = false) (t3 : (ltx 3 a b 0 == s) = false) (t4 : (ltx 4 0 0 a == s) = false) (t5 : (ltx 5 0 0 0 == s) = false) (t6 : (ltx 6 a 0 b == s) = true) : Kon Tryd.prog 17 [vS s] [] (tupL 6 a 0 b true) [] [] := by
  have hC := k_cut s hs
  unfold wdA at ha
  unfold wdB at hb
  generalize cutA 32 [] s = ws at *
  have hA := k_dig (ws.getD (1 : Int).toNat Cel.no)
  have hB := k_dig (ws.getD (2 : Int).toNat Cel.no)
  rcases Nat.lt_or_ge 1 ws.length with h1 | h1
  · have hd1 : decide ((ws.length : Int) > 1) = true := decide_eq_true (by omega)
    rw [if_pos h1] at ha
    replace hA : Kon Tryd.prog 46 [vS (ws.getD (1 : Int).toNat Cel.no)] [] (vI a) [] [] := by rw [← ha]; exact hA
    rcases Nat.lt_or_ge 2 ws.length with h2 | h2
    · have hd2 : decide ((ws.length : Int) > 2) = true := decide_eq_true (by omega)
      rw [if_pos h2] at hb
      replace hB : Kon Tryd.prog 46 [vS (ws.getD (2 : Int).toNat Cel.no)] [] (vI b) [] [] := by rw [← hb]; exact hB
      clear ha hb
      (refine kon_mk T0ok (fn := Tryd.f17) (c := Tryd.f17.body.get rfl) Tryd.func17 rfl (by rfl) (by rfl) (by rfl) ?_; intro hfit hfe)
      (repeat (first | refine gq_LK ?_ | (refine ga_LK ?_; intro _hq)))
      refine aw_unroll 8 ?_
      (repeat (first | refine gq_LK ?_ | (refine ga_LK ?_; intro _hq)))
      ((try refine aw_ret ?_); refine ret_auto2 (by rfl) (by rfl) (by rfl) (by repeat (first | exact trivial | refine ⟨by first | rfl | omega, ?_⟩)) ?_ (by repeat (first | exact trivial | refine ⟨by rfl, by rfl, ?_⟩)) (by repeat (first | exact trivial | refine ⟨by rfl, by rfl, ?_⟩)); try rfl)
    · have hd2 : decide ((ws.length : Int) > 2) = false := decide_eq_false (by omega)
      rw [if_neg (by omega)] at hb
      subst hb
      clear ha hB
      (refine kon_mk T0ok (fn := Tryd.f17) (c := Tryd.f17.body.get rfl) Tryd.func17 rfl (by rfl) (by rfl) (by rfl) ?_; intro hfit hfe)
      (repeat (first | refine gq_LK ?_ | (refine ga_LK ?_; intro _hq)))
      refine aw_unroll 8 ?_
      (repeat (first | refine gq_LK ?_ | (refine ga_LK ?_; intro _hq)))
      ((try refine aw_ret ?_); refine ret_auto2 (by rfl) (by rfl) (by rfl) (by repeat (first | exact trivial | refine ⟨by first | rfl | omega, ?_⟩)) ?_ (by repeat (first | exact trivial | refine ⟨by rfl, by rfl, ?_⟩)) (by repeat (first | exact trivial | refine ⟨by rfl, by rfl, ?_⟩)); try rfl)
  · have hd1 : decide ((ws.length : Int) > 1) = false := decide_eq_false (by omega)
    have hd2 : decide ((ws.length : Int) > 2) = false := decide_eq_false (by omega)
    rw [if_neg (by omega)] at ha hb
    subst ha hb
    exfalso
    rw [show ltx 6 (-1) 0 (-1) = [] from by decide +kernel] at t6
    have e := eq_of_beq t6
    subst e
    cases hne
set_option maxHeartbeats 4000000 in
theorem k_rlS7 (s : List UInt8) (a b : Int) (hs : s.length ≤ 7000000) (hne : (!(s == [])) = true) (ha : wdA s = a) (hb : wdB s = b) (t0 : (ltx 0 a b 0 == s) = false) (t1 : (ltx 1 a b 0 == s) = false) (t2 : (ltx 2 a 0 b == s) = false) (t3 : (ltx 3 a b 0 == s) = false) (t4 : (ltx 4 0 0 a == s) = false) (t5 : (ltx 5 0 0 0 == s) = false) (t6 : (ltx 6 a 0 b == s) = false) (t7 : (ltx 7 0 0 0 == s) = true) : Kon Tryd.prog 17 [vS s] [] (tupL 7 0 0 0 true) [] [] := by
  have hC := k_cut s hs
  unfold wdA at ha
  unfold wdB at hb
  generalize cutA 32 [] s = ws at *
  have hA := k_dig (ws.getD (1 : Int).toNat Cel.no)
  have hB := k_dig (ws.getD (2 : Int).toNat Cel.no)
  rcases Nat.lt_or_ge 1 ws.length with h1 | h1
  · have hd1 : decide ((ws.length : Int) > 1) = true := decide_eq_true (by omega)
    rw [if_pos h1] at ha
    replace hA : Kon Tryd.prog 46 [vS (ws.getD (1 : Int).toNat Cel.no)] [] (vI a) [] [] := by rw [← ha]; exact hA
    rcases Nat.lt_or_ge 2 ws.length with h2 | h2
    · have hd2 : decide ((ws.length : Int) > 2) = true := decide_eq_true (by omega)
      rw [if_pos h2] at hb
      replace hB : Kon Tryd.prog 46 [vS (ws.getD (2 : Int).toNat Cel.no)] [] (vI b) [] [] := by rw [← hb]; exact hB
      clear ha hb
      (refine kon_mk T0ok (fn := Tryd.f17) (c := Tryd.f17.body.get rfl) Tryd.func17 rfl (by rfl) (by rfl) (by rfl) ?_; intro hfit hfe)
      (repeat (first | refine gq_LK ?_ | (refine ga_LK ?_; intro _hq)))
      refine aw_unroll 9 ?_
      (repeat (first | refine gq_LK ?_ | (refine ga_LK ?_; intro _hq)))
      ((try refine aw_ret ?_); refine ret_auto2 (by rfl) (by rfl) (by rfl) (by repeat (first | exact trivial | refine ⟨by first | rfl | omega, ?_⟩)) ?_ (by repeat (first | exact trivial | refine ⟨by rfl, by rfl, ?_⟩)) (by repeat (first | exact trivial | refine ⟨by rfl, by rfl, ?_⟩)); try rfl)
    · have hd2 : decide ((ws.length : Int) > 2) = false := decide_eq_false (by omega)
      rw [if_neg (by omega)] at hb
      subst hb
      clear ha hB
      (refine kon_mk T0ok (fn := Tryd.f17) (c := Tryd.f17.body.get rfl) Tryd.func17 rfl (by rfl) (by rfl) (by rfl) ?_; intro hfit hfe)
      (repeat (first | refine gq_LK ?_ | (refine ga_LK ?_; intro _hq)))
      refine aw_unroll 9 ?_
      (repeat (first | refine gq_LK ?_ | (refine ga_LK ?_; intro _hq)))
      ((try refine aw_ret ?_); refine ret_auto2 (by rfl) (by rfl) (by rfl) (by repeat (first | exact trivial | refine ⟨by first | rfl | omega, ?_⟩)) ?_ (by repeat (first | exact trivial | refine ⟨by rfl, by rfl, ?_⟩)) (by repeat (first | exact trivial | refine ⟨by rfl, by rfl, ?_⟩)); try rfl)
  · have hd1 : decide ((ws.length : Int) > 1) = false := decide_eq_false (by omega)
    have hd2 : decide ((ws.length : Int) > 2) = false := decide_eq_false (by omega)
    rw [if_neg (by omega)] at ha hb
    subst ha hb
    clear hA hB
    (refine kon_mk T0ok (fn := Tryd.f17) (c := Tryd.f17.body.get rfl) Tryd.func17 rfl (by rfl) (by rfl) (by rfl) ?_; intro hfit hfe)
    (repeat (first | refine gq_LK ?_ | (refine ga_LK ?_; intro _hq)))
    refine aw_unroll 9 ?_
    (repeat (first | refine gq_LK ?_ | (refine ga_LK ?_; intro _hq)))
    ((try refine aw_ret ?_); refine ret_auto2 (by rfl) (by rfl) (by rfl) (by repeat (first | exact trivial | refine ⟨by first | rfl | omega, ?_⟩)) ?_ (by repeat (first | exact trivial | refine ⟨by rfl, by rfl, ?_⟩)) (by repeat (first | exact trivial | refine ⟨by rfl, by rfl, ?_⟩)); try rfl)
set_option maxHeartbeats 4000000 in
theorem k_rlS8 (s : List UInt8) (a b : Int) (hs : s.length ≤ 7000000) (hne : (!(s == [])) = true) (ha : wdA s = a) (hb : wdB s = b) (t0 : (ltx 0 a b 0 == s) = false) (t1 : (ltx 1 a b 0 == s) = false) (t2 : (ltx 2 a 0 b == s) = false) (t3 : (ltx 3 a b 0 == s) = false) (t4 : (ltx 4 0 0 a == s) = false) (t5 : (ltx 5 0 0 0 == s) = false) (t6 : (ltx 6 a 0 b == s) = false) (t7 : (ltx 7 0 0 0 == s) = false) (t8 : (ltx 8 a 0 b == s) = true) : Kon Tryd.prog 17 [vS s] [] (tupL 8 a 0 b true) [] [] := by
  have hC := k_cut s hs
  unfold wdA at ha
  unfold wdB at hb
  generalize cutA 32 [] s = ws at *
  have hA := k_dig (ws.getD (1 : Int).toNat Cel.no)
  have hB := k_dig (ws.getD (2 : Int).toNat Cel.no)
  rcases Nat.lt_or_ge 1 ws.length with h1 | h1
  · have hd1 : decide ((ws.length : Int) > 1) = true := decide_eq_true (by omega)
    rw [if_pos h1] at ha
    replace hA : Kon Tryd.prog 46 [vS (ws.getD (1 : Int).toNat Cel.no)] [] (vI a) [] [] := by rw [← ha]; exact hA
    rcases Nat.lt_or_ge 2 ws.length with h2 | h2
    · have hd2 : decide ((ws.length : Int) > 2) = true := decide_eq_true (by omega)
      rw [if_pos h2] at hb
      replace hB : Kon Tryd.prog 46 [vS (ws.getD (2 : Int).toNat Cel.no)] [] (vI b) [] [] := by rw [← hb]; exact hB
      clear ha hb
      (refine kon_mk T0ok (fn := Tryd.f17) (c := Tryd.f17.body.get rfl) Tryd.func17 rfl (by rfl) (by rfl) (by rfl) ?_; intro hfit hfe)
      (repeat (first | refine gq_LK ?_ | (refine ga_LK ?_; intro _hq)))
      refine aw_unroll 10 ?_
      (repeat (first | refine gq_LK ?_ | (refine ga_LK ?_; intro _hq)))
      ((try refine aw_ret ?_); refine ret_auto2 (by rfl) (by rfl) (by rfl) (by repeat (first | exact trivial | refine ⟨by first | rfl | omega, ?_⟩)) ?_ (by repeat (first | exact trivial | refine ⟨by rfl, by rfl, ?_⟩)) (by repeat (first | exact trivial | refine ⟨by rfl, by rfl, ?_⟩)); try rfl)
    · have hd2 : decide ((ws.length : Int) > 2) = false := decide_eq_false (by omega)
      rw [if_neg (by omega)] at hb
      subst hb
      clear ha hB
      (refine kon_mk T0ok (fn := Tryd.f17) (c := Tryd.f17.body.get rfl) Tryd.func17 rfl (by rfl) (by rfl) (by rfl) ?_; intro hfit hfe)
      (repeat (first | refine gq_LK ?_ | (refine ga_LK ?_; intro _hq)))
      refine aw_unroll 10 ?_
      (repeat (first | refine gq_LK ?_ | (refine ga_LK ?_; intro _hq)))
      ((try refine aw_ret ?_); refine ret_auto2 (by rfl) (by rfl) (by rfl) (by repeat (first | exact trivial | refine ⟨by first | rfl | omega, ?_⟩)) ?_ (by repeat (first | exact trivial | refine ⟨by rfl, by rfl, ?_⟩)) (by repeat (first | exact trivial | refine ⟨by rfl, by rfl, ?_⟩)); try rfl)
  · have hd1 : decide ((ws.length : Int) > 1) = false := decide_eq_false (by omega)
    have hd2 : decide ((ws.length : Int) > 2) = false := decide_eq_false (by omega)
    rw [if_neg (by omega)] at ha hb
    subst ha hb
    exfalso
    rw [show ltx 8 (-1) 0 (-1) = [] from by decide +kernel] at t8
    have e := eq_of_beq t8
    subst e
    cases hne
set_option maxHeartbeats 4000000 in
theorem k_rlS9 (s : List UInt8) (a b : Int) (hs : s.length ≤ 7000000) (hne : (!(s == [])) = true) (ha : wdA s = a) (hb : wdB s = b) (t0 : (ltx 0 a b 0 == s) = false) (t1 : (ltx 1 a b 0 == s) = false) (t2 : (ltx 2 a 0 b == s) = false) (t3 : (ltx 3 a b 0 == s) = false) (t4 : (ltx 4 0 0 a == s) = false) (t5 : (ltx 5 0 0 0 == s) = false) (t6 : (ltx 6 a 0 b == s) = false) (t7 : (ltx 7 0 0 0 == s) = false) (t8 : (ltx 8 a 0 b == s) = false) : Kon Tryd.prog 17 [vS s] [] (tupL 0 0 0 0 false) [] [] := by
  have hC := k_cut s hs
  unfold wdA at ha
  unfold wdB at hb
  generalize cutA 32 [] s = ws at *
  have hA := k_dig (ws.getD (1 : Int).toNat Cel.no)
  have hB := k_dig (ws.getD (2 : Int).toNat Cel.no)
  rcases Nat.lt_or_ge 1 ws.length with h1 | h1
  · have hd1 : decide ((ws.length : Int) > 1) = true := decide_eq_true (by omega)
    rw [if_pos h1] at ha
    replace hA : Kon Tryd.prog 46 [vS (ws.getD (1 : Int).toNat Cel.no)] [] (vI a) [] [] := by rw [← ha]; exact hA
    rcases Nat.lt_or_ge 2 ws.length with h2 | h2
    · have hd2 : decide ((ws.length : Int) > 2) = true := decide_eq_true (by omega)
      rw [if_pos h2] at hb
      replace hB : Kon Tryd.prog 46 [vS (ws.getD (2 : Int).toNat Cel.no)] [] (vI b) [] [] := by rw [← hb]; exact hB
      clear ha hb
      (refine kon_mk T0ok (fn := Tryd.f17) (c := Tryd.f17.body.get rfl) Tryd.func17 rfl (by rfl) (by rfl) (by rfl) ?_; intro hfit hfe)
      (repeat (first | refine gq_LK ?_ | (refine ga_LK ?_; intro _hq)))
      refine aw_unroll 10 ?_
      (repeat (first | refine gq_LK ?_ | (refine ga_LK ?_; intro _hq)))
      ((try refine aw_ret ?_); refine ret_auto2 (by rfl) (by rfl) (by rfl) (by repeat (first | exact trivial | refine ⟨by first | rfl | omega, ?_⟩)) ?_ (by repeat (first | exact trivial | refine ⟨by rfl, by rfl, ?_⟩)) (by repeat (first | exact trivial | refine ⟨by rfl, by rfl, ?_⟩)); try rfl)
    · have hd2 : decide ((ws.length : Int) > 2) = false := decide_eq_false (by omega)
      rw [if_neg (by omega)] at hb
      subst hb
      clear ha hB
      (refine kon_mk T0ok (fn := Tryd.f17) (c := Tryd.f17.body.get rfl) Tryd.func17 rfl (by rfl) (by rfl) (by rfl) ?_; intro hfit hfe)
      (repeat (first | refine gq_LK ?_ | (refine ga_LK ?_; intro _hq)))
      refine aw_unroll 10 ?_
      (repeat (first | refine gq_LK ?_ | (refine ga_LK ?_; intro _hq)))
      ((try refine aw_ret ?_); refine ret_auto2 (by rfl) (by rfl) (by rfl) (by repeat (first | exact trivial | refine ⟨by first | rfl | omega, ?_⟩)) ?_ (by repeat (first | exact trivial | refine ⟨by rfl, by rfl, ?_⟩)) (by repeat (first | exact trivial | refine ⟨by rfl, by rfl, ?_⟩)); try rfl)
  · have hd1 : decide ((ws.length : Int) > 1) = false := decide_eq_false (by omega)
    have hd2 : decide ((ws.length : Int) > 2) = false := decide_eq_false (by omega)
    rw [if_neg (by omega)] at ha hb
    subst ha hb
    clear hA hB
    (refine kon_mk T0ok (fn := Tryd.f17) (c := Tryd.f17.body.get rfl) Tryd.func17 rfl (by rfl) (by rfl) (by rfl) ?_; intro hfit hfe)
    (repeat (first | refine gq_LK ?_ | (refine ga_LK ?_; intro _hq)))
    refine aw_unroll 10 ?_
    (repeat (first | refine gq_LK ?_ | (refine ga_LK ?_; intro _hq)))
    ((try refine aw_ret ?_); refine ret_auto2 (by rfl) (by rfl) (by rfl) (by repeat (first | exact trivial | refine ⟨by first | rfl | omega, ?_⟩)) ?_ (by repeat (first | exact trivial | refine ⟨by rfl, by rfl, ?_⟩)) (by repeat (first | exact trivial | refine ⟨by rfl, by rfl, ?_⟩)); try rfl)
end Go.Proofs.YtjhdfkifpmmefaaDoor
