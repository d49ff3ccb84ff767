/- DX: laid into one text. -/
import Derived.Test.YtgphlcdinejmdaaGreatDoorQVF
import Derived.Test.YtgphlcdinejmdaaGreatDoorQVI
import Derived.Test.YtgphlcdinejmdaaGreatDoorQVQ

/- DeedText of both sides. -/
namespace Go.Proofs.YtgphlcdinejmdaaGreatDoor
set_option linter.unusedVariables false
set_option linter.unusedSimpArgs false
set_option maxRecDepth 20000
open Go.RowKit
open Go.Lib (decDigits)
attribute [local irreducible] runA runX AW
theorem gq_DX {H G : Prop} (k : H) (h : Hid H → G := by (intro hh; (first | (first | ((first | refine r_none ?_ | refine r_gt (by rfl) (by rfl) (by first | rfl | assumption | omega | (simp only [*, Bool.not_false, Bool.not_true]; first | done | fail) | (simp [*]; first | done | fail)) (by rfl) ?_ | refine r_gf (by rfl) (by rfl) (by first | rfl | assumption | omega | (simp only [*, Bool.not_false, Bool.not_true]; first | done | fail) | (simp [*]; first | done | fail)) (by rfl) ?_); (first | (first | refine r_slen (by rfl) Tryz.underlying9 (by rfl) ?_ | refine r_seq (by rfl) (by rfl) (by rfl) ?_ | refine r_sne (by rfl) (by rfl) (by rfl) ?_ | refine r_sadd (by rfl) (by rfl) (by first | omega | (simp only [List.length_append, List.length_cons, List.length_nil]; omega)) (by rfl) ?_) | ((first | (refine z_op (by rfl) ?_; first | refine z_ok ?_ ?_ | refine z_ex ?_ (by first | exact ft_raw rfl rfl | ((first | refine ft_rp rfl rfl rfl ?_ | refine ft_row rfl rfl rfl ?_ | refine ft_rpF rfl rfl rfl ?_ | refine ft_rowF rfl rfl rfl ?_ | refine up_row rfl rfl ?_ | refine up_rowF rfl rfl rfl ?_ | refine ct_0 rfl ?_ | refine ct_r rfl rfl ?_ | refine ct_c rfl rfl rfl ?_ | refine cu_all rfl ?_ | refine cu_to rfl ?_ | refine cu_from rfl ?_ | refine cu_p rfl ?_ | fail); (first | omega | (simp only [List.length_append, List.length_replicate, List.length_cons, List.length_nil, List.length_set, List.length_take, List.length_drop, true_and]; omega))) | exact up_raw rfl | exact pk_t (by first | rfl | assumption | omega | (simp only [*, Bool.not_false, Bool.not_true]; first | done | fail) | (simp [*]; first | done | fail)) rfl | exact pk_f (by first | rfl | assumption | omega | (simp only [*, Bool.not_false, Bool.not_true]; first | done | fail) | (simp [*]; first | done | fail)) rfl | (first | exact rw_c (List UInt8) rfl) | exact rw_raw | exact pu_cv (fun w => rfl) (by omega) | exact pu_of (fun w => rfl) rfl | exact be_of (fun w => rfl) | exact nc_of (fun _ _ _ _ => rfl) rfl | exact bu_of (fun w => rfl) rfl | (first | exact pu_of (fun w => eq_gate _ _ _ _ _ _ _ _ _ _ w) rfl | exact pu_of (fun w => eq_deed _ _ _ _ _ _ _ _ _ _ _ _ _ _ w) rfl)) ?_) | ((first | refine q_callE wsT wsZ (by rfl) ?_ | refine q_callVE wsT (by rfl) (by rfl) ?_); refine ⟨_, _, _, (by first | assumption | exact k_itoa _ (by omega) | exact k_num _ (by omega) | exact k_within _ _ _ | exact k_l1In _ _ _), _, by rfl, ?_, ?_⟩)); focus (first | exact trivial | fail | exact rfl | (first | omega | (simp only [List.length_append, List.length_replicate, List.length_cons, List.length_nil, List.length_set, List.length_take, List.length_drop, true_and]; omega)) | exact cvB (fun w => rfl) | ((repeat' (first | exact rfl | exact cV_len _ | exact cV_ln rfl (by omega) | exact Cel.pos | omega | exact trivial | refine And.intro ?_ ?_)); done) | (simp [*]; done) | (simp; omega))) | fail)) | refine r_nt (by rfl) (by rfl) (by first | rfl | assumption | omega | (simp only [*, Bool.not_false, Bool.not_true]; first | done | fail) | (simp [*]; first | done | fail)) (by rfl) ?_ | refine r_nf (by rfl) (by rfl) (by first | rfl | assumption | omega | (simp only [*, Bool.not_false, Bool.not_true]; first | done | fail) | (simp [*]; first | done | fail)) (by rfl) ?_ | refine r_gu (by rfl) (by rfl) (by rfl) ?_ | refine r_nil ?_) | (first | refine aw_seq ?_ | refine aw_ct (by rfl) (by first | rfl | assumption | omega | (simp only [*, Bool.not_false, Bool.not_true]; first | done | fail) | (simp [*]; first | done | fail)) ?_ | refine aw_cf (by rfl) (by first | rfl | assumption | omega | (simp only [*, Bool.not_false, Bool.not_true]; first | done | fail) | (simp [*]; first | done | fail)) ?_ | refine aw_block ?_ | refine aw_region T0ok cfU_ok (by rfl) ?_ | refine aw_skip ?_ | refine aw_exit ?_ | refine ra_step ?_)); (repeat (first | (first | ((first | refine r_none ?_ | refine r_gt (by rfl) (by rfl) (by first | rfl | assumption | omega | (simp only [*, Bool.not_false, Bool.not_true]; first | done | fail) | (simp [*]; first | done | fail)) (by rfl) ?_ | refine r_gf (by rfl) (by rfl) (by first | rfl | assumption | omega | (simp only [*, Bool.not_false, Bool.not_true]; first | done | fail) | (simp [*]; first | done | fail)) (by rfl) ?_); (first | (first | refine r_slen (by rfl) Tryz.underlying9 (by rfl) ?_ | refine r_seq (by rfl) (by rfl) (by rfl) ?_ | refine r_sne (by rfl) (by rfl) (by rfl) ?_ | refine r_sadd (by rfl) (by rfl) (by first | omega | (simp only [List.length_append, List.length_cons, List.length_nil]; omega)) (by rfl) ?_) | ((first | (refine z_op (by rfl) ?_; first | refine z_ok ?_ ?_ | refine z_ex ?_ (by first | exact ft_raw rfl rfl | ((first | refine ft_rp rfl rfl rfl ?_ | refine ft_row rfl rfl rfl ?_ | refine ft_rpF rfl rfl rfl ?_ | refine ft_rowF rfl rfl rfl ?_ | refine up_row rfl rfl ?_ | refine up_rowF rfl rfl rfl ?_ | refine ct_0 rfl ?_ | refine ct_r rfl rfl ?_ | refine ct_c rfl rfl rfl ?_ | refine cu_all rfl ?_ | refine cu_to rfl ?_ | refine cu_from rfl ?_ | refine cu_p rfl ?_ | fail); (first | omega | (simp only [List.length_append, List.length_replicate, List.length_cons, List.length_nil, List.length_set, List.length_take, List.length_drop, true_and]; omega))) | exact up_raw rfl | exact pk_t (by first | rfl | assumption | omega | (simp only [*, Bool.not_false, Bool.not_true]; first | done | fail) | (simp [*]; first | done | fail)) rfl | exact pk_f (by first | rfl | assumption | omega | (simp only [*, Bool.not_false, Bool.not_true]; first | done | fail) | (simp [*]; first | done | fail)) rfl | (first | exact rw_c (List UInt8) rfl) | exact rw_raw | exact pu_cv (fun w => rfl) (by omega) | exact pu_of (fun w => rfl) rfl | exact be_of (fun w => rfl) | exact nc_of (fun _ _ _ _ => rfl) rfl | exact bu_of (fun w => rfl) rfl | (first | exact pu_of (fun w => eq_gate _ _ _ _ _ _ _ _ _ _ w) rfl | exact pu_of (fun w => eq_deed _ _ _ _ _ _ _ _ _ _ _ _ _ _ w) rfl)) ?_) | ((first | refine q_callE wsT wsZ (by rfl) ?_ | refine q_callVE wsT (by rfl) (by rfl) ?_); refine ⟨_, _, _, (by first | assumption | exact k_itoa _ (by omega) | exact k_num _ (by omega) | exact k_within _ _ _ | exact k_l1In _ _ _), _, by rfl, ?_, ?_⟩)); focus (first | exact trivial | fail | exact rfl | (first | omega | (simp only [List.length_append, List.length_replicate, List.length_cons, List.length_nil, List.length_set, List.length_take, List.length_drop, true_and]; omega)) | exact cvB (fun w => rfl) | ((repeat' (first | exact rfl | exact cV_len _ | exact cV_ln rfl (by omega) | exact Cel.pos | omega | exact trivial | refine And.intro ?_ ?_)); done) | (simp [*]; done) | (simp; omega))) | fail)) | refine r_nt (by rfl) (by rfl) (by first | rfl | assumption | omega | (simp only [*, Bool.not_false, Bool.not_true]; first | done | fail) | (simp [*]; first | done | fail)) (by rfl) ?_ | refine r_nf (by rfl) (by rfl) (by first | rfl | assumption | omega | (simp only [*, Bool.not_false, Bool.not_true]; first | done | fail) | (simp [*]; first | done | fail)) (by rfl) ?_ | refine r_gu (by rfl) (by rfl) (by rfl) ?_ | refine r_nil ?_) | (first | refine aw_seq ?_ | refine aw_ct (by rfl) (by first | rfl | assumption | omega | (simp only [*, Bool.not_false, Bool.not_true]; first | done | fail) | (simp [*]; first | done | fail)) ?_ | refine aw_cf (by rfl) (by first | rfl | assumption | omega | (simp only [*, Bool.not_false, Bool.not_true]; first | done | fail) | (simp [*]; first | done | fail)) ?_ | refine aw_block ?_ | refine aw_region T0ok cfU_ok (by rfl) ?_ | refine aw_skip ?_ | refine aw_exit ?_ | refine ra_step ?_))); exact hh.out)) : G := h ⟨k⟩
theorem ga_DX {H G : Prop} (k : H) (h : Hid H → G := by (intro hh; (first | refine r_none ?_ | refine r_gt (by rfl) (by rfl) (by first | rfl | assumption | omega | (simp only [*, Bool.not_false, Bool.not_true]; first | done | fail) | (simp [*]; first | done | fail)) (by rfl) ?_ | refine r_gf (by rfl) (by rfl) (by first | rfl | assumption | omega | (simp only [*, Bool.not_false, Bool.not_true]; first | done | fail) | (simp [*]; first | done | fail)) (by rfl) ?_); refine z_op (by rfl) ?_; refine z_alV ?_ hh.out; focus (first | exact trivial | fail | exact rfl | (first | omega | (simp only [List.length_append, List.length_replicate, List.length_cons, List.length_nil, List.length_set, List.length_take, List.length_drop, true_and]; omega)) | exact cvB (fun w => rfl) | ((repeat' (first | exact rfl | exact cV_len _ | exact cV_ln rfl (by omega) | exact Cel.pos | omega | exact trivial | refine And.intro ?_ ?_)); done) | (simp [*]; done) | (simp; omega)))) : G := h ⟨k⟩
theorem gd_DX {H G : Prop} (k : H) (h : Hid H → G := by (intro hh; (refine aw_draw mixed T0ok cfU_ok [] (by rfl) (by kernel_rfl) ?_); exact hh.out)) : G := h ⟨k⟩
/-- Is it the zero gate? -/
def gz (p : Gt) : Bool := p.k == 0 && (p.a == 0 && (p.b == 0 && p.c == 0))
theorem gz_iff (p : Gt) : gz p = true ↔ p = g0 := by
  obtain ⟨k, a, b, c⟩ := p
  unfold gz g0
  simp only [Bool.and_eq_true, beq_iff_eq, Gt.mk.injEq]
theorem dtx01 (k n : Int) (p : Gt) (hk : k = 0 ∨ k = 1) : dtx k n p = if (gz p && btw n 1 99) = true then dnm k ++ [32] ++ dx n else [] := by
  unfold dtx
  rw [if_pos hk]
  have e : (gz p && btw n 1 99) = true ↔ (p = g0 ∧ 1 ≤ n ∧ n ≤ 99) := by
    rw [Bool.and_eq_true, gz_iff]; unfold btw
    rw [Bool.and_eq_true, decide_eq_true_eq, decide_eq_true_eq]
  by_cases h : (gz p && btw n 1 99) = true
  · rw [if_pos h, if_pos (e.1 h)]
  · rw [if_neg h, if_neg (fun h2 => h (e.2 h2))]
theorem dtx2 (n : Int) (p : Gt) : dtx 2 n p = if (n == 0 && gok 8 p) = true then dnm 2 ++ [32] ++ gtT p else [] := by
  unfold dtx
  rw [if_neg (by omega), if_pos rfl]
  have e : (n == 0 && gok 8 p) = true ↔ (n = 0 ∧ gok 8 p = true) := by rw [Bool.and_eq_true, beq_iff_eq]
  by_cases h : (n == 0 && gok 8 p) = true
  · rw [if_pos h, if_pos (e.1 h)]
  · rw [if_neg h, if_neg (fun h2 => h (e.2 h2))]
theorem dtx34 (k n : Int) (p : Gt) (hk : k = 3 ∨ k = 4) : dtx k n p = if (n == 0 && gz p) = true then dnm k else [] := by
  unfold dtx
  rw [if_neg (by omega), if_neg (by omega), if_pos hk]
  have e : (n == 0 && gz p) = true ↔ (n = 0 ∧ p = g0) := by rw [Bool.and_eq_true, beq_iff_eq, gz_iff]
  by_cases h : (n == 0 && gz p) = true
  · rw [if_pos h, if_pos (e.1 h)]
  · rw [if_neg h, if_neg (fun h2 => h (e.2 h2))]
theorem dtxX (k n : Int) (p : Gt) (h : k < 0 ∨ 4 < k) : dtx k n p = [] := by
  unfold dtx
  rw [if_neg (by omega), if_neg (by omega), if_neg (by omega)]
theorem dx_len2 {n : Int} (h : btw n 1 99 = true) : (1 ≤ n ∧ n ≤ 99) ∧ (decDigits n.toNat).length ≤ 2 := by
  have h2 := btw_t h
  have : 1 ≤ (dx n).length ∧ (dx n).length ≤ 2 := (dd2_of (n := n.toNat) (by omega)).2.2.2
  exact ⟨h2, this.2⟩
theorem k_dtI0 (n : Int) (p : Gt) : Kon Tryz.prog 7 [dV ⟨0, n, p⟩] [] (vS (dtx 0 n p)) [] [] := by
  rw [dtx01 0 n p (by omega)]
  have hW := k_within n 1 99
  cases hz : gz p with
  | false =>
    rw [Bool.false_and, if_neg (by decide)]
    unfold gz at hz
    obtain ⟨pk, a, b, c⟩ := p
    dsimp only at hz
    (refine kon_mk T0ok (fn := Tryz.f7) (c := Tryz.f7.body.get rfl) Tryz.func7 rfl (by rfl) (by rfl) (by rfl) ?_; intro hfit hfe)
    (repeat (first | refine gq_DX ?_ | (refine ga_DX ?_; intro _hq)))
    ((try refine aw_ret ?_); refine ret_auto2 (by rfl) (by rfl) (by rfl) (by repeat (first | exact trivial | refine ⟨by first | rfl | omega, ?_⟩)) ?_ (by repeat (first | exact trivial | refine ⟨by rfl, by rfl, ?_⟩)) (by repeat (first | exact trivial | refine ⟨by rfl, by rfl, ?_⟩)); try rfl)
  | true =>
    rw [Bool.true_and]
    unfold gz at hz
    obtain ⟨pk, a, b, c⟩ := p
    dsimp only at hz
    cases hb : btw n 1 99 with
    | false =>
      rw [hb] at hW
      rw [if_neg (by decide)]
      (refine kon_mk T0ok (fn := Tryz.f7) (c := Tryz.f7.body.get rfl) Tryz.func7 rfl (by rfl) (by rfl) (by rfl) ?_; intro hfit hfe)
      (repeat (first | refine gq_DX ?_ | (refine ga_DX ?_; intro _hq)))
      ((try refine aw_ret ?_); refine ret_auto2 (by rfl) (by rfl) (by rfl) (by repeat (first | exact trivial | refine ⟨by first | rfl | omega, ?_⟩)) ?_ (by repeat (first | exact trivial | refine ⟨by rfl, by rfl, ?_⟩)) (by repeat (first | exact trivial | refine ⟨by rfl, by rfl, ?_⟩)); try rfl)
    | true =>
      rw [hb] at hW
      rw [if_pos rfl]
      obtain ⟨h2, hl⟩ := dx_len2 hb
      have hI := k_itoa n (by omega)
      (refine kon_mk T0ok (fn := Tryz.f7) (c := Tryz.f7.body.get rfl) Tryz.func7 rfl (by rfl) (by rfl) (by rfl) ?_; intro hfit hfe)
      (repeat (first | refine gq_DX ?_ | (refine ga_DX ?_; intro _hq)))
      ((try refine aw_ret ?_); refine ret_auto2 (by rfl) (by rfl) (by rfl) (by repeat (first | exact trivial | refine ⟨by first | rfl | omega, ?_⟩)) ?_ (by repeat (first | exact trivial | refine ⟨by rfl, by rfl, ?_⟩)) (by repeat (first | exact trivial | refine ⟨by rfl, by rfl, ?_⟩)); try rfl)
theorem k_dtS0 (n : Int) (p : Gt) : Kon Tryz.prog 8 [dV ⟨0, n, p⟩] [] (vS (dtx 0 n p)) [] [] := by
  rw [dtx01 0 n p (by omega)]
  have hW := k_l1In n 1 99
  have hN := k_named0 ⟨0, n, p⟩ rfl
  rw [show nmD ⟨0, n, p⟩ = gz p from rfl] at hN
  cases hz : gz p with
  | false =>
    rw [hz] at hN
    rw [Bool.false_and, if_neg (by decide)]
    (refine kon_mk T0ok (fn := Tryz.f8) (c := Tryz.f8.body.get rfl) Tryz.func8 rfl (by rfl) (by rfl) (by rfl) ?_; intro hfit hfe)
    (repeat (first | refine gq_DX ?_ | (refine ga_DX ?_; intro _hq) | refine gd_DX ?_))
    ((try refine aw_ret ?_); refine ret_auto2 (by rfl) (by rfl) (by rfl) (by repeat (first | exact trivial | refine ⟨by first | rfl | omega, ?_⟩)) ?_ (by repeat (first | exact trivial | refine ⟨by rfl, by rfl, ?_⟩)) (by repeat (first | exact trivial | refine ⟨by rfl, by rfl, ?_⟩)); try rfl)
  | true =>
    rw [hz] at hN
    rw [Bool.true_and]
    cases hb : btw n 1 99 with
    | false =>
      rw [hb] at hW
      rw [if_neg (by decide)]
      (refine kon_mk T0ok (fn := Tryz.f8) (c := Tryz.f8.body.get rfl) Tryz.func8 rfl (by rfl) (by rfl) (by rfl) ?_; intro hfit hfe)
      (repeat (first | refine gq_DX ?_ | (refine ga_DX ?_; intro _hq) | refine gd_DX ?_))
      ((try refine aw_ret ?_); refine ret_auto2 (by rfl) (by rfl) (by rfl) (by repeat (first | exact trivial | refine ⟨by first | rfl | omega, ?_⟩)) ?_ (by repeat (first | exact trivial | refine ⟨by rfl, by rfl, ?_⟩)) (by repeat (first | exact trivial | refine ⟨by rfl, by rfl, ?_⟩)); try rfl)
    | true =>
      rw [hb] at hW
      rw [if_pos rfl]
      obtain ⟨h2, hl⟩ := dx_len2 hb
      have hI := k_num n (by omega)
      (refine kon_mk T0ok (fn := Tryz.f8) (c := Tryz.f8.body.get rfl) Tryz.func8 rfl (by rfl) (by rfl) (by rfl) ?_; intro hfit hfe)
      (repeat (first | refine gq_DX ?_ | (refine ga_DX ?_; intro _hq) | refine gd_DX ?_))
      ((try refine aw_ret ?_); refine ret_auto2 (by rfl) (by rfl) (by rfl) (by repeat (first | exact trivial | refine ⟨by first | rfl | omega, ?_⟩)) ?_ (by repeat (first | exact trivial | refine ⟨by rfl, by rfl, ?_⟩)) (by repeat (first | exact trivial | refine ⟨by rfl, by rfl, ?_⟩)); try rfl)
theorem k_dtI1 (n : Int) (p : Gt) : Kon Tryz.prog 7 [dV ⟨1, n, p⟩] [] (vS (dtx 1 n p)) [] [] := by
  rw [dtx01 1 n p (by omega)]
  have hW := k_within n 1 99
  cases hz : gz p with
  | false =>
    rw [Bool.false_and, if_neg (by decide)]
    unfold gz at hz
    obtain ⟨pk, a, b, c⟩ := p
    dsimp only at hz
    (refine kon_mk T0ok (fn := Tryz.f7) (c := Tryz.f7.body.get rfl) Tryz.func7 rfl (by rfl) (by rfl) (by rfl) ?_; intro hfit hfe)
    (repeat (first | refine gq_DX ?_ | (refine ga_DX ?_; intro _hq)))
    ((try refine aw_ret ?_); refine ret_auto2 (by rfl) (by rfl) (by rfl) (by repeat (first | exact trivial | refine ⟨by first | rfl | omega, ?_⟩)) ?_ (by repeat (first | exact trivial | refine ⟨by rfl, by rfl, ?_⟩)) (by repeat (first | exact trivial | refine ⟨by rfl, by rfl, ?_⟩)); try rfl)
  | true =>
    rw [Bool.true_and]
    unfold gz at hz
    obtain ⟨pk, a, b, c⟩ := p
    dsimp only at hz
    cases hb : btw n 1 99 with
    | false =>
      rw [hb] at hW
      rw [if_neg (by decide)]
      (refine kon_mk T0ok (fn := Tryz.f7) (c := Tryz.f7.body.get rfl) Tryz.func7 rfl (by rfl) (by rfl) (by rfl) ?_; intro hfit hfe)
      (repeat (first | refine gq_DX ?_ | (refine ga_DX ?_; intro _hq)))
      ((try refine aw_ret ?_); refine ret_auto2 (by rfl) (by rfl) (by rfl) (by repeat (first | exact trivial | refine ⟨by first | rfl | omega, ?_⟩)) ?_ (by repeat (first | exact trivial | refine ⟨by rfl, by rfl, ?_⟩)) (by repeat (first | exact trivial | refine ⟨by rfl, by rfl, ?_⟩)); try rfl)
    | true =>
      rw [hb] at hW
      rw [if_pos rfl]
      obtain ⟨h2, hl⟩ := dx_len2 hb
      have hI := k_itoa n (by omega)
      (refine kon_mk T0ok (fn := Tryz.f7) (c := Tryz.f7.body.get rfl) Tryz.func7 rfl (by rfl) (by rfl) (by rfl) ?_; intro hfit hfe)
      (repeat (first | refine gq_DX ?_ | (refine ga_DX ?_; intro _hq)))
      ((try refine aw_ret ?_); refine ret_auto2 (by rfl) (by rfl) (by rfl) (by repeat (first | exact trivial | refine ⟨by first | rfl | omega, ?_⟩)) ?_ (by repeat (first | exact trivial | refine ⟨by rfl, by rfl, ?_⟩)) (by repeat (first | exact trivial | refine ⟨by rfl, by rfl, ?_⟩)); try rfl)
theorem k_dtS1 (n : Int) (p : Gt) : Kon Tryz.prog 8 [dV ⟨1, n, p⟩] [] (vS (dtx 1 n p)) [] [] := by
  rw [dtx01 1 n p (by omega)]
  have hW := k_l1In n 1 99
  have hN := k_named1 ⟨1, n, p⟩ rfl
  rw [show nmD ⟨1, n, p⟩ = gz p from rfl] at hN
  cases hz : gz p with
  | false =>
    rw [hz] at hN
    rw [Bool.false_and, if_neg (by decide)]
    (refine kon_mk T0ok (fn := Tryz.f8) (c := Tryz.f8.body.get rfl) Tryz.func8 rfl (by rfl) (by rfl) (by rfl) ?_; intro hfit hfe)
    (repeat (first | refine gq_DX ?_ | (refine ga_DX ?_; intro _hq) | refine gd_DX ?_))
    ((try refine aw_ret ?_); refine ret_auto2 (by rfl) (by rfl) (by rfl) (by repeat (first | exact trivial | refine ⟨by first | rfl | omega, ?_⟩)) ?_ (by repeat (first | exact trivial | refine ⟨by rfl, by rfl, ?_⟩)) (by repeat (first | exact trivial | refine ⟨by rfl, by rfl, ?_⟩)); try rfl)
  | true =>
    rw [hz] at hN
    rw [Bool.true_and]
    cases hb : btw n 1 99 with
    | false =>
      rw [hb] at hW
      rw [if_neg (by decide)]
      (refine kon_mk T0ok (fn := Tryz.f8) (c := Tryz.f8.body.get rfl) Tryz.func8 rfl (by rfl) (by rfl) (by rfl) ?_; intro hfit hfe)
      (repeat (first | refine gq_DX ?_ | (refine ga_DX ?_; intro _hq) | refine gd_DX ?_))
      ((try refine aw_ret ?_); refine ret_auto2 (by rfl) (by rfl) (by rfl) (by repeat (first | exact trivial | refine ⟨by first | rfl | omega, ?_⟩)) ?_ (by repeat (first | exact trivial | refine ⟨by rfl, by rfl, ?_⟩)) (by repeat (first | exact trivial | refine ⟨by rfl, by rfl, ?_⟩)); try rfl)
    | true =>
      rw [hb] at hW
      rw [if_pos rfl]
      obtain ⟨h2, hl⟩ := dx_len2 hb
      have hI := k_num n (by omega)
      (refine kon_mk T0ok (fn := Tryz.f8) (c := Tryz.f8.body.get rfl) Tryz.func8 rfl (by rfl) (by rfl) (by rfl) ?_; intro hfit hfe)
      (repeat (first | refine gq_DX ?_ | (refine ga_DX ?_; intro _hq) | refine gd_DX ?_))
      ((try refine aw_ret ?_); refine ret_auto2 (by rfl) (by rfl) (by rfl) (by repeat (first | exact trivial | refine ⟨by first | rfl | omega, ?_⟩)) ?_ (by repeat (first | exact trivial | refine ⟨by rfl, by rfl, ?_⟩)) (by repeat (first | exact trivial | refine ⟨by rfl, by rfl, ?_⟩)); try rfl)
theorem k_dtI2 (n : Int) (p : Gt) : Kon Tryz.prog 7 [dV ⟨2, n, p⟩] [] (vS (dtx 2 n p)) [] [] := by
  rw [dtx2 n p]
  have hG := k_gtI p
  cases hz : (n == 0) with
  | false =>
    rw [Bool.false_and, if_neg (by decide)]
    cases hg : (!(gtx p == [])) with
    | false =>
      (refine kon_mk T0ok (fn := Tryz.f7) (c := Tryz.f7.body.get rfl) Tryz.func7 rfl (by rfl) (by rfl) (by rfl) ?_; intro hfit hfe)
      (repeat (first | refine gq_DX ?_ | (refine ga_DX ?_; intro _hq)))
      ((try refine aw_ret ?_); refine ret_auto2 (by rfl) (by rfl) (by rfl) (by repeat (first | exact trivial | refine ⟨by first | rfl | omega, ?_⟩)) ?_ (by repeat (first | exact trivial | refine ⟨by rfl, by rfl, ?_⟩)) (by repeat (first | exact trivial | refine ⟨by rfl, by rfl, ?_⟩)); try rfl)
    | true =>
      (refine kon_mk T0ok (fn := Tryz.f7) (c := Tryz.f7.body.get rfl) Tryz.func7 rfl (by rfl) (by rfl) (by rfl) ?_; intro hfit hfe)
      (repeat (first | refine gq_DX ?_ | (refine ga_DX ?_; intro _hq)))
      ((try refine aw_ret ?_); refine ret_auto2 (by rfl) (by rfl) (by rfl) (by repeat (first | exact trivial | refine ⟨by first | rfl | omega, ?_⟩)) ?_ (by repeat (first | exact trivial | refine ⟨by rfl, by rfl, ?_⟩)) (by repeat (first | exact trivial | refine ⟨by rfl, by rfl, ?_⟩)); try rfl)
  | true =>
    rw [Bool.true_and]
    unfold gtx at hG
    cases hg : gok 8 p with
    | false =>
      rw [hg, if_neg (by decide)] at hG
      rw [if_neg (by decide)]
      have hn : (!(([] : List UInt8) == [])) = false := rfl
      (refine kon_mk T0ok (fn := Tryz.f7) (c := Tryz.f7.body.get rfl) Tryz.func7 rfl (by rfl) (by rfl) (by rfl) ?_; intro hfit hfe)
      (repeat (first | refine gq_DX ?_ | (refine ga_DX ?_; intro _hq)))
      ((try refine aw_ret ?_); refine ret_auto2 (by rfl) (by rfl) (by rfl) (by repeat (first | exact trivial | refine ⟨by first | rfl | omega, ?_⟩)) ?_ (by repeat (first | exact trivial | refine ⟨by rfl, by rfl, ?_⟩)) (by repeat (first | exact trivial | refine ⟨by rfl, by rfl, ?_⟩)); try rfl)
    | true =>
      rw [hg, if_pos rfl] at hG
      rw [if_pos rfl]
      have hn : (!(gtT p == [])) = true := by rw [Bool.not_eq_true', beq_eq_false_iff_ne]; exact gtT_ne p
      have hl := gtT_len hg
      (refine kon_mk T0ok (fn := Tryz.f7) (c := Tryz.f7.body.get rfl) Tryz.func7 rfl (by rfl) (by rfl) (by rfl) ?_; intro hfit hfe)
      (repeat (first | refine gq_DX ?_ | (refine ga_DX ?_; intro _hq)))
      ((try refine aw_ret ?_); refine ret_auto2 (by rfl) (by rfl) (by rfl) (by repeat (first | exact trivial | refine ⟨by first | rfl | omega, ?_⟩)) ?_ (by repeat (first | exact trivial | refine ⟨by rfl, by rfl, ?_⟩)) (by repeat (first | exact trivial | refine ⟨by rfl, by rfl, ?_⟩)); try rfl)
theorem k_dtS2 (n : Int) (p : Gt) : Kon Tryz.prog 8 [dV ⟨2, n, p⟩] [] (vS (dtx 2 n p)) [] [] := by
  rw [dtx2 n p]
  have hG := k_gtS p
  have hN := k_named2 ⟨2, n, p⟩ rfl
  rw [show nmD ⟨2, n, p⟩ = (n == 0) from rfl] at hN
  cases hz : (n == 0) with
  | false =>
    rw [hz] at hN
    rw [Bool.false_and, if_neg (by decide)]
    (refine kon_mk T0ok (fn := Tryz.f8) (c := Tryz.f8.body.get rfl) Tryz.func8 rfl (by rfl) (by rfl) (by rfl) ?_; intro hfit hfe)
    (repeat (first | refine gq_DX ?_ | (refine ga_DX ?_; intro _hq)))
    ((try refine aw_ret ?_); refine ret_auto2 (by rfl) (by rfl) (by rfl) (by repeat (first | exact trivial | refine ⟨by first | rfl | omega, ?_⟩)) ?_ (by repeat (first | exact trivial | refine ⟨by rfl, by rfl, ?_⟩)) (by repeat (first | exact trivial | refine ⟨by rfl, by rfl, ?_⟩)); try rfl)
  | true =>
    rw [hz] at hN
    rw [Bool.true_and]
    unfold gtx at hG
    cases hg : gok 8 p with
    | false =>
      rw [hg, if_neg (by decide)] at hG
      rw [if_neg (by decide)]
      have hn : (!(([] : List UInt8) == [])) = false := rfl
      (refine kon_mk T0ok (fn := Tryz.f8) (c := Tryz.f8.body.get rfl) Tryz.func8 rfl (by rfl) (by rfl) (by rfl) ?_; intro hfit hfe)
      (repeat (first | refine gq_DX ?_ | (refine ga_DX ?_; intro _hq)))
      ((try refine aw_ret ?_); refine ret_auto2 (by rfl) (by rfl) (by rfl) (by repeat (first | exact trivial | refine ⟨by first | rfl | omega, ?_⟩)) ?_ (by repeat (first | exact trivial | refine ⟨by rfl, by rfl, ?_⟩)) (by repeat (first | exact trivial | refine ⟨by rfl, by rfl, ?_⟩)); try rfl)
    | true =>
      rw [hg, if_pos rfl] at hG
      rw [if_pos rfl]
      have hn : (!(gtT p == [])) = true := by rw [Bool.not_eq_true', beq_eq_false_iff_ne]; exact gtT_ne p
      have hl := gtT_len hg
      (refine kon_mk T0ok (fn := Tryz.f8) (c := Tryz.f8.body.get rfl) Tryz.func8 rfl (by rfl) (by rfl) (by rfl) ?_; intro hfit hfe)
      (repeat (first | refine gq_DX ?_ | (refine ga_DX ?_; intro _hq)))
      ((try refine aw_ret ?_); refine ret_auto2 (by rfl) (by rfl) (by rfl) (by repeat (first | exact trivial | refine ⟨by first | rfl | omega, ?_⟩)) ?_ (by repeat (first | exact trivial | refine ⟨by rfl, by rfl, ?_⟩)) (by repeat (first | exact trivial | refine ⟨by rfl, by rfl, ?_⟩)); try rfl)
theorem k_dtI3 (n : Int) (p : Gt) : Kon Tryz.prog 7 [dV ⟨3, n, p⟩] [] (vS (dtx 3 n p)) [] [] := by
  rw [dtx34 3 n p (by omega)]
  cases hz : (n == 0 && gz p) with
  | false =>
    rw [if_neg (by decide)]
    unfold gz at hz
    obtain ⟨pk, a, b, c⟩ := p
    dsimp only at hz
    have hz2 : ((3 : Int) == 3 && (n == 0 && (pk == 0 && (a == 0 && (b == 0 && c == 0))))) = false := by rw [show ((3 : Int) == 3) = true from rfl, Bool.true_and]; exact hz
    (refine kon_mk T0ok (fn := Tryz.f7) (c := Tryz.f7.body.get rfl) Tryz.func7 rfl (by rfl) (by rfl) (by rfl) ?_; intro hfit hfe)
    (repeat (first | refine gq_DX ?_ | (refine ga_DX ?_; intro _hq)))
    ((try refine aw_ret ?_); refine ret_auto2 (by rfl) (by rfl) (by rfl) (by repeat (first | exact trivial | refine ⟨by first | rfl | omega, ?_⟩)) ?_ (by repeat (first | exact trivial | refine ⟨by rfl, by rfl, ?_⟩)) (by repeat (first | exact trivial | refine ⟨by rfl, by rfl, ?_⟩)); try rfl)
  | true =>
    rw [if_pos rfl]
    unfold gz at hz
    obtain ⟨pk, a, b, c⟩ := p
    dsimp only at hz
    have hz2 : ((3 : Int) == 3 && (n == 0 && (pk == 0 && (a == 0 && (b == 0 && c == 0))))) = true := by rw [show ((3 : Int) == 3) = true from rfl, Bool.true_and]; exact hz
    (refine kon_mk T0ok (fn := Tryz.f7) (c := Tryz.f7.body.get rfl) Tryz.func7 rfl (by rfl) (by rfl) (by rfl) ?_; intro hfit hfe)
    (repeat (first | refine gq_DX ?_ | (refine ga_DX ?_; intro _hq)))
    ((try refine aw_ret ?_); refine ret_auto2 (by rfl) (by rfl) (by rfl) (by repeat (first | exact trivial | refine ⟨by first | rfl | omega, ?_⟩)) ?_ (by repeat (first | exact trivial | refine ⟨by rfl, by rfl, ?_⟩)) (by repeat (first | exact trivial | refine ⟨by rfl, by rfl, ?_⟩)); try rfl)
theorem k_dtS3 (n : Int) (p : Gt) : Kon Tryz.prog 8 [dV ⟨3, n, p⟩] [] (vS (dtx 3 n p)) [] [] := by
  rw [dtx34 3 n p (by omega)]
  have hN := k_named3 ⟨3, n, p⟩ rfl
  rw [show nmD ⟨3, n, p⟩ = (n == 0 && gz p) from rfl] at hN
  cases hz : (n == 0 && gz p) with
  | false =>
    rw [hz] at hN
    rw [if_neg (by decide)]
    (refine kon_mk T0ok (fn := Tryz.f8) (c := Tryz.f8.body.get rfl) Tryz.func8 rfl (by rfl) (by rfl) (by rfl) ?_; intro hfit hfe)
    (repeat (first | refine gq_DX ?_ | (refine ga_DX ?_; intro _hq)))
    ((try refine aw_ret ?_); refine ret_auto2 (by rfl) (by rfl) (by rfl) (by repeat (first | exact trivial | refine ⟨by first | rfl | omega, ?_⟩)) ?_ (by repeat (first | exact trivial | refine ⟨by rfl, by rfl, ?_⟩)) (by repeat (first | exact trivial | refine ⟨by rfl, by rfl, ?_⟩)); try rfl)
  | true =>
    rw [hz] at hN
    rw [if_pos rfl]
    (refine kon_mk T0ok (fn := Tryz.f8) (c := Tryz.f8.body.get rfl) Tryz.func8 rfl (by rfl) (by rfl) (by rfl) ?_; intro hfit hfe)
    (repeat (first | refine gq_DX ?_ | (refine ga_DX ?_; intro _hq)))
    ((try refine aw_ret ?_); refine ret_auto2 (by rfl) (by rfl) (by rfl) (by repeat (first | exact trivial | refine ⟨by first | rfl | omega, ?_⟩)) ?_ (by repeat (first | exact trivial | refine ⟨by rfl, by rfl, ?_⟩)) (by repeat (first | exact trivial | refine ⟨by rfl, by rfl, ?_⟩)); try rfl)
theorem k_dtI4 (n : Int) (p : Gt) : Kon Tryz.prog 7 [dV ⟨4, n, p⟩] [] (vS (dtx 4 n p)) [] [] := by
  rw [dtx34 4 n p (by omega)]
  cases hz : (n == 0 && gz p) with
  | false =>
    rw [if_neg (by decide)]
    unfold gz at hz
    obtain ⟨pk, a, b, c⟩ := p
    dsimp only at hz
    have hz2 : ((4 : Int) == 4 && (n == 0 && (pk == 0 && (a == 0 && (b == 0 && c == 0))))) = false := by rw [show ((4 : Int) == 4) = true from rfl, Bool.true_and]; exact hz
    (refine kon_mk T0ok (fn := Tryz.f7) (c := Tryz.f7.body.get rfl) Tryz.func7 rfl (by rfl) (by rfl) (by rfl) ?_; intro hfit hfe)
    (repeat (first | refine gq_DX ?_ | (refine ga_DX ?_; intro _hq)))
    ((try refine aw_ret ?_); refine ret_auto2 (by rfl) (by rfl) (by rfl) (by repeat (first | exact trivial | refine ⟨by first | rfl | omega, ?_⟩)) ?_ (by repeat (first | exact trivial | refine ⟨by rfl, by rfl, ?_⟩)) (by repeat (first | exact trivial | refine ⟨by rfl, by rfl, ?_⟩)); try rfl)
  | true =>
    rw [if_pos rfl]
    unfold gz at hz
    obtain ⟨pk, a, b, c⟩ := p
    dsimp only at hz
    have hz2 : ((4 : Int) == 4 && (n == 0 && (pk == 0 && (a == 0 && (b == 0 && c == 0))))) = true := by rw [show ((4 : Int) == 4) = true from rfl, Bool.true_and]; exact hz
    (refine kon_mk T0ok (fn := Tryz.f7) (c := Tryz.f7.body.get rfl) Tryz.func7 rfl (by rfl) (by rfl) (by rfl) ?_; intro hfit hfe)
    (repeat (first | refine gq_DX ?_ | (refine ga_DX ?_; intro _hq)))
    ((try refine aw_ret ?_); refine ret_auto2 (by rfl) (by rfl) (by rfl) (by repeat (first | exact trivial | refine ⟨by first | rfl | omega, ?_⟩)) ?_ (by repeat (first | exact trivial | refine ⟨by rfl, by rfl, ?_⟩)) (by repeat (first | exact trivial | refine ⟨by rfl, by rfl, ?_⟩)); try rfl)
theorem k_dtS4 (n : Int) (p : Gt) : Kon Tryz.prog 8 [dV ⟨4, n, p⟩] [] (vS (dtx 4 n p)) [] [] := by
  rw [dtx34 4 n p (by omega)]
  have hN := k_named4 ⟨4, n, p⟩ rfl
  rw [show nmD ⟨4, n, p⟩ = (n == 0 && gz p) from rfl] at hN
  cases hz : (n == 0 && gz p) with
  | false =>
    rw [hz] at hN
    rw [if_neg (by decide)]
    (refine kon_mk T0ok (fn := Tryz.f8) (c := Tryz.f8.body.get rfl) Tryz.func8 rfl (by rfl) (by rfl) (by rfl) ?_; intro hfit hfe)
    (repeat (first | refine gq_DX ?_ | (refine ga_DX ?_; intro _hq)))
    ((try refine aw_ret ?_); refine ret_auto2 (by rfl) (by rfl) (by rfl) (by repeat (first | exact trivial | refine ⟨by first | rfl | omega, ?_⟩)) ?_ (by repeat (first | exact trivial | refine ⟨by rfl, by rfl, ?_⟩)) (by repeat (first | exact trivial | refine ⟨by rfl, by rfl, ?_⟩)); try rfl)
  | true =>
    rw [hz] at hN
    rw [if_pos rfl]
    (refine kon_mk T0ok (fn := Tryz.f8) (c := Tryz.f8.body.get rfl) Tryz.func8 rfl (by rfl) (by rfl) (by rfl) ?_; intro hfit hfe)
    (repeat (first | refine gq_DX ?_ | (refine ga_DX ?_; intro _hq)))
    ((try refine aw_ret ?_); refine ret_auto2 (by rfl) (by rfl) (by rfl) (by repeat (first | exact trivial | refine ⟨by first | rfl | omega, ?_⟩)) ?_ (by repeat (first | exact trivial | refine ⟨by rfl, by rfl, ?_⟩)) (by repeat (first | exact trivial | refine ⟨by rfl, by rfl, ?_⟩)); try rfl)
theorem k_dtX (k n : Int) (p : Gt) (h : k < 0 ∨ 4 < k) : Kon Tryz.prog 7 [dV ⟨k, n, p⟩] [] (vS []) [] [] ∧ Kon Tryz.prog 8 [dV ⟨k, n, p⟩] [] (vS []) [] [] := by
  have h0 : (k == 0) = false := by rw [beq_eq_false_iff_ne]; omega
  have h1 : (k == 1) = false := by rw [beq_eq_false_iff_ne]; omega
  have h2 : (k == 2) = false := by rw [beq_eq_false_iff_ne]; omega
  have h3 : (k == 3) = false := by rw [beq_eq_false_iff_ne]; omega
  have h4 : (k == 4) = false := by rw [beq_eq_false_iff_ne]; omega
  have hN := k_namedX ⟨k, n, p⟩ h
  obtain ⟨pk, a, b, c⟩ := p
  refine ⟨?_, ?_⟩
  · (refine kon_mk T0ok (fn := Tryz.f7) (c := Tryz.f7.body.get rfl) Tryz.func7 rfl (by rfl) (by rfl) (by rfl) ?_; intro hfit hfe)
    (repeat (first | refine gq_DX ?_ | (refine ga_DX ?_; intro _hq)))
    ((try refine aw_ret ?_); refine ret_auto2 (by rfl) (by rfl) (by rfl) (by repeat (first | exact trivial | refine ⟨by first | rfl | omega, ?_⟩)) ?_ (by repeat (first | exact trivial | refine ⟨by rfl, by rfl, ?_⟩)) (by repeat (first | exact trivial | refine ⟨by rfl, by rfl, ?_⟩)); try rfl)
  · (refine kon_mk T0ok (fn := Tryz.f8) (c := Tryz.f8.body.get rfl) Tryz.func8 rfl (by rfl) (by rfl) (by rfl) ?_; intro hfit hfe)
    (repeat (first | refine gq_DX ?_ | (refine ga_DX ?_; intro _hq)))
    ((try refine aw_ret ?_); refine ret_auto2 (by rfl) (by rfl) (by rfl) (by repeat (first | exact trivial | refine ⟨by first | rfl | omega, ?_⟩)) ?_ (by repeat (first | exact trivial | refine ⟨by rfl, by rfl, ?_⟩)) (by repeat (first | exact trivial | refine ⟨by rfl, by rfl, ?_⟩)); try rfl)
theorem k_dt (k n : Int) (p : Gt) : Kon Tryz.prog 7 [dV ⟨k, n, p⟩] [] (vS (dtx k n p)) [] [] ∧ Kon Tryz.prog 8 [dV ⟨k, n, p⟩] [] (vS (dtx k n p)) [] [] := by
  by_cases h : k < 0 ∨ 4 < k
  · rw [dtxX k n p h]; exact k_dtX k n p h
  have h' : k = 0 ∨ k = 1 ∨ k = 2 ∨ k = 3 ∨ k = 4 := by omega
  rcases h' with rfl | rfl | rfl | rfl | rfl
  · exact ⟨k_dtI0 n p, k_dtS0 n p⟩
  · exact ⟨k_dtI1 n p, k_dtS1 n p⟩
  · exact ⟨k_dtI2 n p, k_dtS2 n p⟩
  · exact ⟨k_dtI3 n p, k_dtS3 n p⟩
  · exact ⟨k_dtI4 n p, k_dtS4 n p⟩
end Go.Proofs.YtgphlcdinejmdaaGreatDoor
