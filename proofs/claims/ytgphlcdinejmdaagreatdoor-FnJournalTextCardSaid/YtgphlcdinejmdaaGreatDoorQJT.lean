/- DC: laid into one text. -/
import Derived.Test.YtgphlcdinejmdaaGreatDoorQJR
import Derived.Test.YtgphlcdinejmdaaGreatDoorQJS

/- strings.Cut; ReadDeed of the program. -/
namespace Go.Proofs.YtgphlcdinejmdaaGreatDoor
set_option linter.unusedVariables false
set_option linter.unusedSimpArgs false
set_option maxRecDepth 20000
open Go.RowKit
open Go.Lib (decDigits)
attribute [local irreducible] runA runX AW
theorem gq_DC {H G : Prop} (k : H) (h : Hid H → G := by (intro hh; (first | (first | ((first | refine r_none ?_ | refine r_gt (by rfl) (by rfl) (by first | rfl | assumption | omega | (simp only [*, Bool.not_false, Bool.not_true]; first | done | fail) | (simp [*]; first | done | fail)) (by rfl) ?_ | refine r_gf (by rfl) (by rfl) (by first | rfl | assumption | omega | (simp only [*, Bool.not_false, Bool.not_true]; first | done | fail) | (simp [*]; first | done | fail)) (by rfl) ?_); (first | (first | refine r_seq (by rfl) (by rfl) (by rfl) ?_ | refine r_sne (by rfl) (by rfl) (by rfl) ?_) | ((first | (refine z_op (by rfl) ?_; first | refine z_ok ?_ ?_ | refine z_ex ?_ (by first | exact ft_raw rfl rfl | ((first | refine ft_rp rfl rfl rfl ?_ | refine ft_row rfl rfl rfl ?_ | refine ft_rpF rfl rfl rfl ?_ | refine ft_rowF rfl rfl rfl ?_ | refine up_row rfl rfl ?_ | refine up_rowF rfl rfl rfl ?_ | refine ct_0 rfl ?_ | refine ct_r rfl rfl ?_ | refine ct_c rfl rfl rfl ?_ | refine cu_all rfl ?_ | refine cu_to rfl ?_ | refine cu_from rfl ?_ | refine cu_p rfl ?_ | fail); (first | omega | (simp only [List.length_append, List.length_replicate, List.length_cons, List.length_nil, List.length_set, List.length_take, List.length_drop, true_and]; omega))) | exact up_raw rfl | exact pk_t (by first | rfl | assumption | omega | (simp only [*, Bool.not_false, Bool.not_true]; first | done | fail) | (simp [*]; first | done | fail)) rfl | exact pk_f (by first | rfl | assumption | omega | (simp only [*, Bool.not_false, Bool.not_true]; first | done | fail) | (simp [*]; first | done | fail)) rfl | fail | exact rw_raw | exact pu_cv (fun w => rfl) (by omega) | exact pu_of (fun w => rfl) rfl | exact be_of (fun w => rfl) | exact nc_of (fun _ _ _ _ => rfl) rfl | exact bu_of (fun w => rfl) rfl | fail) ?_) | ((first | refine q_callE wsT wsZ (by rfl) ?_ | refine q_callVE wsT (by rfl) (by rfl) ?_); refine ⟨_, _, _, (by first | assumption), _, by rfl, ?_, ?_⟩)); focus (first | exact trivial | fail | exact rfl | (first | omega | (simp only [List.length_append, List.length_replicate, List.length_cons, List.length_nil, List.length_set, List.length_take, List.length_drop, true_and]; omega)) | exact cvB (fun w => rfl) | ((repeat' (first | exact rfl | exact cV_len _ | exact cV_ln rfl (by omega) | exact Cel.pos | omega | exact trivial | refine And.intro ?_ ?_)); done) | (simp [*]; done) | (simp; omega))) | fail)) | refine r_nt (by rfl) (by rfl) (by first | rfl | assumption | omega | (simp only [*, Bool.not_false, Bool.not_true]; first | done | fail) | (simp [*]; first | done | fail)) (by rfl) ?_ | refine r_nf (by rfl) (by rfl) (by first | rfl | assumption | omega | (simp only [*, Bool.not_false, Bool.not_true]; first | done | fail) | (simp [*]; first | done | fail)) (by rfl) ?_ | refine r_gu (by rfl) (by rfl) (by rfl) ?_ | refine r_nil ?_) | (first | refine aw_seq ?_ | refine aw_ct (by rfl) (by first | rfl | assumption | omega | (simp only [*, Bool.not_false, Bool.not_true]; first | done | fail) | (simp [*]; first | done | fail)) ?_ | refine aw_cf (by rfl) (by first | rfl | assumption | omega | (simp only [*, Bool.not_false, Bool.not_true]; first | done | fail) | (simp [*]; first | done | fail)) ?_ | refine aw_block ?_ | refine aw_region T0ok cfU_ok (by rfl) ?_ | refine aw_skip ?_ | refine aw_exit ?_ | refine ra_step ?_)); (repeat (first | (first | ((first | refine r_none ?_ | refine r_gt (by rfl) (by rfl) (by first | rfl | assumption | omega | (simp only [*, Bool.not_false, Bool.not_true]; first | done | fail) | (simp [*]; first | done | fail)) (by rfl) ?_ | refine r_gf (by rfl) (by rfl) (by first | rfl | assumption | omega | (simp only [*, Bool.not_false, Bool.not_true]; first | done | fail) | (simp [*]; first | done | fail)) (by rfl) ?_); (first | (first | refine r_seq (by rfl) (by rfl) (by rfl) ?_ | refine r_sne (by rfl) (by rfl) (by rfl) ?_) | ((first | (refine z_op (by rfl) ?_; first | refine z_ok ?_ ?_ | refine z_ex ?_ (by first | exact ft_raw rfl rfl | ((first | refine ft_rp rfl rfl rfl ?_ | refine ft_row rfl rfl rfl ?_ | refine ft_rpF rfl rfl rfl ?_ | refine ft_rowF rfl rfl rfl ?_ | refine up_row rfl rfl ?_ | refine up_rowF rfl rfl rfl ?_ | refine ct_0 rfl ?_ | refine ct_r rfl rfl ?_ | refine ct_c rfl rfl rfl ?_ | refine cu_all rfl ?_ | refine cu_to rfl ?_ | refine cu_from rfl ?_ | refine cu_p rfl ?_ | fail); (first | omega | (simp only [List.length_append, List.length_replicate, List.length_cons, List.length_nil, List.length_set, List.length_take, List.length_drop, true_and]; omega))) | exact up_raw rfl | exact pk_t (by first | rfl | assumption | omega | (simp only [*, Bool.not_false, Bool.not_true]; first | done | fail) | (simp [*]; first | done | fail)) rfl | exact pk_f (by first | rfl | assumption | omega | (simp only [*, Bool.not_false, Bool.not_true]; first | done | fail) | (simp [*]; first | done | fail)) rfl | fail | exact rw_raw | exact pu_cv (fun w => rfl) (by omega) | exact pu_of (fun w => rfl) rfl | exact be_of (fun w => rfl) | exact nc_of (fun _ _ _ _ => rfl) rfl | exact bu_of (fun w => rfl) rfl | fail) ?_) | ((first | refine q_callE wsT wsZ (by rfl) ?_ | refine q_callVE wsT (by rfl) (by rfl) ?_); refine ⟨_, _, _, (by first | assumption), _, by rfl, ?_, ?_⟩)); focus (first | exact trivial | fail | exact rfl | (first | omega | (simp only [List.length_append, List.length_replicate, List.length_cons, List.length_nil, List.length_set, List.length_take, List.length_drop, true_and]; omega)) | exact cvB (fun w => rfl) | ((repeat' (first | exact rfl | exact cV_len _ | exact cV_ln rfl (by omega) | exact Cel.pos | omega | exact trivial | refine And.intro ?_ ?_)); done) | (simp [*]; done) | (simp; omega))) | fail)) | refine r_nt (by rfl) (by rfl) (by first | rfl | assumption | omega | (simp only [*, Bool.not_false, Bool.not_true]; first | done | fail) | (simp [*]; first | done | fail)) (by rfl) ?_ | refine r_nf (by rfl) (by rfl) (by first | rfl | assumption | omega | (simp only [*, Bool.not_false, Bool.not_true]; first | done | fail) | (simp [*]; first | done | fail)) (by rfl) ?_ | refine r_gu (by rfl) (by rfl) (by rfl) ?_ | refine r_nil ?_) | (first | refine aw_seq ?_ | refine aw_ct (by rfl) (by first | rfl | assumption | omega | (simp only [*, Bool.not_false, Bool.not_true]; first | done | fail) | (simp [*]; first | done | fail)) ?_ | refine aw_cf (by rfl) (by first | rfl | assumption | omega | (simp only [*, Bool.not_false, Bool.not_true]; first | done | fail) | (simp [*]; first | done | fail)) ?_ | refine aw_block ?_ | refine aw_region T0ok cfU_ok (by rfl) ?_ | refine aw_skip ?_ | refine aw_exit ?_ | refine ra_step ?_))); exact hh.out)) : G := h ⟨k⟩
theorem ga_DC {H G : Prop} (k : H) (h : Hid H → G := by (intro hh; (first | refine r_none ?_ | refine r_gt (by rfl) (by rfl) (by first | rfl | assumption | omega | (simp only [*, Bool.not_false, Bool.not_true]; first | done | fail) | (simp [*]; first | done | fail)) (by rfl) ?_ | refine r_gf (by rfl) (by rfl) (by first | rfl | assumption | omega | (simp only [*, Bool.not_false, Bool.not_true]; first | done | fail) | (simp [*]; first | done | fail)) (by rfl) ?_); refine z_op (by rfl) ?_; refine z_alV ?_ hh.out; focus (first | exact trivial | fail | exact rfl | (first | omega | (simp only [List.length_append, List.length_replicate, List.length_cons, List.length_nil, List.length_set, List.length_take, List.length_drop, true_and]; omega)) | exact cvB (fun w => rfl) | ((repeat' (first | exact rfl | exact cV_len _ | exact cV_ln rfl (by omega) | exact Cel.pos | omega | exact trivial | refine And.intro ?_ ?_)); done) | (simp [*]; done) | (simp; omega)))) : G := h ⟨k⟩
theorem gd_DC {H G : Prop} (k : H) (h : Hid H → G := by (intro hh; (refine aw_draw mixed T0ok cfU_ok [] (by rfl) (by kernel_rfl) ?_); exact hh.out)) : G := h ⟨k⟩
/-- A text cut at the first byte c: what it is, by the pieces. -/
theorem ct_cases (c : UInt8) (s : List UInt8) : (Go.Lib.cut s [c] = (s, [], false) ∧ cutA c [] s = [s]) ∨ (∃ i, i < s.length ∧ Go.Lib.cut s [c] = (s.take i, s.drop (i + 1), true) ∧ cutA c [] s = s.take i :: cutA c [] (s.drop (i + 1))) := by
  rcases cut_idx c s [] with ⟨h1, h2⟩ | ⟨i, h1, h2, h3⟩
  · refine .inl ⟨?_, h2⟩
    unfold Go.Lib.cut
    rw [h1, if_neg (by decide)]
  · refine .inr ⟨i, h2, ?_, h3⟩
    unfold Go.Lib.cut
    rw [h1, if_pos (by omega)]
    rfl
abbrev tupC (x : List UInt8 × List UInt8 × Bool) : AV := .tup [.one (.v (.string (str x.1))), .one (.v (.string (str x.2.1))), .one (.v (.bool x.2.2))]
theorem k_scut (c : UInt8) (s : List UInt8) (hs : s.length ≤ 7000000) : Kon Tryz.prog 29 [vS s, vS [c]] [] (tupC (Go.Lib.cut s [c])) [] [] := by
  refine kon_pure (Go.Proofs.enters_of Tryz.func29 (by kernel_rfl) rfl) rfl rfl ?_
  intro w ok vs hg hok hsz hargs
  obtain rfl := args2 hsz hargs
  obtain ⟨⟨m, hm⟩, _⟩ := hg
  have h1 : (str s).size = s.length := rfl
  refine (Tryz.strings_Cut (str s) (str [c]) m w (by rw [h1]; omega) hm).mono ?_
  rintro en W' ⟨rfl, n, rfl⟩
  refine ⟨_, rfl, ⟨rfl, rfl, rfl, Nat.le_refl _, fun _ _ => rfl⟩, fun β G ok' => ⟨_, rfl, rfl, ?_⟩⟩
  intro j x hj
  rcases j with _ | _ | _ | j
  · cases hj; exact ⟨_, rfl, rfl, rfl⟩
  · cases hj; exact ⟨_, rfl, rfl, rfl⟩
  · cases hj; exact ⟨_, rfl, rfl, rfl⟩
  · simp at hj
/-- strconv.Atoi at any text. -/
theorem ex_atoi (s : List UInt8) (hs : s.length ≤ 7000000) : ∃ (n : Int) (e : AC), (e = .v .nilIface ∨ e = .er) ∧ (∀ v, Go.Lib.atoiAll s = .ok v → n = v) ∧ Kon Tryz.prog 30 [vS s] [] (tupI n e) [] [] := by
  by_cases h : ∃ v, Go.Lib.atoiAll s = .ok v
  · obtain ⟨v, h⟩ := h
    exact ⟨v, _, .inl rfl, fun v' h' => by rw [h] at h'; cases h'; rfl, k_atoiOk s v hs h⟩
  · obtain ⟨n, hK⟩ := k_atoiNo s hs (fun v hv => h ⟨v, hv⟩)
    exact ⟨n, _, .inr rfl, fun v hv => absurd ⟨v, hv⟩ h, hK⟩
abbrev tupD (d : Dd) (b : Bool) : AV := .tup [.agg (dCs d), .one (.v (.bool b))]
abbrev dZ : Dd := ⟨0, 0, g0⟩
theorem k_rdI0Ntrue (s a b : List UInt8) (f : Bool) (n : Int) (hC : Kon Tryz.prog 29 [vS s, vS [32]] [] (tupC (a, b, f)) [] []) (ha : a = dnm 0) (hA : Kon Tryz.prog 30 [vS b] [] (tupI n (.v .nilIface)) [] []) (hne : (s == []) = false) (ht : (!(dtx 0 n g0 == s)) = true) : Kon Tryz.prog 10 [vS s] [] (tupD (if true = true then dZ else ⟨0, n, g0⟩) (!true)) [] [] := by
  subst ha
  have hT := (k_dt 0 n g0).1
  (refine kon_mk T0ok (fn := Tryz.f10) (c := Tryz.f10.body.get rfl) Tryz.func10 rfl (by rfl) (by rfl) (by rfl) ?_; intro hfit hfe)
  (repeat (first | refine gq_DC ?_ | (refine ga_DC ?_; intro _hq)))
  (repeat (first | refine gq_DC ?_ | (refine ga_DC ?_; intro _hq) | refine gd_DC ?_))
  ((try refine aw_ret ?_); refine ret_auto2 (by rfl) (by rfl) (by rfl) (by repeat (first | exact trivial | refine ⟨by first | rfl | omega, ?_⟩)) ?_ (by repeat (first | exact trivial | refine ⟨by rfl, by rfl, ?_⟩)) (by repeat (first | exact trivial | refine ⟨by rfl, by rfl, ?_⟩)); try rfl)
theorem k_rdI0Nfalse (s a b : List UInt8) (f : Bool) (n : Int) (hC : Kon Tryz.prog 29 [vS s, vS [32]] [] (tupC (a, b, f)) [] []) (ha : a = dnm 0) (hA : Kon Tryz.prog 30 [vS b] [] (tupI n (.v .nilIface)) [] []) (hne : (s == []) = false) (ht : (!(dtx 0 n g0 == s)) = false) : Kon Tryz.prog 10 [vS s] [] (tupD (if false = true then dZ else ⟨0, n, g0⟩) (!false)) [] [] := by
  subst ha
  have hT := (k_dt 0 n g0).1
  (refine kon_mk T0ok (fn := Tryz.f10) (c := Tryz.f10.body.get rfl) Tryz.func10 rfl (by rfl) (by rfl) (by rfl) ?_; intro hfit hfe)
  (repeat (first | refine gq_DC ?_ | (refine ga_DC ?_; intro _hq)))
  (repeat (first | refine gq_DC ?_ | (refine ga_DC ?_; intro _hq) | refine gd_DC ?_))
  ((try refine aw_ret ?_); refine ret_auto2 (by rfl) (by rfl) (by rfl) (by repeat (first | exact trivial | refine ⟨by first | rfl | omega, ?_⟩)) ?_ (by repeat (first | exact trivial | refine ⟨by rfl, by rfl, ?_⟩)) (by repeat (first | exact trivial | refine ⟨by rfl, by rfl, ?_⟩)); try rfl)
theorem k_rdI0Etrue (s a b : List UInt8) (f : Bool) (n : Int) (hC : Kon Tryz.prog 29 [vS s, vS [32]] [] (tupC (a, b, f)) [] []) (ha : a = dnm 0) (hA : Kon Tryz.prog 30 [vS b] [] (tupI n .er) [] []) (hne : (s == []) = false) (ht : (!(dtx 0 n g0 == s)) = true) : Kon Tryz.prog 10 [vS s] [] (tupD (if true = true then dZ else ⟨0, n, g0⟩) (!true)) [] [] := by
  subst ha
  have hT := (k_dt 0 n g0).1
  (refine kon_mk T0ok (fn := Tryz.f10) (c := Tryz.f10.body.get rfl) Tryz.func10 rfl (by rfl) (by rfl) (by rfl) ?_; intro hfit hfe)
  (repeat (first | refine gq_DC ?_ | (refine ga_DC ?_; intro _hq)))
  (repeat (first | refine gq_DC ?_ | (refine ga_DC ?_; intro _hq) | refine gd_DC ?_))
  ((try refine aw_ret ?_); refine ret_auto2 (by rfl) (by rfl) (by rfl) (by repeat (first | exact trivial | refine ⟨by first | rfl | omega, ?_⟩)) ?_ (by repeat (first | exact trivial | refine ⟨by rfl, by rfl, ?_⟩)) (by repeat (first | exact trivial | refine ⟨by rfl, by rfl, ?_⟩)); try rfl)
theorem k_rdI1Ntrue (s a b : List UInt8) (f : Bool) (n : Int) (hC : Kon Tryz.prog 29 [vS s, vS [32]] [] (tupC (a, b, f)) [] []) (ha : a = dnm 1) (hA : Kon Tryz.prog 30 [vS b] [] (tupI n (.v .nilIface)) [] []) (hne : (s == []) = false) (ht : (!(dtx 1 n g0 == s)) = true) : Kon Tryz.prog 10 [vS s] [] (tupD (if true = true then dZ else ⟨1, n, g0⟩) (!true)) [] [] := by
  subst ha
  have hT := (k_dt 1 n g0).1
  (refine kon_mk T0ok (fn := Tryz.f10) (c := Tryz.f10.body.get rfl) Tryz.func10 rfl (by rfl) (by rfl) (by rfl) ?_; intro hfit hfe)
  (repeat (first | refine gq_DC ?_ | (refine ga_DC ?_; intro _hq)))
  (repeat (first | refine gq_DC ?_ | (refine ga_DC ?_; intro _hq) | refine gd_DC ?_))
  ((try refine aw_ret ?_); refine ret_auto2 (by rfl) (by rfl) (by rfl) (by repeat (first | exact trivial | refine ⟨by first | rfl | omega, ?_⟩)) ?_ (by repeat (first | exact trivial | refine ⟨by rfl, by rfl, ?_⟩)) (by repeat (first | exact trivial | refine ⟨by rfl, by rfl, ?_⟩)); try rfl)
theorem k_rdI1Nfalse (s a b : List UInt8) (f : Bool) (n : Int) (hC : Kon Tryz.prog 29 [vS s, vS [32]] [] (tupC (a, b, f)) [] []) (ha : a = dnm 1) (hA : Kon Tryz.prog 30 [vS b] [] (tupI n (.v .nilIface)) [] []) (hne : (s == []) = false) (ht : (!(dtx 1 n g0 == s)) = false) : Kon Tryz.prog 10 [vS s] [] (tupD (if false = true then dZ else ⟨1, n, g0⟩) (!false)) [] [] := by
  subst ha
  have hT := (k_dt 1 n g0).1
  (refine kon_mk T0ok (fn := Tryz.f10) (c := Tryz.f10.body.get rfl) Tryz.func10 rfl (by rfl) (by rfl) (by rfl) ?_; intro hfit hfe)
  (repeat (first | refine gq_DC ?_ | (refine ga_DC ?_; intro _hq)))
  (repeat (first | refine gq_DC ?_ | (refine ga_DC ?_; intro _hq) | refine gd_DC ?_))
  ((try refine aw_ret ?_); refine ret_auto2 (by rfl) (by rfl) (by rfl) (by repeat (first | exact trivial | refine ⟨by first | rfl | omega, ?_⟩)) ?_ (by repeat (first | exact trivial | refine ⟨by rfl, by rfl, ?_⟩)) (by repeat (first | exact trivial | refine ⟨by rfl, by rfl, ?_⟩)); try rfl)
theorem k_rdI1Etrue (s a b : List UInt8) (f : Bool) (n : Int) (hC : Kon Tryz.prog 29 [vS s, vS [32]] [] (tupC (a, b, f)) [] []) (ha : a = dnm 1) (hA : Kon Tryz.prog 30 [vS b] [] (tupI n .er) [] []) (hne : (s == []) = false) (ht : (!(dtx 1 n g0 == s)) = true) : Kon Tryz.prog 10 [vS s] [] (tupD (if true = true then dZ else ⟨1, n, g0⟩) (!true)) [] [] := by
  subst ha
  have hT := (k_dt 1 n g0).1
  (refine kon_mk T0ok (fn := Tryz.f10) (c := Tryz.f10.body.get rfl) Tryz.func10 rfl (by rfl) (by rfl) (by rfl) ?_; intro hfit hfe)
  (repeat (first | refine gq_DC ?_ | (refine ga_DC ?_; intro _hq)))
  (repeat (first | refine gq_DC ?_ | (refine ga_DC ?_; intro _hq) | refine gd_DC ?_))
  ((try refine aw_ret ?_); refine ret_auto2 (by rfl) (by rfl) (by rfl) (by repeat (first | exact trivial | refine ⟨by first | rfl | omega, ?_⟩)) ?_ (by repeat (first | exact trivial | refine ⟨by rfl, by rfl, ?_⟩)) (by repeat (first | exact trivial | refine ⟨by rfl, by rfl, ?_⟩)); try rfl)
theorem k_rdI2true (s a b : List UInt8) (f : Bool) (p : Gt) (q : Bool) (hC : Kon Tryz.prog 29 [vS s, vS [32]] [] (tupC (a, b, f)) [] []) (ha : a = dnm 2) (hA : Kon Tryz.prog 31 [vS b] [] (tupG p q) [] []) (hne : (s == []) = false) (ht : (!(dtx 2 0 p == s)) = true) : Kon Tryz.prog 10 [vS s] [] (tupD (if true = true then dZ else ⟨2, 0, p⟩) (!true)) [] [] := by
  subst ha
  have hT := (k_dt 2 0 p).1
  (refine kon_mk T0ok (fn := Tryz.f10) (c := Tryz.f10.body.get rfl) Tryz.func10 rfl (by rfl) (by rfl) (by rfl) ?_; intro hfit hfe)
  (repeat (first | refine gq_DC ?_ | (refine ga_DC ?_; intro _hq)))
  (repeat (first | refine gq_DC ?_ | (refine ga_DC ?_; intro _hq) | refine gd_DC ?_))
  ((try refine aw_ret ?_); refine ret_auto2 (by rfl) (by rfl) (by rfl) (by repeat (first | exact trivial | refine ⟨by first | rfl | omega, ?_⟩)) ?_ (by repeat (first | exact trivial | refine ⟨by rfl, by rfl, ?_⟩)) (by repeat (first | exact trivial | refine ⟨by rfl, by rfl, ?_⟩)); try rfl)
theorem k_rdI3true (s a b : List UInt8) (f : Bool) (hC : Kon Tryz.prog 29 [vS s, vS [32]] [] (tupC (a, b, f)) [] []) (ha : a = dnm 3) (hne : (s == []) = false) (ht : (!(dtx 3 0 g0 == s)) = true) : Kon Tryz.prog 10 [vS s] [] (tupD (if true = true then dZ else ⟨3, 0, g0⟩) (!true)) [] [] := by
  subst ha
  have hT := (k_dt 3 0 g0).1
  (refine kon_mk T0ok (fn := Tryz.f10) (c := Tryz.f10.body.get rfl) Tryz.func10 rfl (by rfl) (by rfl) (by rfl) ?_; intro hfit hfe)
  (repeat (first | refine gq_DC ?_ | (refine ga_DC ?_; intro _hq)))
  (repeat (first | refine gq_DC ?_ | (refine ga_DC ?_; intro _hq) | refine gd_DC ?_))
  ((try refine aw_ret ?_); refine ret_auto2 (by rfl) (by rfl) (by rfl) (by repeat (first | exact trivial | refine ⟨by first | rfl | omega, ?_⟩)) ?_ (by repeat (first | exact trivial | refine ⟨by rfl, by rfl, ?_⟩)) (by repeat (first | exact trivial | refine ⟨by rfl, by rfl, ?_⟩)); try rfl)
theorem k_rdI4true (s a b : List UInt8) (f : Bool) (hC : Kon Tryz.prog 29 [vS s, vS [32]] [] (tupC (a, b, f)) [] []) (ha : a = dnm 4) (hne : (s == []) = false) (ht : (!(dtx 4 0 g0 == s)) = true) : Kon Tryz.prog 10 [vS s] [] (tupD (if true = true then dZ else ⟨4, 0, g0⟩) (!true)) [] [] := by
  subst ha
  have hT := (k_dt 4 0 g0).1
  (refine kon_mk T0ok (fn := Tryz.f10) (c := Tryz.f10.body.get rfl) Tryz.func10 rfl (by rfl) (by rfl) (by rfl) ?_; intro hfit hfe)
  (repeat (first | refine gq_DC ?_ | (refine ga_DC ?_; intro _hq)))
  (repeat (first | refine gq_DC ?_ | (refine ga_DC ?_; intro _hq) | refine gd_DC ?_))
  ((try refine aw_ret ?_); refine ret_auto2 (by rfl) (by rfl) (by rfl) (by repeat (first | exact trivial | refine ⟨by first | rfl | omega, ?_⟩)) ?_ (by repeat (first | exact trivial | refine ⟨by rfl, by rfl, ?_⟩)) (by repeat (first | exact trivial | refine ⟨by rfl, by rfl, ?_⟩)); try rfl)
theorem k_rdI2false (s a b : List UInt8) (f : Bool) (p : Gt) (q : Bool) (hC : Kon Tryz.prog 29 [vS s, vS [32]] [] (tupC (a, b, f)) [] []) (ha : a = dnm 2) (hA : Kon Tryz.prog 31 [vS b] [] (tupG p q) [] []) (hne : (s == []) = false) (ht : (!(dtx 2 0 p == s)) = false) : Kon Tryz.prog 10 [vS s] [] (tupD (if false = true then dZ else ⟨2, 0, p⟩) (!false)) [] [] := by
  subst ha
  have hT := (k_dt 2 0 p).1
  (refine kon_mk T0ok (fn := Tryz.f10) (c := Tryz.f10.body.get rfl) Tryz.func10 rfl (by rfl) (by rfl) (by rfl) ?_; intro hfit hfe)
  (repeat (first | refine gq_DC ?_ | (refine ga_DC ?_; intro _hq)))
  (repeat (first | refine gq_DC ?_ | (refine ga_DC ?_; intro _hq) | refine gd_DC ?_))
  ((try refine aw_ret ?_); refine ret_auto2 (by rfl) (by rfl) (by rfl) (by repeat (first | exact trivial | refine ⟨by first | rfl | omega, ?_⟩)) ?_ (by repeat (first | exact trivial | refine ⟨by rfl, by rfl, ?_⟩)) (by repeat (first | exact trivial | refine ⟨by rfl, by rfl, ?_⟩)); try rfl)
theorem k_rdI3false (s a b : List UInt8) (f : Bool) (hC : Kon Tryz.prog 29 [vS s, vS [32]] [] (tupC (a, b, f)) [] []) (ha : a = dnm 3) (hne : (s == []) = false) (ht : (!(dtx 3 0 g0 == s)) = false) : Kon Tryz.prog 10 [vS s] [] (tupD (if false = true then dZ else ⟨3, 0, g0⟩) (!false)) [] [] := by
  subst ha
  have hT := (k_dt 3 0 g0).1
  (refine kon_mk T0ok (fn := Tryz.f10) (c := Tryz.f10.body.get rfl) Tryz.func10 rfl (by rfl) (by rfl) (by rfl) ?_; intro hfit hfe)
  (repeat (first | refine gq_DC ?_ | (refine ga_DC ?_; intro _hq)))
  (repeat (first | refine gq_DC ?_ | (refine ga_DC ?_; intro _hq) | refine gd_DC ?_))
  ((try refine aw_ret ?_); refine ret_auto2 (by rfl) (by rfl) (by rfl) (by repeat (first | exact trivial | refine ⟨by first | rfl | omega, ?_⟩)) ?_ (by repeat (first | exact trivial | refine ⟨by rfl, by rfl, ?_⟩)) (by repeat (first | exact trivial | refine ⟨by rfl, by rfl, ?_⟩)); try rfl)
theorem k_rdI4false (s a b : List UInt8) (f : Bool) (hC : Kon Tryz.prog 29 [vS s, vS [32]] [] (tupC (a, b, f)) [] []) (ha : a = dnm 4) (hne : (s == []) = false) (ht : (!(dtx 4 0 g0 == s)) = false) : Kon Tryz.prog 10 [vS s] [] (tupD (if false = true then dZ else ⟨4, 0, g0⟩) (!false)) [] [] := by
  subst ha
  have hT := (k_dt 4 0 g0).1
  (refine kon_mk T0ok (fn := Tryz.f10) (c := Tryz.f10.body.get rfl) Tryz.func10 rfl (by rfl) (by rfl) (by rfl) ?_; intro hfit hfe)
  (repeat (first | refine gq_DC ?_ | (refine ga_DC ?_; intro _hq)))
  (repeat (first | refine gq_DC ?_ | (refine ga_DC ?_; intro _hq) | refine gd_DC ?_))
  ((try refine aw_ret ?_); refine ret_auto2 (by rfl) (by rfl) (by rfl) (by repeat (first | exact trivial | refine ⟨by first | rfl | omega, ?_⟩)) ?_ (by repeat (first | exact trivial | refine ⟨by rfl, by rfl, ?_⟩)) (by repeat (first | exact trivial | refine ⟨by rfl, by rfl, ?_⟩)); try rfl)
theorem k_rdIx (s a b : List UInt8) (f : Bool) (hC : Kon Tryz.prog 29 [vS s, vS [32]] [] (tupC (a, b, f)) [] []) (h0 : (a == [102, 111, 114, 116, 104]) = false) (h1 : (a == [98, 97, 99, 107]) = false) (h2 : (a == [112, 117, 116]) = false) (h3 : (a == [116, 97, 107, 101]) = false) (h4 : (a == [115, 104, 111, 114, 116]) = false) (hne : (s == []) = false) : Kon Tryz.prog 10 [vS s] [] (tupD dZ false) [] [] := by
  have hT : Kon Tryz.prog 7 [dV ⟨0, 0, g0⟩] [] (vS []) [] [] := (k_dt 0 0 g0).1
  have ht : (!(([] : List UInt8) == s)) = true := by
    rw [Bool.not_eq_true', beq_eq_false_iff_ne] at *
    exact fun e => hne e.symm
  (refine kon_mk T0ok (fn := Tryz.f10) (c := Tryz.f10.body.get rfl) Tryz.func10 rfl (by rfl) (by rfl) (by rfl) ?_; intro hfit hfe)
  (repeat (first | refine gq_DC ?_ | (refine ga_DC ?_; intro _hq)))
  (repeat (first | refine gq_DC ?_ | (refine ga_DC ?_; intro _hq) | refine gd_DC ?_))
  ((try refine aw_ret ?_); refine ret_auto2 (by rfl) (by rfl) (by rfl) (by repeat (first | exact trivial | refine ⟨by first | rfl | omega, ?_⟩)) ?_ (by repeat (first | exact trivial | refine ⟨by rfl, by rfl, ?_⟩)) (by repeat (first | exact trivial | refine ⟨by rfl, by rfl, ?_⟩)); try rfl)
theorem k_rdI_nil : Kon Tryz.prog 10 [vS []] [] (tupD dZ false) [] [] := by
  have hC := k_scut 32 [] (by decide)
  have e : Go.Lib.cut ([] : List UInt8) [32] = ([], [], false) := by decide
  rw [e] at hC
  have hne : (([] : List UInt8) == []) = true := rfl
  have h0 : (([] : List UInt8) == [102, 111, 114, 116, 104]) = false := rfl
  have h1 : (([] : List UInt8) == [98, 97, 99, 107]) = false := rfl
  have h2 : (([] : List UInt8) == [112, 117, 116]) = false := rfl
  have h3 : (([] : List UInt8) == [116, 97, 107, 101]) = false := rfl
  have h4 : (([] : List UInt8) == [115, 104, 111, 114, 116]) = false := rfl
  (refine kon_mk T0ok (fn := Tryz.f10) (c := Tryz.f10.body.get rfl) Tryz.func10 rfl (by rfl) (by rfl) (by rfl) ?_; intro hfit hfe)
  (repeat (first | refine gq_DC ?_ | (refine ga_DC ?_; intro _hq)))
  (repeat (first | refine gq_DC ?_ | (refine ga_DC ?_; intro _hq) | refine gd_DC ?_))
  ((try refine aw_ret ?_); refine ret_auto2 (by rfl) (by rfl) (by rfl) (by repeat (first | exact trivial | refine ⟨by first | rfl | omega, ?_⟩)) ?_ (by repeat (first | exact trivial | refine ⟨by rfl, by rfl, ?_⟩)) (by repeat (first | exact trivial | refine ⟨by rfl, by rfl, ?_⟩)); try rfl)
end Go.Proofs.YtgphlcdinejmdaaGreatDoor
