/- DR, ShlB, LJ, DI, EQ, ED, DM: laid into one text. -/
import Derived.Test.YtgphlcdinejmdaaDoorQRE
import Derived.Test.YtgphlcdinejmdaaDoorQRF
import Derived.Test.YtgphlcdinejmdaaDoorQRH
import Derived.Test.YtgphlcdinejmdaaDoorQRI
import Derived.Shelf.Lays
import Derived.Shelf.LaysC
import Derived.Shelf.Strconv.AtoiAll
import Derived.Shelf.Strings.Split
import Derived.Test.YtgphlcdinejmdaaDoorProg
import Derived.Lib.AtoiErrMem
import Derived.ChangeKeysEq

/- ReadGate of the reference. -/
namespace Go.Proofs.YtgphlcdinejmdaaDoor
set_option linter.unusedVariables false
set_option linter.unusedSimpArgs false
set_option maxRecDepth 20000
open Go.RowKit
open Go.Lib (decDigits)
attribute [local irreducible] runA runX AW
theorem gq_DR {H G : Prop} (k : H) (h : Hid H → G := by (intro hh; (first | (first | ((first | refine r_none ?_ | refine r_gt (by rfl) (by rfl) (by first | rfl | assumption | omega | (simp only [*, Bool.not_false, Bool.not_true]; first | done | fail) | (simp [*]; first | done | fail)) (by rfl) ?_ | refine r_gf (by rfl) (by rfl) (by first | rfl | assumption | omega | (simp only [*, Bool.not_false, Bool.not_true]; first | done | fail) | (simp [*]; first | done | fail)) (by rfl) ?_); (first | (first | refine r_seq (by rfl) (by rfl) (by rfl) ?_ | refine r_sne (by rfl) (by rfl) (by rfl) ?_) | ((first | (refine z_op (by rfl) ?_; first | refine z_ok ?_ ?_ | refine z_ex ?_ (by first | exact ft_raw rfl rfl | ((first | refine ft_rp rfl rfl rfl ?_ | refine ft_row rfl rfl rfl ?_ | refine ft_rpF rfl rfl rfl ?_ | refine ft_rowF rfl rfl rfl ?_ | refine up_row rfl rfl ?_ | refine up_rowF rfl rfl rfl ?_ | refine ct_0 rfl ?_ | refine ct_r rfl rfl ?_ | refine ct_c rfl rfl rfl ?_ | refine cu_all rfl ?_ | refine cu_to rfl ?_ | refine cu_from rfl ?_ | refine cu_p rfl ?_ | fail); (first | omega | (simp only [List.length_append, List.length_replicate, List.length_cons, List.length_nil, List.length_set, List.length_take, List.length_drop, true_and]; omega))) | exact up_raw rfl | exact pk_t (by first | rfl | assumption | omega | (simp only [*, Bool.not_false, Bool.not_true]; first | done | fail) | (simp [*]; first | done | fail)) rfl | exact pk_f (by first | rfl | assumption | omega | (simp only [*, Bool.not_false, Bool.not_true]; first | done | fail) | (simp [*]; first | done | fail)) rfl | (first | exact rw_c Int rfl) | exact rw_raw | exact pu_cv (fun w => rfl) (by omega) | exact pu_of (fun w => rfl) rfl | exact be_of (fun w => rfl) | exact nc_of (fun _ _ _ _ => rfl) rfl | exact bu_of (fun w => rfl) rfl | fail) ?_) | ((first | refine q_callE wsT wsZ (by rfl) ?_ | refine q_callVE wsT (by rfl) (by rfl) ?_); refine ⟨_, _, _, (by first | assumption), _, by rfl, ?_, ?_⟩)); focus (first | exact trivial | fail | exact rfl | (first | omega | (simp only [List.length_append, List.length_replicate, List.length_cons, List.length_nil, List.length_set, List.length_take, List.length_drop, true_and]; omega)) | exact cvB (fun w => rfl) | ((repeat' (first | exact rfl | exact cV_len _ | exact cV_ln rfl (by omega) | exact Cel.pos | omega | exact trivial | refine And.intro ?_ ?_)); done) | (simp [*]; done) | (simp; omega))) | fail)) | refine r_nt (by rfl) (by rfl) (by first | rfl | assumption | omega | (simp only [*, Bool.not_false, Bool.not_true]; first | done | fail) | (simp [*]; first | done | fail)) (by rfl) ?_ | refine r_nf (by rfl) (by rfl) (by first | rfl | assumption | omega | (simp only [*, Bool.not_false, Bool.not_true]; first | done | fail) | (simp [*]; first | done | fail)) (by rfl) ?_ | refine r_gu (by rfl) (by rfl) (by rfl) ?_ | refine r_nil ?_) | (first | refine aw_seq ?_ | refine aw_ct (by rfl) (by first | rfl | assumption | omega | (simp only [*, Bool.not_false, Bool.not_true]; first | done | fail) | (simp [*]; first | done | fail)) ?_ | refine aw_cf (by rfl) (by first | rfl | assumption | omega | (simp only [*, Bool.not_false, Bool.not_true]; first | done | fail) | (simp [*]; first | done | fail)) ?_ | refine aw_block ?_ | refine aw_region T0ok cfU_ok (by rfl) ?_ | refine aw_skip ?_ | refine aw_exit ?_ | refine ra_step ?_)); (repeat (first | (first | ((first | refine r_none ?_ | refine r_gt (by rfl) (by rfl) (by first | rfl | assumption | omega | (simp only [*, Bool.not_false, Bool.not_true]; first | done | fail) | (simp [*]; first | done | fail)) (by rfl) ?_ | refine r_gf (by rfl) (by rfl) (by first | rfl | assumption | omega | (simp only [*, Bool.not_false, Bool.not_true]; first | done | fail) | (simp [*]; first | done | fail)) (by rfl) ?_); (first | (first | refine r_seq (by rfl) (by rfl) (by rfl) ?_ | refine r_sne (by rfl) (by rfl) (by rfl) ?_) | ((first | (refine z_op (by rfl) ?_; first | refine z_ok ?_ ?_ | refine z_ex ?_ (by first | exact ft_raw rfl rfl | ((first | refine ft_rp rfl rfl rfl ?_ | refine ft_row rfl rfl rfl ?_ | refine ft_rpF rfl rfl rfl ?_ | refine ft_rowF rfl rfl rfl ?_ | refine up_row rfl rfl ?_ | refine up_rowF rfl rfl rfl ?_ | refine ct_0 rfl ?_ | refine ct_r rfl rfl ?_ | refine ct_c rfl rfl rfl ?_ | refine cu_all rfl ?_ | refine cu_to rfl ?_ | refine cu_from rfl ?_ | refine cu_p rfl ?_ | fail); (first | omega | (simp only [List.length_append, List.length_replicate, List.length_cons, List.length_nil, List.length_set, List.length_take, List.length_drop, true_and]; omega))) | exact up_raw rfl | exact pk_t (by first | rfl | assumption | omega | (simp only [*, Bool.not_false, Bool.not_true]; first | done | fail) | (simp [*]; first | done | fail)) rfl | exact pk_f (by first | rfl | assumption | omega | (simp only [*, Bool.not_false, Bool.not_true]; first | done | fail) | (simp [*]; first | done | fail)) rfl | (first | exact rw_c Int rfl) | exact rw_raw | exact pu_cv (fun w => rfl) (by omega) | exact pu_of (fun w => rfl) rfl | exact be_of (fun w => rfl) | exact nc_of (fun _ _ _ _ => rfl) rfl | exact bu_of (fun w => rfl) rfl | fail) ?_) | ((first | refine q_callE wsT wsZ (by rfl) ?_ | refine q_callVE wsT (by rfl) (by rfl) ?_); refine ⟨_, _, _, (by first | assumption), _, by rfl, ?_, ?_⟩)); focus (first | exact trivial | fail | exact rfl | (first | omega | (simp only [List.length_append, List.length_replicate, List.length_cons, List.length_nil, List.length_set, List.length_take, List.length_drop, true_and]; omega)) | exact cvB (fun w => rfl) | ((repeat' (first | exact rfl | exact cV_len _ | exact cV_ln rfl (by omega) | exact Cel.pos | omega | exact trivial | refine And.intro ?_ ?_)); done) | (simp [*]; done) | (simp; omega))) | fail)) | refine r_nt (by rfl) (by rfl) (by first | rfl | assumption | omega | (simp only [*, Bool.not_false, Bool.not_true]; first | done | fail) | (simp [*]; first | done | fail)) (by rfl) ?_ | refine r_nf (by rfl) (by rfl) (by first | rfl | assumption | omega | (simp only [*, Bool.not_false, Bool.not_true]; first | done | fail) | (simp [*]; first | done | fail)) (by rfl) ?_ | refine r_gu (by rfl) (by rfl) (by rfl) ?_ | refine r_nil ?_) | (first | refine aw_seq ?_ | refine aw_ct (by rfl) (by first | rfl | assumption | omega | (simp only [*, Bool.not_false, Bool.not_true]; first | done | fail) | (simp [*]; first | done | fail)) ?_ | refine aw_cf (by rfl) (by first | rfl | assumption | omega | (simp only [*, Bool.not_false, Bool.not_true]; first | done | fail) | (simp [*]; first | done | fail)) ?_ | refine aw_block ?_ | refine aw_region T0ok cfU_ok (by rfl) ?_ | refine aw_skip ?_ | refine aw_exit ?_ | refine ra_step ?_))); exact hh.out)) : G := h ⟨k⟩
theorem ga_DR {H G : Prop} (k : H) (h : Hid H → G := by (intro hh; (first | refine r_none ?_ | refine r_gt (by rfl) (by rfl) (by first | rfl | assumption | omega | (simp only [*, Bool.not_false, Bool.not_true]; first | done | fail) | (simp [*]; first | done | fail)) (by rfl) ?_ | refine r_gf (by rfl) (by rfl) (by first | rfl | assumption | omega | (simp only [*, Bool.not_false, Bool.not_true]; first | done | fail) | (simp [*]; first | done | fail)) (by rfl) ?_); refine z_op (by rfl) ?_; refine z_alV ?_ hh.out; focus (first | exact trivial | fail | exact rfl | (first | omega | (simp only [List.length_append, List.length_replicate, List.length_cons, List.length_nil, List.length_set, List.length_take, List.length_drop, true_and]; omega)) | exact cvB (fun w => rfl) | ((repeat' (first | exact rfl | exact cV_len _ | exact cV_ln rfl (by omega) | exact Cel.pos | omega | exact trivial | refine And.intro ?_ ?_)); done) | (simp [*]; done) | (simp; omega)))) : G := h ⟨k⟩
theorem gd_DR {H G : Prop} (k : H) (h : Hid H → G := by (intro hh; (refine aw_draw mixed T0ok cfU_ok [] (by rfl) (by kernel_rfl) ?_); exact hh.out)) : G := h ⟨k⟩
abbrev tupG (g : Gt) (b : Bool) : AV := .tup [.agg (gCs g), .one (.v (.bool b))]
set_option maxHeartbeats 4000000 in
theorem k_rgStrue (s : List UInt8) (hs : s.length ≤ 7000000) (hne : (s == []) = false) (ht : (!(gtx (rdS s) == s)) = true) : Kon Tryd.prog 32 [vS s] [] (tupG (if true = true then g0 else rdS s) (!true)) [] [] := by
  have hC := k_cut s hs
  unfold rdS at ht ⊢
  have hw := (cutA_len 32 s []).1
  generalize cutA 32 [] s = ws at *
  have hG := k_gtS ⟨kfd (ws.getD 0 []), wdD ws 1, wdD ws 2, wdD ws 3⟩
  rw [← kft_5 (ws.getD 0 [])] at ht hG ⊢
  have hA := k_dig (ws.getD (1 : Int).toNat Cel.no)
  have hB := k_dig (ws.getD (2 : Int).toNat Cel.no)
  have hD := k_dig (ws.getD (3 : Int).toNat Cel.no)
  (refine kon_mk T0ok (fn := Tryd.f32) (c := Tryd.f32.body.get rfl) Tryd.func32 rfl (by rfl) (by rfl) (by rfl) ?_; intro hfit hfe)
  (repeat (first | refine gq_DR ?_ | (refine ga_DR ?_; intro _hq) | refine gd_DR ?_))
  (refine aw_rd [0, 2, 3, 4, 5, 6] [32, 160, 176] (fun g : Nat × Int => [(7, vI g.1)]) (fun g => [(96, (0, .box (gCs ⟨g.2, 0, 0, 0⟩)))]) (fun g => g.1 ≤ 5 ∧ g.2 = kft (ws.getD 0 []) g.1) (fun g => 5 - g.1) (0, -1) (by rfl) (by rfl) ?_ (by rfl) (by repeat (first | exact trivial | refine ⟨by rfl, ?_⟩ | refine ⟨vI_of (by rfl) (by omega), ?_⟩)) (by repeat (first | exact trivial | refine ⟨by rfl, ?_⟩ | refine ⟨vI_of (by rfl) (by omega), ?_⟩)) ?_)
  · exact ⟨Nat.zero_le _, rfl⟩
  rintro ⟨j, kk⟩ ⟨hj, ek⟩
  dsimp only at hj ek ⊢
  rcases Nat.lt_or_ge j 5 with h1 | h1
  · have hd : decide ((j : Int) ≤ 4) = true := decide_eq_true (by omega)
    have hK := k_kindS (j : Int) (by omega)
    have ek2 : kft (ws.getD 0 []) (j + 1) = if (ws.getD 0 [] == gnm (j : Int)) = true then (j : Int) else kft (ws.getD 0 []) j := rfl
    cases hb : (ws.getD 0 [] == gnm (j : Int)) with
    | true =>
      rw [hb, if_pos rfl] at ek2
      have hinv : j + 1 ≤ 5 ∧ (j : Int) = kft (ws.getD 0 []) (j + 1) := ⟨h1, ek2.symm⟩
      replace hb : (ws.getD (0 : Int).toNat Cel.no == gnm (j : Int)) = true := hb
      (repeat (first | refine gq_DR ?_ | (refine ga_DR ?_; intro _hq) | refine gd_DR ?_))
      exact ⟨(j + 1, (j : Int)), hinv, ⟨by rfl, (by repeat (first | exact trivial | refine ⟨by rfl, ?_⟩ | refine ⟨vI_of (by rfl) (by omega), ?_⟩)), (by repeat (first | exact trivial | refine ⟨by rfl, ?_⟩ | refine ⟨vI_of (by rfl) (by omega), ?_⟩))⟩, (by first | omega | (dsimp only; omega))⟩
    | false =>
      rw [hb, if_neg (by decide)] at ek2
      have hinv : j + 1 ≤ 5 ∧ kk = kft (ws.getD 0 []) (j + 1) := ⟨h1, ek.trans ek2.symm⟩
      replace hb : (ws.getD (0 : Int).toNat Cel.no == gnm (j : Int)) = false := hb
      (repeat (first | refine gq_DR ?_ | (refine ga_DR ?_; intro _hq) | refine gd_DR ?_))
      exact ⟨(j + 1, kk), hinv, ⟨by rfl, (by repeat (first | exact trivial | refine ⟨by rfl, ?_⟩ | refine ⟨vI_of (by rfl) (by omega), ?_⟩)), (by repeat (first | exact trivial | refine ⟨by rfl, ?_⟩ | refine ⟨vI_of (by rfl) (by omega), ?_⟩))⟩, (by first | omega | (dsimp only; omega))⟩
  · obtain rfl : j = 5 := by omega
    have hd : decide (((5 : Nat) : Int) ≤ 4) = false := by decide
    rw [← ek] at ht hG ⊢
    have hl1 : 1 ≤ ws.length := hw
    rcases Nat.lt_or_ge 1 ws.length with l1 | l1
    · have d1 : decide ((1 : Int) < (ws.length : Int)) = true := decide_eq_true (by omega)
      rw [show wdD ws 1 = dgs (ws.getD 1 []) from if_pos l1] at ht hG ⊢
      rcases Nat.lt_or_ge 2 ws.length with l2 | l2
      · have d2 : decide ((1 + 1 : Int) < (ws.length : Int)) = true := decide_eq_true (by omega)
        rw [show wdD ws 2 = dgs (ws.getD 2 []) from if_pos l2] at ht hG ⊢
        rcases Nat.lt_or_ge 3 ws.length with l3 | l3
        · have d3 : decide ((1 + 1 + 1 : Int) < (ws.length : Int)) = true := decide_eq_true (by omega)
          rw [show wdD ws 3 = dgs (ws.getD 3 []) from if_pos l3] at ht hG ⊢
          rcases Nat.lt_or_ge 4 ws.length with l4 | l4
          · have d4 : decide ((1 + 1 + 1 + 1 : Int) < (ws.length : Int)) = true := decide_eq_true (by omega)
            (repeat (first | refine gq_DR ?_ | (refine ga_DR ?_; intro _hq) | refine gd_DR ?_))
            refine aw_unroll 4 ?_
            (repeat (first | refine gq_DR ?_ | (refine ga_DR ?_; intro _hq) | refine gd_DR ?_))
            ((try refine aw_ret ?_); refine ret_auto2 (by rfl) (by rfl) (by rfl) (by repeat (first | exact trivial | refine ⟨by first | rfl | omega, ?_⟩)) ?_ (by repeat (first | exact trivial | refine ⟨by rfl, by rfl, ?_⟩)) (by repeat (first | exact trivial | refine ⟨by rfl, by rfl, ?_⟩)); try rfl)
          · have d4 : decide ((1 + 1 + 1 + 1 : Int) < (ws.length : Int)) = false := decide_eq_false (by omega)
            (repeat (first | refine gq_DR ?_ | (refine ga_DR ?_; intro _hq) | refine gd_DR ?_))
            refine aw_unroll 4 ?_
            (repeat (first | refine gq_DR ?_ | (refine ga_DR ?_; intro _hq) | refine gd_DR ?_))
            ((try refine aw_ret ?_); refine ret_auto2 (by rfl) (by rfl) (by rfl) (by repeat (first | exact trivial | refine ⟨by first | rfl | omega, ?_⟩)) ?_ (by repeat (first | exact trivial | refine ⟨by rfl, by rfl, ?_⟩)) (by repeat (first | exact trivial | refine ⟨by rfl, by rfl, ?_⟩)); try rfl)
        · have d3 : decide ((1 + 1 + 1 : Int) < (ws.length : Int)) = false := decide_eq_false (by omega)
          rw [show wdD ws 3 = 0 from if_neg (by omega)] at ht hG ⊢
          (repeat (first | refine gq_DR ?_ | (refine ga_DR ?_; intro _hq) | refine gd_DR ?_))
          refine aw_unroll 4 ?_
          (repeat (first | refine gq_DR ?_ | (refine ga_DR ?_; intro _hq) | refine gd_DR ?_))
          ((try refine aw_ret ?_); refine ret_auto2 (by rfl) (by rfl) (by rfl) (by repeat (first | exact trivial | refine ⟨by first | rfl | omega, ?_⟩)) ?_ (by repeat (first | exact trivial | refine ⟨by rfl, by rfl, ?_⟩)) (by repeat (first | exact trivial | refine ⟨by rfl, by rfl, ?_⟩)); try rfl)
      · have d2 : decide ((1 + 1 : Int) < (ws.length : Int)) = false := decide_eq_false (by omega)
        rw [show wdD ws 2 = 0 from if_neg (by omega), show wdD ws 3 = 0 from if_neg (by omega)] at ht hG ⊢
        (repeat (first | refine gq_DR ?_ | (refine ga_DR ?_; intro _hq) | refine gd_DR ?_))
        refine aw_unroll 4 ?_
        (repeat (first | refine gq_DR ?_ | (refine ga_DR ?_; intro _hq) | refine gd_DR ?_))
        ((try refine aw_ret ?_); refine ret_auto2 (by rfl) (by rfl) (by rfl) (by repeat (first | exact trivial | refine ⟨by first | rfl | omega, ?_⟩)) ?_ (by repeat (first | exact trivial | refine ⟨by rfl, by rfl, ?_⟩)) (by repeat (first | exact trivial | refine ⟨by rfl, by rfl, ?_⟩)); try rfl)
    · have d1 : decide ((1 : Int) < (ws.length : Int)) = false := decide_eq_false (by omega)
      rw [show wdD ws 1 = 0 from if_neg (by omega), show wdD ws 2 = 0 from if_neg (by omega), show wdD ws 3 = 0 from if_neg (by omega)] at ht hG ⊢
      (repeat (first | refine gq_DR ?_ | (refine ga_DR ?_; intro _hq) | refine gd_DR ?_))
      refine aw_unroll 4 ?_
      (repeat (first | refine gq_DR ?_ | (refine ga_DR ?_; intro _hq) | refine gd_DR ?_))
      ((try refine aw_ret ?_); refine ret_auto2 (by rfl) (by rfl) (by rfl) (by repeat (first | exact trivial | refine ⟨by first | rfl | omega, ?_⟩)) ?_ (by repeat (first | exact trivial | refine ⟨by rfl, by rfl, ?_⟩)) (by repeat (first | exact trivial | refine ⟨by rfl, by rfl, ?_⟩)); try rfl)
set_option maxHeartbeats 4000000 in
theorem k_rgSfalse (s : List UInt8) (hs : s.length ≤ 7000000) (hne : (s == []) = false) (ht : (!(gtx (rdS s) == s)) = false) : Kon Tryd.prog 32 [vS s] [] (tupG (if false = true then g0 else rdS s) (!false)) [] [] := by
  have hC := k_cut s hs
  unfold rdS at ht ⊢
  have hw := (cutA_len 32 s []).1
  generalize cutA 32 [] s = ws at *
  have hG := k_gtS ⟨kfd (ws.getD 0 []), wdD ws 1, wdD ws 2, wdD ws 3⟩
  rw [← kft_5 (ws.getD 0 [])] at ht hG ⊢
  have hA := k_dig (ws.getD (1 : Int).toNat Cel.no)
  have hB := k_dig (ws.getD (2 : Int).toNat Cel.no)
  have hD := k_dig (ws.getD (3 : Int).toNat Cel.no)
  (refine kon_mk T0ok (fn := Tryd.f32) (c := Tryd.f32.body.get rfl) Tryd.func32 rfl (by rfl) (by rfl) (by rfl) ?_; intro hfit hfe)
  (repeat (first | refine gq_DR ?_ | (refine ga_DR ?_; intro _hq) | refine gd_DR ?_))
  (refine aw_rd [0, 2, 3, 4, 5, 6] [32, 160, 176] (fun g : Nat × Int => [(7, vI g.1)]) (fun g => [(96, (0, .box (gCs ⟨g.2, 0, 0, 0⟩)))]) (fun g => g.1 ≤ 5 ∧ g.2 = kft (ws.getD 0 []) g.1) (fun g => 5 - g.1) (0, -1) (by rfl) (by rfl) ?_ (by rfl) (by repeat (first | exact trivial | refine ⟨by rfl, ?_⟩ | refine ⟨vI_of (by rfl) (by omega), ?_⟩)) (by repeat (first | exact trivial | refine ⟨by rfl, ?_⟩ | refine ⟨vI_of (by rfl) (by omega), ?_⟩)) ?_)
  · exact ⟨Nat.zero_le _, rfl⟩
  rintro ⟨j, kk⟩ ⟨hj, ek⟩
  dsimp only at hj ek ⊢
  rcases Nat.lt_or_ge j 5 with h1 | h1
  · have hd : decide ((j : Int) ≤ 4) = true := decide_eq_true (by omega)
    have hK := k_kindS (j : Int) (by omega)
    have ek2 : kft (ws.getD 0 []) (j + 1) = if (ws.getD 0 [] == gnm (j : Int)) = true then (j : Int) else kft (ws.getD 0 []) j := rfl
    cases hb : (ws.getD 0 [] == gnm (j : Int)) with
    | true =>
      rw [hb, if_pos rfl] at ek2
      have hinv : j + 1 ≤ 5 ∧ (j : Int) = kft (ws.getD 0 []) (j + 1) := ⟨h1, ek2.symm⟩
      replace hb : (ws.getD (0 : Int).toNat Cel.no == gnm (j : Int)) = true := hb
      (repeat (first | refine gq_DR ?_ | (refine ga_DR ?_; intro _hq) | refine gd_DR ?_))
      exact ⟨(j + 1, (j : Int)), hinv, ⟨by rfl, (by repeat (first | exact trivial | refine ⟨by rfl, ?_⟩ | refine ⟨vI_of (by rfl) (by omega), ?_⟩)), (by repeat (first | exact trivial | refine ⟨by rfl, ?_⟩ | refine ⟨vI_of (by rfl) (by omega), ?_⟩))⟩, (by first | omega | (dsimp only; omega))⟩
    | false =>
      rw [hb, if_neg (by decide)] at ek2
      have hinv : j + 1 ≤ 5 ∧ kk = kft (ws.getD 0 []) (j + 1) := ⟨h1, ek.trans ek2.symm⟩
      replace hb : (ws.getD (0 : Int).toNat Cel.no == gnm (j : Int)) = false := hb
      (repeat (first | refine gq_DR ?_ | (refine ga_DR ?_; intro _hq) | refine gd_DR ?_))
      exact ⟨(j + 1, kk), hinv, ⟨by rfl, (by repeat (first | exact trivial | refine ⟨by rfl, ?_⟩ | refine ⟨vI_of (by rfl) (by omega), ?_⟩)), (by repeat (first | exact trivial | refine ⟨by rfl, ?_⟩ | refine ⟨vI_of (by rfl) (by omega), ?_⟩))⟩, (by first | omega | (dsimp only; omega))⟩
  · obtain rfl : j = 5 := by omega
    have hd : decide (((5 : Nat) : Int) ≤ 4) = false := by decide
    rw [← ek] at ht hG ⊢
    have hl1 : 1 ≤ ws.length := hw
    rcases Nat.lt_or_ge 1 ws.length with l1 | l1
    · have d1 : decide ((1 : Int) < (ws.length : Int)) = true := decide_eq_true (by omega)
      rw [show wdD ws 1 = dgs (ws.getD 1 []) from if_pos l1] at ht hG ⊢
      rcases Nat.lt_or_ge 2 ws.length with l2 | l2
      · have d2 : decide ((1 + 1 : Int) < (ws.length : Int)) = true := decide_eq_true (by omega)
        rw [show wdD ws 2 = dgs (ws.getD 2 []) from if_pos l2] at ht hG ⊢
        rcases Nat.lt_or_ge 3 ws.length with l3 | l3
        · have d3 : decide ((1 + 1 + 1 : Int) < (ws.length : Int)) = true := decide_eq_true (by omega)
          rw [show wdD ws 3 = dgs (ws.getD 3 []) from if_pos l3] at ht hG ⊢
          rcases Nat.lt_or_ge 4 ws.length with l4 | l4
          · have d4 : decide ((1 + 1 + 1 + 1 : Int) < (ws.length : Int)) = true := decide_eq_true (by omega)
            (repeat (first | refine gq_DR ?_ | (refine ga_DR ?_; intro _hq) | refine gd_DR ?_))
            refine aw_unroll 4 ?_
            (repeat (first | refine gq_DR ?_ | (refine ga_DR ?_; intro _hq) | refine gd_DR ?_))
            ((try refine aw_ret ?_); refine ret_auto2 (by rfl) (by rfl) (by rfl) (by repeat (first | exact trivial | refine ⟨by first | rfl | omega, ?_⟩)) ?_ (by repeat (first | exact trivial | refine ⟨by rfl, by rfl, ?_⟩)) (by repeat (first | exact trivial | refine ⟨by rfl, by rfl, ?_⟩)); try rfl)
          · have d4 : decide ((1 + 1 + 1 + 1 : Int) < (ws.length : Int)) = false := decide_eq_false (by omega)
            (repeat (first | refine gq_DR ?_ | (refine ga_DR ?_; intro _hq) | refine gd_DR ?_))
            refine aw_unroll 4 ?_
            (repeat (first | refine gq_DR ?_ | (refine ga_DR ?_; intro _hq) | refine gd_DR ?_))
            ((try refine aw_ret ?_); refine ret_auto2 (by rfl) (by rfl) (by rfl) (by repeat (first | exact trivial | refine ⟨by first | rfl | omega, ?_⟩)) ?_ (by repeat (first | exact trivial | refine ⟨by rfl, by rfl, ?_⟩)) (by repeat (first | exact trivial | refine ⟨by rfl, by rfl, ?_⟩)); try rfl)
        · have d3 : decide ((1 + 1 + 1 : Int) < (ws.length : Int)) = false := decide_eq_false (by omega)
          rw [show wdD ws 3 = 0 from if_neg (by omega)] at ht hG ⊢
          (repeat (first | refine gq_DR ?_ | (refine ga_DR ?_; intro _hq) | refine gd_DR ?_))
          refine aw_unroll 4 ?_
          (repeat (first | refine gq_DR ?_ | (refine ga_DR ?_; intro _hq) | refine gd_DR ?_))
          ((try refine aw_ret ?_); refine ret_auto2 (by rfl) (by rfl) (by rfl) (by repeat (first | exact trivial | refine ⟨by first | rfl | omega, ?_⟩)) ?_ (by repeat (first | exact trivial | refine ⟨by rfl, by rfl, ?_⟩)) (by repeat (first | exact trivial | refine ⟨by rfl, by rfl, ?_⟩)); try rfl)
      · have d2 : decide ((1 + 1 : Int) < (ws.length : Int)) = false := decide_eq_false (by omega)
        rw [show wdD ws 2 = 0 from if_neg (by omega), show wdD ws 3 = 0 from if_neg (by omega)] at ht hG ⊢
        (repeat (first | refine gq_DR ?_ | (refine ga_DR ?_; intro _hq) | refine gd_DR ?_))
        refine aw_unroll 4 ?_
        (repeat (first | refine gq_DR ?_ | (refine ga_DR ?_; intro _hq) | refine gd_DR ?_))
        ((try refine aw_ret ?_); refine ret_auto2 (by rfl) (by rfl) (by rfl) (by repeat (first | exact trivial | refine ⟨by first | rfl | omega, ?_⟩)) ?_ (by repeat (first | exact trivial | refine ⟨by rfl, by rfl, ?_⟩)) (by repeat (first | exact trivial | refine ⟨by rfl, by rfl, ?_⟩)); try rfl)
    · have d1 : decide ((1 : Int) < (ws.length : Int)) = false := decide_eq_false (by omega)
      rw [show wdD ws 1 = 0 from if_neg (by omega), show wdD ws 2 = 0 from if_neg (by omega), show wdD ws 3 = 0 from if_neg (by omega)] at ht hG ⊢
      (repeat (first | refine gq_DR ?_ | (refine ga_DR ?_; intro _hq) | refine gd_DR ?_))
      refine aw_unroll 4 ?_
      (repeat (first | refine gq_DR ?_ | (refine ga_DR ?_; intro _hq) | refine gd_DR ?_))
      ((try refine aw_ret ?_); refine ret_auto2 (by rfl) (by rfl) (by rfl) (by repeat (first | exact trivial | refine ⟨by first | rfl | omega, ?_⟩)) ?_ (by repeat (first | exact trivial | refine ⟨by rfl, by rfl, ?_⟩)) (by repeat (first | exact trivial | refine ⟨by rfl, by rfl, ?_⟩)); try rfl)
theorem k_rgSe : Kon Tryd.prog 32 [vS []] [] (tupG g0 false) [] [] := by
  have hC := k_cut [] (by decide)
  have hne : (([] : List UInt8) == []) = true := rfl
  have e : cutA 32 [] [] = [[]] := rfl
  rw [e] at hC
  have n0 : (([] : List UInt8) == gnm 0) = false := by decide
  have n1 : (([] : List UInt8) == gnm 1) = false := by decide
  have n2 : (([] : List UInt8) == gnm 2) = false := by decide
  have n3 : (([] : List UInt8) == gnm 3) = false := by decide
  have n4 : (([] : List UInt8) == gnm 4) = false := by decide
  have hK0 := k_kindS 0 (by decide)
  have hK1 := k_kindS 1 (by decide)
  have hK2 := k_kindS 2 (by decide)
  have hK3 := k_kindS 3 (by decide)
  have hK4 := k_kindS 4 (by decide)
  (refine kon_mk T0ok (fn := Tryd.f32) (c := Tryd.f32.body.get rfl) Tryd.func32 rfl (by rfl) (by rfl) (by rfl) ?_; intro hfit hfe)
  (repeat (first | refine gq_DR ?_ | (refine ga_DR ?_; intro _hq) | refine gd_DR ?_))
  refine aw_unroll 6 ?_
  (repeat (first | refine gq_DR ?_ | (refine ga_DR ?_; intro _hq) | refine gd_DR ?_))
  refine aw_unroll 2 ?_
  (repeat (first | refine gq_DR ?_ | (refine ga_DR ?_; intro _hq) | refine gd_DR ?_))
  ((try refine aw_ret ?_); refine ret_auto2 (by rfl) (by rfl) (by rfl) (by repeat (first | exact trivial | refine ⟨by first | rfl | omega, ?_⟩)) ?_ (by repeat (first | exact trivial | refine ⟨by rfl, by rfl, ?_⟩)) (by repeat (first | exact trivial | refine ⟨by rfl, by rfl, ?_⟩)); try rfl)
end Go.Proofs.YtgphlcdinejmdaaDoor

/- Contracts of Go's library at this program. -/
namespace Go.Proofs.YtgphlcdinejmdaaDoor
set_option linter.unusedVariables false
open Go.Shelf Go.RowKit Go.Lib
def Tryd.laysC172_ren : Go.Shelf.Ren := ⟨fun | 172 => 34 | 244 => 50 | 245 => 51 | 247 => 60 | 279 => 61 | 280 => 62 | 281 => 63 | 282 => 64 | 287 => 76 | 316 => 77 | 171 => 28 | 205 => 78 | 321 => 90 | 322 => 91 | 243 => 44 | 246 => 56 | 283 => 67 | 284 => 68 | 285 => 69 | 286 => 70 | 129 => 83 | 317 => 82 | 318 => 84 | 319 => 85 | 320 => 86 | 337 => 95 | 338 => 96 | n => n, fun | 9 => 9 | 3 => 3 | 75 => 59 | 76 => 60 | 4 => 4 | 5 => 5 | 167 => 92 | 37 => 64 | 0 => 0 | 85 => 93 | 2 => 2 | 168 => 95 | 53 => 102 | 175 => 110 | 46 => 109 | 210 => 114 | 127 => 85 | 145 => 128 | 143 => 126 | 21 => 21 | 171 => 101 | 173 => 105 | 212 => 118 | 51 => 119 | 20 => 20 | 213 => 120 | 232 => 132 | 233 => 133 | 80 => 68 | n => n, fun | 15 => 1 | 16 => 2 | 17 => 3 | 18 => 4 | 19 => 5 | n => n⟩
theorem Tryd.laysC172 : Go.Proofs.LaysC.n172 Tryd.prog Tryd.laysC172_ren := {
  mixed := by kernel_rfl
  f129 := Tryd.func83.trans (congrArg some (by kernel_rfl))
  f171 := Tryd.func28.trans (congrArg some (by kernel_rfl))
  f172 := Tryd.func34.trans (congrArg some (by kernel_rfl))
  f205 := Tryd.func78.trans (congrArg some (by kernel_rfl))
  f243 := Tryd.func44.trans (congrArg some (by kernel_rfl))
  f244 := Tryd.func50.trans (congrArg some (by kernel_rfl))
  f245 := Tryd.func51.trans (congrArg some (by kernel_rfl))
  f246 := Tryd.func56.trans (congrArg some (by kernel_rfl))
  f247 := Tryd.func60.trans (congrArg some (by kernel_rfl))
  f279 := Tryd.func61.trans (congrArg some (by kernel_rfl))
  f280 := Tryd.func62.trans (congrArg some (by kernel_rfl))
  f281 := Tryd.func63.trans (congrArg some (by kernel_rfl))
  f282 := Tryd.func64.trans (congrArg some (by kernel_rfl))
  f283 := Tryd.func67.trans (congrArg some (by kernel_rfl))
  f284 := Tryd.func68.trans (congrArg some (by kernel_rfl))
  f285 := Tryd.func69.trans (congrArg some (by kernel_rfl))
  f286 := Tryd.func70.trans (congrArg some (by kernel_rfl))
  f287 := Tryd.func76.trans (congrArg some (by kernel_rfl))
  f316 := Tryd.func77.trans (congrArg some (by kernel_rfl))
  f317 := Tryd.func82.trans (congrArg some (by kernel_rfl))
  f318 := Tryd.func84.trans (congrArg some (by kernel_rfl))
  f319 := Tryd.func85.trans (congrArg some (by kernel_rfl))
  f320 := Tryd.func86.trans (congrArg some (by kernel_rfl))
  f321 := Tryd.func90.trans (congrArg some (by kernel_rfl))
  f322 := Tryd.func91.trans (congrArg some (by kernel_rfl))
  f337 := Tryd.func95.trans (congrArg some (by kernel_rfl))
  f338 := Tryd.func96.trans (congrArg some (by kernel_rfl))
  t0 := Tryd.underlying0
  a0 := Tryd.isAgg0
  z0 := Tryd.sizeOf0
  v0 := Tryd.zeroValue0
  t2 := Tryd.underlying2
  a2 := Tryd.isAgg2
  z2 := Tryd.sizeOf2
  v2 := Tryd.zeroValue2
  t3 := Tryd.underlying3
  a3 := Tryd.isAgg3
  z3 := Tryd.sizeOf3
  v3 := Tryd.zeroValue3
  t4 := Tryd.underlying4
  a4 := Tryd.isAgg4
  z4 := Tryd.sizeOf4
  v4 := Tryd.zeroValue4
  t5 := Tryd.underlying5
  a5 := Tryd.isAgg5
  z5 := Tryd.sizeOf5
  v5 := Tryd.zeroValue5
  t9 := Tryd.underlying9
  a9 := Tryd.isAgg9
  z9 := Tryd.sizeOf9
  v9 := Tryd.zeroValue9
  t20 := Tryd.underlying20
  a20 := Tryd.isAgg20
  z20 := Tryd.sizeOf20
  v20 := Tryd.zeroValue20
  t21 := Tryd.underlying21
  a21 := Tryd.isAgg21
  z21 := Tryd.sizeOf21
  v21 := Tryd.zeroValue21
  t37 := Tryd.underlying64
  a37 := Tryd.isAgg64
  z37 := Tryd.sizeOf64
  v37 := Tryd.zeroValue64
  t46 := Tryd.underlying109
  a46 := Tryd.isAgg109
  z46 := Tryd.sizeOf109
  v46 := Tryd.zeroValue109
  t51 := Tryd.underlying119
  a51 := Tryd.isAgg119
  z51 := Tryd.sizeOf119
  v51 := Tryd.zeroValue119
  t53 := Tryd.underlying102
  a53 := Tryd.isAgg102
  z53 := Tryd.sizeOf102
  v53 := Tryd.zeroValue102
  t75 := Tryd.underlying59
  a75 := Tryd.isAgg59
  z75 := Tryd.sizeOf59
  v75 := Tryd.zeroValue59
  t76 := Tryd.underlying60
  a76 := Tryd.isAgg60
  z76 := Tryd.sizeOf60
  v76 := Tryd.zeroValue60
  t85 := Tryd.underlying93
  a85 := Tryd.isAgg93
  z85 := Tryd.sizeOf93
  v85 := Tryd.zeroValue93
  t127 := Tryd.underlying85
  a127 := Tryd.isAgg85
  z127 := Tryd.sizeOf85
  v127 := Tryd.zeroValue85
  t143 := Tryd.underlying126
  a143 := Tryd.isAgg126
  z143 := Tryd.sizeOf126
  v143 := Tryd.zeroValue126
  t145 := Tryd.underlying128
  a145 := Tryd.isAgg128
  z145 := Tryd.sizeOf128
  v145 := Tryd.zeroValue128
  t167 := Tryd.underlying92
  a167 := Tryd.isAgg92
  z167 := Tryd.sizeOf92
  v167 := Tryd.zeroValue92
  t168 := Tryd.underlying95
  a168 := Tryd.isAgg95
  z168 := Tryd.sizeOf95
  v168 := Tryd.zeroValue95
  t171 := Tryd.underlying101
  a171 := Tryd.isAgg101
  z171 := Tryd.sizeOf101
  v171 := Tryd.zeroValue101
  t173 := Tryd.underlying105
  a173 := Tryd.isAgg105
  z173 := Tryd.sizeOf105
  v173 := Tryd.zeroValue105
  t175 := Tryd.underlying110
  a175 := Tryd.isAgg110
  z175 := Tryd.sizeOf110
  v175 := Tryd.zeroValue110
  t210 := Tryd.underlying114
  a210 := Tryd.isAgg114
  z210 := Tryd.sizeOf114
  v210 := Tryd.zeroValue114
  t212 := Tryd.underlying118
  a212 := Tryd.isAgg118
  z212 := Tryd.sizeOf118
  v212 := Tryd.zeroValue118
  t213 := Tryd.underlying120
  a213 := Tryd.isAgg120
  z213 := Tryd.sizeOf120
  t232 := Tryd.underlying132
  a232 := Tryd.isAgg132
  z232 := Tryd.sizeOf132
  v232 := Tryd.zeroValue132
  t233 := Tryd.underlying133
  a233 := Tryd.isAgg133
  z233 := Tryd.sizeOf133
  v233 := Tryd.zeroValue133
  g15 := by kernel_rfl
  g16 := by kernel_rfl
  g17 := by kernel_rfl
  g18 := by kernel_rfl
  g19 := by kernel_rfl
  t80 := Tryd.underlying68
  a80 := Tryd.isAgg68
  z80 := Tryd.sizeOf68
  v80 := Tryd.zeroValue68
  i0 := by kernel_rfl
  i2 := by kernel_rfl
  i3 := by kernel_rfl
  i4 := by kernel_rfl
  i5 := by kernel_rfl
  i9 := by kernel_rfl
  i20 := by kernel_rfl
  i21 := by kernel_rfl
  i37 := by kernel_rfl
  i46 := by kernel_rfl
  i51 := by kernel_rfl
  i53 := by kernel_rfl
  i75 := by kernel_rfl
  i76 := by kernel_rfl
  i80 := by kernel_rfl
  i85 := by kernel_rfl
  i127 := by kernel_rfl
  i143 := by kernel_rfl
  i145 := by kernel_rfl
  i167 := by kernel_rfl
  i168 := by kernel_rfl
  i171 := by kernel_rfl
  i173 := by kernel_rfl
  i175 := by kernel_rfl
  i210 := by kernel_rfl
  i212 := by kernel_rfl
  i232 := by kernel_rfl
  i233 := by kernel_rfl
  m15 := by kernel_rfl
  m16 := by kernel_rfl
  m17 := by kernel_rfl
  m18 := by kernel_rfl
  m19 := by kernel_rfl
  c0 := by kernel_rfl
  c2 := by kernel_rfl
  c3 := by kernel_rfl
  c4 := by kernel_rfl
  c5 := by kernel_rfl
  c9 := by kernel_rfl
  c20 := by kernel_rfl
  c21 := by kernel_rfl
  c37 := by kernel_rfl
  c46 := by kernel_rfl
  c51 := by kernel_rfl
  c53 := by kernel_rfl
  c75 := by kernel_rfl
  c76 := by kernel_rfl
  c80 := by kernel_rfl
  c85 := by kernel_rfl
  c127 := by kernel_rfl
  c143 := by kernel_rfl
  c145 := by kernel_rfl
  c167 := by kernel_rfl
  c168 := by kernel_rfl
  c171 := by kernel_rfl
  c173 := by kernel_rfl
  c175 := by kernel_rfl
  c210 := by kernel_rfl
  c212 := by kernel_rfl
  c213 := by kernel_rfl
  c232 := by kernel_rfl
  c233 := by kernel_rfl }
theorem Tryd.strconv_Atoi_ok (s : ByteArray) (hmax : s.size ≤ 9223372036854775806) (v : Int) (h : Lib.atoiAll s.data.toList = .ok v) (w : World) :
    Calls Tryd.prog 34 #[.string s] w fun e w' => e = .returned (.tuple #[.int .i64 v, .nilIface]) ∧ (w' = w ∨ ∃ t, w' = Lib.bytesWorld w 5 t) := Any.strconv_Atoi_ok Tryd.laysC172 s hmax v h w
theorem Tryd.strconv_Atoi_syntax (s : ByteArray) (hlim : s.size ≤ 281474976710656) (h : Lib.atoiAll s.data.toList = Lib.atoiAll []) (ev : Value) (w : World) (hv : w.cell? ⟨1, 0, none⟩ = some ev) (hev : ev = .nilIface ∨ ∃ te pe, ev = .iface te pe) :
    Calls Tryd.prog 34 #[.string s] w fun e w' => ∃ N, e = .returned (.tuple #[.int .i64 (0), .iface 95 (.pointer (some ⟨N, 0, none⟩))]) ∧ w.heap.size ≤ N ∧ w'.heap[N]? = some (.cells #[.string ⟨#[65, 116, 111, 105]⟩, .string s, ev] 114 (0, 0)) ∧ Below w.heap.size w w' := Any.strconv_Atoi_syntax Tryd.laysC172 s hlim h ev w hv hev
theorem Tryd.strconv_Atoi_range (s : ByteArray) (hlim : s.size ≤ 281474976710656) (h : Lib.atoiAll s.data.toList = .range) (ev : Value) (w : World) (hv : w.cell? ⟨2, 0, none⟩ = some ev) (hev : ev = .nilIface ∨ ∃ te pe, ev = .iface te pe) :
    Calls Tryd.prog 34 #[.string s] w fun e w' => ∃ N, e = .returned (.tuple #[.int .i64 (Lib.atoiSat s.data.toList), .iface 95 (.pointer (some ⟨N, 0, none⟩))]) ∧ w.heap.size ≤ N ∧ w'.heap[N]? = some (.cells #[.string ⟨#[65, 116, 111, 105]⟩, .string s, ev] 114 (0, 0)) ∧ Below w.heap.size w w' := Any.strconv_Atoi_range Tryd.laysC172 s hlim h ev w hv hev
def Tryd.lays146_ren : Go.Shelf.Ren := ⟨fun | 146 => 52 | 221 => 65 | 268 => 79 | 138 => 80 | 143 => 81 | 195 => 92 | 197 => 93 | 218 => 94 | 219 => 59 | 260 => 97 | 217 => 72 | 225 => 73 | 224 => 74 | 267 => 75 | 266 => 88 | 314 => 89 | n => n, fun | 9 => 9 | 31 => 49 | 3 => 3 | 4 => 4 | 0 => 0 | 105 => 129 | 21 => 21 | 5 => 5 | 46 => 109 | 119 => 134 | 139 => 137 | 138 => 136 | 146 => 123 | 51 => 119 | n => n, fun | 1 => 0 | 3 => 6 | 4 => 7 | n => n⟩
theorem Tryd.lays146 : Go.Proofs.Lays.n146 Tryd.prog Tryd.lays146_ren := {
  mixed := by kernel_rfl
  f138 := Tryd.func80.trans (congrArg some (by kernel_rfl))
  f143 := Tryd.func81.trans (congrArg some (by kernel_rfl))
  f146 := Tryd.func52.trans (congrArg some (by kernel_rfl))
  f195 := Tryd.func92.trans (congrArg some (by kernel_rfl))
  f197 := Tryd.func93.trans (congrArg some (by kernel_rfl))
  f217 := Tryd.func72.trans (congrArg some (by kernel_rfl))
  f218 := Tryd.func94.trans (congrArg some (by kernel_rfl))
  f219 := Tryd.func59.trans (congrArg some (by kernel_rfl))
  f221 := Tryd.func65.trans (congrArg some (by kernel_rfl))
  f224 := Tryd.func74.trans (congrArg some (by kernel_rfl))
  f225 := Tryd.func73.trans (congrArg some (by kernel_rfl))
  f260 := Tryd.func97.trans (congrArg some (by kernel_rfl))
  f266 := Tryd.func88.trans (congrArg some (by kernel_rfl))
  f267 := Tryd.func75.trans (congrArg some (by kernel_rfl))
  f268 := Tryd.func79.trans (congrArg some (by kernel_rfl))
  f314 := Tryd.func89.trans (congrArg some (by kernel_rfl))
  t0 := Tryd.underlying0
  a0 := Tryd.isAgg0
  z0 := Tryd.sizeOf0
  v0 := Tryd.zeroValue0
  t3 := Tryd.underlying3
  a3 := Tryd.isAgg3
  z3 := Tryd.sizeOf3
  v3 := Tryd.zeroValue3
  t4 := Tryd.underlying4
  a4 := Tryd.isAgg4
  z4 := Tryd.sizeOf4
  v4 := Tryd.zeroValue4
  t5 := Tryd.underlying5
  a5 := Tryd.isAgg5
  z5 := Tryd.sizeOf5
  v5 := Tryd.zeroValue5
  t9 := Tryd.underlying9
  a9 := Tryd.isAgg9
  z9 := Tryd.sizeOf9
  v9 := Tryd.zeroValue9
  t21 := Tryd.underlying21
  a21 := Tryd.isAgg21
  z21 := Tryd.sizeOf21
  v21 := Tryd.zeroValue21
  t31 := Tryd.underlying49
  a31 := Tryd.isAgg49
  z31 := Tryd.sizeOf49
  v31 := Tryd.zeroValue49
  t46 := Tryd.underlying109
  a46 := Tryd.isAgg109
  z46 := Tryd.sizeOf109
  v46 := Tryd.zeroValue109
  t51 := Tryd.underlying119
  a51 := Tryd.isAgg119
  z51 := Tryd.sizeOf119
  v51 := Tryd.zeroValue119
  t105 := Tryd.underlying129
  a105 := Tryd.isAgg129
  z105 := Tryd.sizeOf129
  v105 := Tryd.zeroValue129
  t119 := Tryd.underlying134
  a119 := Tryd.isAgg134
  z119 := Tryd.sizeOf134
  t138 := Tryd.underlying136
  a138 := Tryd.isAgg136
  z138 := Tryd.sizeOf136
  v138 := Tryd.zeroValue136
  t139 := Tryd.underlying137
  a139 := Tryd.isAgg137
  z139 := Tryd.sizeOf137
  v139 := Tryd.zeroValue137
  t146 := Tryd.underlying123
  a146 := Tryd.isAgg123
  z146 := Tryd.sizeOf123
  v146 := Tryd.zeroValue123
  g1 := by kernel_rfl
  g3 := by kernel_rfl
  g4 := by kernel_rfl }
theorem Tryd.strings_Split (s sep : ByteArray) (m : Int) (w : World) (hs : s.size < 4294967281) (hm : w.cell? ⟨0, 0, none⟩ = some (.int .i64 m)) (h1 : 1 ≤ sep.size) :
    Calls Tryd.prog 52 #[.string s, .string sep] w fun e w' =>
      e = .returned (.slice (some ⟨w.heap.size, 0, none⟩) (Lib.countB s sep + 1) (Lib.countB s sep + 1)) ∧ w' = w.alloc (.cells ((Lib.splitB sep 0 (Lib.countB s sep) s).map Value.string).toArray 9) := Any.strings_Split Tryd.lays146 (by kernel_rfl) s sep m w hs hm h1
end Go.Proofs.YtgphlcdinejmdaaDoor

/- strings.Split at a space and strconv.Atoi, by the library's contracts. -/
namespace Go.Proofs.YtgphlcdinejmdaaDoor
set_option linter.unusedVariables false
set_option linter.unusedSimpArgs false
set_option maxRecDepth 20000
open Go.RowKit
theorem str_data (b : ByteArray) : str b.data.toList = b := by
  obtain ⟨⟨l⟩⟩ := b
  rfl
theorem map_str {L : List ByteArray} {M : List (List UInt8)} (h : L.map (·.data.toList) = M) : L = M.map str := by
  rw [← h, List.map_map]
  conv => lhs; rw [← List.map_id L]
  apply List.map_congr_left
  intro a _
  exact (str_data a).symm
theorem cV_strs : ∀ M : List (List UInt8), cV M = M.map fun l => Value.string (str l)
  | [] => rfl
  | a :: M => by rw [cV_cons, cV_strs M]; rfl
/-- The one argument. -/
theorem args1 {w : World} {ok : Nat → Prop} {x : Value} {vs : Array Value} (hsz : vs.size = [AV.g (.one (.v x))].length) (h : Args0 w ok [.g (.one (.v x))] vs) : vs = #[x] := by
  obtain ⟨z, hz, hr⟩ := h 0 _ rfl
  obtain ⟨xs⟩ := vs
  match xs, hsz with
  | [y], _ =>
    cases hz
    rw [show y = x from hr.1]
theorem args2 {w : World} {ok : Nat → Prop} {x x' : Value} {vs : Array Value} (hsz : vs.size = [AV.g (.one (.v x)), AV.g (.one (.v x'))].length) (h : Args0 w ok [.g (.one (.v x)), .g (.one (.v x'))] vs) : vs = #[x, x'] := by
  obtain ⟨z, hz, hr⟩ := h 0 _ rfl
  obtain ⟨z', hz', hr'⟩ := h 1 _ rfl
  obtain ⟨xs⟩ := vs
  match xs, hsz with
  | [y, y'], _ =>
    cases hz
    cases hz'
    rw [show y = x from hr.1, show y' = x' from hr'.1]
theorem alloc_new (w : World) (o : Obj) : (w.alloc o).heap[w.heap.size]? = some o := by
  show (w.heap.push o)[w.heap.size]? = _
  simp
theorem k_split (s : List UInt8) (hs : s.length ≤ 7000000) : Kon Tryd.prog 52 [vS s, vS [32]] [] (slA 0 0 (cutA 32 [] s)) [sRow (cutA 32 [] s)] [] := by
  refine kon_row (Go.Proofs.enters_of Tryd.func52 (by kernel_rfl) rfl) rfl ?_
  intro w ok vs hg hok hsz hargs
  obtain rfl := args2 hsz hargs
  obtain ⟨⟨m, hm⟩, _⟩ := hg
  have h1 : (str s).size = s.length := rfl
  have hK := Tryd.strings_Split (str s) (str [32]) m w (by rw [h1]; omega) hm (by decide)
  have e1 : (Go.Lib.splitB (str [32]) 0 (Go.Lib.countB (str s) (str [32])) (str s)) = (cutA 32 [] s).map str := by
    refine map_str ?_
    rw [Go.Lib.splitB_data]
    exact split_cut 32 s.length s (Nat.le_refl _)
  have e2 : Go.Lib.countB (str s) (str [32]) + 1 = (cutA 32 [] s).length := by
    have := Go.Lib.splitB_all (str [32]) (by decide) 0 _ (str s) rfl
    rw [e1, List.length_map] at this
    exact this.symm
  rw [e1, e2] at hK
  have hlen := cutA_len 32 s []
  refine hK.mono ?_
  rintro en W' ⟨rfl, rfl⟩
  refine ⟨_, rfl, ⟨cV_len _, .inr ⟨w.heap.size, (cutA 32 [] s).length, _, rfl, Nat.le_refl _, alloc_new w _, Nat.le_refl _, by unfold maxLen; omega, ?_, ?_⟩⟩, (Below.refl _ _).alloc (Nat.le_refl _) _⟩
  · simp [Cel.sz]
  · have e3 : (((cutA 32 [] s).map str).map Value.string).toArray.toList = cV (cutA 32 [] s) := by
      rw [cV_strs, List.map_map]; rfl
    rw [e3]
    exact List.take_of_length_le (Nat.le_of_eq (cV_len _))
abbrev tupI (n : Int) (e : AC) : AV := .tup [.one (.v (.int .i64 n)), .one e]
theorem k_atoiOk (s : List UInt8) (v : Int) (hs : s.length ≤ 7000000) (h : Go.Lib.atoiAll s = .ok v) : Kon Tryd.prog 34 [vS s] [] (tupI v (.v .nilIface)) [] [] := by
  refine kon_pure (Go.Proofs.enters_of Tryd.func34 (by kernel_rfl) rfl) rfl rfl ?_
  intro w ok vs hg hok hsz hargs
  obtain rfl := args1 hsz hargs
  have h1 : (str s).size = s.length := rfl
  refine (Tryd.strconv_Atoi_ok (str s) (by rw [h1]; omega) v h w).mono ?_
  rintro en W' ⟨rfl, hw⟩
  refine ⟨_, rfl, ?_, fun β G ok' => ⟨_, rfl, rfl, ?_⟩⟩
  · rcases hw with rfl | ⟨t, rfl⟩
    · exact Below.refl _ _
    · exact Go.Lib.bytesWorld_below _ _ _
  · intro j x hj
    rcases j with _ | _ | j
    · cases hj; exact ⟨_, rfl, rfl, rfl⟩
    · cases hj; exact ⟨_, rfl, rfl, rfl⟩
    · simp at hj
theorem k_atoiNo (s : List UInt8) (hs : s.length ≤ 7000000) (h : ∀ v, Go.Lib.atoiAll s ≠ .ok v) : ∃ n : Int, Kon Tryd.prog 34 [vS s] [] (tupI n .er) [] [] := by
  have h1 : (str s).size = s.length := rfl
  have fin : ∀ (w W' : World) (n : Int) (N : Nat) (t : TypeId) (en : Ending), en = .returned (.tuple #[.int .i64 n, .iface t (.pointer (some ⟨N, 0, none⟩))]) → Below w.heap.size w W' → ∃ v, en = .returned v ∧ Below w.heap.size w W' ∧ ∀ β G ok', (tupI n .er).rep W' β G ok' v := by
    rintro w W' n N t en rfl hB
    refine ⟨_, rfl, hB, fun β G ok' => ⟨_, rfl, rfl, ?_⟩⟩
    intro j x hj
    rcases j with _ | _ | j
    · cases hj; exact ⟨_, rfl, rfl, rfl⟩
    · cases hj; exact ⟨_, rfl, rfl, _, _, rfl⟩
    · simp at hj
  cases ha : Go.Lib.atoiAll s with
  | ok v => exact absurd ha (h v)
  | range =>
    refine ⟨Go.Lib.atoiSat s, kon_pure (Go.Proofs.enters_of Tryd.func34 (by kernel_rfl) rfl) rfl rfl ?_⟩
    intro w ok vs hg hok hsz hargs
    obtain rfl := args1 hsz hargs
    obtain ⟨_, _, ⟨t, p, hc⟩⟩ := hg
    refine (Tryd.strconv_Atoi_range (str s) (by rw [h1]; omega) ha _ w hc (.inr ⟨t, p, rfl⟩)).mono ?_
    rintro en W' ⟨N, he, _, _, hB⟩
    exact fin _ _ _ _ _ _ he hB
  | _ =>
    refine ⟨0, kon_pure (Go.Proofs.enters_of Tryd.func34 (by kernel_rfl) rfl) rfl rfl ?_⟩
    intro w ok vs hg hok hsz hargs
    obtain rfl := args1 hsz hargs
    obtain ⟨_, ⟨t, p, hc⟩, _⟩ := hg
    refine (Tryd.strconv_Atoi_syntax (str s) (by rw [h1]; omega) ha _ w hc (.inr ⟨t, p, rfl⟩)).mono ?_
    rintro en W' ⟨N, he, _, _, hB⟩
    exact fin _ _ _ _ _ _ he hB
end Go.Proofs.YtgphlcdinejmdaaDoor

/- ReadGate of the program. -/
namespace Go.Proofs.YtgphlcdinejmdaaDoor
set_option linter.unusedVariables false
set_option linter.unusedSimpArgs false
set_option maxRecDepth 20000
open Go.RowKit
open Go.Lib (decDigits)
abbrev natAll : Value := .agg #[.string ⟨#[110, 111, 116]⟩, .int .i64 1, .int .i64 1, .int .i64 1, .string ⟨#[99, 111, 112, 121]⟩, .int .i64 3, .int .i64 2, .int .i64 1, .string ⟨#[98, 111, 116, 104]⟩, .int .i64 7, .int .i64 4, .int .i64 5, .string ⟨#[115, 119, 97, 112]⟩, .int .i64 3, .int .i64 3, .int .i64 3, .string ⟨#[105, 102]⟩, .int .i64 7, .int .i64 6, .int .i64 7]
def nkL (k : Int) : Int := if k = 0 then 1 else if k = 1 then 3 else if k = 2 then 7 else if k = 3 then 3 else 7
def nkM (k : Int) : Int := if k = 0 then 1 else if k = 1 then 2 else if k = 2 then 4 else if k = 3 then 3 else 6
def nkC (k : Int) : Int := if k = 0 then 1 else if k = 1 then 1 else if k = 2 then 5 else if k = 3 then 3 else 7
abbrev nkV (k : Int) : Value := .agg #[.string (str (gnm k)), .int .i64 (nkL k), .int .i64 (nkM k), .int .i64 (nkC k)]
theorem nat_idx (j : Int) (h : 0 ≤ j ∧ j ≤ 4) (w : World) : (Instr.index 81 natAll (.int .i64 j)).run Tryd.prog w = .ok (nkV j) w := by
  have e0 : ∀ w, (Instr.index 81 natAll (.int .i64 0)).run Tryd.prog w = .ok (nkV 0) w := fun w => by kernel_rfl
  have e1 : ∀ w, (Instr.index 81 natAll (.int .i64 1)).run Tryd.prog w = .ok (nkV 1) w := fun w => by kernel_rfl
  have e2 : ∀ w, (Instr.index 81 natAll (.int .i64 2)).run Tryd.prog w = .ok (nkV 2) w := fun w => by kernel_rfl
  have e3 : ∀ w, (Instr.index 81 natAll (.int .i64 3)).run Tryd.prog w = .ok (nkV 3) w := fun w => by kernel_rfl
  have e4 : ∀ w, (Instr.index 81 natAll (.int .i64 4)).run Tryd.prog w = .ok (nkV 4) w := fun w => by kernel_rfl
  have h' : j = 0 ∨ j = 1 ∨ j = 2 ∨ j = 3 ∨ j = 4 := by omega
  rcases h' with rfl | rfl | rfl | rfl | rfl
  · exact e0 w
  · exact e1 w
  · exact e2 w
  · exact e3 w
  · exact e4 w
theorem k_natV : Kon Tryd.prog 53 [] [] (ofv natAll) [] [] := k_natures
section
variable {T : Tab} {cf : FuncId → Option (List AV → Option Tmp → AM)} {Fs : Nat → Ft} {i : Nat} {rest : List Oper} {S : St} {K : St → Prop} {ops : Array Oper} {d : Tmp} {x y : Operand} {ty : TypeId} {pos : String} {af : Array Edge} {g : Option (Nat × Bool)}
theorem r_natG {j : Int} (hx : rdV (Fs i) S x = some natAll) (hy : rdV (Fs i) S y = some (.int .i64 j)) (h : 0 ≤ j ∧ j ≤ 4) (hw : (Fs i).sw d = true)
    (k : runX Fs Tryd.prog T cf ops (i + 1) rest (S.put d (some (.g (.agg [.v (.string (str (gnm j))), .v (.int .i64 (nkL j)), .v (.int .i64 (nkM j)), .v (.int .i64 (nkC j))])))) K) : runA Fs Tryd.prog T cf ops i ⟨some d, .index 81 x y, ty, pos, af, g⟩ rest S K := r_index hx hy (r := nkV j) (fun w => nat_idx j h w) rfl hw k
end
attribute [local irreducible] runA runX AW
theorem gq_DI {H G : Prop} (k : H) (h : Hid H → G := by (intro hh; (first | (first | ((first | refine r_none ?_ | refine r_gt (by rfl) (by rfl) (by first | rfl | assumption | omega | (simp only [*, Bool.not_false, Bool.not_true]; first | done | fail) | (simp [*]; first | done | fail)) (by rfl) ?_ | refine r_gf (by rfl) (by rfl) (by first | rfl | assumption | omega | (simp only [*, Bool.not_false, Bool.not_true]; first | done | fail) | (simp [*]; first | done | fail)) (by rfl) ?_); (first | (first | refine r_natG (by rfl) (by rfl) (by omega) (by rfl) ?_ | refine r_buildSb (by rfl) (by rfl) (by rfl) (by rfl) (by rfl) (by rfl) (by rfl) (by rfl) (by rfl) (by rfl) (by rfl) (by rfl) (by rfl) ?_ | refine r_indexAddr_sb (by rfl) (by rfl) (by rfl) (by rfl) (by rfl) (by rfl) (by omega) ?_ | refine r_len_sb (by rfl) (by rfl) (by rfl) (by rfl) (by rfl) ?_ | refine r_slen (by rfl) Tryd.underlying9 (by rfl) ?_ | refine r_sidx (by rfl) (by rfl) Tryd.underlying9 (by omega) (by rfl) ?_ | refine r_b2i (by rfl) (fun w => by rfl) (by omega) (by rfl) ?_ | refine r_seq (by rfl) (by rfl) (by rfl) ?_ | refine r_sne (by rfl) (by rfl) (by rfl) ?_) | ((first | (refine z_op (by rfl) ?_; first | refine z_ok ?_ ?_ | refine z_ex ?_ (by first | exact ft_raw rfl rfl | ((first | refine ft_rp rfl rfl rfl ?_ | refine ft_row rfl rfl rfl ?_ | refine ft_rpF rfl rfl rfl ?_ | refine ft_rowF rfl rfl rfl ?_ | refine up_row rfl rfl ?_ | refine up_rowF rfl rfl rfl ?_ | refine ct_0 rfl ?_ | refine ct_r rfl rfl ?_ | refine ct_c rfl rfl rfl ?_ | refine cu_all rfl ?_ | refine cu_to rfl ?_ | refine cu_from rfl ?_ | refine cu_p rfl ?_ | fail); (first | omega | (simp only [List.length_append, List.length_replicate, List.length_cons, List.length_nil, List.length_set, List.length_take, List.length_drop, true_and]; omega))) | exact up_raw rfl | exact pk_t (by first | rfl | assumption | omega | (simp only [*, Bool.not_false, Bool.not_true]; first | done | fail) | (simp [*]; first | done | fail)) rfl | exact pk_f (by first | rfl | assumption | omega | (simp only [*, Bool.not_false, Bool.not_true]; first | done | fail) | (simp [*]; first | done | fail)) rfl | fail | exact rw_raw | exact pu_cv (fun w => rfl) (by omega) | exact pu_of (fun w => rfl) rfl | exact be_of (fun w => rfl) | exact nc_of (fun _ _ _ _ => rfl) rfl | exact bu_of (fun w => rfl) rfl | fail) ?_) | ((first | refine q_callE wsT wsZ (by rfl) ?_ | refine q_callVE wsT (by rfl) (by rfl) ?_); refine ⟨_, _, _, (by first | assumption), _, by rfl, ?_, ?_⟩)); focus (first | exact trivial | fail | exact rfl | (first | omega | (simp only [List.length_append, List.length_replicate, List.length_cons, List.length_nil, List.length_set, List.length_take, List.length_drop, true_and]; omega)) | exact cvB (fun w => rfl) | ((repeat' (first | exact rfl | exact cV_len _ | exact cV_ln rfl (by omega) | exact Cel.pos | omega | exact trivial | refine And.intro ?_ ?_)); done) | (simp [*]; done) | (simp; omega))) | fail)) | refine r_nt (by rfl) (by rfl) (by first | rfl | assumption | omega | (simp only [*, Bool.not_false, Bool.not_true]; first | done | fail) | (simp [*]; first | done | fail)) (by rfl) ?_ | refine r_nf (by rfl) (by rfl) (by first | rfl | assumption | omega | (simp only [*, Bool.not_false, Bool.not_true]; first | done | fail) | (simp [*]; first | done | fail)) (by rfl) ?_ | refine r_gu (by rfl) (by rfl) (by rfl) ?_ | refine r_nil ?_) | (first | refine aw_seq ?_ | refine aw_ct (by rfl) (by first | rfl | assumption | omega | (simp only [*, Bool.not_false, Bool.not_true]; first | done | fail) | (simp [*]; first | done | fail)) ?_ | refine aw_cf (by rfl) (by first | rfl | assumption | omega | (simp only [*, Bool.not_false, Bool.not_true]; first | done | fail) | (simp [*]; first | done | fail)) ?_ | refine aw_block ?_ | refine aw_region T0ok cfU_ok (by rfl) ?_ | refine aw_skip ?_ | refine aw_exit ?_ | refine ra_step ?_)); (repeat (first | (first | ((first | refine r_none ?_ | refine r_gt (by rfl) (by rfl) (by first | rfl | assumption | omega | (simp only [*, Bool.not_false, Bool.not_true]; first | done | fail) | (simp [*]; first | done | fail)) (by rfl) ?_ | refine r_gf (by rfl) (by rfl) (by first | rfl | assumption | omega | (simp only [*, Bool.not_false, Bool.not_true]; first | done | fail) | (simp [*]; first | done | fail)) (by rfl) ?_); (first | (first | refine r_natG (by rfl) (by rfl) (by omega) (by rfl) ?_ | refine r_buildSb (by rfl) (by rfl) (by rfl) (by rfl) (by rfl) (by rfl) (by rfl) (by rfl) (by rfl) (by rfl) (by rfl) (by rfl) (by rfl) ?_ | refine r_indexAddr_sb (by rfl) (by rfl) (by rfl) (by rfl) (by rfl) (by rfl) (by omega) ?_ | refine r_len_sb (by rfl) (by rfl) (by rfl) (by rfl) (by rfl) ?_ | refine r_slen (by rfl) Tryd.underlying9 (by rfl) ?_ | refine r_sidx (by rfl) (by rfl) Tryd.underlying9 (by omega) (by rfl) ?_ | refine r_b2i (by rfl) (fun w => by rfl) (by omega) (by rfl) ?_ | refine r_seq (by rfl) (by rfl) (by rfl) ?_ | refine r_sne (by rfl) (by rfl) (by rfl) ?_) | ((first | (refine z_op (by rfl) ?_; first | refine z_ok ?_ ?_ | refine z_ex ?_ (by first | exact ft_raw rfl rfl | ((first | refine ft_rp rfl rfl rfl ?_ | refine ft_row rfl rfl rfl ?_ | refine ft_rpF rfl rfl rfl ?_ | refine ft_rowF rfl rfl rfl ?_ | refine up_row rfl rfl ?_ | refine up_rowF rfl rfl rfl ?_ | refine ct_0 rfl ?_ | refine ct_r rfl rfl ?_ | refine ct_c rfl rfl rfl ?_ | refine cu_all rfl ?_ | refine cu_to rfl ?_ | refine cu_from rfl ?_ | refine cu_p rfl ?_ | fail); (first | omega | (simp only [List.length_append, List.length_replicate, List.length_cons, List.length_nil, List.length_set, List.length_take, List.length_drop, true_and]; omega))) | exact up_raw rfl | exact pk_t (by first | rfl | assumption | omega | (simp only [*, Bool.not_false, Bool.not_true]; first | done | fail) | (simp [*]; first | done | fail)) rfl | exact pk_f (by first | rfl | assumption | omega | (simp only [*, Bool.not_false, Bool.not_true]; first | done | fail) | (simp [*]; first | done | fail)) rfl | fail | exact rw_raw | exact pu_cv (fun w => rfl) (by omega) | exact pu_of (fun w => rfl) rfl | exact be_of (fun w => rfl) | exact nc_of (fun _ _ _ _ => rfl) rfl | exact bu_of (fun w => rfl) rfl | fail) ?_) | ((first | refine q_callE wsT wsZ (by rfl) ?_ | refine q_callVE wsT (by rfl) (by rfl) ?_); refine ⟨_, _, _, (by first | assumption), _, by rfl, ?_, ?_⟩)); focus (first | exact trivial | fail | exact rfl | (first | omega | (simp only [List.length_append, List.length_replicate, List.length_cons, List.length_nil, List.length_set, List.length_take, List.length_drop, true_and]; omega)) | exact cvB (fun w => rfl) | ((repeat' (first | exact rfl | exact cV_len _ | exact cV_ln rfl (by omega) | exact Cel.pos | omega | exact trivial | refine And.intro ?_ ?_)); done) | (simp [*]; done) | (simp; omega))) | fail)) | refine r_nt (by rfl) (by rfl) (by first | rfl | assumption | omega | (simp only [*, Bool.not_false, Bool.not_true]; first | done | fail) | (simp [*]; first | done | fail)) (by rfl) ?_ | refine r_nf (by rfl) (by rfl) (by first | rfl | assumption | omega | (simp only [*, Bool.not_false, Bool.not_true]; first | done | fail) | (simp [*]; first | done | fail)) (by rfl) ?_ | refine r_gu (by rfl) (by rfl) (by rfl) ?_ | refine r_nil ?_) | (first | refine aw_seq ?_ | refine aw_ct (by rfl) (by first | rfl | assumption | omega | (simp only [*, Bool.not_false, Bool.not_true]; first | done | fail) | (simp [*]; first | done | fail)) ?_ | refine aw_cf (by rfl) (by first | rfl | assumption | omega | (simp only [*, Bool.not_false, Bool.not_true]; first | done | fail) | (simp [*]; first | done | fail)) ?_ | refine aw_block ?_ | refine aw_region T0ok cfU_ok (by rfl) ?_ | refine aw_skip ?_ | refine aw_exit ?_ | refine ra_step ?_))); exact hh.out)) : G := h ⟨k⟩
theorem ga_DI {H G : Prop} (k : H) (h : Hid H → G := by (intro hh; (first | refine r_none ?_ | refine r_gt (by rfl) (by rfl) (by first | rfl | assumption | omega | (simp only [*, Bool.not_false, Bool.not_true]; first | done | fail) | (simp [*]; first | done | fail)) (by rfl) ?_ | refine r_gf (by rfl) (by rfl) (by first | rfl | assumption | omega | (simp only [*, Bool.not_false, Bool.not_true]; first | done | fail) | (simp [*]; first | done | fail)) (by rfl) ?_); refine z_op (by rfl) ?_; refine z_alV ?_ hh.out; focus (first | exact trivial | fail | exact rfl | (first | omega | (simp only [List.length_append, List.length_replicate, List.length_cons, List.length_nil, List.length_set, List.length_take, List.length_drop, true_and]; omega)) | exact cvB (fun w => rfl) | ((repeat' (first | exact rfl | exact cV_len _ | exact cV_ln rfl (by omega) | exact Cel.pos | omega | exact trivial | refine And.intro ?_ ?_)); done) | (simp [*]; done) | (simp; omega)))) : G := h ⟨k⟩
theorem gd_DI {H G : Prop} (k : H) (h : Hid H → G := by (intro hh; (refine aw_draw mixed T0ok cfU_ok [] (by rfl) (by kernel_rfl) ?_); exact hh.out)) : G := h ⟨k⟩
theorem wdO_y {ws : List (List UInt8)} {m : Nat} (h1 : m < ws.length) (h2 : (ws.getD m []).length = 1) : wdO ws m = (((ws.getD m []).getD 0 0).toNat : Int) - 48 := by unfold wdO; rw [if_pos ⟨h1, h2⟩]
theorem wdO_n {ws : List (List UInt8)} {m : Nat} (h2 : (ws.getD m []).length ≠ 1) : wdO ws m = 0 := by unfold wdO; rw [if_neg (fun h => h2 h.2)]
/-- What the inner loop has found so far. -/
def At (ws : List (List UInt8)) (m i : Nat) : Int := if m ≤ i then wdO ws m else 0
set_option maxHeartbeats 8000000 in
theorem k_rgI0 (s : List UInt8) (hs : s.length ≤ 7000000) (hno : ∀ (j : Nat) (a b c : Int), gnm (j : Int) = (cutA 32 [] s).getD 0 [] → (gtx ⟨(j : Int), a, b, c⟩ == s) = false) : Kon Tryd.prog 35 [vS s] [] (tupG g0 false) [] [] := by
  have hS := k_split s hs
  have hN := k_natV
  have hw := (cutA_len 32 s []).1
  generalize cutA 32 [] s = ws at *
  (refine kon_mk T0ok (fn := Tryd.f35) (c := Tryd.f35.body.get rfl) Tryd.func35 rfl (by rfl) (by rfl) (by rfl) ?_; intro hfit hfe)
  (repeat (first | refine gq_DI ?_ | (refine ga_DI ?_; intro _hq) | refine gd_DI ?_))
  (refine aw_rd [0, 2, 4, 12] [32, 176] (fun j : Nat => [(13, vI j)]) (fun _ => []) (fun j => j ≤ 5) (fun j => 5 - j) 0 (by rfl) (by rfl) ?_ (by rfl) (by repeat (first | exact trivial | refine ⟨by rfl, ?_⟩ | refine ⟨vI_of (by rfl) (by omega), ?_⟩)) (by repeat (first | exact trivial | refine ⟨by rfl, ?_⟩ | refine ⟨vI_of (by rfl) (by omega), ?_⟩)) ?_)
  · exact Nat.zero_le _
  rintro j hj
  rcases Nat.lt_or_ge j 5 with h1 | h1
  · have hd : decide ((j : Int) < 5) = true := decide_eq_true (by omega)
    have hinv5 : j + 1 ≤ 5 := h1
    cases hb : (gnm (j : Int) == ws.getD (0 : Int).toNat Cel.no) with
    | false =>
      have hb2 : (!(gnm (j : Int) == ws.getD (0 : Int).toNat Cel.no)) = true := by rw [hb]; rfl
      (repeat (first | refine gq_DI ?_ | (refine ga_DI ?_; intro _hq) | refine gd_DI ?_))
      exact ⟨j + 1, hinv5, ⟨by rfl, (by repeat (first | exact trivial | refine ⟨by rfl, ?_⟩ | refine ⟨vI_of (by rfl) (by omega), ?_⟩)), (by repeat (first | exact trivial | refine ⟨by rfl, ?_⟩ | refine ⟨vI_of (by rfl) (by omega), ?_⟩))⟩, (by first | omega | (dsimp only; omega))⟩
    | true =>
      have hb2 : (!(gnm (j : Int) == ws.getD (0 : Int).toNat Cel.no)) = false := by rw [hb]; rfl
      (repeat (first | refine gq_DI ?_ | (refine ga_DI ?_; intro _hq) | refine gd_DI ?_))
      (refine aw_rd [0, 2, 4, 5, 7, 12, 13, 28, 29] [32, 176, 448] (fun g : Nat × Int × Int × Int => [(30, vI g.1)]) (fun g => [(112, (0, .box (gCs ⟨(j : Int), g.2.1, g.2.2.1, g.2.2.2⟩)))]) (fun g => g.1 ≤ 3 ∧ g.2.1 = At ws 1 g.1 ∧ g.2.2.1 = At ws 2 g.1 ∧ g.2.2.2 = At ws 3 g.1) (fun g => 3 - g.1) (0, 0, 0, 0) (by rfl) (by rfl) ?_ (by rfl) (by repeat (first | exact trivial | refine ⟨by rfl, ?_⟩ | refine ⟨vI_of (by rfl) (by omega), ?_⟩)) (by repeat (first | exact trivial | refine ⟨by rfl, ?_⟩ | refine ⟨vI_of (by rfl) (by omega), ?_⟩)) ?_)
      · exact ⟨Nat.zero_le _, rfl, rfl, rfl⟩
      rintro ⟨i, a, b, c⟩ ⟨hi, ea, eb, ec⟩
      dsimp only at hi ea eb ec ⊢
      have hi' : i = 0 ∨ i = 1 ∨ i = 2 ∨ i = 3 := by omega
      rcases hi' with rfl | rfl | rfl | rfl
      · have hg : decide (((0 : Nat) : Int) < ((3 : Nat) : Int)) = true := by decide
        rcases Nat.lt_or_ge 1 ws.length with l1 | l1
        · have dl : decide (((0 : Nat) : Int) + 1 < (ws.length : Int)) = true := decide_eq_true (by omega)
          by_cases l2 : (ws.getD 1 []).length = 1
          · have d2 : (((ws.getD (((0 : Nat) : Int) + 1).toNat Cel.no).length : Int) == 1) = true := by rw [show (ws.getD (((0 : Nat) : Int) + 1).toNat Cel.no).length = 1 from l2]; rfl
            have l3 : 0 < (ws.getD (((0 : Nat) : Int) + 1).toNat Cel.no).length := by rw [show (ws.getD (((0 : Nat) : Int) + 1).toNat Cel.no).length = 1 from l2]; decide
            have hle := ((ws.getD (((0 : Nat) : Int) + 1).toNat Cel.no).getD (0 : Int).toNat 0).toNat_lt
            have hinv : 1 ≤ 3 ∧ ((((ws.getD 1 []).getD 0 0).toNat : Int) - 48) = At ws 1 1 ∧ b = At ws 2 1 ∧ c = At ws 3 1 := ⟨by decide, (wdO_y l1 l2).symm, eb, ec⟩
            (repeat (first | refine gq_DI ?_ | (refine ga_DI ?_; intro _hq) | refine gd_DI ?_))
            exact ⟨(1, ((((ws.getD 1 []).getD 0 0).toNat : Int) - 48), b, c), hinv, ⟨by rfl, (by repeat (first | exact trivial | refine ⟨by rfl, ?_⟩ | refine ⟨vI_of (by rfl) (by omega), ?_⟩)), (by repeat (first | exact trivial | refine ⟨by rfl, ?_⟩ | refine ⟨vI_of (by rfl) (by omega), ?_⟩))⟩, (by first | omega | (dsimp only; omega))⟩
          · have d2 : (((ws.getD (((0 : Nat) : Int) + 1).toNat Cel.no).length : Int) == 1) = false := by rw [beq_eq_false_iff_ne]; intro h; exact l2 (by have : ((ws.getD 1 []).length : Int) = 1 := h; omega)
            have hinv : 1 ≤ 3 ∧ a = At ws 1 1 ∧ b = At ws 2 1 ∧ c = At ws 3 1 := ⟨by decide, (show a = wdO ws 1 from ea.trans (wdO_n l2).symm), eb, ec⟩
            (repeat (first | refine gq_DI ?_ | (refine ga_DI ?_; intro _hq) | refine gd_DI ?_))
            exact ⟨(1, a, b, c), hinv, ⟨by rfl, (by repeat (first | exact trivial | refine ⟨by rfl, ?_⟩ | refine ⟨vI_of (by rfl) (by omega), ?_⟩)), (by repeat (first | exact trivial | refine ⟨by rfl, ?_⟩ | refine ⟨vI_of (by rfl) (by omega), ?_⟩))⟩, (by first | omega | (dsimp only; omega))⟩
        · have dl : decide (((0 : Nat) : Int) + 1 < (ws.length : Int)) = false := decide_eq_false (by omega)
          have hinv : 1 ≤ 3 ∧ a = At ws 1 1 ∧ b = At ws 2 1 ∧ c = At ws 3 1 := ⟨by decide, (show a = wdO ws 1 from ea.trans (wdO_no l1).symm), eb, ec⟩
          (repeat (first | refine gq_DI ?_ | (refine ga_DI ?_; intro _hq) | refine gd_DI ?_))
          exact ⟨(1, a, b, c), hinv, ⟨by rfl, (by repeat (first | exact trivial | refine ⟨by rfl, ?_⟩ | refine ⟨vI_of (by rfl) (by omega), ?_⟩)), (by repeat (first | exact trivial | refine ⟨by rfl, ?_⟩ | refine ⟨vI_of (by rfl) (by omega), ?_⟩))⟩, (by first | omega | (dsimp only; omega))⟩
      · have hg : decide (((1 : Nat) : Int) < ((3 : Nat) : Int)) = true := by decide
        rcases Nat.lt_or_ge 2 ws.length with l1 | l1
        · have dl : decide (((1 : Nat) : Int) + 1 < (ws.length : Int)) = true := decide_eq_true (by omega)
          by_cases l2 : (ws.getD 2 []).length = 1
          · have d2 : (((ws.getD (((1 : Nat) : Int) + 1).toNat Cel.no).length : Int) == 1) = true := by rw [show (ws.getD (((1 : Nat) : Int) + 1).toNat Cel.no).length = 1 from l2]; rfl
            have l3 : 0 < (ws.getD (((1 : Nat) : Int) + 1).toNat Cel.no).length := by rw [show (ws.getD (((1 : Nat) : Int) + 1).toNat Cel.no).length = 1 from l2]; decide
            have hle := ((ws.getD (((1 : Nat) : Int) + 1).toNat Cel.no).getD (0 : Int).toNat 0).toNat_lt
            have hinv : 2 ≤ 3 ∧ a = At ws 1 2 ∧ ((((ws.getD 2 []).getD 0 0).toNat : Int) - 48) = At ws 2 2 ∧ c = At ws 3 2 := ⟨by decide, ea, (wdO_y l1 l2).symm, ec⟩
            (repeat (first | refine gq_DI ?_ | (refine ga_DI ?_; intro _hq) | refine gd_DI ?_))
            exact ⟨(2, a, ((((ws.getD 2 []).getD 0 0).toNat : Int) - 48), c), hinv, ⟨by rfl, (by repeat (first | exact trivial | refine ⟨by rfl, ?_⟩ | refine ⟨vI_of (by rfl) (by omega), ?_⟩)), (by repeat (first | exact trivial | refine ⟨by rfl, ?_⟩ | refine ⟨vI_of (by rfl) (by omega), ?_⟩))⟩, (by first | omega | (dsimp only; omega))⟩
          · have d2 : (((ws.getD (((1 : Nat) : Int) + 1).toNat Cel.no).length : Int) == 1) = false := by rw [beq_eq_false_iff_ne]; intro h; exact l2 (by have : ((ws.getD 2 []).length : Int) = 1 := h; omega)
            have hinv : 2 ≤ 3 ∧ a = At ws 1 2 ∧ b = At ws 2 2 ∧ c = At ws 3 2 := ⟨by decide, ea, (show b = wdO ws 2 from eb.trans (wdO_n l2).symm), ec⟩
            (repeat (first | refine gq_DI ?_ | (refine ga_DI ?_; intro _hq) | refine gd_DI ?_))
            exact ⟨(2, a, b, c), hinv, ⟨by rfl, (by repeat (first | exact trivial | refine ⟨by rfl, ?_⟩ | refine ⟨vI_of (by rfl) (by omega), ?_⟩)), (by repeat (first | exact trivial | refine ⟨by rfl, ?_⟩ | refine ⟨vI_of (by rfl) (by omega), ?_⟩))⟩, (by first | omega | (dsimp only; omega))⟩
        · have dl : decide (((1 : Nat) : Int) + 1 < (ws.length : Int)) = false := decide_eq_false (by omega)
          have hinv : 2 ≤ 3 ∧ a = At ws 1 2 ∧ b = At ws 2 2 ∧ c = At ws 3 2 := ⟨by decide, ea, (show b = wdO ws 2 from eb.trans (wdO_no l1).symm), ec⟩
          (repeat (first | refine gq_DI ?_ | (refine ga_DI ?_; intro _hq) | refine gd_DI ?_))
          exact ⟨(2, a, b, c), hinv, ⟨by rfl, (by repeat (first | exact trivial | refine ⟨by rfl, ?_⟩ | refine ⟨vI_of (by rfl) (by omega), ?_⟩)), (by repeat (first | exact trivial | refine ⟨by rfl, ?_⟩ | refine ⟨vI_of (by rfl) (by omega), ?_⟩))⟩, (by first | omega | (dsimp only; omega))⟩
      · have hg : decide (((2 : Nat) : Int) < ((3 : Nat) : Int)) = true := by decide
        rcases Nat.lt_or_ge 3 ws.length with l1 | l1
        · have dl : decide (((2 : Nat) : Int) + 1 < (ws.length : Int)) = true := decide_eq_true (by omega)
          by_cases l2 : (ws.getD 3 []).length = 1
          · have d2 : (((ws.getD (((2 : Nat) : Int) + 1).toNat Cel.no).length : Int) == 1) = true := by rw [show (ws.getD (((2 : Nat) : Int) + 1).toNat Cel.no).length = 1 from l2]; rfl
            have l3 : 0 < (ws.getD (((2 : Nat) : Int) + 1).toNat Cel.no).length := by rw [show (ws.getD (((2 : Nat) : Int) + 1).toNat Cel.no).length = 1 from l2]; decide
            have hle := ((ws.getD (((2 : Nat) : Int) + 1).toNat Cel.no).getD (0 : Int).toNat 0).toNat_lt
            have hinv : 3 ≤ 3 ∧ a = At ws 1 3 ∧ b = At ws 2 3 ∧ ((((ws.getD 3 []).getD 0 0).toNat : Int) - 48) = At ws 3 3 := ⟨by decide, ea, eb, (wdO_y l1 l2).symm⟩
            (repeat (first | refine gq_DI ?_ | (refine ga_DI ?_; intro _hq) | refine gd_DI ?_))
            exact ⟨(3, a, b, ((((ws.getD 3 []).getD 0 0).toNat : Int) - 48)), hinv, ⟨by rfl, (by repeat (first | exact trivial | refine ⟨by rfl, ?_⟩ | refine ⟨vI_of (by rfl) (by omega), ?_⟩)), (by repeat (first | exact trivial | refine ⟨by rfl, ?_⟩ | refine ⟨vI_of (by rfl) (by omega), ?_⟩))⟩, (by first | omega | (dsimp only; omega))⟩
          · have d2 : (((ws.getD (((2 : Nat) : Int) + 1).toNat Cel.no).length : Int) == 1) = false := by rw [beq_eq_false_iff_ne]; intro h; exact l2 (by have : ((ws.getD 3 []).length : Int) = 1 := h; omega)
            have hinv : 3 ≤ 3 ∧ a = At ws 1 3 ∧ b = At ws 2 3 ∧ c = At ws 3 3 := ⟨by decide, ea, eb, (show c = wdO ws 3 from ec.trans (wdO_n l2).symm)⟩
            (repeat (first | refine gq_DI ?_ | (refine ga_DI ?_; intro _hq) | refine gd_DI ?_))
            exact ⟨(3, a, b, c), hinv, ⟨by rfl, (by repeat (first | exact trivial | refine ⟨by rfl, ?_⟩ | refine ⟨vI_of (by rfl) (by omega), ?_⟩)), (by repeat (first | exact trivial | refine ⟨by rfl, ?_⟩ | refine ⟨vI_of (by rfl) (by omega), ?_⟩))⟩, (by first | omega | (dsimp only; omega))⟩
        · have dl : decide (((2 : Nat) : Int) + 1 < (ws.length : Int)) = false := decide_eq_false (by omega)
          have hinv : 3 ≤ 3 ∧ a = At ws 1 3 ∧ b = At ws 2 3 ∧ c = At ws 3 3 := ⟨by decide, ea, eb, (show c = wdO ws 3 from ec.trans (wdO_no l1).symm)⟩
          (repeat (first | refine gq_DI ?_ | (refine ga_DI ?_; intro _hq) | refine gd_DI ?_))
          exact ⟨(3, a, b, c), hinv, ⟨by rfl, (by repeat (first | exact trivial | refine ⟨by rfl, ?_⟩ | refine ⟨vI_of (by rfl) (by omega), ?_⟩)), (by repeat (first | exact trivial | refine ⟨by rfl, ?_⟩ | refine ⟨vI_of (by rfl) (by omega), ?_⟩))⟩, (by first | omega | (dsimp only; omega))⟩
      · have hg : decide (((3 : Nat) : Int) < ((3 : Nat) : Int)) = false := by decide
        replace ea : a = wdO ws 1 := ea
        replace eb : b = wdO ws 2 := eb
        replace ec : c = wdO ws 3 := ec
        have hG := k_gtI ⟨(j : Int), a, b, c⟩
        have ht := hno j a b c (eq_of_beq hb)
        (repeat (first | refine gq_DI ?_ | (refine ga_DI ?_; intro _hq) | refine gd_DI ?_))
        exact ⟨j + 1, hinv5, ⟨by rfl, (by repeat (first | exact trivial | refine ⟨by rfl, ?_⟩ | refine ⟨vI_of (by rfl) (by omega), ?_⟩)), (by repeat (first | exact trivial | refine ⟨by rfl, ?_⟩ | refine ⟨vI_of (by rfl) (by omega), ?_⟩))⟩, (by first | omega | (dsimp only; omega))⟩
  · obtain rfl : j = 5 := by omega
    have hd : decide (((5 : Nat) : Int) < 5) = false := by decide
    (repeat (first | refine gq_DI ?_ | (refine ga_DI ?_; intro _hq) | refine gd_DI ?_))
    ((try refine aw_ret ?_); refine ret_auto2 (by rfl) (by rfl) (by rfl) (by repeat (first | exact trivial | refine ⟨by first | rfl | omega, ?_⟩)) ?_ (by repeat (first | exact trivial | refine ⟨by rfl, by rfl, ?_⟩)) (by repeat (first | exact trivial | refine ⟨by rfl, by rfl, ?_⟩)); try rfl)
set_option maxHeartbeats 8000000 in
theorem k_rgI1 (s : List UInt8) (hs : s.length ≤ 7000000) (kk : Nat) (hk : kk ≤ 4) (hm : (cutA 32 [] s).getD 0 [] = gnm (kk : Int)) (ht : (gtx (rdI (kk : Int) s) == s) = true) : Kon Tryd.prog 35 [vS s] [] (tupG (rdI (kk : Int) s) true) [] [] := by
  have hS := k_split s hs
  have hN := k_natV
  have hw := (cutA_len 32 s []).1
  unfold rdI at ht ⊢
  generalize cutA 32 [] s = ws at *
  have hG := k_gtI ⟨(kk : Int), wdO ws 1, wdO ws 2, wdO ws 3⟩
  (refine kon_mk T0ok (fn := Tryd.f35) (c := Tryd.f35.body.get rfl) Tryd.func35 rfl (by rfl) (by rfl) (by rfl) ?_; intro hfit hfe)
  (repeat (first | refine gq_DI ?_ | (refine ga_DI ?_; intro _hq) | refine gd_DI ?_))
  (refine aw_rd [0, 2, 4, 12] [32, 176] (fun j : Nat => [(13, vI j)]) (fun _ => []) (fun j => j ≤ kk) (fun j => 5 - j) 0 (by rfl) (by rfl) ?_ (by rfl) (by repeat (first | exact trivial | refine ⟨by rfl, ?_⟩ | refine ⟨vI_of (by rfl) (by omega), ?_⟩)) (by repeat (first | exact trivial | refine ⟨by rfl, ?_⟩ | refine ⟨vI_of (by rfl) (by omega), ?_⟩)) ?_)
  · exact Nat.zero_le _
  rintro j hj
  have hd : decide ((j : Int) < 5) = true := decide_eq_true (by omega)
  rcases Nat.lt_or_ge j kk with h1 | h1
  · have hb2 : (!(gnm (j : Int) == ws.getD (0 : Int).toNat Cel.no)) = true := by
      rw [Bool.not_eq_true', beq_eq_false_iff_ne]
      intro h
      have h2 := gnm_inj (by omega) (by omega) (h.trans hm)
      omega
    (repeat (first | refine gq_DI ?_ | (refine ga_DI ?_; intro _hq) | refine gd_DI ?_))
    exact ⟨j + 1, h1, ⟨by rfl, (by repeat (first | exact trivial | refine ⟨by rfl, ?_⟩ | refine ⟨vI_of (by rfl) (by omega), ?_⟩)), (by repeat (first | exact trivial | refine ⟨by rfl, ?_⟩ | refine ⟨vI_of (by rfl) (by omega), ?_⟩))⟩, (by dsimp only; omega)⟩
  · obtain rfl : j = kk := by omega
    have hb2 : (!(gnm (j : Int) == ws.getD (0 : Int).toNat Cel.no)) = false := by
      rw [Bool.not_eq_false', beq_iff_eq]
      exact hm.symm
    (repeat (first | refine gq_DI ?_ | (refine ga_DI ?_; intro _hq) | refine gd_DI ?_))
    (refine aw_rd [0, 2, 4, 5, 7, 12, 13, 28, 29] [32, 176, 448] (fun g : Nat × Int × Int × Int => [(30, vI g.1)]) (fun g => [(112, (0, .box (gCs ⟨(j : Int), g.2.1, g.2.2.1, g.2.2.2⟩)))]) (fun g => g.1 ≤ 3 ∧ g.2.1 = At ws 1 g.1 ∧ g.2.2.1 = At ws 2 g.1 ∧ g.2.2.2 = At ws 3 g.1) (fun g => 3 - g.1) (0, 0, 0, 0) (by rfl) (by rfl) ?_ (by rfl) (by repeat (first | exact trivial | refine ⟨by rfl, ?_⟩ | refine ⟨vI_of (by rfl) (by omega), ?_⟩)) (by repeat (first | exact trivial | refine ⟨by rfl, ?_⟩ | refine ⟨vI_of (by rfl) (by omega), ?_⟩)) ?_)
    · exact ⟨Nat.zero_le _, rfl, rfl, rfl⟩
    rintro ⟨i, a, b, c⟩ ⟨hi, ea, eb, ec⟩
    dsimp only at hi ea eb ec ⊢
    have hi' : i = 0 ∨ i = 1 ∨ i = 2 ∨ i = 3 := by omega
    rcases hi' with rfl | rfl | rfl | rfl
    · have hg : decide (((0 : Nat) : Int) < ((3 : Nat) : Int)) = true := by decide
      rcases Nat.lt_or_ge 1 ws.length with l1 | l1
      · have dl : decide (((0 : Nat) : Int) + 1 < (ws.length : Int)) = true := decide_eq_true (by omega)
        by_cases l2 : (ws.getD 1 []).length = 1
        · have d2 : (((ws.getD (((0 : Nat) : Int) + 1).toNat Cel.no).length : Int) == 1) = true := by rw [show (ws.getD (((0 : Nat) : Int) + 1).toNat Cel.no).length = 1 from l2]; rfl
          have l3 : 0 < (ws.getD (((0 : Nat) : Int) + 1).toNat Cel.no).length := by rw [show (ws.getD (((0 : Nat) : Int) + 1).toNat Cel.no).length = 1 from l2]; decide
          have hle := ((ws.getD (((0 : Nat) : Int) + 1).toNat Cel.no).getD (0 : Int).toNat 0).toNat_lt
          have hinv : 1 ≤ 3 ∧ ((((ws.getD 1 []).getD 0 0).toNat : Int) - 48) = At ws 1 1 ∧ b = At ws 2 1 ∧ c = At ws 3 1 := ⟨by decide, (wdO_y l1 l2).symm, eb, ec⟩
          (repeat (first | refine gq_DI ?_ | (refine ga_DI ?_; intro _hq) | refine gd_DI ?_))
          exact ⟨(1, ((((ws.getD 1 []).getD 0 0).toNat : Int) - 48), b, c), hinv, ⟨by rfl, (by repeat (first | exact trivial | refine ⟨by rfl, ?_⟩ | refine ⟨vI_of (by rfl) (by omega), ?_⟩)), (by repeat (first | exact trivial | refine ⟨by rfl, ?_⟩ | refine ⟨vI_of (by rfl) (by omega), ?_⟩))⟩, (by first | omega | (dsimp only; omega))⟩
        · have d2 : (((ws.getD (((0 : Nat) : Int) + 1).toNat Cel.no).length : Int) == 1) = false := by rw [beq_eq_false_iff_ne]; intro h; exact l2 (by have : ((ws.getD 1 []).length : Int) = 1 := h; omega)
          have hinv : 1 ≤ 3 ∧ a = At ws 1 1 ∧ b = At ws 2 1 ∧ c = At ws 3 1 := ⟨by decide, (show a = wdO ws 1 from ea.trans (wdO_n l2).symm), eb, ec⟩
          (repeat (first | refine gq_DI ?_ | (refine ga_DI ?_; intro _hq) | refine gd_DI ?_))
          exact ⟨(1, a, b, c), hinv, ⟨by rfl, (by repeat (first | exact trivial | refine ⟨by rfl, ?_⟩ | refine ⟨vI_of (by rfl) (by omega), ?_⟩)), (by repeat (first | exact trivial | refine ⟨by rfl, ?_⟩ | refine ⟨vI_of (by rfl) (by omega), ?_⟩))⟩, (by first | omega | (dsimp only; omega))⟩
      · have dl : decide (((0 : Nat) : Int) + 1 < (ws.length : Int)) = false := decide_eq_false (by omega)
        have hinv : 1 ≤ 3 ∧ a = At ws 1 1 ∧ b = At ws 2 1 ∧ c = At ws 3 1 := ⟨by decide, (show a = wdO ws 1 from ea.trans (wdO_no l1).symm), eb, ec⟩
        (repeat (first | refine gq_DI ?_ | (refine ga_DI ?_; intro _hq) | refine gd_DI ?_))
        exact ⟨(1, a, b, c), hinv, ⟨by rfl, (by repeat (first | exact trivial | refine ⟨by rfl, ?_⟩ | refine ⟨vI_of (by rfl) (by omega), ?_⟩)), (by repeat (first | exact trivial | refine ⟨by rfl, ?_⟩ | refine ⟨vI_of (by rfl) (by omega), ?_⟩))⟩, (by first | omega | (dsimp only; omega))⟩
    · have hg : decide (((1 : Nat) : Int) < ((3 : Nat) : Int)) = true := by decide
      rcases Nat.lt_or_ge 2 ws.length with l1 | l1
      · have dl : decide (((1 : Nat) : Int) + 1 < (ws.length : Int)) = true := decide_eq_true (by omega)
        by_cases l2 : (ws.getD 2 []).length = 1
        · have d2 : (((ws.getD (((1 : Nat) : Int) + 1).toNat Cel.no).length : Int) == 1) = true := by rw [show (ws.getD (((1 : Nat) : Int) + 1).toNat Cel.no).length = 1 from l2]; rfl
          have l3 : 0 < (ws.getD (((1 : Nat) : Int) + 1).toNat Cel.no).length := by rw [show (ws.getD (((1 : Nat) : Int) + 1).toNat Cel.no).length = 1 from l2]; decide
          have hle := ((ws.getD (((1 : Nat) : Int) + 1).toNat Cel.no).getD (0 : Int).toNat 0).toNat_lt
          have hinv : 2 ≤ 3 ∧ a = At ws 1 2 ∧ ((((ws.getD 2 []).getD 0 0).toNat : Int) - 48) = At ws 2 2 ∧ c = At ws 3 2 := ⟨by decide, ea, (wdO_y l1 l2).symm, ec⟩
          (repeat (first | refine gq_DI ?_ | (refine ga_DI ?_; intro _hq) | refine gd_DI ?_))
          exact ⟨(2, a, ((((ws.getD 2 []).getD 0 0).toNat : Int) - 48), c), hinv, ⟨by rfl, (by repeat (first | exact trivial | refine ⟨by rfl, ?_⟩ | refine ⟨vI_of (by rfl) (by omega), ?_⟩)), (by repeat (first | exact trivial | refine ⟨by rfl, ?_⟩ | refine ⟨vI_of (by rfl) (by omega), ?_⟩))⟩, (by first | omega | (dsimp only; omega))⟩
        · have d2 : (((ws.getD (((1 : Nat) : Int) + 1).toNat Cel.no).length : Int) == 1) = false := by rw [beq_eq_false_iff_ne]; intro h; exact l2 (by have : ((ws.getD 2 []).length : Int) = 1 := h; omega)
          have hinv : 2 ≤ 3 ∧ a = At ws 1 2 ∧ b = At ws 2 2 ∧ c = At ws 3 2 := ⟨by decide, ea, (show b = wdO ws 2 from eb.trans (wdO_n l2).symm), ec⟩
          (repeat (first | refine gq_DI ?_ | (refine ga_DI ?_; intro _hq) | refine gd_DI ?_))
          exact ⟨(2, a, b, c), hinv, ⟨by rfl, (by repeat (first | exact trivial | refine ⟨by rfl, ?_⟩ | refine ⟨vI_of (by rfl) (by omega), ?_⟩)), (by repeat (first | exact trivial | refine ⟨by rfl, ?_⟩ | refine ⟨vI_of (by rfl) (by omega), ?_⟩))⟩, (by first | omega | (dsimp only; omega))⟩
      · have dl : decide (((1 : Nat) : Int) + 1 < (ws.length : Int)) = false := decide_eq_false (by omega)
        have hinv : 2 ≤ 3 ∧ a = At ws 1 2 ∧ b = At ws 2 2 ∧ c = At ws 3 2 := ⟨by decide, ea, (show b = wdO ws 2 from eb.trans (wdO_no l1).symm), ec⟩
        (repeat (first | refine gq_DI ?_ | (refine ga_DI ?_; intro _hq) | refine gd_DI ?_))
        exact ⟨(2, a, b, c), hinv, ⟨by rfl, (by repeat (first | exact trivial | refine ⟨by rfl, ?_⟩ | refine ⟨vI_of (by rfl) (by omega), ?_⟩)), (by repeat (first | exact trivial | refine ⟨by rfl, ?_⟩ | refine ⟨vI_of (by rfl) (by omega), ?_⟩))⟩, (by first | omega | (dsimp only; omega))⟩
    · have hg : decide (((2 : Nat) : Int) < ((3 : Nat) : Int)) = true := by decide
      rcases Nat.lt_or_ge 3 ws.length with l1 | l1
      · have dl : decide (((2 : Nat) : Int) + 1 < (ws.length : Int)) = true := decide_eq_true (by omega)
        by_cases l2 : (ws.getD 3 []).length = 1
        · have d2 : (((ws.getD (((2 : Nat) : Int) + 1).toNat Cel.no).length : Int) == 1) = true := by rw [show (ws.getD (((2 : Nat) : Int) + 1).toNat Cel.no).length = 1 from l2]; rfl
          have l3 : 0 < (ws.getD (((2 : Nat) : Int) + 1).toNat Cel.no).length := by rw [show (ws.getD (((2 : Nat) : Int) + 1).toNat Cel.no).length = 1 from l2]; decide
          have hle := ((ws.getD (((2 : Nat) : Int) + 1).toNat Cel.no).getD (0 : Int).toNat 0).toNat_lt
          have hinv : 3 ≤ 3 ∧ a = At ws 1 3 ∧ b = At ws 2 3 ∧ ((((ws.getD 3 []).getD 0 0).toNat : Int) - 48) = At ws 3 3 := ⟨by decide, ea, eb, (wdO_y l1 l2).symm⟩
          (repeat (first | refine gq_DI ?_ | (refine ga_DI ?_; intro _hq) | refine gd_DI ?_))
          exact ⟨(3, a, b, ((((ws.getD 3 []).getD 0 0).toNat : Int) - 48)), hinv, ⟨by rfl, (by repeat (first | exact trivial | refine ⟨by rfl, ?_⟩ | refine ⟨vI_of (by rfl) (by omega), ?_⟩)), (by repeat (first | exact trivial | refine ⟨by rfl, ?_⟩ | refine ⟨vI_of (by rfl) (by omega), ?_⟩))⟩, (by first | omega | (dsimp only; omega))⟩
        · have d2 : (((ws.getD (((2 : Nat) : Int) + 1).toNat Cel.no).length : Int) == 1) = false := by rw [beq_eq_false_iff_ne]; intro h; exact l2 (by have : ((ws.getD 3 []).length : Int) = 1 := h; omega)
          have hinv : 3 ≤ 3 ∧ a = At ws 1 3 ∧ b = At ws 2 3 ∧ c = At ws 3 3 := ⟨by decide, ea, eb, (show c = wdO ws 3 from ec.trans (wdO_n l2).symm)⟩
          (repeat (first | refine gq_DI ?_ | (refine ga_DI ?_; intro _hq) | refine gd_DI ?_))
          exact ⟨(3, a, b, c), hinv, ⟨by rfl, (by repeat (first | exact trivial | refine ⟨by rfl, ?_⟩ | refine ⟨vI_of (by rfl) (by omega), ?_⟩)), (by repeat (first | exact trivial | refine ⟨by rfl, ?_⟩ | refine ⟨vI_of (by rfl) (by omega), ?_⟩))⟩, (by first | omega | (dsimp only; omega))⟩
      · have dl : decide (((2 : Nat) : Int) + 1 < (ws.length : Int)) = false := decide_eq_false (by omega)
        have hinv : 3 ≤ 3 ∧ a = At ws 1 3 ∧ b = At ws 2 3 ∧ c = At ws 3 3 := ⟨by decide, ea, eb, (show c = wdO ws 3 from ec.trans (wdO_no l1).symm)⟩
        (repeat (first | refine gq_DI ?_ | (refine ga_DI ?_; intro _hq) | refine gd_DI ?_))
        exact ⟨(3, a, b, c), hinv, ⟨by rfl, (by repeat (first | exact trivial | refine ⟨by rfl, ?_⟩ | refine ⟨vI_of (by rfl) (by omega), ?_⟩)), (by repeat (first | exact trivial | refine ⟨by rfl, ?_⟩ | refine ⟨vI_of (by rfl) (by omega), ?_⟩))⟩, (by first | omega | (dsimp only; omega))⟩
    · have hg : decide (((3 : Nat) : Int) < ((3 : Nat) : Int)) = false := by decide
      replace ea : a = wdO ws 1 := ea
      replace eb : b = wdO ws 2 := eb
      replace ec : c = wdO ws 3 := ec
      subst ea eb ec
      (repeat (first | refine gq_DI ?_ | (refine ga_DI ?_; intro _hq) | refine gd_DI ?_))
      ((try refine aw_ret ?_); refine ret_auto2 (by rfl) (by rfl) (by rfl) (by repeat (first | exact trivial | refine ⟨by first | rfl | omega, ?_⟩)) ?_ (by repeat (first | exact trivial | refine ⟨by rfl, by rfl, ?_⟩)) (by repeat (first | exact trivial | refine ⟨by rfl, by rfl, ?_⟩)); try rfl)
/-- Both readers of gates answer alike. -/
theorem rg_ex (s : List UInt8) (hs : s.length ≤ 7000000) : ∃ g b, RG s g b ∧ Kon Tryd.prog 32 [vS s] [] (tupG g b) [] [] ∧ Kon Tryd.prog 35 [vS s] [] (tupG g b) [] [] := by
  obtain ⟨g, b, h⟩ := rg_all s
  refine ⟨g, b, h, ?_⟩
  rcases h with ⟨rfl, h⟩ | ⟨rfl, rfl, h⟩
  · have hne : s ≠ [] := fun e => gok_nil g (e ▸ h)
    obtain ⟨e1, e2, e3⟩ := gk_rd h
    obtain ⟨_, hk, _⟩ := gok_bd h.1
    have ht : (gtx g == s) = true := (gtx_eq hne).2 h
    have hkk : ((g.k.toNat : Nat) : Int) = g.k := by omega
    refine ⟨?_, ?_⟩
    · have := k_rgSfalse s hs (by rw [beq_eq_false_iff_ne]; exact hne) (by rw [e1, ht]; rfl)
      rw [e1] at this
      exact this
    · have := k_rgI1 s hs g.k.toNat (by omega) (by rw [hkk]; exact e3) (by rw [hkk, e2]; exact ht)
      rw [hkk, e2] at this
      exact this
  · by_cases hne : s = []
    · subst hne
      exact ⟨k_rgSe, k_rgI0 [] hs fun j a b c e => absurd (congrArg List.length e) (by have := (gnm_len (j : Int)).1; have h2 : ((cutA 32 [] []).getD 0 []).length = 0 := rfl; omega)⟩
    · exact ⟨k_rgStrue s hs (by rw [beq_eq_false_iff_ne]; exact hne) (by rw [no_gtx hne h]; rfl), k_rgI0 s hs fun j a b c _ => no_gtx hne h _⟩
end Go.Proofs.YtgphlcdinejmdaaDoor

/- Gates compared, deeds compared; deeds as cells. -/
namespace Go.Proofs.YtgphlcdinejmdaaDoor
set_option linter.unusedVariables false
set_option linter.unusedSimpArgs false
set_option maxRecDepth 20000
open Go.RowKit
def chk4 (ti : TypeId) : List Field → Bool
  | [f, f', f'', f3] => (f.name != "_") && (f.type == ti) && (f.offset == 0) && ((f'.name != "_") && (f'.type == ti) && (f'.offset == 1)) && ((f''.name != "_") && (f''.type == ti) && (f''.offset == 2)) && ((f3.name != "_") && (f3.type == ti) && (f3.offset == 3))
  | _ => false
theorem equal_gate (k a b c k' a' b' c' : Int) (w : World) : (Op.equalIn 10000 27 (.agg #[.int .i64 k, .int .i64 a, .int .i64 b, .int .i64 c]) (.agg #[.int .i64 k', .int .i64 a', .int .i64 b', .int .i64 c'])).run Tryd.prog w = .ok (k == k' && (a == a' && (b == b' && c == c'))) w := by
  rw [run_equalIn_agg (ht := by kernel_rfl) (hp := by kernel_rfl)]
  have hc : chk4 3 (Tryd.prog.fieldsOf 27).toList = true := by kernel_rfl
  have hi : Tryd.prog.underlying 3 = some (.int .i64) := by kernel_rfl
  have hz : ∀ (xs : Array Value) (k : Nat) (v : Value) (w : World), xs[k]? = some v → (part 3 xs k).run Tryd.prog w = .ok v w := fun xs k v w h => run_part_plain w (by kernel_rfl) h
  have z0 := fun w => hz #[.int .i64 k, .int .i64 a, .int .i64 b, .int .i64 c] 0 _ w rfl
  have y0 := fun w => hz #[.int .i64 k', .int .i64 a', .int .i64 b', .int .i64 c'] 0 _ w rfl
  have z1 := fun w => hz #[.int .i64 k, .int .i64 a, .int .i64 b, .int .i64 c] 1 _ w rfl
  have y1 := fun w => hz #[.int .i64 k', .int .i64 a', .int .i64 b', .int .i64 c'] 1 _ w rfl
  have z2 := fun w => hz #[.int .i64 k, .int .i64 a, .int .i64 b, .int .i64 c] 2 _ w rfl
  have y2 := fun w => hz #[.int .i64 k', .int .i64 a', .int .i64 b', .int .i64 c'] 2 _ w rfl
  have z3 := fun w => hz #[.int .i64 k, .int .i64 a, .int .i64 b, .int .i64 c] 3 _ w rfl
  have y3 := fun w => hz #[.int .i64 k', .int .i64 a', .int .i64 b', .int .i64 c'] 3 _ w rfl
  have e : ∀ (x y : Int) w, (Op.equalIn 9999 3 (.int .i64 x) (.int .i64 y)).run Tryd.prog w = .ok (x == y) w := fun x y w => run_equalIn_int (P := Tryd.prog) w 9998 3 .i64 .i64 x y hi
  clear hz
  generalize (Tryd.prog.fieldsOf 27).toList = fs at hc ⊢
  unfold chk4 at hc
  split at hc
  · rename_i f f' f'' f3
    simp only [Bool.and_eq_true, bne_iff_ne, beq_iff_eq] at hc
    obtain ⟨⟨⟨⟨⟨h1, h2⟩, h3⟩, ⟨⟨h4, h5⟩, h6⟩⟩, ⟨⟨h7, h8⟩, h9⟩⟩, ⟨⟨g1, g2⟩, g3⟩⟩ := hc
    simp only [Op.eqFields, h1, h2, h3, h4, h5, h6, h7, h8, h9, g1, g2, g3, if_true, ne_eq, not_false_eq_true, Sem.run_bind, z0, y0, Result.andThen_ok]
    erw [e k k' w]
    cases (k == k')
    · rfl
    simp only [Result.andThen_ok, Bool.not_true, Bool.false_eq_true, if_false, Sem.run_bind, z1, y1]
    erw [e a a' w]
    cases (a == a')
    · rfl
    simp only [Result.andThen_ok, Bool.not_true, Bool.false_eq_true, if_false, Sem.run_bind, z2, y2]
    erw [e b b' w]
    cases (b == b')
    · rfl
    simp only [Result.andThen_ok, Bool.not_true, Bool.false_eq_true, if_false, Sem.run_bind, z3, y3]
    erw [e c c' w]
    cases (c == c') <;> rfl
  · cases hc
theorem eq_gate (x y : Operand) (k a b c k' a' b' c' : Int) (w : World) : (do eqGuard .eql 27 x y (.agg #[.int .i64 k, .int .i64 a, .int .i64 b, .int .i64 c]) (.agg #[.int .i64 k', .int .i64 a', .int .i64 b', .int .i64 c']); binOp .eql 27 (.agg #[.int .i64 k, .int .i64 a, .int .i64 b, .int .i64 c]) (.agg #[.int .i64 k', .int .i64 a', .int .i64 b', .int .i64 c']) : Sem Value).run Tryd.prog w = .ok (.bool (k == k' && (a == a' && (b == b' && c == c')))) w := by
  rw [Sem.run_bind, run_eqGuard_agg (hm := by kernel_rfl)]
  simp only [Result.andThen_ok]
  rw [run_eql_struct, equal_gate]; rfl
end Go.Proofs.YtgphlcdinejmdaaDoor

/- Deeds as cells, deeds compared. -/
namespace Go.Proofs.YtgphlcdinejmdaaDoor
set_option linter.unusedVariables false
set_option linter.unusedSimpArgs false
set_option maxRecDepth 20000
open Go.RowKit
/-- A deed. -/
structure Dd where
  k : Int
  n : Int
  p : Gt
instance : Cel Dd where
  f d := [.int .i64 d.k, .int .i64 d.n, .int .i64 d.p.k, .int .i64 d.p.a, .int .i64 d.p.b, .int .i64 d.p.c]
  un vs := match vs with
    | [.int .i64 x, .int .i64 y, .int .i64 k, .int .i64 a, .int .i64 b, .int .i64 c] => some ⟨x, y, ⟨k, a, b, c⟩⟩
    | _ => none
  sz := 6
  no := ⟨0, 0, ⟨0, 0, 0, 0⟩⟩
  pos := by omega
  len _ := rfl
  one _ := rfl
  unf vs a h := by
    split at h
    · cases h; rfl
    · cases h
abbrev dCs (d : Dd) : List AC := [.v (.int .i64 d.k), .v (.int .i64 d.n), .v (.int .i64 d.p.k), .v (.int .i64 d.p.a), .v (.int .i64 d.p.b), .v (.int .i64 d.p.c)]
abbrev dV (d : Dd) : AV := .g (.agg (dCs d))
abbrev dRow (l : List Dd) : Ent := rwE 29 l
theorem equal_gate9 (k a b c k' a' b' c' : Int) (w : World) : (Op.equalIn 9999 27 (.agg #[.int .i64 k, .int .i64 a, .int .i64 b, .int .i64 c]) (.agg #[.int .i64 k', .int .i64 a', .int .i64 b', .int .i64 c'])).run Tryd.prog w = .ok (k == k' && (a == a' && (b == b' && c == c'))) w := by
  rw [run_equalIn_agg (ht := by kernel_rfl) (hp := by kernel_rfl)]
  have hc : chk4 3 (Tryd.prog.fieldsOf 27).toList = true := by kernel_rfl
  have hi : Tryd.prog.underlying 3 = some (.int .i64) := by kernel_rfl
  have hz : ∀ (xs : Array Value) (k : Nat) (v : Value) (w : World), xs[k]? = some v → (part 3 xs k).run Tryd.prog w = .ok v w := fun xs k v w h => run_part_plain w (by kernel_rfl) h
  have z0 := fun w => hz #[.int .i64 k, .int .i64 a, .int .i64 b, .int .i64 c] 0 _ w rfl
  have y0 := fun w => hz #[.int .i64 k', .int .i64 a', .int .i64 b', .int .i64 c'] 0 _ w rfl
  have z1 := fun w => hz #[.int .i64 k, .int .i64 a, .int .i64 b, .int .i64 c] 1 _ w rfl
  have y1 := fun w => hz #[.int .i64 k', .int .i64 a', .int .i64 b', .int .i64 c'] 1 _ w rfl
  have z2 := fun w => hz #[.int .i64 k, .int .i64 a, .int .i64 b, .int .i64 c] 2 _ w rfl
  have y2 := fun w => hz #[.int .i64 k', .int .i64 a', .int .i64 b', .int .i64 c'] 2 _ w rfl
  have z3 := fun w => hz #[.int .i64 k, .int .i64 a, .int .i64 b, .int .i64 c] 3 _ w rfl
  have y3 := fun w => hz #[.int .i64 k', .int .i64 a', .int .i64 b', .int .i64 c'] 3 _ w rfl
  have e : ∀ (x y : Int) w, (Op.equalIn 9998 3 (.int .i64 x) (.int .i64 y)).run Tryd.prog w = .ok (x == y) w := fun x y w => run_equalIn_int (P := Tryd.prog) w 9997 3 .i64 .i64 x y hi
  clear hz
  generalize (Tryd.prog.fieldsOf 27).toList = fs at hc ⊢
  unfold chk4 at hc
  split at hc
  · rename_i f f' f'' f3
    simp only [Bool.and_eq_true, bne_iff_ne, beq_iff_eq] at hc
    obtain ⟨⟨⟨⟨⟨h1, h2⟩, h3⟩, ⟨⟨h4, h5⟩, h6⟩⟩, ⟨⟨h7, h8⟩, h9⟩⟩, ⟨⟨g1, g2⟩, g3⟩⟩ := hc
    simp only [Op.eqFields, h1, h2, h3, h4, h5, h6, h7, h8, h9, g1, g2, g3, if_true, ne_eq, not_false_eq_true, Sem.run_bind, z0, y0, Result.andThen_ok]
    erw [e k k' w]
    cases (k == k')
    · rfl
    simp only [Result.andThen_ok, Bool.not_true, Bool.false_eq_true, if_false, Sem.run_bind, z1, y1]
    erw [e a a' w]
    cases (a == a')
    · rfl
    simp only [Result.andThen_ok, Bool.not_true, Bool.false_eq_true, if_false, Sem.run_bind, z2, y2]
    erw [e b b' w]
    cases (b == b')
    · rfl
    simp only [Result.andThen_ok, Bool.not_true, Bool.false_eq_true, if_false, Sem.run_bind, z3, y3]
    erw [e c c' w]
    cases (c == c') <;> rfl
  · cases hc
def chk3 (ti tg : TypeId) : List Field → Bool
  | [f, f', f''] => (f.name != "_") && (f.type == ti) && (f.offset == 0) && ((f'.name != "_") && (f'.type == ti) && (f'.offset == 1)) && ((f''.name != "_") && (f''.type == tg) && (f''.offset == 2))
  | _ => false
abbrev dA (k n g a b c : Int) : Value := .agg #[.int .i64 k, .int .i64 n, .int .i64 g, .int .i64 a, .int .i64 b, .int .i64 c]
theorem equal_deed (k n g a b c k' n' g' a' b' c' : Int) (w : World) : (Op.equalIn 10000 29 (dA k n g a b c) (dA k' n' g' a' b' c')).run Tryd.prog w = .ok (k == k' && (n == n' && (g == g' && (a == a' && (b == b' && c == c'))))) w := by
  rw [run_equalIn_agg (ht := by kernel_rfl) (hp := by kernel_rfl)]
  have hc : chk3 3 27 (Tryd.prog.fieldsOf 29).toList = true := by kernel_rfl
  have hi : Tryd.prog.underlying 3 = some (.int .i64) := by kernel_rfl
  have hz : ∀ (xs : Array Value) (k : Nat) (v : Value) (w : World), xs[k]? = some v → (part 3 xs k).run Tryd.prog w = .ok v w := fun xs k v w h => run_part_plain w (by kernel_rfl) h
  have z0 := fun w => hz #[.int .i64 k, .int .i64 n, .int .i64 g, .int .i64 a, .int .i64 b, .int .i64 c] 0 _ w rfl
  have y0 := fun w => hz #[.int .i64 k', .int .i64 n', .int .i64 g', .int .i64 a', .int .i64 b', .int .i64 c'] 0 _ w rfl
  have z1 := fun w => hz #[.int .i64 k, .int .i64 n, .int .i64 g, .int .i64 a, .int .i64 b, .int .i64 c] 1 _ w rfl
  have y1 := fun w => hz #[.int .i64 k', .int .i64 n', .int .i64 g', .int .i64 a', .int .i64 b', .int .i64 c'] 1 _ w rfl
  have z2 : ∀ w, (part 27 #[.int .i64 k, .int .i64 n, .int .i64 g, .int .i64 a, .int .i64 b, .int .i64 c] 2).run Tryd.prog w = .ok (.agg #[.int .i64 g, .int .i64 a, .int .i64 b, .int .i64 c]) w := fun w => by kernel_rfl
  have y2 : ∀ w, (part 27 #[.int .i64 k', .int .i64 n', .int .i64 g', .int .i64 a', .int .i64 b', .int .i64 c'] 2).run Tryd.prog w = .ok (.agg #[.int .i64 g', .int .i64 a', .int .i64 b', .int .i64 c']) w := fun w => by kernel_rfl
  have e : ∀ (x y : Int) w, (Op.equalIn 9999 3 (.int .i64 x) (.int .i64 y)).run Tryd.prog w = .ok (x == y) w := fun x y w => run_equalIn_int (P := Tryd.prog) w 9998 3 .i64 .i64 x y hi
  clear hz
  generalize (Tryd.prog.fieldsOf 29).toList = fs at hc ⊢
  unfold chk3 at hc
  split at hc
  · rename_i f f' f''
    simp only [Bool.and_eq_true, bne_iff_ne, beq_iff_eq] at hc
    obtain ⟨⟨⟨⟨h1, h2⟩, h3⟩, ⟨⟨h4, h5⟩, h6⟩⟩, ⟨⟨h7, h8⟩, h9⟩⟩ := hc
    simp only [Op.eqFields, h1, h2, h3, h4, h5, h6, h7, h8, h9, if_true, ne_eq, not_false_eq_true, Sem.run_bind, z0, y0, Result.andThen_ok]
    erw [e k k' w]
    cases (k == k')
    · rfl
    simp only [Result.andThen_ok, Bool.not_true, Bool.false_eq_true, if_false, Sem.run_bind, z1, y1]
    erw [e n n' w]
    cases (n == n')
    · rfl
    simp only [Result.andThen_ok, Bool.not_true, Bool.false_eq_true, if_false, Sem.run_bind, z2, y2]
    erw [equal_gate9 g a b c g' a' b' c' w]
    cases (g == g' && (a == a' && (b == b' && c == c'))) <;> rfl
  · cases hc
theorem eq_deed (x y : Operand) (k n g a b c k' n' g' a' b' c' : Int) (w : World) : (do eqGuard .eql 29 x y (dA k n g a b c) (dA k' n' g' a' b' c'); binOp .eql 29 (dA k n g a b c) (dA k' n' g' a' b' c') : Sem Value).run Tryd.prog w = .ok (.bool (k == k' && (n == n' && (g == g' && (a == a' && (b == b' && c == c')))))) w := by
  rw [Sem.run_bind, run_eqGuard_agg (hm := by kernel_rfl)]
  simp only [Result.andThen_ok]
  rw [run_eql_struct, equal_deed]; rfl
end Go.Proofs.YtgphlcdinejmdaaDoor

/- spec.l10Named. -/
namespace Go.Proofs.YtgphlcdinejmdaaDoor
set_option linter.unusedVariables false
set_option linter.unusedSimpArgs false
set_option maxRecDepth 20000
open Go.RowKit
attribute [local irreducible] runA runX AW
theorem gq_DM {H G : Prop} (k : H) (h : Hid H → G := by (intro hh; (first | (first | ((first | refine r_none ?_ | refine r_gt (by rfl) (by rfl) (by first | rfl | assumption | omega | (simp only [*, Bool.not_false, Bool.not_true]; first | done | fail) | (simp [*]; first | done | fail)) (by rfl) ?_ | refine r_gf (by rfl) (by rfl) (by first | rfl | assumption | omega | (simp only [*, Bool.not_false, Bool.not_true]; first | done | fail) | (simp [*]; first | done | fail)) (by rfl) ?_); (first | fail | ((first | (refine z_op (by rfl) ?_; first | refine z_ok ?_ ?_ | refine z_ex ?_ (by first | exact ft_raw rfl rfl | ((first | refine ft_rp rfl rfl rfl ?_ | refine ft_row rfl rfl rfl ?_ | refine ft_rpF rfl rfl rfl ?_ | refine ft_rowF rfl rfl rfl ?_ | refine up_row rfl rfl ?_ | refine up_rowF rfl rfl rfl ?_ | refine ct_0 rfl ?_ | refine ct_r rfl rfl ?_ | refine ct_c rfl rfl rfl ?_ | refine cu_all rfl ?_ | refine cu_to rfl ?_ | refine cu_from rfl ?_ | refine cu_p rfl ?_ | fail); (first | omega | (simp only [List.length_append, List.length_replicate, List.length_cons, List.length_nil, List.length_set, List.length_take, List.length_drop, true_and]; omega))) | exact up_raw rfl | exact pk_t (by first | rfl | assumption | omega | (simp only [*, Bool.not_false, Bool.not_true]; first | done | fail) | (simp [*]; first | done | fail)) rfl | exact pk_f (by first | rfl | assumption | omega | (simp only [*, Bool.not_false, Bool.not_true]; first | done | fail) | (simp [*]; first | done | fail)) rfl | fail | exact rw_raw | exact pu_cv (fun w => rfl) (by omega) | exact pu_of (fun w => rfl) rfl | exact be_of (fun w => rfl) | exact nc_of (fun _ _ _ _ => rfl) rfl | exact bu_of (fun w => rfl) rfl | (first | exact pu_of (fun w => eq_gate _ _ _ _ _ _ _ _ _ _ w) rfl)) ?_) | ((first | refine q_callE wsT wsZ (by rfl) ?_ | refine q_callVE wsT (by rfl) (by rfl) ?_); refine ⟨_, _, _, (by first | assumption), _, by rfl, ?_, ?_⟩)); focus (first | exact trivial | fail | exact rfl | (first | omega | (simp only [List.length_append, List.length_replicate, List.length_cons, List.length_nil, List.length_set, List.length_take, List.length_drop, true_and]; omega)) | exact cvB (fun w => rfl) | ((repeat' (first | exact rfl | exact cV_len _ | exact cV_ln rfl (by omega) | exact Cel.pos | omega | exact trivial | refine And.intro ?_ ?_)); done) | (simp [*]; done) | (simp; omega))) | fail)) | refine r_nt (by rfl) (by rfl) (by first | rfl | assumption | omega | (simp only [*, Bool.not_false, Bool.not_true]; first | done | fail) | (simp [*]; first | done | fail)) (by rfl) ?_ | refine r_nf (by rfl) (by rfl) (by first | rfl | assumption | omega | (simp only [*, Bool.not_false, Bool.not_true]; first | done | fail) | (simp [*]; first | done | fail)) (by rfl) ?_ | refine r_gu (by rfl) (by rfl) (by rfl) ?_ | refine r_nil ?_) | (first | refine aw_seq ?_ | refine aw_ct (by rfl) (by first | rfl | assumption | omega | (simp only [*, Bool.not_false, Bool.not_true]; first | done | fail) | (simp [*]; first | done | fail)) ?_ | refine aw_cf (by rfl) (by first | rfl | assumption | omega | (simp only [*, Bool.not_false, Bool.not_true]; first | done | fail) | (simp [*]; first | done | fail)) ?_ | refine aw_block ?_ | refine aw_region T0ok cfU_ok (by rfl) ?_ | refine aw_skip ?_ | refine aw_exit ?_ | refine ra_step ?_)); (repeat (first | (first | ((first | refine r_none ?_ | refine r_gt (by rfl) (by rfl) (by first | rfl | assumption | omega | (simp only [*, Bool.not_false, Bool.not_true]; first | done | fail) | (simp [*]; first | done | fail)) (by rfl) ?_ | refine r_gf (by rfl) (by rfl) (by first | rfl | assumption | omega | (simp only [*, Bool.not_false, Bool.not_true]; first | done | fail) | (simp [*]; first | done | fail)) (by rfl) ?_); (first | fail | ((first | (refine z_op (by rfl) ?_; first | refine z_ok ?_ ?_ | refine z_ex ?_ (by first | exact ft_raw rfl rfl | ((first | refine ft_rp rfl rfl rfl ?_ | refine ft_row rfl rfl rfl ?_ | refine ft_rpF rfl rfl rfl ?_ | refine ft_rowF rfl rfl rfl ?_ | refine up_row rfl rfl ?_ | refine up_rowF rfl rfl rfl ?_ | refine ct_0 rfl ?_ | refine ct_r rfl rfl ?_ | refine ct_c rfl rfl rfl ?_ | refine cu_all rfl ?_ | refine cu_to rfl ?_ | refine cu_from rfl ?_ | refine cu_p rfl ?_ | fail); (first | omega | (simp only [List.length_append, List.length_replicate, List.length_cons, List.length_nil, List.length_set, List.length_take, List.length_drop, true_and]; omega))) | exact up_raw rfl | exact pk_t (by first | rfl | assumption | omega | (simp only [*, Bool.not_false, Bool.not_true]; first | done | fail) | (simp [*]; first | done | fail)) rfl | exact pk_f (by first | rfl | assumption | omega | (simp only [*, Bool.not_false, Bool.not_true]; first | done | fail) | (simp [*]; first | done | fail)) rfl | fail | exact rw_raw | exact pu_cv (fun w => rfl) (by omega) | exact pu_of (fun w => rfl) rfl | exact be_of (fun w => rfl) | exact nc_of (fun _ _ _ _ => rfl) rfl | exact bu_of (fun w => rfl) rfl | (first | exact pu_of (fun w => eq_gate _ _ _ _ _ _ _ _ _ _ w) rfl)) ?_) | ((first | refine q_callE wsT wsZ (by rfl) ?_ | refine q_callVE wsT (by rfl) (by rfl) ?_); refine ⟨_, _, _, (by first | assumption), _, by rfl, ?_, ?_⟩)); focus (first | exact trivial | fail | exact rfl | (first | omega | (simp only [List.length_append, List.length_replicate, List.length_cons, List.length_nil, List.length_set, List.length_take, List.length_drop, true_and]; omega)) | exact cvB (fun w => rfl) | ((repeat' (first | exact rfl | exact cV_len _ | exact cV_ln rfl (by omega) | exact Cel.pos | omega | exact trivial | refine And.intro ?_ ?_)); done) | (simp [*]; done) | (simp; omega))) | fail)) | refine r_nt (by rfl) (by rfl) (by first | rfl | assumption | omega | (simp only [*, Bool.not_false, Bool.not_true]; first | done | fail) | (simp [*]; first | done | fail)) (by rfl) ?_ | refine r_nf (by rfl) (by rfl) (by first | rfl | assumption | omega | (simp only [*, Bool.not_false, Bool.not_true]; first | done | fail) | (simp [*]; first | done | fail)) (by rfl) ?_ | refine r_gu (by rfl) (by rfl) (by rfl) ?_ | refine r_nil ?_) | (first | refine aw_seq ?_ | refine aw_ct (by rfl) (by first | rfl | assumption | omega | (simp only [*, Bool.not_false, Bool.not_true]; first | done | fail) | (simp [*]; first | done | fail)) ?_ | refine aw_cf (by rfl) (by first | rfl | assumption | omega | (simp only [*, Bool.not_false, Bool.not_true]; first | done | fail) | (simp [*]; first | done | fail)) ?_ | refine aw_block ?_ | refine aw_region T0ok cfU_ok (by rfl) ?_ | refine aw_skip ?_ | refine aw_exit ?_ | refine ra_step ?_))); exact hh.out)) : G := h ⟨k⟩
theorem ga_DM {H G : Prop} (k : H) (h : Hid H → G := by (intro hh; (first | refine r_none ?_ | refine r_gt (by rfl) (by rfl) (by first | rfl | assumption | omega | (simp only [*, Bool.not_false, Bool.not_true]; first | done | fail) | (simp [*]; first | done | fail)) (by rfl) ?_ | refine r_gf (by rfl) (by rfl) (by first | rfl | assumption | omega | (simp only [*, Bool.not_false, Bool.not_true]; first | done | fail) | (simp [*]; first | done | fail)) (by rfl) ?_); refine z_op (by rfl) ?_; refine z_al ?_ hh.out; focus (first | exact trivial | fail | exact rfl | (first | omega | (simp only [List.length_append, List.length_replicate, List.length_cons, List.length_nil, List.length_set, List.length_take, List.length_drop, true_and]; omega)) | exact cvB (fun w => rfl) | ((repeat' (first | exact rfl | exact cV_len _ | exact cV_ln rfl (by omega) | exact Cel.pos | omega | exact trivial | refine And.intro ?_ ?_)); done) | (simp [*]; done) | (simp; omega)))) : G := h ⟨k⟩
/-- What is said of a deed. -/
def nmD (d : Dd) : Bool :=
  if d.k = 0 ∨ d.k = 1 then (d.p.k == 0 && (d.p.a == 0 && (d.p.b == 0 && d.p.c == 0)))
  else if d.k = 2 then d.n == 0
  else if d.k = 3 ∨ d.k = 4 then d.n == 0 && (d.p.k == 0 && (d.p.a == 0 && (d.p.b == 0 && d.p.c == 0)))
  else false
theorem k_named0 (d : Dd) (h : d.k = 0) : Kon Tryd.prog 22 [dV d] [] (vB (nmD d)) [] [] := by
  obtain ⟨k, n, p⟩ := d
  obtain rfl : k = 0 := h
  (refine kon_mk T0ok (fn := Tryd.f22) (c := Tryd.f22.body.get rfl) Tryd.func22 rfl (by rfl) (by rfl) (by rfl) ?_; intro hfit hfe)
  (repeat (first | refine gq_DM ?_ | (refine ga_DM ?_; intro _q ⟨_he, _hq⟩)))
  ((try refine aw_ret ?_); refine ret_auto2 (by rfl) (by rfl) (by rfl) (by repeat (first | exact trivial | refine ⟨by first | rfl | omega, ?_⟩)) ?_ (by repeat (first | exact trivial | refine ⟨by rfl, by rfl, ?_⟩)) (by repeat (first | exact trivial | refine ⟨by rfl, by rfl, ?_⟩)); try rfl)
theorem k_named1 (d : Dd) (h : d.k = 1) : Kon Tryd.prog 22 [dV d] [] (vB (nmD d)) [] [] := by
  obtain ⟨k, n, p⟩ := d
  obtain rfl : k = 1 := h
  (refine kon_mk T0ok (fn := Tryd.f22) (c := Tryd.f22.body.get rfl) Tryd.func22 rfl (by rfl) (by rfl) (by rfl) ?_; intro hfit hfe)
  (repeat (first | refine gq_DM ?_ | (refine ga_DM ?_; intro _q ⟨_he, _hq⟩)))
  ((try refine aw_ret ?_); refine ret_auto2 (by rfl) (by rfl) (by rfl) (by repeat (first | exact trivial | refine ⟨by first | rfl | omega, ?_⟩)) ?_ (by repeat (first | exact trivial | refine ⟨by rfl, by rfl, ?_⟩)) (by repeat (first | exact trivial | refine ⟨by rfl, by rfl, ?_⟩)); try rfl)
theorem k_named2 (d : Dd) (h : d.k = 2) : Kon Tryd.prog 22 [dV d] [] (vB (nmD d)) [] [] := by
  obtain ⟨k, n, p⟩ := d
  obtain rfl : k = 2 := h
  (refine kon_mk T0ok (fn := Tryd.f22) (c := Tryd.f22.body.get rfl) Tryd.func22 rfl (by rfl) (by rfl) (by rfl) ?_; intro hfit hfe)
  (repeat (first | refine gq_DM ?_ | (refine ga_DM ?_; intro _q ⟨_he, _hq⟩)))
  ((try refine aw_ret ?_); refine ret_auto2 (by rfl) (by rfl) (by rfl) (by repeat (first | exact trivial | refine ⟨by first | rfl | omega, ?_⟩)) ?_ (by repeat (first | exact trivial | refine ⟨by rfl, by rfl, ?_⟩)) (by repeat (first | exact trivial | refine ⟨by rfl, by rfl, ?_⟩)); try rfl)
theorem k_named3 (d : Dd) (h : d.k = 3) : Kon Tryd.prog 22 [dV d] [] (vB (nmD d)) [] [] := by
  obtain ⟨k, n, p⟩ := d
  obtain rfl : k = 3 := h
  cases hx : (n == 0) with
  | true =>
    have e : nmD ⟨3, n, p⟩ = (p.k == 0 && (p.a == 0 && (p.b == 0 && p.c == 0))) := by simp [nmD, hx]
    rw [e]
    (refine kon_mk T0ok (fn := Tryd.f22) (c := Tryd.f22.body.get rfl) Tryd.func22 rfl (by rfl) (by rfl) (by rfl) ?_; intro hfit hfe)
    (repeat (first | refine gq_DM ?_ | (refine ga_DM ?_; intro _q ⟨_he, _hq⟩)))
    ((try refine aw_ret ?_); refine ret_auto2 (by rfl) (by rfl) (by rfl) (by repeat (first | exact trivial | refine ⟨by first | rfl | omega, ?_⟩)) ?_ (by repeat (first | exact trivial | refine ⟨by rfl, by rfl, ?_⟩)) (by repeat (first | exact trivial | refine ⟨by rfl, by rfl, ?_⟩)); try rfl)
  | false =>
    have e : nmD ⟨3, n, p⟩ = false := by simp [nmD, hx]
    rw [e]
    (refine kon_mk T0ok (fn := Tryd.f22) (c := Tryd.f22.body.get rfl) Tryd.func22 rfl (by rfl) (by rfl) (by rfl) ?_; intro hfit hfe)
    (repeat (first | refine gq_DM ?_ | (refine ga_DM ?_; intro _q ⟨_he, _hq⟩)))
    ((try refine aw_ret ?_); refine ret_auto2 (by rfl) (by rfl) (by rfl) (by repeat (first | exact trivial | refine ⟨by first | rfl | omega, ?_⟩)) ?_ (by repeat (first | exact trivial | refine ⟨by rfl, by rfl, ?_⟩)) (by repeat (first | exact trivial | refine ⟨by rfl, by rfl, ?_⟩)); try rfl)
theorem k_named4 (d : Dd) (h : d.k = 4) : Kon Tryd.prog 22 [dV d] [] (vB (nmD d)) [] [] := by
  obtain ⟨k, n, p⟩ := d
  obtain rfl : k = 4 := h
  cases hx : (n == 0) with
  | true =>
    have e : nmD ⟨4, n, p⟩ = (p.k == 0 && (p.a == 0 && (p.b == 0 && p.c == 0))) := by simp [nmD, hx]
    rw [e]
    (refine kon_mk T0ok (fn := Tryd.f22) (c := Tryd.f22.body.get rfl) Tryd.func22 rfl (by rfl) (by rfl) (by rfl) ?_; intro hfit hfe)
    (repeat (first | refine gq_DM ?_ | (refine ga_DM ?_; intro _q ⟨_he, _hq⟩)))
    ((try refine aw_ret ?_); refine ret_auto2 (by rfl) (by rfl) (by rfl) (by repeat (first | exact trivial | refine ⟨by first | rfl | omega, ?_⟩)) ?_ (by repeat (first | exact trivial | refine ⟨by rfl, by rfl, ?_⟩)) (by repeat (first | exact trivial | refine ⟨by rfl, by rfl, ?_⟩)); try rfl)
  | false =>
    have e : nmD ⟨4, n, p⟩ = false := by simp [nmD, hx]
    rw [e]
    (refine kon_mk T0ok (fn := Tryd.f22) (c := Tryd.f22.body.get rfl) Tryd.func22 rfl (by rfl) (by rfl) (by rfl) ?_; intro hfit hfe)
    (repeat (first | refine gq_DM ?_ | (refine ga_DM ?_; intro _q ⟨_he, _hq⟩)))
    ((try refine aw_ret ?_); refine ret_auto2 (by rfl) (by rfl) (by rfl) (by repeat (first | exact trivial | refine ⟨by first | rfl | omega, ?_⟩)) ?_ (by repeat (first | exact trivial | refine ⟨by rfl, by rfl, ?_⟩)) (by repeat (first | exact trivial | refine ⟨by rfl, by rfl, ?_⟩)); try rfl)
theorem k_namedX (d : Dd) (h : d.k < 0 ∨ 4 < d.k) : Kon Tryd.prog 22 [dV d] [] (vB false) [] [] := by
  obtain ⟨k, n, p⟩ := d
  dsimp only at h
  have h0 : (k == 0) = false := by rw [beq_eq_false_iff_ne]; omega
  have h1 : (k == 1) = false := by rw [beq_eq_false_iff_ne]; omega
  have h2 : (k == 2) = false := by rw [beq_eq_false_iff_ne]; omega
  have h3 : (k == 3) = false := by rw [beq_eq_false_iff_ne]; omega
  have h4 : (k == 4) = false := by rw [beq_eq_false_iff_ne]; omega
  (refine kon_mk T0ok (fn := Tryd.f22) (c := Tryd.f22.body.get rfl) Tryd.func22 rfl (by rfl) (by rfl) (by rfl) ?_; intro hfit hfe)
  (repeat (first | refine gq_DM ?_ | (refine ga_DM ?_; intro _q ⟨_he, _hq⟩)))
  ((try refine aw_ret ?_); refine ret_auto2 (by rfl) (by rfl) (by rfl) (by repeat (first | exact trivial | refine ⟨by first | rfl | omega, ?_⟩)) ?_ (by repeat (first | exact trivial | refine ⟨by rfl, by rfl, ?_⟩)) (by repeat (first | exact trivial | refine ⟨by rfl, by rfl, ?_⟩)); try rfl)
end Go.Proofs.YtgphlcdinejmdaaDoor
