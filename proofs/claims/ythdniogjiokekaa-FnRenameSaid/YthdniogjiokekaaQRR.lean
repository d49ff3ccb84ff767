/- KRE: laid into one text. -/
import Derived.Test.YthdniogjiokekaaQRK
import Derived.Test.YthdniogjiokekaaQRL
import Derived.Test.YthdniogjiokekaaQRP
import Derived.Test.YthdniogjiokekaaQRQ

/- The law FnRename. -/
namespace Go.Proofs.Ythdniogjiokekaa
set_option linter.unusedVariables false
set_option linter.unusedSimpArgs false
set_option maxRecDepth 20000
open Go.RowKit
attribute [local irreducible] runA runX AW
def wsTN : WsT := (4, ([], true)) :: wsT
def wsZN : List (Nat × Nat) := [(6, 4), (999999, 0)]
theorem gq_KRE {H G : Prop} (k : H) (h : Hid H → G := by (intro hh; (first | (first | ((first | refine r_none ?_ | refine r_gt (by rfl) (by rfl) (by first | rfl | assumption | omega | (simp only [*, Bool.not_false, Bool.not_true]; first | done | fail) | (simp [*]; first | done | fail)) (by rfl) ?_ | refine r_gf (by rfl) (by rfl) (by first | rfl | assumption | omega | (simp only [*, Bool.not_false, Bool.not_true]; first | done | fail) | (simp [*]; first | done | fail)) (by rfl) ?_); (first | fail | ((first | (refine z_op (by rfl) ?_; first | refine z_ok ?_ ?_ | refine z_ex ?_ (by first | exact ft_raw rfl rfl | ((first | refine ft_rp rfl rfl rfl ?_ | refine ft_row rfl rfl rfl ?_ | refine ft_rpF rfl rfl rfl ?_ | refine ft_rowF rfl rfl rfl ?_ | refine up_row rfl rfl ?_ | refine up_rowF rfl rfl rfl ?_ | refine ct_0 rfl ?_ | refine ct_r rfl rfl ?_ | refine ct_c rfl rfl rfl ?_ | refine cu_all rfl ?_ | refine cu_to rfl ?_ | refine cu_from rfl ?_ | refine cu_p rfl ?_ | fail); (first | omega | (simp only [List.length_append, List.length_replicate, List.length_cons, List.length_nil, List.length_set, List.length_take, List.length_drop, true_and]; omega))) | exact up_raw rfl | exact pk_t (by first | rfl | assumption | omega | (simp only [*, Bool.not_false, Bool.not_true]; first | done | fail) | (simp [*]; first | done | fail)) rfl | exact pk_f (by first | rfl | assumption | omega | (simp only [*, Bool.not_false, Bool.not_true]; first | done | fail) | (simp [*]; first | done | fail)) rfl | fail | exact rw_raw | exact pu_cv (fun w => rfl) (by omega) | exact pu_of (fun w => rfl) rfl | exact be_of (fun w => rfl) | exact nc_of (fun _ _ _ _ => rfl) rfl | exact bu_of (fun w => rfl) rfl | fail) ?_) | ((first | refine q_callE wsTN wsZN (by rfl) ?_ | refine q_callVE wsTN (by rfl) (by rfl) ?_); refine ⟨_, _, _, (by first | assumption | exact k_alive | exact k_wv _ _ | exact k_within _ _ _), _, by rfl, ?_, ?_⟩)); focus (first | exact trivial | fail | exact rfl | (first | omega | (simp only [List.length_append, List.length_replicate, List.length_cons, List.length_nil, List.length_set, List.length_take, List.length_drop, true_and]; omega)) | exact cvB (fun w => rfl) | ((repeat' (first | exact rfl | exact cV_len _ | exact cV_ln rfl (by omega) | exact Cel.pos | omega | exact trivial | refine And.intro ?_ ?_)); done) | (simp [*]; done) | (simp; omega))) | fail)) | refine r_nt (by rfl) (by rfl) (by first | rfl | assumption | omega | (simp only [*, Bool.not_false, Bool.not_true]; first | done | fail) | (simp [*]; first | done | fail)) (by rfl) ?_ | refine r_nf (by rfl) (by rfl) (by first | rfl | assumption | omega | (simp only [*, Bool.not_false, Bool.not_true]; first | done | fail) | (simp [*]; first | done | fail)) (by rfl) ?_ | refine r_gu (by rfl) (by rfl) (by rfl) ?_ | refine r_nil ?_) | (first | refine aw_seq ?_ | refine aw_ct (by rfl) (by first | rfl | assumption | omega | (simp only [*, Bool.not_false, Bool.not_true]; first | done | fail) | (simp [*]; first | done | fail)) ?_ | refine aw_cf (by rfl) (by first | rfl | assumption | omega | (simp only [*, Bool.not_false, Bool.not_true]; first | done | fail) | (simp [*]; first | done | fail)) ?_ | refine aw_block ?_ | refine aw_region T0ok cfU_ok (by rfl) ?_ | refine aw_skip ?_ | refine aw_exit ?_ | refine ra_step ?_)); (repeat (first | (first | ((first | refine r_none ?_ | refine r_gt (by rfl) (by rfl) (by first | rfl | assumption | omega | (simp only [*, Bool.not_false, Bool.not_true]; first | done | fail) | (simp [*]; first | done | fail)) (by rfl) ?_ | refine r_gf (by rfl) (by rfl) (by first | rfl | assumption | omega | (simp only [*, Bool.not_false, Bool.not_true]; first | done | fail) | (simp [*]; first | done | fail)) (by rfl) ?_); (first | fail | ((first | (refine z_op (by rfl) ?_; first | refine z_ok ?_ ?_ | refine z_ex ?_ (by first | exact ft_raw rfl rfl | ((first | refine ft_rp rfl rfl rfl ?_ | refine ft_row rfl rfl rfl ?_ | refine ft_rpF rfl rfl rfl ?_ | refine ft_rowF rfl rfl rfl ?_ | refine up_row rfl rfl ?_ | refine up_rowF rfl rfl rfl ?_ | refine ct_0 rfl ?_ | refine ct_r rfl rfl ?_ | refine ct_c rfl rfl rfl ?_ | refine cu_all rfl ?_ | refine cu_to rfl ?_ | refine cu_from rfl ?_ | refine cu_p rfl ?_ | fail); (first | omega | (simp only [List.length_append, List.length_replicate, List.length_cons, List.length_nil, List.length_set, List.length_take, List.length_drop, true_and]; omega))) | exact up_raw rfl | exact pk_t (by first | rfl | assumption | omega | (simp only [*, Bool.not_false, Bool.not_true]; first | done | fail) | (simp [*]; first | done | fail)) rfl | exact pk_f (by first | rfl | assumption | omega | (simp only [*, Bool.not_false, Bool.not_true]; first | done | fail) | (simp [*]; first | done | fail)) rfl | fail | exact rw_raw | exact pu_cv (fun w => rfl) (by omega) | exact pu_of (fun w => rfl) rfl | exact be_of (fun w => rfl) | exact nc_of (fun _ _ _ _ => rfl) rfl | exact bu_of (fun w => rfl) rfl | fail) ?_) | ((first | refine q_callE wsTN wsZN (by rfl) ?_ | refine q_callVE wsTN (by rfl) (by rfl) ?_); refine ⟨_, _, _, (by first | assumption | exact k_alive | exact k_wv _ _ | exact k_within _ _ _), _, by rfl, ?_, ?_⟩)); focus (first | exact trivial | fail | exact rfl | (first | omega | (simp only [List.length_append, List.length_replicate, List.length_cons, List.length_nil, List.length_set, List.length_take, List.length_drop, true_and]; omega)) | exact cvB (fun w => rfl) | ((repeat' (first | exact rfl | exact cV_len _ | exact cV_ln rfl (by omega) | exact Cel.pos | omega | exact trivial | refine And.intro ?_ ?_)); done) | (simp [*]; done) | (simp; omega))) | fail)) | refine r_nt (by rfl) (by rfl) (by first | rfl | assumption | omega | (simp only [*, Bool.not_false, Bool.not_true]; first | done | fail) | (simp [*]; first | done | fail)) (by rfl) ?_ | refine r_nf (by rfl) (by rfl) (by first | rfl | assumption | omega | (simp only [*, Bool.not_false, Bool.not_true]; first | done | fail) | (simp [*]; first | done | fail)) (by rfl) ?_ | refine r_gu (by rfl) (by rfl) (by rfl) ?_ | refine r_nil ?_) | (first | refine aw_seq ?_ | refine aw_ct (by rfl) (by first | rfl | assumption | omega | (simp only [*, Bool.not_false, Bool.not_true]; first | done | fail) | (simp [*]; first | done | fail)) ?_ | refine aw_cf (by rfl) (by first | rfl | assumption | omega | (simp only [*, Bool.not_false, Bool.not_true]; first | done | fail) | (simp [*]; first | done | fail)) ?_ | refine aw_block ?_ | refine aw_region T0ok cfU_ok (by rfl) ?_ | refine aw_skip ?_ | refine aw_exit ?_ | refine ra_step ?_))); exact hh.out)) : G := h ⟨k⟩
theorem ga_KRE {H G : Prop} (k : H) (h : Hid H → G := by (intro hh; (first | refine r_none ?_ | refine r_gt (by rfl) (by rfl) (by first | rfl | assumption | omega | (simp only [*, Bool.not_false, Bool.not_true]; first | done | fail) | (simp [*]; first | done | fail)) (by rfl) ?_ | refine r_gf (by rfl) (by rfl) (by first | rfl | assumption | omega | (simp only [*, Bool.not_false, Bool.not_true]; first | done | fail) | (simp [*]; first | done | fail)) (by rfl) ?_); refine z_op (by rfl) ?_; refine z_alV ?_ hh.out; focus (first | exact trivial | fail | exact rfl | (first | omega | (simp only [List.length_append, List.length_replicate, List.length_cons, List.length_nil, List.length_set, List.length_take, List.length_drop, true_and]; omega)) | exact cvB (fun w => rfl) | ((repeat' (first | exact rfl | exact cV_len _ | exact cV_ln rfl (by omega) | exact Cel.pos | omega | exact trivial | refine And.intro ?_ ?_)); done) | (simp [*]; done) | (simp; omega)))) : G := h ⟨k⟩
theorem k_bitR (n w k : Int) (hw : wvB n w = true) (hk : 0 ≤ k ∧ k < n) : Kon Try.prog 10 [vI n, vI w, vI k] [] (vI (if bt w k then 1 else 0)) [] [] := by
  have hv := wvB_t hw
  have hb : btw k 0 (n - 1) = true := by unfold btw; rw [decide_eq_true hk.1, decide_eq_true (show k ≤ n - 1 by omega)]; rfl
  rw [← sb_and hv.2.1]
  (refine kon_mk T0ok (fn := Try.f10) (c := Try.f10.body.get rfl) Try.func10 rfl (by rfl) (by rfl) (by rfl) ?_; intro hfit hfe)
  (repeat (first | refine gq_KRE ?_ | (refine ga_KRE ?_; intro _hq)))
  ((try refine aw_ret ?_); refine ret_auto2 (by rfl) (by rfl) (by rfl) (by repeat (first | exact trivial | refine ⟨by first | rfl | omega, ?_⟩)) ?_ (by repeat (first | exact trivial | refine ⟨by rfl, by rfl, ?_⟩)) (by repeat (first | exact trivial | refine ⟨by rfl, by rfl, ?_⟩)); try rfl)
theorem rn_cokB {n : Int} {ns : List Int} (hP : Perm n ns) {c : List Gt} (h : cokB n c = true) : cokB n (c.map (rnG ns)) = true := by
  unfold cokB at h ⊢
  simp only [Bool.and_eq_true] at h ⊢
  exact ⟨h.1, by rw [List.length_map]; exact h.2.1, rn_all hP h.2.2⟩
theorem rn_co (ns : List Int) : ∀ c : List Gt, coL (c.map (rnG ns)) = coL c
  | [] => rfl
  | g :: c => by rw [List.map_cons, coL, coL, rn_co ns c]; rfl
theorem crM_r {n : Int} {l : List Gt} {w : Int} (h1 : cokB n l = true) (h2 : wvB n w = true) : crM n l w = cr l w := by
  unfold crM; rw [h1, h2]; rfl
theorem pn_step (ns : List Int) (w k : Nat) (b : Bool) (h : w.testBit k = b) : ((pn ns w (k + 1) : Nat) : Int) = ((pn ns w k : Nat) : Int) + (if b = true then 1 else 0) * 2 ^ (ns.getD (k : Int).toNat Cel.no).toNat := by
  rw [pn, h]
  have e : nmX ns (k : Int) = ns.getD (k : Int).toNat Cel.no := rfl
  cases b with
  | true => rw [if_pos rfl, if_pos rfl, e, Int.one_mul, Int.natCast_add, Int.natCast_pow]; rfl
  | false => rw [if_neg (by decide), if_neg (by decide), Int.zero_mul]; rfl
set_option maxHeartbeats 8000000 in
theorem k_lawRn (l : List UInt8) : Kon Try.prog 3 [roA l] [] (vB true) [] [] := by
  rcases Nat.lt_or_ge 1048576 l.length with h0 | h0
  · have hd : decide ((l.length : Int) > 1048576) = true := decide_eq_true (by omega)
    (refine kon_mk T0ok (fn := Try.f3) (c := Try.f3.body.get rfl) Try.func3 rfl (by rfl) (by rfl) (by rfl) ?_; intro hfit hfe)
    (repeat (first | refine gq_KRE ?_ | (refine ga_KRE ?_; intro _hq)))
    ((try refine aw_ret ?_); refine ret_auto2 (by rfl) (by rfl) (by rfl) (by repeat (first | exact trivial | refine ⟨by first | rfl | omega, ?_⟩)) ?_ (by repeat (first | exact trivial | refine ⟨by rfl, by rfl, ?_⟩)) (by repeat (first | exact trivial | refine ⟨by rfl, by rfl, ?_⟩)); try rfl)
  have hd : decide ((l.length : Int) > 1048576) = false := decide_eq_false (by omega)
  obtain ⟨L, cs, ns, hL, hcl, hnl, hD⟩ := ex_dRN l (by omega)
  cases h : okR L cs ns with
  | false =>
    have hI := k_renI0 L cs ns (by omega) (by omega) h
    have hS := k_renS0 L cs ns (by omega) (by omega) (by omega) h
    have hSg := k_sg [] (by simp)
    clear h
    (refine kon_mk T0ok (fn := Try.f3) (c := Try.f3.body.get rfl) Try.func3 rfl (by rfl) (by rfl) (by rfl) ?_; intro hfit hfe)
    (repeat (first | refine gq_KRE ?_ | (refine ga_KRE ?_; intro _hq)))
    ((try refine aw_ret ?_); refine ret_auto2 (by rfl) (by rfl) (by rfl) (by repeat (first | exact trivial | refine ⟨by first | rfl | omega, ?_⟩)) ?_ (by repeat (first | exact trivial | refine ⟨by rfl, by rfl, ?_⟩)) (by repeat (first | exact trivial | refine ⟨by rfl, by rfl, ?_⟩)); try rfl)
  | true =>
    have hI := k_renI1 L cs ns h
    have hS := k_renS1 L cs ns h
    obtain ⟨hcv, hl, hg⟩ := okR_t h
    have hP := gvL_perm hg hl
    have hb := cokB_t hcv
    have hcv2 := rn_cokB hP hcv
    have hSg := k_sg (cs.map (rnG ns)) (by rw [List.length_map]; omega)
    have hlm : (cs.map (rnG ns)).length = cs.length := List.length_map _
    have hr := fun w => rn_cr hb.1.2 hP hb.2.2 w
    have hd1 := k_depth L (cs.map (rnG ns)) hcv2
    rw [stp_rn0 hb.1.2 hP hb.2.2] at hd1
    have hd2 := k_depth L cs hcv
    have hc1 := k_cost L (cs.map (rnG ns)) hcv2
    rw [rn_co] at hc1
    have hc2 := k_cost L cs hcv
    generalize cs.map (rnG ns) = C at *
    clear h hg
    by_cases h0c : cs.length = 0
    · have d0 : ((C.length : Int) == 0) = true := by rw [beq_iff_eq]; omega
      (refine kon_mk T0ok (fn := Try.f3) (c := Try.f3.body.get rfl) Try.func3 rfl (by rfl) (by rfl) (by rfl) ?_; intro hfit hfe)
      (repeat (first | refine gq_KRE ?_ | (refine ga_KRE ?_; intro _hq)))
      ((try refine aw_ret ?_); refine ret_auto2 (by rfl) (by rfl) (by rfl) (by repeat (first | exact trivial | refine ⟨by first | rfl | omega, ?_⟩)) ?_ (by repeat (first | exact trivial | refine ⟨by rfl, by rfl, ?_⟩)) (by repeat (first | exact trivial | refine ⟨by rfl, by rfl, ?_⟩)); try rfl)
    have d0 : ((C.length : Int) == 0) = false := by rw [beq_eq_false_iff_ne]; omega
    have h8 := pow_8 hb.1
    obtain ⟨N, hN⟩ : ∃ N : Nat, (2 ^ L.toNat : Int) = (N : Int) := ⟨(2 ^ L.toNat : Int).toNat, by omega⟩
    (refine kon_mk T0ok (fn := Try.f3) (c := Try.f3.body.get rfl) Try.func3 rfl (by rfl) (by rfl) (by rfl) ?_; intro hfit hfe)
    (repeat (first | refine gq_KRE ?_ | (refine ga_KRE ?_; intro _hq)))
    (refine aw_rd [3, 4, 5, 6] [272, 273, 384] (fun w : Nat => [(7, vI w)]) (fun _ => []) (fun w => w ≤ N) (fun w => N - w) 0 (by rfl) (by rfl) ?_ (by rfl) (by repeat (first | exact trivial | refine ⟨by rfl, ?_⟩ | refine ⟨vI_of (by rfl) (by omega), ?_⟩)) (by repeat (first | exact trivial | refine ⟨by rfl, ?_⟩ | refine ⟨vI_of (by rfl) (by omega), ?_⟩)) ?_)
    · exact Nat.zero_le _
    rintro w hw
    rcases Nat.lt_or_ge w N with h5 | h5
    · have hdw : decide ((w : Int) < 1 * 2 ^ L.toNat) = true := decide_eq_true (by omega)
      have hwb : 0 ≤ (w : Int) ∧ (w : Int) < 2 ^ L.toNat := ⟨Int.natCast_nonneg _, by omega⟩
      have hwv := wv_of hb.1 hwb
      have hcr := k_crun L cs (w : Int) (by omega) (by omega)
      rw [crM_r hcv hwv] at hcr
      have hmb := cr_lt hb.2.2 hwb
      have hmv := wv_of hb.1 hmb
      have hpw := pw_bd hb.1.2 hP (w : Int)
      have hpv := wv_of hb.1 hpw
      have hcr2 := k_crun L C (pw ns (w : Int)) (by omega) (by omega)
      rw [crM_r hcv2 hpv, hr] at hcr2
      have hpm := pw_bd hb.1.2 hP (cr cs (w : Int))
      obtain ⟨m, hm⟩ : ∃ m : Nat, cr cs (w : Int) = (m : Int) := ⟨(cr cs (w : Int)).toNat, by omega⟩
      rw [hm] at hcr hcr2 hmb hmv hpm
      have sp1 := fun k hk => (pn_spec hb.1.2 hP w k hk).1
      have sp2 := fun k hk => (pn_spec hb.1.2 hP m k hk).1
      unfold pw at hcr2
      rw [Int.toNat_natCast, Int.toNat_natCast] at hcr2
      clear hr hpv hpw hpm hm
      (repeat (first | refine gq_KRE ?_ | (refine ga_KRE ?_; intro _hq)))
      (refine aw_rd [3, 4, 5, 6, 7, 10] [272, 273, 384] (fun k : Nat => [(8, vI ((pn ns w k : Nat) : Int)), (9, vI ((pn ns m k : Nat) : Int)), (11, vI k)]) (fun _ => []) (fun k => (k : Int) ≤ L) (fun k => L.toNat - k) 0 (by rfl) (by rfl) ?_ (by rfl) (by repeat (first | exact trivial | refine ⟨by rfl, ?_⟩ | refine ⟨vI_of (by rfl) (by omega), ?_⟩)) (by repeat (first | exact trivial | refine ⟨by rfl, ?_⟩ | refine ⟨vI_of (by rfl) (by omega), ?_⟩)) ?_)
      · show ((0 : Nat) : Int) ≤ L; omega
      rintro k hk
      rcases Int.lt_or_le (k : Int) L with h6 | h6
      · have hdk : decide ((k : Int) < L) = true := decide_eq_true h6
        have hB1 := k_bitR L (w : Int) (k : Int) hwv ⟨by omega, h6⟩
        have hB2 := k_bitR L (m : Int) (k : Int) hmv ⟨by omega, h6⟩
        have e1 := pn_step ns w k _ rfl
        have e2 := pn_step ns m k _ rfl
        have q1 := sp1 k hk
        have q2 := sp2 k hk
        have q3 := sp1 (k + 1) (by omega)
        have q4 := sp2 (k + 1) (by omega)
        have hnb : 0 ≤ ns.getD (k : Int).toNat Cel.no ∧ ns.getD (k : Int).toNat Cel.no < L := hP.bd (k : Int) ⟨by omega, h6⟩
        have hp7 := pow_7 (n := ns.getD (k : Int).toNat Cel.no) (by omega)
        have hkl : k < ns.length := by omega
        have hinv : ((k + 1 : Nat) : Int) ≤ L := by omega
        rw [show bt (w : Int) (k : Int) = w.testBit k from rfl] at hB1
        rw [show bt (m : Int) (k : Int) = m.testBit k from rfl] at hB2
        clear sp1 sp2 hP hcr2 hcr
        cases b1 : w.testBit k <;> cases b2 : m.testBit k <;> rw [b1] at hB1 e1 <;> rw [b2] at hB2 e2
        all_goals
          simp only [Bool.false_eq_true, if_false, if_true] at hB1 hB2 e1 e2
          (repeat (first | refine gq_KRE ?_ | (refine ga_KRE ?_; intro _hq)))
          (refine aw_draw mixed T0ok cfU_ok [] (by rfl) (by kernel_rfl) ?_)
          (repeat (first | refine gq_KRE ?_ | (refine ga_KRE ?_; intro _hq)))
          (refine aw_draw mixed T0ok cfU_ok [] (by rfl) (by kernel_rfl) ?_)
          (repeat (first | refine gq_KRE ?_ | (refine ga_KRE ?_; intro _hq)))
          exact ⟨k + 1, hinv, ⟨by rfl, ⟨vI_of (by rfl) e1.symm, ⟨vI_of (by rfl) e2.symm, (by repeat (first | exact trivial | refine ⟨by rfl, ?_⟩ | refine ⟨vI_of (by rfl) (by omega), ?_⟩))⟩⟩, (by repeat (first | exact trivial | refine ⟨by rfl, ?_⟩ | refine ⟨vI_of (by rfl) (by omega), ?_⟩))⟩, (by first | omega | (dsimp only; omega))⟩
      · have hdk : decide ((k : Int) < L) = false := decide_eq_false (by omega)
        have ek : k = ns.length := by omega
        subst ek
        have hne : ((((pn ns m ns.length : Nat) : Int)) != ((pn ns m ns.length : Nat) : Int)) = false := by simp
        clear sp1 sp2 hP
        (repeat (first | refine gq_KRE ?_ | (refine ga_KRE ?_; intro _hq)))
        exact ⟨w + 1, h5, ⟨by rfl, (by repeat (first | exact trivial | refine ⟨by rfl, ?_⟩ | refine ⟨vI_of (by rfl) (by omega), ?_⟩)), (by repeat (first | exact trivial | refine ⟨by rfl, ?_⟩ | refine ⟨vI_of (by rfl) (by omega), ?_⟩))⟩, (by first | omega | (dsimp only; omega))⟩
    · have hdw : decide ((w : Int) < 1 * 2 ^ L.toNat) = false := decide_eq_false (by omega)
      have e3 : (depM (stp bz0 cs) == depM (stp bz0 cs)) = true := by simp
      have e4 : (coL cs == coL cs) = true := by simp
      clear hP hr
      (repeat (first | refine gq_KRE ?_ | (refine ga_KRE ?_; intro _hq)))
      ((try refine aw_ret ?_); refine ret_auto2 (by rfl) (by rfl) (by rfl) (by repeat (first | exact trivial | refine ⟨by first | rfl | omega, ?_⟩)) ?_ (by repeat (first | exact trivial | refine ⟨by rfl, by rfl, ?_⟩)) (by repeat (first | exact trivial | refine ⟨by rfl, by rfl, ?_⟩)); try rfl)
      rw [e4]
      rfl
end Go.Proofs.Ythdniogjiokekaa
