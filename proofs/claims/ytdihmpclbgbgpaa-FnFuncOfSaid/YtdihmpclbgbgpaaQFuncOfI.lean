/- KNQ, RowD: laid into one text. -/
import Derived.Test.YtdihmpclbgbgpaaQFuncOfH
import Derived.ProofKit
import Derived.OpenShut
import Derived.ShutString
import Derived.ChangeOld
import Derived.Below
import Derived.Lib.SmallJoins
import Derived.Deep.Slices
import Derived.Deep.Strs

/- The law FnFuncOf. -/
namespace Go.Proofs.Ytdihmpclbgbgpaa
set_option linter.unusedVariables false
set_option linter.unusedSimpArgs false
set_option maxRecDepth 20000
open Go.RowKit
attribute [local irreducible] runA runX AW
def wsZQ : List (Nat × Nat) := [(29, 1), (999999, 0)]
theorem gq_KNQ {H G : Prop} (k : H) (h : Hid H → G := by (intro hh; (first | (first | ((first | refine r_none ?_ | refine r_gt (by rfl) (by rfl) (by first | rfl | assumption | omega | (simp only [*, Bool.not_false, Bool.not_true]; first | done | fail) | (simp [*]; first | done | fail)) (by rfl) ?_ | refine r_gf (by rfl) (by rfl) (by first | rfl | assumption | omega | (simp only [*, Bool.not_false, Bool.not_true]; first | done | fail) | (simp [*]; first | done | fail)) (by rfl) ?_); (first | fail | ((first | (refine z_op (by rfl) ?_; first | refine z_ok ?_ ?_ | refine z_ex ?_ (by first | exact ft_raw rfl rfl | ((first | refine ft_rp rfl rfl rfl ?_ | refine ft_row rfl rfl rfl ?_ | refine ft_rpF rfl rfl rfl ?_ | refine ft_rowF rfl rfl rfl ?_ | refine up_row rfl rfl ?_ | refine up_rowF rfl rfl rfl ?_ | refine ct_0 rfl ?_ | refine ct_r rfl rfl ?_ | refine ct_c rfl rfl rfl ?_ | refine cu_all rfl ?_ | refine cu_to rfl ?_ | refine cu_from rfl ?_ | refine cu_p rfl ?_ | (first | refine mk_c Int rfl rfl rfl ?_ | refine mk_0 Int rfl rfl ?_)); (first | omega | (simp only [List.length_append, List.length_replicate, List.length_cons, List.length_nil, List.length_set, List.length_take, List.length_drop, true_and]; omega))) | exact up_raw rfl | exact pk_t (by first | rfl | assumption | omega | (simp only [*, Bool.not_false, Bool.not_true]; first | done | fail) | (simp [*]; first | done | fail)) rfl | exact pk_f (by first | rfl | assumption | omega | (simp only [*, Bool.not_false, Bool.not_true]; first | done | fail) | (simp [*]; first | done | fail)) rfl | exact rw_c Int rfl | exact rw_raw | exact pu_cv (fun w => rfl) (by omega) | exact pu_of (fun w => rfl) rfl | exact be_of (fun w => rfl) | exact nc_of (fun _ _ _ _ => rfl) rfl | exact bu_of (fun w => rfl) rfl | fail) ?_) | ((first | refine q_callE wsT wsZQ (by rfl) ?_ | refine q_callVE wsT (by rfl) (by rfl) ?_); refine ⟨_, _, _, (by first | assumption | exact k_alive | exact k_open _ (by omega) | exact k_within _ _ _ | exact k_wv _ _), _, by rfl, ?_, ?_⟩)); focus (first | exact trivial | fail | exact rfl | (first | omega | (simp only [List.length_append, List.length_replicate, List.length_cons, List.length_nil, List.length_set, List.length_take, List.length_drop, true_and]; omega)) | exact cvB (fun w => rfl) | ((repeat' (first | exact rfl | exact cV_len _ | exact cV_ln rfl (by omega) | exact Cel.pos | omega | exact trivial | refine And.intro ?_ ?_)); done) | (simp [*]; done) | (simp; omega))) | fail)) | refine r_nt (by rfl) (by rfl) (by first | rfl | assumption | omega | (simp only [*, Bool.not_false, Bool.not_true]; first | done | fail) | (simp [*]; first | done | fail)) (by rfl) ?_ | refine r_nf (by rfl) (by rfl) (by first | rfl | assumption | omega | (simp only [*, Bool.not_false, Bool.not_true]; first | done | fail) | (simp [*]; first | done | fail)) (by rfl) ?_ | refine r_gu (by rfl) (by rfl) (by rfl) ?_ | refine r_nil ?_) | (first | refine aw_seq ?_ | refine aw_ct (by rfl) (by first | rfl | assumption | omega | (simp only [*, Bool.not_false, Bool.not_true]; first | done | fail) | (simp [*]; first | done | fail)) ?_ | refine aw_cf (by rfl) (by first | rfl | assumption | omega | (simp only [*, Bool.not_false, Bool.not_true]; first | done | fail) | (simp [*]; first | done | fail)) ?_ | refine aw_block ?_ | refine aw_region T0ok cfU_ok (by rfl) ?_ | refine aw_skip ?_ | refine aw_exit ?_ | refine ra_step ?_)); (repeat (first | (first | ((first | refine r_none ?_ | refine r_gt (by rfl) (by rfl) (by first | rfl | assumption | omega | (simp only [*, Bool.not_false, Bool.not_true]; first | done | fail) | (simp [*]; first | done | fail)) (by rfl) ?_ | refine r_gf (by rfl) (by rfl) (by first | rfl | assumption | omega | (simp only [*, Bool.not_false, Bool.not_true]; first | done | fail) | (simp [*]; first | done | fail)) (by rfl) ?_); (first | fail | ((first | (refine z_op (by rfl) ?_; first | refine z_ok ?_ ?_ | refine z_ex ?_ (by first | exact ft_raw rfl rfl | ((first | refine ft_rp rfl rfl rfl ?_ | refine ft_row rfl rfl rfl ?_ | refine ft_rpF rfl rfl rfl ?_ | refine ft_rowF rfl rfl rfl ?_ | refine up_row rfl rfl ?_ | refine up_rowF rfl rfl rfl ?_ | refine ct_0 rfl ?_ | refine ct_r rfl rfl ?_ | refine ct_c rfl rfl rfl ?_ | refine cu_all rfl ?_ | refine cu_to rfl ?_ | refine cu_from rfl ?_ | refine cu_p rfl ?_ | (first | refine mk_c Int rfl rfl rfl ?_ | refine mk_0 Int rfl rfl ?_)); (first | omega | (simp only [List.length_append, List.length_replicate, List.length_cons, List.length_nil, List.length_set, List.length_take, List.length_drop, true_and]; omega))) | exact up_raw rfl | exact pk_t (by first | rfl | assumption | omega | (simp only [*, Bool.not_false, Bool.not_true]; first | done | fail) | (simp [*]; first | done | fail)) rfl | exact pk_f (by first | rfl | assumption | omega | (simp only [*, Bool.not_false, Bool.not_true]; first | done | fail) | (simp [*]; first | done | fail)) rfl | exact rw_c Int rfl | exact rw_raw | exact pu_cv (fun w => rfl) (by omega) | exact pu_of (fun w => rfl) rfl | exact be_of (fun w => rfl) | exact nc_of (fun _ _ _ _ => rfl) rfl | exact bu_of (fun w => rfl) rfl | fail) ?_) | ((first | refine q_callE wsT wsZQ (by rfl) ?_ | refine q_callVE wsT (by rfl) (by rfl) ?_); refine ⟨_, _, _, (by first | assumption | exact k_alive | exact k_open _ (by omega) | exact k_within _ _ _ | exact k_wv _ _), _, by rfl, ?_, ?_⟩)); focus (first | exact trivial | fail | exact rfl | (first | omega | (simp only [List.length_append, List.length_replicate, List.length_cons, List.length_nil, List.length_set, List.length_take, List.length_drop, true_and]; omega)) | exact cvB (fun w => rfl) | ((repeat' (first | exact rfl | exact cV_len _ | exact cV_ln rfl (by omega) | exact Cel.pos | omega | exact trivial | refine And.intro ?_ ?_)); done) | (simp [*]; done) | (simp; omega))) | fail)) | refine r_nt (by rfl) (by rfl) (by first | rfl | assumption | omega | (simp only [*, Bool.not_false, Bool.not_true]; first | done | fail) | (simp [*]; first | done | fail)) (by rfl) ?_ | refine r_nf (by rfl) (by rfl) (by first | rfl | assumption | omega | (simp only [*, Bool.not_false, Bool.not_true]; first | done | fail) | (simp [*]; first | done | fail)) (by rfl) ?_ | refine r_gu (by rfl) (by rfl) (by rfl) ?_ | refine r_nil ?_) | (first | refine aw_seq ?_ | refine aw_ct (by rfl) (by first | rfl | assumption | omega | (simp only [*, Bool.not_false, Bool.not_true]; first | done | fail) | (simp [*]; first | done | fail)) ?_ | refine aw_cf (by rfl) (by first | rfl | assumption | omega | (simp only [*, Bool.not_false, Bool.not_true]; first | done | fail) | (simp [*]; first | done | fail)) ?_ | refine aw_block ?_ | refine aw_region T0ok cfU_ok (by rfl) ?_ | refine aw_skip ?_ | refine aw_exit ?_ | refine ra_step ?_))); exact hh.out)) : G := h ⟨k⟩
theorem ga_KNQ {H G : Prop} (k : H) (h : Hid H → G := by (intro hh; (first | refine r_none ?_ | refine r_gt (by rfl) (by rfl) (by first | rfl | assumption | omega | (simp only [*, Bool.not_false, Bool.not_true]; first | done | fail) | (simp [*]; first | done | fail)) (by rfl) ?_ | refine r_gf (by rfl) (by rfl) (by first | rfl | assumption | omega | (simp only [*, Bool.not_false, Bool.not_true]; first | done | fail) | (simp [*]; first | done | fail)) (by rfl) ?_); refine z_op (by rfl) ?_; refine z_alV ?_ hh.out; focus (first | exact trivial | fail | exact rfl | (first | omega | (simp only [List.length_append, List.length_replicate, List.length_cons, List.length_nil, List.length_set, List.length_take, List.length_drop, true_and]; omega)) | exact cvB (fun w => rfl) | ((repeat' (first | exact rfl | exact cV_len _ | exact cV_ln rfl (by omega) | exact Cel.pos | omega | exact trivial | refine And.intro ?_ ?_)); done) | (simp [*]; done) | (simp; omega)))) : G := h ⟨k⟩
theorem gd_KNQ {H G : Prop} (k : H) (h : Hid H → G := by (intro hh; (refine aw_draw mixed T0ok cfU_ok [] (by rfl) (by kernel_rfl) ?_); exact hh.out)) : G := h ⟨k⟩
theorem ex_dFu (l : List UInt8) (hl : l.length ≤ 100000000) : ∃ (v : Int) (a : List Stp), (0 ≤ v ∧ v ≤ 4) ∧ a.length ≤ 3 ∧ Kon Try.prog 27 [roA l] [] (.tup [.one (.v (.int .i64 v)), .one (.sl 0 0 a.length)]) [stRow a] [] := by
  have h2 : (l.take 2000).length ≤ 2000 := by simp; omega
  obtain ⟨v, a, c', h3, h4, h5, hK⟩ := ex_form (l.take 2000) 0 9 (by omega) (by omega)
  refine ⟨v, a, h3, h4, ?_⟩
  (refine kon_mk T0ok (fn := Try.f27) (c := Try.f27.body.get rfl) Try.func27 rfl (by rfl) (by rfl) (by rfl) ?_; intro hfit hfe)
  (repeat (first | refine gq_KNQ ?_ | (refine ga_KNQ ?_; intro _hq)))
  ((try refine aw_ret ?_); refine ret_auto2 (by rfl) (by rfl) (by rfl) (by repeat (first | exact trivial | refine ⟨by first | rfl | omega, ?_⟩)) ?_ (by repeat (first | exact trivial | refine ⟨by rfl, by rfl, ?_⟩)) (by repeat (first | exact trivial | refine ⟨by rfl, by rfl, ?_⟩)); try rfl)
theorem k_siQ (l : List Int) (h : l.length ≤ 10000000) : Kon Try.prog 29 [roA l, roA l] [] (vB true) [] [] := by
  have h1 : ((l.length : Int) != (l.length : Int)) = false := by simp
  have hg : ∀ x : Int, (x != x) = false := fun x => by simp
  (refine kon_mk T0ok (fn := Try.f29) (c := Try.f29.body.get rfl) Try.func29 rfl (by rfl) (by rfl) (by rfl) ?_; intro hfit hfe)
  (repeat (first | refine gq_KNQ ?_ | (refine ga_KNQ ?_; intro _hq)))
  (refine aw_rd [0, 1] [] (fun i : Nat => [(5, vI i)]) (fun _ => []) (fun i => i ≤ l.length) (fun i => l.length - i) 0 (by rfl) (by rfl) ?_ (by rfl) (by repeat (first | exact trivial | refine ⟨by rfl, ?_⟩ | refine ⟨vI_of (by rfl) (by omega), ?_⟩)) (by repeat (first | exact trivial | refine ⟨by rfl, ?_⟩ | refine ⟨vI_of (by rfl) (by omega), ?_⟩)) ?_)
  · exact Nat.zero_le _
  rintro i hi
  rcases Nat.lt_or_ge i l.length with h5 | h5
  · have hd : decide ((i : Int) < (l.length : Int)) = true := decide_eq_true (by omega)
    have hg := hg (l.getD (i : Int).toNat Cel.no)
    (repeat (first | refine gq_KNQ ?_ | (refine ga_KNQ ?_; intro _hq) | refine gd_KNQ ?_))
    exact ⟨i + 1, h5, ⟨by rfl, (by repeat (first | exact trivial | refine ⟨by rfl, ?_⟩ | refine ⟨vI_of (by rfl) (by omega), ?_⟩)), (by repeat (first | exact trivial | refine ⟨by rfl, ?_⟩ | refine ⟨vI_of (by rfl) (by omega), ?_⟩))⟩, (by first | omega | (dsimp only; omega))⟩
  · have hd : decide ((i : Int) < (l.length : Int)) = false := decide_eq_false (by omega)
    (repeat (first | refine gq_KNQ ?_ | (refine ga_KNQ ?_; intro _hq) | refine gd_KNQ ?_))
    ((try refine aw_ret ?_); refine ret_auto2 (by rfl) (by rfl) (by rfl) (by repeat (first | exact trivial | refine ⟨by first | rfl | omega, ?_⟩)) ?_ (by repeat (first | exact trivial | refine ⟨by rfl, by rfl, ?_⟩)) (by repeat (first | exact trivial | refine ⟨by rfl, by rfl, ?_⟩)); try rfl)
theorem k_bitQ (n w k : Int) (hw : wvB n w = true) (hk : 0 ≤ k ∧ k < n) : Kon Try.prog 31 [vI n, vI w, vI k] [] (vI (if bt w k then 1 else 0)) [] [] := by
  have hv := wvB_t hw
  have hb : btw k 0 (n - 1) = true := by unfold btw; rw [decide_eq_true hk.1, decide_eq_true (show k ≤ n - 1 by omega)]; rfl
  rw [← sb_and hv.2.1]
  (refine kon_mk T0ok (fn := Try.f31) (c := Try.f31.body.get rfl) Try.func31 rfl (by rfl) (by rfl) (by rfl) ?_; intro hfit hfe)
  (repeat (first | refine gq_KNQ ?_ | (refine ga_KNQ ?_; intro _hq)))
  ((try refine aw_ret ?_); refine ret_auto2 (by rfl) (by rfl) (by rfl) (by repeat (first | exact trivial | refine ⟨by first | rfl | omega, ?_⟩)) ?_ (by repeat (first | exact trivial | refine ⟨by rfl, by rfl, ?_⟩)) (by repeat (first | exact trivial | refine ⟨by rfl, by rfl, ?_⟩)); try rfl)
abbrev capF : AV := .g (.one (.fn 64 [(100000, 0)]))
abbrev boxQ (n : Int) : Ent := .rbx [.v (.int .i64 n)]
theorem k_fnV1 (w : Int) (h : wvB 1 w = true) : Kon Try.prog 64 [vI w, .g (.one (.ptr 100000 0 0))] [boxQ 1] (vB false) [] [boxQ 1] := by
  have hw := k_wv 1 w
  rw [h] at hw
  (refine kon_mk T0ok (fn := Try.f64) (c := Try.f64.body.get rfl) Try.func64 rfl (by rfl) (by rfl) (by rfl) ?_; intro hfit hfe)
  (repeat (first | refine gq_KNQ ?_ | (refine ga_KNQ ?_; intro _hq)))
  ((try refine aw_ret ?_); refine ret_auto2 (by rfl) (by rfl) (by rfl) (by repeat (first | exact trivial | refine ⟨by first | rfl | omega, ?_⟩)) ?_ (by repeat (first | exact trivial | refine ⟨by rfl, by rfl, ?_⟩)) (by repeat (first | exact trivial | refine ⟨by rfl, by rfl, ?_⟩)); try rfl)
theorem k_idxQ (l : List Int) (h : l.length ≤ 100000000) (hl : ∀ i : Nat, i < l.length → wvB 1 (l.getD i 0) = true) : Kon Try.prog 97 [roA l, capF] [boxQ 1] (vI (-1)) [] [boxQ 1] := by
  (refine kon_mk T0ok (fn := Try.f97) (c := Try.f97.body.get rfl) Try.func97 rfl (by rfl) (by rfl) (by rfl) ?_; intro hfit hfe)
  (repeat (first | refine gq_KNQ ?_ | (refine ga_KNQ ?_; intro _hq)))
  (refine aw_rd [0, 1, 7] [100000] (fun i : Nat => [(8, vI i)]) (fun _ => []) (fun i => i ≤ l.length) (fun i => l.length - i) 0 (by rfl) (by rfl) ?_ (by rfl) (by repeat (first | exact trivial | refine ⟨by rfl, ?_⟩ | refine ⟨vI_of (by rfl) (by omega), ?_⟩)) (by repeat (first | exact trivial | refine ⟨by rfl, ?_⟩ | refine ⟨vI_of (by rfl) (by omega), ?_⟩)) ?_)
  · exact Nat.zero_le _
  rintro i hi
  rcases Nat.lt_or_ge i l.length with h6 | h6
  · have hd : decide ((i : Int) < (l.length : Int)) = true := by simpa using h6
    have hK : Kon Try.prog 64 [vI (l.getD (i : Int).toNat Cel.no), .g (.one (.ptr 100000 0 0))] [boxQ 1] (vB false) [] [boxQ 1] := k_fnV1 _ (hl i h6)
    (repeat (first | refine gq_KNQ ?_ | (refine ga_KNQ ?_; intro _hq)))
    exact ⟨i + 1, h6, ⟨by rfl, (by repeat (first | exact trivial | refine ⟨by rfl, ?_⟩ | refine ⟨vI_of (by rfl) (by omega), ?_⟩)), (by repeat (first | exact trivial | refine ⟨by rfl, ?_⟩ | refine ⟨vI_of (by rfl) (by omega), ?_⟩))⟩, (by first | omega | (dsimp only; omega))⟩
  · have hd : decide ((i : Int) < (l.length : Int)) = false := by simp; omega
    (repeat (first | refine gq_KNQ ?_ | (refine ga_KNQ ?_; intro _hq)))
    ((try refine aw_ret ?_); refine ret_auto2 (by rfl) (by rfl) (by rfl) (by repeat (first | exact trivial | refine ⟨by first | rfl | omega, ?_⟩)) ?_ (by repeat (first | exact trivial | refine ⟨by rfl, by rfl, ?_⟩)) (by repeat (first | exact trivial | refine ⟨by rfl, by rfl, ?_⟩)); try rfl)
theorem k_cfQ (l : List Int) (h : l.length ≤ 100000000) (hl : ∀ i : Nat, i < l.length → wvB 1 (l.getD i 0) = true) : Kon Try.prog 63 [roA l, capF] [boxQ 1] (vB false) [] [boxQ 1] := by
  have hI := k_idxQ l h hl
  (refine kon_mk T0ok (fn := Try.f63) (c := Try.f63.body.get rfl) Try.func63 rfl (by rfl) (by rfl) (by rfl) ?_; intro hfit hfe)
  (repeat (first | refine gq_KNQ ?_ | (refine ga_KNQ ?_; intro _hq)))
  ((try refine aw_ret ?_); refine ret_auto2 (by rfl) (by rfl) (by rfl) (by repeat (first | exact trivial | refine ⟨by first | rfl | omega, ?_⟩)) ?_ (by repeat (first | exact trivial | refine ⟨by rfl, by rfl, ?_⟩)) (by repeat (first | exact trivial | refine ⟨by rfl, by rfl, ?_⟩)); try rfl)
theorem k_fnV (N : Int) (l : List Int) (hN : 1 ≤ N ∧ N ≤ 4) (hT : (1 * 2 ^ N.toNat : Int) = (l.length : Int)) (h : l.length ≤ 100000000) (hl : ∀ i : Nat, i < l.length → wvB 1 (l.getD i 0) = true) : Kon Try.prog 32 [vI N, vI 1, roA l] [] (vB true) [] [] := by
  have hI := k_cfQ l h hl
  have hb : btw N 1 4 = true := by unfold btw; rw [decide_eq_true hN.1, decide_eq_true hN.2]; rfl
  have hb2 : btw 1 1 4 = true := by decide
  have hx : ((l.length : Int) != 1 * 2 ^ N.toNat) = false := by rw [hT]; simp
  (refine kon_mk T0ok (fn := Try.f32) (c := Try.f32.body.get rfl) Try.func32 rfl (by rfl) (by rfl) (by rfl) ?_; intro hfit hfe)
  (repeat (first | refine gq_KNQ ?_ | (refine ga_KNQ ?_; intro _hq)))
  ((try refine aw_ret ?_); refine ret_auto2 (by rfl) (by rfl) (by rfl) (by repeat (first | exact trivial | refine ⟨by first | rfl | omega, ?_⟩)) ?_ (by repeat (first | exact trivial | refine ⟨by rfl, by rfl, ?_⟩)) (by repeat (first | exact trivial | refine ⟨by rfl, by rfl, ?_⟩)); try rfl)
/-- How often a number stands among the first ones. -/
def cnt (l : List Int) (x : Int) : Nat → Int
  | 0 => 0
  | i + 1 => cnt l x i + (if l.getD i 0 = x then 1 else 0)
theorem cnt_bd (l : List Int) (x : Int) : ∀ i : Nat, 0 ≤ cnt l x i ∧ cnt l x i ≤ (i : Int)
  | 0 => ⟨Int.le_refl _, Int.le_refl _⟩
  | i + 1 => by
    have := cnt_bd l x i
    rw [cnt]
    split <;> omega
theorem k_made (l : List Int) (h : l.length ≤ 1000) (hc : ∀ i : Nat, i < l.length → l.getD i 0 = 0 ∨ l.getD i 0 = 1) : Kon Try.prog 65 [vI 1, roA l] [] (slA 0 0 [cnt l 0 l.length, cnt l 1 l.length]) [iRow [cnt l 0 l.length, cnt l 1 l.length]] [] := by
  (refine kon_mk T0ok (fn := Try.f65) (c := Try.f65.body.get rfl) Try.func65 rfl (by rfl) (by rfl) (by rfl) ?_; intro hfit hfe)
  (repeat (first | refine gq_KNQ ?_ | (refine ga_KNQ ?_; intro _hq)))
  (refine aw_rd [4, 11, 12] [] (fun i : Nat => [(5, .g (.one (.sl 160 0 2))), (13, vI i)]) (fun i => [(160, (0, iRow [cnt l 0 i, cnt l 1 i]))]) (fun i => i ≤ l.length) (fun i => l.length - i) 0 (by rfl) (by rfl) ?_ (by rfl) (by repeat (first | exact trivial | refine ⟨by rfl, ?_⟩ | refine ⟨vI_of (by rfl) (by omega), ?_⟩)) (by repeat (first | exact trivial | refine ⟨by rfl, ?_⟩ | refine ⟨vI_of (by rfl) (by omega), ?_⟩)) ?_)
  · exact Nat.zero_le _
  rintro i hi
  have hc0 := cnt_bd l 0 i
  have hc1 := cnt_bd l 1 i
  rcases Nat.lt_or_ge i l.length with h5 | h5
  · have hd : decide ((i : Int) < (l.length : Int)) = true := by simpa using h5
    rcases hc i h5 with hx | hx
    · have e0 : cnt l 0 (i + 1) = cnt l 0 i + 1 := by rw [cnt, if_pos hx]
      have e1 : cnt l 1 (i + 1) = cnt l 1 i := by rw [cnt, if_neg (by rw [hx]; decide), Int.add_zero]
      replace hx : l.getD (i : Int).toNat Cel.no = 0 := hx
      have hv : ([cnt l 0 i, cnt l 1 i] : List Int).getD (l.getD (i : Int).toNat Cel.no).toNat Cel.no = cnt l 0 i := by rw [hx]; rfl
      have he : ([cnt l 0 i, cnt l 1 i] : List Int).set (l.getD (i : Int).toNat Cel.no).toNat (([cnt l 0 i, cnt l 1 i] : List Int).getD (l.getD (i : Int).toNat Cel.no).toNat Cel.no + 1) = [cnt l 0 (i + 1), cnt l 1 (i + 1)] := by rw [hv, hx, e0, e1]; rfl
      (repeat (first | refine gq_KNQ ?_ | (refine ga_KNQ ?_; intro _hq)))
      rw [he]
      exact ⟨i + 1, h5, ⟨by rfl, (by repeat (first | exact trivial | refine ⟨by rfl, ?_⟩ | refine ⟨vI_of (by rfl) (by omega), ?_⟩)), (by repeat (first | exact trivial | refine ⟨by rfl, ?_⟩ | refine ⟨vI_of (by rfl) (by omega), ?_⟩))⟩, (by first | omega | (dsimp only; omega))⟩
    · have e0 : cnt l 0 (i + 1) = cnt l 0 i := by rw [cnt, if_neg (by rw [hx]; decide), Int.add_zero]
      have e1 : cnt l 1 (i + 1) = cnt l 1 i + 1 := by rw [cnt, if_pos hx]
      replace hx : l.getD (i : Int).toNat Cel.no = 1 := hx
      have hv : ([cnt l 0 i, cnt l 1 i] : List Int).getD (l.getD (i : Int).toNat Cel.no).toNat Cel.no = cnt l 1 i := by rw [hx]; rfl
      have he : ([cnt l 0 i, cnt l 1 i] : List Int).set (l.getD (i : Int).toNat Cel.no).toNat (([cnt l 0 i, cnt l 1 i] : List Int).getD (l.getD (i : Int).toNat Cel.no).toNat Cel.no + 1) = [cnt l 0 (i + 1), cnt l 1 (i + 1)] := by rw [hv, hx, e0, e1]; rfl
      (repeat (first | refine gq_KNQ ?_ | (refine ga_KNQ ?_; intro _hq)))
      rw [he]
      exact ⟨i + 1, h5, ⟨by rfl, (by repeat (first | exact trivial | refine ⟨by rfl, ?_⟩ | refine ⟨vI_of (by rfl) (by omega), ?_⟩)), (by repeat (first | exact trivial | refine ⟨by rfl, ?_⟩ | refine ⟨vI_of (by rfl) (by omega), ?_⟩))⟩, (by first | omega | (dsimp only; omega))⟩
  · have hd : decide ((i : Int) < (l.length : Int)) = false := by simp; omega
    obtain rfl : i = l.length := by omega
    (repeat (first | refine gq_KNQ ?_ | (refine ga_KNQ ?_; intro _hq)))
    ((try refine aw_ret ?_); refine ret_auto2 (by rfl) (by rfl) (by rfl) (by repeat (first | exact trivial | refine ⟨by first | rfl | omega, ?_⟩)) ?_ (by repeat (first | exact trivial | refine ⟨by rfl, by rfl, ?_⟩)) (by repeat (first | exact trivial | refine ⟨by rfl, by rfl, ?_⟩)); try rfl)
theorem k_many (N : Int) (l : List Int) (hN : 1 ≤ N ∧ N ≤ 4) (hT : (1 * 2 ^ N.toNat : Int) = (l.length : Int)) (h : l.length ≤ 1000) (hl : ∀ i : Nat, i < l.length → wvB 1 (l.getD i 0) = true) (hc : ∀ i : Nat, i < l.length → l.getD i 0 = 0 ∨ l.getD i 0 = 1) : Kon Try.prog 33 [vI N, vI 1, roA l, vI 1] [] (vI (cnt l 1 l.length)) [] [] := by
  have hF := k_fnV N l hN hT (by omega) hl
  have hM := k_made l h hc
  have hw : wvB 1 1 = true := by decide
  have hW := k_wv 1 1
  rw [hw] at hW
  (refine kon_mk T0ok (fn := Try.f33) (c := Try.f33.body.get rfl) Try.func33 rfl (by rfl) (by rfl) (by rfl) ?_; intro hfit hfe)
  (repeat (first | refine gq_KNQ ?_ | (refine ga_KNQ ?_; intro _hq)))
  ((try refine aw_ret ?_); refine ret_auto2 (by rfl) (by rfl) (by rfl) (by repeat (first | exact trivial | refine ⟨by first | rfl | omega, ?_⟩)) ?_ (by repeat (first | exact trivial | refine ⟨by rfl, by rfl, ?_⟩)) (by repeat (first | exact trivial | refine ⟨by rfl, by rfl, ?_⟩)); try rfl)
theorem foC_cnt (n : Int) (f : List Stp) (T : Nat) : ∀ i : Nat, i ≤ T → cnt (foL n f T) 1 i = foC n f i
  | 0, _ => rfl
  | i + 1, h => by
    rw [cnt, foC, foC_cnt n f T i (by omega), foL_get n f T i (by omega)]
    cases clB n f (i : Int) <;> rfl
set_option maxHeartbeats 4000000 in
theorem k_lawFu (l : List UInt8) : Kon Try.prog 6 [roA l] [] (vB true) [] [] := by
  rcases Nat.lt_or_ge 1048576 l.length with h0 | h0
  · have hd : decide ((l.length : Int) > 1048576) = true := decide_eq_true (by omega)
    (refine kon_mk T0ok (fn := Try.f6) (c := Try.f6.body.get rfl) Try.func6 rfl (by rfl) (by rfl) (by rfl) ?_; intro hfit hfe)
    (repeat (first | refine gq_KNQ ?_ | (refine ga_KNQ ?_; intro _hq)))
    ((try refine aw_ret ?_); refine ret_auto2 (by rfl) (by rfl) (by rfl) (by repeat (first | exact trivial | refine ⟨by first | rfl | omega, ?_⟩)) ?_ (by repeat (first | exact trivial | refine ⟨by rfl, by rfl, ?_⟩)) (by repeat (first | exact trivial | refine ⟨by rfl, by rfl, ?_⟩)); try rfl)
  have hd : decide ((l.length : Int) > 1048576) = false := decide_eq_false (by omega)
  obtain ⟨n, f, hn, hf, hD⟩ := ex_dFu l (by omega)
  have hFS := k_fvS n f (by omega) (by omega)
  cases hc : fok n f with
  | false =>
    have hI := k_fuI0 n f (by omega) (by omega) hc
    have hS := k_fuS0 n f (by omega) hn hc
    have q0 : Kon Try.prog 29 [.g (.one (.ro 1 0 [])), .g (.one (.ro 1 0 []))] [] (vB true) [] [] := k_siQ [] (by decide)
    rw [hc] at hFS
    (refine kon_mk T0ok (fn := Try.f6) (c := Try.f6.body.get rfl) Try.func6 rfl (by rfl) (by rfl) (by rfl) ?_; intro hfit hfe)
    (repeat (first | refine gq_KNQ ?_ | (refine ga_KNQ ?_; intro _hq)))
    ((try refine aw_ret ?_); refine ret_auto2 (by rfl) (by rfl) (by rfl) (by repeat (first | exact trivial | refine ⟨by first | rfl | omega, ?_⟩)) ?_ (by repeat (first | exact trivial | refine ⟨by rfl, by rfl, ?_⟩)) (by repeat (first | exact trivial | refine ⟨by rfl, by rfl, ?_⟩)); try rfl)
  | true =>
    rw [hc] at hFS
    obtain ⟨hn3, hfl, hst⟩ := fok_t hc
    obtain ⟨N, rfl⟩ : ∃ N : Nat, n = (N : Int) := ⟨n.toNat, by omega⟩
    have hI := k_fuI N f hc
    have hS := k_fuS N f hc
    have hO := k_on N f hc
    have hL := k_fl (N : Int) f hc
    have hCl := k_clI (N : Int) f hc
    have hlen := foL_len (N : Int) f (2 ^ N)
    have hQ := k_siQ (foL (N : Int) f (2 ^ N)) (by rw [hlen]; have : 2 ^ N ≤ 2 ^ 3 := Nat.pow_le_pow_right (by omega) (by omega); omega)
    have hcok := cl_ok hc
    have hr1 := fun w hw => cl_run (w := w) hc hw
    have hcl24 := (cokB_t hcok).2.1
    have hget := foL_get (N : Int) f (2 ^ N)
    have hcb := foC_cnt (N : Int) f (2 ^ N) (2 ^ N) (Nat.le_refl _)
    obtain ⟨T, hT, hTN⟩ : ∃ T : Nat, (1 * 2 ^ (N : Int).toNat : Int) = (T : Int) ∧ T = 2 ^ N := ⟨2 ^ N, by rw [Int.toNat_natCast]; simp, rfl⟩
    rw [← hTN] at hlen hget hcb hI hS hO hQ
    have hT8 : T ≤ 8 := by rw [hTN]; have : 2 ^ N ≤ 2 ^ 3 := Nat.pow_le_pow_right (by omega) (by omega); omega
    have hx01 : ∀ i : Nat, i < T → (foL (N : Int) f T).getD i 0 = 0 ∨ (foL (N : Int) f T).getD i 0 = 1 := fun i hi => by
      rw [hget i hi]; cases clB (N : Int) f (i : Int)
      · exact .inl rfl
      · exact .inr rfl
    have hval := k_fnV (N : Int) (foL (N : Int) f T) (by omega) (by rw [hlen]; exact hT) (by omega) (fun i hi => by
      rcases hx01 i (by omega) with h | h <;> rw [h] <;> decide)
    have hmany := k_many (N : Int) (foL (N : Int) f T) (by omega) (by rw [hlen]; exact hT) (by omega) (fun i hi => by
      rcases hx01 i (by omega) with h | h <;> rw [h] <;> decide) (fun i hi => hx01 i (by omega))
    rw [hlen, hcb] at hmany
    generalize cl (N : Int) f = C at *
    generalize hFo : foL (N : Int) f T = F at *
    generalize foC (N : Int) f T = O at *
    have hxo : (O == O) = true := by simp
    obtain ⟨L, hLe⟩ : ∃ L : Int, (N : Int) + (f.length : Int) + 1 = L := ⟨_, rfl⟩
    have hL1 : (N : Int) + (f.length : Int) = L - 1 := by omega
    rw [hLe] at hcok hL
    rw [hL1] at hr1
    have hp1 : (2 : Int) ^ (N : Int).toNat ≤ 2 ^ (L - 1).toNat := pow_le2 (by omega)
    have hp2 : (2 : Int) ^ L.toNat = 2 ^ (L - 1).toNat * 2 := by rw [show L.toNat = (L - 1).toNat + 1 by omega, Int.pow_succ]
    have hp3 : (2 : Int) ^ L.toNat ≤ 256 := pow_le2 (b := 8) (by omega)
    have hp4 : (0 : Int) < 2 ^ (L - 1).toNat := Int.pow_pos (by decide)
    clear hc hst hFo hcb hx01
    (refine kon_mk T0ok (fn := Try.f6) (c := Try.f6.body.get rfl) Try.func6 rfl (by rfl) (by rfl) (by rfl) ?_; intro hfit hfe)
    (repeat (first | refine gq_KNQ ?_ | (refine ga_KNQ ?_; intro _hq)))
    (refine aw_rd [0, 2, 3, 4, 5, 6] [208, 288] (fun i : Nat => [(7, vI i)]) (fun _ => []) (fun i => i ≤ T) (fun i => T - i) 0 (by rfl) (by rfl) ?_ (by rfl) (by repeat (first | exact trivial | refine ⟨by rfl, ?_⟩ | refine ⟨vI_of (by rfl) (by omega), ?_⟩)) (by repeat (first | exact trivial | refine ⟨by rfl, ?_⟩ | refine ⟨vI_of (by rfl) (by omega), ?_⟩)) ?_)
    · exact Nat.zero_le _
    rintro i hi
    rcases Nat.lt_or_ge i T with h5 | h5
    · have hd0 : decide ((i : Int) < (F.length : Int)) = true := decide_eq_true (by omega)
      have hw : 0 ≤ (i : Int) ∧ (i : Int) < 2 ^ (L - 1).toNat := by omega
      have hA := k_crun L C (i : Int) (by omega) (by omega)
      rw [crM_t hcok (wvB_mk (by omega) (by omega)), hr1 (i : Int) (by omega)] at hA
      have hbit : Kon Try.prog 31 [vI L, vI ((i : Int) + b2i (clB (N : Int) f (i : Int)) * 2 ^ (L - 1).toNat), vI (L - 1)] [] (vI (b2i (clB (N : Int) f (i : Int)))) [] [] := by
        cases hb : clB (N : Int) f (i : Int) with
        | false =>
          have e : (i : Int) + b2i false * 2 ^ (L - 1).toNat = (i : Int) := by simp [b2i]
          have hK := k_bitQ L (i : Int) (L - 1) (wvB_mk (by omega) (by omega)) (by omega)
          rw [bt_hi hw (Int.le_refl _)] at hK
          rw [e]; exact hK
        | true =>
          have e : (i : Int) + b2i true * 2 ^ (L - 1).toNat = (i : Int) + 2 ^ (L - 1).toNat := by simp [b2i]
          have hK := k_bitQ L ((i : Int) + 2 ^ (L - 1).toNat) (L - 1) (wvB_mk (by omega) (by omega)) (by omega)
          rw [add_bt hw (L - 1), bt_hi hw (Int.le_refl _), decide_eq_true rfl] at hK
          rw [e]; exact hK
      have hg : (b2i (clB (N : Int) f (i : Int)) != F.getD (i : Int).toNat Cel.no) = false := by
        have h6 : F.getD (i : Int).toNat Cel.no = b2i (clB (N : Int) f (i : Int)) := hget i h5
        rw [h6]; simp
      clear hget hr1
      generalize b2i (clB (N : Int) f (i : Int)) = B at *
      (repeat (first | refine gq_KNQ ?_ | (refine ga_KNQ ?_; intro _hq)))
      (repeat (first | refine gq_KNQ ?_ | (refine ga_KNQ ?_; intro _hq) | refine gd_KNQ ?_))
      exact ⟨i + 1, h5, ⟨by rfl, (by repeat (first | exact trivial | refine ⟨by rfl, ?_⟩ | refine ⟨vI_of (by rfl) (by omega), ?_⟩)), (by repeat (first | exact trivial | refine ⟨by rfl, ?_⟩ | refine ⟨vI_of (by rfl) (by omega), ?_⟩))⟩, (by first | omega | (dsimp only; omega))⟩
    · obtain rfl : i = T := by omega
      have hd0 : decide ((i : Int) < (F.length : Int)) = false := decide_eq_false (by omega)
      clear hget hr1
      (repeat (first | refine gq_KNQ ?_ | (refine ga_KNQ ?_; intro _hq)))
      ((try refine aw_ret ?_); refine ret_auto2 (by rfl) (by rfl) (by rfl) (by repeat (first | exact trivial | refine ⟨by first | rfl | omega, ?_⟩)) ?_ (by repeat (first | exact trivial | refine ⟨by rfl, by rfl, ?_⟩)) (by repeat (first | exact trivial | refine ⟨by rfl, by rfl, ?_⟩)); try rfl)
      rw [hxo]; rfl
end Go.Proofs.Ytdihmpclbgbgpaa

/- How arguments that came in read: slices of whatever elements. -/
namespace Go.Proofs.Ytdihmpclbgbgpaa
set_option linter.unusedVariables false
set_option linter.unusedSimpArgs false
open Go.ChangeShapes Go.WideShapes Go.ChangeAt Go.RowKit Go.Joins Go.Deep

theorem own : ownKnob Try.prog.godebug = none := by kernel_rfl
theorem laidOut : laidOutB Try.prog = true := by kernel_rfl
/-- The frame of a row's proof, from its walk: the arguments opened by the caller. -/
theorem row_end {H : Type} {enc : TypeId × Value → H} {W : World} {t : TypeId} {v : Value} {d : DataW H} {p : List MemPlace} (h : DataW.Trod enc Try.prog W 0 (fun _ => true) true t v d p) : ∀ x ∈ p, x.block < W.heap.size := by
  obtain ⟨m, hm⟩ := h; exact DataW.trod_lt m _ _ _ hm
theorem add_plain (b off j : Nat) : (⟨b, off, none⟩ : Addr).add j = ⟨b, off + j, none⟩ := by
  unfold Addr.add; split <;> simp_all
theorem list_of {α : Type} (p : Nat → α → Prop) (n : Nat) (h : ∀ j, j < n → ∃ v, p j v) : ∃ l : List α, l.length = n ∧ ∀ j (hj : j < l.length), p j l[j] := by
  induction n with
  | zero => exact ⟨[], rfl, fun j hj => by simp at hj⟩
  | succ n ih =>
    obtain ⟨l, hl, hp⟩ := ih fun j hj => h j (by omega)
    obtain ⟨v, hv⟩ := h n (by omega)
    refine ⟨l ++ [v], by simp [hl], fun j hj => ?_⟩
    by_cases hlt : j < l.length
    · rw [List.getElem_append_left hlt]; exact hp j hlt
    · have e : j = l.length := by simp at hj; omega
      subst e
      simp [hl, hv]
section
variable {H : Type} {enc : TypeId × Value → H} {P : Program} {w : World} {α : Type} [Cel α]
/-- Cells of a type are those of an element. -/
def OpensC (enc : TypeId × Value → H) (P : Program) (w : World) (e : TypeId) (α : Type) [Cel α] : Prop := ∀ n cs x, DataW.trod enc P w 0 (fun _ => true) true n e cs = some x → ∃ a : α, cs = Cel.f a
theorem mapM_get {α β : Type} {f : α → Option β} : ∀ {l : List α} {r : List β}, l.mapM f = some r → r.length = l.length ∧ ∀ (j : Nat) (x : α), l[j]? = some x → ∃ y, r[j]? = some y ∧ f x = some y
  | [], r, h => by
    simp at h; subst h; exact ⟨rfl, fun j x hj => by simp at hj⟩
  | a :: l, r, h => by
    rw [List.mapM_cons] at h
    cases ha : f a with
    | none => simp [ha] at h
    | some y =>
      cases hl : l.mapM f with
      | none => simp [ha, hl] at h
      | some r' =>
        simp [ha, hl] at h
        subst h
        obtain ⟨h1, h2⟩ := mapM_get hl
        refine ⟨by simp [h1], fun j x hj => ?_⟩
        cases j with
        | zero => simp at hj; subst hj; exact ⟨y, rfl, ha⟩
        | succ j => obtain ⟨z, hz, hf⟩ := h2 j x (by simpa using hj); exact ⟨z, by simpa using hz, hf⟩
theorem ro_of_trod {t e : TypeId} {fuel : Nat} {v : Value} {y : DataW H × List MemPlace} (ht : P.underlying t = some (.slice e)) (hc : P.cellsOf e = Cel.sz α) (ho : OpensC enc P w e α)
    (h : DataW.trod enc P w 0 (fun _ => true) true fuel t [v] = some y) : ∃ l : List α, Rep0 w (.g (.one (.ro (Cel.sz α) l.length (cV l)))) v := by
  rcases open_slice ht h with ⟨hcs, _⟩ | ⟨a, len, cap, m, n, D, Pl, hcs, _, hl, hm, hmm, rfl, hx⟩
  · simp at hcs
    subst hcs
    exact ⟨[], ⟨by simp, rfl⟩, none, 0, rfl, Nat.le_refl _, by unfold maxLen; omega, fun h => absurd h (Nat.lt_irrefl _)⟩
  · simp at hcs
    subst hcs
    simp at hmm
    subst hmm
    rw [hc] at hx
    obtain ⟨l, hll, hlp⟩ := list_of (fun j (u : α) => w.cells? 0 (a.add (j * Cel.sz α)) (Cel.sz α) = some (Cel.f u)) len fun j hj => by
      obtain ⟨cs', h1, h2⟩ := hx j (by omega)
      obtain ⟨u, rfl⟩ := ho _ _ _ h2
      exact ⟨u, h1⟩
    have hcell : ∀ (j o : Nat) (hj : j < l.length) (ho : o < Cel.sz α), ∃ x, (Cel.f l[j])[o]? = some x ∧ w.cell? ((a.add (j * Cel.sz α)).add o) = some x := by
      intro j o hj ho
      have h1 := hlp j hj
      unfold World.cells? at h1
      rw [if_pos (Nat.zero_le _)] at h1
      obtain ⟨_, h2⟩ := mapM_get h1
      obtain ⟨x, h3, h4⟩ := h2 o o (by simp [ho])
      exact ⟨x, h3, h4⟩
    refine ⟨l, ⟨by rw [cV_len], cV_one l⟩, some a, m, by rw [hll], by omega, hm, fun hn => ?_⟩
    obtain ⟨b, off, spot⟩ := a
    have hspot : spot = none := by
      obtain ⟨x, _, h2⟩ := hcell 0 0 hn Cel.pos
      have := World.cell?_spot h2
      simpa [Addr.add] using this
    subst hspot
    refine ⟨b, off, rfl, ?_, fun j x hj => ?_⟩
    · obtain ⟨x, _, h2⟩ := hcell 0 0 hn Cel.pos
      rw [add_plain, add_plain] at h2
      exact World.block_lt_of_cell? w _ h2
    · have hpos : 0 < Cel.sz α := Cel.pos
      have hlt : j < l.length * Cel.sz α := by rw [← cV_len]; exact (List.getElem?_eq_some_iff.1 hj).1
      have hdm := Nat.div_add_mod j (Cel.sz α)
      have hml := Nat.mod_lt j hpos
      have hdl : j / Cel.sz α < l.length := Nat.div_lt_of_lt_mul (by rw [Nat.mul_comm]; exact hlt)
      obtain ⟨y, h1, h2⟩ := hcell (j / Cel.sz α) (j % Cel.sz α) hdl hml
      rw [add_plain, add_plain] at h2
      have e1 : l.getD (j / Cel.sz α) Cel.no = l[j / Cel.sz α] := by simp [List.getD_eq_getElem?_getD, hdl]
      have h3 := cV_cell (l := l) (j := j / Cel.sz α) (o := j % Cel.sz α) (v := y) hdl (by rw [e1]; exact h1)
      have e2 : j / Cel.sz α * Cel.sz α + j % Cel.sz α = j := by rw [Nat.mul_comm]; exact hdm
      rw [e2, hj] at h3
      cases h3
      rw [show off + j = off + j / Cel.sz α * Cel.sz α + j % Cel.sz α by omega]
      exact h2
end
section
variable {H : Type} {enc : TypeId × Value → H} {P : Program} {w : World}
theorem opens_byte {e : TypeId} (he : P.underlying e = some (.int .u8)) : OpensC enc P w e UInt8 := by
  intro n cs x h
  obtain ⟨k, h1, _, hw⟩ := DataW.trod_int he h
  have h2 : 0 ≤ k ∧ k < 256 := by
    simp [Lit.wf, IntKind.min, IntKind.max, IntKind.signed, IntKind.bits] at hw
    omega
  refine ⟨UInt8.ofNat k.toNat, ?_⟩
  rw [h1]
  show [Value.int .u8 k] = [Value.int .u8 ((UInt8.ofNat k.toNat).toNat : Int)]
  simp only [UInt8.toNat_ofNat']
  rw [Nat.mod_eq_of_lt (by omega)]
  congr 2
  omega
theorem slice_shape {e t : TypeId} {v : Value} {d : DataW H} {ps : List MemPlace} {r : Reach} {b0 : Nat} (ht : P.underlying t = some (.slice e)) (hval : Value.okWide P w r b0 t v) (h : DataW.Trod enc P w 0 (fun _ => true) true t v d ps) : ∃ fuel y, DataW.trod enc P w 0 (fun _ => true) true fuel t [v] = some y := by
  obtain ⟨A, n, c, rfl⟩ := okWide_slice ht hval
  obtain ⟨fuel, hf⟩ := h
  exact ⟨fuel, _, hf⟩
/-- Bytes that came in. -/
theorem bytes_of_trod {e t : TypeId} {v : Value} {d : DataW H} {ps : List MemPlace} {r : Reach} {b0 : Nat} (ht : P.underlying t = some (.slice e)) (he : P.underlying e = some (.int .u8)) (hc : P.cellsOf e = 1) (hval : Value.okWide P w r b0 t v) (h : DataW.Trod enc P w 0 (fun _ => true) true t v d ps) :
    ∃ l : List UInt8, Rep0 w (roA l) v := by
  obtain ⟨fuel, y, hf⟩ := slice_shape ht hval h
  exact ro_of_trod (α := UInt8) ht hc (opens_byte he) hf
end
section
variable {H : Type} {enc : TypeId × Value → H} {P : Program} {w : World}
end
/-- A law answers true and leaves what was there, by its contract. -/
theorem law_of_kon {P : Program} {f : FuncId} {aa : List AV} (h : Kon P f aa [] (vB true) [] []) {vs : Array Value} {w : World} (hs : vs.size = aa.length) (hr : ∀ (j : Nat) (a : AV), aa[j]? = some a → ∃ z, vs[j]? = some z ∧ Rep0 w a z) :
    Calls P f vs w fun e w' => e = .returned (.bool true) ∧ Below w.heap.size w w' := by
  obtain ⟨C, hC, hCe⟩ := h
  exact law_run hC hCe hs hr
end Go.Proofs.Ytdihmpclbgbgpaa
