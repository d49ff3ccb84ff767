/- LR, LN, RowD, RowE, RowG, GL, LV, LS, LT: laid into one text. -/
import Derived.Test.YtjhdfkifpmmefaaDoorQLinesE
import Derived.Test.YtjhdfkifpmmefaaDoorQLinesF
import Derived.Test.YtjhdfkifpmmefaaDoorQLinesJ
import Derived.Test.YtjhdfkifpmmefaaDoorQLinesK
import Derived.Test.YtjhdfkifpmmefaaDoorQLinesM
import Derived.Test.YtjhdfkifpmmefaaDoorQLinesN
import Derived.Test.YtjhdfkifpmmefaaDoorQLinesO
import Derived.Test.YtjhdfkifpmmefaaDoorQLinesP
import Derived.ProofKit
import Derived.OpenShut
import Derived.ShutString
import Derived.ChangeOld
import Derived.Below
import Derived.Lib.SmallJoins
import Derived.Deep.Slices
import Derived.Deep.Strs
import Derived.ChangeMaps5
import Derived.HandedShaped
import Derived.Test.YtjhdfkifpmmefaaDoorRows
import Derived.Shelf.Vars
import Derived.Stop.LaidErr
import Derived.LaidMore

/- What both readers find. -/
namespace Go.Proofs.YtjhdfkifpmmefaaDoor
set_option linter.unusedVariables false
set_option linter.unusedSimpArgs false
set_option maxRecDepth 20000
open Go.RowKit
open Go.Lib (decDigits)
attribute [local irreducible] runA runX AW
theorem gq_LR {H G : Prop} (k : H) (h : Hid H → G := by (intro hh; (first | (first | ((first | refine r_none ?_ | refine r_gt (by rfl) (by rfl) (by first | rfl | assumption | omega | (simp only [*, Bool.not_false, Bool.not_true]; first | done | fail) | (simp [*]; first | done | fail)) (by rfl) ?_ | refine r_gf (by rfl) (by rfl) (by first | rfl | assumption | omega | (simp only [*, Bool.not_false, Bool.not_true]; first | done | fail) | (simp [*]; first | done | fail)) (by rfl) ?_); (first | (first | refine r_seq (by rfl) (by rfl) (by rfl) ?_ | refine r_sne (by rfl) (by rfl) (by rfl) ?_) | ((first | (refine z_op (by rfl) ?_; first | refine z_ok ?_ ?_ | refine z_ex ?_ (by first | exact ft_raw rfl rfl | ((first | refine ft_rp rfl rfl rfl ?_ | refine ft_row rfl rfl rfl ?_ | refine ft_rpF rfl rfl rfl ?_ | refine ft_rowF rfl rfl rfl ?_ | refine up_row rfl rfl ?_ | refine up_rowF rfl rfl rfl ?_ | refine ct_0 rfl ?_ | refine ct_r rfl rfl ?_ | refine ct_c rfl rfl rfl ?_ | refine cu_all rfl ?_ | refine cu_to rfl ?_ | refine cu_from rfl ?_ | refine cu_p rfl ?_ | fail); (first | omega | (simp only [List.length_append, List.length_replicate, List.length_cons, List.length_nil, List.length_set, List.length_take, List.length_drop, true_and]; omega))) | exact up_raw rfl | exact pk_t (by first | rfl | assumption | omega | (simp only [*, Bool.not_false, Bool.not_true]; first | done | fail) | (simp [*]; first | done | fail)) rfl | exact pk_f (by first | rfl | assumption | omega | (simp only [*, Bool.not_false, Bool.not_true]; first | done | fail) | (simp [*]; first | done | fail)) rfl | fail | exact rw_raw | exact pu_cv (fun w => rfl) (by omega) | exact pu_of (fun w => rfl) rfl | exact be_of (fun w => rfl) | exact nc_of (fun _ _ _ _ => rfl) rfl | exact bu_of (fun w => rfl) rfl | fail) ?_) | ((first | refine q_callE wsT wsZ (by rfl) ?_ | refine q_callVE wsT (by rfl) (by rfl) ?_); refine ⟨_, _, _, (by first | assumption | exact k_ltS _ _ _ _), _, by rfl, ?_, ?_⟩)); focus (first | exact trivial | fail | exact rfl | (first | omega | (simp only [List.length_append, List.length_replicate, List.length_cons, List.length_nil, List.length_set, List.length_take, List.length_drop, true_and]; omega)) | exact cvB (fun w => rfl) | ((repeat' (first | exact rfl | exact cV_len _ | exact cV_ln rfl (by omega) | exact Cel.pos | omega | exact trivial | refine And.intro ?_ ?_)); done) | (simp [*]; done) | (simp; omega))) | fail)) | refine r_nt (by rfl) (by rfl) (by first | rfl | assumption | omega | (simp only [*, Bool.not_false, Bool.not_true]; first | done | fail) | (simp [*]; first | done | fail)) (by rfl) ?_ | refine r_nf (by rfl) (by rfl) (by first | rfl | assumption | omega | (simp only [*, Bool.not_false, Bool.not_true]; first | done | fail) | (simp [*]; first | done | fail)) (by rfl) ?_ | refine r_gu (by rfl) (by rfl) (by rfl) ?_ | refine r_nil ?_) | (first | refine aw_seq ?_ | refine aw_ct (by rfl) (by first | rfl | assumption | omega | (simp only [*, Bool.not_false, Bool.not_true]; first | done | fail) | (simp [*]; first | done | fail)) ?_ | refine aw_cf (by rfl) (by first | rfl | assumption | omega | (simp only [*, Bool.not_false, Bool.not_true]; first | done | fail) | (simp [*]; first | done | fail)) ?_ | refine aw_block ?_ | refine aw_region T0ok cfU_ok (by rfl) ?_ | refine aw_skip ?_ | refine aw_exit ?_ | refine ra_step ?_)); (repeat (first | (first | ((first | refine r_none ?_ | refine r_gt (by rfl) (by rfl) (by first | rfl | assumption | omega | (simp only [*, Bool.not_false, Bool.not_true]; first | done | fail) | (simp [*]; first | done | fail)) (by rfl) ?_ | refine r_gf (by rfl) (by rfl) (by first | rfl | assumption | omega | (simp only [*, Bool.not_false, Bool.not_true]; first | done | fail) | (simp [*]; first | done | fail)) (by rfl) ?_); (first | (first | refine r_seq (by rfl) (by rfl) (by rfl) ?_ | refine r_sne (by rfl) (by rfl) (by rfl) ?_) | ((first | (refine z_op (by rfl) ?_; first | refine z_ok ?_ ?_ | refine z_ex ?_ (by first | exact ft_raw rfl rfl | ((first | refine ft_rp rfl rfl rfl ?_ | refine ft_row rfl rfl rfl ?_ | refine ft_rpF rfl rfl rfl ?_ | refine ft_rowF rfl rfl rfl ?_ | refine up_row rfl rfl ?_ | refine up_rowF rfl rfl rfl ?_ | refine ct_0 rfl ?_ | refine ct_r rfl rfl ?_ | refine ct_c rfl rfl rfl ?_ | refine cu_all rfl ?_ | refine cu_to rfl ?_ | refine cu_from rfl ?_ | refine cu_p rfl ?_ | fail); (first | omega | (simp only [List.length_append, List.length_replicate, List.length_cons, List.length_nil, List.length_set, List.length_take, List.length_drop, true_and]; omega))) | exact up_raw rfl | exact pk_t (by first | rfl | assumption | omega | (simp only [*, Bool.not_false, Bool.not_true]; first | done | fail) | (simp [*]; first | done | fail)) rfl | exact pk_f (by first | rfl | assumption | omega | (simp only [*, Bool.not_false, Bool.not_true]; first | done | fail) | (simp [*]; first | done | fail)) rfl | fail | exact rw_raw | exact pu_cv (fun w => rfl) (by omega) | exact pu_of (fun w => rfl) rfl | exact be_of (fun w => rfl) | exact nc_of (fun _ _ _ _ => rfl) rfl | exact bu_of (fun w => rfl) rfl | fail) ?_) | ((first | refine q_callE wsT wsZ (by rfl) ?_ | refine q_callVE wsT (by rfl) (by rfl) ?_); refine ⟨_, _, _, (by first | assumption | exact k_ltS _ _ _ _), _, by rfl, ?_, ?_⟩)); focus (first | exact trivial | fail | exact rfl | (first | omega | (simp only [List.length_append, List.length_replicate, List.length_cons, List.length_nil, List.length_set, List.length_take, List.length_drop, true_and]; omega)) | exact cvB (fun w => rfl) | ((repeat' (first | exact rfl | exact cV_len _ | exact cV_ln rfl (by omega) | exact Cel.pos | omega | exact trivial | refine And.intro ?_ ?_)); done) | (simp [*]; done) | (simp; omega))) | fail)) | refine r_nt (by rfl) (by rfl) (by first | rfl | assumption | omega | (simp only [*, Bool.not_false, Bool.not_true]; first | done | fail) | (simp [*]; first | done | fail)) (by rfl) ?_ | refine r_nf (by rfl) (by rfl) (by first | rfl | assumption | omega | (simp only [*, Bool.not_false, Bool.not_true]; first | done | fail) | (simp [*]; first | done | fail)) (by rfl) ?_ | refine r_gu (by rfl) (by rfl) (by rfl) ?_ | refine r_nil ?_) | (first | refine aw_seq ?_ | refine aw_ct (by rfl) (by first | rfl | assumption | omega | (simp only [*, Bool.not_false, Bool.not_true]; first | done | fail) | (simp [*]; first | done | fail)) ?_ | refine aw_cf (by rfl) (by first | rfl | assumption | omega | (simp only [*, Bool.not_false, Bool.not_true]; first | done | fail) | (simp [*]; first | done | fail)) ?_ | refine aw_block ?_ | refine aw_region T0ok cfU_ok (by rfl) ?_ | refine aw_skip ?_ | refine aw_exit ?_ | refine ra_step ?_))); exact hh.out)) : G := h ⟨k⟩
theorem ga_LR {H G : Prop} (k : H) (h : Hid H → G := by (intro hh; (first | refine r_none ?_ | refine r_gt (by rfl) (by rfl) (by first | rfl | assumption | omega | (simp only [*, Bool.not_false, Bool.not_true]; first | done | fail) | (simp [*]; first | done | fail)) (by rfl) ?_ | refine r_gf (by rfl) (by rfl) (by first | rfl | assumption | omega | (simp only [*, Bool.not_false, Bool.not_true]; first | done | fail) | (simp [*]; first | done | fail)) (by rfl) ?_); refine z_op (by rfl) ?_; refine z_alV ?_ hh.out; focus (first | exact trivial | fail | exact rfl | (first | omega | (simp only [List.length_append, List.length_replicate, List.length_cons, List.length_nil, List.length_set, List.length_take, List.length_drop, true_and]; omega)) | exact cvB (fun w => rfl) | ((repeat' (first | exact rfl | exact cV_len _ | exact cV_ln rfl (by omega) | exact Cel.pos | omega | exact trivial | refine And.intro ?_ ?_)); done) | (simp [*]; done) | (simp; omega)))) : G := h ⟨k⟩
theorem cutA_get (c : UInt8) : ∀ (l acc : List UInt8) (i : Nat), ((cutA c acc l).getD i []).length ≤ acc.length + l.length
  | [], acc, i => by
    rw [cutA]
    cases i with
    | zero => simp
    | succ i => simp
  | b :: l, acc, i => by
    rw [cutA]
    split
    · cases i with
      | zero => simp
      | succ i =>
        have := cutA_get c l [] i
        simp at this ⊢
        omega
    · have := cutA_get c l (acc ++ [b]) i
      simp at this ⊢
      omega
theorem k_rlS_e : Kon Tryd.prog 17 [vS []] [] (tupL 0 0 0 0 false) [] [] := by
  have hC := k_cut [] (by decide)
  have hne : (!(([] : List UInt8) == [])) = false := rfl
  have e : cutA 32 [] [] = [[]] := rfl
  rw [e] at hC
  (refine kon_mk T0ok (fn := Tryd.f17) (c := Tryd.f17.body.get rfl) Tryd.func17 rfl (by rfl) (by rfl) (by rfl) ?_; intro hfit hfe)
  (repeat (first | refine gq_LR ?_ | (refine ga_LR ?_; intro _hq)))
  refine aw_unroll 10 ?_
  (repeat (first | refine gq_LR ?_ | (refine ga_LR ?_; intro _hq)))
  ((try refine aw_ret ?_); refine ret_auto2 (by rfl) (by rfl) (by rfl) (by repeat (first | exact trivial | refine ⟨by first | rfl | omega, ?_⟩)) ?_ (by repeat (first | exact trivial | refine ⟨by rfl, by rfl, ?_⟩)) (by repeat (first | exact trivial | refine ⟨by rfl, by rfl, ?_⟩)); try rfl)
theorem no_ltx {s : List UInt8} (hs : s ≠ []) (h : ∀ k v w n, ¬ Ok s k v w n) (k v w n : Int) : (ltx k v w n == s) = false := by
  rw [Bool.eq_false_iff]
  intro e
  exact h _ _ _ _ ((ltx_eq hs).1 e)
/-- What Atoi says of a text. -/
theorem atoi_ex (s : List UInt8) (hs : s.length ≤ 7000000) : (∃ v : Int, Kon Tryd.prog 44 [vS s] [] (tupI v (.v .nilIface)) [] []) ∨ (∃ v : Int, Kon Tryd.prog 44 [vS s] [] (tupI v .er) [] []) := by
  by_cases h : ∃ v, Go.Lib.atoiAll s = .ok v
  · obtain ⟨v, hv⟩ := h
    exact .inl ⟨v, k_atoiOk s v hs hv⟩
  · exact .inr (k_atoiNo s hs fun v hv => h ⟨v, hv⟩)
theorem atoi_dd (n : Int) (h : 0 ≤ n ∧ n < 100) : Kon Tryd.prog 44 [vS (decDigits n.toNat)] [] (tupI n (.v .nilIface)) [] [] := by
  have h1 := dd2_of (n := n.toNat) (by omega)
  have h2 := h1.2.1
  rw [nn h.1] at h2
  exact k_atoiOk _ n (by omega) h2
theorem rl_ok0 (s : List UInt8) (hs : s.length ≤ 7000000) (hne : s ≠ []) (v w n : Int) (h : Ok s 0 v w n) : Kon Tryd.prog 17 [vS s] [] (tupL 0 v w n true) [] [] ∧ Kon Tryd.prog 16 [vS s] [] (tupL 0 v w n true) [] [] := by
  have hne2 : (!(s == [])) = true := by rw [Bool.not_eq_true', beq_eq_false_iff_ne]; exact hne
  refine ⟨?_, ?_⟩
  · obtain ⟨e1, e2, e3⟩ := ok_sp h
    have hk := k_rlS0 s (wdA s) (wdB s) hs hne2 rfl rfl  (sp_self h)
    rw [← e1, ← e2, ← e3]
    exact hk
  · have hx : ltx 0 v w n = s := by unfold ltx; rw [if_pos h.1]; exact h.2
    have ht : (ltx 0 v w n == s) = true := by rw [hx]; simp
    have hc := lnT_cut h.1
    rw [h.2] at hc
    obtain ⟨hv, hw, _, rfl⟩ := lokA_t (by decide) h.1
    exact k_rl0_2t s _ hs hc (Nat.le_of_ble_eq_true rfl) rfl (Nat.le_of_ble_eq_true rfl) v (atoi_dd v (by omega)) (Nat.le_of_ble_eq_true rfl) w (atoi_dd w (by omega)) ht
theorem rl_ok1 (s : List UInt8) (hs : s.length ≤ 7000000) (hne : s ≠ []) (v w n : Int) (h : Ok s 1 v w n) : Kon Tryd.prog 17 [vS s] [] (tupL 1 v w n true) [] [] ∧ Kon Tryd.prog 16 [vS s] [] (tupL 1 v w n true) [] [] := by
  have hne2 : (!(s == [])) = true := by rw [Bool.not_eq_true', beq_eq_false_iff_ne]; exact hne
  refine ⟨?_, ?_⟩
  · obtain ⟨e1, e2, e3⟩ := ok_sp h
    have hk := k_rlS1 s (wdA s) (wdB s) hs hne2 rfl rfl (sp_other hne h (j := 0) (a := wdA s) (b := wdB s) (by decide)) (sp_self h)
    rw [← e1, ← e2, ← e3]
    exact hk
  · have hx : ltx 1 v w n = s := by unfold ltx; rw [if_pos h.1]; exact h.2
    have ht : (ltx 1 v w n == s) = true := by rw [hx]; simp
    have hc := lnT_cut h.1
    rw [h.2] at hc
    obtain ⟨hv, hw, _, rfl⟩ := lokA_t (by decide) h.1
    exact k_rl1_2t s _ hs hc (Nat.le_of_ble_eq_true rfl) rfl (Nat.le_of_ble_eq_true rfl) v (atoi_dd v (by omega)) (Nat.le_of_ble_eq_true rfl) w (atoi_dd w (by omega)) ht
theorem rl_ok2 (s : List UInt8) (hs : s.length ≤ 7000000) (hne : s ≠ []) (v w n : Int) (h : Ok s 2 v w n) : Kon Tryd.prog 17 [vS s] [] (tupL 2 v w n true) [] [] ∧ Kon Tryd.prog 16 [vS s] [] (tupL 2 v w n true) [] [] := by
  have hne2 : (!(s == [])) = true := by rw [Bool.not_eq_true', beq_eq_false_iff_ne]; exact hne
  refine ⟨?_, ?_⟩
  · obtain ⟨e1, e2, e3⟩ := ok_sp h
    have hk := k_rlS2 s (wdA s) (wdB s) hs hne2 rfl rfl (sp_other hne h (j := 0) (a := wdA s) (b := wdB s) (by decide)) (sp_other hne h (j := 1) (a := wdA s) (b := wdB s) (by decide)) (sp_self h)
    rw [← e1, ← e2, ← e3]
    exact hk
  · have hx : ltx 2 v w n = s := by unfold ltx; rw [if_pos h.1]; exact h.2
    have ht : (ltx 2 v w n == s) = true := by rw [hx]; simp
    have hc := lnT_cut h.1
    rw [h.2] at hc
    obtain ⟨hv, rfl, hn⟩ := lokB_t (by decide) h.1
    exact k_rl2_2t s _ hs hc (Nat.le_of_ble_eq_true rfl) rfl (Nat.le_of_ble_eq_true rfl) v (atoi_dd v (by omega)) (Nat.le_of_ble_eq_true rfl) n (atoi_dd n (by omega)) ht
theorem rl_ok3 (s : List UInt8) (hs : s.length ≤ 7000000) (hne : s ≠ []) (v w n : Int) (h : Ok s 3 v w n) : Kon Tryd.prog 17 [vS s] [] (tupL 3 v w n true) [] [] ∧ Kon Tryd.prog 16 [vS s] [] (tupL 3 v w n true) [] [] := by
  have hne2 : (!(s == [])) = true := by rw [Bool.not_eq_true', beq_eq_false_iff_ne]; exact hne
  refine ⟨?_, ?_⟩
  · obtain ⟨e1, e2, e3⟩ := ok_sp h
    have hk := k_rlS3 s (wdA s) (wdB s) hs hne2 rfl rfl (sp_other hne h (j := 0) (a := wdA s) (b := wdB s) (by decide)) (sp_other hne h (j := 1) (a := wdA s) (b := wdB s) (by decide)) (sp_other hne h (j := 2) (a := wdA s) (b := wdB s) (by decide)) (sp_self h)
    rw [← e1, ← e2, ← e3]
    exact hk
  · have hx : ltx 3 v w n = s := by unfold ltx; rw [if_pos h.1]; exact h.2
    have ht : (ltx 3 v w n == s) = true := by rw [hx]; simp
    have hc := lnT_cut h.1
    rw [h.2] at hc
    obtain ⟨hv, hw, _, rfl⟩ := lokA_t (by decide) h.1
    exact k_rl3_2t s _ hs hc (Nat.le_of_ble_eq_true rfl) rfl (Nat.le_of_ble_eq_true rfl) v (atoi_dd v (by omega)) (Nat.le_of_ble_eq_true rfl) w (atoi_dd w (by omega)) ht
theorem rl_ok4 (s : List UInt8) (hs : s.length ≤ 7000000) (hne : s ≠ []) (v w n : Int) (h : Ok s 4 v w n) : Kon Tryd.prog 17 [vS s] [] (tupL 4 v w n true) [] [] ∧ Kon Tryd.prog 16 [vS s] [] (tupL 4 v w n true) [] [] := by
  have hne2 : (!(s == [])) = true := by rw [Bool.not_eq_true', beq_eq_false_iff_ne]; exact hne
  refine ⟨?_, ?_⟩
  · obtain ⟨e1, e2, e3⟩ := ok_sp h
    have hk := k_rlS4 s (wdA s) (wdB s) hs hne2 rfl rfl (sp_other hne h (j := 0) (a := wdA s) (b := wdB s) (by decide)) (sp_other hne h (j := 1) (a := wdA s) (b := wdB s) (by decide)) (sp_other hne h (j := 2) (a := wdA s) (b := wdB s) (by decide)) (sp_other hne h (j := 3) (a := wdA s) (b := wdB s) (by decide)) (sp_self h)
    rw [← e1, ← e2, ← e3]
    exact hk
  · have hx : ltx 4 v w n = s := by unfold ltx; rw [if_pos h.1]; exact h.2
    have ht : (ltx 4 v w n == s) = true := by rw [hx]; simp
    have hc := lnT_cut h.1
    rw [h.2] at hc
    obtain ⟨rfl, rfl, hn⟩ := lokC_t h.1
    exact k_rl4_1t s _ hs hc (Nat.le_of_ble_eq_true rfl) rfl (Nat.le_of_ble_eq_true rfl) n (atoi_dd n (by omega)) ht
theorem rl_ok5 (s : List UInt8) (hs : s.length ≤ 7000000) (hne : s ≠ []) (v w n : Int) (h : Ok s 5 v w n) : Kon Tryd.prog 17 [vS s] [] (tupL 5 v w n true) [] [] ∧ Kon Tryd.prog 16 [vS s] [] (tupL 5 v w n true) [] [] := by
  have hne2 : (!(s == [])) = true := by rw [Bool.not_eq_true', beq_eq_false_iff_ne]; exact hne
  refine ⟨?_, ?_⟩
  · obtain ⟨e1, e2, e3⟩ := ok_sp h
    have hk := k_rlS5 s (wdA s) (wdB s) hs hne2 rfl rfl (sp_other hne h (j := 0) (a := wdA s) (b := wdB s) (by decide)) (sp_other hne h (j := 1) (a := wdA s) (b := wdB s) (by decide)) (sp_other hne h (j := 2) (a := wdA s) (b := wdB s) (by decide)) (sp_other hne h (j := 3) (a := wdA s) (b := wdB s) (by decide)) (sp_other hne h (j := 4) (a := wdA s) (b := wdB s) (by decide)) (sp_self h)
    rw [← e1, ← e2, ← e3]
    exact hk
  · have hx : ltx 5 v w n = s := by unfold ltx; rw [if_pos h.1]; exact h.2
    have ht : (ltx 5 v w n == s) = true := by rw [hx]; simp
    have hc := lnT_cut h.1
    rw [h.2] at hc
    obtain ⟨rfl, rfl, rfl⟩ := lokD_t (by decide) h.1
    exact k_rl5_0t s _ hs hc (Nat.le_of_ble_eq_true rfl) rfl ht
theorem rl_ok6 (s : List UInt8) (hs : s.length ≤ 7000000) (hne : s ≠ []) (v w n : Int) (h : Ok s 6 v w n) : Kon Tryd.prog 17 [vS s] [] (tupL 6 v w n true) [] [] ∧ Kon Tryd.prog 16 [vS s] [] (tupL 6 v w n true) [] [] := by
  have hne2 : (!(s == [])) = true := by rw [Bool.not_eq_true', beq_eq_false_iff_ne]; exact hne
  refine ⟨?_, ?_⟩
  · obtain ⟨e1, e2, e3⟩ := ok_sp h
    have hk := k_rlS6 s (wdA s) (wdB s) hs hne2 rfl rfl (sp_other hne h (j := 0) (a := wdA s) (b := wdB s) (by decide)) (sp_other hne h (j := 1) (a := wdA s) (b := wdB s) (by decide)) (sp_other hne h (j := 2) (a := wdA s) (b := wdB s) (by decide)) (sp_other hne h (j := 3) (a := wdA s) (b := wdB s) (by decide)) (sp_other hne h (j := 4) (a := wdA s) (b := wdB s) (by decide)) (sp_other hne h (j := 5) (a := wdA s) (b := wdB s) (by decide)) (sp_self h)
    rw [← e1, ← e2, ← e3]
    exact hk
  · have hx : ltx 6 v w n = s := by unfold ltx; rw [if_pos h.1]; exact h.2
    have ht : (ltx 6 v w n == s) = true := by rw [hx]; simp
    have hc := lnT_cut h.1
    rw [h.2] at hc
    obtain ⟨hv, rfl, hn⟩ := lokB_t (by decide) h.1
    exact k_rl6_2t s _ hs hc (Nat.le_of_ble_eq_true rfl) rfl (Nat.le_of_ble_eq_true rfl) v (atoi_dd v (by omega)) (Nat.le_of_ble_eq_true rfl) n (atoi_dd n (by omega)) ht
theorem rl_ok7 (s : List UInt8) (hs : s.length ≤ 7000000) (hne : s ≠ []) (v w n : Int) (h : Ok s 7 v w n) : Kon Tryd.prog 17 [vS s] [] (tupL 7 v w n true) [] [] ∧ Kon Tryd.prog 16 [vS s] [] (tupL 7 v w n true) [] [] := by
  have hne2 : (!(s == [])) = true := by rw [Bool.not_eq_true', beq_eq_false_iff_ne]; exact hne
  refine ⟨?_, ?_⟩
  · obtain ⟨e1, e2, e3⟩ := ok_sp h
    have hk := k_rlS7 s (wdA s) (wdB s) hs hne2 rfl rfl (sp_other hne h (j := 0) (a := wdA s) (b := wdB s) (by decide)) (sp_other hne h (j := 1) (a := wdA s) (b := wdB s) (by decide)) (sp_other hne h (j := 2) (a := wdA s) (b := wdB s) (by decide)) (sp_other hne h (j := 3) (a := wdA s) (b := wdB s) (by decide)) (sp_other hne h (j := 4) (a := wdA s) (b := wdB s) (by decide)) (sp_other hne h (j := 5) (a := wdA s) (b := wdB s) (by decide)) (sp_other hne h (j := 6) (a := wdA s) (b := wdB s) (by decide)) (sp_self h)
    rw [← e1, ← e2, ← e3]
    exact hk
  · have hx : ltx 7 v w n = s := by unfold ltx; rw [if_pos h.1]; exact h.2
    have ht : (ltx 7 v w n == s) = true := by rw [hx]; simp
    have hc := lnT_cut h.1
    rw [h.2] at hc
    obtain ⟨rfl, rfl, rfl⟩ := lokD_t (by decide) h.1
    exact k_rl7_0t s _ hs hc (Nat.le_of_ble_eq_true rfl) rfl ht
theorem rl_ok8 (s : List UInt8) (hs : s.length ≤ 7000000) (hne : s ≠ []) (v w n : Int) (h : Ok s 8 v w n) : Kon Tryd.prog 17 [vS s] [] (tupL 8 v w n true) [] [] ∧ Kon Tryd.prog 16 [vS s] [] (tupL 8 v w n true) [] [] := by
  have hne2 : (!(s == [])) = true := by rw [Bool.not_eq_true', beq_eq_false_iff_ne]; exact hne
  refine ⟨?_, ?_⟩
  · obtain ⟨e1, e2, e3⟩ := ok_sp h
    have hk := k_rlS8 s (wdA s) (wdB s) hs hne2 rfl rfl (sp_other hne h (j := 0) (a := wdA s) (b := wdB s) (by decide)) (sp_other hne h (j := 1) (a := wdA s) (b := wdB s) (by decide)) (sp_other hne h (j := 2) (a := wdA s) (b := wdB s) (by decide)) (sp_other hne h (j := 3) (a := wdA s) (b := wdB s) (by decide)) (sp_other hne h (j := 4) (a := wdA s) (b := wdB s) (by decide)) (sp_other hne h (j := 5) (a := wdA s) (b := wdB s) (by decide)) (sp_other hne h (j := 6) (a := wdA s) (b := wdB s) (by decide)) (sp_other hne h (j := 7) (a := wdA s) (b := wdB s) (by decide)) (sp_self h)
    rw [← e1, ← e2, ← e3]
    exact hk
  · have hx : ltx 8 v w n = s := by unfold ltx; rw [if_pos h.1]; exact h.2
    have ht : (ltx 8 v w n == s) = true := by rw [hx]; simp
    have hc := lnT_cut h.1
    rw [h.2] at hc
    obtain ⟨hv, rfl, hn⟩ := lokB_t (by decide) h.1
    exact k_rl8_2t s _ hs hc (Nat.le_of_ble_eq_true rfl) rfl (Nat.le_of_ble_eq_true rfl) v (atoi_dd v (by omega)) (Nat.le_of_ble_eq_true rfl) n (atoi_dd n (by omega)) ht
theorem rl_no0 (s : List UInt8) (hs : s.length ≤ 7000000) (hne : s ≠ []) (h : ∀ k v w n, ¬ Ok s k v w n) (hw0 : (cutA 32 [] s).getD 0 [] = l9W 0) : Kon Tryd.prog 16 [vS s] [] (tupL 0 0 0 0 false) [] [] := by
  have hl := (cutA_len 32 s []).1
  have g1 := cutA_get 32 s [] 1
  have g2 := cutA_get 32 s [] 2
  simp only [List.length_nil, Nat.zero_add] at g1 g2
  have hn := no_ltx hne h
  rcases Nat.lt_or_ge 1 (cutA 32 [] s).length with h1 | h1
  · rcases atoi_ex _ (Nat.le_trans g1 hs) with ⟨vx, hx⟩ | ⟨ex, hx⟩
    · rcases Nat.lt_or_ge 2 (cutA 32 [] s).length with h2 | h2
      · rcases atoi_ex _ (Nat.le_trans g2 hs) with ⟨vy, hy⟩ | ⟨ey, hy⟩
        · exact k_rl0_2f s _ hs rfl hl hw0 h1 vx hx h2 vy hy (hn _ _ _ _)
        · exact k_rl0_2e s _ hs rfl hl hw0 h1 vx hx h2 ey hy
      · exact k_rl0_1f s _ hs rfl hl hw0 (by omega) vx hx (hn _ _ _ _)
    · exact k_rl0_1e s _ hs rfl hl hw0 h1 ex hx
  · exact k_rl0_0f s _ hs rfl hl hw0 (by omega) (hn _ _ _ _)
theorem rl_no1 (s : List UInt8) (hs : s.length ≤ 7000000) (hne : s ≠ []) (h : ∀ k v w n, ¬ Ok s k v w n) (hw0 : (cutA 32 [] s).getD 0 [] = l9W 1) : Kon Tryd.prog 16 [vS s] [] (tupL 0 0 0 0 false) [] [] := by
  have hl := (cutA_len 32 s []).1
  have g1 := cutA_get 32 s [] 1
  have g2 := cutA_get 32 s [] 2
  simp only [List.length_nil, Nat.zero_add] at g1 g2
  have hn := no_ltx hne h
  rcases Nat.lt_or_ge 1 (cutA 32 [] s).length with h1 | h1
  · rcases atoi_ex _ (Nat.le_trans g1 hs) with ⟨vx, hx⟩ | ⟨ex, hx⟩
    · rcases Nat.lt_or_ge 2 (cutA 32 [] s).length with h2 | h2
      · rcases atoi_ex _ (Nat.le_trans g2 hs) with ⟨vy, hy⟩ | ⟨ey, hy⟩
        · exact k_rl1_2f s _ hs rfl hl hw0 h1 vx hx h2 vy hy (hn _ _ _ _)
        · exact k_rl1_2e s _ hs rfl hl hw0 h1 vx hx h2 ey hy
      · exact k_rl1_1f s _ hs rfl hl hw0 (by omega) vx hx (hn _ _ _ _)
    · exact k_rl1_1e s _ hs rfl hl hw0 h1 ex hx
  · exact k_rl1_0f s _ hs rfl hl hw0 (by omega) (hn _ _ _ _)
theorem rl_no2 (s : List UInt8) (hs : s.length ≤ 7000000) (hne : s ≠ []) (h : ∀ k v w n, ¬ Ok s k v w n) (hw0 : (cutA 32 [] s).getD 0 [] = l9W 2) : Kon Tryd.prog 16 [vS s] [] (tupL 0 0 0 0 false) [] [] := by
  have hl := (cutA_len 32 s []).1
  have g1 := cutA_get 32 s [] 1
  have g2 := cutA_get 32 s [] 2
  simp only [List.length_nil, Nat.zero_add] at g1 g2
  have hn := no_ltx hne h
  rcases Nat.lt_or_ge 1 (cutA 32 [] s).length with h1 | h1
  · rcases atoi_ex _ (Nat.le_trans g1 hs) with ⟨vx, hx⟩ | ⟨ex, hx⟩
    · rcases Nat.lt_or_ge 2 (cutA 32 [] s).length with h2 | h2
      · rcases atoi_ex _ (Nat.le_trans g2 hs) with ⟨vy, hy⟩ | ⟨ey, hy⟩
        · exact k_rl2_2f s _ hs rfl hl hw0 h1 vx hx h2 vy hy (hn _ _ _ _)
        · exact k_rl2_2e s _ hs rfl hl hw0 h1 vx hx h2 ey hy
      · exact k_rl2_1f s _ hs rfl hl hw0 (by omega) vx hx (hn _ _ _ _)
    · exact k_rl2_1e s _ hs rfl hl hw0 h1 ex hx
  · exact k_rl2_0f s _ hs rfl hl hw0 (by omega) (hn _ _ _ _)
theorem rl_no3 (s : List UInt8) (hs : s.length ≤ 7000000) (hne : s ≠ []) (h : ∀ k v w n, ¬ Ok s k v w n) (hw0 : (cutA 32 [] s).getD 0 [] = l9W 3) : Kon Tryd.prog 16 [vS s] [] (tupL 0 0 0 0 false) [] [] := by
  have hl := (cutA_len 32 s []).1
  have g1 := cutA_get 32 s [] 1
  have g2 := cutA_get 32 s [] 2
  simp only [List.length_nil, Nat.zero_add] at g1 g2
  have hn := no_ltx hne h
  rcases Nat.lt_or_ge 1 (cutA 32 [] s).length with h1 | h1
  · rcases atoi_ex _ (Nat.le_trans g1 hs) with ⟨vx, hx⟩ | ⟨ex, hx⟩
    · rcases Nat.lt_or_ge 2 (cutA 32 [] s).length with h2 | h2
      · rcases atoi_ex _ (Nat.le_trans g2 hs) with ⟨vy, hy⟩ | ⟨ey, hy⟩
        · exact k_rl3_2f s _ hs rfl hl hw0 h1 vx hx h2 vy hy (hn _ _ _ _)
        · exact k_rl3_2e s _ hs rfl hl hw0 h1 vx hx h2 ey hy
      · exact k_rl3_1f s _ hs rfl hl hw0 (by omega) vx hx (hn _ _ _ _)
    · exact k_rl3_1e s _ hs rfl hl hw0 h1 ex hx
  · exact k_rl3_0f s _ hs rfl hl hw0 (by omega) (hn _ _ _ _)
theorem rl_no4 (s : List UInt8) (hs : s.length ≤ 7000000) (hne : s ≠ []) (h : ∀ k v w n, ¬ Ok s k v w n) (hw0 : (cutA 32 [] s).getD 0 [] = l9W 4) : Kon Tryd.prog 16 [vS s] [] (tupL 0 0 0 0 false) [] [] := by
  have hl := (cutA_len 32 s []).1
  have g1 := cutA_get 32 s [] 1
  have g2 := cutA_get 32 s [] 2
  simp only [List.length_nil, Nat.zero_add] at g1 g2
  have hn := no_ltx hne h
  rcases Nat.lt_or_ge 1 (cutA 32 [] s).length with h1 | h1
  · rcases atoi_ex _ (Nat.le_trans g1 hs) with ⟨vx, hx⟩ | ⟨ex, hx⟩
    · exact k_rl4_1f s _ hs rfl hl hw0 h1 vx hx (hn _ _ _ _)
    · exact k_rl4_1e s _ hs rfl hl hw0 h1 ex hx
  · exact k_rl4_0f s _ hs rfl hl hw0 (by omega) (hn _ _ _ _)
theorem rl_no5 (s : List UInt8) (hs : s.length ≤ 7000000) (hne : s ≠ []) (h : ∀ k v w n, ¬ Ok s k v w n) (hw0 : (cutA 32 [] s).getD 0 [] = l9W 5) : Kon Tryd.prog 16 [vS s] [] (tupL 0 0 0 0 false) [] [] := by
  have hl := (cutA_len 32 s []).1
  have g1 := cutA_get 32 s [] 1
  have g2 := cutA_get 32 s [] 2
  simp only [List.length_nil, Nat.zero_add] at g1 g2
  have hn := no_ltx hne h
  exact k_rl5_0f s _ hs rfl hl hw0 (hn _ _ _ _)
theorem rl_no6 (s : List UInt8) (hs : s.length ≤ 7000000) (hne : s ≠ []) (h : ∀ k v w n, ¬ Ok s k v w n) (hw0 : (cutA 32 [] s).getD 0 [] = l9W 6) : Kon Tryd.prog 16 [vS s] [] (tupL 0 0 0 0 false) [] [] := by
  have hl := (cutA_len 32 s []).1
  have g1 := cutA_get 32 s [] 1
  have g2 := cutA_get 32 s [] 2
  simp only [List.length_nil, Nat.zero_add] at g1 g2
  have hn := no_ltx hne h
  rcases Nat.lt_or_ge 1 (cutA 32 [] s).length with h1 | h1
  · rcases atoi_ex _ (Nat.le_trans g1 hs) with ⟨vx, hx⟩ | ⟨ex, hx⟩
    · rcases Nat.lt_or_ge 2 (cutA 32 [] s).length with h2 | h2
      · rcases atoi_ex _ (Nat.le_trans g2 hs) with ⟨vy, hy⟩ | ⟨ey, hy⟩
        · exact k_rl6_2f s _ hs rfl hl hw0 h1 vx hx h2 vy hy (hn _ _ _ _)
        · exact k_rl6_2e s _ hs rfl hl hw0 h1 vx hx h2 ey hy
      · exact k_rl6_1f s _ hs rfl hl hw0 (by omega) vx hx (hn _ _ _ _)
    · exact k_rl6_1e s _ hs rfl hl hw0 h1 ex hx
  · exact k_rl6_0f s _ hs rfl hl hw0 (by omega) (hn _ _ _ _)
theorem rl_no7 (s : List UInt8) (hs : s.length ≤ 7000000) (hne : s ≠ []) (h : ∀ k v w n, ¬ Ok s k v w n) (hw0 : (cutA 32 [] s).getD 0 [] = l9W 7) : Kon Tryd.prog 16 [vS s] [] (tupL 0 0 0 0 false) [] [] := by
  have hl := (cutA_len 32 s []).1
  have g1 := cutA_get 32 s [] 1
  have g2 := cutA_get 32 s [] 2
  simp only [List.length_nil, Nat.zero_add] at g1 g2
  have hn := no_ltx hne h
  exact k_rl7_0f s _ hs rfl hl hw0 (hn _ _ _ _)
theorem rl_no8 (s : List UInt8) (hs : s.length ≤ 7000000) (hne : s ≠ []) (h : ∀ k v w n, ¬ Ok s k v w n) (hw0 : (cutA 32 [] s).getD 0 [] = l9W 8) : Kon Tryd.prog 16 [vS s] [] (tupL 0 0 0 0 false) [] [] := by
  have hl := (cutA_len 32 s []).1
  have g1 := cutA_get 32 s [] 1
  have g2 := cutA_get 32 s [] 2
  simp only [List.length_nil, Nat.zero_add] at g1 g2
  have hn := no_ltx hne h
  rcases Nat.lt_or_ge 1 (cutA 32 [] s).length with h1 | h1
  · rcases atoi_ex _ (Nat.le_trans g1 hs) with ⟨vx, hx⟩ | ⟨ex, hx⟩
    · rcases Nat.lt_or_ge 2 (cutA 32 [] s).length with h2 | h2
      · rcases atoi_ex _ (Nat.le_trans g2 hs) with ⟨vy, hy⟩ | ⟨ey, hy⟩
        · exact k_rl8_2f s _ hs rfl hl hw0 h1 vx hx h2 vy hy (hn _ _ _ _)
        · exact k_rl8_2e s _ hs rfl hl hw0 h1 vx hx h2 ey hy
      · exact k_rl8_1f s _ hs rfl hl hw0 (by omega) vx hx (hn _ _ _ _)
    · exact k_rl8_1e s _ hs rfl hl hw0 h1 ex hx
  · exact k_rl8_0f s _ hs rfl hl hw0 (by omega) (hn _ _ _ _)
theorem rl_ex (s : List UInt8) (hs : s.length ≤ 7000000) : ∃ (k v w n : Int) (b : Bool), Kon Tryd.prog 17 [vS s] [] (tupL k v w n b) [] [] ∧ Kon Tryd.prog 16 [vS s] [] (tupL k v w n b) [] [] ∧
    ((b = true ∧ Ok s k v w n) ∨ (b = false ∧ k = 0 ∧ v = 0 ∧ w = 0 ∧ n = 0 ∧ ∀ k v w n, ¬ Ok s k v w n)) := by
  by_cases hne : s = []
  · subst hne
    refine ⟨0, 0, 0, 0, false, k_rlS_e, k_rlN [] _ hs rfl (by decide) (fun k hk e => ?_), .inr ⟨rfl, rfl, rfl, rfl, rfl, fun k v w n h => lnT_ne h.2⟩⟩
    have := l9W_len k
    rw [← e] at this
    simp [cutA] at this
  by_cases h : ∃ k v w n, Ok s k v w n
  · obtain ⟨k, v, w, n, h⟩ := h
    have hb := kind_bd h.1
    refine ⟨k, v, w, n, true, ?_⟩
    have : Kon Tryd.prog 17 [vS s] [] (tupL k v w n true) [] [] ∧ Kon Tryd.prog 16 [vS s] [] (tupL k v w n true) [] [] := by
      obtain rfl | rfl | rfl | rfl | rfl | rfl | rfl | rfl | rfl : k = 0 ∨ k = 1 ∨ k = 2 ∨ k = 3 ∨ k = 4 ∨ k = 5 ∨ k = 6 ∨ k = 7 ∨ k = 8 := by omega
      · exact rl_ok0 s hs hne v w n h
      · exact rl_ok1 s hs hne v w n h
      · exact rl_ok2 s hs hne v w n h
      · exact rl_ok3 s hs hne v w n h
      · exact rl_ok4 s hs hne v w n h
      · exact rl_ok5 s hs hne v w n h
      · exact rl_ok6 s hs hne v w n h
      · exact rl_ok7 s hs hne v w n h
      · exact rl_ok8 s hs hne v w n h
    exact ⟨this.1, this.2, .inl ⟨rfl, h⟩⟩
  · have h' : ∀ k v w n, ¬ Ok s k v w n := fun k v w n hk => h ⟨k, v, w, n, hk⟩
    have hne2 : (!(s == [])) = true := by rw [Bool.not_eq_true', beq_eq_false_iff_ne]; exact hne
    have hN := no_ltx hne h'
    refine ⟨0, 0, 0, 0, false, k_rlS9 s (wdA s) (wdB s) hs hne2 rfl rfl (hN _ _ _ _) (hN _ _ _ _) (hN _ _ _ _) (hN _ _ _ _) (hN _ _ _ _) (hN _ _ _ _) (hN _ _ _ _) (hN _ _ _ _) (hN _ _ _ _), ?_, .inr ⟨rfl, rfl, rfl, rfl, rfl, h'⟩⟩
    by_cases hk : ∃ k : Int, (0 ≤ k ∧ k ≤ 8) ∧ (cutA 32 [] s).getD 0 [] = l9W k
    · obtain ⟨k, hb, hw0⟩ := hk
      obtain rfl | rfl | rfl | rfl | rfl | rfl | rfl | rfl | rfl : k = 0 ∨ k = 1 ∨ k = 2 ∨ k = 3 ∨ k = 4 ∨ k = 5 ∨ k = 6 ∨ k = 7 ∨ k = 8 := by omega
      · exact rl_no0 s hs hne h' hw0
      · exact rl_no1 s hs hne h' hw0
      · exact rl_no2 s hs hne h' hw0
      · exact rl_no3 s hs hne h' hw0
      · exact rl_no4 s hs hne h' hw0
      · exact rl_no5 s hs hne h' hw0
      · exact rl_no6 s hs hne h' hw0
      · exact rl_no7 s hs hne h' hw0
      · exact rl_no8 s hs hne h' hw0
    · exact k_rlN s _ hs rfl (cutA_len 32 s []).1 (fun k hb e => hk ⟨k, hb, e⟩)
end Go.Proofs.YtjhdfkifpmmefaaDoor

/- What both readers find; the law FnExactReadLine. -/
namespace Go.Proofs.YtjhdfkifpmmefaaDoor
set_option linter.unusedVariables false
set_option linter.unusedSimpArgs false
set_option maxRecDepth 20000
open Go.RowKit
attribute [local irreducible] runA runX AW
theorem gq_LN {H G : Prop} (k : H) (h : Hid H → G := by (intro hh; (first | (first | ((first | refine r_none ?_ | refine r_gt (by rfl) (by rfl) (by first | rfl | assumption | omega | (simp only [*, Bool.not_false, Bool.not_true]; first | done | fail) | (simp [*]; first | done | fail)) (by rfl) ?_ | refine r_gf (by rfl) (by rfl) (by first | rfl | assumption | omega | (simp only [*, Bool.not_false, Bool.not_true]; first | done | fail) | (simp [*]; first | done | fail)) (by rfl) ?_); (first | (first | refine r_slen (by rfl) Tryd.underlying9 (by rfl) ?_) | ((first | (refine z_op (by rfl) ?_; first | refine z_ok ?_ ?_ | refine z_ex ?_ (by first | exact ft_raw rfl rfl | ((first | refine ft_rp rfl rfl rfl ?_ | refine ft_row rfl rfl rfl ?_ | refine ft_rpF rfl rfl rfl ?_ | refine ft_rowF rfl rfl rfl ?_ | refine up_row rfl rfl ?_ | refine up_rowF rfl rfl rfl ?_ | refine ct_0 rfl ?_ | refine ct_r rfl rfl ?_ | refine ct_c rfl rfl rfl ?_ | refine cu_all rfl ?_ | refine cu_to rfl ?_ | refine cu_from rfl ?_ | refine cu_p rfl ?_ | fail); (first | omega | (simp only [List.length_append, List.length_replicate, List.length_cons, List.length_nil, List.length_set, List.length_take, List.length_drop, true_and]; omega))) | exact up_raw rfl | exact pk_t (by first | rfl | assumption | omega | (simp only [*, Bool.not_false, Bool.not_true]; first | done | fail) | (simp [*]; first | done | fail)) rfl | exact pk_f (by first | rfl | assumption | omega | (simp only [*, Bool.not_false, Bool.not_true]; first | done | fail) | (simp [*]; first | done | fail)) rfl | fail | exact rw_raw | exact pu_cv (fun w => rfl) (by omega) | exact pu_of (fun w => rfl) rfl | exact be_of (fun w => rfl) | exact nc_of (fun _ _ _ _ => rfl) rfl | exact bu_of (fun w => rfl) rfl | fail) ?_) | ((first | refine q_callE wsT wsZ (by rfl) ?_ | refine q_callVE wsT (by rfl) (by rfl) ?_); refine ⟨_, _, _, (by first | assumption), _, by rfl, ?_, ?_⟩)); focus (first | exact trivial | fail | exact rfl | (first | omega | (simp only [List.length_append, List.length_replicate, List.length_cons, List.length_nil, List.length_set, List.length_take, List.length_drop, true_and]; omega)) | exact cvB (fun w => rfl) | ((repeat' (first | exact rfl | exact cV_len _ | exact cV_ln rfl (by omega) | exact Cel.pos | omega | exact trivial | refine And.intro ?_ ?_)); done) | (simp [*]; done) | (simp; omega))) | fail)) | refine r_nt (by rfl) (by rfl) (by first | rfl | assumption | omega | (simp only [*, Bool.not_false, Bool.not_true]; first | done | fail) | (simp [*]; first | done | fail)) (by rfl) ?_ | refine r_nf (by rfl) (by rfl) (by first | rfl | assumption | omega | (simp only [*, Bool.not_false, Bool.not_true]; first | done | fail) | (simp [*]; first | done | fail)) (by rfl) ?_ | refine r_gu (by rfl) (by rfl) (by rfl) ?_ | refine r_nil ?_) | (first | refine aw_seq ?_ | refine aw_ct (by rfl) (by first | rfl | assumption | omega | (simp only [*, Bool.not_false, Bool.not_true]; first | done | fail) | (simp [*]; first | done | fail)) ?_ | refine aw_cf (by rfl) (by first | rfl | assumption | omega | (simp only [*, Bool.not_false, Bool.not_true]; first | done | fail) | (simp [*]; first | done | fail)) ?_ | refine aw_block ?_ | refine aw_region T0ok cfU_ok (by rfl) ?_ | refine aw_skip ?_ | refine aw_exit ?_ | refine ra_step ?_)); (repeat (first | (first | ((first | refine r_none ?_ | refine r_gt (by rfl) (by rfl) (by first | rfl | assumption | omega | (simp only [*, Bool.not_false, Bool.not_true]; first | done | fail) | (simp [*]; first | done | fail)) (by rfl) ?_ | refine r_gf (by rfl) (by rfl) (by first | rfl | assumption | omega | (simp only [*, Bool.not_false, Bool.not_true]; first | done | fail) | (simp [*]; first | done | fail)) (by rfl) ?_); (first | (first | refine r_slen (by rfl) Tryd.underlying9 (by rfl) ?_) | ((first | (refine z_op (by rfl) ?_; first | refine z_ok ?_ ?_ | refine z_ex ?_ (by first | exact ft_raw rfl rfl | ((first | refine ft_rp rfl rfl rfl ?_ | refine ft_row rfl rfl rfl ?_ | refine ft_rpF rfl rfl rfl ?_ | refine ft_rowF rfl rfl rfl ?_ | refine up_row rfl rfl ?_ | refine up_rowF rfl rfl rfl ?_ | refine ct_0 rfl ?_ | refine ct_r rfl rfl ?_ | refine ct_c rfl rfl rfl ?_ | refine cu_all rfl ?_ | refine cu_to rfl ?_ | refine cu_from rfl ?_ | refine cu_p rfl ?_ | fail); (first | omega | (simp only [List.length_append, List.length_replicate, List.length_cons, List.length_nil, List.length_set, List.length_take, List.length_drop, true_and]; omega))) | exact up_raw rfl | exact pk_t (by first | rfl | assumption | omega | (simp only [*, Bool.not_false, Bool.not_true]; first | done | fail) | (simp [*]; first | done | fail)) rfl | exact pk_f (by first | rfl | assumption | omega | (simp only [*, Bool.not_false, Bool.not_true]; first | done | fail) | (simp [*]; first | done | fail)) rfl | fail | exact rw_raw | exact pu_cv (fun w => rfl) (by omega) | exact pu_of (fun w => rfl) rfl | exact be_of (fun w => rfl) | exact nc_of (fun _ _ _ _ => rfl) rfl | exact bu_of (fun w => rfl) rfl | fail) ?_) | ((first | refine q_callE wsT wsZ (by rfl) ?_ | refine q_callVE wsT (by rfl) (by rfl) ?_); refine ⟨_, _, _, (by first | assumption), _, by rfl, ?_, ?_⟩)); focus (first | exact trivial | fail | exact rfl | (first | omega | (simp only [List.length_append, List.length_replicate, List.length_cons, List.length_nil, List.length_set, List.length_take, List.length_drop, true_and]; omega)) | exact cvB (fun w => rfl) | ((repeat' (first | exact rfl | exact cV_len _ | exact cV_ln rfl (by omega) | exact Cel.pos | omega | exact trivial | refine And.intro ?_ ?_)); done) | (simp [*]; done) | (simp; omega))) | fail)) | refine r_nt (by rfl) (by rfl) (by first | rfl | assumption | omega | (simp only [*, Bool.not_false, Bool.not_true]; first | done | fail) | (simp [*]; first | done | fail)) (by rfl) ?_ | refine r_nf (by rfl) (by rfl) (by first | rfl | assumption | omega | (simp only [*, Bool.not_false, Bool.not_true]; first | done | fail) | (simp [*]; first | done | fail)) (by rfl) ?_ | refine r_gu (by rfl) (by rfl) (by rfl) ?_ | refine r_nil ?_) | (first | refine aw_seq ?_ | refine aw_ct (by rfl) (by first | rfl | assumption | omega | (simp only [*, Bool.not_false, Bool.not_true]; first | done | fail) | (simp [*]; first | done | fail)) ?_ | refine aw_cf (by rfl) (by first | rfl | assumption | omega | (simp only [*, Bool.not_false, Bool.not_true]; first | done | fail) | (simp [*]; first | done | fail)) ?_ | refine aw_block ?_ | refine aw_region T0ok cfU_ok (by rfl) ?_ | refine aw_skip ?_ | refine aw_exit ?_ | refine ra_step ?_))); exact hh.out)) : G := h ⟨k⟩
theorem ga_LN {H G : Prop} (k : H) (h : Hid H → G := by (intro hh; (first | refine r_none ?_ | refine r_gt (by rfl) (by rfl) (by first | rfl | assumption | omega | (simp only [*, Bool.not_false, Bool.not_true]; first | done | fail) | (simp [*]; first | done | fail)) (by rfl) ?_ | refine r_gf (by rfl) (by rfl) (by first | rfl | assumption | omega | (simp only [*, Bool.not_false, Bool.not_true]; first | done | fail) | (simp [*]; first | done | fail)) (by rfl) ?_); refine z_op (by rfl) ?_; refine z_alV ?_ hh.out; focus (first | exact trivial | fail | exact rfl | (first | omega | (simp only [List.length_append, List.length_replicate, List.length_cons, List.length_nil, List.length_set, List.length_take, List.length_drop, true_and]; omega)) | exact cvB (fun w => rfl) | ((repeat' (first | exact rfl | exact cV_len _ | exact cV_ln rfl (by omega) | exact Cel.pos | omega | exact trivial | refine And.intro ?_ ?_)); done) | (simp [*]; done) | (simp; omega)))) : G := h ⟨k⟩
theorem k_eqLine (k v w n : Int) : Kon Tryd.prog 18 [lV k v w n, lV k v w n] [] (vB true) [] [] := by
  have hx : ∀ x : Int, (x != x) = false := fun x => by simp
  have h1 := hx k
  have h2 := hx v
  have h3 := hx w
  have h4 := hx n
  (refine kon_mk T0ok (fn := Tryd.f18) (c := Tryd.f18.body.get rfl) Tryd.func18 rfl (by rfl) (by rfl) (by rfl) ?_; intro hfit hfe)
  (repeat (first | refine gq_LN ?_ | (refine ga_LN ?_; intro _hq)))
  ((try refine aw_ret ?_); refine ret_auto2 (by rfl) (by rfl) (by rfl) (by repeat (first | exact trivial | refine ⟨by first | rfl | omega, ?_⟩)) ?_ (by repeat (first | exact trivial | refine ⟨by rfl, by rfl, ?_⟩)) (by repeat (first | exact trivial | refine ⟨by rfl, by rfl, ?_⟩)); try rfl)
theorem k_lawXRL (s : List UInt8) : Kon Tryd.prog 5 [vS s] [] (vB true) [] [] := by
  rcases Nat.lt_or_ge 1048576 s.length with h0 | h0
  · have hd : decide ((s.length : Int) > 1048576) = true := decide_eq_true (by omega)
    (refine kon_mk T0ok (fn := Tryd.f5) (c := Tryd.f5.body.get rfl) Tryd.func5 rfl (by rfl) (by rfl) (by rfl) ?_; intro hfit hfe)
    (repeat (first | refine gq_LN ?_ | (refine ga_LN ?_; intro _hq)))
    ((try refine aw_ret ?_); refine ret_auto2 (by rfl) (by rfl) (by rfl) (by repeat (first | exact trivial | refine ⟨by first | rfl | omega, ?_⟩)) ?_ (by repeat (first | exact trivial | refine ⟨by rfl, by rfl, ?_⟩)) (by repeat (first | exact trivial | refine ⟨by rfl, by rfl, ?_⟩)); try rfl)
  have hd : decide ((s.length : Int) > 1048576) = false := decide_eq_false (by omega)
  obtain ⟨k, v, w, n, b, hS, hI, _⟩ := rl_ex s (by omega)
  have hE := k_eqLine k v w n
  have hb : (b != b) = false := by simp
  (refine kon_mk T0ok (fn := Tryd.f5) (c := Tryd.f5.body.get rfl) Tryd.func5 rfl (by rfl) (by rfl) (by rfl) ?_; intro hfit hfe)
  (repeat (first | refine gq_LN ?_ | (refine ga_LN ?_; intro _hq)))
  ((try refine aw_ret ?_); refine ret_auto2 (by rfl) (by rfl) (by rfl) (by repeat (first | exact trivial | refine ⟨by first | rfl | omega, ?_⟩)) ?_ (by repeat (first | exact trivial | refine ⟨by rfl, by rfl, ?_⟩)) (by repeat (first | exact trivial | refine ⟨by rfl, by rfl, ?_⟩)); try rfl)
end Go.Proofs.YtjhdfkifpmmefaaDoor

/- How arguments that came in read: slices of whatever elements. -/
namespace Go.Proofs.YtjhdfkifpmmefaaDoor
set_option linter.unusedVariables false
set_option linter.unusedSimpArgs false
open Go.ChangeShapes Go.WideShapes Go.ChangeAt Go.RowKit Go.Joins Go.Deep

theorem own : ownKnob Tryd.prog.godebug = none := by kernel_rfl
theorem laidOut : laidOutB Tryd.prog = true := by kernel_rfl
/-- The frame of a row's proof, from its walk: the arguments opened by the caller. -/
theorem row_end {H : Type} {enc : TypeId × Value → H} {W : World} {t : TypeId} {v : Value} {d : DataW H} {p : List MemPlace} (h : DataW.Trod enc Tryd.prog W 0 (fun _ => true) true t v d p) : ∀ x ∈ p, x.block < W.heap.size := by
  obtain ⟨m, hm⟩ := h; exact DataW.trod_lt m _ _ _ hm
theorem add_plain (b off j : Nat) : (⟨b, off, none⟩ : Addr).add j = ⟨b, off + j, none⟩ := by
  unfold Addr.add; split <;> simp_all
theorem list_of {α : Type} (p : Nat → α → Prop) (n : Nat) (h : ∀ j, j < n → ∃ v, p j v) : ∃ l : List α, l.length = n ∧ ∀ j (hj : j < l.length), p j l[j] := by
  induction n with
  | zero => exact ⟨[], rfl, fun j hj => by simp at hj⟩
  | succ n ih =>
    obtain ⟨l, hl, hp⟩ := ih fun j hj => h j (by omega)
    obtain ⟨v, hv⟩ := h n (by omega)
    refine ⟨l ++ [v], by simp [hl], fun j hj => ?_⟩
    by_cases hlt : j < l.length
    · rw [List.getElem_append_left hlt]; exact hp j hlt
    · have e : j = l.length := by simp at hj; omega
      subst e
      simp [hl, hv]
section
variable {H : Type} {enc : TypeId × Value → H} {P : Program} {w : World} {α : Type} [Cel α]
/-- Cells of a type are those of an element. -/
def OpensC (enc : TypeId × Value → H) (P : Program) (w : World) (e : TypeId) (α : Type) [Cel α] : Prop := ∀ n cs x, DataW.trod enc P w 0 (fun _ => true) true n e cs = some x → ∃ a : α, cs = Cel.f a
theorem mapM_get {α β : Type} {f : α → Option β} : ∀ {l : List α} {r : List β}, l.mapM f = some r → r.length = l.length ∧ ∀ (j : Nat) (x : α), l[j]? = some x → ∃ y, r[j]? = some y ∧ f x = some y
  | [], r, h => by
    simp at h; subst h; exact ⟨rfl, fun j x hj => by simp at hj⟩
  | a :: l, r, h => by
    rw [List.mapM_cons] at h
    cases ha : f a with
    | none => simp [ha] at h
    | some y =>
      cases hl : l.mapM f with
      | none => simp [ha, hl] at h
      | some r' =>
        simp [ha, hl] at h
        subst h
        obtain ⟨h1, h2⟩ := mapM_get hl
        refine ⟨by simp [h1], fun j x hj => ?_⟩
        cases j with
        | zero => simp at hj; subst hj; exact ⟨y, rfl, ha⟩
        | succ j => obtain ⟨z, hz, hf⟩ := h2 j x (by simpa using hj); exact ⟨z, by simpa using hz, hf⟩
theorem ro_of_trod {t e : TypeId} {fuel : Nat} {v : Value} {y : DataW H × List MemPlace} (ht : P.underlying t = some (.slice e)) (hc : P.cellsOf e = Cel.sz α) (ho : OpensC enc P w e α)
    (h : DataW.trod enc P w 0 (fun _ => true) true fuel t [v] = some y) : ∃ l : List α, Rep0 w (.g (.one (.ro (Cel.sz α) l.length (cV l)))) v := by
  rcases open_slice ht h with ⟨hcs, _⟩ | ⟨a, len, cap, m, n, D, Pl, hcs, _, hl, hm, hmm, rfl, hx⟩
  · simp at hcs
    subst hcs
    exact ⟨[], ⟨by simp, rfl⟩, none, 0, rfl, Nat.le_refl _, by unfold maxLen; omega, fun h => absurd h (Nat.lt_irrefl _)⟩
  · simp at hcs
    subst hcs
    simp at hmm
    subst hmm
    rw [hc] at hx
    obtain ⟨l, hll, hlp⟩ := list_of (fun j (u : α) => w.cells? 0 (a.add (j * Cel.sz α)) (Cel.sz α) = some (Cel.f u)) len fun j hj => by
      obtain ⟨cs', h1, h2⟩ := hx j (by omega)
      obtain ⟨u, rfl⟩ := ho _ _ _ h2
      exact ⟨u, h1⟩
    have hcell : ∀ (j o : Nat) (hj : j < l.length) (ho : o < Cel.sz α), ∃ x, (Cel.f l[j])[o]? = some x ∧ w.cell? ((a.add (j * Cel.sz α)).add o) = some x := by
      intro j o hj ho
      have h1 := hlp j hj
      unfold World.cells? at h1
      rw [if_pos (Nat.zero_le _)] at h1
      obtain ⟨_, h2⟩ := mapM_get h1
      obtain ⟨x, h3, h4⟩ := h2 o o (by simp [ho])
      exact ⟨x, h3, h4⟩
    refine ⟨l, ⟨by rw [cV_len], cV_one l⟩, some a, m, by rw [hll], by omega, hm, fun hn => ?_⟩
    obtain ⟨b, off, spot⟩ := a
    have hspot : spot = none := by
      obtain ⟨x, _, h2⟩ := hcell 0 0 hn Cel.pos
      have := World.cell?_spot h2
      simpa [Addr.add] using this
    subst hspot
    refine ⟨b, off, rfl, ?_, fun j x hj => ?_⟩
    · obtain ⟨x, _, h2⟩ := hcell 0 0 hn Cel.pos
      rw [add_plain, add_plain] at h2
      exact World.block_lt_of_cell? w _ h2
    · have hpos : 0 < Cel.sz α := Cel.pos
      have hlt : j < l.length * Cel.sz α := by rw [← cV_len]; exact (List.getElem?_eq_some_iff.1 hj).1
      have hdm := Nat.div_add_mod j (Cel.sz α)
      have hml := Nat.mod_lt j hpos
      have hdl : j / Cel.sz α < l.length := Nat.div_lt_of_lt_mul (by rw [Nat.mul_comm]; exact hlt)
      obtain ⟨y, h1, h2⟩ := hcell (j / Cel.sz α) (j % Cel.sz α) hdl hml
      rw [add_plain, add_plain] at h2
      have e1 : l.getD (j / Cel.sz α) Cel.no = l[j / Cel.sz α] := by simp [List.getD_eq_getElem?_getD, hdl]
      have h3 := cV_cell (l := l) (j := j / Cel.sz α) (o := j % Cel.sz α) (v := y) hdl (by rw [e1]; exact h1)
      have e2 : j / Cel.sz α * Cel.sz α + j % Cel.sz α = j := by rw [Nat.mul_comm]; exact hdm
      rw [e2, hj] at h3
      cases h3
      rw [show off + j = off + j / Cel.sz α * Cel.sz α + j % Cel.sz α by omega]
      exact h2
end
section
variable {H : Type} {enc : TypeId × Value → H} {P : Program} {w : World}
theorem opens_byte {e : TypeId} (he : P.underlying e = some (.int .u8)) : OpensC enc P w e UInt8 := by
  intro n cs x h
  obtain ⟨k, h1, _, hw⟩ := DataW.trod_int he h
  have h2 : 0 ≤ k ∧ k < 256 := by
    simp [Lit.wf, IntKind.min, IntKind.max, IntKind.signed, IntKind.bits] at hw
    omega
  refine ⟨UInt8.ofNat k.toNat, ?_⟩
  rw [h1]
  show [Value.int .u8 k] = [Value.int .u8 ((UInt8.ofNat k.toNat).toNat : Int)]
  simp only [UInt8.toNat_ofNat']
  rw [Nat.mod_eq_of_lt (by omega)]
  congr 2
  omega
theorem slice_shape {e t : TypeId} {v : Value} {d : DataW H} {ps : List MemPlace} {r : Reach} {b0 : Nat} (ht : P.underlying t = some (.slice e)) (hval : Value.okWide P w r b0 t v) (h : DataW.Trod enc P w 0 (fun _ => true) true t v d ps) : ∃ fuel y, DataW.trod enc P w 0 (fun _ => true) true fuel t [v] = some y := by
  obtain ⟨A, n, c, rfl⟩ := okWide_slice ht hval
  obtain ⟨fuel, hf⟩ := h
  exact ⟨fuel, _, hf⟩
/-- Bytes that came in. -/
theorem bytes_of_trod {e t : TypeId} {v : Value} {d : DataW H} {ps : List MemPlace} {r : Reach} {b0 : Nat} (ht : P.underlying t = some (.slice e)) (he : P.underlying e = some (.int .u8)) (hc : P.cellsOf e = 1) (hval : Value.okWide P w r b0 t v) (h : DataW.Trod enc P w 0 (fun _ => true) true t v d ps) :
    ∃ l : List UInt8, Rep0 w (roA l) v := by
  obtain ⟨fuel, y, hf⟩ := slice_shape ht hval h
  exact ro_of_trod (α := UInt8) ht hc (opens_byte he) hf
end
section
variable {H : Type} {enc : TypeId × Value → H} {P : Program} {w : World}
end
/-- A law answers true and leaves what was there, by its contract. -/
theorem law_of_kon {P : Program} {f : FuncId} {aa : List AV} (h : Kon P f aa [] (vB true) [] []) {vs : Array Value} {w : World} (hs : vs.size = aa.length) (hr : ∀ (j : Nat) (a : AV), aa[j]? = some a → ∃ z, vs[j]? = some z ∧ Rep0 w a z) (hgl : Glo w := by exact trivial) (hgz : gsz ≤ w.heap.size := by exact Nat.zero_le _) :
    Calls P f vs w fun e w' => e = .returned (.bool true) ∧ Below w.heap.size w w' := by
  obtain ⟨C, hC, hCe⟩ := h
  exact law_run hC hCe hs hr hgl hgz
end Go.Proofs.YtjhdfkifpmmefaaDoor

/- How benches that came in read. -/
namespace Go.Proofs.YtjhdfkifpmmefaaDoor
set_option linter.unusedVariables false
set_option linter.unusedSimpArgs false
open Go.ChangeShapes Go.WideShapes Go.ChangeAt Go.RowKit Go.Joins Go.Deep
section
variable {H : Type} {enc : TypeId × Value → H} {P : Program} {w : World}
end
end Go.Proofs.YtjhdfkifpmmefaaDoor

/- How statements and texts that came in read. -/
namespace Go.Proofs.YtjhdfkifpmmefaaDoor
set_option linter.unusedVariables false
set_option linter.unusedSimpArgs false
open Go.ChangeShapes Go.WideShapes Go.ChangeAt Go.RowKit Go.Joins Go.Deep Go.ChangeMaps
section
variable {H : Type} {enc : TypeId × Value → H} {P : Program} {w : World}
theorem string_of_trod {t : TypeId} {v : Value} {d : DataW H} {ps : List MemPlace} {r : Reach} {b0 : Nat} (ht : P.underlying t = some .string) (hval : Value.okWide P w r b0 t v) (h : DataW.Trod enc P w 0 (fun _ => true) true t v d ps) :
    ∃ s : List UInt8, Rep0 w (vS s) v := by
  obtain ⟨s, rfl, _, _, _⟩ := open_string ht hval h
  refine ⟨s.data.toList, ?_⟩
  have e : str s.data.toList = s := by
    obtain ⟨⟨l⟩⟩ := s
    rfl
  exact ⟨by rw [e], rfl⟩
end
section
variable {H : Type} {enc : TypeId × Value → H}
/-- A row whose listed variables read as told, over worlds of the program's shape. -/
theorem handed_laid_shaped {a : Assume} {C : Checked} {os : Os} {f : FuncId} {fn : Func} {s : ChangeSpec} {conds : List PathCond} {apart fresh handsOn again : Bool} {X : World → Array Value → Prop}
    (hX : ∀ (w w' : World) (args : Array Value), w.heap = w'.heap → X w args → X w' args)
    (own : ownKnob C.prog.godebug = none) (started : os.Started) (noInit : C.prog.inits.idxOf? f = none) (hfn : C.prog.funcs[f]? = some fn)
    (witness : ∃ (w : World) (tape : Tape) (i : Input), w.os = os ∧ (w.forCall tape i).Shaped C.prog ∧ i.vars = [] ∧ Input.okWide C.prog (w.forCall tape i) .any w.heap.size f i ∧
      ((s.pre enc C.prog fn conds apart (w.forCall tape i).memory i.args ∧ X (w.forCall tape i).memory i.args) ∧ sizedMet enc C.prog fn (OpenSpec.ofChange s) apart (w.forCall tape i).memory i.args) ∧ a.holds C.prog (lone (Frame.enter C.prog f i.args .normal) [] (w.forCall tape i)))
    (contract : ∀ (W : World) (base : Nat) (args : Array Value) (ds gs : List (DataW H)) (before : List MemPlace),
      (∀ (j : Nat) t v, fn.params[j]? = some t → args[j]? = some v → Value.okWide C.prog W .any base t v) →
      DataW.Whole enc C.prog fn.params.toList s.vars apart W args.toList ds gs before →
      conds.all (PathCond.test C.prog ⟨fn.params.toList, ds, s.plain.varTypes C.prog, gs⟩) = true →
      W.ShapedOpen C.prog → X W args →
      Calls C.prog f args W fun e W' => ∃ v, e = .returned v ∧ s.post enc C.prog fn apart fresh handsOn again W args v W') :
    ReturnsInHanded a C os f .any (fun w args => (s.pre enc C.prog fn conds apart w args ∧ X w args) ∧ sizedMet enc C.prog fn (OpenSpec.ofChange s) apart w args) (s.post enc C.prog fn apart fresh handsOn again) := by
  refine returnsInHanded_of_calls own started noInit witness ?_
  intro w tape i _ hsh _ hok hpre hholds
  obtain ⟨_, _, _, fn', hfn', _, _, _, _, hval⟩ := hok
  have e : fn' = fn := Option.some.inj (hfn'.symm.trans hfn)
  subst e
  obtain ⟨⟨⟨ds, gs, before, hw, hc⟩, hx⟩, hz⟩ := hpre
  have hw' := DataW.Whole.of_heap (w' := w.forCall tape i) (by rfl) hw
  refine (contract (w.forCall tape i) w.heap.size i.args ds gs before hval hw' hc hsh (hX _ _ _ (by rfl) hx)).mono fun e W' ⟨v, he, hp⟩ => ?_
  subst he
  exact ChangeSpec.post_blind hp
end
end Go.Proofs.YtjhdfkifpmmefaaDoor

/- The listed variables as the contracts of the library ask for them. -/
namespace Go.Proofs.YtjhdfkifpmmefaaDoor
set_option linter.unusedVariables false
set_option linter.unusedSimpArgs false
open Go.ChangeShapes Go.WideShapes Go.ChangeAt Go.RowKit Go.Joins Go.Deep
theorem cell_lt {W : World} {g : Nat} {x : Value} (h : W.cell? ⟨g, 0, none⟩ = some x) : g < W.heap.size := by
  rcases Nat.lt_or_ge g W.heap.size with h1 | h1
  · exact h1
  · unfold World.cell? at h
    simp [Array.getElem?_eq_none h1] at h
theorem laid_iface {P : Program} {W : World} {n nm : String} {d : DataW Unit} {r : List (String × DataW Unit)} {g : Nat} {ti : TypeId} {ms : Array (String × TypeId)} (h : laidMet P ((n, .iface nm d) :: r) W)
    (hg : P.globalNamed n = some g) (ht : (P.globals[g]?).map (·.type) = some ti) (hi : P.underlying ti = some (.interface ms)) : ∃ u v, W.cell? ⟨g, 0, none⟩ = some (.iface u v) := by
  obtain ⟨ps, ⟨g0, t0, cs0, f0, p0, q0, hg0, ht0, hv0, hd0, _, _⟩, _, _⟩ := h
  obtain rfl := Option.some.inj (hg.symm.trans hg0)
  obtain rfl := Option.some.inj (ht.symm.trans ht0)
  obtain ⟨f1, u, v, hcs, _, _⟩ := iface_of_trod hi hd0
  have h0 := World.var?_cell hg0 hv0 0
  obtain ⟨l0⟩ := cs0
  have hl : l0 = [.iface u v] := by simpa using hcs
  subst hl
  exact ⟨u, v, by simpa using h0⟩
theorem glo_of {W : World} (hsh : W.ShapedOpen Tryd.prog) (hL : laidMetH Tryd.prog Rows.fnExactReadLineRow.laid W) : Glo W ∧ gsz ≤ W.heap.size := by
  rw [MakeChecks.laidMetH_plain _ _ _ (by kernel_rfl)] at hL
  have h4 := hL.tail.tail.tail.tail
  have h5 := h4.tail
  have hi : Tryd.prog.underlying 65 = some (.interface _) := Tryd.underlying65
  obtain ⟨u, v, hr⟩ := laid_iface h4 (show Tryd.prog.globalNamed "strconv.ErrRange" = some 1 by kernel_rfl) (show (Tryd.prog.globals[1]?).map (·.type) = some 65 by kernel_rfl) hi
  obtain ⟨u', v', hs⟩ := laid_iface h5 (show Tryd.prog.globalNamed "strconv.ErrSyntax" = some 0 by kernel_rfl) (show (Tryd.prog.globals[0]?).map (·.type) = some 65 by kernel_rfl) hi
  obtain ⟨m, hm⟩ : ∃ m, W.cell? ⟨3, 0, none⟩ = some (.int .i64 m) :=
    cell_of_shapedOpen_int (zero := #[.int .i64 0]) (t := 3) hsh (of_decide_eq_true (by kernel_rfl)) (by kernel_rfl) rfl (by kernel_rfl) (by kernel_rfl) Tryd.underlying3
  exact ⟨⟨⟨m, hm⟩, ⟨u', v', hs⟩, ⟨u, v, hr⟩⟩, cell_lt hm⟩
end Go.Proofs.YtjhdfkifpmmefaaDoor

/- The law and the listed variables, together. -/
namespace Go.Proofs.YtjhdfkifpmmefaaDoor
end Go.Proofs.YtjhdfkifpmmefaaDoor

/- Statements and their texts are drawn. -/
namespace Go.Proofs.YtjhdfkifpmmefaaDoor
set_option linter.unusedVariables false
set_option linter.unusedSimpArgs false
set_option maxRecDepth 20000
open Go.RowKit
attribute [local irreducible] runA runX AW
def wsTS : WsT := [(47, ([0], true)), (67, ([0], true)), (66, ([0], true)), (38, ([0], true))] ++ wsT
theorem gq_LS {H G : Prop} (k : H) (h : Hid H → G := by (intro hh; (first | (first | ((first | refine r_none ?_ | refine r_gt (by rfl) (by rfl) (by first | rfl | assumption | omega | (simp only [*, Bool.not_false, Bool.not_true]; first | done | fail) | (simp [*]; first | done | fail)) (by rfl) ?_ | refine r_gf (by rfl) (by rfl) (by first | rfl | assumption | omega | (simp only [*, Bool.not_false, Bool.not_true]; first | done | fail) | (simp [*]; first | done | fail)) (by rfl) ?_); (first | fail | ((first | (refine z_op (by rfl) ?_; first | refine z_ok ?_ ?_ | refine z_ex ?_ (by first | exact ft_raw rfl rfl | ((first | refine ft_rp rfl rfl rfl ?_ | refine ft_row rfl rfl rfl ?_ | refine ft_rpF rfl rfl rfl ?_ | refine ft_rowF rfl rfl rfl ?_ | refine up_row rfl rfl ?_ | refine up_rowF rfl rfl rfl ?_ | refine ct_0 rfl ?_ | refine ct_r rfl rfl ?_ | refine ct_c rfl rfl rfl ?_ | refine cu_all rfl ?_ | refine cu_to rfl ?_ | refine cu_from rfl ?_ | refine cu_p rfl ?_ | fail); (first | omega | (simp only [List.length_append, List.length_replicate, List.length_cons, List.length_nil, List.length_set, List.length_take, List.length_drop, true_and]; omega))) | exact up_raw rfl | exact pk_t (by first | rfl | assumption | omega | (simp only [*, Bool.not_false, Bool.not_true]; first | done | fail) | (simp [*]; first | done | fail)) rfl | exact pk_f (by first | rfl | assumption | omega | (simp only [*, Bool.not_false, Bool.not_true]; first | done | fail) | (simp [*]; first | done | fail)) rfl | (first | exact rw_c Int rfl | exact rw_c (List UInt8) rfl) | exact rw_raw | exact pu_cv (fun w => rfl) (by omega) | exact pu_of (fun w => rfl) rfl | exact be_of (fun w => rfl) | exact nc_of (fun _ _ _ _ => rfl) rfl | exact bu_of (fun w => rfl) rfl | fail) ?_) | ((first | refine q_callE wsTS wsZ (by rfl) ?_ | refine q_callVE wsTS (by rfl) (by rfl) ?_); refine ⟨_, _, _, (by first | assumption | exact k_open _ (by omega)), _, by rfl, ?_, ?_⟩)); focus (first | exact trivial | fail | exact rfl | (first | omega | (simp only [List.length_append, List.length_replicate, List.length_cons, List.length_nil, List.length_set, List.length_take, List.length_drop, true_and]; omega)) | exact cvB (fun w => rfl) | ((repeat' (first | exact rfl | exact cV_len _ | exact cV_ln rfl (by omega) | exact Cel.pos | omega | exact trivial | refine And.intro ?_ ?_)); done) | (simp [*]; done) | (simp; omega))) | fail)) | refine r_nt (by rfl) (by rfl) (by first | rfl | assumption | omega | (simp only [*, Bool.not_false, Bool.not_true]; first | done | fail) | (simp [*]; first | done | fail)) (by rfl) ?_ | refine r_nf (by rfl) (by rfl) (by first | rfl | assumption | omega | (simp only [*, Bool.not_false, Bool.not_true]; first | done | fail) | (simp [*]; first | done | fail)) (by rfl) ?_ | refine r_gu (by rfl) (by rfl) (by rfl) ?_ | refine r_nil ?_) | (first | refine aw_seq ?_ | refine aw_ct (by rfl) (by first | rfl | assumption | omega | (simp only [*, Bool.not_false, Bool.not_true]; first | done | fail) | (simp [*]; first | done | fail)) ?_ | refine aw_cf (by rfl) (by first | rfl | assumption | omega | (simp only [*, Bool.not_false, Bool.not_true]; first | done | fail) | (simp [*]; first | done | fail)) ?_ | refine aw_block ?_ | refine aw_region T0ok cfU_ok (by rfl) ?_ | refine aw_skip ?_ | refine aw_exit ?_ | refine ra_step ?_)); (repeat (first | (first | ((first | refine r_none ?_ | refine r_gt (by rfl) (by rfl) (by first | rfl | assumption | omega | (simp only [*, Bool.not_false, Bool.not_true]; first | done | fail) | (simp [*]; first | done | fail)) (by rfl) ?_ | refine r_gf (by rfl) (by rfl) (by first | rfl | assumption | omega | (simp only [*, Bool.not_false, Bool.not_true]; first | done | fail) | (simp [*]; first | done | fail)) (by rfl) ?_); (first | fail | ((first | (refine z_op (by rfl) ?_; first | refine z_ok ?_ ?_ | refine z_ex ?_ (by first | exact ft_raw rfl rfl | ((first | refine ft_rp rfl rfl rfl ?_ | refine ft_row rfl rfl rfl ?_ | refine ft_rpF rfl rfl rfl ?_ | refine ft_rowF rfl rfl rfl ?_ | refine up_row rfl rfl ?_ | refine up_rowF rfl rfl rfl ?_ | refine ct_0 rfl ?_ | refine ct_r rfl rfl ?_ | refine ct_c rfl rfl rfl ?_ | refine cu_all rfl ?_ | refine cu_to rfl ?_ | refine cu_from rfl ?_ | refine cu_p rfl ?_ | fail); (first | omega | (simp only [List.length_append, List.length_replicate, List.length_cons, List.length_nil, List.length_set, List.length_take, List.length_drop, true_and]; omega))) | exact up_raw rfl | exact pk_t (by first | rfl | assumption | omega | (simp only [*, Bool.not_false, Bool.not_true]; first | done | fail) | (simp [*]; first | done | fail)) rfl | exact pk_f (by first | rfl | assumption | omega | (simp only [*, Bool.not_false, Bool.not_true]; first | done | fail) | (simp [*]; first | done | fail)) rfl | (first | exact rw_c Int rfl | exact rw_c (List UInt8) rfl) | exact rw_raw | exact pu_cv (fun w => rfl) (by omega) | exact pu_of (fun w => rfl) rfl | exact be_of (fun w => rfl) | exact nc_of (fun _ _ _ _ => rfl) rfl | exact bu_of (fun w => rfl) rfl | fail) ?_) | ((first | refine q_callE wsTS wsZ (by rfl) ?_ | refine q_callVE wsTS (by rfl) (by rfl) ?_); refine ⟨_, _, _, (by first | assumption | exact k_open _ (by omega)), _, by rfl, ?_, ?_⟩)); focus (first | exact trivial | fail | exact rfl | (first | omega | (simp only [List.length_append, List.length_replicate, List.length_cons, List.length_nil, List.length_set, List.length_take, List.length_drop, true_and]; omega)) | exact cvB (fun w => rfl) | ((repeat' (first | exact rfl | exact cV_len _ | exact cV_ln rfl (by omega) | exact Cel.pos | omega | exact trivial | refine And.intro ?_ ?_)); done) | (simp [*]; done) | (simp; omega))) | fail)) | refine r_nt (by rfl) (by rfl) (by first | rfl | assumption | omega | (simp only [*, Bool.not_false, Bool.not_true]; first | done | fail) | (simp [*]; first | done | fail)) (by rfl) ?_ | refine r_nf (by rfl) (by rfl) (by first | rfl | assumption | omega | (simp only [*, Bool.not_false, Bool.not_true]; first | done | fail) | (simp [*]; first | done | fail)) (by rfl) ?_ | refine r_gu (by rfl) (by rfl) (by rfl) ?_ | refine r_nil ?_) | (first | refine aw_seq ?_ | refine aw_ct (by rfl) (by first | rfl | assumption | omega | (simp only [*, Bool.not_false, Bool.not_true]; first | done | fail) | (simp [*]; first | done | fail)) ?_ | refine aw_cf (by rfl) (by first | rfl | assumption | omega | (simp only [*, Bool.not_false, Bool.not_true]; first | done | fail) | (simp [*]; first | done | fail)) ?_ | refine aw_block ?_ | refine aw_region T0ok cfU_ok (by rfl) ?_ | refine aw_skip ?_ | refine aw_exit ?_ | refine ra_step ?_))); exact hh.out)) : G := h ⟨k⟩
theorem ga_LS {H G : Prop} (k : H) (h : Hid H → G := by (intro hh; (first | refine r_none ?_ | refine r_gt (by rfl) (by rfl) (by first | rfl | assumption | omega | (simp only [*, Bool.not_false, Bool.not_true]; first | done | fail) | (simp [*]; first | done | fail)) (by rfl) ?_ | refine r_gf (by rfl) (by rfl) (by first | rfl | assumption | omega | (simp only [*, Bool.not_false, Bool.not_true]; first | done | fail) | (simp [*]; first | done | fail)) (by rfl) ?_); refine z_op (by rfl) ?_; refine z_alV ?_ hh.out; focus (first | exact trivial | fail | exact rfl | (first | omega | (simp only [List.length_append, List.length_replicate, List.length_cons, List.length_nil, List.length_set, List.length_take, List.length_drop, true_and]; omega)) | exact cvB (fun w => rfl) | ((repeat' (first | exact rfl | exact cV_len _ | exact cV_ln rfl (by omega) | exact Cel.pos | omega | exact trivial | refine And.intro ?_ ?_)); done) | (simp [*]; done) | (simp; omega)))) : G := h ⟨k⟩
theorem k_odd0L (l : List UInt8) (c n : Int) (h : n ≤ 0 ∧ -1000 ≤ n) : Kon Tryd.prog 67 [p0, vI n] [rdE l c] (vB false) [] [rdE l c] := by
  have h3 : decide (n > 0) = false := decide_eq_false (by omega)
  (refine kon_mk T0ok (fn := Tryd.f67) (c := Tryd.f67.body.get rfl) Tryd.func67 rfl (by rfl) (by rfl) (by rfl) ?_; intro hfit hfe)
  (repeat (first | refine gq_LS ?_ | (refine ga_LS ?_; intro _hq)))
  ((try refine aw_ret ?_); refine ret_auto2 (by rfl) (by rfl) (by rfl) (by repeat (first | exact trivial | refine ⟨by first | rfl | omega, ?_⟩)) ?_ (by repeat (first | exact trivial | refine ⟨by rfl, by rfl, ?_⟩)) (by repeat (first | exact trivial | refine ⟨by rfl, by rfl, ?_⟩)); try rfl)
theorem ex_plain (l : List UInt8) (c : Int) (h : 0 ≤ c ∧ c ≤ 900000 ∧ l.length ≤ 2000) : ∃ (k v w n c' : Int), (0 ≤ n ∧ n ≤ 63) ∧ (c ≤ c' ∧ c' ≤ c + 3) ∧ Kon Tryd.prog 66 [p0] [rdE l c] (lV k v w n) [] [rdE l c'] := by
  obtain ⟨a, _, ha, hA⟩ := ex_pick l c 3 (by omega)
  obtain ⟨q, _, hq, hQ⟩ := ex_pick l (c + 1) 4 (by omega)
  have ha' := ha (by decide)
  have hq' := hq (by decide)
  have hc : q = 0 ∨ q = 1 ∨ q = 2 ∨ q = 3 := by omega
  rcases hc with rfl | rfl | rfl | rfl
  · obtain ⟨m, _, hm, hM⟩ := ex_pick l (c + 1 + 1) 64 (by omega)
    have hm' := hm (by decide)
    refine ⟨2, a, 0, m, c + 1 + 1 + 1, by omega, by omega, ?_⟩
    (refine kon_mk T0ok (fn := Tryd.f66) (c := Tryd.f66.body.get rfl) Tryd.func66 rfl (by rfl) (by rfl) (by rfl) ?_; intro hfit hfe)
    (repeat (first | refine gq_LS ?_ | (refine ga_LS ?_; intro _hq)))
    ((try refine aw_ret ?_); refine ret_auto2 (by rfl) (by rfl) (by rfl) (by repeat (first | exact trivial | refine ⟨by first | rfl | omega, ?_⟩)) ?_ (by repeat (first | exact trivial | refine ⟨by rfl, by rfl, ?_⟩)) (by repeat (first | exact trivial | refine ⟨by rfl, by rfl, ?_⟩)); try rfl)
  · obtain ⟨m, _, hm, hM⟩ := ex_pick l (c + 1 + 1) 2 (by omega)
    have hm' := hm (by decide)
    refine ⟨3, a, (a + 1 + m) % 3, 0, c + 1 + 1 + 1, by omega, by omega, ?_⟩
    (refine kon_mk T0ok (fn := Tryd.f66) (c := Tryd.f66.body.get rfl) Tryd.func66 rfl (by rfl) (by rfl) (by rfl) ?_; intro hfit hfe)
    (repeat (first | refine gq_LS ?_ | (refine ga_LS ?_; intro _hq)))
    ((try refine aw_ret ?_); refine ret_auto2 (by rfl) (by rfl) (by rfl) (by repeat (first | exact trivial | refine ⟨by first | rfl | omega, ?_⟩)) ?_ (by repeat (first | exact trivial | refine ⟨by rfl, by rfl, ?_⟩)) (by repeat (first | exact trivial | refine ⟨by rfl, by rfl, ?_⟩)); try rfl)
  · obtain ⟨m, _, hm, hM⟩ := ex_pick l (c + 1 + 1) 2 (by omega)
    have hm' := hm (by decide)
    refine ⟨1, a, (a + 1 + m) % 3, 0, c + 1 + 1 + 1, by omega, by omega, ?_⟩
    (refine kon_mk T0ok (fn := Tryd.f66) (c := Tryd.f66.body.get rfl) Tryd.func66 rfl (by rfl) (by rfl) (by rfl) ?_; intro hfit hfe)
    (repeat (first | refine gq_LS ?_ | (refine ga_LS ?_; intro _hq)))
    ((try refine aw_ret ?_); refine ret_auto2 (by rfl) (by rfl) (by rfl) (by repeat (first | exact trivial | refine ⟨by first | rfl | omega, ?_⟩)) ?_ (by repeat (first | exact trivial | refine ⟨by rfl, by rfl, ?_⟩)) (by repeat (first | exact trivial | refine ⟨by rfl, by rfl, ?_⟩)); try rfl)
  · obtain ⟨m, _, hm, hM⟩ := ex_pick l (c + 1 + 1) 3 (by omega)
    have hm' := hm (by decide)
    refine ⟨0, a, (a + 1 + m) % 4, 0, c + 1 + 1 + 1, by omega, by omega, ?_⟩
    (refine kon_mk T0ok (fn := Tryd.f66) (c := Tryd.f66.body.get rfl) Tryd.func66 rfl (by rfl) (by rfl) (by rfl) ?_; intro hfit hfe)
    (repeat (first | refine gq_LS ?_ | (refine ga_LS ?_; intro _hq)))
    ((try refine aw_ret ?_); refine ret_auto2 (by rfl) (by rfl) (by rfl) (by repeat (first | exact trivial | refine ⟨by first | rfl | omega, ?_⟩)) ?_ (by repeat (first | exact trivial | refine ⟨by rfl, by rfl, ?_⟩)) (by repeat (first | exact trivial | refine ⟨by rfl, by rfl, ?_⟩)); try rfl)
/-- The statement drawn ahead of a mark. -/
theorem ex_textA (l : List UInt8) (c : Int) (h : 0 ≤ c ∧ c ≤ 900000 ∧ l.length ≤ 2000) : ∃ (k v w n c1 : Int) (q : Int), (0 ≤ n ∧ n ≤ 63) ∧ (c ≤ c1 ∧ c1 ≤ c + 3) ∧ (0 ≤ q ∧ q < 6) ∧
    Kon Tryd.prog 66 [p0] [rdE l c] (lV k v w n) [] [rdE l c1] ∧ Kon Tryd.prog 47 [p0, vI 6] [rdE l c1] (vI q) [] [rdE l (c1 + 1)] := by
  obtain ⟨k, v, w, n, c1, hn, hc, hP⟩ := ex_plain l c h
  obtain ⟨q, _, hq, hQ⟩ := ex_pick l c1 6 (by omega)
  exact ⟨k, v, w, n, c1, q, hn, hc, hq (by decide), hP, hQ⟩
set_option maxHeartbeats 4000000 in
theorem ex_text0 (l : List UInt8) (c : Int) (h : 0 ≤ c ∧ c ≤ 900000 ∧ l.length ≤ 2000) : ∃ (k v w n c' : Int), (c ≤ c' ∧ c' ≤ c + 12) ∧ Kon Tryd.prog 38 [p0, vI 0] [rdE l c] (lV k v w n) [] [rdE l c'] := by
  obtain ⟨k, v, w, n, c1, q, hn, hc, hq, hP, hQ⟩ := ex_textA l c h
  have ho := fun c2 => k_odd0L l c2 0 (by decide)
  have hx : q = 0 ∨ q = 1 ∨ q = 2 ∨ (3 ≤ q) := by omega
  rcases hx with rfl | rfl | rfl | hx
  · obtain ⟨m, _, hm, hM⟩ := ex_pick l (c1 + 1) 4 (by omega)
    have hm' := hm (by decide)
    have hO := ho (c1 + 1 + 1)
    refine ⟨4, 0, 0, m, c1 + 1 + 1, by omega, ?_⟩
    (refine kon_mk T0ok (fn := Tryd.f38) (c := Tryd.f38.body.get rfl) Tryd.func38 rfl (by rfl) (by rfl) (by rfl) ?_; intro hfit hfe)
    (repeat (first | refine gq_LS ?_ | (refine ga_LS ?_; intro _hq)))
    ((try refine aw_ret ?_); refine ret_auto2 (by rfl) (by rfl) (by rfl) (by repeat (first | exact trivial | refine ⟨by first | rfl | omega, ?_⟩)) ?_ (by repeat (first | exact trivial | refine ⟨by rfl, by rfl, ?_⟩)) (by repeat (first | exact trivial | refine ⟨by rfl, by rfl, ?_⟩)); try rfl)
  · obtain ⟨m, _, hm, hM⟩ := ex_pick l (c1 + 1) 2 (by omega)
    have hm' := hm (by decide)
    have hO := ho (c1 + 1 + 1)
    refine ⟨([5, 7] : List Int).getD m.toNat Cel.no, 0, 0, 0, c1 + 1 + 1, by omega, ?_⟩
    (refine kon_mk T0ok (fn := Tryd.f38) (c := Tryd.f38.body.get rfl) Tryd.func38 rfl (by rfl) (by rfl) (by rfl) ?_; intro hfit hfe)
    (repeat (first | refine gq_LS ?_ | (refine ga_LS ?_; intro _hq)))
    ((try refine aw_ret ?_); refine ret_auto2 (by rfl) (by rfl) (by rfl) (by repeat (first | exact trivial | refine ⟨by first | rfl | omega, ?_⟩)) ?_ (by repeat (first | exact trivial | refine ⟨by rfl, by rfl, ?_⟩)) (by repeat (first | exact trivial | refine ⟨by rfl, by rfl, ?_⟩)); try rfl)
  · obtain ⟨m, _, hm, hM⟩ := ex_pick l (c1 + 1) 2 (by omega)
    have hm' := hm (by decide)
    obtain ⟨m2, _, hm2, hM2⟩ := ex_pick l (c1 + 1 + 1) 4 (by omega)
    obtain ⟨m3, _, hm3, hM3⟩ := ex_pick l (c1 + 1 + 1 + 1) 64 (by omega)
    have hO := ho (c1 + 1 + 1 + 1 + 1)
    refine ⟨([6, 8] : List Int).getD m.toNat Cel.no, m2, 0, m3, c1 + 1 + 1 + 1 + 1, by omega, ?_⟩
    (refine kon_mk T0ok (fn := Tryd.f38) (c := Tryd.f38.body.get rfl) Tryd.func38 rfl (by rfl) (by rfl) (by rfl) ?_; intro hfit hfe)
    (repeat (first | refine gq_LS ?_ | (refine ga_LS ?_; intro _hq)))
    (refine aw_draw mixed T0ok cfU_ok [(100000, [2, 6, 8]), (80, [10]), (400, [0, 3, 4])] (by rfl) (by kernel_rfl) ?_)
    (repeat (first | refine gq_LS ?_ | (refine ga_LS ?_; intro _hq)))
    ((try refine aw_ret ?_); refine ret_auto2 (by rfl) (by rfl) (by rfl) (by repeat (first | exact trivial | refine ⟨by first | rfl | omega, ?_⟩)) ?_ (by repeat (first | exact trivial | refine ⟨by rfl, by rfl, ?_⟩)) (by repeat (first | exact trivial | refine ⟨by rfl, by rfl, ?_⟩)); try rfl)
  · have h0 : (q == 0) = false ∧ (q == 1) = false ∧ (q == 2) = false := by refine ⟨?_, ?_, ?_⟩ <;> (simp; omega)
    obtain ⟨h0, h1, h2⟩ := h0
    have hO := ho (c1 + 1)
    refine ⟨k, v, w, n, c1 + 1, by omega, ?_⟩
    (refine kon_mk T0ok (fn := Tryd.f38) (c := Tryd.f38.body.get rfl) Tryd.func38 rfl (by rfl) (by rfl) (by rfl) ?_; intro hfit hfe)
    (repeat (first | refine gq_LS ?_ | (refine ga_LS ?_; intro _hq)))
    ((try refine aw_ret ?_); refine ret_auto2 (by rfl) (by rfl) (by rfl) (by repeat (first | exact trivial | refine ⟨by first | rfl | omega, ?_⟩)) ?_ (by repeat (first | exact trivial | refine ⟨by rfl, by rfl, ?_⟩)) (by repeat (first | exact trivial | refine ⟨by rfl, by rfl, ?_⟩)); try rfl)
set_option maxHeartbeats 4000000 in
theorem ex_text6_0 (l : List UInt8) (c k v w n c1 q : Int) (h : 0 ≤ c ∧ c ≤ 900000 ∧ l.length ≤ 2000) (hn : 0 ≤ n ∧ n ≤ 63) (hc : c ≤ c1 ∧ c1 ≤ c + 3) (hq : 0 ≤ q ∧ q < 6) (hx : q = 0)
    (hP : Kon Tryd.prog 66 [p0] [rdE l c] (lV k v w n) [] [rdE l c1]) (hQ : Kon Tryd.prog 47 [p0, vI 6] [rdE l c1] (vI q) [] [rdE l (c1 + 1)]) : ∃ (k v w n c' : Int), (c ≤ c' ∧ c' ≤ c + 12) ∧ Kon Tryd.prog 38 [p0, vI 6] [rdE l c] (lV k v w n) [] [rdE l c'] := by
  subst hx
  obtain ⟨m, _, hm, hM⟩ := ex_pick l (c1 + 1) 4 (by omega)
  have hm' := hm (by decide)
  obtain ⟨b, hO⟩ := ex_odd l (c1 + 1 + 1) 6 (by omega)
  cases b with
  | false =>
    refine ⟨4, 0, 0, m, c1 + 1 + 1 + 1, by omega, ?_⟩
    (refine kon_mk T0ok (fn := Tryd.f38) (c := Tryd.f38.body.get rfl) Tryd.func38 rfl (by rfl) (by rfl) (by rfl) ?_; intro hfit hfe)
    (repeat (first | refine gq_LS ?_ | (refine ga_LS ?_; intro _hq)))
    ((try refine aw_ret ?_); refine ret_auto2 (by rfl) (by rfl) (by rfl) (by repeat (first | exact trivial | refine ⟨by first | rfl | omega, ?_⟩)) ?_ (by repeat (first | exact trivial | refine ⟨by rfl, by rfl, ?_⟩)) (by repeat (first | exact trivial | refine ⟨by rfl, by rfl, ?_⟩)); try rfl)
  | true =>
    obtain ⟨p, _, hp, hPk⟩ := ex_pick l (c1 + 1 + 1 + 1) 3 (by omega)
    have hp' := hp (by decide)
    have hp3 : p = 0 ∨ p = 1 ∨ p = 2 := by omega
    rcases hp3 with rfl | rfl | rfl
    · obtain ⟨z, _, hz, hZ⟩ := ex_pick l (c1 + 1 + 1 + 1 + 1) 2 (by omega)
      have hz' := hz (by decide)
      refine ⟨([-1, 9] : List Int).getD z.toNat Cel.no, 0, 0, m, c1 + 1 + 1 + 1 + 1 + 1, by omega, ?_⟩
      (refine kon_mk T0ok (fn := Tryd.f38) (c := Tryd.f38.body.get rfl) Tryd.func38 rfl (by rfl) (by rfl) (by rfl) ?_; intro hfit hfe)
      (repeat (first | refine gq_LS ?_ | (refine ga_LS ?_; intro _hq)))
      ((try refine aw_ret ?_); refine ret_auto2 (by rfl) (by rfl) (by rfl) (by repeat (first | exact trivial | refine ⟨by first | rfl | omega, ?_⟩)) ?_ (by repeat (first | exact trivial | refine ⟨by rfl, by rfl, ?_⟩)) (by repeat (first | exact trivial | refine ⟨by rfl, by rfl, ?_⟩)); try rfl)
    · refine ⟨4, 4, 0, m, c1 + 1 + 1 + 1 + 1, by omega, ?_⟩
      (refine kon_mk T0ok (fn := Tryd.f38) (c := Tryd.f38.body.get rfl) Tryd.func38 rfl (by rfl) (by rfl) (by rfl) ?_; intro hfit hfe)
      (repeat (first | refine gq_LS ?_ | (refine ga_LS ?_; intro _hq)))
      ((try refine aw_ret ?_); refine ret_auto2 (by rfl) (by rfl) (by rfl) (by repeat (first | exact trivial | refine ⟨by first | rfl | omega, ?_⟩)) ?_ (by repeat (first | exact trivial | refine ⟨by rfl, by rfl, ?_⟩)) (by repeat (first | exact trivial | refine ⟨by rfl, by rfl, ?_⟩)); try rfl)
    · refine ⟨4, 0, 0, m + 64, c1 + 1 + 1 + 1 + 1, by omega, ?_⟩
      (refine kon_mk T0ok (fn := Tryd.f38) (c := Tryd.f38.body.get rfl) Tryd.func38 rfl (by rfl) (by rfl) (by rfl) ?_; intro hfit hfe)
      (repeat (first | refine gq_LS ?_ | (refine ga_LS ?_; intro _hq)))
      ((try refine aw_ret ?_); refine ret_auto2 (by rfl) (by rfl) (by rfl) (by repeat (first | exact trivial | refine ⟨by first | rfl | omega, ?_⟩)) ?_ (by repeat (first | exact trivial | refine ⟨by rfl, by rfl, ?_⟩)) (by repeat (first | exact trivial | refine ⟨by rfl, by rfl, ?_⟩)); try rfl)
set_option maxHeartbeats 4000000 in
theorem ex_text6_1 (l : List UInt8) (c k v w n c1 q : Int) (h : 0 ≤ c ∧ c ≤ 900000 ∧ l.length ≤ 2000) (hn : 0 ≤ n ∧ n ≤ 63) (hc : c ≤ c1 ∧ c1 ≤ c + 3) (hq : 0 ≤ q ∧ q < 6) (hx : q = 1)
    (hP : Kon Tryd.prog 66 [p0] [rdE l c] (lV k v w n) [] [rdE l c1]) (hQ : Kon Tryd.prog 47 [p0, vI 6] [rdE l c1] (vI q) [] [rdE l (c1 + 1)]) : ∃ (k v w n c' : Int), (c ≤ c' ∧ c' ≤ c + 12) ∧ Kon Tryd.prog 38 [p0, vI 6] [rdE l c] (lV k v w n) [] [rdE l c'] := by
  subst hx
  obtain ⟨m, _, hm, hM⟩ := ex_pick l (c1 + 1) 2 (by omega)
  have hm' := hm (by decide)
  obtain ⟨b, hO⟩ := ex_odd l (c1 + 1 + 1) 6 (by omega)
  cases b with
  | false =>
    refine ⟨([5, 7] : List Int).getD m.toNat Cel.no, 0, 0, 0, c1 + 1 + 1 + 1, by omega, ?_⟩
    (refine kon_mk T0ok (fn := Tryd.f38) (c := Tryd.f38.body.get rfl) Tryd.func38 rfl (by rfl) (by rfl) (by rfl) ?_; intro hfit hfe)
    (repeat (first | refine gq_LS ?_ | (refine ga_LS ?_; intro _hq)))
    ((try refine aw_ret ?_); refine ret_auto2 (by rfl) (by rfl) (by rfl) (by repeat (first | exact trivial | refine ⟨by first | rfl | omega, ?_⟩)) ?_ (by repeat (first | exact trivial | refine ⟨by rfl, by rfl, ?_⟩)) (by repeat (first | exact trivial | refine ⟨by rfl, by rfl, ?_⟩)); try rfl)
  | true =>
    obtain ⟨p, _, hp, hPk⟩ := ex_pick l (c1 + 1 + 1 + 1) 3 (by omega)
    have hp' := hp (by decide)
    have hp3 : p = 0 ∨ p = 1 ∨ p = 2 := by omega
    rcases hp3 with rfl | rfl | rfl
    · obtain ⟨z, _, hz, hZ⟩ := ex_pick l (c1 + 1 + 1 + 1 + 1) 2 (by omega)
      have hz' := hz (by decide)
      refine ⟨([-1, 9] : List Int).getD z.toNat Cel.no, 0, 0, 0, c1 + 1 + 1 + 1 + 1 + 1, by omega, ?_⟩
      (refine kon_mk T0ok (fn := Tryd.f38) (c := Tryd.f38.body.get rfl) Tryd.func38 rfl (by rfl) (by rfl) (by rfl) ?_; intro hfit hfe)
      (repeat (first | refine gq_LS ?_ | (refine ga_LS ?_; intro _hq)))
      ((try refine aw_ret ?_); refine ret_auto2 (by rfl) (by rfl) (by rfl) (by repeat (first | exact trivial | refine ⟨by first | rfl | omega, ?_⟩)) ?_ (by repeat (first | exact trivial | refine ⟨by rfl, by rfl, ?_⟩)) (by repeat (first | exact trivial | refine ⟨by rfl, by rfl, ?_⟩)); try rfl)
    · refine ⟨([5, 7] : List Int).getD m.toNat Cel.no, 4, 0, 0, c1 + 1 + 1 + 1 + 1, by omega, ?_⟩
      (refine kon_mk T0ok (fn := Tryd.f38) (c := Tryd.f38.body.get rfl) Tryd.func38 rfl (by rfl) (by rfl) (by rfl) ?_; intro hfit hfe)
      (repeat (first | refine gq_LS ?_ | (refine ga_LS ?_; intro _hq)))
      ((try refine aw_ret ?_); refine ret_auto2 (by rfl) (by rfl) (by rfl) (by repeat (first | exact trivial | refine ⟨by first | rfl | omega, ?_⟩)) ?_ (by repeat (first | exact trivial | refine ⟨by rfl, by rfl, ?_⟩)) (by repeat (first | exact trivial | refine ⟨by rfl, by rfl, ?_⟩)); try rfl)
    · refine ⟨([5, 7] : List Int).getD m.toNat Cel.no, 0, 0, 0 + 64, c1 + 1 + 1 + 1 + 1, by omega, ?_⟩
      (refine kon_mk T0ok (fn := Tryd.f38) (c := Tryd.f38.body.get rfl) Tryd.func38 rfl (by rfl) (by rfl) (by rfl) ?_; intro hfit hfe)
      (repeat (first | refine gq_LS ?_ | (refine ga_LS ?_; intro _hq)))
      ((try refine aw_ret ?_); refine ret_auto2 (by rfl) (by rfl) (by rfl) (by repeat (first | exact trivial | refine ⟨by first | rfl | omega, ?_⟩)) ?_ (by repeat (first | exact trivial | refine ⟨by rfl, by rfl, ?_⟩)) (by repeat (first | exact trivial | refine ⟨by rfl, by rfl, ?_⟩)); try rfl)
set_option maxHeartbeats 4000000 in
theorem ex_text6_2 (l : List UInt8) (c k v w n c1 q : Int) (h : 0 ≤ c ∧ c ≤ 900000 ∧ l.length ≤ 2000) (hn : 0 ≤ n ∧ n ≤ 63) (hc : c ≤ c1 ∧ c1 ≤ c + 3) (hq : 0 ≤ q ∧ q < 6) (hx : q = 2)
    (hP : Kon Tryd.prog 66 [p0] [rdE l c] (lV k v w n) [] [rdE l c1]) (hQ : Kon Tryd.prog 47 [p0, vI 6] [rdE l c1] (vI q) [] [rdE l (c1 + 1)]) : ∃ (k v w n c' : Int), (c ≤ c' ∧ c' ≤ c + 12) ∧ Kon Tryd.prog 38 [p0, vI 6] [rdE l c] (lV k v w n) [] [rdE l c'] := by
  subst hx
  obtain ⟨m, _, hm, hM⟩ := ex_pick l (c1 + 1) 2 (by omega)
  have hm' := hm (by decide)
  obtain ⟨m2, _, hm2, hM2⟩ := ex_pick l (c1 + 1 + 1) 4 (by omega)
  obtain ⟨m3, _, hm3, hM3⟩ := ex_pick l (c1 + 1 + 1 + 1) 64 (by omega)
  have hm3' := hm3 (by decide)
  obtain ⟨b, hO⟩ := ex_odd l (c1 + 1 + 1 + 1 + 1) 6 (by omega)
  cases b with
  | false =>
    refine ⟨([6, 8] : List Int).getD m.toNat Cel.no, m2, 0, m3, c1 + 1 + 1 + 1 + 1 + 1, by omega, ?_⟩
    (refine kon_mk T0ok (fn := Tryd.f38) (c := Tryd.f38.body.get rfl) Tryd.func38 rfl (by rfl) (by rfl) (by rfl) ?_; intro hfit hfe)
    (repeat (first | refine gq_LS ?_ | (refine ga_LS ?_; intro _hq)))
    (refine aw_draw mixed T0ok cfU_ok [(100000, [2, 6, 8]), (80, [10]), (400, [0, 3, 4])] (by rfl) (by kernel_rfl) ?_)
    (repeat (first | refine gq_LS ?_ | (refine ga_LS ?_; intro _hq)))
    ((try refine aw_ret ?_); refine ret_auto2 (by rfl) (by rfl) (by rfl) (by repeat (first | exact trivial | refine ⟨by first | rfl | omega, ?_⟩)) ?_ (by repeat (first | exact trivial | refine ⟨by rfl, by rfl, ?_⟩)) (by repeat (first | exact trivial | refine ⟨by rfl, by rfl, ?_⟩)); try rfl)
  | true =>
    obtain ⟨p, _, hp, hPk⟩ := ex_pick l (c1 + 1 + 1 + 1 + 1 + 1) 3 (by omega)
    have hp' := hp (by decide)
    have hp3 : p = 0 ∨ p = 1 ∨ p = 2 := by omega
    rcases hp3 with rfl | rfl | rfl
    · obtain ⟨z, _, hz, hZ⟩ := ex_pick l (c1 + 1 + 1 + 1 + 1 + 1 + 1) 2 (by omega)
      have hz' := hz (by decide)
      refine ⟨([-1, 9] : List Int).getD z.toNat Cel.no, m2, 0, m3, c1 + 1 + 1 + 1 + 1 + 1 + 1 + 1, by omega, ?_⟩
      (refine kon_mk T0ok (fn := Tryd.f38) (c := Tryd.f38.body.get rfl) Tryd.func38 rfl (by rfl) (by rfl) (by rfl) ?_; intro hfit hfe)
      (repeat (first | refine gq_LS ?_ | (refine ga_LS ?_; intro _hq)))
      (refine aw_draw mixed T0ok cfU_ok [(100000, [2, 6, 8]), (80, [10]), (400, [0, 3, 4])] (by rfl) (by kernel_rfl) ?_)
      (repeat (first | refine gq_LS ?_ | (refine ga_LS ?_; intro _hq)))
      ((try refine aw_ret ?_); refine ret_auto2 (by rfl) (by rfl) (by rfl) (by repeat (first | exact trivial | refine ⟨by first | rfl | omega, ?_⟩)) ?_ (by repeat (first | exact trivial | refine ⟨by rfl, by rfl, ?_⟩)) (by repeat (first | exact trivial | refine ⟨by rfl, by rfl, ?_⟩)); try rfl)
    · refine ⟨([6, 8] : List Int).getD m.toNat Cel.no, 4, 0, m3, c1 + 1 + 1 + 1 + 1 + 1 + 1, by omega, ?_⟩
      (refine kon_mk T0ok (fn := Tryd.f38) (c := Tryd.f38.body.get rfl) Tryd.func38 rfl (by rfl) (by rfl) (by rfl) ?_; intro hfit hfe)
      (repeat (first | refine gq_LS ?_ | (refine ga_LS ?_; intro _hq)))
      (refine aw_draw mixed T0ok cfU_ok [(100000, [2, 6, 8]), (80, [10]), (400, [0, 3, 4])] (by rfl) (by kernel_rfl) ?_)
      (repeat (first | refine gq_LS ?_ | (refine ga_LS ?_; intro _hq)))
      ((try refine aw_ret ?_); refine ret_auto2 (by rfl) (by rfl) (by rfl) (by repeat (first | exact trivial | refine ⟨by first | rfl | omega, ?_⟩)) ?_ (by repeat (first | exact trivial | refine ⟨by rfl, by rfl, ?_⟩)) (by repeat (first | exact trivial | refine ⟨by rfl, by rfl, ?_⟩)); try rfl)
    · refine ⟨([6, 8] : List Int).getD m.toNat Cel.no, m2, 0, m3 + 64, c1 + 1 + 1 + 1 + 1 + 1 + 1, by omega, ?_⟩
      (refine kon_mk T0ok (fn := Tryd.f38) (c := Tryd.f38.body.get rfl) Tryd.func38 rfl (by rfl) (by rfl) (by rfl) ?_; intro hfit hfe)
      (repeat (first | refine gq_LS ?_ | (refine ga_LS ?_; intro _hq)))
      (refine aw_draw mixed T0ok cfU_ok [(100000, [2, 6, 8]), (80, [10]), (400, [0, 3, 4])] (by rfl) (by kernel_rfl) ?_)
      (repeat (first | refine gq_LS ?_ | (refine ga_LS ?_; intro _hq)))
      ((try refine aw_ret ?_); refine ret_auto2 (by rfl) (by rfl) (by rfl) (by repeat (first | exact trivial | refine ⟨by first | rfl | omega, ?_⟩)) ?_ (by repeat (first | exact trivial | refine ⟨by rfl, by rfl, ?_⟩)) (by repeat (first | exact trivial | refine ⟨by rfl, by rfl, ?_⟩)); try rfl)
set_option maxHeartbeats 4000000 in
theorem ex_text6_3 (l : List UInt8) (c k v w n c1 q : Int) (h : 0 ≤ c ∧ c ≤ 900000 ∧ l.length ≤ 2000) (hn : 0 ≤ n ∧ n ≤ 63) (hc : c ≤ c1 ∧ c1 ≤ c + 3) (hq : 0 ≤ q ∧ q < 6) (hx : 3 ≤ q)
    (hP : Kon Tryd.prog 66 [p0] [rdE l c] (lV k v w n) [] [rdE l c1]) (hQ : Kon Tryd.prog 47 [p0, vI 6] [rdE l c1] (vI q) [] [rdE l (c1 + 1)]) : ∃ (k v w n c' : Int), (c ≤ c' ∧ c' ≤ c + 12) ∧ Kon Tryd.prog 38 [p0, vI 6] [rdE l c] (lV k v w n) [] [rdE l c'] := by
  obtain ⟨h0, h1, h2⟩ : (q == 0) = false ∧ (q == 1) = false ∧ (q == 2) = false := by refine ⟨?_, ?_, ?_⟩ <;> (simp; omega)
  obtain ⟨b, hO⟩ := ex_odd l (c1 + 1) 6 (by omega)
  cases b with
  | false =>
    refine ⟨k, v, w, n, c1 + 1 + 1, by omega, ?_⟩
    (refine kon_mk T0ok (fn := Tryd.f38) (c := Tryd.f38.body.get rfl) Tryd.func38 rfl (by rfl) (by rfl) (by rfl) ?_; intro hfit hfe)
    (repeat (first | refine gq_LS ?_ | (refine ga_LS ?_; intro _hq)))
    ((try refine aw_ret ?_); refine ret_auto2 (by rfl) (by rfl) (by rfl) (by repeat (first | exact trivial | refine ⟨by first | rfl | omega, ?_⟩)) ?_ (by repeat (first | exact trivial | refine ⟨by rfl, by rfl, ?_⟩)) (by repeat (first | exact trivial | refine ⟨by rfl, by rfl, ?_⟩)); try rfl)
  | true =>
    obtain ⟨p, _, hp, hPk⟩ := ex_pick l (c1 + 1 + 1) 3 (by omega)
    have hp' := hp (by decide)
    have hp3 : p = 0 ∨ p = 1 ∨ p = 2 := by omega
    rcases hp3 with rfl | rfl | rfl
    · obtain ⟨z, _, hz, hZ⟩ := ex_pick l (c1 + 1 + 1 + 1) 2 (by omega)
      have hz' := hz (by decide)
      refine ⟨([-1, 9] : List Int).getD z.toNat Cel.no, v, w, n, c1 + 1 + 1 + 1 + 1, by omega, ?_⟩
      (refine kon_mk T0ok (fn := Tryd.f38) (c := Tryd.f38.body.get rfl) Tryd.func38 rfl (by rfl) (by rfl) (by rfl) ?_; intro hfit hfe)
      (repeat (first | refine gq_LS ?_ | (refine ga_LS ?_; intro _hq)))
      ((try refine aw_ret ?_); refine ret_auto2 (by rfl) (by rfl) (by rfl) (by repeat (first | exact trivial | refine ⟨by first | rfl | omega, ?_⟩)) ?_ (by repeat (first | exact trivial | refine ⟨by rfl, by rfl, ?_⟩)) (by repeat (first | exact trivial | refine ⟨by rfl, by rfl, ?_⟩)); try rfl)
    · refine ⟨k, 4, w, n, c1 + 1 + 1 + 1, by omega, ?_⟩
      (refine kon_mk T0ok (fn := Tryd.f38) (c := Tryd.f38.body.get rfl) Tryd.func38 rfl (by rfl) (by rfl) (by rfl) ?_; intro hfit hfe)
      (repeat (first | refine gq_LS ?_ | (refine ga_LS ?_; intro _hq)))
      ((try refine aw_ret ?_); refine ret_auto2 (by rfl) (by rfl) (by rfl) (by repeat (first | exact trivial | refine ⟨by first | rfl | omega, ?_⟩)) ?_ (by repeat (first | exact trivial | refine ⟨by rfl, by rfl, ?_⟩)) (by repeat (first | exact trivial | refine ⟨by rfl, by rfl, ?_⟩)); try rfl)
    · refine ⟨k, v, w, n + 64, c1 + 1 + 1 + 1, by omega, ?_⟩
      (refine kon_mk T0ok (fn := Tryd.f38) (c := Tryd.f38.body.get rfl) Tryd.func38 rfl (by rfl) (by rfl) (by rfl) ?_; intro hfit hfe)
      (repeat (first | refine gq_LS ?_ | (refine ga_LS ?_; intro _hq)))
      ((try refine aw_ret ?_); refine ret_auto2 (by rfl) (by rfl) (by rfl) (by repeat (first | exact trivial | refine ⟨by first | rfl | omega, ?_⟩)) ?_ (by repeat (first | exact trivial | refine ⟨by rfl, by rfl, ?_⟩)) (by repeat (first | exact trivial | refine ⟨by rfl, by rfl, ?_⟩)); try rfl)
theorem ex_text6 (l : List UInt8) (c : Int) (h : 0 ≤ c ∧ c ≤ 900000 ∧ l.length ≤ 2000) : ∃ (k v w n c' : Int), (c ≤ c' ∧ c' ≤ c + 12) ∧ Kon Tryd.prog 38 [p0, vI 6] [rdE l c] (lV k v w n) [] [rdE l c'] := by
  obtain ⟨k, v, w, n, c1, q, hn, hc, hq, hP, hQ⟩ := ex_textA l c h
  have hx : q = 0 ∨ q = 1 ∨ q = 2 ∨ (3 ≤ q) := by omega
  rcases hx with hx | hx | hx | hx
  · exact ex_text6_0 l c k v w n c1 q h hn hc hq hx hP hQ
  · exact ex_text6_1 l c k v w n c1 q h hn hc hq hx hP hQ
  · exact ex_text6_2 l c k v w n c1 q h hn hc hq hx hP hQ
  · exact ex_text6_3 l c k v w n c1 q h hn hc hq hx hP hQ
theorem ex_drawLT (l : List UInt8) (hl : l.length ≤ 100000000) : ∃ (k v w n : Int), Kon Tryd.prog 13 [roA l] [] (lV k v w n) [] [] := by
  have h2 : (l.take 2000).length ≤ 2000 := by simp; omega
  obtain ⟨k, v, w, n, c', _, hK⟩ := ex_text6 (l.take 2000) 0 (by omega)
  refine ⟨k, v, w, n, ?_⟩
  (refine kon_mk T0ok (fn := Tryd.f13) (c := Tryd.f13.body.get rfl) Tryd.func13 rfl (by rfl) (by rfl) (by rfl) ?_; intro hfit hfe)
  (repeat (first | refine gq_LS ?_ | (refine ga_LS ?_; intro _hq)))
  ((try refine aw_ret ?_); refine ret_auto2 (by rfl) (by rfl) (by rfl) (by repeat (first | exact trivial | refine ⟨by first | rfl | omega, ?_⟩)) ?_ (by repeat (first | exact trivial | refine ⟨by rfl, by rfl, ?_⟩)) (by repeat (first | exact trivial | refine ⟨by rfl, by rfl, ?_⟩)); try rfl)
end Go.Proofs.YtjhdfkifpmmefaaDoor

/- Texts are drawn; the laws FnLineText and FnReadLine. -/
namespace Go.Proofs.YtjhdfkifpmmefaaDoor
set_option linter.unusedVariables false
set_option linter.unusedSimpArgs false
set_option maxRecDepth 20000
open Go.RowKit
open Go.Lib (decDigits)
attribute [local irreducible] runA runX AW
theorem gq_LT {H G : Prop} (k : H) (h : Hid H → G := by (intro hh; (first | (first | ((first | refine r_none ?_ | refine r_gt (by rfl) (by rfl) (by first | rfl | assumption | omega | (simp only [*, Bool.not_false, Bool.not_true]; first | done | fail) | (simp [*]; first | done | fail)) (by rfl) ?_ | refine r_gf (by rfl) (by rfl) (by first | rfl | assumption | omega | (simp only [*, Bool.not_false, Bool.not_true]; first | done | fail) | (simp [*]; first | done | fail)) (by rfl) ?_); (first | (first | refine r_slen (by rfl) Tryd.underlying9 (by rfl) ?_ | refine r_seq (by rfl) (by rfl) (by rfl) ?_ | refine r_sne (by rfl) (by rfl) (by rfl) ?_ | refine r_sadd (by rfl) (by rfl) (by first | omega | (simp only [List.length_append, List.length_cons, List.length_nil, List.length_take, List.length_drop]; omega)) (by rfl) ?_ | refine r_spiece (q := z) (by rfl) (by rfl) (by rfl) Tryd.underlying9 (.inl ⟨rfl, rfl⟩) (.inr rfl) (by omega) (by rfl) ?_ | refine r_spiece (p := z + 1) (by rfl) (by rfl) (by rfl) Tryd.underlying9 (.inr rfl) (.inl ⟨rfl, rfl⟩) (by omega) (by rfl) ?_) | ((first | (refine z_op (by rfl) ?_; first | refine z_ok ?_ ?_ | refine z_ex ?_ (by first | exact ft_raw rfl rfl | ((first | refine ft_rp rfl rfl rfl ?_ | refine ft_row rfl rfl rfl ?_ | refine ft_rpF rfl rfl rfl ?_ | refine ft_rowF rfl rfl rfl ?_ | refine up_row rfl rfl ?_ | refine up_rowF rfl rfl rfl ?_ | refine ct_0 rfl ?_ | refine ct_r rfl rfl ?_ | refine ct_c rfl rfl rfl ?_ | refine cu_all rfl ?_ | refine cu_to rfl ?_ | refine cu_from rfl ?_ | refine cu_p rfl ?_ | fail); (first | omega | (simp only [List.length_append, List.length_replicate, List.length_cons, List.length_nil, List.length_set, List.length_take, List.length_drop, true_and]; omega))) | exact up_raw rfl | exact pk_t (by first | rfl | assumption | omega | (simp only [*, Bool.not_false, Bool.not_true]; first | done | fail) | (simp [*]; first | done | fail)) rfl | exact pk_f (by first | rfl | assumption | omega | (simp only [*, Bool.not_false, Bool.not_true]; first | done | fail) | (simp [*]; first | done | fail)) rfl | (first | exact rw_c (List UInt8) rfl) | exact rw_raw | exact pu_cv (fun w => rfl) (by omega) | exact pu_of (fun w => rfl) rfl | exact be_of (fun w => rfl) | exact nc_of (fun _ _ _ _ => rfl) rfl | exact bu_of (fun w => rfl) rfl | (first | exact pu_of (fun w => eq_line _ _ _ _ _ _ _ _ _ _ w) rfl | exact pu_of (fun w => neq_line _ _ _ _ _ _ _ _ _ _ w) rfl)) ?_) | ((first | refine q_callE wsTS wsZ (by rfl) ?_ | refine q_callVE wsTS (by rfl) (by rfl) ?_); refine ⟨_, _, _, (by first | assumption | exact k_open _ (by omega) | exact k_alive), _, by rfl, ?_, ?_⟩)); focus (first | exact trivial | fail | exact rfl | (first | omega | (simp only [List.length_append, List.length_replicate, List.length_cons, List.length_nil, List.length_set, List.length_take, List.length_drop, true_and]; omega)) | exact cvB (fun w => rfl) | ((repeat' (first | exact rfl | exact cV_len _ | exact cV_ln rfl (by omega) | exact Cel.pos | omega | exact trivial | refine And.intro ?_ ?_)); done) | (simp [*]; done) | (simp; omega))) | fail)) | refine r_nt (by rfl) (by rfl) (by first | rfl | assumption | omega | (simp only [*, Bool.not_false, Bool.not_true]; first | done | fail) | (simp [*]; first | done | fail)) (by rfl) ?_ | refine r_nf (by rfl) (by rfl) (by first | rfl | assumption | omega | (simp only [*, Bool.not_false, Bool.not_true]; first | done | fail) | (simp [*]; first | done | fail)) (by rfl) ?_ | refine r_gu (by rfl) (by rfl) (by rfl) ?_ | refine r_nil ?_) | (first | refine aw_seq ?_ | refine aw_ct (by rfl) (by first | rfl | assumption | omega | (simp only [*, Bool.not_false, Bool.not_true]; first | done | fail) | (simp [*]; first | done | fail)) ?_ | refine aw_cf (by rfl) (by first | rfl | assumption | omega | (simp only [*, Bool.not_false, Bool.not_true]; first | done | fail) | (simp [*]; first | done | fail)) ?_ | refine aw_block ?_ | refine aw_region T0ok cfU_ok (by rfl) ?_ | refine aw_skip ?_ | refine aw_exit ?_ | refine ra_step ?_)); (repeat (first | (first | ((first | refine r_none ?_ | refine r_gt (by rfl) (by rfl) (by first | rfl | assumption | omega | (simp only [*, Bool.not_false, Bool.not_true]; first | done | fail) | (simp [*]; first | done | fail)) (by rfl) ?_ | refine r_gf (by rfl) (by rfl) (by first | rfl | assumption | omega | (simp only [*, Bool.not_false, Bool.not_true]; first | done | fail) | (simp [*]; first | done | fail)) (by rfl) ?_); (first | (first | refine r_slen (by rfl) Tryd.underlying9 (by rfl) ?_ | refine r_seq (by rfl) (by rfl) (by rfl) ?_ | refine r_sne (by rfl) (by rfl) (by rfl) ?_ | refine r_sadd (by rfl) (by rfl) (by first | omega | (simp only [List.length_append, List.length_cons, List.length_nil, List.length_take, List.length_drop]; omega)) (by rfl) ?_ | refine r_spiece (q := z) (by rfl) (by rfl) (by rfl) Tryd.underlying9 (.inl ⟨rfl, rfl⟩) (.inr rfl) (by omega) (by rfl) ?_ | refine r_spiece (p := z + 1) (by rfl) (by rfl) (by rfl) Tryd.underlying9 (.inr rfl) (.inl ⟨rfl, rfl⟩) (by omega) (by rfl) ?_) | ((first | (refine z_op (by rfl) ?_; first | refine z_ok ?_ ?_ | refine z_ex ?_ (by first | exact ft_raw rfl rfl | ((first | refine ft_rp rfl rfl rfl ?_ | refine ft_row rfl rfl rfl ?_ | refine ft_rpF rfl rfl rfl ?_ | refine ft_rowF rfl rfl rfl ?_ | refine up_row rfl rfl ?_ | refine up_rowF rfl rfl rfl ?_ | refine ct_0 rfl ?_ | refine ct_r rfl rfl ?_ | refine ct_c rfl rfl rfl ?_ | refine cu_all rfl ?_ | refine cu_to rfl ?_ | refine cu_from rfl ?_ | refine cu_p rfl ?_ | fail); (first | omega | (simp only [List.length_append, List.length_replicate, List.length_cons, List.length_nil, List.length_set, List.length_take, List.length_drop, true_and]; omega))) | exact up_raw rfl | exact pk_t (by first | rfl | assumption | omega | (simp only [*, Bool.not_false, Bool.not_true]; first | done | fail) | (simp [*]; first | done | fail)) rfl | exact pk_f (by first | rfl | assumption | omega | (simp only [*, Bool.not_false, Bool.not_true]; first | done | fail) | (simp [*]; first | done | fail)) rfl | (first | exact rw_c (List UInt8) rfl) | exact rw_raw | exact pu_cv (fun w => rfl) (by omega) | exact pu_of (fun w => rfl) rfl | exact be_of (fun w => rfl) | exact nc_of (fun _ _ _ _ => rfl) rfl | exact bu_of (fun w => rfl) rfl | (first | exact pu_of (fun w => eq_line _ _ _ _ _ _ _ _ _ _ w) rfl | exact pu_of (fun w => neq_line _ _ _ _ _ _ _ _ _ _ w) rfl)) ?_) | ((first | refine q_callE wsTS wsZ (by rfl) ?_ | refine q_callVE wsTS (by rfl) (by rfl) ?_); refine ⟨_, _, _, (by first | assumption | exact k_open _ (by omega) | exact k_alive), _, by rfl, ?_, ?_⟩)); focus (first | exact trivial | fail | exact rfl | (first | omega | (simp only [List.length_append, List.length_replicate, List.length_cons, List.length_nil, List.length_set, List.length_take, List.length_drop, true_and]; omega)) | exact cvB (fun w => rfl) | ((repeat' (first | exact rfl | exact cV_len _ | exact cV_ln rfl (by omega) | exact Cel.pos | omega | exact trivial | refine And.intro ?_ ?_)); done) | (simp [*]; done) | (simp; omega))) | fail)) | refine r_nt (by rfl) (by rfl) (by first | rfl | assumption | omega | (simp only [*, Bool.not_false, Bool.not_true]; first | done | fail) | (simp [*]; first | done | fail)) (by rfl) ?_ | refine r_nf (by rfl) (by rfl) (by first | rfl | assumption | omega | (simp only [*, Bool.not_false, Bool.not_true]; first | done | fail) | (simp [*]; first | done | fail)) (by rfl) ?_ | refine r_gu (by rfl) (by rfl) (by rfl) ?_ | refine r_nil ?_) | (first | refine aw_seq ?_ | refine aw_ct (by rfl) (by first | rfl | assumption | omega | (simp only [*, Bool.not_false, Bool.not_true]; first | done | fail) | (simp [*]; first | done | fail)) ?_ | refine aw_cf (by rfl) (by first | rfl | assumption | omega | (simp only [*, Bool.not_false, Bool.not_true]; first | done | fail) | (simp [*]; first | done | fail)) ?_ | refine aw_block ?_ | refine aw_region T0ok cfU_ok (by rfl) ?_ | refine aw_skip ?_ | refine aw_exit ?_ | refine ra_step ?_))); exact hh.out)) : G := h ⟨k⟩
theorem ga_LT {H G : Prop} (k : H) (h : Hid H → G := by (intro hh; (first | refine r_none ?_ | refine r_gt (by rfl) (by rfl) (by first | rfl | assumption | omega | (simp only [*, Bool.not_false, Bool.not_true]; first | done | fail) | (simp [*]; first | done | fail)) (by rfl) ?_ | refine r_gf (by rfl) (by rfl) (by first | rfl | assumption | omega | (simp only [*, Bool.not_false, Bool.not_true]; first | done | fail) | (simp [*]; first | done | fail)) (by rfl) ?_); refine z_op (by rfl) ?_; refine z_alV ?_ hh.out; focus (first | exact trivial | fail | exact rfl | (first | omega | (simp only [List.length_append, List.length_replicate, List.length_cons, List.length_nil, List.length_set, List.length_take, List.length_drop, true_and]; omega)) | exact cvB (fun w => rfl) | ((repeat' (first | exact rfl | exact cV_len _ | exact cV_ln rfl (by omega) | exact Cel.pos | omega | exact trivial | refine And.intro ?_ ?_)); done) | (simp [*]; done) | (simp; omega)))) : G := h ⟨k⟩
theorem ltx_len (k v w n : Int) : (ltx k v w n).length ≤ 20 := by
  unfold ltx
  cases h : lok k v w n with
  | false => rw [if_neg (by decide)]; simp
  | true =>
    rw [if_pos rfl]
    have hl := (l9W_len k).2
    have h4 := (l9W_len 4).2
    unfold lnT
    rcases kind9 h with hk | hk | rfl | hk
    · obtain ⟨hv, hw, _, _⟩ := lokA_t hk h
      have h1 := (dd_len (n := v) (by omega)).2
      have h2 := (dd_len (n := w) (by omega)).2
      rw [if_pos hk]
      simp only [List.length_append, List.length_cons, List.length_nil]; omega
    · obtain ⟨hv, _, hn⟩ := lokB_t hk h
      have h1 := (dd_len (n := v) (by omega)).2
      have h2 := (dd_len (n := n) (by omega)).2
      rw [if_neg (by omega), if_pos hk]
      simp only [List.length_append, List.length_cons, List.length_nil]; omega
    · obtain ⟨_, _, hn⟩ := lokC_t h
      have h2 := (dd_len (n := n) (by omega)).2
      rw [if_neg (by omega), if_neg (by omega), if_pos rfl]
      simp only [List.length_append, List.length_cons, List.length_nil]; omega
    · rw [if_neg (by omega), if_neg (by omega), if_neg (by omega)]; omega
theorem ex_drawRL (l : List UInt8) (hl : l.length ≤ 100000000) : ∃ s : List UInt8, s.length ≤ 100 ∧ Kon Tryd.prog 19 [roA l] [] (vS s) [] [] := by
  have h2 : (l.take 2000).length ≤ 2000 := by simp; omega
  obtain ⟨k, v, w, n, c', hc, hK⟩ := ex_text0 (l.take 2000) 0 (by omega)
  have hT := k_ltS k v w n
  have htl := ltx_len k v w n
  generalize ltx k v w n = t at *
  obtain ⟨p, _, hp, hP⟩ := ex_pick (l.take 2000) c' 3 (by omega)
  have hp' := hp (by decide)
  by_cases hcase : p = 0 ∧ 0 < t.length
  · obtain ⟨rfl, ht⟩ := hcase
    have hd : decide ((t.length : Int) > 0) = true := decide_eq_true (by omega)
    obtain ⟨q, _, hq, hQ⟩ := ex_pick (l.take 2000) (c' + 1) (t.length : Int) (by omega)
    have hq' := hq (by omega)
    obtain ⟨z, rfl⟩ : ∃ z : Nat, q = (z : Int) := ⟨q.toNat, by omega⟩
    obtain ⟨y, _, hy, hY⟩ := ex_pick (l.take 2000) (c' + 1 + 1) 5 (by omega)
    have hy' := hy (by decide)
    obtain ⟨e, he, hel⟩ : ∃ e : List UInt8, ([[], [48], [32], [51], [105, 102]] : List (List UInt8)).getD y.toNat Cel.no = e ∧ e.length ≤ 2 := by
      refine ⟨_, rfl, ?_⟩
      have : y.toNat = 0 ∨ y.toNat = 1 ∨ y.toNat = 2 ∨ y.toNat = 3 ∨ y.toNat = 4 := by omega
      rcases this with h | h | h | h | h <;> rw [h] <;> decide
    refine ⟨((t.drop 0).take (z - 0)) ++ ([[], [48], [32], [51], [105, 102]] : List (List UInt8)).getD y.toNat Cel.no ++ ((t.drop (z + 1)).take (t.length - (z + 1))), ?_, ?_⟩
    · rw [he]; simp only [List.length_append, List.length_take, List.length_drop]; omega
    have hel2 : (([[], [48], [32], [51], [105, 102]] : List (List UInt8)).getD y.toNat Cel.no).length ≤ 2 := by rw [he]; exact hel
    clear he
    (refine kon_mk T0ok (fn := Tryd.f19) (c := Tryd.f19.body.get rfl) Tryd.func19 rfl (by rfl) (by rfl) (by rfl) ?_; intro hfit hfe)
    (repeat (first | refine gq_LT ?_ | (refine ga_LT ?_; intro _hq)))
    (refine aw_draw mixed T0ok cfU_ok [(112, [5]), (416, [3, 6, 7])] (by rfl) (by kernel_rfl) ?_)
    (repeat (first | refine gq_LT ?_ | (refine ga_LT ?_; intro _hq)))
    ((try refine aw_ret ?_); refine ret_auto2 (by rfl) (by rfl) (by rfl) (by repeat (first | exact trivial | refine ⟨by first | rfl | omega, ?_⟩)) ?_ (by repeat (first | exact trivial | refine ⟨by rfl, by rfl, ?_⟩)) (by repeat (first | exact trivial | refine ⟨by rfl, by rfl, ?_⟩)); try rfl)
  · refine ⟨t, by omega, ?_⟩
    by_cases hp0 : p = 0
    · have ht : t.length = 0 := by omega
      have hd : decide ((t.length : Int) > 0) = false := decide_eq_false (by omega)
      subst hp0
      (refine kon_mk T0ok (fn := Tryd.f19) (c := Tryd.f19.body.get rfl) Tryd.func19 rfl (by rfl) (by rfl) (by rfl) ?_; intro hfit hfe)
      (repeat (first | refine gq_LT ?_ | (refine ga_LT ?_; intro _hq)))
      ((try refine aw_ret ?_); refine ret_auto2 (by rfl) (by rfl) (by rfl) (by repeat (first | exact trivial | refine ⟨by first | rfl | omega, ?_⟩)) ?_ (by repeat (first | exact trivial | refine ⟨by rfl, by rfl, ?_⟩)) (by repeat (first | exact trivial | refine ⟨by rfl, by rfl, ?_⟩)); try rfl)
    · have hb : (p == 0) = false := by simp; omega
      (refine kon_mk T0ok (fn := Tryd.f19) (c := Tryd.f19.body.get rfl) Tryd.func19 rfl (by rfl) (by rfl) (by rfl) ?_; intro hfit hfe)
      (repeat (first | refine gq_LT ?_ | (refine ga_LT ?_; intro _hq)))
      ((try refine aw_ret ?_); refine ret_auto2 (by rfl) (by rfl) (by rfl) (by repeat (first | exact trivial | refine ⟨by first | rfl | omega, ?_⟩)) ?_ (by repeat (first | exact trivial | refine ⟨by rfl, by rfl, ?_⟩)) (by repeat (first | exact trivial | refine ⟨by rfl, by rfl, ?_⟩)); try rfl)
end Go.Proofs.YtjhdfkifpmmefaaDoor
