/- LH, PT: laid into one text. -/
import Derived.Test.YtjhdfkifpmmefaaDoorQLinesE
import Derived.Test.YtjhdfkifpmmefaaDoorQLinesI

/- The text of a statement, in the reference; the law FnExactLineText. -/
namespace Go.Proofs.YtjhdfkifpmmefaaDoor
set_option linter.unusedVariables false
set_option linter.unusedSimpArgs false
set_option maxRecDepth 20000
open Go.RowKit
attribute [local irreducible] runA runX AW
theorem gq_LH {H G : Prop} (k : H) (h : Hid H → G := by (intro hh; (first | (first | ((first | refine r_none ?_ | refine r_gt (by rfl) (by rfl) (by first | rfl | assumption | omega | (simp only [*, Bool.not_false, Bool.not_true]; first | done | fail) | (simp [*]; first | done | fail)) (by rfl) ?_ | refine r_gf (by rfl) (by rfl) (by first | rfl | assumption | omega | (simp only [*, Bool.not_false, Bool.not_true]; first | done | fail) | (simp [*]; first | done | fail)) (by rfl) ?_); (first | (first | refine r_seq (by rfl) (by rfl) (by rfl) ?_ | refine r_sne (by rfl) (by rfl) (by rfl) ?_ | refine r_sadd (by rfl) (by rfl) (by first | omega | (simp only [List.length_append, List.length_cons, List.length_nil]; omega)) (by rfl) ?_ | refine r_i2b (by rfl) (fun w => by rfl) (by omega) (by rfl) ?_ | refine r_bstr1 (by rfl) (by rfl) (by rfl) (by rfl) Tryd.underlying28 Tryd.underlying5 Tryd.underlying9 (by exact ⟨rfl, rfl, Nat.zero_lt_one, rfl⟩) (by rfl) ?_) | ((first | (refine z_op (by rfl) ?_; first | refine z_ok ?_ ?_ | refine z_ex ?_ (by first | exact ft_raw rfl rfl | ((first | refine ft_rp rfl rfl rfl ?_ | refine ft_row rfl rfl rfl ?_ | refine ft_rpF rfl rfl rfl ?_ | refine ft_rowF rfl rfl rfl ?_ | refine up_row rfl rfl ?_ | refine up_rowF rfl rfl rfl ?_ | refine ct_0 rfl ?_ | refine ct_r rfl rfl ?_ | refine ct_c rfl rfl rfl ?_ | refine cu_all rfl ?_ | refine cu_to rfl ?_ | refine cu_from rfl ?_ | refine cu_p rfl ?_ | fail); (first | omega | (simp only [List.length_append, List.length_replicate, List.length_cons, List.length_nil, List.length_set, List.length_take, List.length_drop, true_and]; omega))) | exact up_raw rfl | exact pk_t (by first | rfl | assumption | omega | (simp only [*, Bool.not_false, Bool.not_true]; first | done | fail) | (simp [*]; first | done | fail)) rfl | exact pk_f (by first | rfl | assumption | omega | (simp only [*, Bool.not_false, Bool.not_true]; first | done | fail) | (simp [*]; first | done | fail)) rfl | (first | exact rw_c UInt8 rfl | exact rw_c (List UInt8) rfl) | exact rw_raw | exact pu_cv (fun w => rfl) (by omega) | exact pu_of (fun w => rfl) rfl | exact be_of (fun w => rfl) | exact nc_of (fun _ _ _ _ => rfl) rfl | exact bu_of (fun w => rfl) rfl | fail) ?_) | ((first | refine q_callE wsT wsZ (by rfl) ?_ | refine q_callVE wsT (by rfl) (by rfl) ?_); refine ⟨_, _, _, (by first | assumption | exact k_l9W _ (by omega) | exact k_num _ (by omega)), _, by rfl, ?_, ?_⟩)); focus (first | exact trivial | fail | exact rfl | (first | omega | (simp only [List.length_append, List.length_replicate, List.length_cons, List.length_nil, List.length_set, List.length_take, List.length_drop, true_and]; omega)) | exact cvB (fun w => rfl) | ((repeat' (first | exact rfl | exact cV_len _ | exact cV_ln rfl (by omega) | exact Cel.pos | omega | exact trivial | refine And.intro ?_ ?_)); done) | (simp [*]; done) | (simp; omega))) | fail)) | refine r_nt (by rfl) (by rfl) (by first | rfl | assumption | omega | (simp only [*, Bool.not_false, Bool.not_true]; first | done | fail) | (simp [*]; first | done | fail)) (by rfl) ?_ | refine r_nf (by rfl) (by rfl) (by first | rfl | assumption | omega | (simp only [*, Bool.not_false, Bool.not_true]; first | done | fail) | (simp [*]; first | done | fail)) (by rfl) ?_ | refine r_gu (by rfl) (by rfl) (by rfl) ?_ | refine r_nil ?_) | (first | refine aw_seq ?_ | refine aw_ct (by rfl) (by first | rfl | assumption | omega | (simp only [*, Bool.not_false, Bool.not_true]; first | done | fail) | (simp [*]; first | done | fail)) ?_ | refine aw_cf (by rfl) (by first | rfl | assumption | omega | (simp only [*, Bool.not_false, Bool.not_true]; first | done | fail) | (simp [*]; first | done | fail)) ?_ | refine aw_block ?_ | refine aw_region T0ok cfU_ok (by rfl) ?_ | refine aw_skip ?_ | refine aw_exit ?_ | refine ra_step ?_)); (repeat (first | (first | ((first | refine r_none ?_ | refine r_gt (by rfl) (by rfl) (by first | rfl | assumption | omega | (simp only [*, Bool.not_false, Bool.not_true]; first | done | fail) | (simp [*]; first | done | fail)) (by rfl) ?_ | refine r_gf (by rfl) (by rfl) (by first | rfl | assumption | omega | (simp only [*, Bool.not_false, Bool.not_true]; first | done | fail) | (simp [*]; first | done | fail)) (by rfl) ?_); (first | (first | refine r_seq (by rfl) (by rfl) (by rfl) ?_ | refine r_sne (by rfl) (by rfl) (by rfl) ?_ | refine r_sadd (by rfl) (by rfl) (by first | omega | (simp only [List.length_append, List.length_cons, List.length_nil]; omega)) (by rfl) ?_ | refine r_i2b (by rfl) (fun w => by rfl) (by omega) (by rfl) ?_ | refine r_bstr1 (by rfl) (by rfl) (by rfl) (by rfl) Tryd.underlying28 Tryd.underlying5 Tryd.underlying9 (by exact ⟨rfl, rfl, Nat.zero_lt_one, rfl⟩) (by rfl) ?_) | ((first | (refine z_op (by rfl) ?_; first | refine z_ok ?_ ?_ | refine z_ex ?_ (by first | exact ft_raw rfl rfl | ((first | refine ft_rp rfl rfl rfl ?_ | refine ft_row rfl rfl rfl ?_ | refine ft_rpF rfl rfl rfl ?_ | refine ft_rowF rfl rfl rfl ?_ | refine up_row rfl rfl ?_ | refine up_rowF rfl rfl rfl ?_ | refine ct_0 rfl ?_ | refine ct_r rfl rfl ?_ | refine ct_c rfl rfl rfl ?_ | refine cu_all rfl ?_ | refine cu_to rfl ?_ | refine cu_from rfl ?_ | refine cu_p rfl ?_ | fail); (first | omega | (simp only [List.length_append, List.length_replicate, List.length_cons, List.length_nil, List.length_set, List.length_take, List.length_drop, true_and]; omega))) | exact up_raw rfl | exact pk_t (by first | rfl | assumption | omega | (simp only [*, Bool.not_false, Bool.not_true]; first | done | fail) | (simp [*]; first | done | fail)) rfl | exact pk_f (by first | rfl | assumption | omega | (simp only [*, Bool.not_false, Bool.not_true]; first | done | fail) | (simp [*]; first | done | fail)) rfl | (first | exact rw_c UInt8 rfl | exact rw_c (List UInt8) rfl) | exact rw_raw | exact pu_cv (fun w => rfl) (by omega) | exact pu_of (fun w => rfl) rfl | exact be_of (fun w => rfl) | exact nc_of (fun _ _ _ _ => rfl) rfl | exact bu_of (fun w => rfl) rfl | fail) ?_) | ((first | refine q_callE wsT wsZ (by rfl) ?_ | refine q_callVE wsT (by rfl) (by rfl) ?_); refine ⟨_, _, _, (by first | assumption | exact k_l9W _ (by omega) | exact k_num _ (by omega)), _, by rfl, ?_, ?_⟩)); focus (first | exact trivial | fail | exact rfl | (first | omega | (simp only [List.length_append, List.length_replicate, List.length_cons, List.length_nil, List.length_set, List.length_take, List.length_drop, true_and]; omega)) | exact cvB (fun w => rfl) | ((repeat' (first | exact rfl | exact cV_len _ | exact cV_ln rfl (by omega) | exact Cel.pos | omega | exact trivial | refine And.intro ?_ ?_)); done) | (simp [*]; done) | (simp; omega))) | fail)) | refine r_nt (by rfl) (by rfl) (by first | rfl | assumption | omega | (simp only [*, Bool.not_false, Bool.not_true]; first | done | fail) | (simp [*]; first | done | fail)) (by rfl) ?_ | refine r_nf (by rfl) (by rfl) (by first | rfl | assumption | omega | (simp only [*, Bool.not_false, Bool.not_true]; first | done | fail) | (simp [*]; first | done | fail)) (by rfl) ?_ | refine r_gu (by rfl) (by rfl) (by rfl) ?_ | refine r_nil ?_) | (first | refine aw_seq ?_ | refine aw_ct (by rfl) (by first | rfl | assumption | omega | (simp only [*, Bool.not_false, Bool.not_true]; first | done | fail) | (simp [*]; first | done | fail)) ?_ | refine aw_cf (by rfl) (by first | rfl | assumption | omega | (simp only [*, Bool.not_false, Bool.not_true]; first | done | fail) | (simp [*]; first | done | fail)) ?_ | refine aw_block ?_ | refine aw_region T0ok cfU_ok (by rfl) ?_ | refine aw_skip ?_ | refine aw_exit ?_ | refine ra_step ?_))); exact hh.out)) : G := h ⟨k⟩
theorem ga_LH {H G : Prop} (k : H) (h : Hid H → G := by (intro hh; (first | refine r_none ?_ | refine r_gt (by rfl) (by rfl) (by first | rfl | assumption | omega | (simp only [*, Bool.not_false, Bool.not_true]; first | done | fail) | (simp [*]; first | done | fail)) (by rfl) ?_ | refine r_gf (by rfl) (by rfl) (by first | rfl | assumption | omega | (simp only [*, Bool.not_false, Bool.not_true]; first | done | fail) | (simp [*]; first | done | fail)) (by rfl) ?_); refine z_op (by rfl) ?_; refine z_alV ?_ hh.out; focus (first | exact trivial | fail | exact rfl | (first | omega | (simp only [List.length_append, List.length_replicate, List.length_cons, List.length_nil, List.length_set, List.length_take, List.length_drop, true_and]; omega)) | exact cvB (fun w => rfl) | ((repeat' (first | exact rfl | exact cV_len _ | exact cV_ln rfl (by omega) | exact Cel.pos | omega | exact trivial | refine And.intro ?_ ?_)); done) | (simp [*]; done) | (simp; omega)))) : G := h ⟨k⟩
theorem gd_LH {H G : Prop} (k : H) (h : Hid H → G := by (intro hh; (refine aw_draw mixed T0ok cfU_ok [] (by rfl) (by kernel_rfl) ?_); exact hh.out)) : G := h ⟨k⟩
theorem k_ltSA (k v w n : Int) (hk : k = 0 ∨ k = 1 ∨ k = 3) (h : lok k v w n = true) : Kon Tryd.prog 10 [lV k v w n] [] (vS (lnT k v w n)) [] [] := by
  have hL := k_lvS k v w n
  rw [h] at hL
  obtain ⟨hv, hw, _, hn⟩ := lokA_t hk h
  have hl := l9W_len k
  have hv2 := dd_len (n := v) (by omega)
  have hw2 := dd_len (n := w) (by omega)
  rcases hk with rfl | rfl | rfl
  all_goals (refine kon_mk T0ok (fn := Tryd.f10) (c := Tryd.f10.body.get rfl) Tryd.func10 rfl (by rfl) (by rfl) (by rfl) ?_; intro hfit hfe)
  all_goals ((repeat (first | refine gq_LH ?_ | (refine ga_LH ?_; intro _hq))))
  all_goals ((repeat (first | refine gq_LH ?_ | (refine ga_LH ?_; intro _hq) | refine gd_LH ?_)))
  all_goals (((try refine aw_ret ?_); refine ret_auto2 (by rfl) (by rfl) (by rfl) (by repeat (first | exact trivial | refine ⟨by first | rfl | omega, ?_⟩)) ?_ (by repeat (first | exact trivial | refine ⟨by rfl, by rfl, ?_⟩)) (by repeat (first | exact trivial | refine ⟨by rfl, by rfl, ?_⟩)); try rfl))
theorem k_ltSB (k v w n : Int) (hk : k = 2 ∨ k = 6 ∨ k = 8) (h : lok k v w n = true) : Kon Tryd.prog 10 [lV k v w n] [] (vS (lnT k v w n)) [] [] := by
  have hL := k_lvS k v w n
  rw [h] at hL
  obtain ⟨hv, hw, hn⟩ := lokB_t hk h
  have hl := l9W_len k
  have hv2 := dd_len (n := v) (by omega)
  have hn2 := dd_len (n := n) (by omega)
  rcases hk with rfl | rfl | rfl
  all_goals (refine kon_mk T0ok (fn := Tryd.f10) (c := Tryd.f10.body.get rfl) Tryd.func10 rfl (by rfl) (by rfl) (by rfl) ?_; intro hfit hfe)
  all_goals ((repeat (first | refine gq_LH ?_ | (refine ga_LH ?_; intro _hq))))
  all_goals ((repeat (first | refine gq_LH ?_ | (refine ga_LH ?_; intro _hq) | refine gd_LH ?_)))
  all_goals (((try refine aw_ret ?_); refine ret_auto2 (by rfl) (by rfl) (by rfl) (by repeat (first | exact trivial | refine ⟨by first | rfl | omega, ?_⟩)) ?_ (by repeat (first | exact trivial | refine ⟨by rfl, by rfl, ?_⟩)) (by repeat (first | exact trivial | refine ⟨by rfl, by rfl, ?_⟩)); try rfl))
theorem k_ltSC (v w n : Int) (h : lok 4 v w n = true) : Kon Tryd.prog 10 [lV 4 v w n] [] (vS (lnT 4 v w n)) [] [] := by
  have hL := k_lvS 4 v w n
  rw [h] at hL
  obtain ⟨hv, hw, hn⟩ := lokC_t h
  have hl := l9W_len 4
  have hn2 := dd_len (n := n) (by omega)
  (refine kon_mk T0ok (fn := Tryd.f10) (c := Tryd.f10.body.get rfl) Tryd.func10 rfl (by rfl) (by rfl) (by rfl) ?_; intro hfit hfe)
  (repeat (first | refine gq_LH ?_ | (refine ga_LH ?_; intro _hq)))
  ((try refine aw_ret ?_); refine ret_auto2 (by rfl) (by rfl) (by rfl) (by repeat (first | exact trivial | refine ⟨by first | rfl | omega, ?_⟩)) ?_ (by repeat (first | exact trivial | refine ⟨by rfl, by rfl, ?_⟩)) (by repeat (first | exact trivial | refine ⟨by rfl, by rfl, ?_⟩)); try rfl)
theorem k_ltSD (k v w n : Int) (hk : k = 5 ∨ k = 7) (h : lok k v w n = true) : Kon Tryd.prog 10 [lV k v w n] [] (vS (lnT k v w n)) [] [] := by
  have hL := k_lvS k v w n
  rw [h] at hL
  rcases hk with rfl | rfl
  all_goals (refine kon_mk T0ok (fn := Tryd.f10) (c := Tryd.f10.body.get rfl) Tryd.func10 rfl (by rfl) (by rfl) (by rfl) ?_; intro hfit hfe)
  all_goals ((repeat (first | refine gq_LH ?_ | (refine ga_LH ?_; intro _hq))))
  all_goals (((try refine aw_ret ?_); refine ret_auto2 (by rfl) (by rfl) (by rfl) (by repeat (first | exact trivial | refine ⟨by first | rfl | omega, ?_⟩)) ?_ (by repeat (first | exact trivial | refine ⟨by rfl, by rfl, ?_⟩)) (by repeat (first | exact trivial | refine ⟨by rfl, by rfl, ?_⟩)); try rfl))
theorem k_ltS (k v w n : Int) : Kon Tryd.prog 10 [lV k v w n] [] (vS (ltx k v w n)) [] [] := by
  unfold ltx
  cases h : lok k v w n with
  | false =>
    have hL := k_lvS k v w n
    rw [h] at hL
    rw [if_neg (by decide)]
    (refine kon_mk T0ok (fn := Tryd.f10) (c := Tryd.f10.body.get rfl) Tryd.func10 rfl (by rfl) (by rfl) (by rfl) ?_; intro hfit hfe)
    (repeat (first | refine gq_LH ?_ | (refine ga_LH ?_; intro _hq)))
    ((try refine aw_ret ?_); refine ret_auto2 (by rfl) (by rfl) (by rfl) (by repeat (first | exact trivial | refine ⟨by first | rfl | omega, ?_⟩)) ?_ (by repeat (first | exact trivial | refine ⟨by rfl, by rfl, ?_⟩)) (by repeat (first | exact trivial | refine ⟨by rfl, by rfl, ?_⟩)); try rfl)
  | true =>
    rw [if_pos rfl]
    rcases kind9 h with hk | hk | rfl | hk
    · exact k_ltSA k v w n hk h
    · exact k_ltSB k v w n hk h
    · exact k_ltSC v w n h
    · exact k_ltSD k v w n hk h
end Go.Proofs.YtjhdfkifpmmefaaDoor

/- When is a text that of a statement? -/
namespace Go.Proofs.YtjhdfkifpmmefaaDoor
set_option linter.unusedVariables false
set_option linter.unusedSimpArgs false
open Go.Lib (decDigits)
theorem l9W_no (k : Int) : (l9W k).contains 32 = false := by
  unfold l9W
  repeat (split; rfl)
  rfl
theorem l9W_inj8 : ∀ i j : Fin 9, (l9W (i.val : Int) == l9W (j.val : Int)) = (i == j) := by decide +kernel
theorem l9W_inj {k k' : Int} (h : 0 ≤ k ∧ k ≤ 8) (h' : 0 ≤ k' ∧ k' ≤ 8) (e : l9W k = l9W k') : k = k' := by
  have := l9W_inj8 ⟨k.toNat, by omega⟩ ⟨k'.toNat, by omega⟩
  dsimp only at this
  rw [show ((k.toNat : Nat) : Int) = k by omega, show ((k'.toNat : Nat) : Int) = k' by omega, e, beq_self_eq_true] at this
  have h2 := eq_of_beq this.symm
  have h3 := congrArg Fin.val h2
  dsimp only at h3
  omega
/-- The words of a statement's text. -/
def lnW (k v w n : Int) : List (List UInt8) :=
  if k = 0 ∨ k = 1 ∨ k = 3 then [l9W k, decDigits v.toNat, decDigits w.toNat]
  else if k = 2 ∨ k = 6 ∨ k = 8 then [l9W k, decDigits v.toNat, decDigits n.toNat]
  else if k = 4 then [l9W 4, decDigits n.toNat]
  else [l9W k]
theorem lnT_cut {k v w n : Int} (h : lok k v w n = true) : cutA 32 [] (lnT k v w n) = lnW k v w n := by
  have e3 : ∀ a b c : List UInt8, a.contains 32 = false → b.contains 32 = false → c.contains 32 = false → cutA 32 [] (a ++ [32] ++ b ++ [32] ++ c) = [a, b, c] := fun a b c ha hb hc => by
    rw [show a ++ [32] ++ b ++ [32] ++ c = a ++ 32 :: (b ++ 32 :: c) by simp, cutA_app ha, cutA_app hb, cutA_end hc]; rfl
  have e2 : ∀ a b : List UInt8, a.contains 32 = false → b.contains 32 = false → cutA 32 [] (a ++ [32] ++ b) = [a, b] := fun a b ha hb => by
    rw [show a ++ [32] ++ b = a ++ 32 :: b by simp, cutA_app ha, cutA_end hb]; rfl
  have e1 : ∀ a : List UInt8, a.contains 32 = false → cutA 32 [] a = [a] := fun a ha => by rw [cutA_end ha]; rfl
  unfold lnT lnW
  rcases kind9 h with hk | hk | rfl | hk
  · obtain ⟨hv, hw, _, _⟩ := lokA_t hk h
    rw [if_pos hk, if_pos hk]
    exact e3 _ _ _ (l9W_no k) (dd2_of (by omega)).2.2.1 (dd2_of (by omega)).2.2.1
  · obtain ⟨hv, _, hn⟩ := lokB_t hk h
    rw [if_neg (by omega), if_pos hk, if_neg (by omega), if_pos hk]
    exact e3 _ _ _ (l9W_no k) (dd2_of (by omega)).2.2.1 (dd2_of (by omega)).2.2.1
  · obtain ⟨_, _, hn⟩ := lokC_t h
    rw [if_neg (by omega), if_neg (by omega), if_pos rfl, if_neg (by omega), if_neg (by omega), if_pos rfl]
    exact e2 _ _ (l9W_no 4) (dd2_of (by omega)).2.2.1
  · rw [if_neg (by omega), if_neg (by omega), if_neg (by omega), if_neg (by omega), if_neg (by omega), if_neg (by omega)]
    exact e1 _ (l9W_no k)
theorem lnW_head (k v w n : Int) (h : lok k v w n = true) : (lnW k v w n).getD 0 [] = l9W k := by
  unfold lnW
  rcases kind9 h with hk | hk | rfl | hk
  · rw [if_pos hk]; rfl
  · rw [if_neg (by omega), if_pos hk]; rfl
  · rfl
  · rw [if_neg (by omega), if_neg (by omega), if_neg (by omega)]; rfl
theorem lnT_ne {k v w n : Int} : lnT k v w n ≠ [] := by
  have hl := (l9W_len k).1
  have h4 := (l9W_len 4).1
  intro e
  have e2 := congrArg List.length e
  unfold lnT at e2
  split at e2
  · simp at e2
  split at e2
  · simp at e2
  split at e2
  · simp at e2
  · simp only [List.length_nil] at e2; omega
abbrev tupL (k v w n : Int) (b : Bool) : AV := .tup [.agg (lCs k v w n), .one (.v (.bool b))]
/-- The text s is that of the valid statement. -/
def Ok (s : List UInt8) (k v w n : Int) : Prop := lok k v w n = true ∧ lnT k v w n = s
theorem kind_bd {k v w n : Int} (h : lok k v w n = true) : 0 ≤ k ∧ k ≤ 8 := by
  rcases kind9 h with hk | hk | rfl | hk <;> omega
theorem ok_head {s : List UInt8} {k v w n : Int} (h : Ok s k v w n) : (cutA 32 [] s).getD 0 [] = l9W k := by
  rw [← h.2, lnT_cut h.1, lnW_head k v w n h.1]
theorem ok_kind {s : List UInt8} {k v w n k' v' w' n' : Int} (h : Ok s k v w n) (h' : Ok s k' v' w' n') : k = k' :=
  l9W_inj (kind_bd h.1) (kind_bd h'.1) ((ok_head h).symm.trans (ok_head h'))
theorem ltx_eq {s : List UInt8} (hs : s ≠ []) {k v w n : Int} : (ltx k v w n == s) = true ↔ Ok s k v w n := by
  unfold ltx Ok
  rw [beq_iff_eq]
  cases h : lok k v w n with
  | true => rw [if_pos rfl]; simp
  | false => rw [if_neg (by decide)]; simp; exact fun e => hs e
/-- What a reader finds in the words: the second one's number, the third one's. -/
def wdA (s : List UInt8) : Int := if 1 < (cutA 32 [] s).length then dgs ((cutA 32 [] s).getD 1 []) else -1
def wdB (s : List UInt8) : Int := if 2 < (cutA 32 [] s).length then dgs ((cutA 32 [] s).getD 2 []) else -1
/-- The statement of a kind with two numbers. -/
def spv (j a b : Int) : Int := if j = 0 ∨ j = 1 ∨ j = 3 ∨ j = 2 ∨ j = 6 ∨ j = 8 then a else 0
def spw (j a b : Int) : Int := if j = 0 ∨ j = 1 ∨ j = 3 then b else 0
def spn (j a b : Int) : Int := if j = 2 ∨ j = 6 ∨ j = 8 then b else if j = 4 then a else 0
def spT (j a b : Int) : List UInt8 := ltx j (spv j a b) (spw j a b) (spn j a b)
theorem nn {n : Int} (h : 0 ≤ n) : ((n.toNat : Nat) : Int) = n := by omega
theorem ok_sp {s : List UInt8} {k v w n : Int} (h : Ok s k v w n) : spv k (wdA s) (wdB s) = v ∧ spw k (wdA s) (wdB s) = w ∧ spn k (wdA s) (wdB s) = n := by
  have hw := lnT_cut h.1
  rw [h.2] at hw
  unfold spv spw spn
  rcases kind9 h.1 with hk | hk | rfl | hk
  · obtain ⟨hv, hw2, _, rfl⟩ := lokA_t hk h.1
    have e : cutA 32 [] s = [l9W k, decDigits v.toNat, decDigits w.toNat] := by rw [hw]; unfold lnW; rw [if_pos hk]
    have ea : wdA s = v := by unfold wdA; rw [e, if_pos (by simp)]; exact (dd2_of (by omega)).1.trans (nn hv.1)
    have eb : wdB s = w := by unfold wdB; rw [e, if_pos (by simp)]; exact (dd2_of (by omega)).1.trans (nn hw2.1)
    rw [if_pos (by omega), if_pos hk, if_neg (by omega), if_neg (by omega), ea, eb]; exact ⟨rfl, rfl, rfl⟩
  · obtain ⟨hv, rfl, hn⟩ := lokB_t hk h.1
    have e : cutA 32 [] s = [l9W k, decDigits v.toNat, decDigits n.toNat] := by rw [hw]; unfold lnW; rw [if_neg (by omega), if_pos hk]
    have ea : wdA s = v := by unfold wdA; rw [e, if_pos (by simp)]; exact (dd2_of (by omega)).1.trans (nn hv.1)
    have eb : wdB s = n := by unfold wdB; rw [e, if_pos (by simp)]; exact (dd2_of (by omega)).1.trans (nn hn.1)
    rw [if_pos (by omega), if_neg (by omega), if_pos hk, ea, eb]; exact ⟨rfl, rfl, rfl⟩
  · obtain ⟨rfl, rfl, hn⟩ := lokC_t h.1
    have e : cutA 32 [] s = [l9W 4, decDigits n.toNat] := by rw [hw]; rfl
    have ea : wdA s = n := by unfold wdA; rw [e, if_pos (by simp)]; exact (dd2_of (by omega)).1.trans (nn hn.1)
    rw [if_neg (by omega), if_neg (by omega), if_neg (by omega), if_pos rfl, ea]; exact ⟨rfl, rfl, rfl⟩
  · obtain ⟨rfl, rfl, rfl⟩ := lokD_t hk h.1
    rw [if_neg (by omega), if_neg (by omega), if_neg (by omega), if_neg (by omega)]; exact ⟨rfl, rfl, rfl⟩
theorem sp_self {s : List UInt8} {k v w n : Int} (h : Ok s k v w n) : (spT k (wdA s) (wdB s) == s) = true := by
  obtain ⟨h1, h2, h3⟩ := ok_sp h
  unfold spT
  rw [h1, h2, h3, beq_iff_eq]
  unfold ltx
  rw [if_pos h.1]; exact h.2
theorem sp_ok {s : List UInt8} (hs : s ≠ []) {j a b : Int} (h : (spT j a b == s) = true) : ∃ v w n, Ok s j v w n := ⟨_, _, _, (ltx_eq hs).1 h⟩
/-- At another kind the text is another one. -/
theorem sp_other {s : List UInt8} (hs : s ≠ []) {k v w n j a b : Int} (h : Ok s k v w n) (hj : j ≠ k) : (spT j a b == s) = false := by
  rw [Bool.eq_false_iff]
  intro e
  obtain ⟨v', w', n', h'⟩ := sp_ok hs e
  exact hj (ok_kind h' h)
/-- With a space behind it a text of a statement is none. -/
theorem ok_snoc {s : List UInt8} {k v w n k' v' w' n' : Int} (h : Ok s k v w n) : ¬ Ok (s ++ [32]) k' v' w' n' := by
  intro h'
  have e1 := lnT_cut h'.1
  rw [h'.2, cutA_snoc] at e1
  have hne : ∀ x ∈ lnW k' v' w' n', x ≠ [] := by
    have hl := (l9W_len k').1
    have h4 := (l9W_len 4).1
    have key : ∀ n : Int, 0 ≤ n ∧ n < 100 → decDigits n.toNat ≠ [] := fun n hn e => by
      have := (dd2_of (n := n.toNat) (by omega)).2.2.2.1
      rw [e] at this; simp at this
    have kk : l9W k' ≠ [] := fun e => by rw [e] at hl; simp at hl
    have k4 : l9W 4 ≠ [] := fun e => by rw [e] at h4; simp at h4
    unfold lnW
    rcases kind9 h'.1 with hk | hk | rfl | hk
    · obtain ⟨hv, hw2, _, _⟩ := lokA_t hk h'.1
      rw [if_pos hk]
      intro x hx
      simp at hx
      rcases hx with rfl | rfl | rfl
      · exact kk
      · exact key _ (by omega)
      · exact key _ (by omega)
    · obtain ⟨hv, _, hn⟩ := lokB_t hk h'.1
      rw [if_neg (by omega), if_pos hk]
      intro x hx
      simp at hx
      rcases hx with rfl | rfl | rfl
      · exact kk
      · exact key _ (by omega)
      · exact key _ (by omega)
    · obtain ⟨_, _, hn⟩ := lokC_t h'.1
      rw [if_neg (by omega), if_neg (by omega), if_pos rfl]
      intro x hx
      simp at hx
      rcases hx with rfl | rfl
      · exact k4
      · exact key _ (by omega)
    · rw [if_neg (by omega), if_neg (by omega), if_neg (by omega)]
      intro x hx
      simp at hx
      subst hx
      exact kk
  refine hne [] ?_ rfl
  rw [← e1]
  simp
end Go.Proofs.YtjhdfkifpmmefaaDoor
