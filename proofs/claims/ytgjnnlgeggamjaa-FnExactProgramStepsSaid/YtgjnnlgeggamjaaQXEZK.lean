/- TJE: laid into one text. -/
import Derived.Test.YtgjnnlgeggamjaaQXEE
import Derived.Test.YtgjnnlgeggamjaaQXEZE

namespace Go.Proofs.Ytgjnnlgeggamjaa
set_option linter.unusedVariables false
set_option linter.unusedSimpArgs false
set_option maxRecDepth 20000
open Go.RowKit
attribute [local irreducible] runA runX AW
theorem gq_TJE {H G : Prop} (k : H) (h : Hid H → G := by (intro hh; repeat1' (first | (first | (refine nxA ?_; (first | fail | ((first | (refine z_op (by rfl) ?_; first | refine z_ok ?_ ?_ | refine z_ex ?_ (by first | exact zL1 | ((first | fail); exact zWW) | exact zL2 | (first | exact rw_c Int rfl) | exact zL3 | fail) ?_) | ((first | refine q_callE wsT wsZ (by rfl) ?_ | refine q_callVE wsT (by rfl) (by rfl) ?_); refine ⟨_, _, _, (by first | assumption), _, by rfl, ?_, ?_⟩)); focus (first | exact trivial | fail | exact zQZ)) | fail)) | refine swA ?_) | refine awA ?_); exact hh.out)) : G := h ⟨k⟩
abbrev KSt (p : PS) (r : List Int) (Z : RS) : Prop := Kon Try.prog 48 [roA (fl p), roA r] [] (vI (Z.2 : Int)) [] []
theorem rs_shift {t : PS} (hw : wf t) (hl : lkA t) {r : List Int} {n : Nat} {y : RS} (hr : rok r) (h : rs t (r, n) = some y) : ∃ d, y.2 = n + d ∧ rs t (r, 0) = some (y.1, d) ∧ rv t r = (y.1, true) ∧ rok y.1 := by
  obtain ⟨b1, b2, b3, b4, b5⟩ := bk_ok hw hl
  obtain ⟨c1, c2, c3⟩ := bck hw hl (r, n) y hr h
  have h2 := c3 0
  obtain ⟨d1, d2, d3⟩ := bck b1 b2 (y.1, 0) (r, 0 + (y.2 - n)) c1 h2
  have h3 := d3 0
  rw [b5] at h3
  have hv := rv_rs t r n
  rw [h] at hv
  dsimp only at c2
  exact ⟨y.2 - n, by omega, by rw [h3]; simp, hv, c1⟩
set_option maxHeartbeats 8000000 in
theorem k_ssS_step (t : PS) (r : List Int) (Z : RS) (hN : (fl t).length ≤ 16) (hw : wf t) (hl : lkA t) (hr : rok r) (hz : rs t (r, 0) = some Z) (IH : ∀ p r' Z', (fl p).length < (fl t).length → wf p → lkA p → rok r' → rs p (r', 0) = some Z' → KSt p r' Z') : KSt t r Z := by
  unfold KSt
  obtain ⟨P, hP⟩ : ∃ P, P = fl t := ⟨_, rfl⟩
  have hZb : Z.2 ≤ 1000000000000 := by
    have h1 := rs_bd t hw hl (r, 0) Z hz
    have h2 := Wb_le t
    have h3 : 4 ^ (fl t).length ≤ 4 ^ 16 := Nat.pow_le_pow_right (by decide) hN
    have h4 : (4 : Nat) ^ 16 = 4294967296 := rfl
    dsimp only at h1
    omega
  rw [← hP]
  rw [← hP] at hN IH
  have hr4 := hr.1
  (refine kM Try.func48 rfl ?_; intro hfit hfe)
  (repeat (first | refine gq_TJE ?_ | (refine ga0A ?_; intro _hq)))
  (refine aw_rd [0] [] (fun g : Nat × List Int × Nat × PS => [(1, roA g.2.1), (5, vI g.2.2.1), (6, vI g.1)]) (fun _ => []) (fun g => g.1 + (fl g.2.2.2).length = P.length ∧ P.drop g.1 = fl g.2.2.2 ∧ wf g.2.2.2 ∧ lkA g.2.2.2 ∧ rok g.2.1 ∧ rs g.2.2.2 (g.2.1, g.2.2.1) = some Z) (fun g => P.length - g.1) (0, r, 0, t) (by rfl) (by rfl) ?_ (by rfl) zHE zHE ?_)
  · exact ⟨by rw [hP]; exact Nat.zero_add _, by rw [hP]; rfl, hw, hl, hr, hz⟩
  clear hP hz hw hl hr hr4
  rintro ⟨k, o, s, t'⟩ ⟨h1, h2, h3, h4, h5, hz⟩
  refine aw_post ?_
  dsimp only at h1 h2 h3 h4 h5 hz ⊢
  have ho4 := h5.1
  have hsZ : s ≤ Z.2 := (bck h3 h4 (o, s) Z h5 hz).2.1
  cases t' with
  | nil =>
    have hd : decide ((k : Int) < (P.length : Int)) = false := decide_eq_false (by rw [fl] at h1; simp at h1; omega)
    have hz2 : (o, s) = Z := Option.some.inj hz
    subst hz2
    clear hz
    (repeat (first | refine gq_TJE ?_ | (refine ga0A ?_; intro _hq)))
    (refine rtA ?_; try rfl)
  | one l t2 =>
    rw [fl, List.length_cons] at h1
    have hk : k < P.length := by omega
    have hd : decide ((k : Int) < (P.length : Int)) = true := decide_eq_true (by omega)
    rw [dropG hk, fl] at h2
    obtain ⟨h20, h21⟩ := List.cons.inj h2
    subst h20
    rw [rs] at hz
    obtain ⟨g1, g2⟩ := lkA_one h4
    rw [wf] at h3
    have hb := (do1_back g1 h3.1 h5).1
    have hR := k_rnS _ (.one (P.getD (k : Int).toNat Cel.no) .nil) o rfl (by rw [fl]; simp [fl]) ⟨h3.1, trivial⟩ (by unfold lkA; rw [fl, List.all_cons, g1]; rfl) h5
    unfold KRun at hR
    have hsl : (P.drop (k : Int).toNat).take (((k : Int) + 1) - (k : Int)).toNat = fl (.one (P.getD (k : Int).toNat Cel.no) .nil) := by
      rw [show (((k : Int) + 1) - (k : Int)).toNat = 1 by omega, show (k : Int).toNat = k by omega, dropG hk]
      rfl
    rw [← hsl] at hR
    have hrv : rv (.one (P.getD (k : Int).toNat Cel.no) .nil) o = (do1 (P.getD (k : Int).toNat Cel.no) o, true) := rfl
    rw [hrv] at hR
    have hs1 : s + 1 ≤ Z.2 := (bck h3.2 g2 (do1 (P.getD (k : Int).toNat Cel.no) o, s + 1) Z hb hz).2.1
    have hinv : k + 1 + (fl t2).length = P.length ∧ P.drop (k + 1) = fl t2 ∧ wf t2 ∧ lkA t2 ∧ rok (do1 (P.getD (k : Int).toNat Cel.no) o) ∧ rs t2 (do1 (P.getD (k : Int).toNat Cel.no) o, s + 1) = some Z := ⟨by omega, h21, h3.2, g2, hb, hz⟩
    have e4 : ((P.getD (k : Int).toNat Cel.no).k == 4) = false := beq_eq_false_iff_ne.2 (by omega)
    have e6 : ((P.getD (k : Int).toNat Cel.no).k == 6) = false := beq_eq_false_iff_ne.2 (by omega)
    clear hz hrv hsl h2 h21 h3 h4 hb g1 g2
    (repeat (first | refine gq_TJE ?_ | (refine ga0A ?_; intro _hq)))
    (refine wk_freeze 1776 (by rfl) (by rfl) ?_; refine wk_slot 1 1 (by rfl) (by rfl) (by first | exact trivial | omega | exact cvB (fun w => rfl) | ((repeat (any_goals (first | exact rfl | exact cV_len _ | exact cV_ln rfl (by omega) | exact Cel.pos | omega | exact trivial | refine And.intro ?_ ?_))); first | done | fail) | (simp [*]; first | done | fail)) ?_)
    refine wk_done ?_
    exact ⟨(k + 1, do1 (P.getD (k : Int).toNat Cel.no) o, s + 1, t2), hinv, ⟨by rfl, zHE, zHE⟩, (by first | omega | (dsimp only; omega))⟩
  | rep l e p t2 =>
    rw [fl, List.length_cons, List.length_append, List.length_cons] at h1
    have hk : k < P.length := by omega
    have hd : decide ((k : Int) < (P.length : Int)) = true := decide_eq_true (by omega)
    rw [wf] at h3
    have hPP : P = P.take k ++ (l :: (fl p ++ e :: fl t2)) := by
      have h22 := h2
      rw [fl] at h22
      rw [← h22, List.take_append_drop]
    have hcl : cls P k = k + 1 + (fl p).length := by
      have hc := cls_at (P.take k) l e p (fl t2) h3.2.1 (.inl h3.1.2)
      rw [← hPP, List.length_take, Nat.min_eq_left (by omega)] at hc
      exact hc
    have hC := k_clS P k (by omega) hk
    rw [hcl] at hC
    rw [dropG hk, fl] at h2
    obtain ⟨h20, h21⟩ := List.cons.inj h2
    clear hPP hcl
    subst h20
    obtain ⟨g1, g2, g3, g4⟩ := lkA_rep h4
    have hK : (P.getD (k : Int).toNat Cel.no).k = 4 := h3.1.1
    have e4 : ((P.getD (k : Int).toNat Cel.no).k == 4) = true := beq_iff_eq.2 hK
    have hsl : (P.drop ((k : Int) + 1).toNat).take ((((k + 1 + (fl p).length : Nat) : Int)) - ((k : Int) + 1)).toNat = fl p := by
      rw [show ((k : Int) + 1).toNat = k + 1 by omega, h21, show ((((k + 1 + (fl p).length : Nat) : Int)) - ((k : Int) + 1)).toNat = (fl p).length by omega]
      exact List.take_left
    have hsR : (P.drop (k : Int).toNat).take (((k + 1 + (fl p).length : Nat) : Int) + 1 - (k : Int)).toNat = fl (.rep (P.getD (k : Int).toNat Cel.no) e p .nil) := by
      rw [show (((k + 1 + (fl p).length : Nat) : Int) + 1 - (k : Int)).toNat = (fl p).length + 2 by omega, show (k : Int).toNat = k by omega, dropG hk, h21, fl, fl]
      rw [List.take_succ_cons]
      rw [show fl p ++ e :: fl t2 = (fl p ++ [e]) ++ fl t2 by simp]
      rw [List.take_left' (by simp)]
      rfl
    have hwn : wf (.rep (P.getD (k : Int).toNat Cel.no) e p .nil) := ⟨h3.1, h3.2.1, trivial⟩
    have hln : lkA (.rep (P.getD (k : Int).toNat Cel.no) e p .nil) := by
      unfold lkA at *
      rw [fl, List.all_cons, List.all_append, List.all_cons, g1, g2, g3]; rfl
    rw [rs] at hz
    cases hY : itO (rs p) (P.getD (k : Int).toNat Cel.no).c.toNat (o, s) with
    | none => rw [hY] at hz; cases hz
    | some Y =>
    rw [hY, Option.bind_some] at hz
    have hzn : rs (.rep (P.getD (k : Int).toNat Cel.no) e p .nil) (o, s) = some Y := by rw [rs, hY]; rfl
    obtain ⟨dY, _, _, hrvn, hYr⟩ := rs_shift hwn hln h5 hzn
    have hRn := k_rnS _ (.rep (P.getD (k : Int).toNat Cel.no) e p .nil) o rfl (by rw [fl, List.length_cons, List.length_append, List.length_cons, fl]; simp; omega) hwn hln h5
    unfold KRun at hRn
    rw [← hsR, hrvn] at hRn
    have hYZ : Y.2 ≤ Z.2 := (bck h3.2.2 g4 Y Z hYr hz).2.1
    have hc0 : 0 ≤ (P.getD (k : Int).toNat Cel.no).c ∧ (P.getD (k : Int).toNat Cel.no).c ≤ 3 := by have := lk_cases g1; omega
    have hYr4 := hYr.1
    clear hzn hrvn hsR
    (repeat (first | refine gq_TJE ?_ | (refine ga0A ?_; intro _hq)))
    (refine aw_rd [0, 1, 6, 7] [] (fun g : Nat × List Int × Nat => [(5, vI g.2.2), (8, roA g.2.1), (9, vI g.1)]) (fun _ => []) (fun g => (g.1 : Int) ≤ (P.getD (k : Int).toNat Cel.no).c ∧ rok g.2.1 ∧ itO (rs p) ((P.getD (k : Int).toNat Cel.no).c.toNat - g.1) (g.2.1, g.2.2) = some Y) (fun g => (P.getD (k : Int).toNat Cel.no).c.toNat - g.1) (0, o, s) (by rfl) (by rfl) ?_ (by rfl) zHE zHE ?_)
    · exact ⟨hc0.1, h5, hY⟩
    clear hY
    rintro ⟨i, w, s2⟩ ⟨f1, f2, fz⟩
    refine aw_post ?_
    dsimp only at f1 f2 fz ⊢
    have hw4 := f2.1
    have hs2 : s2 ≤ Y.2 := (bck_it (bck h3.2.1 g2) _ (w, s2) Y f2 fz).2.1
    rcases (show (i : Int) < (P.getD (k : Int).toNat Cel.no).c ∨ (i : Int) = (P.getD (k : Int).toNat Cel.no).c by omega) with f5 | f5
    · have hdi : decide ((i : Int) < (P.getD (k : Int).toNat Cel.no).c) = true := decide_eq_true f5
      rw [show (P.getD (k : Int).toNat Cel.no).c.toNat - i = (P.getD (k : Int).toNat Cel.no).c.toNat - (i + 1) + 1 by omega, itO] at fz
      cases hx : rs p (w, s2) with
      | none => rw [hx] at fz; cases fz
      | some x =>
      rw [hx, Option.bind_some] at fz
      obtain ⟨d, hd2, hx0, hrvx, hxr⟩ := rs_shift h3.2.1 g2 f2 hx
      have hS := IH p w (x.1, d) (by omega) h3.2.1 g2 f2 hx0
      have hR := k_rnS _ p w rfl (by omega) h3.2.1 g2 f2
      unfold KSt at hS
      unfold KRun at hR
      rw [← hsl] at hS hR
      rw [hrvx] at hR
      have hxY : x.2 ≤ Y.2 := (bck_it (bck h3.2.1 g2) _ x Y hxr fz).2.1
      have hsd : s2 + d ≤ Y.2 := by omega
      have hxe : x = (x.1, s2 + d) := by rw [← hd2]
      rw [hxe] at fz
      have hinv : ((i + 1 : Nat) : Int) ≤ (P.getD (k : Int).toNat Cel.no).c ∧ rok x.1 ∧ itO (rs p) ((P.getD (k : Int).toNat Cel.no).c.toNat - (i + 1)) (x.1, s2 + d) = some Y := ⟨by omega, hxr, fz⟩
      clear fz hx hx0 hrvx hxe
      dsimp only at hS
      (repeat (first | refine gq_TJE ?_ | (refine ga0A ?_; intro _hq)))
      (refine wk_freeze 960 (by rfl) (by rfl) ?_; refine wk_slot 8 1 (by rfl) (by rfl) (by first | exact trivial | omega | exact cvB (fun w => rfl) | ((repeat (any_goals (first | exact rfl | exact cV_len _ | exact cV_ln rfl (by omega) | exact Cel.pos | omega | exact trivial | refine And.intro ?_ ?_))); first | done | fail) | (simp [*]; first | done | fail)) ?_)
      refine wk_done ?_
      exact ⟨(i + 1, x.1, s2 + d), hinv, ⟨by rfl, zHE, zHE⟩, (by first | omega | (dsimp only; omega))⟩
    · have hdi : decide ((i : Int) < (P.getD (k : Int).toNat Cel.no).c) = false := decide_eq_false (by omega)
      rw [show (P.getD (k : Int).toNat Cel.no).c.toNat - i = 0 by omega] at fz
      have hYe : (w, s2) = Y := Option.some.inj fz
      subst hYe
      dsimp only at hRn
      have hinv : k + 1 + (fl p).length + 1 + (fl t2).length = P.length ∧ P.drop (k + 1 + (fl p).length + 1) = fl t2 ∧ wf t2 ∧ lkA t2 ∧ rok w ∧ rs t2 (w, s2) = some Z := by
        refine ⟨by omega, ?_, h3.2.2, g4, f2, hz⟩
        rw [show k + 1 + (fl p).length + 1 = (k + 1) + ((fl p).length + 1) by omega, ← List.drop_drop, h21, show fl p ++ e :: fl t2 = (fl p ++ [e]) ++ fl t2 by simp]
        exact List.drop_left' (by simp)
      clear hz fz
      (repeat (first | refine gq_TJE ?_ | (refine ga0A ?_; intro _hq)))
      (refine wk_freeze 1776 (by rfl) (by rfl) ?_; refine wk_slot 1 1 (by rfl) (by rfl) (by first | exact trivial | omega | exact cvB (fun w => rfl) | ((repeat (any_goals (first | exact rfl | exact cV_len _ | exact cV_ln rfl (by omega) | exact Cel.pos | omega | exact trivial | refine And.intro ?_ ?_))); first | done | fail) | (simp [*]; first | done | fail)) ?_)
      refine wk_done ?_
      exact ⟨(k + 1 + (fl p).length + 1, w, s2, t2), hinv, ⟨by rfl, zHE, zHE⟩, (by first | omega | (dsimp only; omega))⟩
  | iff l m e p q t2 =>
    rw [fl, List.length_cons, List.length_append, List.length_cons, List.length_append, List.length_cons] at h1
    have hk : k < P.length := by omega
    have hd : decide ((k : Int) < (P.length : Int)) = true := decide_eq_true (by omega)
    rw [wf] at h3
    have hPP : P = P.take k ++ (l :: (fl p ++ m :: (fl q ++ e :: fl t2))) := by
      have h22 := h2
      rw [fl] at h22
      rw [← h22, List.take_append_drop]
    have hcl : cls P k = k + 1 + (fl p).length := by
      have hc := cls_at (P.take k) l m p (fl q ++ e :: fl t2) h3.2.1 (.inr (.inl h3.1.2.1))
      rw [← hPP, List.length_take, Nat.min_eq_left (by omega)] at hc
      exact hc
    have hPQ : P = (P.take k ++ l :: fl p) ++ (m :: (fl q ++ e :: fl t2)) := hPP.trans (by simp)
    have hlp : (P.take k ++ l :: fl p).length = k + 1 + (fl p).length := by rw [List.length_append, List.length_cons, List.length_take, Nat.min_eq_left (by omega)]; omega
    have hcm : cls P (k + 1 + (fl p).length) = k + 1 + (fl p).length + 1 + (fl q).length := by
      have hc := cls_at (P.take k ++ l :: fl p) m e q (fl t2) h3.2.2.1 (.inr (.inr h3.1.2.2))
      rw [← hPQ, hlp] at hc
      exact hc
    have hC := k_clS P k (by omega) hk
    have hC2 := k_clS P (k + 1 + (fl p).length) (by omega) (by omega)
    rw [hcl] at hC
    rw [hcm] at hC2
    have hPE : P = (P.take k ++ l :: (fl p ++ m :: fl q)) ++ (e :: fl t2) := hPP.trans (by simp)
    have hle : (P.take k ++ l :: (fl p ++ m :: fl q)).length = k + 1 + (fl p).length + 1 + (fl q).length := by
      rw [List.length_append, List.length_cons, List.length_append, List.length_cons, List.length_take, Nat.min_eq_left (by omega)]; omega
    have hee : (P.getD ((k + 1 + (fl p).length + 1 + (fl q).length : Nat) : Int).toNat Cel.no) = e := by
      have hx := getD_mid (P.take k ++ l :: (fl p ++ m :: fl q)) (fl t2) e
      rw [← hPE, hle] at hx
      exact hx
    have hdt : P.drop (k + 1 + (fl p).length + 1 + (fl q).length + 1) = fl t2 := by
      have hx : ((P.take k ++ l :: (fl p ++ m :: fl q)) ++ (e :: fl t2)).drop ((P.take k ++ l :: (fl p ++ m :: fl q)).length + 1) = fl t2 := by
        rw [show (P.take k ++ l :: (fl p ++ m :: fl q)) ++ (e :: fl t2) = ((P.take k ++ l :: (fl p ++ m :: fl q)) ++ [e]) ++ fl t2 by simp]
        exact List.drop_left' (by simp; omega)
      rw [← hPE, hle] at hx
      exact hx
    have hdq : P.drop (k + 1 + (fl p).length + 1) = fl q ++ e :: fl t2 := by
      have hx : ((P.take k ++ l :: fl p) ++ (m :: (fl q ++ e :: fl t2))).drop ((P.take k ++ l :: fl p).length + 1) = fl q ++ e :: fl t2 := by
        rw [show (P.take k ++ l :: fl p) ++ (m :: (fl q ++ e :: fl t2)) = ((P.take k ++ l :: fl p) ++ [m]) ++ (fl q ++ e :: fl t2) by simp]
        exact List.drop_left' (by simp; omega)
      rw [← hPQ, hlp] at hx
      exact hx
    have hdp : P.drop (k + 1) = fl p ++ m :: (fl q ++ e :: fl t2) := by
      rw [dropG hk, fl] at h2
      exact (List.cons.inj h2).2
    have hs1 : (P.drop ((k : Int) + 1).toNat).take ((((k + 1 + (fl p).length : Nat) : Int)) - ((k : Int) + 1)).toNat = fl p := by
      rw [show ((k : Int) + 1).toNat = k + 1 by omega, hdp, show ((((k + 1 + (fl p).length : Nat) : Int)) - ((k : Int) + 1)).toNat = (fl p).length by omega]
      exact List.take_left
    have hs2 : (P.drop (((k + 1 + (fl p).length : Nat) : Int) + 1).toNat).take (((k + 1 + (fl p).length + 1 + (fl q).length : Nat) : Int) - (((k + 1 + (fl p).length : Nat) : Int) + 1)).toNat = fl q := by
      rw [show (((k + 1 + (fl p).length : Nat) : Int) + 1).toNat = k + 1 + (fl p).length + 1 by omega, hdq, show (((k + 1 + (fl p).length + 1 + (fl q).length : Nat) : Int) - (((k + 1 + (fl p).length : Nat) : Int) + 1)).toNat = (fl q).length by omega]
      exact List.take_left
    subst hee
    rw [dropG hk, fl] at h2
    obtain ⟨h20, h21⟩ := List.cons.inj h2
    clear hPP hPQ hPE hcl hcm hle hlp
    subst h20
    obtain ⟨g1, g2, g3, g4, g5, g6⟩ := lkA_iff h4
    have hK : (P.getD (k : Int).toNat Cel.no).k = 6 := h3.1.1
    have e4 : ((P.getD (k : Int).toNat Cel.no).k == 4) = false := beq_eq_false_iff_ne.2 (by omega)
    have e6 : ((P.getD (k : Int).toNat Cel.no).k == 6) = true := beq_iff_eq.2 hK
    have ha3 : 0 ≤ (P.getD (k : Int).toNat Cel.no).a ∧ (P.getD (k : Int).toNat Cel.no).a ≤ 3 := by have := lk_cases g1; omega
    have hE3 : 0 ≤ ((P.getD ((k + 1 + (fl p).length + 1 + (fl q).length : Nat) : Int).toNat Cel.no)).a ∧ ((P.getD ((k + 1 + (fl p).length + 1 + (fl q).length : Nat) : Int).toNat Cel.no)).a ≤ 3 := by have := lk_cases g5; omega
    have hsR : (P.drop (k : Int).toNat).take (((k + 1 + (fl p).length + 1 + (fl q).length : Nat) : Int) + 1 - (k : Int)).toNat = fl (.iff (P.getD (k : Int).toNat Cel.no) m (P.getD ((k + 1 + (fl p).length + 1 + (fl q).length : Nat) : Int).toNat Cel.no) p q .nil) := by
      rw [show (((k + 1 + (fl p).length + 1 + (fl q).length : Nat) : Int) + 1 - (k : Int)).toNat = (fl p).length + (fl q).length + 3 by omega, show (k : Int).toNat = k by omega, dropG hk, h21, fl, fl]
      rw [List.take_succ_cons]
      rw [show fl p ++ m :: (fl q ++ (P.getD ((k + 1 + (fl p).length + 1 + (fl q).length : Nat) : Int).toNat Cel.no) :: fl t2) = (fl p ++ m :: (fl q ++ [(P.getD ((k + 1 + (fl p).length + 1 + (fl q).length : Nat) : Int).toNat Cel.no)])) ++ fl t2 by simp]
      rw [List.take_left' (by simp; omega)]
      rfl
    have hwn : wf (.iff (P.getD (k : Int).toNat Cel.no) m (P.getD ((k + 1 + (fl p).length + 1 + (fl q).length : Nat) : Int).toNat Cel.no) p q .nil) := ⟨h3.1, h3.2.1, h3.2.2.1, trivial⟩
    have hln : lkA (.iff (P.getD (k : Int).toNat Cel.no) m (P.getD ((k + 1 + (fl p).length + 1 + (fl q).length : Nat) : Int).toNat Cel.no) p q .nil) := by
      unfold lkA at *
      rw [fl, List.all_cons, List.all_append, List.all_cons, List.all_append, List.all_cons, g1, g2, g3, g4, g5]; rfl
    rw [rs] at hz
    cases hf : (o.getD (P.getD (k : Int).toNat Cel.no).a.toNat Cel.no == (P.getD (k : Int).toNat Cel.no).c) with
    | false =>
      have hf' : (rg o (P.getD (k : Int).toNat Cel.no).a == (P.getD (k : Int).toNat Cel.no).c) = false := hf
      have hz' := hz
      simp only [hf', if_true, if_false, Bool.false_eq_true] at hz
      cases hy : rs q (o, s) with
      | none => rw [hy] at hz; cases hz
      | some y =>
      rw [hy, Option.bind_some] at hz
      split at hz
      · cases hz
      rename_i hne
      have hzn : rs (.iff (P.getD (k : Int).toNat Cel.no) m (P.getD ((k + 1 + (fl p).length + 1 + (fl q).length : Nat) : Int).toNat Cel.no) p q .nil) (o, s) = some y := by
        rw [rs]
        simp only [hf', if_true, if_false, Bool.false_eq_true, hy, Option.bind_some]
        rw [if_neg hne]; rfl
      obtain ⟨dY, _, _, hrvn, hYr⟩ := rs_shift hwn hln h5 hzn
      have hRn := k_rnS _ (.iff (P.getD (k : Int).toNat Cel.no) m (P.getD ((k + 1 + (fl p).length + 1 + (fl q).length : Nat) : Int).toNat Cel.no) p q .nil) o rfl (by rw [fl, List.length_cons, List.length_append, List.length_cons, List.length_append, List.length_cons, fl]; simp; omega) hwn hln h5
      unfold KRun at hRn
      rw [← hsR, hrvn] at hRn
      obtain ⟨d, hd2, hx0, hrvx, hxr⟩ := rs_shift h3.2.2.1 g4 h5 hy
      have hS := IH q o (y.1, d) (by omega) h3.2.2.1 g4 h5 hx0
      unfold KSt at hS
      rw [← hs2] at hS
      have hye : y = (y.1, s + d) := by rw [← hd2]
      have hyZ : y.2 ≤ Z.2 := (bck h3.2.2.2 g6 y Z hYr hz).2.1
      have hsd : s + d ≤ Z.2 := by omega
      rw [hye] at hz
      have hinv : k + 1 + (fl p).length + 1 + (fl q).length + 1 + (fl t2).length = P.length ∧ P.drop (k + 1 + (fl p).length + 1 + (fl q).length + 1) = fl t2 ∧ wf t2 ∧ lkA t2 ∧ rok y.1 ∧ rs t2 (y.1, s + d) = some Z := ⟨by omega, hdt, h3.2.2.2, g6, hYr, hz⟩
      clear hz hz' hzn hrvn hx0 hrvx hye hsR hne
      dsimp only at hS
      (repeat (first | refine gq_TJE ?_ | (refine ga0A ?_; intro _hq)))
      (refine aw_draw mixed T0ok cfU_ok [] (by rfl) (by kernel_rfl) ?_)
      (repeat (first | refine gq_TJE ?_ | (refine ga0A ?_; intro _hq)))
      (refine wk_freeze 1776 (by rfl) (by rfl) ?_; refine wk_slot 1 1 (by rfl) (by rfl) (by first | exact trivial | omega | exact cvB (fun w => rfl) | ((repeat (any_goals (first | exact rfl | exact cV_len _ | exact cV_ln rfl (by omega) | exact Cel.pos | omega | exact trivial | refine And.intro ?_ ?_))); first | done | fail) | (simp [*]; first | done | fail)) ?_)
      refine wk_done ?_
      exact ⟨(k + 1 + (fl p).length + 1 + (fl q).length + 1, y.1, s + d, t2), hinv, ⟨by rfl, zHE, zHE⟩, (by first | omega | (dsimp only; omega))⟩
    | true =>
      have hf' : (rg o (P.getD (k : Int).toNat Cel.no).a == (P.getD (k : Int).toNat Cel.no).c) = true := hf
      have hz' := hz
      simp only [hf', if_true, if_false, Bool.false_eq_true] at hz
      cases hy : rs p (o, s) with
      | none => rw [hy] at hz; cases hz
      | some y =>
      rw [hy, Option.bind_some] at hz
      split at hz
      · cases hz
      rename_i hne
      have hzn : rs (.iff (P.getD (k : Int).toNat Cel.no) m (P.getD ((k + 1 + (fl p).length + 1 + (fl q).length : Nat) : Int).toNat Cel.no) p q .nil) (o, s) = some y := by
        rw [rs]
        simp only [hf', if_true, if_false, Bool.false_eq_true, hy, Option.bind_some]
        rw [if_neg hne]; rfl
      obtain ⟨dY, _, _, hrvn, hYr⟩ := rs_shift hwn hln h5 hzn
      have hRn := k_rnS _ (.iff (P.getD (k : Int).toNat Cel.no) m (P.getD ((k + 1 + (fl p).length + 1 + (fl q).length : Nat) : Int).toNat Cel.no) p q .nil) o rfl (by rw [fl, List.length_cons, List.length_append, List.length_cons, List.length_append, List.length_cons, fl]; simp; omega) hwn hln h5
      unfold KRun at hRn
      rw [← hsR, hrvn] at hRn
      obtain ⟨d, hd2, hx0, hrvx, hxr⟩ := rs_shift h3.2.1 g2 h5 hy
      have hS := IH p o (y.1, d) (by omega) h3.2.1 g2 h5 hx0
      unfold KSt at hS
      rw [← hs1] at hS
      have hye : y = (y.1, s + d) := by rw [← hd2]
      have hyZ : y.2 ≤ Z.2 := (bck h3.2.2.2 g6 y Z hYr hz).2.1
      have hsd : s + d ≤ Z.2 := by omega
      rw [hye] at hz
      have hinv : k + 1 + (fl p).length + 1 + (fl q).length + 1 + (fl t2).length = P.length ∧ P.drop (k + 1 + (fl p).length + 1 + (fl q).length + 1) = fl t2 ∧ wf t2 ∧ lkA t2 ∧ rok y.1 ∧ rs t2 (y.1, s + d) = some Z := ⟨by omega, hdt, h3.2.2.2, g6, hYr, hz⟩
      clear hz hz' hzn hrvn hx0 hrvx hye hsR hne
      dsimp only at hS
      (repeat (first | refine gq_TJE ?_ | (refine ga0A ?_; intro _hq)))
      (refine aw_draw mixed T0ok cfU_ok [] (by rfl) (by kernel_rfl) ?_)
      (repeat (first | refine gq_TJE ?_ | (refine ga0A ?_; intro _hq)))
      (refine wk_freeze 1776 (by rfl) (by rfl) ?_; refine wk_slot 1 1 (by rfl) (by rfl) (by first | exact trivial | omega | exact cvB (fun w => rfl) | ((repeat (any_goals (first | exact rfl | exact cV_len _ | exact cV_ln rfl (by omega) | exact Cel.pos | omega | exact trivial | refine And.intro ?_ ?_))); first | done | fail) | (simp [*]; first | done | fail)) ?_)
      refine wk_done ?_
      exact ⟨(k + 1 + (fl p).length + 1 + (fl q).length + 1, y.1, s + d, t2), hinv, ⟨by rfl, zHE, zHE⟩, (by first | omega | (dsimp only; omega))⟩
theorem k_ssS : ∀ (N : Nat) (t : PS) (r : List Int) (Z : RS), (fl t).length = N → N ≤ 16 → wf t → lkA t → rok r → rs t (r, 0) = some Z → KSt t r Z := by
  intro N
  induction N using Nat.strongRecOn with
  | ind N ih =>
    intro t r Z hN h16 hw hl hr hz
    exact k_ssS_step t r Z (by omega) hw hl hr hz fun p r' Z' hp hw' hl' hr' hz' => ih _ (by omega) p r' Z' rfl (by omega) hw' hl' hr' hz'
end Go.Proofs.Ytgjnnlgeggamjaa
