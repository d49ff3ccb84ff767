/- PKF: laid into one text. -/
import Derived.Test.YtgjnnlgeggamjaaQXEE
import Derived.Test.YtgjnnlgeggamjaaQXEJ
import Derived.Test.YtgjnnlgeggamjaaQXEK

namespace Go.Proofs.Ytgjnnlgeggamjaa
set_option linter.unusedVariables false
set_option linter.unusedSimpArgs false
set_option maxRecDepth 20000
open Go.RowKit
attribute [local irreducible] runA runX AW
theorem gq_PKF {H G : Prop} (k : H) (h : Hid H → G := by (intro hh; repeat1' (first | (first | (refine nxA ?_; (first | fail | ((first | (refine z_op (by rfl) ?_; first | refine z_ok ?_ ?_ | refine z_ex ?_ (by first | exact zL1 | ((first | fail); exact zWW) | exact zL2 | (first | exact rw_c Int rfl) | exact zL3 | fail) ?_) | ((first | refine q_callE wsT wsZ (by rfl) ?_ | refine q_callVE wsT (by rfl) (by rfl) ?_); refine ⟨_, _, _, (by first | assumption), _, by rfl, ?_, ?_⟩)); focus (first | exact trivial | fail | exact zQZ)) | fail)) | refine swA ?_) | refine awA ?_); exact hh.out)) : G := h ⟨k⟩
abbrev KRun (p : PS) (r : List Int) : Prop := Kon Try.prog 46 [roA (fl p), roA r] [] (.tup [.one (.sl 0 0 (rv p r).1.length), .one (.v (.bool (rv p r).2))]) [intRow (rv p r).1] []
abbrev md64 (x : Int) : Int := x % 64
theorem rok_at {r : List Int} (h : rok r) {i : Int} (hi : 0 ≤ i ∧ i ≤ 3) : 0 ≤ r.getD i.toNat Cel.no ∧ r.getD i.toNat Cel.no < 64 := h.2 i.toNat (by omega)
theorem rv_rok {p : PS} {r : List Int} (hw : wf p) (hl : lkA p) (hr : rok r) (hb : (rv p r).2 = true) : rok (rv p r).1 := by
  have h1 := rv_rs p r 0
  cases hf : rs p (r, 0) with
  | none => rw [hf] at h1; dsimp only at h1; rw [h1] at hb; cases hb
  | some y => rw [hf] at h1; dsimp only at h1; rw [h1]; exact (bck hw hl (r, 0) y hr hf).1
set_option maxHeartbeats 4000000 in
theorem k_rnS_step (t : PS) (r : List Int) (hN : (fl t).length ≤ 16) (hw : wf t) (hl : lkA t) (hr : rok r) (IH : ∀ p r', (fl p).length < (fl t).length → wf p → lkA p → rok r' → KRun p r') : KRun t r := by
  unfold KRun
  obtain ⟨P, hP⟩ : ∃ P, P = fl t := ⟨_, rfl⟩
  obtain ⟨Z, hZ⟩ : ∃ Z, Z = rv t r := ⟨_, rfl⟩
  rw [← hP, ← hZ]
  rw [← hP] at hN IH
  have hr4 := hr.1
  (refine kM Try.func46 rfl ?_; intro hfit hfe)
  (repeat (first | refine gq_PKF ?_ | (refine ga0A ?_; intro _hq)))
  (refine aw_rd [0, 1] [] (fun g : Nat × Nat × List Int × PS × Nat => [(6, .g (.one (.sl 320 g.2.1 g.2.2.2.2))), (7, vI g.1)]) (fun g => [(320, (g.2.1, intRow g.2.2.1))]) (fun g => g.1 + (fl g.2.2.2.1).length = P.length ∧ P.drop g.1 = fl g.2.2.2.1 ∧ wf g.2.2.2.1 ∧ lkA g.2.2.2.1 ∧ rok g.2.2.1 ∧ g.2.2.2.2 = g.2.2.1.length ∧ rv g.2.2.2.1 g.2.2.1 = Z) (fun g => P.length - g.1) (0, 1, r, t, r.length) (by rfl) (by rfl) ?_ (by rfl) zHE zHE ?_)
  · exact ⟨by rw [hP]; exact Nat.zero_add _, by rw [hP]; rfl, hw, hl, hr, rfl, hZ.symm⟩
  clear hP hZ hw hl hr hr4
  rintro ⟨k, u, o, t', n⟩ ⟨h1, h2, h3, h4, h5, hn, hz⟩
  refine aw_post ?_
  dsimp only at h1 h2 h3 h4 h5 hn hz ⊢
  subst hn
  have ho4 := h5.1
  cases t' with
  | nil =>
    have hd : decide ((k : Int) < (P.length : Int)) = false := decide_eq_false (by rw [fl] at h1; simp at h1; omega)
    rw [rv] at hz
    rw [← hz]
    clear hz
    (repeat (first | refine gq_PKF ?_ | (refine ga0A ?_; intro _hq)))
    (refine rtA ?_; try rfl)
  | one l t2 =>
    rw [fl, List.length_cons] at h1
    have hk : k < P.length := by omega
    have hd : decide ((k : Int) < (P.length : Int)) = true := decide_eq_true (by omega)
    rw [dropG hk, fl] at h2
    obtain ⟨h20, h21⟩ := List.cons.inj h2
    subst h20
    rw [rv] at hz
    obtain ⟨g1, g2⟩ := lkA_one h4
    rw [wf] at h3
    have hb := (do1_back g1 h3.1 h5).1
    have hinv : k + 1 + (fl t2).length = P.length ∧ P.drop (k + 1) = fl t2 ∧ wf t2 ∧ lkA t2 ∧ rok (do1 (P.getD (k : Int).toNat Cel.no) o) ∧ o.length = (do1 (P.getD (k : Int).toNat Cel.no) o).length ∧ rv t2 (do1 (P.getD (k : Int).toNat Cel.no) o) = Z := ⟨by omega, h21, h3.2, g2, hb, h5.1.trans hb.1.symm, hz⟩
    have hbd := lk_cases g1
    have hkk := h3.1
    have ha3 : 0 ≤ (P.getD (k : Int).toNat Cel.no).a ∧ (P.getD (k : Int).toNat Cel.no).a ≤ 3 := by omega
    have hb3 : 0 ≤ (P.getD (k : Int).toNat Cel.no).b ∧ (P.getD (k : Int).toNat Cel.no).b ≤ 3 := by omega
    have hc3 : 0 ≤ (P.getD (k : Int).toNat Cel.no).c ∧ (P.getD (k : Int).toNat Cel.no).c ≤ 63 := by omega
    have hra := rok_at h5 ha3
    have hrb := rok_at h5 hb3
    clear hz hb h2 h21 h3 g1 g2 hbd h4
    · rcases (show (P.getD (k : Int).toNat Cel.no).k = 0 ∨ (P.getD (k : Int).toNat Cel.no).k = 1 ∨ (P.getD (k : Int).toNat Cel.no).k = 2 ∨ (P.getD (k : Int).toNat Cel.no).k = 3 by omega) with hK | hK | hK | hK
      · skip
        have e0 : ((P.getD (k : Int).toNat Cel.no).k == 0) = true := beq_iff_eq.2 hK
        have hdo : do1 (P.getD (k : Int).toNat Cel.no) o = o.set (P.getD (k : Int).toNat Cel.no).a.toNat (md64 ((o.getD (P.getD (k : Int).toNat Cel.no).a.toNat Cel.no) + (o.getD (P.getD (k : Int).toNat Cel.no).b.toNat Cel.no))) := by unfold do1 rg; rw [if_pos hK]; rfl
        rw [hdo] at hinv
        (repeat (first | refine gq_PKF ?_ | (refine ga0A ?_; intro _hq)))
        (refine aw_draw2 mixed T0ok cfU_ok [(320, [1000, 1003, 1006, 1007, 1008, 1011, 1012, 1015, 16])] (by rfl) (by kernel_rfl) ?_)
        (repeat (first | refine gq_PKF ?_ | (refine ga0A ?_; intro _hq)))
        refine wk_done ?_
        exact ⟨(k + 1, u, o.set (P.getD (k : Int).toNat Cel.no).a.toNat (md64 ((o.getD (P.getD (k : Int).toNat Cel.no).a.toNat Cel.no) + (o.getD (P.getD (k : Int).toNat Cel.no).b.toNat Cel.no))), t2, o.length), hinv, ⟨by rfl, zHE, zHE⟩, (by first | omega | (dsimp only; omega))⟩
      · skip
        have e0 : ((P.getD (k : Int).toNat Cel.no).k == 0) = false := beq_eq_false_iff_ne.2 (by omega)
        have e1 : ((P.getD (k : Int).toNat Cel.no).k == 1) = true := beq_iff_eq.2 hK
        have hdo : do1 (P.getD (k : Int).toNat Cel.no) o = o.set (P.getD (k : Int).toNat Cel.no).a.toNat (md64 ((o.getD (P.getD (k : Int).toNat Cel.no).a.toNat Cel.no) - (o.getD (P.getD (k : Int).toNat Cel.no).b.toNat Cel.no) + 64)) := by unfold do1 rg; rw [if_neg (by omega), if_pos hK]; exact congrArg (fun z : Int => o.set (P.getD (k : Int).toNat Cel.no).a.toNat (z % 64)) (show (o.getD (P.getD (k : Int).toNat Cel.no).a.toNat Cel.no) + 64 - (o.getD (P.getD (k : Int).toNat Cel.no).b.toNat Cel.no) = (o.getD (P.getD (k : Int).toNat Cel.no).a.toNat Cel.no) - (o.getD (P.getD (k : Int).toNat Cel.no).b.toNat Cel.no) + 64 by omega)
        rw [hdo] at hinv
        (repeat (first | refine gq_PKF ?_ | (refine ga0A ?_; intro _hq)))
        (refine aw_draw2 mixed T0ok cfU_ok [(320, [1000, 1003, 1006, 1007, 1008, 1011, 1012, 1016, 17])] (by rfl) (by kernel_rfl) ?_)
        (repeat (first | refine gq_PKF ?_ | (refine ga0A ?_; intro _hq)))
        refine wk_done ?_
        exact ⟨(k + 1, u, o.set (P.getD (k : Int).toNat Cel.no).a.toNat (md64 ((o.getD (P.getD (k : Int).toNat Cel.no).a.toNat Cel.no) - (o.getD (P.getD (k : Int).toNat Cel.no).b.toNat Cel.no) + 64)), t2, o.length), hinv, ⟨by rfl, zHE, zHE⟩, (by first | omega | (dsimp only; omega))⟩
      · skip
        have e0 : ((P.getD (k : Int).toNat Cel.no).k == 0) = false := beq_eq_false_iff_ne.2 (by omega)
        have e1 : ((P.getD (k : Int).toNat Cel.no).k == 1) = false := beq_eq_false_iff_ne.2 (by omega)
        have e2 : ((P.getD (k : Int).toNat Cel.no).k == 2) = true := beq_iff_eq.2 hK
        have hdo : do1 (P.getD (k : Int).toNat Cel.no) o = o.set (P.getD (k : Int).toNat Cel.no).a.toNat (md64 ((o.getD (P.getD (k : Int).toNat Cel.no).a.toNat Cel.no) + (P.getD (k : Int).toNat Cel.no).c)) := by unfold do1 rg; rw [if_neg (by omega), if_neg (by omega), if_pos hK]; rfl
        rw [hdo] at hinv
        (repeat (first | refine gq_PKF ?_ | (refine ga0A ?_; intro _hq)))
        (refine aw_draw2 mixed T0ok cfU_ok [(320, [1000, 1003, 1006, 1007, 1012, 13])] (by rfl) (by kernel_rfl) ?_)
        (repeat (first | refine gq_PKF ?_ | (refine ga0A ?_; intro _hq)))
        refine wk_done ?_
        exact ⟨(k + 1, u, o.set (P.getD (k : Int).toNat Cel.no).a.toNat (md64 ((o.getD (P.getD (k : Int).toNat Cel.no).a.toNat Cel.no) + (P.getD (k : Int).toNat Cel.no).c)), t2, o.length), hinv, ⟨by rfl, zHE, zHE⟩, (by first | omega | (dsimp only; omega))⟩
      · skip
        have e0 : ((P.getD (k : Int).toNat Cel.no).k == 0) = false := beq_eq_false_iff_ne.2 (by omega)
        have e1 : ((P.getD (k : Int).toNat Cel.no).k == 1) = false := beq_eq_false_iff_ne.2 (by omega)
        have e2 : ((P.getD (k : Int).toNat Cel.no).k == 2) = false := beq_eq_false_iff_ne.2 (by omega)
        have e3 : ((P.getD (k : Int).toNat Cel.no).k == 3) = true := beq_iff_eq.2 hK
        have hdo : do1 (P.getD (k : Int).toNat Cel.no) o = (o.set (P.getD (k : Int).toNat Cel.no).a.toNat (o.getD (P.getD (k : Int).toNat Cel.no).b.toNat Cel.no)).set (P.getD (k : Int).toNat Cel.no).b.toNat (o.getD (P.getD (k : Int).toNat Cel.no).a.toNat Cel.no) := by unfold do1 rg; rw [if_neg (by omega), if_neg (by omega), if_neg (by omega), if_pos hK]; rfl
        rw [hdo] at hinv
        (repeat (first | refine gq_PKF ?_ | (refine ga0A ?_; intro _hq)))
        (refine aw_draw2 mixed T0ok cfU_ok [(320, [1000, 1003, 1006, 1007, 1008, 9])] (by rfl) (by kernel_rfl) ?_)
        (repeat (first | refine gq_PKF ?_ | (refine ga0A ?_; intro _hq)))
        refine wk_done ?_
        exact ⟨(k + 1, u, (o.set (P.getD (k : Int).toNat Cel.no).a.toNat (o.getD (P.getD (k : Int).toNat Cel.no).b.toNat Cel.no)).set (P.getD (k : Int).toNat Cel.no).b.toNat (o.getD (P.getD (k : Int).toNat Cel.no).a.toNat Cel.no), t2, o.length), hinv, ⟨by rfl, zHE, zHE⟩, (by first | omega | (dsimp only; omega))⟩
  | rep l e p t2 =>
    rw [fl, List.length_cons, List.length_append, List.length_cons] at h1
    have hk : k < P.length := by omega
    have hd : decide ((k : Int) < (P.length : Int)) = true := decide_eq_true (by omega)
    rw [wf] at h3
    have hPP : P = P.take k ++ (l :: (fl p ++ e :: fl t2)) := by
      have h22 := h2
      rw [fl] at h22
      rw [← h22, List.take_append_drop]
    have hcl : cls P k = k + 1 + (fl p).length := by
      have hc := cls_at (P.take k) l e p (fl t2) h3.2.1 (.inl h3.1.2)
      rw [← hPP, List.length_take, Nat.min_eq_left (by omega)] at hc
      exact hc
    have hC := k_clS P k (by omega) hk
    rw [hcl] at hC
    rw [dropG hk, fl] at h2
    obtain ⟨h20, h21⟩ := List.cons.inj h2
    clear hPP hcl
    subst h20
    obtain ⟨g1, g2, g3, g4⟩ := lkA_rep h4
    have hK : (P.getD (k : Int).toNat Cel.no).k = 4 := h3.1.1
    have e0 : ((P.getD (k : Int).toNat Cel.no).k == 0) = false := beq_eq_false_iff_ne.2 (by omega)
    have e1 : ((P.getD (k : Int).toNat Cel.no).k == 1) = false := beq_eq_false_iff_ne.2 (by omega)
    have e2 : ((P.getD (k : Int).toNat Cel.no).k == 2) = false := beq_eq_false_iff_ne.2 (by omega)
    have e3 : ((P.getD (k : Int).toNat Cel.no).k == 3) = false := beq_eq_false_iff_ne.2 (by omega)
    have e4 : ((P.getD (k : Int).toNat Cel.no).k == 4) = true := beq_iff_eq.2 hK
    have hsl : (P.drop ((k : Int) + 1).toNat).take ((((k + 1 + (fl p).length : Nat) : Int)) - ((k : Int) + 1)).toNat = fl p := by
      rw [show ((k : Int) + 1).toNat = k + 1 by omega, h21, show ((((k + 1 + (fl p).length : Nat) : Int)) - ((k : Int) + 1)).toNat = (fl p).length by omega]
      exact List.take_left
    rw [rv] at hz
    obtain ⟨Y, hY⟩ : ∃ Y, Y = itV (rv p) (P.getD (k : Int).toNat Cel.no).c.toNat o := ⟨_, rfl⟩
    rw [← hY] at hz
    have hc0 : 0 ≤ (P.getD (k : Int).toNat Cel.no).c ∧ (P.getD (k : Int).toNat Cel.no).c ≤ 3 := by have := lk_cases g1; omega
    (repeat (first | refine gq_PKF ?_ | (refine ga0A ?_; intro _hq)))
    (refine aw_rd [0, 1, 7, 8, 10] [] (fun g : Nat × Nat × List Int × Nat => [(6, .g (.one (.sl 320 g.2.1 g.2.2.2))), (11, vI g.1)]) (fun g => [(128, (0, .box (lCs (P.getD (k : Int).toNat Cel.no).k (P.getD (k : Int).toNat Cel.no).a (P.getD (k : Int).toNat Cel.no).b (P.getD (k : Int).toNat Cel.no).c))), (320, (g.2.1, intRow g.2.2.1))]) (fun g => (g.1 : Int) ≤ (P.getD (k : Int).toNat Cel.no).c ∧ rok g.2.2.1 ∧ g.2.2.2 = g.2.2.1.length ∧ itV (rv p) ((P.getD (k : Int).toNat Cel.no).c.toNat - g.1) g.2.2.1 = Y) (fun g => (P.getD (k : Int).toNat Cel.no).c.toNat - g.1) (0, u, o, o.length) (by rfl) (by rfl) ?_ (by rfl) zHE zHE ?_)
    · exact ⟨hc0.1, h5, rfl, hY.symm⟩
    clear hY h5 ho4
    rintro ⟨i, v, o, n⟩ ⟨f1, f2, f3, fz⟩
    refine aw_post ?_
    dsimp only at f1 f2 f3 fz ⊢
    subst f3
    have ho4 := f2.1
    rcases (show (i : Int) < (P.getD (k : Int).toNat Cel.no).c ∨ (i : Int) = (P.getD (k : Int).toNat Cel.no).c by omega) with f5 | f5
    · have hdi : decide ((i : Int) < (P.getD (k : Int).toNat Cel.no).c) = true := decide_eq_true f5
      have hR := IH p o (by omega) h3.2.1 g2 f2
      unfold KRun at hR
      rw [← hsl] at hR
      rw [show (P.getD (k : Int).toNat Cel.no).c.toNat - i = (P.getD (k : Int).toNat Cel.no).c.toNat - (i + 1) + 1 by omega, itV] at fz
      cases hb : (rv p o).2 with
      | false =>
        rw [hsl, hb, ← hsl] at hR
        rw [hb, if_neg (by decide)] at fz
        rw [← fz, if_neg (by rw [hb]; decide)] at hz
        rw [← hz, hb]
        clear hz fz
        rw [hsl] at hR
        rw [← hsl] at hR
        (repeat (first | refine gq_PKF ?_ | (refine ga0A ?_; intro _hq)))
        (refine rtA ?_; try rfl)
      | true =>
        rw [hsl, hb, ← hsl] at hR
        rw [hb, if_pos rfl] at fz
        have hinv : ((i + 1 : Nat) : Int) ≤ (P.getD (k : Int).toNat Cel.no).c ∧ rok (rv p o).1 ∧ (rv p o).1.length = (rv p o).1.length ∧ itV (rv p) ((P.getD (k : Int).toNat Cel.no).c.toNat - (i + 1)) (rv p o).1 = Y := ⟨by omega, rv_rok h3.2.1 g2 f2 hb, rfl, fz⟩
        clear fz hz
        (repeat (first | refine gq_PKF ?_ | (refine ga0A ?_; intro _hq)))
        refine wk_mv 2016 320 6 (by rfl) (by rfl) (by rfl) (by rfl) ?_
        refine wk_done ?_
        exact ⟨(i + 1, v + 1, (rv p o).1, (rv p o).1.length), hinv, ⟨by rfl, zHE, zHE⟩, (by first | omega | (dsimp only; omega))⟩
    · have hdi : decide ((i : Int) < (P.getD (k : Int).toNat Cel.no).c) = false := decide_eq_false (by omega)
      rw [show (P.getD (k : Int).toNat Cel.no).c.toNat - i = 0 by omega, itV] at fz
      rw [← fz, if_pos rfl] at hz
      have hinv : k + 1 + (fl p).length + 1 + (fl t2).length = P.length ∧ P.drop (k + 1 + (fl p).length + 1) = fl t2 ∧ wf t2 ∧ lkA t2 ∧ rok o ∧ o.length = o.length ∧ rv t2 o = Z := by
        refine ⟨by omega, ?_, h3.2.2, g4, f2, rfl, hz⟩
        rw [show k + 1 + (fl p).length + 1 = (k + 1) + ((fl p).length + 1) by omega, ← List.drop_drop, h21, show fl p ++ e :: fl t2 = (fl p ++ [e]) ++ fl t2 by simp]
        exact List.drop_left' (by simp)
      clear hz fz
      (repeat (first | refine gq_PKF ?_ | (refine ga0A ?_; intro _hq)))
      refine wk_done ?_
      exact ⟨(k + 1 + (fl p).length + 1, v, o, t2, o.length), hinv, ⟨by rfl, zHE, zHE⟩, (by first | omega | (dsimp only; omega))⟩
  | iff l m e p q t2 =>
    rw [fl, List.length_cons, List.length_append, List.length_cons, List.length_append, List.length_cons] at h1
    have hk : k < P.length := by omega
    have hd : decide ((k : Int) < (P.length : Int)) = true := decide_eq_true (by omega)
    rw [wf] at h3
    have hPP : P = P.take k ++ (l :: (fl p ++ m :: (fl q ++ e :: fl t2))) := by
      have h22 := h2
      rw [fl] at h22
      rw [← h22, List.take_append_drop]
    have hcl : cls P k = k + 1 + (fl p).length := by
      have hc := cls_at (P.take k) l m p (fl q ++ e :: fl t2) h3.2.1 (.inr (.inl h3.1.2.1))
      rw [← hPP, List.length_take, Nat.min_eq_left (by omega)] at hc
      exact hc
    have hPQ : P = (P.take k ++ l :: fl p) ++ (m :: (fl q ++ e :: fl t2)) := hPP.trans (by simp)
    have hlp : (P.take k ++ l :: fl p).length = k + 1 + (fl p).length := by rw [List.length_append, List.length_cons, List.length_take, Nat.min_eq_left (by omega)]; omega
    have hcm : cls P (k + 1 + (fl p).length) = k + 1 + (fl p).length + 1 + (fl q).length := by
      have hc := cls_at (P.take k ++ l :: fl p) m e q (fl t2) h3.2.2.1 (.inr (.inr h3.1.2.2))
      rw [← hPQ, hlp] at hc
      exact hc
    have hC := k_clS P k (by omega) hk
    have hC2 := k_clS P (k + 1 + (fl p).length) (by omega) (by omega)
    rw [hcl] at hC
    rw [hcm] at hC2
    have hPE : P = (P.take k ++ l :: (fl p ++ m :: fl q)) ++ (e :: fl t2) := hPP.trans (by simp)
    have hle : (P.take k ++ l :: (fl p ++ m :: fl q)).length = k + 1 + (fl p).length + 1 + (fl q).length := by
      rw [List.length_append, List.length_cons, List.length_append, List.length_cons, List.length_take, Nat.min_eq_left (by omega)]; omega
    have hee : (P.getD ((k + 1 + (fl p).length + 1 + (fl q).length : Nat) : Int).toNat Cel.no) = e := by
      have hx := getD_mid (P.take k ++ l :: (fl p ++ m :: fl q)) (fl t2) e
      rw [← hPE, hle] at hx
      exact hx
    have hdt : P.drop (k + 1 + (fl p).length + 1 + (fl q).length + 1) = fl t2 := by
      have hx : ((P.take k ++ l :: (fl p ++ m :: fl q)) ++ (e :: fl t2)).drop ((P.take k ++ l :: (fl p ++ m :: fl q)).length + 1) = fl t2 := by
        rw [show (P.take k ++ l :: (fl p ++ m :: fl q)) ++ (e :: fl t2) = ((P.take k ++ l :: (fl p ++ m :: fl q)) ++ [e]) ++ fl t2 by simp]
        exact List.drop_left' (by simp; omega)
      rw [← hPE, hle] at hx
      exact hx
    have hdq : P.drop (k + 1 + (fl p).length + 1) = fl q ++ e :: fl t2 := by
      have hx : ((P.take k ++ l :: fl p) ++ (m :: (fl q ++ e :: fl t2))).drop ((P.take k ++ l :: fl p).length + 1) = fl q ++ e :: fl t2 := by
        rw [show (P.take k ++ l :: fl p) ++ (m :: (fl q ++ e :: fl t2)) = ((P.take k ++ l :: fl p) ++ [m]) ++ (fl q ++ e :: fl t2) by simp]
        exact List.drop_left' (by simp; omega)
      rw [← hPQ, hlp] at hx
      exact hx
    have hdp : P.drop (k + 1) = fl p ++ m :: (fl q ++ e :: fl t2) := by
      rw [dropG hk, fl] at h2
      exact (List.cons.inj h2).2
    have hs1 : (P.drop ((k : Int) + 1).toNat).take ((((k + 1 + (fl p).length : Nat) : Int)) - ((k : Int) + 1)).toNat = fl p := by
      rw [show ((k : Int) + 1).toNat = k + 1 by omega, hdp, show ((((k + 1 + (fl p).length : Nat) : Int)) - ((k : Int) + 1)).toNat = (fl p).length by omega]
      exact List.take_left
    have hs2 : (P.drop (((k + 1 + (fl p).length : Nat) : Int) + 1).toNat).take (((k + 1 + (fl p).length + 1 + (fl q).length : Nat) : Int) - (((k + 1 + (fl p).length : Nat) : Int) + 1)).toNat = fl q := by
      rw [show (((k + 1 + (fl p).length : Nat) : Int) + 1).toNat = k + 1 + (fl p).length + 1 by omega, hdq, show (((k + 1 + (fl p).length + 1 + (fl q).length : Nat) : Int) - (((k + 1 + (fl p).length : Nat) : Int) + 1)).toNat = (fl q).length by omega]
      exact List.take_left
    subst hee
    rw [dropG hk, fl] at h2
    obtain ⟨h20, h21⟩ := List.cons.inj h2
    clear hPP hPQ hPE hcl hcm hle hlp
    subst h20
    obtain ⟨g1, g2, g3, g4, g5, g6⟩ := lkA_iff h4
    have hK : (P.getD (k : Int).toNat Cel.no).k = 6 := h3.1.1
    have e0 : ((P.getD (k : Int).toNat Cel.no).k == 0) = false := beq_eq_false_iff_ne.2 (by omega)
    have e1 : ((P.getD (k : Int).toNat Cel.no).k == 1) = false := beq_eq_false_iff_ne.2 (by omega)
    have e2 : ((P.getD (k : Int).toNat Cel.no).k == 2) = false := beq_eq_false_iff_ne.2 (by omega)
    have e3 : ((P.getD (k : Int).toNat Cel.no).k == 3) = false := beq_eq_false_iff_ne.2 (by omega)
    have e4 : ((P.getD (k : Int).toNat Cel.no).k == 4) = false := beq_eq_false_iff_ne.2 (by omega)
    have e6 : ((P.getD (k : Int).toNat Cel.no).k == 6) = true := beq_iff_eq.2 hK
    have ha3 : 0 ≤ (P.getD (k : Int).toNat Cel.no).a ∧ (P.getD (k : Int).toNat Cel.no).a ≤ 3 := by have := lk_cases g1; omega
    have hE3 : 0 ≤ ((P.getD ((k + 1 + (fl p).length + 1 + (fl q).length : Nat) : Int).toNat Cel.no)).a ∧ ((P.getD ((k + 1 + (fl p).length + 1 + (fl q).length : Nat) : Int).toNat Cel.no)).a ≤ 3 := by have := lk_cases g5; omega
    rw [rv] at hz
    (repeat (first | refine gq_PKF ?_ | (refine ga0A ?_; intro _hq)))
    (refine aw_draw mixed T0ok cfU_ok [] (by rfl) (by kernel_rfl) ?_)
    cases hf : (o.getD (P.getD (k : Int).toNat Cel.no).a.toNat Cel.no == (P.getD (k : Int).toNat Cel.no).c) with
    | false =>
      have hf' : (rg o (P.getD (k : Int).toNat Cel.no).a == (P.getD (k : Int).toNat Cel.no).c) = false := hf
      have hR := IH q o (by omega) h3.2.2.1 g4 h5
      unfold KRun at hR
      rw [← hs2] at hR
      simp only [hf', if_true, if_false, Bool.false_eq_true] at hz
      cases hb : (rv q o).2 with
      | false =>
        rw [hs2, hb, ← hs2] at hR
        rw [if_neg (by rw [hb]; simp)] at hz
        rw [← hz]
        clear hz
        (repeat (first | refine gq_PKF ?_ | (refine ga0A ?_; intro _hq)))
        (refine aw_draw mixed T0ok cfU_ok [] (by rfl) (by kernel_rfl) ?_)
        (repeat (first | refine gq_PKF ?_ | (refine ga0A ?_; intro _hq)))
        (refine rtA ?_; try rfl)
      | true =>
        rw [hs2, hb, ← hs2] at hR
        have hx := rv_rok h3.2.2.1 g4 h5 hb
        have hx4 := hx.1
        cases he : ((rv q o).1.getD (P.getD ((k + 1 + (fl p).length + 1 + (fl q).length : Nat) : Int).toNat Cel.no).a.toNat Cel.no == (P.getD ((k + 1 + (fl p).length + 1 + (fl q).length : Nat) : Int).toNat Cel.no).c) with
        | false =>
          have he' : (rg (rv q o).1 (P.getD ((k + 1 + (fl p).length + 1 + (fl q).length : Nat) : Int).toNat Cel.no).a == (P.getD ((k + 1 + (fl p).length + 1 + (fl q).length : Nat) : Int).toNat Cel.no).c) = false := he
          have hg : (((rv q o).1.getD (P.getD ((k + 1 + (fl p).length + 1 + (fl q).length : Nat) : Int).toNat Cel.no).a.toNat Cel.no == (P.getD ((k + 1 + (fl p).length + 1 + (fl q).length : Nat) : Int).toNat Cel.no).c) == (o.getD (P.getD (k : Int).toNat Cel.no).a.toNat Cel.no == (P.getD (k : Int).toNat Cel.no).c)) = true := by rw [he, hf]; rfl
          rw [if_neg (by rw [hb, he']; decide)] at hz
          rw [← hz]
          clear hz
          (repeat (first | refine gq_PKF ?_ | (refine ga0A ?_; intro _hq)))
          (refine aw_draw mixed T0ok cfU_ok [] (by rfl) (by kernel_rfl) ?_)
          (repeat (first | refine gq_PKF ?_ | (refine ga0A ?_; intro _hq)))
          (refine rtA ?_; try rfl)
        | true =>
          have he' : (rg (rv q o).1 (P.getD ((k + 1 + (fl p).length + 1 + (fl q).length : Nat) : Int).toNat Cel.no).a == (P.getD ((k + 1 + (fl p).length + 1 + (fl q).length : Nat) : Int).toNat Cel.no).c) = true := he
          have hg : (((rv q o).1.getD (P.getD ((k + 1 + (fl p).length + 1 + (fl q).length : Nat) : Int).toNat Cel.no).a.toNat Cel.no == (P.getD ((k + 1 + (fl p).length + 1 + (fl q).length : Nat) : Int).toNat Cel.no).c) == (o.getD (P.getD (k : Int).toNat Cel.no).a.toNat Cel.no == (P.getD (k : Int).toNat Cel.no).c)) = false := by rw [he, hf]; rfl
          rw [if_pos (by rw [hb, he']; decide)] at hz
          have hinv : k + 1 + (fl p).length + 1 + (fl q).length + 1 + (fl t2).length = P.length ∧ P.drop (k + 1 + (fl p).length + 1 + (fl q).length + 1) = fl t2 ∧ wf t2 ∧ lkA t2 ∧ rok (rv q o).1 ∧ (rv q o).1.length = (rv q o).1.length ∧ rv t2 (rv q o).1 = Z := ⟨by omega, hdt, h3.2.2.2, g6, hx, rfl, hz⟩
          clear hz
          (repeat (first | refine gq_PKF ?_ | (refine ga0A ?_; intro _hq)))
          (refine aw_draw mixed T0ok cfU_ok [] (by rfl) (by kernel_rfl) ?_)
          (repeat (first | refine gq_PKF ?_ | (refine ga0A ?_; intro _hq)))
          refine wk_mv 2624 320 6 (by rfl) (by rfl) (by rfl) (by rfl) ?_
          refine wk_done ?_
          exact ⟨(k + 1 + (fl p).length + 1 + (fl q).length + 1, u + 1, (rv q o).1, t2, (rv q o).1.length), hinv, ⟨by rfl, zHE, zHE⟩, (by first | omega | (dsimp only; omega))⟩
    | true =>
      have hf' : (rg o (P.getD (k : Int).toNat Cel.no).a == (P.getD (k : Int).toNat Cel.no).c) = true := hf
      have hR := IH p o (by omega) h3.2.1 g2 h5
      unfold KRun at hR
      rw [← hs1] at hR
      simp only [hf', if_true, if_false, Bool.false_eq_true] at hz
      cases hb : (rv p o).2 with
      | false =>
        rw [hs1, hb, ← hs1] at hR
        rw [if_neg (by rw [hb]; simp)] at hz
        rw [← hz]
        clear hz
        (repeat (first | refine gq_PKF ?_ | (refine ga0A ?_; intro _hq)))
        (refine aw_draw mixed T0ok cfU_ok [] (by rfl) (by kernel_rfl) ?_)
        (repeat (first | refine gq_PKF ?_ | (refine ga0A ?_; intro _hq)))
        (refine rtA ?_; try rfl)
      | true =>
        rw [hs1, hb, ← hs1] at hR
        have hx := rv_rok h3.2.1 g2 h5 hb
        have hx4 := hx.1
        cases he : ((rv p o).1.getD (P.getD ((k + 1 + (fl p).length + 1 + (fl q).length : Nat) : Int).toNat Cel.no).a.toNat Cel.no == (P.getD ((k + 1 + (fl p).length + 1 + (fl q).length : Nat) : Int).toNat Cel.no).c) with
        | true =>
          have he' : (rg (rv p o).1 (P.getD ((k + 1 + (fl p).length + 1 + (fl q).length : Nat) : Int).toNat Cel.no).a == (P.getD ((k + 1 + (fl p).length + 1 + (fl q).length : Nat) : Int).toNat Cel.no).c) = true := he
          have hg : (((rv p o).1.getD (P.getD ((k + 1 + (fl p).length + 1 + (fl q).length : Nat) : Int).toNat Cel.no).a.toNat Cel.no == (P.getD ((k + 1 + (fl p).length + 1 + (fl q).length : Nat) : Int).toNat Cel.no).c) == (o.getD (P.getD (k : Int).toNat Cel.no).a.toNat Cel.no == (P.getD (k : Int).toNat Cel.no).c)) = true := by rw [he, hf]; rfl
          rw [if_neg (by rw [hb, he']; decide)] at hz
          rw [← hz]
          clear hz
          (repeat (first | refine gq_PKF ?_ | (refine ga0A ?_; intro _hq)))
          (refine aw_draw mixed T0ok cfU_ok [] (by rfl) (by kernel_rfl) ?_)
          (repeat (first | refine gq_PKF ?_ | (refine ga0A ?_; intro _hq)))
          (refine rtA ?_; try rfl)
        | false =>
          have he' : (rg (rv p o).1 (P.getD ((k + 1 + (fl p).length + 1 + (fl q).length : Nat) : Int).toNat Cel.no).a == (P.getD ((k + 1 + (fl p).length + 1 + (fl q).length : Nat) : Int).toNat Cel.no).c) = false := he
          have hg : (((rv p o).1.getD (P.getD ((k + 1 + (fl p).length + 1 + (fl q).length : Nat) : Int).toNat Cel.no).a.toNat Cel.no == (P.getD ((k + 1 + (fl p).length + 1 + (fl q).length : Nat) : Int).toNat Cel.no).c) == (o.getD (P.getD (k : Int).toNat Cel.no).a.toNat Cel.no == (P.getD (k : Int).toNat Cel.no).c)) = false := by rw [he, hf]; rfl
          rw [if_pos (by rw [hb, he']; decide)] at hz
          have hinv : k + 1 + (fl p).length + 1 + (fl q).length + 1 + (fl t2).length = P.length ∧ P.drop (k + 1 + (fl p).length + 1 + (fl q).length + 1) = fl t2 ∧ wf t2 ∧ lkA t2 ∧ rok (rv p o).1 ∧ (rv p o).1.length = (rv p o).1.length ∧ rv t2 (rv p o).1 = Z := ⟨by omega, hdt, h3.2.2.2, g6, hx, rfl, hz⟩
          clear hz
          (repeat (first | refine gq_PKF ?_ | (refine ga0A ?_; intro _hq)))
          (refine aw_draw mixed T0ok cfU_ok [] (by rfl) (by kernel_rfl) ?_)
          (repeat (first | refine gq_PKF ?_ | (refine ga0A ?_; intro _hq)))
          refine wk_mv 2624 320 6 (by rfl) (by rfl) (by rfl) (by rfl) ?_
          refine wk_done ?_
          exact ⟨(k + 1 + (fl p).length + 1 + (fl q).length + 1, u + 1, (rv p o).1, t2, (rv p o).1.length), hinv, ⟨by rfl, zHE, zHE⟩, (by first | omega | (dsimp only; omega))⟩
theorem k_rnS : ∀ (N : Nat) (t : PS) (r : List Int), (fl t).length = N → N ≤ 16 → wf t → lkA t → rok r → KRun t r := by
  intro N
  induction N using Nat.strongRecOn with
  | ind N ih =>
    intro t r hN h16 hw hl hr
    exact k_rnS_step t r (by omega) hw hl hr fun p r' hp hwp hlp hr' => ih _ (by omega) p r' rfl (by omega) hwp hlp hr'
end Go.Proofs.Ytgjnnlgeggamjaa
