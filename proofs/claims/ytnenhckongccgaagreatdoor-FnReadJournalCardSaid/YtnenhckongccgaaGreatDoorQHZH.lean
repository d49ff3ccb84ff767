/- LNQ: laid into one text. -/
import Derived.Test.YtnenhckongccgaaGreatDoorQHU
import Derived.Test.YtnenhckongccgaaGreatDoorQHZE
import Derived.Test.YtnenhckongccgaaGreatDoorQHZG

namespace Go.Proofs.YtnenhckongccgaaGreatDoor
set_option linter.unusedVariables false
set_option linter.unusedSimpArgs false
set_option maxRecDepth 20000
open Go.RowKit
attribute [local irreducible] runA runX AW
def wsTLQ : WsT := (34, ([], true)) :: wsT
def wsZLQ : List (Nat × Nat) := [(11, 4), (33, 6), (9, 4), (12, 4), (999999, 0)]
theorem gq_LNQ {H G : Prop} (k : H) (h : Hid H → G := by (intro hh; repeat1' (first | (first | (refine nxA ?_; (first | (first | refine r_slen (by rfl) Tryz.underlying9 (by rfl) ?_ | refine r_seq (by rfl) (by rfl) (by rfl) ?_ | refine r_sne (by rfl) (by rfl) (by rfl) ?_ | refine r_spiece (q := k) (by rfl) (by rfl) (by rfl) Tryz.underlying9 (.inl ⟨rfl, rfl⟩) (.inr rfl) (by omega) (by rfl) ?_ | refine r_spiece (q := n) (by rfl) (by rfl) (by rfl) Tryz.underlying9 (.inl ⟨rfl, rfl⟩) (.inr rfl) (by omega) (by rfl) ?_) | ((first | (refine z_op (by rfl) ?_; first | refine z_ok ?_ ?_ | refine z_ex ?_ (by first | exact zL1 | ((first | fail); exact zWW) | exact zL2 | exact rw_c Dd rfl | exact zL3 | fail) ?_) | ((first | refine q_callE wsTLQ wsZLQ (by rfl) ?_ | refine q_callVE wsTLQ (by rfl) (by rfl) ?_); refine ⟨_, _, _, (by first | assumption | exact k_alive | exact (k_dt _ _ _).1), _, by rfl, ?_, ?_⟩)); focus (first | exact trivial | fail | exact zQZ)) | fail)) | refine swA ?_) | refine awA ?_); exact hh.out)) : G := h ⟨k⟩
theorem gs_LNQ {H G : Prop} (k : H) (h : Hid H → G := by (intro hh; repeat1' (first | (refine nxA ?_; (first | (first | refine r_slen (by rfl) Tryz.underlying9 (by rfl) ?_ | refine r_seq (by rfl) (by rfl) (by rfl) ?_ | refine r_sne (by rfl) (by rfl) (by rfl) ?_ | refine r_spiece (q := k) (by rfl) (by rfl) (by rfl) Tryz.underlying9 (.inl ⟨rfl, rfl⟩) (.inr rfl) (by omega) (by rfl) ?_ | refine r_spiece (q := n) (by rfl) (by rfl) (by rfl) Tryz.underlying9 (.inl ⟨rfl, rfl⟩) (.inr rfl) (by omega) (by rfl) ?_) | ((first | (refine z_op (by rfl) ?_; first | refine z_ok ?_ ?_ | refine z_ex ?_ (by first | exact zL1 | ((first | fail); exact zWW) | exact zL2 | exact rw_c Dd rfl | exact zL3 | fail) ?_) | ((first | refine q_callE wsTLQ wsZLQ (by rfl) ?_ | refine q_callVE wsTLQ (by rfl) (by rfl) ?_); refine ⟨_, _, _, (by first | assumption | exact k_alive | exact (k_dt _ _ _).1), _, by rfl, ?_, ?_⟩)); focus (first | exact trivial | fail | exact zQZ)) | fail)) | refine swA ?_); exact hh.out)) : G := h ⟨k⟩
theorem lnF_deed (n f : Int) (l : List Gt) (w : Int) (A : Nat) {d : Dd} (hd : dT d ≠ []) : lnF n f l w A (dtx d.k d.n d.p) = ((doR n l w A d).1, if (doR n l w A d).2 = true then wOk else wNo) := by
  have hr : rdF (dtx d.k d.n d.p) = (d, true) := rdF_eq (.inl ⟨rfl, rfl, hd⟩)
  unfold lnF
  rw [hr, if_pos rfl]
theorem jall_at {l : List Dd} (h : jall l = true) {k : Nat} (hk : k < l.length) : dT (l.getD k Cel.no) ≠ [] := by
  have e : l.getD k Cel.no = l[k] := by simp [List.getD_eq_getElem?_getD, hk]
  rw [e]
  have := List.all_eq_true.1 h l[k] (List.getElem_mem hk)
  rw [Bool.not_eq_true', beq_eq_false_iff_ne] at this
  exact this
theorem runM_at {n : Int} {x x2 : BS} {js : List Dd} {j : Nat} {ok : Bool} {E : BS} (h : j < js.length) (hr : (runM n (x, 0) (js.drop j)).1 = E) (hd : doR n x.1 x.2.1 x.2.2 (js.getD j Cel.no) = (x2, ok)) : (runM n (x2, 0) (js.drop (j + 1))).1 = E := by
  rw [runM_drop h] at hr
  have e : stB n (x, 0) (js.getD j Cel.no) = (x2, if ok = true then 0 + 1 else 0) := by
    unfold stB
    dsimp only
    rw [hd]
  rw [e, runM_add] at hr
  exact hr
set_option maxHeartbeats 16000000 in
theorem k_lawRJ (l m : List UInt8) : Kon Tryz.prog 6 [roA l, roA m] [] (vB true) [] [] := by
  rcases Nat.lt_or_ge 1048576 l.length with h0 | h0
  · have hd : decide ((l.length : Int) > 1048576) = true := decide_eq_true (by omega)
    (refine kM Tryz.func6 rfl ?_; intro hfit hfe)
    (repeat (first | refine gq_LNQ ?_ | (refine ga0A ?_; intro _hq)))
    (refine rtA ?_; try rfl)
  have hd : decide ((l.length : Int) > 1048576) = false := decide_eq_false (by omega)
  rcases Nat.lt_or_ge 1048576 m.length with h1 | h1
  · have hd1 : decide ((m.length : Int) > 1048576) = true := decide_eq_true (by omega)
    (refine kM Tryz.func6 rfl ?_; intro hfit hfe)
    (repeat (first | refine gq_LNQ ?_ | (refine ga0A ?_; intro _hq)))
    (refine rtA ?_; try rfl)
  have hd1 : decide ((m.length : Int) > 1048576) = false := decide_eq_false (by omega)
  obtain ⟨s, hsl, hD⟩ := ex_dRJ l (by omega)
  obtain ⟨js, n, hJ⟩ := jr_ex s.length s (Nat.le_refl _)
  have hjl := jr_len hJ
  have hI := k_rjI2 s (by omega) js n hJ
  have hS := k_rjS s (by omega) js n hJ
  have hM := k_sameDz js (by omega)
  obtain ⟨L, f, w, A, gs, ds, hL, hf, hgl, hw, hA, hdl, hDr⟩ := ex_dBR m (by omega)
  have hV := k_bvS L gs f w A (by omega) (by omega)
  have hall := hJ.1
  have htx : (jtx js == (s.drop 0).take (n - 0)) = true := by
    obtain ⟨_, r, e1, e2, _⟩ := hJ
    rw [beq_iff_eq]; unfold jtx; rw [hall, if_pos rfl, e1, e2]; simp
  have hT := k_jtI js (by omega)
  have hnn : (n != n) = false := by simp
  have hnm : (((n : Int)) != (n : Int)) = false := by simp
  have hns : decide ((n : Int) ≤ (s.length : Int)) = true := decide_eq_true (by omega)
  (refine kM Tryz.func6 rfl ?_; intro hfit hfe)
  (repeat (first | refine gq_LNQ ?_ | (refine ga0A ?_; intro _hq)))
  (refine aw_freeze 528 (by rfl) (by rfl) ?_; refine aw_slot 6 6 (by rfl) (by rfl) (by first | exact trivial | omega | exact cvB (fun w => rfl) | ((repeat (any_goals (first | exact rfl | exact cV_len _ | exact cV_ln rfl (by omega) | exact Cel.pos | omega | exact trivial | refine And.intro ?_ ?_))); first | done | fail) | (simp [*]; first | done | fail)) ?_)
  (refine aw_rd [1, 5, 6, 7] [] (fun k : Nat => [(10, vI k)]) (fun _ => []) (fun k => k ≤ s.length + 1) (fun k => s.length + 1 - k) 0 (by rfl) (by rfl) ?_ (by rfl) zHE zHE ?_)
  · exact Nat.zero_le _
  rintro k hk
  rcases Nat.lt_or_ge s.length k with h5 | h5
  · have hdk : decide ((k : Int) ≤ (s.length : Int)) = false := decide_eq_false (by omega)
    cases hb : bok L gs f w A with
    | false =>
      rw [hb] at hV
      have hR := k_brI0 L gs f w A js (by omega) (by omega) (.inl hb) (by omega)
      rcases Nat.eq_zero_or_pos js.length with h6 | h6
      · have hdj : decide ((0 : Int) < (js.length : Int)) = false := decide_eq_false (by omega)
        (repeat (first | refine gq_LNQ ?_ | (refine ga0A ?_; intro _hq)))
        refine aw_unroll 1 ?_
        (repeat (first | refine gq_LNQ ?_ | (refine ga0A ?_; intro _hq)))
        (refine aw_draw mixed T0ok cfU_ok [] (by rfl) (by kernel_rfl) ?_)
        (repeat (first | refine gq_LNQ ?_ | (refine ga0A ?_; intro _hq)))
        (refine rtA ?_; try rfl)
      · have hdj : decide ((0 : Int) < (js.length : Int)) = true := decide_eq_true (by omega)
        (repeat (first | refine gq_LNQ ?_ | (refine ga0A ?_; intro _hq)))
        refine aw_unroll 1 ?_
        (repeat (first | refine gq_LNQ ?_ | (refine ga0A ?_; intro _hq)))
        (refine aw_draw mixed T0ok cfU_ok [] (by rfl) (by kernel_rfl) ?_)
        (repeat (first | refine gq_LNQ ?_ | (refine ga0A ?_; intro _hq)))
        (refine rtA ?_; try rfl)
    | true =>
      rw [hb] at hV
      (repeat (first | refine gq_LNQ ?_ | (refine ga0A ?_; intro _hq)))
      (refine aw_rd [5, 6, 7, 13] [208] (fun g : Nat × BS => [(15, .g (.one (.ptr 240 0 0))), (16, vI g.1)]) (fun g => [(240, (0, .box (bCr L g.2.1 f g.2.2.1 (g.2.2.2 : Int))))]) (fun g => g.1 ≤ js.length ∧ bok L g.2.1 f g.2.2.1 (g.2.2.2 : Int) = true ∧ (runM L (g.2, 0) (js.drop g.1)).1 = (runM L ((gs, w, A), 0) js).1) (fun g => js.length - g.1) (0, (gs, w, A)) (by rfl) (by rfl) ?_ (by rfl) zHE zHE ?_)
      · exact ⟨Nat.zero_le _, hb, by rw [List.drop_zero]⟩
      rintro ⟨j, ⟨x, v, B⟩⟩ ⟨hj, hbj, hr⟩
      dsimp only at hj hbj hr ⊢
      rcases Nat.lt_or_ge j js.length with h6 | h6
      · have hdj : decide ((j : Int) < (js.length : Int)) = true := decide_eq_true (by omega)
        have hne := jall_at hall h6
        have hLn := lnF_deed L f x v B hne
        have hnum := bok_nums L x f v B hbj
        rcases hdo : doR L x v B (js.getD j Cel.no) with ⟨⟨x2, v2, B2⟩, ok⟩
        have hrr := runM_at (x := (x, v, B)) h6 hr hdo
        rw [hdo] at hLn
        have hb2 := doR_ok hbj hdo
        have hinv : j + 1 ≤ js.length ∧ bok L x2 f v2 (B2 : Int) = true ∧ (runM L ((x2, v2, B2), 0) (js.drop (j + 1))).1 = (runM L ((gs, w, A), 0) js).1 := ⟨h6, hb2, hrr⟩
        have hdtl := dtx_len (js.getD j Cel.no).k (js.getD j Cel.no).n (js.getD j Cel.no).p
        cases ok with
        | true =>
          have hK := kn_blI hbj (by omega) hLn
          clear hr hrr hLn hdo hb2 hb hbj hJ hI hS hD hDr
          (repeat (first | refine gq_LNQ ?_ | (refine ga0A ?_; intro _hq)))
          (refine aw_draw mixed T0ok cfU_ok [(1728, [6, 11]), (272, [10, 11])] (by rfl) (by kernel_rfl) ?_)
          (repeat (first | refine gs_LNQ ?_ | (refine ga0A ?_; intro _hq)))
          (refine aw_freeze 1728 (by rfl) (by rfl) ?_; refine aw_box 272 1 (by rfl) (by rfl) (by first | exact trivial | ((repeat' (first | exact rfl | exact cV_len _ | exact cV_ln rfl (by omega) | exact Cel.pos | omega | exact trivial | refine And.intro ?_ ?_)); first | done | fail)) (by rfl) ?_)
          (repeat (first | refine gq_LNQ ?_ | (refine ga0A ?_; intro _hq)))
          exact ⟨(j + 1, (x2, v2, B2)), hinv, ⟨by rfl, zHE, zHE⟩, (by first | omega | (dsimp only; omega))⟩
        | false =>
          have hK := kn_blI hbj (by omega) hLn
          clear hr hrr hLn hdo hb2 hb hbj hJ hI hS hD hDr
          (repeat (first | refine gq_LNQ ?_ | (refine ga0A ?_; intro _hq)))
          (refine aw_draw mixed T0ok cfU_ok [(1728, [6, 11]), (272, [10, 11])] (by rfl) (by kernel_rfl) ?_)
          (repeat (first | refine gs_LNQ ?_ | (refine ga0A ?_; intro _hq)))
          (refine aw_freeze 1728 (by rfl) (by rfl) ?_; refine aw_box 272 1 (by rfl) (by rfl) (by first | exact trivial | ((repeat' (first | exact rfl | exact cV_len _ | exact cV_ln rfl (by omega) | exact Cel.pos | omega | exact trivial | refine And.intro ?_ ?_)); first | done | fail)) (by rfl) ?_)
          (repeat (first | refine gq_LNQ ?_ | (refine ga0A ?_; intro _hq)))
          exact ⟨(j + 1, (x2, v2, B2)), hinv, ⟨by rfl, zHE, zHE⟩, (by first | omega | (dsimp only; omega))⟩
      · have hdj : decide ((j : Int) < (js.length : Int)) = false := decide_eq_false (by omega)
        obtain rfl : j = js.length := by omega
        rw [List.drop_length] at hr
        rcases hE : runM L ((gs, w, A), 0) js with ⟨⟨x', v', B'⟩, cnt⟩
        rw [hE] at hr
        obtain ⟨rfl, h8⟩ := Prod.mk.inj hr
        obtain ⟨rfl, rfl⟩ := Prod.mk.inj h8
        clear hr h8
        rcases Nat.lt_or_ge 40 js.length with h40 | h40
        · have hd40 : decide ((js.length : Int) > 40) = true := decide_eq_true (by omega)
          have hR := k_brI0 L gs f w A js (by omega) (by omega) (.inr h40) (by omega)
          clear hE
          (repeat (first | refine gq_LNQ ?_ | (refine ga0A ?_; intro _hq)))
          (refine aw_draw mixed T0ok cfU_ok [] (by rfl) (by kernel_rfl) ?_)
          (repeat (first | refine gq_LNQ ?_ | (refine ga0A ?_; intro _hq)))
          (refine rtA ?_; try rfl)
        · have hd40 : decide ((js.length : Int) > 40) = false := decide_eq_false (by omega)
          have hR := kn_brI hb h40 hE
          have hnum := bok_nums L x f v B hbj
          have hq := k_sb L x f v B (by omega)
          clear hE
          (repeat (first | refine gq_LNQ ?_ | (refine ga0A ?_; intro _hq)))
          (refine aw_draw mixed T0ok cfU_ok [] (by rfl) (by kernel_rfl) ?_)
          (repeat (first | refine gq_LNQ ?_ | (refine ga0A ?_; intro _hq)))
          (refine rtA ?_; try rfl)
  · have hdk : decide ((k : Int) ≤ (s.length : Int)) = true := decide_eq_true (by omega)
    obtain ⟨lk, nk, hJk⟩ := jr_ex s.length ((s.drop 0).take (k - 0)) (by simp; omega)
    have hIk := k_rjI2 ((s.drop 0).take (k - 0)) (by simp; omega) lk nk hJk
    have hpre := jr_pre (q := s.drop k) hJ hJk (by simp)
    have hnk : nk ≤ k := by have := (jr_len hJk).2; simp at this; omega
    have hMk : Kon Tryz.prog 33 [roA lk, roA (js.take (if (js.length : Int) < (lk.length : Int) then (js.length : Int) else (lk.length : Int)).toNat)] [] (vB true) [] [] := by
      rw [if_neg (by have := hpre.1; omega), Int.toNat_natCast, hpre.2]; exact k_sameDz lk (by omega)
    have hpl := hpre.1
    have hdl : decide ((lk.length : Int) > (js.length : Int)) = false := decide_eq_false (by omega)
    have hdm : decide ((nk : Int) > (k : Int)) = false := decide_eq_false (by omega)
    have hinv : k + 1 ≤ s.length + 1 := by omega
    clear hpre hJk hJ hI hS hD hDr
    (repeat (first | refine gq_LNQ ?_ | (refine ga0A ?_; intro _hq)))
    exact ⟨k + 1, hinv, ⟨by rfl, zHE, zHE⟩, (by first | omega | (dsimp only; omega))⟩
end Go.Proofs.YtnenhckongccgaaGreatDoor
