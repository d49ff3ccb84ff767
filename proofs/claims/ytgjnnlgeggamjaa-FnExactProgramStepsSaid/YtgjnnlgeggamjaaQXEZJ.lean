/- TJD: laid into one text. -/
import Derived.Test.YtgjnnlgeggamjaaQXEO
import Derived.Test.YtgjnnlgeggamjaaQXEZH
import Derived.Test.YtgjnnlgeggamjaaQXEZI

namespace Go.Proofs.Ytgjnnlgeggamjaa
set_option linter.unusedVariables false
set_option linter.unusedSimpArgs false
set_option maxRecDepth 20000
open Go.RowKit
attribute [local irreducible] runA runX AW
def wsTR : WsT := (29, ([], true)) :: wsT
theorem gq_TJD {H G : Prop} (k : H) (h : Hid H → G := by (intro hh; repeat1' (first | (first | (refine nxA ?_; (first | fail | ((first | (refine z_op (by rfl) ?_; first | refine z_ok ?_ ?_ | refine z_ex ?_ (by first | exact zL1 | ((first | fail); exact zWW) | exact zL2 | (first | exact rw_c Gt rfl | exact rw_c Int rfl) | exact zL3 | fail) ?_) | ((first | refine q_callE wsTR wsZ (by rfl) ?_ | refine q_callVE wsTR (by rfl) (by rfl) ?_); refine ⟨_, _, _, (by first | assumption | exact k_alive | exact k_si _ (by omega)), _, by rfl, ?_, ?_⟩)); focus (first | exact trivial | fail | exact zQZ)) | fail)) | refine swA ?_) | refine awA ?_); exact hh.out)) : G := h ⟨k⟩
theorem rok_rvB {r : List Int} (h : rok r) : rvB r = true := by
  obtain ⟨a, b, c, d, rfl⟩ := list4r h.1
  have h0 := h.2 0 (by decide)
  have h1 := h.2 1 (by decide)
  have h2 := h.2 2 (by decide)
  have h3 := h.2 3 (by decide)
  have e0 : ([a, b, c, d] : List Int).getD 0 0 = a := rfl
  have e1 : ([a, b, c, d] : List Int).getD 1 0 = b := rfl
  have e2 : ([a, b, c, d] : List Int).getD 2 0 = c := rfl
  have e3 : ([a, b, c, d] : List Int).getD 3 0 = d := rfl
  rw [e0] at h0; rw [e1] at h1; rw [e2] at h2; rw [e3] at h3
  simp [rvB, btw]
  omega
theorem fin_some {P : List Gt} {r : List Int} {y : RS} (h : fin P r = some y) : ∃ t, prs P = some t ∧ rok r ∧ rok y.1 ∧ rs t (r, 0) = some y ∧ wf t ∧ lkA t ∧ fl t = P ∧ dp t ≤ 3 ∧ P.length ≤ 16 := by
  unfold fin at h
  split at h
  · rename_i hr
    cases hp : prs P with
    | none => rw [hp] at h; cases h
    | some t =>
      rw [hp] at h
      obtain ⟨h16, hall, hfl, hwf, hdp, _⟩ := prs_t hp
      have hlk : lkA t := by unfold lkA; rw [hfl]; exact hall
      exact ⟨t, rfl, rvB_rok hr, (bck hwf hlk (r, 0) y (rvB_rok hr) h).1, h, hwf, hlk, hfl, hdp, h16⟩
  · cases h
theorem fin_back {P : List Gt} {r : List Int} {y : RS} (h : fin P r = some y) : fin (pbB P) y.1 = some (r, y.2) := by
  obtain ⟨t, hp, hr, hy, hs, hwf, hlk, hfl, hdp, h16⟩ := fin_some h
  obtain ⟨b1, b2, b3, b4, b5⟩ := bk_ok hwf hlk
  have h1 : pbB P = fl (bk t) := by unfold pbB; rw [hp]
  have h2 : prs (fl (bk t)) = some (bk t) := prs_of b1 (by omega) (by rw [b3, hfl]; exact h16) b2
  have h3 := (bck hwf hlk (r, 0) y hr hs).2.2 0
  unfold fin
  rw [rok_rvB hy, h1, h2, if_pos rfl]
  show rs (bk t) (y.1, 0) = _
  rw [h3]
  simp
theorem rs_n (t : PS) (r : List Int) (n m : Nat) : prO (rs t (r, n)) = prO (rs t (r, m)) ∧ (rs t (r, n)).isSome = (rs t (r, m)).isSome := by
  have h1 := rv_rs t r n
  have h2 := rv_rs t r m
  cases a : rs t (r, n) with
  | none =>
    rw [a] at h1
    have h1 : (rv t r).2 = false := h1
    cases b : rs t (r, m) with
    | none => exact ⟨rfl, rfl⟩
    | some y => rw [b] at h2; have h2 : rv t r = (y.1, true) := h2; rw [h2] at h1; cases h1
  | some x =>
    rw [a] at h1
    have h1 : rv t r = (x.1, true) := h1
    cases b : rs t (r, m) with
    | none => rw [b] at h2; have h2 : (rv t r).2 = false := h2; rw [h1] at h2; cases h2
    | some y =>
      rw [b] at h2
      have h2 : rv t r = (y.1, true) := h2
      rw [h1] at h2
      exact ⟨(Prod.mk.inj h2).1, rfl⟩
theorem fin_twice {P : List Gt} {r : List Int} {y : RS} (h : fin P r = some y) (h2 : P.length + P.length ≤ 16) : prO (fin (P ++ P) r) = prO (fin P y.1) ∧ (fin (P ++ P) r).isSome = (fin P y.1).isSome := by
  obtain ⟨t, hp, hr, hy, hs, hwf, hlk, hfl, hdp, h16⟩ := fin_some h
  have e1 : fl (app t t) = P ++ P := by rw [fl_app, hfl]
  have e2 : prs (P ++ P) = some (app t t) := by
    rw [← e1]
    refine prs_of (wf_app hwf hwf) ?_ (by rw [e1, List.length_append]; exact h2) ?_
    · rw [dp_app]; omega
    · rw [e1, List.all_append]
      have : P.all lkG = true := by rw [← hfl]; exact hlk
      rw [this]; rfl
  have e3 : fin (P ++ P) r = rs t (y.1, y.2) := by
    unfold fin
    rw [rok_rvB hr, e2, if_pos rfl]
    show rs (app t t) (r, 0) = _
    rw [rs_app, hs]; rfl
  have e4 : fin P y.1 = rs t (y.1, 0) := by
    unfold fin
    rw [rok_rvB hy, hp, if_pos rfl]; rfl
  rw [e3, e4]
  exact rs_n t y.1 _ _
theorem k_si (l : List Int) (h : l.length ≤ 10000000) : Kon Try.prog 30 [roA l, roA l] [] (vB true) [] [] := by
  have h1 : ((l.length : Int) != (l.length : Int)) = false := by simp
  have hg : ∀ x : Int, (x != x) = false := fun x => by simp
  (refine kM Try.func30 rfl ?_; intro hfit hfe)
  (repeat (first | refine gq_TJD ?_ | (refine ga0A ?_; intro _hq)))
  (refine aw_rd [0, 1] [] (fun i : Nat => [(5, vI i)]) (fun _ => []) (fun i => i ≤ l.length) (fun i => l.length - i) 0 (by rfl) (by rfl) ?_ (by rfl) zHE zHE ?_)
  · exact Nat.zero_le _
  rintro i hi
  rcases Nat.lt_or_ge i l.length with h5 | h5
  · have hd : decide ((i : Int) < (l.length : Int)) = true := decide_eq_true (by omega)
    have hg := hg (l.getD (i : Int).toNat Cel.no)
    (repeat (first | refine gq_TJD ?_ | (refine ga0A ?_; intro _hq) | refine gdA ?_))
    exact ⟨i + 1, h5, ⟨by rfl, zHE, zHE⟩, (by first | omega | (dsimp only; omega))⟩
  · have hd : decide ((i : Int) < (l.length : Int)) = false := decide_eq_false (by omega)
    (repeat (first | refine gq_TJD ?_ | (refine ga0A ?_; intro _hq) | refine gdA ?_))
    (refine rtA ?_; try rfl)
set_option maxHeartbeats 8000000 in
theorem k_lawPR (l : List UInt8) : Kon Try.prog 7 [roA l] [] (vB true) [] [] := by
  rcases Nat.lt_or_ge 1048576 l.length with h0 | h0
  · have hd : decide ((l.length : Int) > 1048576) = true := decide_eq_true (by omega)
    (refine kM Try.func7 rfl ?_; intro hfit hfe)
    (repeat (first | refine gq_TJD ?_ | (refine ga0A ?_; intro _hq)))
    (refine rtA ?_; try rfl)
  have hd : decide ((l.length : Int) > 1048576) = false := decide_eq_false (by omega)
  obtain ⟨P, r, hP, hr, hD⟩ := ex_dPR l (by omega)
  have hI := k_prI P (by omega) r (by omega)
  have hS := k_prS P (by omega) r (by omega)
  cases hF : fin P r with
  | none =>
    rw [hF] at hI hS
    have hsi := k_si ([] : List Int) (by decide)
    clear hF
    (refine kM Try.func7 rfl ?_; intro hfit hfe)
    (repeat (first | refine gq_TJD ?_ | (refine ga0A ?_; intro _hq)))
    (refine rtA ?_; try rfl)
  | some y =>
    rw [hF] at hI hS
    obtain ⟨t, _, hr4, hy4, _, _, _, _, _, h16⟩ := fin_some hF
    have hPB := k_pbI P (by omega)
    have hBk := k_prI (pbB P) (by have := pbB_len P; omega) y.1 (by have := hy4.1; omega)
    rw [fin_back hF] at hBk
    have hRV := k_rvI y.1 (by have := hy4.1; omega)
    rw [rok_rvB hy4] at hRV
    have hO := k_prI P (by omega) y.1 (by have := hy4.1; omega)
    have hc4 : y.1.length = 4 := hy4.1
    have hr4 : r.length = 4 := hr4.1
    have hsi := k_si y.1 (by omega)
    have hsr := k_si r (by omega)
    rcases Nat.lt_or_ge 16 (P.length + P.length) with h8 | h8
    · have h8d : decide ((([] ++ P ++ P).length : Int) ≤ 16) = false := decide_eq_false (by rw [List.length_append, List.nil_append]; omega)
      clear hF hO
      (refine kM Try.func7 rfl ?_; intro hfit hfe)
      (repeat (first | refine gq_TJD ?_ | (refine ga0A ?_; intro _hq)))
      (refine rtA ?_; try rfl)
    · have h8d : decide ((([] ++ P ++ P).length : Int) ≤ 16) = true := decide_eq_true (by rw [List.length_append, List.nil_append]; omega)
      have hT := k_prI (P ++ P) (by rw [List.length_append]; omega) r (by omega)
      obtain ⟨q1, q2⟩ := fin_twice hF h8
      unfold KPR at hT hO
      rw [q1, q2] at hT
      have hzl := prO_len P y.1
      clear q1 q2 hF
      generalize prO (fin P y.1) = Z at *
      generalize (fin P y.1).isSome = b at *
      have hbb : (b != b) = false := by simp
      have hsz := k_si Z (by omega)
      (refine kM Try.func7 rfl ?_; intro hfit hfe)
      (repeat (first | refine gq_TJD ?_ | (refine ga0A ?_; intro _hq)))
      (refine rtA ?_; try rfl)
end Go.Proofs.Ytgjnnlgeggamjaa
