/- KGJ: laid into one text. -/
import Derived.Test.YtfbcblknahicdaaQXFO

namespace Go.Proofs.Ytfbcblknahicdaa
set_option linter.unusedVariables false
set_option linter.unusedSimpArgs false
set_option maxRecDepth 20000
open Go.RowKit
attribute [local irreducible] runA runX AW
theorem gq_KGJ {H G : Prop} (k : H) (h : Hid H → G := by (intro hh; repeat1' (first | (first | (refine nxA ?_; (first | fail | ((first | (refine z_op (by rfl) ?_; first | refine z_ok ?_ ?_ | refine z_ex ?_ (by first | exact zL1 | ((first | fail); exact zWW) | exact zL2 | fail | exact zL3 | fail) ?_) | ((first | refine q_callE wsT wsZ (by rfl) ?_ | refine q_callVE wsT (by rfl) (by rfl) ?_); refine ⟨_, _, _, (by first | assumption | exact k_okL _ | exact k_l1In _ _ _ | exact k_wvS2 _ _ | exact k_wv _ _ | exact k_gv _ _ | exact k_gvS _ _ (by omega) | exact k_cv1 _ _ | exact k_idxV _ _ (by omega) | exact k_contV _ _ (by omega) | exact k_cv _ _ (by omega) | exact k_cvS _ _ (by omega) (by omega)), _, by rfl, ?_, ?_⟩)); focus (first | exact trivial | fail | exact zQZ)) | fail)) | refine swA ?_) | refine awA ?_); exact hh.out)) : G := h ⟨k⟩
abbrev capA : AV := .g (.one (.fn 39 [(100000, 0)]))
abbrev boxI (n : Int) : Ent := .rbx [.v (.int .i64 n)]
theorem k_cv1 (n : Int) (g : Gt) : Kon Try.prog 39 [gV g, .g (.one (.ptr 100000 0 0))] [boxI n] (vB (!(gok n g))) [] [boxI n] := by
  (refine kM Try.func39 rfl ?_; intro hfit hfe)
  (repeat (first | refine gq_KGJ ?_ | (refine ga0A ?_; intro _hq)))
  (refine rtA ?_; try rfl)
def badI (n : Int) : List Gt → Nat → Int
  | [], _ => -1
  | g :: l, i => if gok n g = true then badI n l (i + 1) else (i : Int)
theorem badI_all {n : Int} : ∀ (l : List Gt) (i : Nat), decide (badI n l i ≥ 0) = !(l.all (gok n))
  | [], i => rfl
  | g :: l, i => by
    cases h : gok n g with
    | true => simp only [badI, h, if_true, List.all_cons, Bool.true_and]; exact badI_all l (i + 1)
    | false => simp [badI, h]
theorem badI_drop {n : Int} {l : List Gt} {i : Nat} (hi : i < l.length) : badI n (l.drop i) i = if gok n (l.getD i Cel.no) = true then badI n (l.drop (i + 1)) (i + 1) else (i : Int) := by
  have e : l.getD i Cel.no = l[i] := by simp [List.getD_eq_getElem?_getD, hi]
  rw [List.drop_eq_getElem_cons hi, e]; rfl
theorem k_idxV (n : Int) (l : List Gt) (h : l.length ≤ 100000000) : Kon Try.prog 43 [roA l, capA] [boxI n] (vI (badI n l 0)) [] [boxI n] := by
  (refine kM Try.func43 rfl ?_; intro hfit hfe)
  (repeat (first | refine gq_KGJ ?_ | (refine ga0A ?_; intro _hq)))
  (refine aw_rd [0, 1, 7] [100000] (fun i : Nat => [(8, vI i)]) (fun _ => []) (fun i => i ≤ l.length ∧ badI n (l.drop i) i = badI n l 0) (fun i => l.length - i) 0 (by rfl) (by rfl) ?_ (by rfl) zHE zHE ?_)
  · exact ⟨Nat.zero_le _, by rw [List.drop_zero]⟩
  rintro i ⟨hi, hz⟩
  rcases Nat.lt_or_ge i l.length with h6 | h6
  · have hd : decide ((i : Int) < (l.length : Int)) = true := by simpa using h6
    rw [badI_drop h6] at hz
    have hK := k_cv1 n (l.getD (i : Int).toNat Cel.no)
    replace hz : (if gok n (l.getD (i : Int).toNat Cel.no) = true then badI n (l.drop (i + 1)) (i + 1) else (i : Int)) = badI n l 0 := hz
    cases hb : gok n (l.getD (i : Int).toNat Cel.no) with
    | false =>
      rw [hb, if_neg (by decide)] at hz
      rw [hb] at hK
      rw [← hz]
      clear hz
      (repeat (first | refine gq_KGJ ?_ | (refine ga0A ?_; intro _hq)))
      (refine rtA ?_; try rfl)
    | true =>
      rw [hb, if_pos rfl] at hz
      rw [hb] at hK
      have hinv : i + 1 ≤ l.length ∧ badI n (l.drop (i + 1)) (i + 1) = badI n l 0 := ⟨h6, hz⟩
      clear hz
      (repeat (first | refine gq_KGJ ?_ | (refine ga0A ?_; intro _hq)))
      exact ⟨i + 1, hinv, ⟨by rfl, zHE, zHE⟩, (by first | omega | (dsimp only; omega))⟩
  · have hd : decide ((i : Int) < (l.length : Int)) = false := by simp; omega
    rw [List.drop_of_length_le h6, badI] at hz
    rw [← hz]
    clear hz
    (repeat (first | refine gq_KGJ ?_ | (refine ga0A ?_; intro _hq)))
    (refine rtA ?_; try rfl)
theorem k_contV (n : Int) (l : List Gt) (h : l.length ≤ 100000000) : Kon Try.prog 38 [roA l, capA] [boxI n] (vB (!(l.all (gok n)))) [] [boxI n] := by
  rw [← badI_all l 0]
  (refine kM Try.func38 rfl ?_; intro hfit hfe)
  (repeat (first | refine gq_KGJ ?_ | (refine ga0A ?_; intro _hq)))
  (refine rtA ?_; try rfl)
def cokB (n : Int) (l : List Gt) : Bool := btw n 1 8 && (decide ((l.length : Int) ≤ 24) && l.all (gok n))
theorem k_cv (n : Int) (l : List Gt) (h : l.length ≤ 100000000) : Kon Try.prog 26 [vI n, roA l] [] (vB (cokB n l)) [] [] := by
  unfold cokB
  cases h1 : btw n 1 8 with
  | false =>
    (refine kM Try.func26 rfl ?_; intro hfit hfe)
    (repeat (first | refine gq_KGJ ?_ | (refine ga0A ?_; intro _hq)))
    (refine rtA ?_; try rfl)
  | true =>
    cases h2 : decide ((l.length : Int) ≤ 24) with
    | false =>
      (refine kM Try.func26 rfl ?_; intro hfit hfe)
      (repeat (first | refine gq_KGJ ?_ | (refine ga0A ?_; intro _hq)))
      (refine rtA ?_; try rfl)
    | true =>
      (refine kM Try.func26 rfl ?_; intro hfit hfe)
      (repeat (first | refine gq_KGJ ?_ | (refine ga0A ?_; intro _hq)))
      (refine rtA ?_; try rfl)
      rw [Bool.not_not]; rfl
theorem all_drop {p : Gt → Bool} {l : List Gt} {i : Nat} (hi : i < l.length) : (l.drop i).all p = (p (l.getD i Cel.no) && (l.drop (i + 1)).all p) := by
  have e : l.getD i Cel.no = l[i] := by simp [List.getD_eq_getElem?_getD, hi]
  rw [List.drop_eq_getElem_cons hi, e, List.all_cons]
theorem k_cvS (n : Int) (l : List Gt) (h : l.length ≤ 100000000) (hr : -9223372036854775808 ≤ n ∧ n ≤ 9223372036854775807) : Kon Try.prog 8 [vI n, roA l] [] (vB (cokB n l)) [] [] := by
  have e : cokB n l = (l.all (gok n) && (btw n 1 8 && decide ((l.length : Int) ≤ 24))) := by
    unfold cokB; cases btw n 1 8 <;> cases decide ((l.length : Int) ≤ 24) <;> cases l.all (gok n) <;> rfl
  rw [e]
  clear e
  (refine kM Try.func8 rfl ?_; intro hfit hfe)
  (repeat (first | refine gq_KGJ ?_ | (refine ga0A ?_; intro _hq)))
  (refine aw_rd [0, 1] [] (fun i : Nat => [(5, vI i)]) (fun _ => []) (fun i => i ≤ l.length ∧ (l.drop i).all (gok n) = l.all (gok n)) (fun i => l.length - i) 0 (by rfl) (by rfl) ?_ (by rfl) zHE zHE ?_)
  · exact ⟨Nat.zero_le _, by rw [List.drop_zero]⟩
  rintro i ⟨hi, hz⟩
  rcases Nat.lt_or_ge i l.length with h6 | h6
  · have hd : decide ((i : Int) < (l.length : Int)) = true := by simpa using h6
    rw [all_drop h6] at hz
    have hK := k_gvS n (l.getD (i : Int).toNat Cel.no) hr
    replace hz : (gok n (l.getD (i : Int).toNat Cel.no) && (l.drop (i + 1)).all (gok n)) = l.all (gok n) := hz
    cases hb : gok n (l.getD (i : Int).toNat Cel.no) with
    | false =>
      rw [hb, Bool.false_and] at hz
      rw [hb] at hK
      rw [← hz, Bool.false_and]
      clear hz
      (repeat (first | refine gq_KGJ ?_ | (refine ga0A ?_; intro _hq)))
      (refine rtA ?_; try rfl)
    | true =>
      rw [hb, Bool.true_and] at hz
      rw [hb] at hK
      have hinv : i + 1 ≤ l.length ∧ (l.drop (i + 1)).all (gok n) = l.all (gok n) := ⟨h6, hz⟩
      clear hz
      (repeat (first | refine gq_KGJ ?_ | (refine ga0A ?_; intro _hq)))
      exact ⟨i + 1, hinv, ⟨by rfl, zHE, zHE⟩, (by first | omega | (dsimp only; omega))⟩
  · have hd : decide ((i : Int) < (l.length : Int)) = false := by simp; omega
    rw [List.drop_of_length_le h6, List.all_nil] at hz
    rw [← hz, Bool.true_and]
    clear hz
    cases hn : btw n 1 8
    all_goals
      (repeat (first | refine gq_KGJ ?_ | (refine ga0A ?_; intro _hq)))
      (refine rtA ?_; try rfl)
theorem cr_drop {l : List Gt} {i : Nat} {w : Int} (hi : i < l.length) : cr (l.drop i) w = cr (l.drop (i + 1)) (gr (l.getD i Cel.no) w) := by
  have e : l.getD i Cel.no = l[i] := by simp [List.getD_eq_getElem?_getD, hi]
  rw [List.drop_eq_getElem_cons hi, e, cr_cons]
theorem all_at {p : Gt → Bool} {l : List Gt} (h : l.all p = true) {i : Nat} (hi : i < l.length) : p (l.getD i Cel.no) = true := by
  have e : l.getD i Cel.no = l[i] := by simp [List.getD_eq_getElem?_getD, hi]
  rw [e]; exact List.all_eq_true.1 h _ (List.getElem_mem hi)
theorem k_runAll (n : Int) (l : List Gt) (w : Int) (h : l.all (gok n) = true) (hl : l.length ≤ 100000000) (hw : wvB n w = true) : Kon Try.prog 41 [roA l, vI w] [] (vI (cr l w)) [] [] := by
  have hv := wvB_t hw
  (refine kM Try.func41 rfl ?_; intro hfit hfe)
  (repeat (first | refine gq_KGJ ?_ | (refine ga0A ?_; intro _hq)))
  (refine aw_rd [7, 8] [] (fun g : Nat × Int => [(9, vI g.1), (1, vI g.2)]) (fun _ => []) (fun g => g.1 ≤ l.length ∧ (0 ≤ g.2 ∧ g.2 < 2 ^ n.toNat) ∧ cr (l.drop g.1) g.2 = cr l w) (fun g => l.length - g.1) (0, w) (by rfl) (by rfl) ?_ (by rfl) zHE zHE ?_)
  · exact ⟨Nat.zero_le _, ⟨hv.2.1, hv.2.2.1⟩, by rw [List.drop_zero]⟩
  rintro ⟨i, v⟩ ⟨hi, hv2, hz⟩
  dsimp only at hi hv2 hz ⊢
  have h8 := pow_8 hv.1
  rcases Nat.lt_or_ge i l.length with h6 | h6
  · have hd : decide ((i : Int) < (l.length : Int)) = true := by simpa using h6
    rw [cr_drop h6] at hz
    have hg := all_at h h6
    have hK : Kon Try.prog 17 [gV (l.getD (i : Int).toNat Cel.no), vI v] [] (vI (gr (l.getD i Cel.no) v)) [] [] := k_run n (l.getD i Cel.no) v hg (by omega)
    have hinv : i + 1 ≤ l.length ∧ (0 ≤ gr (l.getD i Cel.no) v ∧ gr (l.getD i Cel.no) v < 2 ^ n.toNat) ∧ cr (l.drop (i + 1)) (gr (l.getD i Cel.no) v) = cr l w := ⟨h6, gr_lt hg hv2, hz⟩
    clear hz
    (repeat (first | refine gq_KGJ ?_ | (refine ga0A ?_; intro _hq)))
    exact ⟨(i + 1, gr (l.getD i Cel.no) v), hinv, ⟨by rfl, zHE, zHE⟩, (by first | omega | (dsimp only; omega))⟩
  · have hd : decide ((i : Int) < (l.length : Int)) = false := by simp; omega
    rw [List.drop_of_length_le h6] at hz
    rw [← hz]
    clear hz
    (repeat (first | refine gq_KGJ ?_ | (refine ga0A ?_; intro _hq)))
    (refine rtA ?_; try rfl)
theorem cokB_t {n : Int} {l : List Gt} (h : cokB n l = true) : (1 ≤ n ∧ n ≤ 8) ∧ l.length ≤ 24 ∧ l.all (gok n) = true := by
  unfold cokB at h
  simp only [Bool.and_eq_true, decide_eq_true_eq] at h
  exact ⟨btw_t h.1, by omega, h.2.2⟩
end Go.Proofs.Ytfbcblknahicdaa
