/- TRD: laid into one text. -/
import Derived.Test.YtgjnnlgeggamjaaQXEG
import Derived.Test.YtgjnnlgeggamjaaQXES

namespace Go.Proofs.Ytgjnnlgeggamjaa
set_option linter.unusedVariables false
set_option linter.unusedSimpArgs false
set_option maxRecDepth 20000
open Go.RowKit
attribute [local irreducible] runA runX AW
theorem gq_TRD {H G : Prop} (k : H) (h : Hid H → G := by (intro hh; repeat1' (first | (first | (refine nxA ?_; (first | fail | ((first | (refine z_op (by rfl) ?_; first | refine z_ok ?_ ?_ | refine z_ex ?_ (by first | exact zL1 | ((first | fail); exact zWW) | exact zL2 | fail | exact zL3 | fail) ?_) | ((first | refine q_callE wsT wsZ (by rfl) ?_ | refine q_callVE wsT (by rfl) (by rfl) ?_); refine ⟨_, _, _, (by first | assumption | exact k_within _ _ _ | exact k_lvI _ _ _ _), _, by rfl, ?_, ?_⟩)); focus (first | exact trivial | fail | exact zQZ)) | fail)) | refine swA ?_) | refine awA ?_); exact hh.out)) : G := h ⟨k⟩
theorem k_lvI (k v w n : Int) : Kon Try.prog 55 [lV k v w n] [] (vB (lok k v w n)) [] [] := by
  by_cases h0 : k < 0 ∨ 8 < k
  · rw [lok_out h0]
    have hb : btw k 0 8 = false := by
      unfold btw
      rcases h0 with h | h
      · rw [decide_eq_false (by omega : ¬ 0 ≤ k)]; rfl
      · rw [decide_eq_false (by omega : ¬ k ≤ 8)]; cases decide (0 ≤ k) <;> rfl
    have hW := k_within k 0 8
    rw [hb] at hW
    (refine kM Try.func55 rfl ?_; intro hfit hfe)
    (repeat (first | refine gq_TRD ?_ | (refine ga0A ?_; intro _hq)))
    (refine rtA ?_; try rfl)
  have h' : (k = 0 ∨ k = 1 ∨ k = 3) ∨ (k = 2 ∨ k = 6 ∨ k = 8) ∨ k = 4 ∨ (k = 5 ∨ k = 7) := by omega
  have eA : (btw v 0 3 && btw w 0 3 && (v != w) && (n == 0)) = (btw v 0 3 && btw w 0 3 && btw n 0 0 && !(true && (v == w))) := by
    rw [btw_0]
    unfold bne
    cases btw v 0 3 <;> cases btw w 0 3 <;> cases (v == w) <;> cases (n == 0) <;> rfl
  have eB : (btw v 0 3 && (w == 0) && btw n 0 63) = (btw v 0 3 && btw w 0 0 && btw n 0 63 && !(false && (v == w))) := by
    rw [btw_0]
    cases btw v 0 3 <;> cases (w == 0) <;> cases btw n 0 63 <;> rfl
  have eC : ((v == 0) && (w == 0) && btw n 0 3) = (btw v 0 0 && btw w 0 0 && btw n 0 3 && !(false && (v == w))) := by
    rw [btw_0, btw_0]
    cases (v == 0) <;> cases (w == 0) <;> cases btw n 0 3 <;> rfl
  have eD : ((v == 0) && (w == 0) && (n == 0)) = (btw v 0 0 && btw w 0 0 && btw n 0 0 && !(false && (v == w))) := by
    rw [btw_0, btw_0, btw_0]
    cases (v == 0) <;> cases (w == 0) <;> cases (n == 0) <;> rfl
  rcases h' with hk | hk | rfl | hk
  · rw [lok_A hk, eA]
    rcases hk with rfl | rfl | rfl
    · exact k_lv0 v w n
    · exact k_lv1 v w n
    · exact k_lv3 v w n
  · rw [lok_B hk, eB]
    rcases hk with rfl | rfl | rfl
    · exact k_lv2 v w n
    · exact k_lv6 v w n
    · exact k_lv8 v w n
  · rw [lok_C, eC]
    exact k_lv4 v w n
  · rw [lok_D hk, eD]
    rcases hk with rfl | rfl
    · exact k_lv5 v w n
    · exact k_lv7 v w n
theorem k_p1 (g : Gt) : Kon Try.prog 54 [lV g.k g.a g.b g.c] [] (vB (!(lkG g))) [] [] := by
  (refine kM Try.func54 rfl ?_; intro hfit hfe)
  (repeat (first | refine gq_TRD ?_ | (refine ga0A ?_; intro _hq)))
  (refine rtA ?_; try rfl)
def rgB (n : Int) : Bool := btw n 0 63
theorem k_r1 (n : Int) : Kon Try.prog 51 [vI n] [] (vB (!(rgB n))) [] [] := by
  unfold rgB
  (refine kM Try.func51 rfl ?_; intro hfit hfe)
  (repeat (first | refine gq_TRD ?_ | (refine ga0A ?_; intro _hq)))
  (refine rtA ?_; try rfl)
abbrev capL : AV := .g (.one (.fn 54 []))
def bL : List Gt → Nat → Int
  | [], _ => -1
  | g :: l, i => if lkG g = true then bL l (i + 1) else (i : Int)
theorem bL_all : ∀ (l : List Gt) (i : Nat), decide (bL l i ≥ 0) = !(l.all lkG)
  | [], i => rfl
  | g :: l, i => by
    cases h : lkG g with
    | true => simp only [bL, h, if_true, List.all_cons, Bool.true_and]; exact bL_all l (i + 1)
    | false => simp [bL, h]
theorem bL_drop {l : List Gt} {i : Nat} (hi : i < l.length) : bL (l.drop i) i = if lkG (l.getD i Cel.no) = true then bL (l.drop (i + 1)) (i + 1) else (i : Int) := by
  have e : l.getD i Cel.no = l[i] := by simp [List.getD_eq_getElem?_getD, hi]
  rw [List.drop_eq_getElem_cons hi, e]; rfl
theorem k_ixL (l : List Gt) (h : l.length ≤ 100000000) : Kon Try.prog 68 [roA l, capL] [] (vI (bL l 0)) [] [] := by
  (refine kM Try.func68 rfl ?_; intro hfit hfe)
  (repeat (first | refine gq_TRD ?_ | (refine ga0A ?_; intro _hq)))
  (refine aw_rd [0, 1, 7] [] (fun i : Nat => [(8, vI i)]) (fun _ => []) (fun i => i ≤ l.length ∧ bL (l.drop i) i = bL l 0) (fun i => l.length - i) 0 (by rfl) (by rfl) ?_ (by rfl) zHE zHE ?_)
  · exact ⟨Nat.zero_le _, by rw [List.drop_zero]⟩
  rintro i ⟨hi, hz⟩
  rcases Nat.lt_or_ge i l.length with h6 | h6
  · have hd : decide ((i : Int) < (l.length : Int)) = true := by simpa using h6
    rw [bL_drop h6] at hz
    have hK := k_p1 (l.getD (i : Int).toNat Cel.no)
    replace hz : (if lkG (l.getD (i : Int).toNat Cel.no) = true then bL (l.drop (i + 1)) (i + 1) else (i : Int)) = bL l 0 := hz
    cases hb : lkG (l.getD (i : Int).toNat Cel.no) with
    | false =>
      rw [hb, if_neg (by decide)] at hz
      rw [hb] at hK
      rw [← hz]
      clear hz
      (repeat (first | refine gq_TRD ?_ | (refine ga0A ?_; intro _hq)))
      (refine rtA ?_; try rfl)
    | true =>
      rw [hb, if_pos rfl] at hz
      rw [hb] at hK
      have hinv : i + 1 ≤ l.length ∧ bL (l.drop (i + 1)) (i + 1) = bL l 0 := ⟨h6, hz⟩
      clear hz
      (repeat (first | refine gq_TRD ?_ | (refine ga0A ?_; intro _hq)))
      exact ⟨i + 1, hinv, ⟨by rfl, zHE, zHE⟩, (by first | omega | (dsimp only; omega))⟩
  · have hd : decide ((i : Int) < (l.length : Int)) = false := by simp; omega
    rw [List.drop_of_length_le h6, bL] at hz
    rw [← hz]
    clear hz
    (repeat (first | refine gq_TRD ?_ | (refine ga0A ?_; intro _hq)))
    (refine rtA ?_; try rfl)
theorem k_cfL (l : List Gt) (h : l.length ≤ 100000000) : Kon Try.prog 53 [roA l, capL] [] (vB (!(l.all lkG))) [] [] := by
  rw [← bL_all l 0]
  have hK := k_ixL l h
  (refine kM Try.func53 rfl ?_; intro hfit hfe)
  (repeat (first | refine gq_TRD ?_ | (refine ga0A ?_; intro _hq)))
  (refine rtA ?_; try rfl)
abbrev capR : AV := .g (.one (.fn 51 []))
def bR : List Int → Nat → Int
  | [], _ => -1
  | g :: l, i => if rgB g = true then bR l (i + 1) else (i : Int)
theorem bR_all : ∀ (l : List Int) (i : Nat), decide (bR l i ≥ 0) = !(l.all rgB)
  | [], i => rfl
  | g :: l, i => by
    cases h : rgB g with
    | true => simp only [bR, h, if_true, List.all_cons, Bool.true_and]; exact bR_all l (i + 1)
    | false => simp [bR, h]
theorem bR_drop {l : List Int} {i : Nat} (hi : i < l.length) : bR (l.drop i) i = if rgB (l.getD i Cel.no) = true then bR (l.drop (i + 1)) (i + 1) else (i : Int) := by
  have e : l.getD i Cel.no = l[i] := by simp [List.getD_eq_getElem?_getD, hi]
  rw [List.drop_eq_getElem_cons hi, e]; rfl
theorem k_ixR (l : List Int) (h : l.length ≤ 100000000) : Kon Try.prog 67 [roA l, capR] [] (vI (bR l 0)) [] [] := by
  (refine kM Try.func67 rfl ?_; intro hfit hfe)
  (repeat (first | refine gq_TRD ?_ | (refine ga0A ?_; intro _hq)))
  (refine aw_rd [0, 1, 7] [] (fun i : Nat => [(8, vI i)]) (fun _ => []) (fun i => i ≤ l.length ∧ bR (l.drop i) i = bR l 0) (fun i => l.length - i) 0 (by rfl) (by rfl) ?_ (by rfl) zHE zHE ?_)
  · exact ⟨Nat.zero_le _, by rw [List.drop_zero]⟩
  rintro i ⟨hi, hz⟩
  rcases Nat.lt_or_ge i l.length with h6 | h6
  · have hd : decide ((i : Int) < (l.length : Int)) = true := by simpa using h6
    rw [bR_drop h6] at hz
    have hK := k_r1 (l.getD (i : Int).toNat Cel.no)
    replace hz : (if rgB (l.getD (i : Int).toNat Cel.no) = true then bR (l.drop (i + 1)) (i + 1) else (i : Int)) = bR l 0 := hz
    cases hb : rgB (l.getD (i : Int).toNat Cel.no) with
    | false =>
      rw [hb, if_neg (by decide)] at hz
      rw [hb] at hK
      rw [← hz]
      clear hz
      (repeat (first | refine gq_TRD ?_ | (refine ga0A ?_; intro _hq)))
      (refine rtA ?_; try rfl)
    | true =>
      rw [hb, if_pos rfl] at hz
      rw [hb] at hK
      have hinv : i + 1 ≤ l.length ∧ bR (l.drop (i + 1)) (i + 1) = bR l 0 := ⟨h6, hz⟩
      clear hz
      (repeat (first | refine gq_TRD ?_ | (refine ga0A ?_; intro _hq)))
      exact ⟨i + 1, hinv, ⟨by rfl, zHE, zHE⟩, (by first | omega | (dsimp only; omega))⟩
  · have hd : decide ((i : Int) < (l.length : Int)) = false := by simp; omega
    rw [List.drop_of_length_le h6, bR] at hz
    rw [← hz]
    clear hz
    (repeat (first | refine gq_TRD ?_ | (refine ga0A ?_; intro _hq)))
    (refine rtA ?_; try rfl)
theorem k_cfR (l : List Int) (h : l.length ≤ 100000000) : Kon Try.prog 50 [roA l, capR] [] (vB (!(l.all rgB))) [] [] := by
  rw [← bR_all l 0]
  have hK := k_ixR l h
  (refine kM Try.func50 rfl ?_; intro hfit hfe)
  (repeat (first | refine gq_TRD ?_ | (refine ga0A ?_; intro _hq)))
  (refine rtA ?_; try rfl)
theorem k_rvI (l : List Int) (h : l.length ≤ 2000000) : Kon Try.prog 31 [roA l] [] (vB (rvB l)) [] [] := by
  have hK := k_cfR l (by omega)
  have e : rvB l = (l.all rgB && ((l.length : Int) == 4)) := rfl
  rw [e]
  clear e
  cases h4 : ((l.length : Int) == 4) with
  | false =>
    rw [Bool.and_false]
    (refine kM Try.func31 rfl ?_; intro hfit hfe)
    (repeat (first | refine gq_TRD ?_ | (refine ga0A ?_; intro _hq)))
    (refine rtA ?_; try rfl)
  | true =>
    rw [Bool.and_true]
    (refine kM Try.func31 rfl ?_; intro hfit hfe)
    (repeat (first | refine gq_TRD ?_ | (refine ga0A ?_; intro _hq)))
    (refine rtA ?_; try rfl)
    rw [Bool.not_not]
    rfl
set_option maxHeartbeats 4000000 in
theorem k_lbI (l : Gt) (h : lkG l = true) : Kon Try.prog 60 [lV l.k l.a l.b l.c] [] (lV (lb l).k (lb l).a (lb l).b (lb l).c) [] [] := by
  have hk := lk_kind h
  have hc := lk_cases h
  obtain ⟨k, a, b, c⟩ := l
  have hL := k_lvI k a b c
  have h' : lok k a b c = true := h
  rw [h'] at hL
  clear h h'
  dsimp only at hk hc ⊢
  have hcc : 0 ≤ c ∧ c ≤ 63 := by omega
  clear hc
  obtain rfl | rfl | rfl | rfl | rfl | rfl | rfl | rfl | rfl : k = 0 ∨ k = 1 ∨ k = 2 ∨ k = 3 ∨ k = 4 ∨ k = 5 ∨ k = 6 ∨ k = 7 ∨ k = 8 := by omega
  · show Kon _ _ _ _ (lV 1 a b c) _ _
    (refine kM Try.func60 rfl ?_; intro hfit hfe)
    (repeat (first | refine gq_TRD ?_ | (refine ga0A ?_; intro _hq)))
    (refine rtA ?_; try rfl)
  · show Kon _ _ _ _ (lV 0 a b c) _ _
    (refine kM Try.func60 rfl ?_; intro hfit hfe)
    (repeat (first | refine gq_TRD ?_ | (refine ga0A ?_; intro _hq)))
    (refine rtA ?_; try rfl)
  · show Kon _ _ _ _ (lV 2 a b ((64 - c) % 64)) _ _
    (refine kM Try.func60 rfl ?_; intro hfit hfe)
    (repeat (first | refine gq_TRD ?_ | (refine ga0A ?_; intro _hq)))
    (refine rtA ?_; try rfl)
  · show Kon _ _ _ _ (lV 3 a b c) _ _
    (refine kM Try.func60 rfl ?_; intro hfit hfe)
    (repeat (first | refine gq_TRD ?_ | (refine ga0A ?_; intro _hq)))
    (refine rtA ?_; try rfl)
  · show Kon _ _ _ _ (lV 5 0 0 0) _ _
    (refine kM Try.func60 rfl ?_; intro hfit hfe)
    (repeat (first | refine gq_TRD ?_ | (refine ga0A ?_; intro _hq)))
    (refine rtA ?_; try rfl)
  · show Kon _ _ _ _ (lV 4 a b c) _ _
    (refine kM Try.func60 rfl ?_; intro hfit hfe)
    (repeat (first | refine gq_TRD ?_ | (refine ga0A ?_; intro _hq)))
    (refine rtA ?_; try rfl)
  · show Kon _ _ _ _ (lV 8 a b c) _ _
    (refine kM Try.func60 rfl ?_; intro hfit hfe)
    (repeat (first | refine gq_TRD ?_ | (refine ga0A ?_; intro _hq)))
    (refine rtA ?_; try rfl)
  · show Kon _ _ _ _ (lV 7 a b c) _ _
    (refine kM Try.func60 rfl ?_; intro hfit hfe)
    (repeat (first | refine gq_TRD ?_ | (refine ga0A ?_; intro _hq)))
    (refine rtA ?_; try rfl)
  · show Kon _ _ _ _ (lV 6 a b c) _ _
    (refine kM Try.func60 rfl ?_; intro hfit hfe)
    (repeat (first | refine gq_TRD ?_ | (refine ga0A ?_; intro _hq)))
    (refine rtA ?_; try rfl)
end Go.Proofs.Ytgjnnlgeggamjaa
