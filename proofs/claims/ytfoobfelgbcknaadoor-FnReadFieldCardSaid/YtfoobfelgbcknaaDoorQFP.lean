/- FTI: laid into one text. -/
import Derived.Test.YtfoobfelgbcknaaDoorQFM
import Derived.Test.YtfoobfelgbcknaaDoorQFN
import Derived.Test.YtfoobfelgbcknaaDoorQFO

namespace Go.Proofs.YtfoobfelgbcknaaDoor
set_option linter.unusedVariables false
set_option linter.unusedSimpArgs false
set_option maxRecDepth 20000
open Go.RowKit
attribute [local irreducible] runA runX AW
def wsZI : List (Nat × Nat) := [
  (12, 1),
  (18, 1),
  (9, 1), (7, 1), (8, 1), (999999, 0)]
theorem gq_FTI {H G : Prop} (k : H) (h : Hid H → G := by (intro hh; repeat1' (first | (first | (refine nxA ?_; (first | (first | refine r_slen (by rfl) Tryd.underlying9 (by rfl) ?_ | refine r_seq (by rfl) (by rfl) (by rfl) ?_ | refine r_sne (by rfl) (by rfl) (by rfl) ?_ | refine r_sadd (by rfl) (by rfl) (by first | omega | (simp only [List.length_append, List.length_cons, List.length_nil, List.length_take, List.length_drop]; omega)) (by rfl) ?_ | refine r_spiece (q := z) (by rfl) (by rfl) (by rfl) Tryd.underlying9 (.inl ⟨rfl, rfl⟩) (.inr rfl) (by omega) (by rfl) ?_ | refine r_spiece (p := z + 1) (by rfl) (by rfl) (by rfl) Tryd.underlying9 (.inr rfl) (.inl ⟨rfl, rfl⟩) (by omega) (by rfl) ?_) | ((first | (refine z_op (by rfl) ?_; first | refine z_ok ?_ ?_ | refine z_ex ?_ (by first | exact zL1 | ((first | fail); exact zWW) | exact zL2 | (first | exact rw_c (List UInt8) rfl) | exact zL3 | fail) ?_) | ((first | refine q_callE wsT wsZI (by rfl) ?_ | refine q_callVE wsT (by rfl) (by rfl) ?_); refine ⟨_, _, _, (by first | assumption | exact k_open _ (by omega) | exact k_alive | exact k_ftI _ _ _ | exact k_ftS _ _ _ | exact Kon.of con_valid (cValid_at _ _ _) | exact Kon.of con_sameField (cSame_at _ _ _ _ _ _) | exact Kon.of con_sameBalls (cBalls_at _ _ _ _ _ _) | exact Kon.of con_sameBalls (cBalls_at _ [] _ _ [] _)), _, by rfl, ?_, ?_⟩)); focus (first | exact trivial | fail | exact zQZ)) | fail)) | refine swA ?_) | refine awA ?_); exact hh.out)) : G := h ⟨k⟩
theorem ftx_len (f : Fld) : (ftx f).length ≤ 73 := by
  unfold ftx
  split
  · rename_i h
    obtain ⟨s, l, b⟩ := f
    obtain ⟨h1, _⟩ := Fld.ok_facts h
    dsimp only
    have h2 := body_len l s.toNat s.toNat
    have h3 : s.toNat * (s.toNat + 1) ≤ 72 := by
      have h4 : s.toNat ≤ 8 := by omega
      have h5 := Nat.mul_le_mul h4 (show s.toNat + 1 ≤ 9 by omega)
      omega
    split <;> simp only [List.length_append, List.length_cons, List.length_nil] <;> omega
  · simp
theorem ftx_no {f : Fld} (h : f.ok = false) : ftx f = [] := by unfold ftx; rw [h]; rfl
theorem ex_dFT (l : List UInt8) (hl : l.length ≤ 100000000) : ∃ o : Option Fld, Kon Tryd.prog 6 [roA l] [] (outF o).1 (outF o).2 [] := by
  have h2 : (l.take 2000).length ≤ 2000 := by simp; omega
  obtain ⟨o, c', _, _, hF⟩ := ex_l20F (l.take 2000) 0 6 (by omega)
  refine ⟨o, ?_⟩
  rcases o with _ | ⟨s, bl, b⟩
  · (refine kM Tryd.func6 rfl ?_; intro hfit hfe)
    (repeat (first | refine gq_FTI ?_ | (refine ga0A ?_; intro _hq)))
    (refine rtA ?_; try rfl)
  · (refine kM Tryd.func6 rfl ?_; intro hfit hfe)
    (repeat (first | refine gq_FTI ?_ | (refine ga0A ?_; intro _hq)))
    (refine rtA ?_; try rfl)
set_option maxHeartbeats 4000000 in
theorem ex_dRF (l : List UInt8) (hl : l.length ≤ 100000000) : ∃ t : List UInt8, t.length ≤ 300 ∧ Kon Tryd.prog 17 [roA l] [] (vS t) [] [] := by
  have h2 : (l.take 2000).length ≤ 2000 := by simp; omega
  obtain ⟨o, c', hc', _, hF⟩ := ex_l20F0 (l.take 2000) 0 (by omega)
  obtain ⟨f, hf⟩ : ∃ f : Fld, f = o.getD ⟨0, [], false⟩ := ⟨_, rfl⟩
  obtain ⟨t, ht⟩ : ∃ t, ftx f = t := ⟨_, rfl⟩
  have htl : t.length ≤ 73 := by rw [← ht]; exact ftx_len f
  have hT := k_ftS f.s f.l f.b
  rw [show (⟨f.s, f.l, f.b⟩ : Fld) = f from rfl, ht] at hT
  obtain ⟨p, _, hp, hP⟩ := ex_pick (l.take 2000) c' 3 (by omega)
  have hp' := hp (by decide)
  clear hp ht
  by_cases hcase : p = 0 ∧ 0 < t.length
  · obtain ⟨hp0, hpos⟩ := hcase
    subst hp0
    have hd : decide ((t.length : Int) > 0) = true := decide_eq_true (by omega)
    obtain ⟨q, _, hq, hQ⟩ := ex_pick (l.take 2000) (c' + 1) (t.length : Int) (by omega)
    have hq' := hq (by omega)
    obtain ⟨z, rfl⟩ : ∃ z : Nat, q = (z : Int) := ⟨q.toNat, by omega⟩
    obtain ⟨y, _, hy, hY⟩ := ex_pick (l.take 2000) (c' + 1 + 1) 5 (by omega)
    have hy' := hy (by decide)
    obtain ⟨e, he, hel⟩ : ∃ e : List UInt8, ([[], [111], [46], [47], [33]] : List (List UInt8)).getD y.toNat Cel.no = e ∧ e.length ≤ 2 := by
      refine ⟨_, rfl, ?_⟩
      have : y.toNat = 0 ∨ y.toNat = 1 ∨ y.toNat = 2 ∨ y.toNat = 3 ∨ y.toNat = 4 := by omega
      rcases this with h | h | h | h | h <;> rw [h] <;> decide
    refine ⟨((t.drop 0).take (z - 0)) ++ ([[], [111], [46], [47], [33]] : List (List UInt8)).getD y.toNat Cel.no ++ ((t.drop (z + 1)).take (t.length - (z + 1))), ?_, ?_⟩
    · rw [he]; simp only [List.length_append, List.length_take, List.length_drop]; omega
    have hel2 : (([[], [111], [46], [47], [33]] : List (List UInt8)).getD y.toNat Cel.no).length ≤ 2 := by rw [he]; exact hel
    clear he
    rcases o with _ | ⟨s, bl, b⟩
    all_goals (subst hf)
    all_goals (refine kM Tryd.func17 rfl ?_; intro hfit hfe)
    all_goals ((repeat (first | refine gq_FTI ?_ | (refine ga0A ?_; intro _hq))))
    all_goals ((refine aw_draw mixed T0ok cfU_ok [(112, [5]), (416, [3, 6, 7])] (by rfl) (by kernel_rfl) ?_))
    all_goals ((repeat (first | refine gq_FTI ?_ | (refine ga0A ?_; intro _hq))))
    all_goals ((refine rtA ?_; try rfl))
  · refine ⟨t, by omega, ?_⟩
    by_cases hp0 : p = 0
    · have ht : t.length = 0 := by omega
      have hd : decide ((t.length : Int) > 0) = false := decide_eq_false (by omega)
      subst hp0
      rcases o with _ | ⟨s, bl, b⟩
      all_goals (subst hf)
      all_goals (refine kM Tryd.func17 rfl ?_; intro hfit hfe)
      all_goals ((repeat (first | refine gq_FTI ?_ | (refine ga0A ?_; intro _hq))))
      all_goals ((refine rtA ?_; try rfl))
    · have hb : (p == 0) = false := by simp; omega
      rcases o with _ | ⟨s, bl, b⟩
      all_goals (subst hf)
      all_goals (refine kM Tryd.func17 rfl ?_; intro hfit hfe)
      all_goals ((repeat (first | refine gq_FTI ?_ | (refine ga0A ?_; intro _hq))))
      all_goals ((refine rtA ?_; try rfl))
end Go.Proofs.YtfoobfelgbcknaaDoor
