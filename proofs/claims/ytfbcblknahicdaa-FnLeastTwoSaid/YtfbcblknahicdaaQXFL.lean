/- KGH: laid into one text. -/
import Derived.Test.YtfbcblknahicdaaQXFJ

namespace Go.Proofs.Ytfbcblknahicdaa
set_option linter.unusedVariables false
set_option linter.unusedSimpArgs false
set_option maxRecDepth 20000
open Go.RowKit
attribute [local irreducible] runA runX AW
theorem gq_KGH {H G : Prop} (k : H) (h : Hid H → G := by (intro hh; repeat1' (first | (first | (refine nxA ?_; (first | fail | ((first | (refine z_op (by rfl) ?_; first | refine z_ok ?_ ?_ | refine z_ex ?_ (by first | exact zL1 | ((first | fail); exact zWW) | exact zL2 | exact rw_c Int rfl | exact zL3 | fail) ?_) | ((first | refine q_callE wsT wsZ (by rfl) ?_ | refine q_callVE wsT (by rfl) (by rfl) ?_); refine ⟨_, _, _, (by first | assumption | exact k_l1In _ _ _ | exact k_linesS _ | exact k_has _ _ (by omega) | exact k_wvS2 _ _ | exact k_bitS _ _ (by omega) | exact k_turnS _ _ (by omega)), _, by rfl, ?_, ?_⟩)); focus (first | exact trivial | fail | exact zQZ)) | fail)) | refine swA ?_) | refine awA ?_); exact hh.out)) : G := h ⟨k⟩
theorem gs_KGH {H G : Prop} (k : H) (h : Hid H → G := by (intro hh; repeat1' (first | (refine nxA ?_; (first | fail | ((first | (refine z_op (by rfl) ?_; first | refine z_ok ?_ ?_ | refine z_ex ?_ (by first | exact zL1 | ((first | fail); exact zWW) | exact zL2 | exact rw_c Int rfl | exact zL3 | fail) ?_) | ((first | refine q_callE wsT wsZ (by rfl) ?_ | refine q_callVE wsT (by rfl) (by rfl) ?_); refine ⟨_, _, _, (by first | assumption | exact k_l1In _ _ _ | exact k_linesS _ | exact k_has _ _ (by omega) | exact k_wvS2 _ _ | exact k_bitS _ _ (by omega) | exact k_turnS _ _ (by omega)), _, by rfl, ?_, ?_⟩)); focus (first | exact trivial | fail | exact zQZ)) | fail)) | refine swA ?_); exact hh.out)) : G := h ⟨k⟩
theorem k_linesS (g : Gt) : Kon Try.prog 37 [gV g] [] (slA 0 0 (lns g)) [iRow (lns g)] [] := by
  obtain ⟨k, a, b, c⟩ := g
  by_cases h0 : k = 0
  · subst h0
    (refine kM Try.func37 rfl ?_; intro hfit hfe)
    (repeat (first | refine gq_KGH ?_ | (refine ga0A ?_; intro _hq)))
    (refine rtA ?_; try rfl)
  by_cases h1 : k = 1
  · subst h1
    (refine kM Try.func37 rfl ?_; intro hfit hfe)
    (repeat (first | refine gq_KGH ?_ | (refine ga0A ?_; intro _hq)))
    (refine rtA ?_; try rfl)
  by_cases h2 : k = 2
  · subst h2
    (refine kM Try.func37 rfl ?_; intro hfit hfe)
    (repeat (first | refine gq_KGH ?_ | (refine ga0A ?_; intro _hq)))
    (refine rtA ?_; try rfl)
  by_cases h3 : k = 3
  · subst h3
    (refine kM Try.func37 rfl ?_; intro hfit hfe)
    (repeat (first | refine gq_KGH ?_ | (refine ga0A ?_; intro _hq)))
    (refine rtA ?_; try rfl)
  by_cases h4 : k = 4
  · subst h4
    (refine kM Try.func37 rfl ?_; intro hfit hfe)
    (repeat (first | refine gq_KGH ?_ | (refine ga0A ?_; intro _hq)))
    (refine rtA ?_; try rfl)
  have e : lns ⟨k, a, b, c⟩ = [] := by simp [lns, h0, h1, h2, h3, h4]
  have e0 : (k == 0) = false := by simpa using h0
  have e1 : (k == 1) = false := by simpa using h1
  have e2 : (k == 2) = false := by simpa using h2
  have e3 : (k == 3) = false := by simpa using h3
  have e4 : (k == 4) = false := by simpa using h4
  rw [e]
  clear e h0 h1 h2 h3 h4
  (refine kM Try.func37 rfl ?_; intro hfit hfe)
  (repeat (first | refine gq_KGH ?_ | (refine ga0A ?_; intro _hq)))
  (refine rtA ?_; try rfl)
def hasB (l : List Int) (x : Int) : Bool := l.any (· == x)
theorem has_drop {l : List Int} {x : Int} {i : Nat} (hi : i < l.length) : hasB (l.drop i) x = ((l.getD i 0 == x) || hasB (l.drop (i + 1)) x) := by
  have e : l.getD i 0 = l[i] := by simp [List.getD_eq_getElem?_getD, hi]
  rw [List.drop_eq_getElem_cons hi, e]; rfl
theorem k_has (l : List Int) (x : Int) (h : l.length ≤ 100000000) : Kon Try.prog 22 [roA l, vI x] [] (vB (hasB l x)) [] [] := by
  (refine kM Try.func22 rfl ?_; intro hfit hfe)
  (repeat (first | refine gq_KGH ?_ | (refine ga0A ?_; intro _hq)))
  (refine aw_rd [0, 1] [] (fun i : Nat => [(5, vI i)]) (fun _ => []) (fun i => i ≤ l.length ∧ hasB (l.drop i) x = hasB l x) (fun i => l.length - i) 0 (by rfl) (by rfl) ?_ (by rfl) zHE zHE ?_)
  · exact ⟨Nat.zero_le _, by rw [List.drop_zero]⟩
  rintro i ⟨hi, hz⟩
  rcases Nat.lt_or_ge i l.length with h6 | h6
  · have hd : decide ((i : Int) < (l.length : Int)) = true := by simpa using h6
    have e := has_drop (x := x) h6
    rw [hz] at e
    cases hb : (l.getD i 0 == x) with
    | true =>
      have hb2 : (l.getD (i : Int).toNat (Cel.no : Int) == x) = true := hb
      rw [hb, Bool.true_or] at e
      rw [e]
      clear e hz
      (repeat (first | refine gq_KGH ?_ | (refine ga0A ?_; intro _hq)))
      (refine rtA ?_; try rfl)
    | false =>
      have hb2 : (l.getD (i : Int).toNat (Cel.no : Int) == x) = false := hb
      rw [hb, Bool.false_or] at e
      have hinv : i + 1 ≤ l.length ∧ hasB (l.drop (i + 1)) x = hasB l x := ⟨h6, e.symm⟩
      clear e hz
      (repeat (first | refine gq_KGH ?_ | (refine ga0A ?_; intro _hq)))
      exact ⟨i + 1, hinv, ⟨by rfl, zHE, zHE⟩, (by first | omega | (dsimp only; omega))⟩
  · have hd : decide ((i : Int) < (l.length : Int)) = false := by simp; omega
    rw [List.drop_of_length_le h6] at hz
    rw [← hz]
    clear hz
    (repeat (first | refine gq_KGH ?_ | (refine ga0A ?_; intro _hq)))
    (refine rtA ?_; try rfl)
theorem k_wvS2 (n w : Int) : Kon Try.prog 32 [vI n, vI w] [] (vB (wvB n w)) [] [] := by
  (refine kM Try.func32 rfl ?_; intro hfit hfe)
  unfold wvB
  cases h1 : btw n 1 8 with
  | false => (repeat (first | refine gq_KGH ?_ | (refine ga0A ?_; intro _hq))); (refine rtA ?_; try rfl)
  | true =>
    have h1' := btw_t h1
    (repeat (first | refine gq_KGH ?_ | (refine ga0A ?_; intro _hq)))
    (subst_vars; (refine rtA ?_; try rfl))
    rw [Int.one_mul]; rfl
theorem k_bitS (w a : Int) (h : 0 ≤ w ∧ w < 256 ∧ 0 ≤ a ∧ a ≤ 60) : Kon Try.prog 33 [vI w, vI a] [] (vI (if bt w a then 1 else 0)) [] [] := by
  rw [← sb_mod h.1]
  (refine kM Try.func33 rfl ?_; intro hfit hfe)
  (repeat (first | refine gq_KGH ?_ | (refine ga0A ?_; intro _hq)))
  (refine rtA ?_; try rfl)
theorem k_turnS (w a : Int) (h : 0 ≤ w ∧ w < 256 ∧ 0 ≤ a ∧ a ≤ 7) : Kon Try.prog 34 [vI w, vI a] [] (vI ((w.toNat ^^^ 2 ^ a.toNat : Nat) : Int)) [] [] := by
  have hp := pow_7 (n := a) (by omega)
  have e := turn_eq (w := w) (a := a) ⟨h.1, h.2.1⟩ (by omega)
  rw [← e]
  have hK := k_bitS w a (by omega)
  cases hb : bt w a <;> rw [hb] at hK <;> clear e
  all_goals
    (refine kM Try.func34 rfl ?_; intro hfit hfe)
    (repeat (first | refine gq_KGH ?_ | (refine ga0A ?_; intro _hq)))
    (refine rtA ?_; try rfl)
def gsL (n : Int) (L : List Int) : Nat → Nat → Bool
  | 0, _ => true
  | f + 1, i => btw (L.getD i 0) 0 (n - 1) && (!(hasB (L.take i) (L.getD i 0)) && gsL n L f (i + 1))
def gvS (n : Int) (g : Gt) : Bool := gsL n (lns g) (lns g).length 0 && (btw n 1 8 && (decide ((lns g).length > 0) && ((decide ((lns g).length > 1) || g.b == 0) && (decide ((lns g).length > 2) || g.c == 0))))
theorem beqC (a b : Int) : (a == b) = (b == a) := by rw [Bool.eq_iff_iff, beq_iff_eq, beq_iff_eq]; exact eq_comm
theorem gvS_eq (n : Int) (g : Gt) : gvS n g = gok n g := by
  cases hk : btw g.k 0 4 with
  | false =>
    have h := btw_f hk
    have e : lns g = [] := by simp [lns, show ¬ g.k = 0 by omega, show ¬ g.k = 1 by omega, show ¬ g.k = 2 by omega, show ¬ g.k = 3 by omega, show ¬ g.k = 4 by omega]
    unfold gvS
    rw [e, gok_k hk]
    simp
  | true =>
    have hk' := btw_t hk
    cases hn : btw n 1 8 with
    | false => rw [gok_n hn]; unfold gvS; rw [hn]; simp
    | true =>
      rw [gok_nt hk' hn]
      have h' : g.k = 0 ∨ g.k = 1 ∨ g.k = 2 ∨ g.k = 3 ∨ g.k = 4 := by omega
      unfold gvS ntL ntR lns
      rw [hn]
      rcases h' with h' | h' | h' | h' | h' <;> simp [h', gvL1, gvL2, gvL3, z0, gsL, btw8, hasB, Bool.and_assoc, bne, beqC g.a g.b, beqC g.a g.c, beqC g.b g.c]
set_option maxHeartbeats 1000000 in
theorem k_gvSa (n : Int) (g : Gt) (hr : -9223372036854775807 ≤ n ∧ n ≤ 9223372036854775807) : Kon Try.prog 24 [vI n, gV g] [] (vB (gok n g)) [] [] := by
  rw [← gvS_eq]
  have hK := k_linesS g
  have hL : (lns g).length ≤ 3 := by unfold lns; split <;> (try split) <;> (try split) <;> simp
  unfold gvS
  obtain ⟨L, eL⟩ : ∃ L, L = lns g := ⟨_, rfl⟩
  rw [← eL] at hK hL ⊢
  obtain ⟨k, a, b, c⟩ := g
  clear eL
  dsimp only
  (refine kM Try.func24 rfl ?_; intro hfit hfe)
  (repeat refine gcA ?_)
  (repeat (first | refine gs_KGH ?_ | (refine ga0A ?_; intro _hq)))
  (repeat refine gcA ?_)
  (repeat (first | refine gs_KGH ?_ | (refine ga0A ?_; intro _hq)))
  (refine aw_freeze 128 (by rfl) (by rfl) ?_; refine aw_slot 5 1 (by rfl) (by rfl) (by first | exact trivial | omega | exact cvB (fun w => rfl) | ((repeat (any_goals (first | exact rfl | exact cV_len _ | exact cV_ln rfl (by omega) | exact Cel.pos | omega | exact trivial | refine And.intro ?_ ?_))); first | done | fail) | (simp [*]; first | done | fail)) ?_)
  (repeat (first | refine gq_KGH ?_ | (refine ga0A ?_; intro _hq)))
  (refine aw_rd [0, 3, 5] [48] (fun i : Nat => [(6, vI i)]) (fun _ => []) (fun i => i ≤ L.length ∧ gsL n L (L.length - i) i = gsL n L L.length 0) (fun i => L.length - i) 0 (by rfl) (by rfl) ?_ (by rfl) zHE zHE ?_)
  · exact ⟨Nat.zero_le _, rfl⟩
  rintro i ⟨hi, hz⟩
  rcases Nat.lt_or_ge i L.length with h6 | h6
  · have hd : decide ((i : Int) < (L.length : Int)) = true := by simpa using h6
    rw [show L.length - i = (L.length - (i + 1)) + 1 by omega, gsL] at hz
    replace hz : (btw (L.getD (i : Int).toNat (Cel.no : Int)) 0 (n - 1) && (!(hasB (L.take (i : Int).toNat) (L.getD (i : Int).toNat (Cel.no : Int))) && gsL n L (L.length - (i + 1)) (i + 1))) = gsL n L L.length 0 := hz
    cases hb : btw (L.getD (i : Int).toNat (Cel.no : Int)) 0 (n - 1) with
    | false =>
      rw [hb, Bool.false_and] at hz
      rw [← hz, Bool.false_and]
      clear hz
      (repeat (first | refine gq_KGH ?_ | (refine ga0A ?_; intro _hq) | refine gdA ?_))
      (refine rtA ?_; try rfl)
    | true =>
      rw [hb, Bool.true_and] at hz
      have hK2 : Kon Try.prog 22 [roA (L.take (i : Int).toNat), vI (L.getD (i : Int).toNat (Cel.no : Int))] [] (vB (hasB (L.take (i : Int).toNat) (L.getD (i : Int).toNat (Cel.no : Int)))) [] [] := k_has _ _ (by simp; omega)
      cases hv : hasB (L.take (i : Int).toNat) (L.getD (i : Int).toNat (Cel.no : Int)) with
      | true =>
        rw [hv, Bool.not_true, Bool.false_and] at hz
        rw [← hz, Bool.false_and]
        clear hz
        (repeat (first | refine gq_KGH ?_ | (refine ga0A ?_; intro _hq) | refine gdA ?_))
        (refine rtA ?_; try rfl)
      | false =>
        rw [hv, Bool.not_false, Bool.true_and] at hz
        have hinv : i + 1 ≤ L.length ∧ gsL n L (L.length - (i + 1)) (i + 1) = gsL n L L.length 0 := ⟨h6, hz⟩
        clear hz
        (repeat (first | refine gq_KGH ?_ | (refine ga0A ?_; intro _hq) | refine gdA ?_))
        exact ⟨i + 1, hinv, ⟨by rfl, zHE, zHE⟩, (by first | omega | (dsimp only; omega))⟩
  · have hd : decide ((i : Int) < (L.length : Int)) = false := by simp; omega
    have e0 : L.length - i = 0 := by omega
    rw [e0, gsL] at hz
    rw [← hz, Bool.true_and]
    clear hz e0
    cases hn : btw n 1 8 with
    | false => 
      (repeat (first | refine gq_KGH ?_ | (refine ga0A ?_; intro _hq) | refine gdA ?_))
      (refine rtA ?_; try rfl)
    | true =>
      rw [Bool.true_and]
      cases h1 : decide ((L.length : Int) > 0) with
      | false =>
        have e : decide (L.length > 0) = false := by simpa using h1
        rw [e, Bool.false_and]
        (repeat (first | refine gq_KGH ?_ | (refine ga0A ?_; intro _hq) | refine gdA ?_))
        (refine rtA ?_; try rfl)
      | true =>
        have e : decide (L.length > 0) = true := by simpa using h1
        rw [e, Bool.true_and]
        clear e
        have e2 : decide ((L.length : Int) > 1) = decide (L.length > 1) := decide_eq_decide.2 (by omega)
        have e3 : decide ((L.length : Int) > 2) = decide (L.length > 2) := decide_eq_decide.2 (by omega)
        rw [← e2, ← e3]
        clear e2 e3
        cases h2 : decide ((L.length : Int) > 1) <;> cases h3 : decide ((L.length : Int) > 2) <;> cases h4 : (b == 0)
        all_goals
          (repeat (first | refine gq_KGH ?_ | (refine ga0A ?_; intro _hq) | refine gdA ?_))
          (refine rtA ?_; try rfl)
end Go.Proofs.Ytfbcblknahicdaa
