/- Plain laws of fields: turning keeps the balls' number. -/
import Derived.Test.YtpjbajfoahmleaaFnK
namespace Go.Proofs.Ytpjbajfoahmleaa
set_option linter.unusedVariables false
theorem mvd_false {s : Int} {l : List Bool} {i : Nat} (hs : 2 ≤ s ∧ s ≤ 8) (h2 : s % 2 = 0) (hl : (l.length : Int) = s * s) (hi : i < l.length) : (mvd s l i).getD (movT s i) false = false := by
  cases h : (mvd s l i).getD (movT s i) false with
  | false => rfl
  | true =>
    obtain ⟨j, h6, h7⟩ := mvd_true (k := movT s i) i h
    have := movT_inj hs h2 (by omega) (by omega) h7
    omega
theorem mvd_cnt {s : Int} {l : List Bool} (hs : 2 ≤ s ∧ s ≤ 8) (h2 : s % 2 = 0) (hl : (l.length : Int) = s * s) : ∀ i, i ≤ l.length → cntB (mvd s l i) = cntB (l.take i)
  | 0, _ => by simp [mvd, cntB]
  | i + 1, hi => by
    have ih := mvd_cnt hs h2 hl i (by omega)
    have hlt : movT s i < (mvd s l i).length := by
      rw [mvd_len]
      have := (movT_eq hs h2 (i := i) (by omega)).2.1
      omega
    have hf := mvd_false hs h2 hl (i := i) (by omega)
    rw [cntB_succ (by omega), ← ih, mvd_succ]
    by_cases h : l.getD i false = true
    · rw [if_pos h, if_pos h]
      have hg : (mvd s l i)[movT s i] = false := by
        rw [List.getD_eq_getElem?_getD, List.getElem?_eq_getElem hlt] at hf
        exact hf
      unfold cntB
      rw [List.countP_set hlt, hg]
      simp
    · rw [if_neg h, if_neg h]; rfl
theorem Fld.ok_turn {f : Fld} (h : f.ok = true) : f.turn.ok = true := by
  obtain ⟨s, l, b⟩ := f
  obtain ⟨hs, hs2, hl, _, hc⟩ := Fld.ok_facts h
  have e := mvd_cnt hs hs2 hl l.length (Nat.le_refl _)
  rw [List.take_length] at e
  show (btw s 2 8 && (s % 2 == 0) && (((mvd s l l.length).length : Int) == s * s) && decide (cntB (mvd s l l.length) ≤ 12)) = true
  rw [mvd_len, e]
  exact h
theorem turn_get {s : Int} {l : List Bool} {i : Nat} (hs : 2 ≤ s ∧ s ≤ 8) (h2 : s % 2 = 0) (hl : (l.length : Int) = s * s) (hi : i < l.length) : ∀ n, i < n → n ≤ l.length → (mvd s l n).getD (movT s i) false = l.getD i false
  | 0, h, _ => by omega
  | n + 1, h, hn => by
    have hlt : movT s i < (mvd s l n).length := by
      rw [mvd_len]
      have := (movT_eq hs h2 (i := i) (by omega)).2.1
      omega
    rw [mvd_step hs h2 hl (by omega)]
    by_cases he : n = i
    · subst he
      rw [List.getD_eq_getElem?_getD, List.getElem?_set_self hlt]; rfl
    · have hne : movT s n ≠ movT s i := fun h => he (movT_inj hs h2 (by omega) (by omega) h)
      rw [List.getD_eq_getElem?_getD, List.getElem?_set_ne hne, ← List.getD_eq_getElem?_getD]
      exact turn_get hs h2 hl hi n (by omega) (by omega)
theorem movT_rc {s : Int} {i : Nat} (hs : 2 ≤ s ∧ s ≤ 8) (h2 : s % 2 = 0) (hi : (i : Int) < s * s) : (movT s i : Int) / s = (i : Int) % s ∧ (movT s i : Int) % s = s - 1 - (i : Int) / s := by
  have h := movT_eq hs h2 hi
  have h4 : 0 ≤ (i : Int) / s ∧ (i : Int) / s < s := ⟨Int.ediv_nonneg (by omega) (by omega), Int.ediv_lt_of_lt_mul (by omega) hi⟩
  have e : (movT s i : Int) = (s - 1 - (i : Int) / s) + (i : Int) % s * s := by rw [← h.1, Int.toNat_of_nonneg h.2.2.1]; omega
  rw [e, Int.add_mul_ediv_right _ _ (by omega), Int.add_mul_emod_self_right, Int.ediv_eq_zero_of_lt (a := s - 1 - (i : Int) / s) (by omega) (by omega), Int.emod_eq_of_lt (a := s - 1 - (i : Int) / s) (by omega) (by omega)]
  exact ⟨by omega, rfl⟩
theorem movT_four {s : Int} {i : Nat} (hs : 2 ≤ s ∧ s ≤ 8) (h2 : s % 2 = 0) (hi : (i : Int) < s * s) : movT s (movT s (movT s (movT s i))) = i := by
  have a1 := movT_rc hs h2 hi
  have l1 := (movT_eq hs h2 hi).2.1
  have a2 := movT_rc hs h2 l1
  have l2 := (movT_eq hs h2 l1).2.1
  have a3 := movT_rc hs h2 l2
  have l3 := (movT_eq hs h2 l2).2.1
  have a4 := movT_rc hs h2 l3
  have d1 := Int.emod_add_mul_ediv (movT s (movT s (movT s (movT s i))) : Int) s
  have d2 := Int.emod_add_mul_ediv (i : Int) s
  rw [a4.1, a4.2, a3.1, a3.2, a2.1, a2.2, a1.1, a1.2] at d1
  have e : s - 1 - (s - 1 - (i : Int) % s) = (i : Int) % s := by omega
  have e2 : s - 1 - (s - 1 - (i : Int) / s) = (i : Int) / s := by omega
  simp only [e, e2] at d1
  omega
theorem turn_four {f : Fld} (h : f.ok = true) : f.turn.turn.turn.turn = f := by
  obtain ⟨s, l, b⟩ := f
  obtain ⟨hs, hs2, hl, _, _⟩ := Fld.ok_facts h
  have key : ∀ m : List Bool, (m.length : Int) = s * s → ∀ i, i < m.length → (mvd s m m.length).getD (movT s i) false = m.getD i false ∧ movT s i < m.length ∧ ((mvd s m m.length).length : Int) = s * s ∧ (mvd s m m.length).length = m.length := fun m hm i hi =>
    ⟨turn_get hs hs2 hm hi m.length hi (Nat.le_refl _), by have := (movT_eq hs hs2 (i := i) (by omega)).2.1; omega, by rw [mvd_len]; exact hm, mvd_len _ _ _⟩
  show (⟨s, _, b⟩ : Fld) = ⟨s, l, b⟩
  congr 1
  apply List.ext_getElem (by simp only [Fld.turn, mvd_len])
  intro k h1 h2
  obtain ⟨g1, g2, g3, g4⟩ := key l hl k h2
  obtain ⟨p1, p2, p3, p4⟩ := key _ g3 (movT s k) (by omega)
  obtain ⟨q1, q2, q3, q4⟩ := key _ p3 (movT s (movT s k)) (by omega)
  obtain ⟨r1, r2, r3, r4⟩ := key _ q3 (movT s (movT s (movT s k))) (by omega)
  rw [movT_four hs hs2 (by omega), q1, p1, g1] at r1
  simp only [List.getD_eq_getElem?_getD, List.getElem?_eq_getElem h2] at r1
  have h1' : k < (mvd s (mvd s (mvd s (mvd s l l.length) (mvd s l l.length).length) (mvd s (mvd s l l.length) (mvd s l l.length).length).length) (mvd s (mvd s (mvd s l l.length) (mvd s l l.length).length) (mvd s (mvd s l l.length) (mvd s l l.length).length).length).length).length := h1
  rw [List.getElem?_eq_getElem h1'] at r1
  exact r1
end Go.Proofs.Ytpjbajfoahmleaa
