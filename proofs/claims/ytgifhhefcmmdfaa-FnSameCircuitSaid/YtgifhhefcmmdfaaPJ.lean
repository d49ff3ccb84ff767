/- Plain law: gates that are apart commute. -/
import Derived.Test.YtgifhhefcmmdfaaKGV
namespace Go.Proofs.Ytgifhhefcmmdfaa
set_option linter.unusedVariables false
set_option linter.unusedSimpArgs false
theorem mn_or (a b : Int) : (mn a b = a ∧ mx a b = b) ∨ (mn a b = b ∧ mx a b = a) := by
  unfold mn mx
  by_cases h : b < a
  · right; rw [if_pos h, if_neg (by omega)]; exact ⟨rfl, rfl⟩
  · left; rw [if_neg h]
    by_cases h2 : b > a
    · rw [if_pos h2]; exact ⟨rfl, rfl⟩
    · rw [if_neg h2]; exact ⟨rfl, by omega⟩
theorem mn_mem (a b x : Int) : x ∈ [mn a b, mx a b] ↔ x = a ∨ x = b := by
  rcases mn_or a b with ⟨h1, h2⟩ | ⟨h1, h2⟩ <;> rw [h1, h2] <;> simp [or_comm]
/-- What is turned is told. -/
theorem gm_told {n : Int} {g : Gt} (h : gok n g = true) {i : Nat} (hb : (gm g).testBit i = true) : ∃ x ∈ chgL g, x.toNat = i ∧ 0 ≤ x ∧ x < n := by
  obtain ⟨_, hf⟩ := gok_facts h
  rcases hf with ⟨hk, ha, _⟩ | ⟨hk | hk, ha, hb', hne, _⟩ | ⟨hk | hk, ha, hb', hne, hc, hne2, hne3⟩
  · rw [gm0 hk, two_bit] at hb
    exact ⟨g.a, by unfold chgL; rw [if_pos hk]; simp, of_decide_eq_true hb, ha⟩
  · rw [gm1 hk, two_bit] at hb
    exact ⟨g.b, by unfold chgL; rw [if_neg (by omega), if_pos hk]; simp, of_decide_eq_true hb, hb'⟩
  · rw [gm3 hk, Nat.testBit_xor, two_bit, two_bit] at hb
    have e : chgL g = [mn g.a g.b, mx g.a g.b] := by unfold chgL; rw [if_neg (by omega), if_neg (by omega), if_neg (by omega), if_pos hk]
    rw [e]
    by_cases h1 : g.a.toNat = i
    · exact ⟨g.a, (mn_mem _ _ _).2 (.inl rfl), h1, ha⟩
    · rw [decide_eq_false h1, Bool.false_xor] at hb
      exact ⟨g.b, (mn_mem _ _ _).2 (.inr rfl), of_decide_eq_true hb, hb'⟩
  · rw [gm2 hk, two_bit] at hb
    exact ⟨g.c, by unfold chgL; rw [if_neg (by omega), if_neg (by omega), if_pos hk]; simp, of_decide_eq_true hb, hc⟩
  · rw [gm4 hk, Nat.testBit_xor, two_bit, two_bit] at hb
    have e : chgL g = [mn g.b g.c, mx g.b g.c] := by unfold chgL; rw [if_neg (by omega), if_neg (by omega), if_neg (by omega), if_neg (by omega)]
    rw [e]
    by_cases h1 : g.b.toNat = i
    · exact ⟨g.b, (mn_mem _ _ _).2 (.inl rfl), h1, hb'⟩
    · rw [decide_eq_false h1, Bool.false_xor] at hb
      exact ⟨g.c, (mn_mem _ _ _).2 (.inr rfl), of_decide_eq_true hb, hc⟩
theorem lns_in {n : Int} {g : Gt} (h : gok n g = true) : ∀ x ∈ lns g, 0 ≤ x ∧ x < n := by
  obtain ⟨_, hf⟩ := gok_facts h
  intro x hx
  unfold lns at hx
  split at hx
  · simp at hx; omega
  · split at hx
    · simp at hx; omega
    · split at hx
      · simp at hx; omega
      · cases hx
theorem gc_congr {n : Int} {g : Gt} (h : gok n g = true) {w w' : Int} (he : ∀ x ∈ lns g, bt w x = bt w' x) : gc g w = gc g w' := by
  obtain ⟨_, hf⟩ := gok_facts h
  rcases hf with ⟨hk, ha, _⟩ | ⟨hk | hk, ha, hb', hne, _⟩ | ⟨hk | hk, ha, hb', hne, hc, hne2, hne3⟩
  · rw [gc0 hk, gc0 hk]
  · have e : lns g = [g.a, g.b] := by unfold lns; rw [if_neg (by omega), if_pos (by omega)]
    rw [e] at he
    rw [gc1 hk, gc1 hk, he g.a (by simp)]
  · have e : lns g = [g.a, g.b] := by unfold lns; rw [if_neg (by omega), if_pos (by omega)]
    rw [e] at he
    rw [gc3 hk, gc3 hk, he g.a (by simp), he g.b (by simp)]
  · have e : lns g = [g.a, g.b, g.c] := by unfold lns; rw [if_neg (by omega), if_neg (by omega), if_pos (by omega)]
    rw [e] at he
    rw [gc2 hk, gc2 hk, he g.a (by simp), he g.b (by simp)]
  · have e : lns g = [g.a, g.b, g.c] := by unfold lns; rw [if_neg (by omega), if_neg (by omega), if_pos (by omega)]
    rw [e] at he
    rw [gc4 hk, gc4 hk, he g.a (by simp), he g.b (by simp), he g.c (by simp)]
theorem tou_f {g h : Gt} (ht : touB g h = false) : ∀ x ∈ chgL g, ∀ y ∈ lns h, x ≠ y := by
  intro x hx y hy e
  subst e
  have : touB g h = true := by
    unfold touB anyB
    rw [List.any_eq_true]
    exact ⟨x, hx, by unfold hasB; rw [List.any_eq_true]; exact ⟨x, hy, by simp⟩⟩
  rw [this] at ht; cases ht
/-- A gate that touches no line of another one leaves what it looks at. -/
theorem gc_keep {n : Int} {g h : Gt} (hg : gok n g = true) (hh : gok n h = true) (ht : touB g h = false) (w : Int) : gc h (gr g w) = gc h w := by
  refine gc_congr hh fun y hy => ?_
  rw [gr_bt]
  have hf : (gm g).testBit y.toNat = false := by
    cases hb : (gm g).testBit y.toNat with
    | false => rfl
    | true =>
      obtain ⟨x, hx, he, h0, _⟩ := gm_told hg hb
      have hy0 := lns_in hh y hy
      exact absurd (show x = y by omega) (tou_f ht x hx y hy)
  rw [hf, Bool.and_false, Bool.xor_false]
theorem apa_t {a b : Gt} (h : apaB a b = true) : touB a b = false ∧ touB b a = false := by
  unfold apaB at h
  simp only [Bool.and_eq_true, Bool.not_eq_true'] at h
  exact h
theorem apa_comm {n : Int} {a b : Gt} (ha : gok n a = true) (hb : gok n b = true) (h : apaB a b = true) (w : Int) : gr a (gr b w) = gr b (gr a w) := by
  obtain ⟨h1, h2⟩ := apa_t h
  have e1 := gc_keep ha hb h1 w
  have e2 := gc_keep hb ha h2 w
  have e : (gr a (gr b w)).toNat = (gr b (gr a w)).toNat := by
    apply Nat.eq_of_testBit_eq
    intro i
    rw [gr_bit, gr_bit, gr_bit, gr_bit, e1, e2]
    cases gc a w <;> cases gc b w <;> cases w.toNat.testBit i <;> cases (gm a).testBit i <;> cases (gm b).testBit i <;> rfl
  have := gr_nn a (gr b w)
  have := gr_nn b (gr a w)
  omega
theorem apM_symm (n : Int) (a b : Gt) : apM n b a = apM n a b := by
  unfold apM apaB
  cases gok n a <;> cases gok n b <;> cases touB a b <;> cases touB b a <;> rfl
end Go.Proofs.Ytgifhhefcmmdfaa
