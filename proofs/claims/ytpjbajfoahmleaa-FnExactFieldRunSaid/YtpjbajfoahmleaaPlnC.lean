/- Plain laws of fields: the reference's step is the program's. No program is named. -/
import Derived.Test.YtpjbajfoahmleaaKFE
namespace Go.Proofs.Ytpjbajfoahmleaa
set_option linter.unusedVariables false
set_option linter.unusedSimpArgs false
theorem emod_plus (x s : Int) : (x + s) % s = x % s := by
  have := Int.add_mul_emod_self_right x 1 s
  rwa [Int.one_mul] at this
theorem cq_cells (s x y : Int) : cq s x y 0 = (y % s * s + x % s).toNat ∧ cq s x y 1 = (y % s * s + (x % s + 1) % s).toNat ∧ cq s x y 2 = ((y % s + 1) % s * s + x % s).toNat ∧ cq s x y 3 = ((y % s + 1) % s * s + (x % s + 1) % s).toNat := by
  have h : ∀ z : Int, (z % s + 1) % s = (z + 1) % s := fun z => Int.emod_add_emod z s 1
  refine ⟨?_, ?_, ?_, ?_⟩ <;> simp only [cq, inI, corX, corY, emod_plus, h, Int.add_zero]
theorem sq_get {n t i j : Nat} {l r : List Bool} (hn : n = 2 ∨ n = 4 ∨ n = 6 ∨ n = 8) (ht : t = 0 ∨ t = 1) (hi : i < n / 2) (hj : j < n / 2) (hr : r.length = n * n) {k : Nat} (hk : k < n * n) :
    (sSq (n : Int) ((t : Int) + 2 * (j : Int)) ((t : Int) + 2 * (i : Int)) l r).getD k false = if i = li n t k ∧ j = lj n t k then G4n l n t k else r.getD k false := by
  have h1 := allUp_at (chkF_of hn ht) hk
  simp only [Bool.and_eq_true, decide_eq_true_eq, beq_iff_eq] at h1
  obtain ⟨⟨⟨⟨⟨a1, a2⟩, a3⟩, a4⟩, a5⟩, a6⟩ := h1
  have key : ∀ p, p < 4 → ((k = cN n t i j p) ↔ (i = li n t k ∧ j = lj n t k ∧ p = lp n t k)) := by
    intro p hp
    have := allUp_at (allUp_at (allUp_at a6 hi) hj) hp
    rw [beq_iff_eq, Bool.eq_iff_iff] at this
    simp only [Bool.and_eq_true, beq_iff_eq] at this
    constructor
    · intro h; have := this.1 h.symm; exact ⟨this.1.1, this.1.2, this.2⟩
    · intro h; exact (this.2 ⟨⟨h.1, h.2.1⟩, h.2.2⟩).symm
  have hb : ∀ p, cN n t i j p < r.length := fun p => cq_lt (s := (n : Int)) (by omega) (by rw [hr]; simp)
  obtain ⟨e0, e1, e2, e3⟩ := cq_cells (n : Int) ((t : Int) + 2 * (j : Int)) ((t : Int) + 2 * (i : Int))
  unfold sSq set4
  rw [← e0, ← e1, ← e2, ← e3]
  have q0 : cq (n : Int) ((t : Int) + 2 * (j : Int)) ((t : Int) + 2 * (i : Int)) 0 = cN n t i j 0 := rfl
  have q1 : cq (n : Int) ((t : Int) + 2 * (j : Int)) ((t : Int) + 2 * (i : Int)) 1 = cN n t i j 1 := rfl
  have q2 : cq (n : Int) ((t : Int) + 2 * (j : Int)) ((t : Int) + 2 * (i : Int)) 2 = cN n t i j 2 := rfl
  have q3 : cq (n : Int) ((t : Int) + 2 * (j : Int)) ((t : Int) + 2 * (i : Int)) 3 = cN n t i j 3 := rfl
  rw [q0, q1, q2, q3]
  rw [getD_set _ _ _ _ (by simpa using hb 3), getD_set _ _ _ _ (by simpa using hb 2), getD_set _ _ _ _ (by simpa using hb 1), getD_set _ _ _ _ (hb 0)]
  by_cases hc : i = li n t k ∧ j = lj n t k
  · obtain ⟨rfl, rfl⟩ := hc
    have h4 : lp n t k = 0 ∨ lp n t k = 1 ∨ lp n t k = 2 ∨ lp n t k = 3 := by omega
    have k3 := key 3 (by omega)
    have k2 := key 2 (by omega)
    have k1 := key 1 (by omega)
    have k0 := key 0 (by omega)
    simp only [true_and] at k0 k1 k2 k3
    simp only [k0, k1, k2, k3, and_self, if_true]
    unfold G4n nb
    rcases h4 with h | h | h | h <;> simp [h]
  · have no : ∀ p, p < 4 → ¬ k = cN n t i j p := fun p hp h => hc ⟨((key p hp).1 h).1, ((key p hp).1 h).2.1⟩
    rw [if_neg (no 3 (by omega)), if_neg (no 2 (by omega)), if_neg (no 1 (by omega)), if_neg (no 0 (by omega)), if_neg hc]
theorem sIn_get {n t i : Nat} {l r : List Bool} (hn : n = 2 ∨ n = 4 ∨ n = 6 ∨ n = 8) (ht : t = 0 ∨ t = 1) (hi : i < n / 2) (hr : r.length = n * n) {k : Nat} (hk : k < n * n) : ∀ j : Nat, j ≤ n / 2 →
    (sIn (n : Int) l (t : Int) ((t : Int) + 2 * (i : Int)) j r).getD k false = if i = li n t k ∧ lj n t k < j then G4n l n t k else r.getD k false
  | 0, _ => by simp [sIn]
  | j + 1, hj => by
    rw [sIn, sq_get hn ht hi (by omega) (by rw [sIn_len, hr]) hk, sIn_get hn ht hi hr hk j (by omega)]
    by_cases h1 : i = li n t k
    · by_cases h2 : j = lj n t k
      · rw [if_pos ⟨h1, h2⟩, if_pos ⟨h1, by omega⟩]
      · rw [if_neg (fun h => h2 h.2)]
        by_cases h3 : lj n t k < j
        · rw [if_pos ⟨h1, h3⟩, if_pos ⟨h1, by omega⟩]
        · rw [if_neg (fun h => h3 h.2), if_neg (fun h => by have := h.2; omega)]
    · rw [if_neg (fun h => h1 h.1), if_neg (fun h => h1 h.1), if_neg (fun h => h1 h.1)]
theorem sOut_get {n t : Nat} {l r : List Bool} (hn : n = 2 ∨ n = 4 ∨ n = 6 ∨ n = 8) (ht : t = 0 ∨ t = 1) (hr : r.length = n * n) {k : Nat} (hk : k < n * n) : ∀ i : Nat, i ≤ n / 2 →
    (sOut (n : Int) l (t : Int) (n / 2) i r).getD k false = if li n t k < i then G4n l n t k else r.getD k false
  | 0, _ => by simp [sOut]
  | i + 1, hi => by
    have h1 := allUp_at (chkF_of hn ht) hk
    simp only [Bool.and_eq_true, decide_eq_true_eq, beq_iff_eq] at h1
    have a2 := h1.1.1.1.1.2
    rw [sOut, sIn_get hn ht (by omega) (by rw [sOut_len, hr]) hk _ (Nat.le_refl _), sOut_get hn ht hr hk i (by omega)]
    by_cases h2 : i = li n t k
    · rw [if_pos ⟨h2, a2⟩, if_pos (by omega)]
    · rw [if_neg (fun h => h2 h.1)]
      by_cases h3 : li n t k < i
      · rw [if_pos h3, if_pos (by omega)]
      · rw [if_neg h3, if_neg (by omega)]
/-- The reference's step of a field is the program's. -/
theorem sOut_step {f : Fld} (h : f.shp) : sOut f.s f.l (fst0 f.b) (f.s / 2).toNat (f.s / 2).toNat f.l = f.step.l := by
  obtain ⟨n, e1, e2, e3⟩ := shp_nat h
  have l3 : f.step.l.length = n * n := shp_len2 (Fld.shp_step h) e1
  refine ext_getD (by rw [sOut_len, l3, e3]) fun k hk => ?_
  rw [sOut_len, e3] at hk
  have ht := tB_01 f.b
  have e4 : (f.s / 2).toNat = n / 2 := by omega
  have e5 : fst0 f.b = ((tB f.b : Nat) : Int) := by cases f.b <;> rfl
  have h1 := allUp_at (chkF_of e2 ht) hk
  simp only [Bool.and_eq_true, decide_eq_true_eq, beq_iff_eq] at h1
  rw [e4, e5, step_get h e1 e3 hk, e1, sOut_get e2 ht e3 hk _ (Nat.le_refl _), if_pos h1.1.1.1.1.1]
end Go.Proofs.Ytpjbajfoahmleaa
