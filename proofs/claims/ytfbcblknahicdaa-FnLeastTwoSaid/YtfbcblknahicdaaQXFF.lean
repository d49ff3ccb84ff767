/- PG: laid into one text. -/
import Derived.Test.YtfbcblknahicdaaQXFE

namespace Go.Proofs.Ytfbcblknahicdaa
set_option linter.unusedVariables false
set_option linter.unusedSimpArgs false
def bt (w i : Int) : Bool := w.toNat.testBit i.toNat
def gc (g : Gt) (w : Int) : Bool := if g.k = 0 then true else if g.k = 1 then bt w g.a else if g.k = 2 then bt w g.a && bt w g.b else if g.k = 3 then (bt w g.a != bt w g.b) else bt w g.a && (bt w g.b != bt w g.c)
def gm (g : Gt) : Nat := if g.k = 0 then 2 ^ g.a.toNat else if g.k = 1 then 2 ^ g.b.toNat else if g.k = 2 then 2 ^ g.c.toNat else if g.k = 3 then 2 ^ g.a.toNat ^^^ 2 ^ g.b.toNat else 2 ^ g.b.toNat ^^^ 2 ^ g.c.toNat
def gr (g : Gt) (w : Int) : Int := ((if gc g w then w.toNat ^^^ gm g else w.toNat : Nat) : Int)
theorem gr_nn (g : Gt) (w : Int) : 0 ≤ gr g w := Int.natCast_nonneg _
def in8 (n x : Int) : Bool := decide (0 ≤ x) && decide (x < n)
def gokL (n : Int) (g : Gt) : Bool := if g.k = 0 then in8 n g.a && (g.b == 0) && (g.c == 0) else if g.k = 1 ∨ g.k = 3 then in8 n g.a && in8 n g.b && (g.b != g.a) && (g.c == 0) else if g.k = 2 ∨ g.k = 4 then in8 n g.a && in8 n g.b && (g.b != g.a) && in8 n g.c && (g.c != g.a) && (g.c != g.b) else false
def okLn (n : Int) : Bool := decide (n ≥ 1) && decide (n ≤ 8)
def gok (n : Int) (g : Gt) : Bool := okLn n && gokL n g
theorem gok_facts {n : Int} {g : Gt} (h : gok n g = true) : (1 ≤ n ∧ n ≤ 8) ∧ ((g.k = 0 ∧ (0 ≤ g.a ∧ g.a < n) ∧ g.b = 0 ∧ g.c = 0) ∨ ((g.k = 1 ∨ g.k = 3) ∧ (0 ≤ g.a ∧ g.a < n) ∧ (0 ≤ g.b ∧ g.b < n) ∧ g.b ≠ g.a ∧ g.c = 0) ∨ ((g.k = 2 ∨ g.k = 4) ∧ (0 ≤ g.a ∧ g.a < n) ∧ (0 ≤ g.b ∧ g.b < n) ∧ g.b ≠ g.a ∧ (0 ≤ g.c ∧ g.c < n) ∧ g.c ≠ g.a ∧ g.c ≠ g.b)) := by
  simp only [gok, okLn, Bool.and_eq_true, decide_eq_true_eq] at h
  obtain ⟨h1, h2⟩ := h
  refine ⟨h1, ?_⟩
  unfold gokL at h2
  split at h2
  · rename_i hk
    simp only [in8, Bool.and_eq_true, decide_eq_true_eq, beq_iff_eq] at h2
    exact .inl ⟨hk, h2.1.1, h2.1.2, h2.2⟩
  · split at h2
    · rename_i hk
      simp only [in8, Bool.and_eq_true, decide_eq_true_eq, beq_iff_eq, bne_iff_ne] at h2
      exact .inr (.inl ⟨hk, h2.1.1.1, h2.1.1.2, h2.1.2, h2.2⟩)
    · split at h2
      · rename_i hk
        simp only [in8, Bool.and_eq_true, decide_eq_true_eq, beq_iff_eq, bne_iff_ne] at h2
        exact .inr (.inr ⟨hk, h2.1.1.1.1.1, h2.1.1.1.1.2, h2.1.1.1.2, h2.1.1.2, h2.1.2, h2.2⟩)
      · cases h2
theorem gok_bd {n : Int} {g : Gt} (h : gok n g = true) : (1 ≤ n ∧ n ≤ 8) ∧ (0 ≤ g.k ∧ g.k ≤ 4) ∧ (0 ≤ g.a ∧ g.a < n) ∧ (0 ≤ g.b ∧ g.b < n) ∧ (0 ≤ g.c ∧ g.c < n) := by
  have := gok_facts h
  omega
section
variable {g : Gt} {w : Int}
theorem gc0 (h : g.k = 0) : gc g w = true := by unfold gc; rw [h]; rfl
theorem gc1 (h : g.k = 1) : gc g w = bt w g.a := by unfold gc; rw [h]; rfl
theorem gc2 (h : g.k = 2) : gc g w = (bt w g.a && bt w g.b) := by unfold gc; rw [h]; rfl
theorem gc3 (h : g.k = 3) : gc g w = (bt w g.a != bt w g.b) := by unfold gc; rw [h]; rfl
theorem gc4 (h : g.k = 4) : gc g w = (bt w g.a && (bt w g.b != bt w g.c)) := by unfold gc; rw [h]; rfl
theorem gm0 (h : g.k = 0) : gm g = 2 ^ g.a.toNat := by unfold gm; rw [h]; rfl
theorem gm1 (h : g.k = 1) : gm g = 2 ^ g.b.toNat := by unfold gm; rw [h]; rfl
theorem gm2 (h : g.k = 2) : gm g = 2 ^ g.c.toNat := by unfold gm; rw [h]; rfl
theorem gm3 (h : g.k = 3) : gm g = 2 ^ g.a.toNat ^^^ 2 ^ g.b.toNat := by unfold gm; rw [h]; rfl
theorem gm4 (h : g.k = 4) : gm g = 2 ^ g.b.toNat ^^^ 2 ^ g.c.toNat := by unfold gm; rw [h]; rfl
end
theorem gm_lt {n : Int} {g : Gt} (h : gok n g = true) : gm g < 2 ^ n.toNat := by
  obtain ⟨hn, hk, ha, hb, hc⟩ := gok_bd h
  have p : ∀ x : Int, 0 ≤ x ∧ x < n → 2 ^ x.toNat < 2 ^ n.toNat := fun x hx => Nat.pow_lt_pow_right (by omega) (by omega)
  unfold gm
  split
  · exact p _ ha
  · split
    · exact p _ hb
    · split
      · exact p _ hc
      · split
        · exact Nat.xor_lt_two_pow (p _ ha) (p _ hb)
        · exact Nat.xor_lt_two_pow (p _ hb) (p _ hc)
theorem gr_lt {n : Int} {g : Gt} (h : gok n g = true) {w : Int} (hw : 0 ≤ w ∧ w < 2 ^ n.toNat) : 0 ≤ gr g w ∧ gr g w < 2 ^ n.toNat := by
  refine ⟨gr_nn g w, ?_⟩
  have h1 : w.toNat < 2 ^ n.toNat := by
    have : ((w.toNat : Nat) : Int) < ((2 ^ n.toNat : Nat) : Int) := by rw [Int.toNat_of_nonneg hw.1, Int.natCast_pow]; exact hw.2
    exact_mod_cast this
  have h2 : (if gc g w then w.toNat ^^^ gm g else w.toNat) < 2 ^ n.toNat := by
    split
    · exact Nat.xor_lt_two_pow h1 (gm_lt h)
    · exact h1
  unfold gr
  have : (((if gc g w then w.toNat ^^^ gm g else w.toNat : Nat)) : Int) < ((2 ^ n.toNat : Nat) : Int) := Int.ofNat_lt.2 h2
  rwa [Int.natCast_pow] at this
def cr (c : List Gt) (w : Int) : Int := c.foldl (fun w g => gr g w) w
theorem cr_cons (g : Gt) (c : List Gt) (w : Int) : cr (g :: c) w = cr c (gr g w) := rfl
end Go.Proofs.Ytfbcblknahicdaa
