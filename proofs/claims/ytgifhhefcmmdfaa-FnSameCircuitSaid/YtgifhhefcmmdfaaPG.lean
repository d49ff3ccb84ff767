/- Plain laws of gates and circuits: what a gate makes of a word, there and back. -/
import Derived.Test.YtgifhhefcmmdfaaAbsZ
namespace Go.Proofs.Ytgifhhefcmmdfaa
set_option linter.unusedVariables false
set_option linter.unusedSimpArgs false
/-- A bit of a word. -/
def bt (w i : Int) : Bool := w.toNat.testBit i.toNat
/-- Does a gate change a word? Which lines? -/
def gc (g : Gt) (w : Int) : Bool := if g.k = 0 then true else if g.k = 1 then bt w g.a else if g.k = 2 then bt w g.a && bt w g.b else if g.k = 3 then (bt w g.a != bt w g.b) else bt w g.a && (bt w g.b != bt w g.c)
def gm (g : Gt) : Nat := if g.k = 0 then 2 ^ g.a.toNat else if g.k = 1 then 2 ^ g.b.toNat else if g.k = 2 then 2 ^ g.c.toNat else if g.k = 3 then 2 ^ g.a.toNat ^^^ 2 ^ g.b.toNat else 2 ^ g.b.toNat ^^^ 2 ^ g.c.toNat
def gr (g : Gt) (w : Int) : Int := ((if gc g w then w.toNat ^^^ gm g else w.toNat : Nat) : Int)
theorem gr_nn (g : Gt) (w : Int) : 0 ≤ gr g w := Int.natCast_nonneg _
theorem gr_bit (g : Gt) (w : Int) (i : Nat) : (gr g w).toNat.testBit i = (w.toNat.testBit i ^^ (gc g w && (gm g).testBit i)) := by
  unfold gr
  rw [Int.toNat_natCast]
  split
  · rename_i h; rw [h, Nat.testBit_xor, Bool.true_and]
  · rename_i h; rw [Bool.not_eq_true] at h; rw [h]; simp
theorem gr_bt (g : Gt) (w i : Int) : bt (gr g w) i = (bt w i ^^ (gc g w && (gm g).testBit i.toNat)) := gr_bit g w i.toNat
/-- A gate that is valid for so many lines. -/
def in8 (n x : Int) : Bool := decide (0 ≤ x) && decide (x < n)
def gokL (n : Int) (g : Gt) : Bool := if g.k = 0 then in8 n g.a && (g.b == 0) && (g.c == 0) else if g.k = 1 ∨ g.k = 3 then in8 n g.a && in8 n g.b && (g.b != g.a) && (g.c == 0) else if g.k = 2 ∨ g.k = 4 then in8 n g.a && in8 n g.b && (g.b != g.a) && in8 n g.c && (g.c != g.a) && (g.c != g.b) else false
def okLn (n : Int) : Bool := decide (n ≥ 1) && decide (n ≤ 8)
def gok (n : Int) (g : Gt) : Bool := okLn n && gokL n g
theorem gok_facts {n : Int} {g : Gt} (h : gok n g = true) : (1 ≤ n ∧ n ≤ 8) ∧ ((g.k = 0 ∧ (0 ≤ g.a ∧ g.a < n) ∧ g.b = 0 ∧ g.c = 0) ∨ ((g.k = 1 ∨ g.k = 3) ∧ (0 ≤ g.a ∧ g.a < n) ∧ (0 ≤ g.b ∧ g.b < n) ∧ g.b ≠ g.a ∧ g.c = 0) ∨ ((g.k = 2 ∨ g.k = 4) ∧ (0 ≤ g.a ∧ g.a < n) ∧ (0 ≤ g.b ∧ g.b < n) ∧ g.b ≠ g.a ∧ (0 ≤ g.c ∧ g.c < n) ∧ g.c ≠ g.a ∧ g.c ≠ g.b)) := by
  simp only [gok, okLn, Bool.and_eq_true, decide_eq_true_eq] at h
  obtain ⟨h1, h2⟩ := h
  refine ⟨h1, ?_⟩
  unfold gokL at h2
  split at h2
  · rename_i hk
    simp only [in8, Bool.and_eq_true, decide_eq_true_eq, beq_iff_eq] at h2
    exact .inl ⟨hk, h2.1.1, h2.1.2, h2.2⟩
  · split at h2
    · rename_i hk
      simp only [in8, Bool.and_eq_true, decide_eq_true_eq, beq_iff_eq, bne_iff_ne] at h2
      exact .inr (.inl ⟨hk, h2.1.1.1, h2.1.1.2, h2.1.2, h2.2⟩)
    · split at h2
      · rename_i hk
        simp only [in8, Bool.and_eq_true, decide_eq_true_eq, beq_iff_eq, bne_iff_ne] at h2
        exact .inr (.inr ⟨hk, h2.1.1.1.1.1, h2.1.1.1.1.2, h2.1.1.1.2, h2.1.1.2, h2.1.2, h2.2⟩)
      · cases h2
theorem gok_bd {n : Int} {g : Gt} (h : gok n g = true) : (1 ≤ n ∧ n ≤ 8) ∧ (0 ≤ g.k ∧ g.k ≤ 4) ∧ (0 ≤ g.a ∧ g.a < n) ∧ (0 ≤ g.b ∧ g.b < n) ∧ (0 ≤ g.c ∧ g.c < n) := by
  have := gok_facts h
  omega
section
variable {g : Gt} {w : Int}
theorem gc0 (h : g.k = 0) : gc g w = true := by unfold gc; rw [h]; rfl
theorem gc1 (h : g.k = 1) : gc g w = bt w g.a := by unfold gc; rw [h]; rfl
theorem gc2 (h : g.k = 2) : gc g w = (bt w g.a && bt w g.b) := by unfold gc; rw [h]; rfl
theorem gc3 (h : g.k = 3) : gc g w = (bt w g.a != bt w g.b) := by unfold gc; rw [h]; rfl
theorem gc4 (h : g.k = 4) : gc g w = (bt w g.a && (bt w g.b != bt w g.c)) := by unfold gc; rw [h]; rfl
theorem gm0 (h : g.k = 0) : gm g = 2 ^ g.a.toNat := by unfold gm; rw [h]; rfl
theorem gm1 (h : g.k = 1) : gm g = 2 ^ g.b.toNat := by unfold gm; rw [h]; rfl
theorem gm2 (h : g.k = 2) : gm g = 2 ^ g.c.toNat := by unfold gm; rw [h]; rfl
theorem gm3 (h : g.k = 3) : gm g = 2 ^ g.a.toNat ^^^ 2 ^ g.b.toNat := by unfold gm; rw [h]; rfl
theorem gm4 (h : g.k = 4) : gm g = 2 ^ g.b.toNat ^^^ 2 ^ g.c.toNat := by unfold gm; rw [h]; rfl
end
/-- A gate's change does not hang on what it changes. -/
theorem two_bit (a i : Nat) : (2 ^ a).testBit i = decide (a = i) := by rw [Nat.testBit_two_pow]
theorem gc_gr {n : Int} {g : Gt} (h : gok n g = true) (w : Int) : gc g (gr g w) = gc g w := by
  obtain ⟨_, h⟩ := gok_facts h
  have hb := gr_bt g w
  have tf : ∀ x y : Int, 0 ≤ x → 0 ≤ y → x ≠ y → (2 ^ x.toNat).testBit y.toNat = false := fun x y hx hy hxy => by rw [two_bit]; exact decide_eq_false (by omega)
  have tt : ∀ x : Int, (2 ^ x.toNat).testBit x.toNat = true := fun x => by rw [two_bit]; exact decide_eq_true rfl
  rcases h with ⟨hk, _⟩ | ⟨hk | hk, ha, hb', hne, _⟩ | ⟨hk | hk, ha, hb', hne, hc, hne2, hne3⟩
  · rw [gc0 hk, gc0 hk]
  · have e1 := hb g.a
    rw [gm1 hk, tf _ _ hb'.1 ha.1 hne, Bool.and_false, Bool.xor_false] at e1
    rw [gc1 hk, gc1 hk, e1]
  · have e1 := hb g.a
    have e2 := hb g.b
    rw [gm3 hk, Nat.testBit_xor, tt, tf _ _ hb'.1 ha.1 hne] at e1
    rw [gm3 hk, Nat.testBit_xor, tt, tf _ _ ha.1 hb'.1 (Ne.symm hne)] at e2
    rw [gc3 hk, gc3 hk, e1, e2, gc3 hk]
    cases bt w g.a <;> cases bt w g.b <;> rfl
  · have e1 := hb g.a
    have e2 := hb g.b
    rw [gm2 hk, tf _ _ hc.1 ha.1 hne2, Bool.and_false, Bool.xor_false] at e1
    rw [gm2 hk, tf _ _ hc.1 hb'.1 hne3, Bool.and_false, Bool.xor_false] at e2
    rw [gc2 hk, gc2 hk, e1, e2]
  · have e1 := hb g.a
    have e2 := hb g.b
    have e3 := hb g.c
    rw [gm4 hk, Nat.testBit_xor, tf _ _ hb'.1 ha.1 hne, tf _ _ hc.1 ha.1 hne2] at e1
    rw [gm4 hk, Nat.testBit_xor, tt, tf _ _ hc.1 hb'.1 hne3] at e2
    rw [gm4 hk, Nat.testBit_xor, tt, tf _ _ hb'.1 hc.1 (Ne.symm hne3)] at e3
    rw [gc4 hk, gc4 hk, e1, e2, e3, gc4 hk]
    cases bt w g.a <;> cases bt w g.b <;> cases bt w g.c <;> rfl
/-- Twice is nothing. -/
theorem gr_gr {n : Int} {g : Gt} (h : gok n g = true) {w : Int} (hw : 0 ≤ w) : gr g (gr g w) = w := by
  have e : (gr g (gr g w)).toNat = w.toNat := by
    apply Nat.eq_of_testBit_eq
    intro i
    rw [gr_bit, gr_bit, gc_gr h]
    cases gc g w <;> cases (gm g).testBit i <;> simp
  have h1 := gr_nn g (gr g w)
  omega
theorem gm_lt {n : Int} {g : Gt} (h : gok n g = true) : gm g < 2 ^ n.toNat := by
  obtain ⟨hn, hk, ha, hb, hc⟩ := gok_bd h
  have p : ∀ x : Int, 0 ≤ x ∧ x < n → 2 ^ x.toNat < 2 ^ n.toNat := fun x hx => Nat.pow_lt_pow_right (by omega) (by omega)
  unfold gm
  split
  · exact p _ ha
  · split
    · exact p _ hb
    · split
      · exact p _ hc
      · split
        · exact Nat.xor_lt_two_pow (p _ ha) (p _ hb)
        · exact Nat.xor_lt_two_pow (p _ hb) (p _ hc)
theorem gr_lt {n : Int} {g : Gt} (h : gok n g = true) {w : Int} (hw : 0 ≤ w ∧ w < 2 ^ n.toNat) : 0 ≤ gr g w ∧ gr g w < 2 ^ n.toNat := by
  refine ⟨gr_nn g w, ?_⟩
  have h1 : w.toNat < 2 ^ n.toNat := by
    have : ((w.toNat : Nat) : Int) < ((2 ^ n.toNat : Nat) : Int) := by rw [Int.toNat_of_nonneg hw.1, Int.natCast_pow]; exact hw.2
    exact_mod_cast this
  have h2 : (if gc g w then w.toNat ^^^ gm g else w.toNat) < 2 ^ n.toNat := by
    split
    · exact Nat.xor_lt_two_pow h1 (gm_lt h)
    · exact h1
  unfold gr
  have : (((if gc g w then w.toNat ^^^ gm g else w.toNat : Nat)) : Int) < ((2 ^ n.toNat : Nat) : Int) := Int.ofNat_lt.2 h2
  rwa [Int.natCast_pow] at this
/-- Circuits. -/
def cr (c : List Gt) (w : Int) : Int := c.foldl (fun w g => gr g w) w
def cok (n : Int) (c : List Gt) : Bool := okLn n && decide (c.length ≤ 24) && c.all (gok n)
theorem cr_cons (g : Gt) (c : List Gt) (w : Int) : cr (g :: c) w = cr c (gr g w) := rfl
theorem cr_append (c d : List Gt) (w : Int) : cr (c ++ d) w = cr d (cr c w) := List.foldl_append
theorem cr_lt {n : Int} : ∀ {c : List Gt}, c.all (gok n) = true → ∀ {w : Int}, (0 ≤ w ∧ w < 2 ^ n.toNat) → 0 ≤ cr c w ∧ cr c w < 2 ^ n.toNat
  | [], _, w, hw => hw
  | g :: c, h, w, hw => by
    rw [List.all_cons, Bool.and_eq_true] at h
    exact cr_lt h.2 (gr_lt h.1 hw)
theorem cr_back {n : Int} : ∀ {c : List Gt}, c.all (gok n) = true → ∀ {w : Int}, (0 ≤ w ∧ w < 2 ^ n.toNat) → cr c.reverse (cr c w) = w
  | [], _, w, hw => rfl
  | g :: c, h, w, hw => by
    rw [List.all_cons, Bool.and_eq_true] at h
    rw [List.reverse_cons, cr_append]
    show gr g (cr c.reverse (cr c (gr g w))) = w
    rw [cr_back h.2 (gr_lt h.1 hw)]
    exact gr_gr h.1 hw.1
end Go.Proofs.Ytgifhhefcmmdfaa
