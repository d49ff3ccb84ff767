/- PH: laid into one text. -/
import Derived.Test.YtfbcblknahicdaaQXFF
import Derived.Test.YtfbcblknahicdaaQXFG

namespace Go.Proofs.Ytfbcblknahicdaa
set_option linter.unusedVariables false
set_option linter.unusedSimpArgs false
theorem sb_and {w a : Int} (hw : 0 ≤ w) : ((((w / 2 ^ a.toNat).toNat &&& Int.toNat 1 : Nat)) : Int) = if bt w a then 1 else 0 := by
  have e : (w / 2 ^ a.toNat).toNat = w.toNat >>> a.toNat := by
    rw [Nat.shiftRight_eq_div_pow]
    obtain ⟨m, rfl⟩ := Int.eq_ofNat_of_zero_le hw
    rw [show ((m : Int) / 2 ^ a.toNat) = ((m / 2 ^ a.toNat : Nat) : Int) by simp, Int.toNat_natCast, Int.toNat_natCast]
  rw [e]
  unfold bt
  rw [Nat.testBit, Nat.and_comm]
  show ((((1 &&& w.toNat >>> a.toNat : Nat)) : Int)) = _
  have h := Nat.mod_two_eq_zero_or_one (w.toNat >>> a.toNat)
  rw [Nat.and_comm, Nat.and_one_is_mod]
  rcases h with h | h <;> rw [h] <;> rfl
theorem sb_mod {w a : Int} (hw : 0 ≤ w) : w / 2 ^ a.toNat % 2 = if bt w a then 1 else 0 := by
  rw [← sb_and hw]
  have h0 : 0 ≤ w / 2 ^ a.toNat := Int.ediv_nonneg hw (Int.pow_nonneg (by decide))
  obtain ⟨m, hm⟩ := Int.eq_ofNat_of_zero_le h0
  rw [hm, Int.toNat_natCast]
  show _ = ((m &&& 1 : Nat) : Int)
  rw [Nat.and_one_is_mod]
  omega
theorem xor_add : ∀ w < 256, ∀ i < 8, w.testBit i = false → w ^^^ 2 ^ i = w + 2 ^ i := by decide +kernel
theorem xor_sub : ∀ w < 256, ∀ i < 8, w.testBit i = true → (w ^^^ 2 ^ i) + 2 ^ i = w := by decide +kernel
theorem turn_eq {w a : Int} (hw : 0 ≤ w ∧ w < 256) (ha : 0 ≤ a ∧ a < 8) : (if bt w a then w - 1 * 2 ^ a.toNat else w + 1 * 2 ^ a.toNat) = ((w.toNat ^^^ 2 ^ a.toNat : Nat) : Int) := by
  have h1 : w.toNat < 256 := by omega
  have h2 : a.toNat < 8 := by omega
  have e : ((2 : Int) ^ a.toNat) = ((2 ^ a.toNat : Nat) : Int) := by simp
  have e2 : ((w.toNat : Nat) : Int) = w := Int.toNat_of_nonneg hw.1
  rw [Int.one_mul, e]
  unfold bt
  cases hb : w.toNat.testBit a.toNat with
  | false =>
    have := xor_add _ h1 _ h2 hb
    rw [if_neg (by decide)]; omega
  | true =>
    have := xor_sub _ h1 _ h2 hb
    rw [if_pos rfl]; omega
theorem gr_if (g : Gt) {w : Int} (hw : 0 ≤ w) : gr g w = if gc g w then ((w.toNat ^^^ gm g : Nat) : Int) else w := by
  unfold gr
  split
  · rfl
  · exact Int.toNat_of_nonneg hw
theorem pow_nat (a : Int) : ((2 : Int) ^ a.toNat).toNat = 2 ^ a.toNat := by
  rw [show ((2 : Int) ^ a.toNat) = ((2 ^ a.toNat : Nat) : Int) by simp, Int.toNat_natCast]
theorem pow_8 {n : Int} (h : 1 ≤ n ∧ n ≤ 8) : 2 ≤ (2 : Int) ^ n.toNat ∧ (2 : Int) ^ n.toNat ≤ 256 := by
  obtain rfl | rfl | rfl | rfl | rfl | rfl | rfl | rfl : n = 1 ∨ n = 2 ∨ n = 3 ∨ n = 4 ∨ n = 5 ∨ n = 6 ∨ n = 7 ∨ n = 8 := by omega
  all_goals decide
theorem pow_7 {n : Int} (h : 0 ≤ n ∧ n ≤ 7) : 1 ≤ (2 : Int) ^ n.toNat ∧ (2 : Int) ^ n.toNat ≤ 128 := by
  obtain rfl | rfl | rfl | rfl | rfl | rfl | rfl | rfl : n = 0 ∨ n = 1 ∨ n = 2 ∨ n = 3 ∨ n = 4 ∨ n = 5 ∨ n = 6 ∨ n = 7 := by omega
  all_goals decide
def gvL (n : Int) : Nat → List Int → Bool
  | _, [] => true
  | s, x :: l => btw x 0 (n - 1) && !(s.testBit x.toNat) && gvL n (s ||| 2 ^ x.toNat) l
def z0 (l : List Int) : Bool := l.all (· == 0)
theorem or_bit (s a b : Nat) : (s ||| 2 ^ a).testBit b = (s.testBit b || decide (a = b)) := by rw [Nat.testBit_or, Nat.testBit_two_pow]
theorem btw8 (n x : Int) : btw x 0 (n - 1) = in8 n x := by
  unfold btw in8
  congr 1
  exact decide_eq_decide.2 (by omega)
theorem nat_ne {n a b : Int} (ha : in8 n a = true) (hb : in8 n b = true) : decide (a.toNat = b.toNat) = (b == a) := by
  simp only [in8, Bool.and_eq_true, decide_eq_true_eq] at ha hb
  by_cases h : a = b
  · subst h; simp
  · have : (b == a) = false := by rw [beq_eq_false_iff_ne]; exact Ne.symm h
    rw [this]; exact decide_eq_false (by omega)
theorem gvL1 (n a : Int) : gvL n 0 [a] = in8 n a := by simp [gvL, btw8]
theorem gvL2 (n a b : Int) : gvL n 0 [a, b] = (in8 n a && in8 n b && (b != a)) := by
  simp only [gvL, btw8, or_bit, Nat.zero_testBit, Bool.false_or, Bool.and_true, Bool.not_false]
  cases ha : in8 n a <;> cases hb : in8 n b <;> first | (simp; done) | (rw [nat_ne ha hb]; rfl)
theorem gvL3 (n a b c : Int) : gvL n 0 [a, b, c] = (in8 n a && in8 n b && (b != a) && in8 n c && (c != a) && (c != b)) := by
  simp only [gvL, btw8, or_bit, Nat.zero_testBit, Bool.false_or, Bool.and_true, Bool.not_false]
  cases ha : in8 n a <;> cases hb : in8 n b <;> cases hc : in8 n c <;> first | (simp; done) | (rw [nat_ne ha hb, nat_ne ha hc, nat_ne hb hc]; unfold bne; cases (b == a) <;> cases (c == a) <;> cases (c == b) <;> rfl)
def ntL (g : Gt) : List Int := if g.k = 0 then [g.a] else if g.k = 1 ∨ g.k = 3 then [g.a, g.b] else [g.a, g.b, g.c]
def ntR (g : Gt) : List Int := if g.k = 0 then [g.b, g.c] else if g.k = 1 ∨ g.k = 3 then [g.c] else []
theorem gok_nt {n : Int} {g : Gt} (h : 0 ≤ g.k ∧ g.k ≤ 4) (hn : btw n 1 8 = true) : gok n g = (gvL n 0 (ntL g) && z0 (ntR g)) := by
  have e : okLn n = true := hn
  unfold gok
  rw [e, Bool.true_and]
  unfold gokL ntL ntR
  have h' : g.k = 0 ∨ g.k = 1 ∨ g.k = 2 ∨ g.k = 3 ∨ g.k = 4 := by omega
  rcases h' with h' | h' | h' | h' | h' <;> simp [h', gvL1, gvL2, gvL3, z0, Bool.and_assoc]
theorem gok_k {n : Int} {g : Gt} (h : btw g.k 0 4 = false) : gok n g = false := by
  have := btw_f h
  unfold gok gokL
  rw [if_neg (by omega), if_neg (by omega), if_neg (by omega), Bool.and_false]
theorem gok_n {n : Int} {g : Gt} (h : btw n 1 8 = false) : gok n g = false := by
  have e : okLn n = false := h
  unfold gok; rw [e, Bool.false_and]
end Go.Proofs.Ytfbcblknahicdaa
