/- PG, PS, PU, BK, PC, PP, PR0, PN, PV, PW, CutB, CutC, BKB, CutD: laid into one text. -/
import Derived.Test.YtnenhckongccgaaGreatDoorQHD
import Derived.Test.YtnenhckongccgaaGreatDoorQHE
import Derived.Lib.Split
import Derived.Lib.SplitLaws
import Derived.Lib.AtoiAll
import Derived.Lib.ItoaNum

namespace Go.Proofs.YtnenhckongccgaaGreatDoor
set_option linter.unusedVariables false
set_option linter.unusedSimpArgs false
def bt (w i : Int) : Bool := w.toNat.testBit i.toNat
def gc (g : Gt) (w : Int) : Bool := if g.k = 0 then true else if g.k = 1 then bt w g.a else if g.k = 2 then bt w g.a && bt w g.b else if g.k = 3 then (bt w g.a != bt w g.b) else bt w g.a && (bt w g.b != bt w g.c)
def gm (g : Gt) : Nat := if g.k = 0 then 2 ^ g.a.toNat else if g.k = 1 then 2 ^ g.b.toNat else if g.k = 2 then 2 ^ g.c.toNat else if g.k = 3 then 2 ^ g.a.toNat ^^^ 2 ^ g.b.toNat else 2 ^ g.b.toNat ^^^ 2 ^ g.c.toNat
def gr (g : Gt) (w : Int) : Int := ((if gc g w then w.toNat ^^^ gm g else w.toNat : Nat) : Int)
theorem gr_nn (g : Gt) (w : Int) : 0 ≤ gr g w := Int.natCast_nonneg _
theorem gr_bit (g : Gt) (w : Int) (i : Nat) : (gr g w).toNat.testBit i = (w.toNat.testBit i ^^ (gc g w && (gm g).testBit i)) := by
  unfold gr
  rw [Int.toNat_natCast]
  split
  · rename_i h; rw [h, Nat.testBit_xor, Bool.true_and]
  · rename_i h; rw [Bool.not_eq_true] at h; rw [h]; simp
theorem gr_bt (g : Gt) (w i : Int) : bt (gr g w) i = (bt w i ^^ (gc g w && (gm g).testBit i.toNat)) := gr_bit g w i.toNat
def in8 (n x : Int) : Bool := decide (0 ≤ x) && decide (x < n)
def gokL (n : Int) (g : Gt) : Bool := if g.k = 0 then in8 n g.a && (g.b == 0) && (g.c == 0) else if g.k = 1 ∨ g.k = 3 then in8 n g.a && in8 n g.b && (g.b != g.a) && (g.c == 0) else if g.k = 2 ∨ g.k = 4 then in8 n g.a && in8 n g.b && (g.b != g.a) && in8 n g.c && (g.c != g.a) && (g.c != g.b) else false
def okLn (n : Int) : Bool := decide (n ≥ 1) && decide (n ≤ 8)
def gok (n : Int) (g : Gt) : Bool := okLn n && gokL n g
theorem gok_facts {n : Int} {g : Gt} (h : gok n g = true) : (1 ≤ n ∧ n ≤ 8) ∧ ((g.k = 0 ∧ (0 ≤ g.a ∧ g.a < n) ∧ g.b = 0 ∧ g.c = 0) ∨ ((g.k = 1 ∨ g.k = 3) ∧ (0 ≤ g.a ∧ g.a < n) ∧ (0 ≤ g.b ∧ g.b < n) ∧ g.b ≠ g.a ∧ g.c = 0) ∨ ((g.k = 2 ∨ g.k = 4) ∧ (0 ≤ g.a ∧ g.a < n) ∧ (0 ≤ g.b ∧ g.b < n) ∧ g.b ≠ g.a ∧ (0 ≤ g.c ∧ g.c < n) ∧ g.c ≠ g.a ∧ g.c ≠ g.b)) := by
  simp only [gok, okLn, Bool.and_eq_true, decide_eq_true_eq] at h
  obtain ⟨h1, h2⟩ := h
  refine ⟨h1, ?_⟩
  unfold gokL at h2
  split at h2
  · rename_i hk
    simp only [in8, Bool.and_eq_true, decide_eq_true_eq, beq_iff_eq] at h2
    exact .inl ⟨hk, h2.1.1, h2.1.2, h2.2⟩
  · split at h2
    · rename_i hk
      simp only [in8, Bool.and_eq_true, decide_eq_true_eq, beq_iff_eq, bne_iff_ne] at h2
      exact .inr (.inl ⟨hk, h2.1.1.1, h2.1.1.2, h2.1.2, h2.2⟩)
    · split at h2
      · rename_i hk
        simp only [in8, Bool.and_eq_true, decide_eq_true_eq, beq_iff_eq, bne_iff_ne] at h2
        exact .inr (.inr ⟨hk, h2.1.1.1.1.1, h2.1.1.1.1.2, h2.1.1.1.2, h2.1.1.2, h2.1.2, h2.2⟩)
      · cases h2
theorem gok_bd {n : Int} {g : Gt} (h : gok n g = true) : (1 ≤ n ∧ n ≤ 8) ∧ (0 ≤ g.k ∧ g.k ≤ 4) ∧ (0 ≤ g.a ∧ g.a < n) ∧ (0 ≤ g.b ∧ g.b < n) ∧ (0 ≤ g.c ∧ g.c < n) := by
  have := gok_facts h
  omega
section
variable {g : Gt} {w : Int}
theorem gc0 (h : g.k = 0) : gc g w = true := by unfold gc; rw [h]; rfl
theorem gc1 (h : g.k = 1) : gc g w = bt w g.a := by unfold gc; rw [h]; rfl
theorem gc2 (h : g.k = 2) : gc g w = (bt w g.a && bt w g.b) := by unfold gc; rw [h]; rfl
theorem gc3 (h : g.k = 3) : gc g w = (bt w g.a != bt w g.b) := by unfold gc; rw [h]; rfl
theorem gc4 (h : g.k = 4) : gc g w = (bt w g.a && (bt w g.b != bt w g.c)) := by unfold gc; rw [h]; rfl
theorem gm0 (h : g.k = 0) : gm g = 2 ^ g.a.toNat := by unfold gm; rw [h]; rfl
theorem gm1 (h : g.k = 1) : gm g = 2 ^ g.b.toNat := by unfold gm; rw [h]; rfl
theorem gm2 (h : g.k = 2) : gm g = 2 ^ g.c.toNat := by unfold gm; rw [h]; rfl
theorem gm3 (h : g.k = 3) : gm g = 2 ^ g.a.toNat ^^^ 2 ^ g.b.toNat := by unfold gm; rw [h]; rfl
theorem gm4 (h : g.k = 4) : gm g = 2 ^ g.b.toNat ^^^ 2 ^ g.c.toNat := by unfold gm; rw [h]; rfl
end
theorem two_bit (a i : Nat) : (2 ^ a).testBit i = decide (a = i) := by rw [Nat.testBit_two_pow]
theorem gc_gr {n : Int} {g : Gt} (h : gok n g = true) (w : Int) : gc g (gr g w) = gc g w := by
  obtain ⟨_, h⟩ := gok_facts h
  have hb := gr_bt g w
  have tf : ∀ x y : Int, 0 ≤ x → 0 ≤ y → x ≠ y → (2 ^ x.toNat).testBit y.toNat = false := fun x y hx hy hxy => by rw [two_bit]; exact decide_eq_false (by omega)
  have tt : ∀ x : Int, (2 ^ x.toNat).testBit x.toNat = true := fun x => by rw [two_bit]; exact decide_eq_true rfl
  rcases h with ⟨hk, _⟩ | ⟨hk | hk, ha, hb', hne, _⟩ | ⟨hk | hk, ha, hb', hne, hc, hne2, hne3⟩
  · rw [gc0 hk, gc0 hk]
  · have e1 := hb g.a
    rw [gm1 hk, tf _ _ hb'.1 ha.1 hne, Bool.and_false, Bool.xor_false] at e1
    rw [gc1 hk, gc1 hk, e1]
  · have e1 := hb g.a
    have e2 := hb g.b
    rw [gm3 hk, Nat.testBit_xor, tt, tf _ _ hb'.1 ha.1 hne] at e1
    rw [gm3 hk, Nat.testBit_xor, tt, tf _ _ ha.1 hb'.1 (Ne.symm hne)] at e2
    rw [gc3 hk, gc3 hk, e1, e2, gc3 hk]
    cases bt w g.a <;> cases bt w g.b <;> rfl
  · have e1 := hb g.a
    have e2 := hb g.b
    rw [gm2 hk, tf _ _ hc.1 ha.1 hne2, Bool.and_false, Bool.xor_false] at e1
    rw [gm2 hk, tf _ _ hc.1 hb'.1 hne3, Bool.and_false, Bool.xor_false] at e2
    rw [gc2 hk, gc2 hk, e1, e2]
  · have e1 := hb g.a
    have e2 := hb g.b
    have e3 := hb g.c
    rw [gm4 hk, Nat.testBit_xor, tf _ _ hb'.1 ha.1 hne, tf _ _ hc.1 ha.1 hne2] at e1
    rw [gm4 hk, Nat.testBit_xor, tt, tf _ _ hc.1 hb'.1 hne3] at e2
    rw [gm4 hk, Nat.testBit_xor, tt, tf _ _ hb'.1 hc.1 (Ne.symm hne3)] at e3
    rw [gc4 hk, gc4 hk, e1, e2, e3, gc4 hk]
    cases bt w g.a <;> cases bt w g.b <;> cases bt w g.c <;> rfl
theorem gr_gr {n : Int} {g : Gt} (h : gok n g = true) {w : Int} (hw : 0 ≤ w) : gr g (gr g w) = w := by
  have e : (gr g (gr g w)).toNat = w.toNat := by
    apply Nat.eq_of_testBit_eq
    intro i
    rw [gr_bit, gr_bit, gc_gr h]
    cases gc g w <;> cases (gm g).testBit i <;> simp
  have h1 := gr_nn g (gr g w)
  omega
theorem gm_lt {n : Int} {g : Gt} (h : gok n g = true) : gm g < 2 ^ n.toNat := by
  obtain ⟨hn, hk, ha, hb, hc⟩ := gok_bd h
  have p : ∀ x : Int, 0 ≤ x ∧ x < n → 2 ^ x.toNat < 2 ^ n.toNat := fun x hx => Nat.pow_lt_pow_right (by omega) (by omega)
  unfold gm
  split
  · exact p _ ha
  · split
    · exact p _ hb
    · split
      · exact p _ hc
      · split
        · exact Nat.xor_lt_two_pow (p _ ha) (p _ hb)
        · exact Nat.xor_lt_two_pow (p _ hb) (p _ hc)
theorem gr_lt {n : Int} {g : Gt} (h : gok n g = true) {w : Int} (hw : 0 ≤ w ∧ w < 2 ^ n.toNat) : 0 ≤ gr g w ∧ gr g w < 2 ^ n.toNat := by
  refine ⟨gr_nn g w, ?_⟩
  have h1 : w.toNat < 2 ^ n.toNat := by
    have : ((w.toNat : Nat) : Int) < ((2 ^ n.toNat : Nat) : Int) := by rw [Int.toNat_of_nonneg hw.1, Int.natCast_pow]; exact hw.2
    exact_mod_cast this
  have h2 : (if gc g w then w.toNat ^^^ gm g else w.toNat) < 2 ^ n.toNat := by
    split
    · exact Nat.xor_lt_two_pow h1 (gm_lt h)
    · exact h1
  unfold gr
  have : (((if gc g w then w.toNat ^^^ gm g else w.toNat : Nat)) : Int) < ((2 ^ n.toNat : Nat) : Int) := Int.ofNat_lt.2 h2
  rwa [Int.natCast_pow] at this
def cr (c : List Gt) (w : Int) : Int := c.foldl (fun w g => gr g w) w
theorem cr_cons (g : Gt) (c : List Gt) (w : Int) : cr (g :: c) w = cr c (gr g w) := rfl
theorem cr_append (c d : List Gt) (w : Int) : cr (c ++ d) w = cr d (cr c w) := List.foldl_append
theorem cr_lt {n : Int} : ∀ {c : List Gt}, c.all (gok n) = true → ∀ {w : Int}, (0 ≤ w ∧ w < 2 ^ n.toNat) → 0 ≤ cr c w ∧ cr c w < 2 ^ n.toNat
  | [], _, w, hw => hw
  | g :: c, h, w, hw => by
    rw [List.all_cons, Bool.and_eq_true] at h
    exact cr_lt h.2 (gr_lt h.1 hw)
theorem cr_back {n : Int} : ∀ {c : List Gt}, c.all (gok n) = true → ∀ {w : Int}, (0 ≤ w ∧ w < 2 ^ n.toNat) → cr c.reverse (cr c w) = w
  | [], _, w, hw => rfl
  | g :: c, h, w, hw => by
    rw [List.all_cons, Bool.and_eq_true] at h
    rw [List.reverse_cons, cr_append]
    show gr g (cr c.reverse (cr c (gr g w))) = w
    rw [cr_back h.2 (gr_lt h.1 hw)]
    exact gr_gr h.1 hw.1
end Go.Proofs.YtnenhckongccgaaGreatDoor
namespace Go.Proofs.YtnenhckongccgaaGreatDoor
set_option linter.unusedVariables false
open Go.Lib (decDigits splitK index count atoiAll)
def cutA (c : UInt8) (acc : List UInt8) : List UInt8 → List (List UInt8)
  | [] => [acc]
  | b :: l => if b == c then acc :: cutA c [] l else cutA c (acc ++ [b]) l
theorem cutA_len (c : UInt8) : ∀ (l acc : List UInt8), 1 ≤ (cutA c acc l).length ∧ (cutA c acc l).length ≤ l.length + 1
  | [], acc => by simp [cutA]
  | b :: l, acc => by
    rw [cutA]
    split
    · have := cutA_len c l []; simp; omega
    · have := cutA_len c l (acc ++ [b]); simp; omega
theorem cutA_end {c : UInt8} : ∀ {a acc : List UInt8}, a.contains c = false → cutA c acc a = [acc ++ a]
  | [], acc, _ => by simp [cutA]
  | b :: a, acc, h => by
    simp only [List.contains_cons, Bool.or_eq_false_iff] at h
    have hb : (b == c) = false := by rw [beq_eq_false_iff_ne] at h ⊢; exact fun e => h.1 e.symm
    rw [cutA, hb, if_neg (by decide), cutA_end h.2]
    simp
theorem cutA_app {c : UInt8} {r : List UInt8} : ∀ {a acc : List UInt8}, a.contains c = false → cutA c acc (a ++ c :: r) = (acc ++ a) :: cutA c [] r
  | [], acc, _ => by simp [cutA]
  | b :: a, acc, h => by
    simp only [List.contains_cons, Bool.or_eq_false_iff] at h
    have hb : (b == c) = false := by rw [beq_eq_false_iff_ne] at h ⊢; exact fun e => h.1 e.symm
    rw [List.cons_append, cutA, hb, if_neg (by decide), cutA_app h.2]
    simp
theorem idx_cons (b c : UInt8) (l : List UInt8) : index (b :: l) [c] = if b == c then 0 else if index l [c] == -1 then -1 else index l [c] + 1 := by
  rw [index]
  have e : ([c].isPrefixOf (b :: l)) = (b == c) := by
    show ((c == b) && ([] : List UInt8).isPrefixOf l) = (b == c)
    rw [show ([] : List UInt8).isPrefixOf l = true from rfl, Bool.and_true]
    rw [Bool.eq_iff_iff, beq_iff_eq, beq_iff_eq]
    exact ⟨Eq.symm, Eq.symm⟩
  rw [e]
theorem cut_idx (c : UInt8) : ∀ (s acc : List UInt8), (index s [c] = -1 ∧ cutA c acc s = [acc ++ s]) ∨ (∃ i : Nat, index s [c] = (i : Int) ∧ i < s.length ∧ cutA c acc s = (acc ++ s.take i) :: cutA c [] (s.drop (i + 1)))
  | [], acc => .inl ⟨rfl, by simp [cutA]⟩
  | b :: s, acc => by
    rw [idx_cons, cutA]
    by_cases hb : (b == c) = true
    · rw [if_pos hb, if_pos hb]
      exact .inr ⟨0, rfl, by simp, by simp⟩
    · rw [if_neg hb, if_neg hb]
      rcases cut_idx c s (acc ++ [b]) with ⟨h1, h2⟩ | ⟨i, h1, h2, h3⟩
      · refine .inl ⟨?_, ?_⟩
        · rw [h1]; rfl
        · rw [h2]; simp
      · refine .inr ⟨i + 1, ?_, by simp; omega, ?_⟩
        · rw [h1, if_neg (by simp)]; simp
        · rw [h3]; simp
theorem split_cut (c : UInt8) : ∀ (n : Nat) (s : List UInt8), s.length ≤ n → splitK [c] 0 (count s [c]) s = cutA c [] s
  | 0, s, h => by
    have : s = [] := List.eq_nil_of_length_eq_zero (by omega)
    subst this
    have h1 : index [] [c] = -1 := rfl
    rw [Go.Lib.count_miss h1]
    rfl
  | n + 1, s, h => by
    rcases cut_idx c s [] with ⟨h1, h2⟩ | ⟨i, h1, h2, h3⟩
    · rw [Go.Lib.count_miss h1, h2]; rfl
    · rw [Go.Lib.count_hit (by simp) h1, Nat.add_comm, splitK, if_neg (by rw [h1]; simp), h3, h1]
      rw [show ((i : Int)).toNat = i from rfl, List.length_singleton, Nat.add_zero, List.nil_append]
      rw [split_cut c n (s.drop (i + 1)) (by rw [List.length_drop]; omega)]
def dd2 (n : Nat) : List UInt8 := if n < 10 then [UInt8.ofNat (48 + n)] else [UInt8.ofNat (48 + n / 10), UInt8.ofNat (48 + n % 10)]
theorem dd2_eq {n : Nat} (h : n < 100) : decDigits n = dd2 n := by
  unfold dd2
  split
  · rename_i h1; exact Go.Lib.decDigits_one h1
  · rename_i h1; exact Go.Lib.decDigits_two h1 h
def dgA : Int → List UInt8 → Int
  | n, [] => n
  | n, b :: l => if b < 48 || b > 57 then -1 else dgA (10 * n + ((b.toNat : Int) - 48)) l
def dgs (s : List UInt8) : Int := if !(decide (1 ≤ s.length) && decide (s.length ≤ 4)) || (decide (1 < s.length) && s.getD 0 0 == 48) then -1 else dgA 0 s
def okI : Go.Lib.NumEnd Int → Int → Bool
  | .ok v, n => v == n
  | _, _ => false
theorem okI_t {x : Go.Lib.NumEnd Int} {n : Int} (h : okI x n = true) : x = .ok n := by
  cases x with
  | ok v => simp only [okI, beq_iff_eq] at h; rw [h]
  | range => cases h
  | _ => cases h
theorem dd2_all : ∀ n : Fin 100, (dgs (dd2 n.val) == (n.val : Int)) && (okI (atoiAll (dd2 n.val)) (n.val : Int)) && !((dd2 n.val).contains 32) && decide (1 ≤ (dd2 n.val).length) && decide ((dd2 n.val).length ≤ 2) = true := by decide +kernel
theorem dd2_of {n : Nat} (h : n < 100) : dgs (decDigits n) = (n : Int) ∧ atoiAll (decDigits n) = .ok (n : Int) ∧ (decDigits n).contains 32 = false ∧ 1 ≤ (decDigits n).length ∧ (decDigits n).length ≤ 2 := by
  have := dd2_all ⟨n, h⟩
  simp only [Bool.and_eq_true, beq_iff_eq, Bool.not_eq_true', decide_eq_true_eq] at this
  rw [dd2_eq h]
  exact ⟨this.1.1.1.1, okI_t this.1.1.1.2, this.1.1.2, this.1.2, this.2⟩
end Go.Proofs.YtnenhckongccgaaGreatDoor
namespace Go.Proofs.YtnenhckongccgaaGreatDoor
set_option linter.unusedVariables false
set_option linter.unusedSimpArgs false
open Go.Lib (decDigits)
def gnm (k : Int) : List UInt8 := if k = 0 then [110, 111, 116] else if k = 1 then [99, 111, 112, 121] else if k = 2 then [98, 111, 116, 104] else if k = 3 then [115, 119, 97, 112] else [105, 102]
abbrev dx (x : Int) : List UInt8 := decDigits x.toNat
def gtT (g : Gt) : List UInt8 :=
  if g.k = 0 then gnm 0 ++ [32] ++ dx g.a
  else if g.k = 1 ∨ g.k = 3 then gnm g.k ++ [32] ++ dx g.a ++ [32] ++ dx g.b
  else gnm g.k ++ [32] ++ dx g.a ++ [32] ++ dx g.b ++ [32] ++ dx g.c
def gtW (g : Gt) : List (List UInt8) :=
  if g.k = 0 then [gnm 0, dx g.a]
  else if g.k = 1 ∨ g.k = 3 then [gnm g.k, dx g.a, dx g.b]
  else [gnm g.k, dx g.a, dx g.b, dx g.c]
def gtx (g : Gt) : List UInt8 := if gok 8 g = true then gtT g else []
def GOk (s : List UInt8) (g : Gt) : Prop := gok 8 g = true ∧ gtT g = s
theorem gnm_no (k : Int) : (gnm k).contains 32 = false := by
  unfold gnm
  repeat (split; rfl)
  rfl
theorem gnm_len (k : Int) : 2 ≤ (gnm k).length ∧ (gnm k).length ≤ 4 := by
  unfold gnm
  repeat (split; decide)
  decide
theorem gnm_inj5 : ∀ i j : Fin 5, (gnm (i.val : Int) == gnm (j.val : Int)) = (i == j) := by decide +kernel
theorem gnm_inj {k k' : Int} (h : 0 ≤ k ∧ k ≤ 4) (h' : 0 ≤ k' ∧ k' ≤ 4) (e : gnm k = gnm k') : k = k' := by
  have := gnm_inj5 ⟨k.toNat, by omega⟩ ⟨k'.toNat, by omega⟩
  dsimp only at this
  rw [show ((k.toNat : Nat) : Int) = k by omega, show ((k'.toNat : Nat) : Int) = k' by omega, e, beq_self_eq_true] at this
  have h2 := eq_of_beq this.symm
  have h3 := congrArg Fin.val h2
  dsimp only at h3
  omega
theorem dx1_all : ∀ n : Fin 10, ((dx (n.val : Int)) == [UInt8.ofNat (48 + n.val)]) && decide (((UInt8.ofNat (48 + n.val)).toNat : Int) - 48 = (n.val : Int)) = true := by decide +kernel
theorem dx1 {x : Int} (h : 0 ≤ x ∧ x ≤ 9) : dx x = [UInt8.ofNat (48 + x.toNat)] ∧ (((UInt8.ofNat (48 + x.toNat)).toNat : Int) - 48 = x) := by
  have := dx1_all ⟨x.toNat, by omega⟩
  dsimp only at this
  rw [show ((x.toNat : Nat) : Int) = x by omega, Bool.and_eq_true, beq_iff_eq] at this
  refine ⟨this.1, ?_⟩
  simpa using this.2
theorem dx_no {x : Int} (h : 0 ≤ x ∧ x < 100) : (dx x).contains 32 = false := (dd2_of (n := x.toNat) (by omega)).2.2.1
theorem dx_dg {x : Int} (h : 0 ≤ x ∧ x < 100) : dgs (dx x) = x := by
  have := (dd2_of (n := x.toNat) (by omega)).1
  rw [this]; omega
theorem dx_inj {x y : Int} (h : 0 ≤ x ∧ x < 100) (h' : 0 ≤ y ∧ y < 100) (e : dx x = dx y) : x = y := by
  rw [← dx_dg h, ← dx_dg h', e]
theorem cut4 {a b c d : List UInt8} (ha : a.contains 32 = false) (hb : b.contains 32 = false) (hc : c.contains 32 = false) (hd : d.contains 32 = false) : cutA 32 [] (a ++ [32] ++ b ++ [32] ++ c ++ [32] ++ d) = [a, b, c, d] := by
  rw [show a ++ [32] ++ b ++ [32] ++ c ++ [32] ++ d = a ++ 32 :: (b ++ 32 :: (c ++ 32 :: d)) by simp, cutA_app ha, cutA_app hb, cutA_app hc, cutA_end hd]; rfl
theorem cut3 {a b c : List UInt8} (ha : a.contains 32 = false) (hb : b.contains 32 = false) (hc : c.contains 32 = false) : cutA 32 [] (a ++ [32] ++ b ++ [32] ++ c) = [a, b, c] := by
  rw [show a ++ [32] ++ b ++ [32] ++ c = a ++ 32 :: (b ++ 32 :: c) by simp, cutA_app ha, cutA_app hb, cutA_end hc]; rfl
theorem cut2 {a b : List UInt8} (ha : a.contains 32 = false) (hb : b.contains 32 = false) : cutA 32 [] (a ++ [32] ++ b) = [a, b] := by
  rw [show a ++ [32] ++ b = a ++ 32 :: b by simp, cutA_app ha, cutA_end hb]; rfl
theorem gtT_cut {g : Gt} (h : gok 8 g = true) : cutA 32 [] (gtT g) = gtW g := by
  obtain ⟨_, _, ha, hb, hc⟩ := gok_bd h
  unfold gtT gtW
  split
  · exact cut2 (gnm_no 0) (dx_no (by omega))
  split
  · exact cut3 (gnm_no _) (dx_no (by omega)) (dx_no (by omega))
  · exact cut4 (gnm_no _) (dx_no (by omega)) (dx_no (by omega)) (dx_no (by omega))
theorem gtW_head (g : Gt) : (gtW g).getD 0 [] = gnm g.k := by
  unfold gtW
  split
  · rename_i h; rw [h]; rfl
  split <;> rfl
theorem gtT_ne (g : Gt) : gtT g ≠ [] := by
  intro e
  have e2 := congrArg List.length e
  unfold gtT at e2
  split at e2
  · simp at e2
  split at e2 <;> simp at e2
theorem gtT_len {g : Gt} (h : gok 8 g = true) : 4 ≤ (gtT g).length ∧ (gtT g).length ≤ 10 := by
  obtain ⟨_, _, ha, hb, hc⟩ := gok_bd h
  have hl := gnm_len g.k
  have h0 := gnm_len 0
  have e1 := congrArg List.length (dx1 (x := g.a) (by omega)).1
  have e2 := congrArg List.length (dx1 (x := g.b) (by omega)).1
  have e3 := congrArg List.length (dx1 (x := g.c) (by omega)).1
  simp only [List.length_cons, List.length_nil] at e1 e2 e3
  unfold gtT
  split
  · simp only [List.length_append, List.length_cons, List.length_nil, e1]; omega
  split
  · simp only [List.length_append, List.length_cons, List.length_nil, e1, e2]; omega
  · simp only [List.length_append, List.length_cons, List.length_nil, e1, e2, e3]; omega
theorem gtx_len (g : Gt) : (gtx g).length ≤ 10 := by
  unfold gtx
  split
  · rename_i h; exact (gtT_len h).2
  · simp
theorem gtx_eq {s : List UInt8} (hs : s ≠ []) {g : Gt} : (gtx g == s) = true ↔ GOk s g := by
  unfold gtx GOk
  rw [beq_iff_eq]
  cases h : gok 8 g with
  | true => rw [if_pos rfl]; simp
  | false => rw [if_neg (by decide)]; simp; exact fun e => hs e
def wdD (ws : List (List UInt8)) (i : Nat) : Int := if i < ws.length then dgs (ws.getD i []) else 0
def wdO (ws : List (List UInt8)) (i : Nat) : Int := if i < ws.length ∧ (ws.getD i []).length = 1 then (((ws.getD i []).getD 0 0).toNat : Int) - 48 else 0
def kfd (w : List UInt8) : Int := if w = gnm 0 then 0 else if w = gnm 1 then 1 else if w = gnm 2 then 2 else if w = gnm 3 then 3 else if w = gnm 4 then 4 else -1
def rdS (s : List UInt8) : Gt := ⟨kfd ((cutA 32 [] s).getD 0 []), wdD (cutA 32 [] s) 1, wdD (cutA 32 [] s) 2, wdD (cutA 32 [] s) 3⟩
def rdI (k : Int) (s : List UInt8) : Gt := ⟨k, wdO (cutA 32 [] s) 1, wdO (cutA 32 [] s) 2, wdO (cutA 32 [] s) 3⟩
theorem kfd_all : ∀ i : Fin 5, (kfd (gnm (i.val : Int)) == (i.val : Int)) = true := by decide +kernel
theorem kfd_of {k : Int} (h : 0 ≤ k ∧ k ≤ 4) : kfd (gnm k) = k := by
  have := kfd_all ⟨k.toNat, by omega⟩
  dsimp only at this
  rw [show ((k.toNat : Nat) : Int) = k by omega, beq_iff_eq] at this
  exact this
theorem wdD_at {ws : List (List UInt8)} {i : Nat} {x : Int} (hi : i < ws.length) (e : ws.getD i [] = dx x) (h : 0 ≤ x ∧ x ≤ 9) : wdD ws i = x := by
  unfold wdD
  rw [if_pos hi, e, dx_dg (by omega)]
theorem wdO_at {ws : List (List UInt8)} {i : Nat} {x : Int} (hi : i < ws.length) (e : ws.getD i [] = dx x) (h : 0 ≤ x ∧ x ≤ 9) : wdO ws i = x := by
  obtain ⟨h1, h2⟩ := dx1 h
  unfold wdO
  rw [e, h1, if_pos ⟨hi, rfl⟩]
  exact h2
theorem wdD_no {ws : List (List UInt8)} {i : Nat} (hi : ws.length ≤ i) : wdD ws i = 0 := if_neg (by omega)
theorem wdO_no {ws : List (List UInt8)} {i : Nat} (hi : ws.length ≤ i) : wdO ws i = 0 := if_neg (by omega)
theorem gk_rd {s : List UInt8} {g : Gt} (h : GOk s g) : rdS s = g ∧ rdI g.k s = g ∧ (cutA 32 [] s).getD 0 [] = gnm g.k := by
  have hw := gtT_cut h.1
  rw [h.2] at hw
  obtain ⟨_, hk, _⟩ := gok_bd h.1
  obtain ⟨_, hf⟩ := gok_facts h.1
  have hh := gtW_head g
  unfold rdS rdI
  rw [hw, hh, kfd_of hk]
  obtain ⟨k, a, b, c⟩ := g
  dsimp only at hk hf hh ⊢
  rcases hf with ⟨rfl, ha, rfl, rfl⟩ | ⟨hk2, ha, hb, _, rfl⟩ | ⟨hk2, ha, hb, hc, _⟩
  · have e : gtW ⟨0, a, 0, 0⟩ = [gnm 0, dx a] := rfl
    rw [e, wdD_at (x := a) (i := 1) (by simp) rfl (by omega), wdO_at (x := a) (i := 1) (by simp) rfl (by omega), wdD_no (i := 2) (by simp), wdO_no (i := 2) (by simp), wdD_no (i := 3) (by simp), wdO_no (i := 3) (by simp)]
    exact ⟨rfl, rfl, rfl⟩
  · have e : gtW ⟨k, a, b, 0⟩ = [gnm k, dx a, dx b] := by
      unfold gtW; dsimp only; rw [if_neg (by omega), if_pos (by omega)]
    rw [e, wdD_at (x := a) (i := 1) (by simp) rfl (by omega), wdO_at (x := a) (i := 1) (by simp) rfl (by omega), wdD_at (x := b) (i := 2) (by simp) rfl (by omega), wdO_at (x := b) (i := 2) (by simp) rfl (by omega), wdD_no (i := 3) (by simp), wdO_no (i := 3) (by simp)]
    exact ⟨rfl, rfl, rfl⟩
  · have e : gtW ⟨k, a, b, c⟩ = [gnm k, dx a, dx b, dx c] := by
      unfold gtW; dsimp only; rw [if_neg (by omega), if_neg (by omega)]
    rw [e, wdD_at (x := a) (i := 1) (by simp) rfl (by omega), wdO_at (x := a) (i := 1) (by simp) rfl (by omega), wdD_at (x := b) (i := 2) (by simp) rfl (by omega), wdO_at (x := b) (i := 2) (by simp) rfl (by omega), wdD_at (x := c) (i := 3) (by simp) rfl (by omega), wdO_at (x := c) (i := 3) (by simp) rfl (by omega)]
    exact ⟨rfl, rfl, rfl⟩
theorem gk_uni {s : List UInt8} {g g' : Gt} (h : GOk s g) (h' : GOk s g') : g = g' := (gk_rd h).1.symm.trans (gk_rd h').1
end Go.Proofs.YtnenhckongccgaaGreatDoor
namespace Go.Proofs.YtnenhckongccgaaGreatDoor
set_option linter.unusedVariables false
open Go.RowKit
theorem kon_pureZ {P : Program} {f : FuncId} {aa : List AV} {out : AV} (hent : ∀ args w, (callFunc f args).run P w = .ok (.enter f args) w)
    (hpl : aa.all (AV.on fun _ => false) = true) (hout : out.refs = [])
    (h : ∀ (w : World) (ok : Nat → Prop) (vs : Array Value), Glo w → gsz ≤ w.heap.size → (∀ b, ok b → b < w.heap.size) → vs.size = aa.length → Args0 w ok aa vs →
      Calls P f vs w fun en W' => ∃ v, en = .returned v ∧ Below w.heap.size w W' ∧ ∀ β G ok, out.rep W' β G ok v) :
    Kon P f aa [] out [] [] := by
  refine ⟨cOf (fun _ : Unit => (aa, [])) (fun _ => (out, [], [])), ⟨hent, ?_⟩, cOf_at (A := fun _ : Unit => (aa, [])) (R := fun _ => (out, [], [])) (fun _ _ _ => rfl) ()⟩
  intro aa' es out' news es' hC w vs β N hN hs hvs
  obtain ⟨_, rfl, rfl, rfl, rfl, rfl⟩ := cOf_some hC
  have hz : gsz ≤ w.heap.size := by
    rcases Nat.eq_zero_or_pos gsz with h0 | h0
    · omega
    · have := (hs.glo.2 (gsz - 1) (by omega)).2.2; omega
  refine (h w _ vs hs.glo.1 hz (fun b hb => hb.1) hvs (args_of_sim hpl hs)).mono ?_
  rintro en W' ⟨v, rfl, hB, hrep⟩
  refine ⟨v, fun _ => undef, rfl, ?_, hrep _ _ _, rfl, rfl, fun p hp => ?_⟩
  · refine { os := hB.os, tape := hB.tape, output := hB.output, glo := hs.glo, size := hB.size, block := fun k hk _ => hB.block k hk, ents := ?_, apart := ?_, fresh := ?_, pin := ?_, wide := rfl, env := ?_ }
    · intro i r e hi
      replace hi : Gout [] [] i = some (r, e) := hi
      rw [gout_nil] at hi; cases hi
    · intro i j r e r' e' b hi
      replace hi : Gout [] [] i = some (r, e) := hi
      rw [gout_nil] at hi; cases hi
    · intro i r e b hi
      replace hi : Gout [] [] i = some (r, e) := hi
      rw [gout_nil] at hi; cases hi
    · intro i e _ hi
      replace hi : Gout [] [] i = some (0, e) := hi
      rw [gout_nil] at hi; cases hi
    · intro i a ha; cases ha
  · rw [hout] at hp; cases hp
theorem calls_of_kon {P : Program} {f : FuncId} {aa : List AV} {out : AV} (hK : Kon P f aa [] out [] []) {vs : Array Value} {w : World} (hs : vs.size = aa.length) (hr : ∀ (j : Nat) (a : AV), aa[j]? = some a → ∃ z, vs[j]? = some z ∧ Rep0 w a z) (hgl : Glo w) (hgz : gsz ≤ w.heap.size) :
    Calls P f vs w fun e w' => ∃ v β G ok, e = .returned v ∧ out.rep w' β G ok v ∧ Below w.heap.size w w' := by
  obtain ⟨C, hC, h⟩ := hK
  have hG : Gin [] = fun _ => none := funext gin_nil
  have hM : ∀ b, ¬ Mof (fun _ => undef) [] b := by
    rintro b ⟨j, e, hj, _⟩
    simp at hj
  have hok : ∀ b, okB w (fun b => b < w.heap.size) (fun _ => undef) (Gin []) w b ↔ b < w.heap.size := fun b =>
    ⟨fun h => h.1, fun h => ⟨h, ownB_none gin_nil b, fun h => h⟩⟩
  have hok2 : okB w (fun b => b < w.heap.size) (fun _ => undef) (Gin []) w = fun b => b < w.heap.size := funext fun b => propext (hok b)
  have sim : Sim w (Mof (fun _ => undef) []) (fun b => b < w.heap.size) (fun _ => undef) vs.size (fun _ => undef) ⟨argsE aa, Gin []⟩ w vs := by
    refine ⟨rfl, rfl, rfl, ⟨hgl, fun b hb => ⟨by show b < w.heap.size; omega, hM b, by omega⟩⟩, Nat.le_refl _, fun _ _ _ => rfl, fun i r e hi => ?_, fun i j r e r' e' b hi => ?_, fun i r e b hi => ?_, fun i e _ hi => ?_, rfl, fun i a ha => ?_⟩
    · rw [show (⟨argsE aa, Gin []⟩ : St).G i = Gin [] i from rfl, gin_nil] at hi; cases hi
    · rw [show (⟨argsE aa, Gin []⟩ : St).G i = Gin [] i from rfl, gin_nil] at hi; cases hi
    · rw [show (⟨argsE aa, Gin []⟩ : St).G i = Gin [] i from rfl, gin_nil] at hi; cases hi
    · rw [show (⟨argsE aa, Gin []⟩ : St).G i = Gin [] i from rfl, gin_nil] at hi
    · have ha' : aa[i]? = some a := ha
      obtain ⟨z, hz, hrz⟩ := hr i a ha'
      have hlt : i < vs.size := (Array.getElem?_eq_some_iff.1 hz).1
      refine ⟨hlt, ?_⟩
      rw [hok2]
      show a.rep w _ (Gin []) _ _
      rw [hG]
      have : vs.getD i undef = z := by rw [Array.getD_eq_getD_getElem?, hz]; rfl
      rw [this]
      exact hrz
  refine (hC.does aa [] _ _ _ h w vs (fun _ => undef) (fun b => b < w.heap.size) (fun b hb => ⟨hb, hM b⟩) sim hs).mono ?_
  rintro e w' ⟨v, β', rfl, hsim, hrep, _⟩
  exact ⟨v, _, _, _, rfl, hrep, hsim.os, hsim.tape, hsim.output, hsim.size, fun k hk => hsim.block k hk (hM k)⟩
end Go.Proofs.YtnenhckongccgaaGreatDoor
namespace Go.Proofs.YtnenhckongccgaaGreatDoor
set_option linter.unusedVariables false
set_option linter.unusedSimpArgs false
theorem pigeon : ∀ (N : Nat) (f : Nat → Nat), (∀ i, i ≤ N → f i < N) → ∃ i j, i < j ∧ j ≤ N ∧ f i = f j
  | 0, f, h => absurd (h 0 (Nat.le_refl _)) (Nat.not_lt_zero _)
  | N + 1, f, h => by
    by_cases hx : ∃ i, i ≤ N ∧ f i = f (N + 1)
    · obtain ⟨i, hi, e⟩ := hx
      exact ⟨i, N + 1, by omega, Nat.le_refl _, e⟩
    · have hne : ∀ i, i ≤ N → f i ≠ f (N + 1) := fun i hi e => hx ⟨i, hi, e⟩
      have hv := h (N + 1) (Nat.le_refl _)
      obtain ⟨i, j, hij, hj, e⟩ := pigeon N (fun i => if f i = N then f (N + 1) else f i) (fun i hi => by
        have h1 := h i (by omega)
        have h2 := hne i hi
        split <;> omega)
      refine ⟨i, j, hij, by omega, ?_⟩
      have h1 := hne i (by omega)
      have h2 := hne j hj
      split at e <;> split at e <;> omega
def itT (f : Nat → Nat) : Nat → Nat → Nat
  | 0, x => x
  | p + 1, x => itT f p (f x)
structure TP (f : Nat → Nat) (N : Nat) : Prop where
  bd : ∀ x, x < N → f x < N
  inj : ∀ x y, x < N → y < N → f x = f y → x = y
theorem itT_add (f : Nat → Nat) : ∀ (a b x : Nat), itT f (a + b) x = itT f a (itT f b x)
  | a, 0, x => rfl
  | a, b + 1, x => by rw [← Nat.add_assoc, itT, itT, itT_add f a b]
theorem itT_one (f : Nat → Nat) (a x : Nat) : itT f (a + 1) x = f (itT f a x) := by
  rw [Nat.add_comm, itT_add]; rfl
section
variable {f : Nat → Nat} {N : Nat}
theorem itT_lt (h : TP f N) : ∀ (p : Nat) {x : Nat}, x < N → itT f p x < N
  | 0, x, hx => hx
  | p + 1, x, hx => itT_lt h p (h.bd x hx)
theorem itT_inj (h : TP f N) : ∀ (p : Nat) {x y : Nat}, x < N → y < N → itT f p x = itT f p y → x = y
  | 0, x, y, _, _, e => e
  | p + 1, x, y, hx, hy, e => h.inj x y hx hy (itT_inj h p (h.bd x hx) (h.bd y hy) e)
theorem comes_back (h : TP f N) {x : Nat} (hx : x < N) : ∃ p, 0 < p ∧ itT f p x = x := by
  obtain ⟨i, j, hij, _, e⟩ := pigeon N (fun i => itT f i x) (fun i _ => itT_lt h i hx)
  refine ⟨j - i, by omega, ?_⟩
  have e2 : itT f (i + (j - i)) x = itT f j x := by rw [show i + (j - i) = j by omega]
  rw [itT_add] at e2
  exact itT_inj h i (itT_lt h _ hx) hx (e2.trans e.symm)
theorem least_of {P : Nat → Prop} : ∀ (m : Nat), P m → ∃ p, P p ∧ ∀ j, j < p → ¬ P j := by
  intro m hm
  induction m using Nat.strongRecOn with
  | _ m ih =>
    by_cases hx : ∃ j, j < m ∧ P j
    · obtain ⟨j, hj, hp⟩ := hx
      exact ih j hj hp
    · exact ⟨m, hm, fun j hj hp => hx ⟨j, hj, hp⟩⟩
theorem period (h : TP f N) {x : Nat} (hx : x < N) : ∃ p, 0 < p ∧ itT f p x = x ∧ ∀ j, 0 < j → j < p → itT f j x ≠ x := by
  obtain ⟨m, hm, he⟩ := comes_back h hx
  obtain ⟨p, ⟨h1, h2⟩, h3⟩ := least_of (P := fun p => 0 < p ∧ itT f p x = x) m ⟨hm, he⟩
  exact ⟨p, h1, h2, fun j hj hlt e => h3 j hlt ⟨hj, e⟩⟩
theorem itT_dist (h : TP f N) {x p : Nat} (hx : x < N) (hp : ∀ j, 0 < j → j < p → itT f j x ≠ x) {i j : Nat} (hij : i < j) (hj : j < p) : itT f i x ≠ itT f j x := by
  intro e
  have e2 : itT f (i + (j - i)) x = itT f j x := by rw [show i + (j - i) = j by omega]
  rw [itT_add] at e2
  exact hp (j - i) (by omega) (by omega) (itT_inj h i (itT_lt h _ hx) hx (e2.trans e.symm))
theorem itT_mul {x p : Nat} (he : itT f p x = x) : ∀ k, itT f (p * k) x = x
  | 0 => rfl
  | k + 1 => by rw [Nat.mul_succ, itT_add, he, itT_mul he k]
theorem itT_mod {x p : Nat} (he : itT f p x = x) (j : Nat) : itT f j x = itT f (j % p) x := by
  conv => lhs; rw [← Nat.mod_add_div j p, itT_add, itT_mul he]
def Orb (f : Nat → Nat) (x y : Nat) : Prop := ∃ i, itT f i x = y
theorem orb_sym (h : TP f N) {x y : Nat} (hx : x < N) (ho : Orb f x y) : Orb f y x := by
  obtain ⟨i, rfl⟩ := ho
  obtain ⟨p, hp, he, _⟩ := period h hx
  refine ⟨p - i % p, ?_⟩
  rw [itT_mod he i, ← itT_add, Nat.sub_add_cancel (Nat.le_of_lt (Nat.mod_lt _ hp))]
  exact he
theorem orb_trans {x y z : Nat} (h1 : Orb f x y) (h2 : Orb f y z) : Orb f x z := by
  obtain ⟨i, rfl⟩ := h1
  obtain ⟨j, rfl⟩ := h2
  exact ⟨j + i, itT_add f j i x⟩
def Fst (f : Nat → Nat) (x : Nat) : Prop := ∀ y, Orb f x y → x ≤ y
theorem not_fst (h : TP f N) {x : Nat} (hx : x < N) : ¬ Fst f x ↔ ∃ y, y < x ∧ Orb f y x := by
  constructor
  · intro hf
    have : ∃ y, Orb f x y ∧ y < x := by
      apply Classical.byContradiction
      intro hc
      exact hf fun y hy => Nat.le_of_not_lt fun hlt => hc ⟨y, hy, hlt⟩
    obtain ⟨y, ho, hi⟩ := this
    exact ⟨y, hi, orb_sym h hx ho⟩
  · rintro ⟨y, hy, ho⟩ hf
    have := hf y (orb_sym h (Nat.lt_trans hy hx) ho)
    omega
end
noncomputable def cntF (f : Nat → Nat) : Nat → Nat
  | 0 => 0
  | k + 1 => cntF f k + (open Classical in if Fst f k then 1 else 0)
theorem cntF_le (f : Nat → Nat) : ∀ k, cntF f k ≤ k
  | 0 => Nat.le_refl _
  | k + 1 => by
    have := cntF_le f k
    rw [cntF]
    split <;> omega
section
variable {f : Nat → Nat} {N a b : Nat}
end
section
variable {n : Int}
def crN (c : List Gt) (v : Nat) : Nat := (cr c (v : Int)).toNat
theorem crN_lt {c : List Gt} (h : c.all (gok n) = true) {v : Nat} (hv : v < 2 ^ n.toNat) : crN c v < 2 ^ n.toNat ∧ ((crN c v : Nat) : Int) = cr c (v : Int) := by
  have hc : ((v : Nat) : Int) < 2 ^ n.toNat := by
    have : ((v : Nat) : Int) < ((2 ^ n.toNat : Nat) : Int) := Int.ofNat_lt.2 hv
    rwa [Int.natCast_pow] at this
  obtain ⟨h1, h2⟩ := cr_lt h ⟨Int.natCast_nonneg v, hc⟩
  unfold crN
  have h3 : (cr c (v : Int)) < ((2 ^ n.toNat : Nat) : Int) := by rw [Int.natCast_pow]; exact h2
  omega
theorem crN_tp {c : List Gt} (h : c.all (gok n) = true) : TP (crN c) (2 ^ n.toNat) := by
  refine ⟨fun x hx => (crN_lt h hx).1, fun x y hx hy e => ?_⟩
  have e2 : cr c (x : Int) = cr c (y : Int) := by rw [← (crN_lt h hx).2, ← (crN_lt h hy).2, e]
  have hb : ∀ v : Nat, v < 2 ^ n.toNat → 0 ≤ (v : Int) ∧ (v : Int) < 2 ^ n.toNat := fun v hv => by
    have : ((v : Nat) : Int) < ((2 ^ n.toNat : Nat) : Int) := Int.ofNat_lt.2 hv
    rw [Int.natCast_pow] at this
    exact ⟨Int.natCast_nonneg v, this⟩
  have e3 := congrArg (cr c.reverse) e2
  rw [cr_back h (hb x hx), cr_back h (hb y hy)] at e3
  omega
end
def nmX (ns : List Int) (x : Int) : Int := ns.getD x.toNat 0
structure Perm (n : Int) (ns : List Int) : Prop where
  len : (ns.length : Int) = n
  bd : ∀ x : Int, 0 ≤ x ∧ x < n → 0 ≤ nmX ns x ∧ nmX ns x < n
  inj : ∀ x y : Int, 0 ≤ x ∧ x < n → 0 ≤ y ∧ y < n → nmX ns x = nmX ns y → x = y
section
variable {n : Int} {ns : List Int}
end
end Go.Proofs.YtnenhckongccgaaGreatDoor
namespace Go.Proofs.YtnenhckongccgaaGreatDoor
set_option linter.unusedVariables false
set_option linter.unusedSimpArgs false
open Go.Lib (decDigits)
abbrev g0 : Gt := ⟨0, 0, 0, 0⟩
def dnm (k : Int) : List UInt8 := if k = 0 then [102, 111, 114, 116, 104] else if k = 1 then [98, 97, 99, 107] else if k = 2 then [112, 117, 116] else if k = 3 then [116, 97, 107, 101] else [115, 104, 111, 114, 116]
def dtx (k n : Int) (p : Gt) : List UInt8 :=
  if k = 0 ∨ k = 1 then (if p = g0 ∧ 1 ≤ n ∧ n ≤ 99 then dnm k ++ [32] ++ dx n else [])
  else if k = 2 then (if n = 0 ∧ gok 8 p = true then dnm 2 ++ [32] ++ gtT p else [])
  else if k = 3 ∨ k = 4 then (if n = 0 ∧ p = g0 then dnm k else [])
  else []
def DOk (s : List UInt8) (k n : Int) (p : Gt) : Prop := dtx k n p = s ∧ s ≠ []
theorem dnm_no (k : Int) : (dnm k).contains 32 = false := by
  unfold dnm
  repeat (split; rfl)
  rfl
theorem dnm_len (k : Int) : 3 ≤ (dnm k).length ∧ (dnm k).length ≤ 5 := by
  unfold dnm
  repeat (split; decide)
  decide
theorem dnm_inj5 : ∀ i j : Fin 5, (dnm (i.val : Int) == dnm (j.val : Int)) = (i == j) := by decide +kernel
theorem dnm_inj {k k' : Int} (h : 0 ≤ k ∧ k ≤ 4) (h' : 0 ≤ k' ∧ k' ≤ 4) (e : dnm k = dnm k') : k = k' := by
  have := dnm_inj5 ⟨k.toNat, by omega⟩ ⟨k'.toNat, by omega⟩
  dsimp only at this
  rw [show ((k.toNat : Nat) : Int) = k by omega, show ((k'.toNat : Nat) : Int) = k' by omega, e, beq_self_eq_true] at this
  have h2 := eq_of_beq this.symm
  have h3 := congrArg Fin.val h2
  dsimp only at h3
  omega
theorem d_cases {s : List UInt8} {k n : Int} {p : Gt} (h : DOk s k n p) :
    ((k = 0 ∨ k = 1) ∧ p = g0 ∧ (1 ≤ n ∧ n ≤ 99) ∧ s = dnm k ++ 32 :: dx n ∧ cutA 32 [] s = [dnm k, dx n]) ∨
    (k = 2 ∧ n = 0 ∧ gok 8 p = true ∧ s = dnm 2 ++ 32 :: gtT p ∧ cutA 32 [] s = dnm 2 :: gtW p) ∨
    ((k = 3 ∨ k = 4) ∧ n = 0 ∧ p = g0 ∧ s = dnm k ∧ cutA 32 [] s = [dnm k]) := by
  obtain ⟨h, hne⟩ := h
  unfold dtx at h
  split at h
  · rename_i hk
    split at h
    · rename_i hc
      refine .inl ⟨hk, hc.1, hc.2, by rw [← h]; simp, ?_⟩
      rw [← h]
      exact cut2 (dnm_no k) (dx_no (by omega))
    · exact absurd h.symm hne
  split at h
  · rename_i hk
    split at h
    · rename_i hc
      refine .inr (.inl ⟨hk, hc.1, hc.2, by rw [← h]; simp, ?_⟩)
      rw [← h, show dnm 2 ++ [32] ++ gtT p = dnm 2 ++ 32 :: gtT p by simp, cutA_app (dnm_no 2), gtT_cut hc.2]
      rfl
    · exact absurd h.symm hne
  split at h
  · rename_i hk
    split at h
    · rename_i hc
      refine .inr (.inr ⟨hk, hc.1, hc.2, h.symm, ?_⟩)
      rw [← h, cutA_end (dnm_no k)]
      rfl
    · exact absurd h.symm hne
  · exact absurd h.symm hne
theorem d_kind {s : List UInt8} {k n : Int} {p : Gt} (h : DOk s k n p) : 0 ≤ k ∧ k ≤ 4 := by
  rcases d_cases h with ⟨hk, _⟩ | ⟨hk, _⟩ | ⟨hk, _⟩ <;> omega
theorem d_head {s : List UInt8} {k n : Int} {p : Gt} (h : DOk s k n p) : (cutA 32 [] s).getD 0 [] = dnm k := by
  rcases d_cases h with ⟨_, _, _, _, e⟩ | ⟨rfl, _, _, _, e⟩ | ⟨_, _, _, _, e⟩ <;> rw [e] <;> rfl
theorem d_uni {s : List UInt8} {k n k' n' : Int} {p p' : Gt} (h : DOk s k n p) (h' : DOk s k' n' p') : k = k' ∧ n = n' ∧ p = p' := by
  have hk := dnm_inj (d_kind h) (d_kind h') ((d_head h).symm.trans (d_head h'))
  subst hk
  rcases d_cases h with ⟨hk, hp, hn, e, _⟩ | ⟨hk, hn, hp, e, _⟩ | ⟨hk, hn, hp, e, _⟩ <;> rcases d_cases h' with ⟨hk2, hp2, hn2, e2, _⟩ | ⟨hk2, hn2, hp2, e2, _⟩ | ⟨hk2, hn2, hp2, e2, _⟩
  all_goals first
    | (exfalso; omega)
    | skip
  · rw [e] at e2
    have e3 := List.append_cancel_left e2
    injection e3 with _ e4
    exact ⟨rfl, dx_inj (by omega) (by omega) e4, by rw [hp, hp2]⟩
  · rw [e] at e2
    have e3 := List.append_cancel_left e2
    injection e3 with _ e4
    exact ⟨rfl, by omega, gk_uni ⟨hp, e4⟩ ⟨hp2, rfl⟩⟩
  · exact ⟨rfl, by omega, by rw [hp, hp2]⟩
theorem dtx_eq {s : List UInt8} (hs : s ≠ []) {k n : Int} {p : Gt} : (dtx k n p == s) = true ↔ DOk s k n p := by
  rw [beq_iff_eq]
  exact ⟨fun h => ⟨h, hs⟩, fun h => h.1⟩
theorem dtx_len (k n : Int) (p : Gt) : (dtx k n p).length ≤ 20 := by
  have hl := dnm_len k
  have h2 := dnm_len 2
  unfold dtx
  split
  · split
    · rename_i hc
      have : 1 ≤ (dx n).length ∧ (dx n).length ≤ 2 := (dd2_of (n := n.toNat) (by omega)).2.2.2
      simp only [List.length_append, List.length_cons, List.length_nil]; omega
    · simp
  split
  · split
    · rename_i hc
      have := gtT_len hc.2
      simp only [List.length_append, List.length_cons, List.length_nil]; omega
    · simp
  split
  · split
    · omega
    · simp
  · simp
def kft (w : List UInt8) : Nat → Int
  | 0 => -1
  | j + 1 => if (w == gnm (j : Int)) = true then (j : Int) else kft w j
theorem kft_5 (w : List UInt8) : kft w 5 = kfd w := by
  have e : ∀ i : Nat, (w == gnm (i : Int)) = true ↔ w = gnm (i : Int) := fun i => beq_iff_eq
  unfold kfd
  simp only [kft, e]
  by_cases h0 : w = gnm 0
  · subst h0; decide
  by_cases h1 : w = gnm 1
  · subst h1; decide
  by_cases h2 : w = gnm 2
  · subst h2; decide
  by_cases h3 : w = gnm 3
  · subst h3; decide
  by_cases h4 : w = gnm 4
  · subst h4; decide
  rw [if_neg h0, if_neg h1, if_neg h2, if_neg h3, if_neg h4]
  rw [if_neg (show ¬ w = gnm ((4 : Nat) : Int) from h4), if_neg (show ¬ w = gnm ((3 : Nat) : Int) from h3), if_neg (show ¬ w = gnm ((2 : Nat) : Int) from h2), if_neg (show ¬ w = gnm ((1 : Nat) : Int) from h1), if_neg (show ¬ w = gnm ((0 : Nat) : Int) from h0)]
theorem no_gtx {s : List UInt8} (hs : s ≠ []) (h : ∀ g, ¬ GOk s g) (g : Gt) : (gtx g == s) = false := by
  rw [Bool.eq_false_iff]
  intro e
  exact h _ ((gtx_eq hs).1 e)
def RG (s : List UInt8) (g : Gt) (b : Bool) : Prop := (b = true ∧ GOk s g) ∨ (b = false ∧ g = g0 ∧ ∀ g', ¬ GOk s g')
theorem gok_nil (g : Gt) : ¬ GOk [] g := fun h => gtT_ne g h.2
theorem rg_all (s : List UInt8) : ∃ g b, RG s g b := by
  by_cases h : ∃ g, GOk s g
  · obtain ⟨g, h⟩ := h; exact ⟨g, true, .inl ⟨rfl, h⟩⟩
  · exact ⟨g0, false, .inr ⟨rfl, rfl, fun g' hg => h ⟨g', hg⟩⟩⟩
end Go.Proofs.YtnenhckongccgaaGreatDoor
namespace Go.Proofs.YtnenhckongccgaaGreatDoor
set_option linter.unusedVariables false
set_option linter.unusedSimpArgs false
open Go.RowKit
section
variable {P : Program} {T : Tab} {S : St} {w0 w w' : World} {M N : Nat → Prop} {b0 : Nat → Value} {nt : Nat} {β : Nat → Value} {tm : Array Value} {ds : List Deferred} {next : Act → World → Prop} {Q : Exit → Act → World → Prop} {o : Oper} {K : St → Prop}
theorem s_append_sl (hT : TabOk P T) {x y : Operand} {t e sz by' m i r n d : Nat} {agg : Bool} {z news l : List Value} (ho : o.op = .call { callee := .builtin .append, args := #[x, y], argTypes := #[t, t] }) (hdst : o.dst = some d) (hl : find1 T.elt t = some (none, e, agg, sz, by')) (hz : find1 T.zer e = some z) (hzl : z.length = sz)
    (hsrc : RoRep w (fun b => b < w.heap.size) sz m news (Act.eval ⟨tm, ds⟩ y)) (hra : AC.rep w β S.G (okB w0 N β S.G w) (.sl i r n) (Act.eval ⟨tm, ds⟩ x)) (hG : S.G i = some (r, .row (some e) sz l)) (hle : n * sz ≤ l.length) (g1 : n + m ≤ maxLen) (g2 : (n + m) * by' ≤ 140737488355328)
    (hs : Sim w0 M N b0 nt β S w tm) (hd : d < nt) (hk : K ((S.lay i (some (r + 1, .row (some e) sz (l.take (n * sz) ++ news)))).put d (some (.g (.one (.sl i (r + 1) (n + m))))))) (hn : Nx w0 M N b0 nt ds K next) : o.wp P ⟨tm, ds⟩ w next Q := by
  obtain ⟨hu, hlay, hpos, i0, hi, hby, hisz⟩ := elt_facts hT hl
  obtain ⟨i', z1, hi', hz1, hzc, hz2⟩ := zer_facts hT hz
  have ei : i' = i0 := by rw [hi] at hi'; exact (Option.some.inj hi').symm
  subst ei
  have hzs : z1.cells.size = sz := by rw [hzc]; simpa using hzl
  obtain ⟨⟨n1, n2⟩, A, c, hy, n3, n4, n5⟩ := hsrc
  have happ : ∀ (v : Value) (n : Nat) (xs : List Value), ownR w e sz v n xs → n + m ≤ maxLen → (n + m) * by' ≤ 140737488355328 → ∃ v' w', (Builtin.append_ #[t, t] o.type #[v, Act.eval ⟨tm, ds⟩ y]).run P w = .ok v' w' ∧ ownR w' e sz v' (n + m) (xs ++ news) ∧ w.grownBy w' v.ownBlock ∧ (v'.ownBlock = v.ownBlock ∨ v'.ownBlock = some w.heap.size) := by
    intro v n xs hown g1 g2
    rw [hy]
    cases A with
    | none =>
      have hm : m = 0 := by
        rcases Nat.eq_zero_or_pos m with h0 | h0
        · exact h0
        · obtain ⟨b, off, hA, _⟩ := n5 h0; cases hA
      subst hm
      have hnews : news = [] := List.eq_nil_of_length_eq_zero (by omega)
      subst hnews
      refine ⟨v, w, ?_, by simpa using hown, World.grownBy.refl w _, .inl rfl⟩
      rcases hown.2 with ⟨rfl, rfl⟩ | ⟨g, cap, cur, rfl, _, _, hnc, _⟩
      · simp [Builtin.append_, run_underlying hu, sizeOf, typeInfo, hi, Builtin.lenOf, Builtin.firstCells]
      · simp [Builtin.append_, run_underlying hu, sizeOf, typeInfo, hi, Builtin.lenOf, Builtin.firstCells, hnc, storeCells]
    | some ad =>
      have hcells : ∀ j u, news[j]? = some u → w.cell? (ad.add j) = some u := by
        intro j u hu'
        rcases Nat.eq_zero_or_pos m with h0 | h0
        · subst h0
          have hnews : news = [] := List.eq_nil_of_length_eq_zero (by omega)
          subst hnews; simp at hu'
        · obtain ⟨b, off, hA, _, hc⟩ := n5 h0
          cases hA
          rw [add_lit]; exact hc j u hu'
      obtain ⟨v', w', k1, k2, k3, k5⟩ := run_append_ownR (P := P) w t o.type e i' z1 sz by' hu hi hz1 hisz hby hzs hpos v n xs hown ad m c news n1 hcells (fun u hu' => (List.all_eq_true.1 n2) u hu') g1 g2
      exact ⟨v', w', k1, k2, k3, k5⟩
  have hexec : ∀ {v' : Value} {w' : World}, (Builtin.append_ #[t, t] o.type #[Act.eval ⟨tm, ds⟩ x, Act.eval ⟨tm, ds⟩ y]).run P w = .ok v' w' → (execOp (Act.eval ⟨tm, ds⟩) o).run P w = .ok (.value v') w' := by
    intro v' w' hr
    unfold execOp
    simp only [ho, resolve, invoke, builtin, Sem.run_bind, Sem.run_pure, Result.andThen_ok, List.map_toArray, List.map_cons, List.map_nil, hr]
  have own_blk : ∀ {v' : Value} {w' : World} {n : Nat} {xs : List Value}, ownR w' e sz v' n xs → blk? v' = v'.ownBlock ∧ ∀ b, blk? v' = some b → b < w'.heap.size := by
    intro v' w' n xs h
    refine ⟨?_, fun b hb => ?_⟩
    · rcases h.2 with ⟨rfl, _⟩ | ⟨g, cap, cur, rfl, _⟩ <;> rfl
    · rcases h.2 with ⟨rfl, _⟩ | ⟨g, cap, cur, rfl, _, hg, _⟩
      · cases hb
      · cases hb; exact (Array.getElem?_eq_some_iff.1 hg).1
  have sl_of : ∀ {v' : Value} {w' : World} {n : Nat} {xs : List Value}, ownR w' e sz v' n xs → ∃ A c, v' = .slice A n c := by
    intro v' w' n xs h
    rcases h.2 with ⟨rfl, rfl⟩ | ⟨g, cap, cur, rfl, _⟩
    · exact ⟨_, _, rfl⟩
    · exact ⟨_, _, rfl⟩
  obtain ⟨A1, m1, cap, q1, q2, q3⟩ := hs.cur_sl hra hG
  obtain ⟨p0, e2, n6, p1, p2⟩ := hs.ents i r _ hG
  have e3 := p1 _ rfl
  subst e3
  rw [q1] at p2
  have hn6 : n6 = m1 := by
    rcases p2.2 with ⟨p3, rfl⟩ | ⟨g, cap', cur, p3, _⟩
    · cases p3; rfl
    · cases p3; rfl
  subst hn6
  obtain ⟨v', w', k1, k2, k3, k4⟩ := happ _ n _ (own_prefix p2 q2) g1 g2
  obtain ⟨o1, o2⟩ := own_blk k2
  obtain ⟨A', c', rfl⟩ := sl_of k2
  have hown : (Value.slice A1 n cap).ownBlock = blk? (β i) := by rw [q1]; cases A1 <;> rfl
  obtain ⟨β', h1, h2, h3, h4⟩ := hs.change1 (w' := w') i (r + 1) (.row (some e) sz (l.take (n * sz) ++ news)) (.slice A' (n + m) c') k3.os k3.tape k3.output k3.size
    (fun r1 e1 hg => by rw [hG] at hg; cases hg; exact ⟨Nat.le_succ _, fun he => by omega⟩)
    (fun k hk hne => k3.block k hk (fun ek => hne r _ hG trivial (by rw [← hown]; exact ek.symm)))
    (fun b _ hb => ⟨o2 b hb, by
      rw [o1] at hb
      rcases k4 with k4 | k4
      · right; exact ⟨r, _, hG, trivial, by rw [← hown, ← k4]; exact hb⟩
      · left; rw [k4] at hb; cases hb; exact Nat.le_refl _⟩)
    (fun _ => ⟨_, hG⟩)
    (fun β' G' _ _ hok hold hβ => ⟨by
        rw [List.all_append, Bool.and_eq_true]
        refine ⟨?_, n2⟩
        rw [List.all_eq_true] at p0 ⊢
        exact fun x hx => p0 x (List.mem_of_mem_take hx), e, n + m, fun x hx => by cases hx; rfl, by rw [hβ]; exact k2⟩)
  have hk' : (putD o.dst (.g (.one (.sl i (r + 1) (n + m))))).run Ft.all (S.lay i (some (r + 1, .row (some e) sz (l.take (n * sz) ++ news)))) K := by rw [hdst]; exact ⟨rfl, hk⟩
  exact wp_value (hexec (by rw [q3]; exact k1)) (putD_run hk' h1 (fun t ht => by rw [hdst] at ht; cases ht; exact hd) ⟨rfl, r + 1, _, upd_same _ _ _, Nat.le_refl _, fun _ => ⟨_, n + m, _, h2, Nat.le_refl _, rfl⟩⟩ hn)
def WX (P : Program) (nt : Nat) (ops : Array Oper) (l : List Oper) (S : St) (K : St → Prop) : Prop :=
  ∀ w0 M N b0 β w tm, Sim w0 M N b0 nt β S w tm → wpList P ops (fun e a w' => ∃ β' S', (e = .normal ∧ K S') ∧ Sim w0 M N b0 nt β' S' w' a.tmps ∧ a.defers = []) l ⟨tm, []⟩ w
theorem wx_region {id : Nat} {l : List Oper} {KE : Exit → St → Prop} (h : WX P nt l.toArray l S (KE .normal)) : AW P nt (.region id l.toArray false) KE S := fun w0 M N b0 β w tm hs =>
  wp_mono (wp_region_lit (h w0 M N b0 β w tm hs)) fun e a w' ⟨β', S', ⟨he, hk⟩, h2⟩ => by subst he; exact ⟨β', S', hk, h2⟩
theorem wx_end (hT : TabOk P T) {cf : FuncId → Option (List AV → Option Tmp → AM)} (hcf : ∀ f m, cf f = some m → GoodCall P f m) {ops : Array Oper} {i : Nat} {l : List Oper} (hd : (l.all fun o => match o.dst with | some d => decide (d < nt) | none => true) = true) (h : runX Fa P T cf ops i l S K) : WX P nt ops l S K := fun w0 M N b0 β w tm hs =>
  runX_sound hT hcf l i S β w tm (fun o ho t ht => by
    have := (List.all_eq_true.1 hd) o ho
    rw [ht] at this
    simpa using this) h hs (fun S' β' w' tm' hK hs' => ⟨β', S', ⟨rfl, hK⟩, hs', rfl⟩)
theorem wx_app (hT : TabOk P T) {cf : FuncId → Option (List AV → Option Tmp → AM)} (hcf : ∀ f m, cf f = some m → GoodCall P f m) {ops : Array Oper} {l2 : List Oper} : ∀ {l1 : List Oper} {i : Nat} {S : St}, (∀ o ∈ l1, ∀ t, o.dst = some t → t < nt) → runX Fa P T cf ops i l1 S (fun S' => WX P nt ops l2 S' K) → WX P nt ops (l1 ++ l2) S K
  | [], i, S, _, h => h
  | o :: l1, i, S, hd, h => fun w0 M N b0 β w tm hs => by
    have h1 : (gop P T cf ops o).run (Fa i) S (fun S' => WX P nt ops (l1 ++ l2) S' K) :=
      AM.run_mono (fun S' h' => wx_app hT hcf (fun o' ho' => hd o' (List.mem_cons_of_mem _ ho')) h') _ _ h
    refine wpList_step fun K' hK' => ?_
    exact gop_sound hT hcf h1 hs (hd o (List.mem_cons_self)) (fun S' β' w' tm' hk hs' => hK' _ _ (hk w0 M N b0 β' w' tm' hs'))
theorem wx_run (k : Nat) (hT : TabOk P T) {cf : FuncId → Option (List AV → Option Tmp → AM)} (hcf : ∀ f m, cf f = some m → GoodCall P f m) {ops : Array Oper} {l : List Oper} (hd : (l.all fun o => match o.dst with | some d => decide (d < nt) | none => true) = true)
    (h : runX Fa P T cf ops 0 (l.take k) S (fun S' => WX P nt ops (l.drop k) S' K)) : WX P nt ops l S K := by
  have := wx_app hT hcf (l1 := l.take k) (l2 := l.drop k) (fun o ho t ht => by
    have := (List.all_eq_true.1 hd) o (List.mem_of_mem_take ho)
    rw [ht] at this
    simpa using this) h
  rwa [List.take_append_drop] at this
theorem wx_piece (hT : TabOk P T) {t e sz by' j r n i r2 n2 d1 d2 tx tl ty ty1 ty2 : Nat} {p : Int} {pos pos2 : String} {af af2 : Array Edge} {agg : Bool} {z L L2 : List Value} {ops : Array Oper} {rest : List Oper}
    (hd : (Nat.blt d1 nt && Nat.blt d2 nt && !(Nat.beq d1 ty)) = true) (hl : find1 T.elt t = some (none, e, agg, sz, by')) (hz : find1 T.zer e = some z) (hzl : z.length = sz) (hx : S.E tx = some (.g (.one (.sl j r n)))) (hp : S.E tl = some (vI p)) (hG : S.G j = some (r, .row (some e) sz L)) (hy : S.E ty = some (.g (.one (.sl i r2 n2)))) (hG2 : S.G i = some (r2, .row (some e) sz L2))
    (hb : Nat.ble by' 1000 = true) (h1 : L.length = n * sz) (h2 : L2.length = n2 * sz) (h3 : 0 ≤ p ∧ p ≤ n ∧ n ≤ 1000000 ∧ n2 ≤ 1000000)
    (hk : WX P nt ops rest (((S.put d1 none).lay i (some (r2 + 1, .row (some e) sz (L2 ++ L.drop (p.toNat * sz))))).put d2 (some (.g (.one (.sl i (r2 + 1) (n2 + ((n : Int) - p).toNat)))))) K) :
    WX P nt ops (⟨some d1, .slice t (.tmp tx) (some (.tmp tl)) none none, ty1, pos, af, none⟩ :: ⟨some d2, .call { callee := .builtin .append, args := #[.tmp ty, .tmp d1], argTypes := #[t, t] }, ty2, pos2, af2, none⟩ :: rest) S K := fun w0 M N b0 β w tm hs => by
  obtain ⟨hpos0, _⟩ := elt_facts hT hl
  have hpos : 0 < sz := (elt_facts hT hl).2.2.1
  simp only [Bool.and_eq_true, Bool.not_eq_true', beq_eq_false_iff_ne] at hd
  obtain ⟨⟨hd1, hd2⟩, hd3⟩ := hd
  have hd1 := blt_lt hd1
  have hd2 := blt_lt hd2
  have hd3' : ty ≠ d1 := fun e => by rw [e] at hd3; simp at hd3
  obtain ⟨hx1, hx2⟩ := hs.env tx _ hx
  obtain ⟨hp1, hp2⟩ := hs.env tl _ hp
  obtain ⟨n', l', ⟨⟨rfl, rfl⟩, _⟩, hro⟩ := getSl_run (F := Ft.all) (S := S) (K := fun _ => True) (sz := sz) (k := fun n' l' => .need (n' = n ∧ l' = L) .done) (x := .g (.one (.sl j r n))) ⟨rfl, by rw [hG]; exact ⟨⟨rfl, rfl, hpos, h1⟩, ⟨rfl, rfl⟩, trivial⟩⟩ hs hx2
  obtain ⟨v, hv1, hv2⟩ := ro_piece (P := P) (lv := some (.int .i64 p)) (hv := none) (mv := none) (l := p) (h' := n') (m := n') hT by' hro hl rfl rfl rfl h3.1 h3.2.1 (Int.le_refl _) (Int.le_refl _) (fun h => rfl)
  refine wpList_plain rfl fun K1 hK1 => wp_value (v := v) (w' := w) ?_ (hK1 _ _ ?_)
  · unfold execOp
    have e1 : Act.eval ⟨tm, []⟩ (.tmp tl) = .int .i64 p := hp2.1
    have e2 : Act.eval ⟨tm, []⟩ (.tmp tx) = tm.getD tx undef := rfl
    simp only [Option.map_some, Option.map_none, e1, e2, Sem.run_bind, hv1, Result.andThen_ok, Sem.run_pure]
  · have hs1 := hs.del d1 v
    have eL : (l'.drop (p.toNat * sz)).take (((n' : Int) - p).toNat * sz) = l'.drop (p.toNat * sz) := by
      apply List.take_of_length_le
      rw [List.length_drop, h1, ← Nat.sub_mul]
      exact Nat.mul_le_mul_right _ (by omega)
    rw [eL] at hv2
    refine wpList_plain rfl fun K2 hK2 => ?_
    obtain ⟨hy1, hy2⟩ := hs1.env ty _ (show (S.put d1 none).E ty = _ by rw [show (S.put d1 none).E ty = S.E ty from (upd_ne S.E none hd3')]; exact hy)
    have ev : Act.eval ⟨tm.setIfInBounds d1 v, []⟩ (.tmp d1) = v := by
      show (tm.setIfInBounds d1 v).getD d1 undef = v
      have : d1 < tm.size := by rw [hs.wide]; exact hd1
      simp [Array.getD_eq_getD_getElem?, this]
    have eL2 : L2.take (n2 * sz) = L2 := List.take_of_length_le (by omega)
    have hby : by' ≤ 1000 := Nat.le_of_ble_eq_true hb
    have hm : (n2 + ((n' : Int) - p).toNat) ≤ 2000000 := by omega
    refine s_append_sl hT (m := ((n' : Int) - p).toNat) rfl rfl hl hz hzl (by rw [ev]; exact hv2) hy2 hG2 (by omega) (by unfold maxLen; omega) ?_ hs1 hd2 (K := fun S' => WX P nt ops rest S' K) (by rw [eL2]; exact hk) (fun S' β' w' tm' hk' hs' => hK2 _ _ (hk' w0 M N b0 β' w' tm' hs'))
    calc (n2 + ((n' : Int) - p).toNat) * by' ≤ 2000000 * 1000 := Nat.mul_le_mul hm hby
      _ ≤ 140737488355328 := by decide
end
def tw : Grp → Nat → Nat → Bool
  | [], _, _ => false
  | p :: l, e, i => (Nat.beq p.1 e && p.2.contains i) || tw l e i
def tc2 : Grp → Nat → Nat → Bool
  | [], _, _ => false
  | p :: l, e, i => (Nat.beq p.1 e && (p.2.contains i || p.2.contains (i + 1000))) || tc2 l e i
theorem tc2_wc : ∀ {W : Grp} {e i : Nat}, tc2 W e i = true → wc W e = true
  | [], e, i, h => by cases h
  | p :: l, e, i, h => by
    simp only [tc2, wc, Bool.or_eq_true, Bool.and_eq_true] at h ⊢
    rcases h with h | h
    · exact .inl h.1
    · exact .inr (tc2_wc h)
theorem tw_tc : ∀ {W : Grp} {e i : Nat}, tw W e i = true → tc2 W e i = true
  | [], e, i, h => by cases h
  | p :: l, e, i, h => by
    simp only [tw, tc2, Bool.or_eq_true, Bool.and_eq_true] at h ⊢
    rcases h with h | h
    · exact .inl ⟨h.1, .inl h.2⟩
    · exact .inr (tw_tc h)
theorem tw_f {W : Grp} {e i : Nat} (h : tc2 W e i = false) : tw W e i = false := by
  cases hq : tw W e i with
  | false => rfl
  | true => rw [tw_tc hq] at h; cases h
def offB2 (W : Grp) (i j : Nat) : Bool := W.all fun p => !(tw W p.1 i && tc2 W p.1 j) && !(tc2 W p.1 i && tw W p.1 j)
theorem off_tc2 {W : Grp} {i j e : Nat} (h : offB2 W i j = true) : ¬ (tw W e i = true ∧ tc2 W e j = true) ∧ ¬ (tc2 W e i = true ∧ tw W e j = true) := by
  constructor
  · rintro ⟨h1, h2⟩
    obtain ⟨p, hp, rfl⟩ := wc_mem (tc2_wc h2)
    have := (List.all_eq_true.1 h) p hp
    rw [h1, h2] at this
    simp at this
  · rintro ⟨h1, h2⟩
    obtain ⟨p, hp, rfl⟩ := wc_mem (tc2_wc h1)
    have := (List.all_eq_true.1 h) p hp
    rw [h1, h2] at this
    simp at this
def Fd2 (ops : Array Oper) (W : Grp) (i : Nat) : Ft where
  sr s := match ops[i]? with
    | some o => (o.looksAt ops).contains s
    | none => false
  sw s := dstOf ops i == some s
  er e := (!wc W e || tc2 W e i) && (List.range ops.size).all (fun j => match dstOf ops j with
    | some d => !(e / 16 == d) || j == i || (mskOf ops i).testBit j
    | none => true)
  ew e := tw W e i || (match dstOf ops i with
    | some d => e / 16 == d
    | none => false)
def drawB2 (ops : Array Oper) (W : Grp) : Bool :=
  (List.range ops.size).all fun i =>
    (afterOf ops i).all (fun e => !Region.binds .any e || decide (e.on < i)) &&
    (List.range ops.size).all (fun j => !(mskOf ops i).testBit j || (decide (j < i) && (afterOf ops i).any (fun e => Region.binds .any e && (e.on == j || (mskOf ops e.on).testBit j)))) &&
    (List.range i).all (fun j => (mskOf ops i).testBit j || ((match ops[j]?, ops[i]? with
      | some x, some y => Oper.apart ops x y
      | _, _ => false) && offB2 W i j)) &&
    (W.all fun p => tc2 W p.1 i || match dstOf ops i with
      | some d => !(p.1 / 16 == d)
      | none => true)
section
variable {ops : Array Oper} {W : Grp}
structure DrawOk2 (ops : Array Oper) (W : Grp) : Prop where
  c1 : ∀ i, i < ops.size → ∀ e ∈ afterOf ops i, Region.binds .any e = true → e.on < i
  c2 : ∀ i j, i < ops.size → j < ops.size → (mskOf ops i).testBit j = true → j < i ∧ ∃ e ∈ afterOf ops i, Region.binds .any e = true ∧ (e.on = j ∨ (mskOf ops e.on).testBit j = true)
  c3 : ∀ i j, i < ops.size → j < i → (mskOf ops i).testBit j = true ∨ (∃ x y, ops[j]? = some x ∧ ops[i]? = some y ∧ Oper.apart ops x y = true ∧ ∀ e, ¬ (tw W e i = true ∧ tc2 W e j = true) ∧ ¬ (tc2 W e i = true ∧ tw W e j = true))
  c4 : ∀ i, i < ops.size → ∀ e, wc W e = true → ∀ d, dstOf ops i = some d → tc2 W e i = false → e / 16 ≠ d
theorem drawOk_of2 (h : drawB2 ops W = true) : DrawOk2 ops W := by
  have h1 : ∀ i, i < ops.size → _ := fun i hi => (List.all_eq_true.1 h) i (List.mem_range.2 hi)
  simp only [Bool.and_eq_true, List.all_eq_true, List.mem_range] at h1
  refine ⟨fun i hi e he hb => ?_, fun i j hi hj hb => ?_, fun i j hi hj => ?_, fun i hi e he d hd hni => ?_⟩
  · have := (h1 i hi).1.1.1 e he
    simpa [hb] using this
  · have := (h1 i hi).1.1.2 j hj
    simp only [hb, Bool.not_true, Bool.false_or, Bool.and_eq_true, decide_eq_true_eq, List.any_eq_true, Bool.or_eq_true, beq_iff_eq] at this
    obtain ⟨a, e, he, hbe, hc⟩ := this
    exact ⟨a, e, he, hbe, hc⟩
  · have := (h1 i hi).1.2 j hj
    cases hb : (mskOf ops i).testBit j with
    | true => exact .inl rfl
    | false =>
      right
      simp only [hb, Bool.false_or, Bool.and_eq_true] at this
      obtain ⟨a, b⟩ := this
      split at a
      · rename_i x y hx hy
        exact ⟨x, y, hx, hy, a, fun e => off_tc2 b⟩
      · cases a
  · have h2 := (h1 i hi).2
    obtain ⟨p, hp, rfl⟩ := wc_mem he
    have := h2 p hp
    rw [hni, Bool.false_or, hd] at this
    simpa using this
theorem fd_apart2 (h : DrawOk2 ops W) {i j : Nat} (hi : i < ops.size) (hj : j < i) (hb : (mskOf ops i).testBit j = false) : (Fd2 ops W j).apart (Fd2 ops W i) := by
  obtain ⟨x, y, hx, hy, hap, hT⟩ := (h.c3 i j hi hj).resolve_left (by rw [hb]; simp)
  obtain ⟨a1, a2, a3⟩ := Oper.apart_spec hap
  have hdj : dstOf ops j = x.dst := by simp [dstOf, hx]
  have hdi : dstOf ops i = y.dst := by simp [dstOf, hy]
  have hji : j < ops.size := by omega
  have hbj : (mskOf ops j).testBit i = false := by
    cases hq : (mskOf ops j).testBit i with
    | false => rfl
    | true => have := (h.c2 j i hji hi hq).1; omega
  refine ⟨fun s hs => ?_, fun s hs => ?_, fun e he => ?_, fun e he => ?_⟩
  · simp only [Fd2, hdj, beq_iff_eq] at hs
    refine ⟨?_, ?_⟩
    · simp only [Fd2, hy]; simpa using a1 s hs
    · simp only [Fd2, hdi, beq_eq_false_iff_ne]; exact fun hq => a2 s hs hq
  · simp only [Fd2, hdi, beq_iff_eq] at hs
    simp only [Fd2, hx]; simpa using a3 s hs
  · have hW : wc W e = true → ∀ k, k < ops.size → ∀ d, dstOf ops k = some d → tc2 W e k = false → (e / 16 == d) = false := fun hw k hk d hd hk2 => by
      have := h.c4 k hk e hw d hd hk2
      simpa using this
    simp only [Fd2, Bool.or_eq_true] at he
    rcases he with h2 | h1
    · have h1 := tc2_wc (tw_tc h2)
      have hni : tc2 W e i = false := by
        cases hq : tc2 W e i with
        | false => rfl
        | true => exact absurd ⟨hq, h2⟩ (hT e).2
      refine ⟨by simp only [Fd2, h1, hni]; simp, ?_⟩
      simp only [Fd2, tw_f hni, Bool.false_or]
      split
      · rename_i d hd; exact hW h1 i hi d hd hni
      · rfl
    · cases hd : dstOf ops j with
      | none => rw [hd] at h1; cases h1
      | some d =>
        rw [hd] at h1
        dsimp only at h1
        refine ⟨?_, ?_⟩
        · simp only [Fd2, Bool.and_eq_false_iff]
          right
          rw [List.all_eq_false]
          refine ⟨j, List.mem_range.2 hji, ?_⟩
          rw [hd]
          have hne : (j == i) = false := beq_eq_false_iff_ne.2 (Nat.ne_of_lt hj)
          simp only [h1, hb, hne]
          decide
        · have hnW : tw W e i = false := by
            cases hq2 : tw W e i with
            | false => rfl
            | true =>
              cases hj2 : tc2 W e j with
              | false => have := hW (tc2_wc (tw_tc hq2)) j hji d hd hj2; rw [h1] at this; cases this
              | true => exact absurd ⟨hq2, hj2⟩ (hT e).1
          simp only [Fd2, hnW, Bool.false_or]
          split
          · rename_i d' hd'
            cases hq : (e / 16 == d') with
            | false => rfl
            | true =>
              have e1 : d = d' := (beq_iff_eq.1 h1).symm.trans (beq_iff_eq.1 hq)
              subst e1
              exact absurd (by rw [← hdi]; exact hd') (a2 d (by rw [← hdj]; exact hd))
          · rfl
  · have hW : wc W e = true → ∀ k, k < ops.size → ∀ d, dstOf ops k = some d → tc2 W e k = false → (e / 16 == d) = false := fun hw k hk d hd hk2 => by
      have := h.c4 k hk e hw d hd hk2
      simpa using this
    simp only [Fd2, Bool.or_eq_true] at he
    rcases he with h2 | h1
    · have h1 := tc2_wc (tw_tc h2)
      have hnj : tc2 W e j = false := by
        cases hq : tc2 W e j with
        | false => rfl
        | true => exact absurd ⟨h2, hq⟩ (hT e).1
      simp only [Fd2, h1, hnj]; simp
    · cases hd : dstOf ops i with
      | none => rw [hd] at h1; cases h1
      | some d =>
        rw [hd] at h1
        dsimp only at h1
        simp only [Fd2, Bool.and_eq_false_iff]
        right
        rw [List.all_eq_false]
        refine ⟨i, List.mem_range.2 hi, ?_⟩
        rw [hd]
        have hne : (i == j) = false := beq_eq_false_iff_ne.2 (Nat.ne_of_gt hj)
        simp only [h1, hbj, hne]
        decide
end
section
variable {P : Program} {T : Tab} {cf : FuncId → Option (List AV → Option Tmp → AM)} {S : St} {K : St → Prop} {w0 w w' : World} {M N : Nat → Prop} {b0 : Nat → Value} {nt : Nat} {β : Nat → Value} {tm : Array Value} {ds : List Deferred} {Q : Exit → Act → World → Prop} {ops : Array Oper} {Fs : Nat → Ft} {W : Grp}
theorem draw_any2 (hT : TabOk P T) (hcf : ∀ f m, cf f = some m → GoodCall P f m) (hd : ∀ i t, dstOf ops i = some t → t < nt) (hok : DrawOk2 ops W) (hQ : ∀ S' β' w' tm', K S' → Sim w0 M N b0 nt β' S' w' tm' → Q .normal ⟨tm', ds⟩ w') :
    ∀ (fuel : Nat) (listed : Array Bool) (L : List Nat) (S : St) (β : Nat → Value) (w : World) (tm : Array Value), listed.size = ops.size → L.length ≤ fuel → L.Pairwise (· < ·) → (∀ i, i ∈ L ↔ i < ops.size ∧ listed.getD i true = false) →
      (∀ i, i < ops.size → listed.getD i true = true → ∀ e ∈ afterOf ops i, Region.binds .any e = true → listed.getD e.on true = true) →
      runs (Fd2 ops W) (gopI P T cf ops) L S K → Sim w0 M N b0 nt β S w tm → wpAny P .any ops Q fuel listed ⟨tm, ds⟩ w := by
  intro fuel
  have hready : ∀ (listed : Array Bool) (L : List Nat), listed.size = ops.size → L.Pairwise (· < ·) → (∀ i, i ∈ L ↔ i < ops.size ∧ listed.getD i true = false) → Region.ready .any ops listed = [] → L = [] := by
    intro listed L hsz hp hL hr
    cases L with
    | nil => rfl
    | cons i L =>
      exfalso
      obtain ⟨h1, h2⟩ := (hL i).1 List.mem_cons_self
      have hmem : i ∈ Region.ready .any ops listed := by
        unfold Region.ready
        refine List.mem_filter.2 ⟨List.mem_range.2 h1, ?_⟩
        have ho : ops[i]? = some ops[i] := Array.getElem?_eq_getElem h1
        simp only [h2, Bool.not_false, Bool.true_and, ho, Option.map_some, Option.getD_some]
        rw [Array.all_eq_true_iff_forall_mem]
        intro e he
        cases hb : Region.binds .any e with
        | false => rfl
        | true =>
          have hea : e ∈ afterOf ops i := by unfold afterOf; rw [ho]; simpa using he
          have hlt := hok.c1 i h1 e hea hb
          simp only [Bool.not_true, Bool.false_or]
          cases hq : listed.getD e.on false with
          | true => rfl
          | false =>
            have hq2 : listed.getD e.on true = false := by
              cases hx : listed[e.on]? with
              | none =>
                have h5 := Array.getElem?_eq_none_iff.1 hx
                omega
              | some b => simp [hx] at hq ⊢; exact hq
            have hin := (hL e.on).2 ⟨by omega, hq2⟩
            have := (List.pairwise_cons.1 hp).1
            rcases List.mem_cons.1 hin with he1 | he1
            · omega
            · have := this _ he1; omega
      rw [hr] at hmem
      cases hmem
  induction fuel with
  | zero =>
    intro listed L S β w tm hsz hlen hp hL hcl h hs
    have : L = [] := List.eq_nil_of_length_eq_zero (by omega)
    subst this
    refine ⟨?_, hQ S β w tm h hs⟩
    cases hr : Region.ready .any ops listed with
    | nil => rfl
    | cons i l =>
      have hi : i ∈ Region.ready .any ops listed := by rw [hr]; exact List.mem_cons_self
      unfold Region.ready at hi
      obtain ⟨h1, h2⟩ := List.mem_filter.1 hi
      simp only [Bool.and_eq_true, Bool.not_eq_true'] at h2
      have := (hL i).2 ⟨List.mem_range.1 h1, h2.1⟩
      cases this
  | succ fuel ih =>
    intro listed L S β w tm hsz hlen hp hL hcl h hs
    refine ⟨fun hr => ?_, fun i hi => ?_⟩
    · have := hready listed L hsz hp hL hr
      subst this
      exact hQ S β w tm h hs
    · unfold Region.ready at hi
      obtain ⟨h1, h2⟩ := List.mem_filter.1 hi
      have hlt := List.mem_range.1 h1
      simp only [Bool.and_eq_true, Bool.not_eq_true'] at h2
      obtain ⟨h2, h3⟩ := h2
      have ho : ops[i]? = some ops[i] := Array.getElem?_eq_getElem hlt
      rw [ho] at h3
      simp only [Option.map_some, Option.getD_some] at h3
      rw [Array.all_eq_true_iff_forall_mem] at h3
      have hedges : ∀ e ∈ afterOf ops i, Region.binds .any e = true → listed.getD e.on true = true := by
        intro e he hb
        have hea : e ∈ ops[i].after := by unfold afterOf at he; rw [ho] at he; simpa using he
        have := h3 e hea
        rw [hb] at this
        simp only [Bool.not_true, Bool.false_or] at this
        cases hx : listed[e.on]? with
        | none => simp [hx] at this
        | some b => simp [hx] at this ⊢; exact this
      have hin := (hL i).2 ⟨hlt, h2⟩
      obtain ⟨L1, L2, rfl⟩ := List.append_of_mem hin
      obtain ⟨p1, p2, p3⟩ := List.pairwise_append.1 hp
      have hcl2 : ∀ k, ∀ j, k < ops.size → j < ops.size → (∀ e ∈ afterOf ops k, Region.binds .any e = true → listed.getD e.on true = true) → (mskOf ops k).testBit j = true → listed.getD j true = true := by
        intro k
        induction k using Nat.strongRecOn with
        | _ k ihk =>
          intro j hk hj hall hb
          obtain ⟨_, e, he, hbe, hc⟩ := hok.c2 k j hk hj hb
          have hel := hall e he hbe
          have helt := hok.c1 k hk e he hbe
          rcases hc with hc | hc
          · rw [← hc]; exact hel
          · exact ihk e.on helt j (by omega) hj (hcl e.on (by omega) hel) hc
      have hfirst := runs_first (F := Fd2 ops W) (m := gopI P T cf ops) (K := K) i L2 L1 S (fun j hj => by
        have hji : j < i := p3 j hj i List.mem_cons_self
        refine fd_apart2 hok hlt hji ?_
        cases hq : (mskOf ops i).testBit j with
        | false => rfl
        | true =>
          have h5 := hcl2 i j hlt (by omega) hedges hq
          have h6 := ((hL j).1 (List.mem_append_left _ hj)).2
          rw [h5] at h6; cases h6) h
      have hnot : ∀ j, j ∈ L1 ++ L2 ↔ j ∈ L1 ++ i :: L2 ∧ j ≠ i := by
        intro j
        simp only [List.mem_append, List.mem_cons]
        constructor
        · rintro (hj | hj)
          · have := p3 j hj i List.mem_cons_self; exact ⟨.inl hj, by omega⟩
          · have := (List.pairwise_cons.1 p2).1 j hj; exact ⟨.inr (.inr hj), by omega⟩
        · rintro ⟨hj | hj | hj, hne⟩
          · exact .inl hj
          · exact absurd hj hne
          · exact .inr hj
      have hnext : Nx w0 M N b0 nt ds (fun S' => runs (Fd2 ops W) (gopI P T cf ops) (L1 ++ L2) S' K) (wpAny P .any ops Q fuel (listed.setIfInBounds i true)) := by
        intro S' β' w' tm' hK hs'
        have hgd : ∀ j, j ≠ i → (listed.setIfInBounds i true).getD j true = listed.getD j true := fun j hj => by
          simp only [Array.getD_eq_getD_getElem?, Array.getElem?_setIfInBounds_ne (Ne.symm hj)]
        have hgi : (listed.setIfInBounds i true).getD i true = true := by
          simp [hsz, hlt]
        refine ih (listed.setIfInBounds i true) (L1 ++ L2) S' β' w' tm' (by simpa using hsz) ?_ ?_ ?_ ?_ hK hs'
        · simp only [List.length_append, List.length_cons] at hlen ⊢; omega
        · exact List.pairwise_append.2 ⟨p1, (List.pairwise_cons.1 p2).2, fun a ha b hb => p3 a ha b (List.mem_cons_of_mem _ hb)⟩
        · intro j
          rw [hnot j, hL j]
          by_cases hji : j = i
          · subst hji
            rw [hgi]
            constructor
            · rintro ⟨_, h⟩; exact absurd rfl h
            · rintro ⟨_, h⟩; cases h
          · rw [hgd j hji]
            exact ⟨fun h => h.1, fun h => ⟨h, hji⟩⟩
        · intro j hj hjl e he hb
          by_cases hei : e.on = i
          · rw [hei]; exact hgi
          · rw [hgd _ hei]
            by_cases hji : j = i
            · subst hji; exact hedges e he hb
            · rw [hgd j hji] at hjl; exact hcl j hj hjl e he hb
      unfold gopI at hfirst
      simp only [ho] at hfirst
      have hg := gop_sound (Q := Q) (ds := ds) hT hcf hfirst hs (fun t ht => hd i t (by unfold dstOf; rw [ho]; exact ht)) hnext
      unfold wpOp
      simp only [ho]
      split
      · rename_i hw; rw [if_pos hw] at hg; exact .inl hg
      · rename_i hw; rw [if_neg hw] at hg; exact hg
variable {KE : Exit → St → Prop}
theorem aw_draw2 (hm : P.follows .mixedOrders = true) (hT : TabOk P T) (hcf : ∀ f m, cf f = some m → GoodCall P f m) {id : Nat} {l : List Oper} (W : Grp) (hd : (l.all fun o => match o.dst with | some d => decide (d < nt) | none => true) = true) (hok : drawB2 l.toArray W = true)
    (h : runX (Fd2 l.toArray W) P T cf l.toArray 0 l S (KE .normal)) : AW P nt (.region id l.toArray true) KE S := fun w0 M N b0 β w tm hs => by
  refine wp_region_any hm ?_
  have hdst : ∀ i t, dstOf l.toArray i = some t → t < nt := by
    intro i t ht
    unfold dstOf at ht
    cases ho : l.toArray[i]? with
    | none => rw [ho] at ht; cases ht
    | some o =>
      rw [ho] at ht
      have hmem : o ∈ l := List.mem_of_getElem? (by simpa using ho)
      have := (List.all_eq_true.1 hd) o hmem
      have ht' : o.dst = some t := ht
      rw [ht'] at this
      simpa using this
  have hr := runX_runs (ops := l.toArray) l 0 S (fun k => by simp) h
  refine draw_any2 (W := W) hT hcf hdst (drawOk_of2 hok) (fun S' β' w' tm' hK hs' => ⟨β', S', hK, hs', rfl⟩) _ _ (List.range' 0 l.length) S β _ tm (by simp) (by simp) ?_ ?_ ?_ hr (hs.draw _)
  · exact List.pairwise_lt_range'
  · intro i
    simp only [List.mem_range'_1, Nat.zero_le, true_and, Nat.zero_add, List.size_toArray]
    constructor
    · intro hi; exact ⟨hi, by simp [hi]⟩
    · exact fun hi => hi.1
  · intro i hi hl
    have : (Array.replicate l.toArray.size false).getD i true = false := by simp at hi; simp [hi]
    rw [this] at hl
    cases hl
end
end Go.Proofs.YtnenhckongccgaaGreatDoor
namespace Go.Proofs.YtnenhckongccgaaGreatDoor
set_option linter.unusedVariables false
open Go.RowKit
theorem gin_rbx {cs : List AC} {i : Nat} {r : Nat} {e : Ent} (h : Gin [.rbx cs] i = some (r, e)) : i = 100000 ∧ r = 0 ∧ e = .rbx cs := by
  unfold Gin at h
  split at h
  · rename_i h1
    rcases hk : i - 100000 with _ | k
    · rw [hk] at h
      simp only [List.getElem?_cons_zero, Option.map_some, Option.some.injEq, Prod.mk.injEq] at h
      exact ⟨by omega, h.1.symm, h.2.symm⟩
    · rw [hk] at h
      simp at h
  · cases h
theorem calls_of_konB {P : Program} {f : FuncId} {cs : List AC} {out : AV} (hK : Kon P f [.g (.one (.ptr 100000 0 0))] [.rbx cs] out [] [.rbx cs]) {b : Nat} {vs : Array Value} {t : TypeId} {fr : Nat × Nat} {w : World} (hb : w.heap[b]? = some (.cells vs t fr)) (hcs : CsRep w (fun _ => undef) (fun _ => none) (fun b => b < w.heap.size) cs vs) (hpl : cs.all (AC.on fun _ => false) = true) (hgl : Glo w) (hgz : gsz ≤ w.heap.size) :
    Calls P f #[.pointer (some ⟨b, 0, none⟩)] w fun e w' => ∃ v β G ok, e = .returned v ∧ out.rep w' β G ok v ∧ Below w.heap.size w w' := by
  obtain ⟨C, hC, h⟩ := hK
  have hM : ∀ k, ¬ Mof (fun _ => .pointer (some ⟨b, 0, none⟩)) [.rbx cs] k := by
    rintro k ⟨j, e, hj, hl, _⟩
    rcases j with _ | j
    · cases hj; exact hl
    · simp at hj
  have hnl : ∀ k, ¬ ownB (fun _ => .pointer (some ⟨b, 0, none⟩)) (Gin [.rbx cs]) k := by
    rintro k ⟨i, r, e, hi, hl, _⟩
    obtain ⟨_, _, rfl⟩ := gin_rbx hi
    exact hl
  have hok2 : okB w (fun b => b < w.heap.size) (fun _ => .pointer (some ⟨b, 0, none⟩)) (Gin [.rbx cs]) w = fun b => b < w.heap.size := funext fun k => propext ⟨fun h => h.1, fun h => ⟨h, hnl k, fun h => h⟩⟩
  have hG0 : Gin [.rbx cs] 100000 = some (0, .rbx cs) := rfl
  have hcs2 : CsRep w (fun _ => .pointer (some ⟨b, 0, none⟩)) (Gin [.rbx cs]) (fun b => b < w.heap.size) cs vs :=
    ⟨hcs.1, fun j c hj => let ⟨z, hz, hr⟩ := hcs.2 j c hj; ⟨z, hz, noref ((List.all_eq_true.1 hpl) c (List.mem_of_getElem? hj)) (fun b hb => hb) hr⟩⟩
  have sim : Sim w (Mof (fun _ => .pointer (some ⟨b, 0, none⟩)) [.rbx cs]) (fun b => b < w.heap.size) (fun _ => .pointer (some ⟨b, 0, none⟩)) 1 (fun _ => .pointer (some ⟨b, 0, none⟩)) ⟨argsE [.g (.one (.ptr 100000 0 0))], Gin [.rbx cs]⟩ w #[.pointer (some ⟨b, 0, none⟩)] := by
    refine ⟨rfl, rfl, rfl, ⟨hgl, fun k hk => ⟨by show k < w.heap.size; omega, hM k, by omega⟩⟩, Nat.le_refl _, fun _ _ _ => rfl, fun i r e hi => ?_, fun i j r e r' e' k hi hl => ?_, fun i r e k hi hl => ?_, fun i e _ hi => rfl, rfl, fun i a ha => ?_⟩
    · obtain ⟨rfl, rfl, rfl⟩ := gin_rbx hi
      rw [hok2]
      exact ⟨b, vs, t, fr, rfl, hb, hcs2, hnl b⟩
    · obtain ⟨_, _, rfl⟩ := gin_rbx hi
      exact hl.elim
    · obtain ⟨_, _, rfl⟩ := gin_rbx hi
      exact hl.elim
    · rcases i with _ | i
      · have ha' : some (AV.g (.one (.ptr 100000 0 0))) = some a := ha
        cases ha'
        refine ⟨by omega, ?_⟩
        exact ⟨rfl, 0, _, hG0, Nat.le_refl _, fun _ => ⟨b, rfl, rfl⟩⟩
      · have ha' : ([] : List AV)[i]? = some a := ha
        simp at ha'
  refine (hC.does _ _ _ _ _ h w #[.pointer (some ⟨b, 0, none⟩)] _ (fun b => b < w.heap.size) (fun b hb => ⟨hb, hM b⟩) sim rfl).mono ?_
  rintro e w' ⟨v, β', rfl, hsim, hrep, _⟩
  exact ⟨v, _, _, _, rfl, hrep, hsim.os, hsim.tape, hsim.output, hsim.size, fun k hk => hsim.block k hk (hM k)⟩
theorem kon_keep {P : Program} {f : FuncId} {aa : List AV} {out : AV} (hent : ∀ args w, (callFunc f args).run P w = .ok (.enter f args) w)
    (hpl : aa.all (AV.on fun _ => false) = true) (hout : out.refs = [])
    (h : ∀ (w : World) (ok : Nat → Prop) (vs : Array Value), Glo w → gsz ≤ w.heap.size → (∀ b, ok b → b < w.heap.size) → vs.size = aa.length → Args0 w ok aa vs →
      Calls P f vs w fun en W' => ∃ v, en = .returned v ∧ Below w.heap.size w W' ∧ ∀ β G (ok' : Nat → Prop), (∀ b, ok b → ok' b ∧ W'.heap[b]? = w.heap[b]?) → out.rep W' β G ok' v) :
    Kon P f aa [] out [] [] := by
  refine ⟨cOf (fun _ : Unit => (aa, [])) (fun _ => (out, [], [])), ⟨hent, ?_⟩, cOf_at (A := fun _ : Unit => (aa, [])) (R := fun _ => (out, [], [])) (fun _ _ _ => rfl) ()⟩
  intro aa' es out' news es' hC w vs β N hN hs hvs
  obtain ⟨_, rfl, rfl, rfl, rfl, rfl⟩ := cOf_some hC
  have hz : gsz ≤ w.heap.size := by
    rcases Nat.eq_zero_or_pos gsz with h0 | h0
    · omega
    · have := (hs.glo.2 (gsz - 1) (by omega)).2.2; omega
  refine (h w _ vs hs.glo.1 hz (fun b hb => hb.1) hvs (args_of_sim hpl hs)).mono ?_
  rintro en W' ⟨v, rfl, hB, hrep⟩
  refine ⟨v, fun _ => undef, rfl, ?_, hrep _ _ _ (fun b hb => ⟨⟨Nat.lt_of_lt_of_le hb.1 hB.size, ownB_none gout_nil b, hb.2.2⟩, hB.block b hb.1⟩), rfl, rfl, fun p hp => ?_⟩
  · refine { os := hB.os, tape := hB.tape, output := hB.output, glo := hs.glo, size := hB.size, block := fun k hk _ => hB.block k hk, ents := ?_, apart := ?_, fresh := ?_, pin := ?_, wide := rfl, env := ?_ }
    · intro i r e hi
      replace hi : Gout [] [] i = some (r, e) := hi
      rw [gout_nil] at hi; cases hi
    · intro i j r e r' e' b hi
      replace hi : Gout [] [] i = some (r, e) := hi
      rw [gout_nil] at hi; cases hi
    · intro i r e b hi
      replace hi : Gout [] [] i = some (r, e) := hi
      rw [gout_nil] at hi; cases hi
    · intro i e _ hi
      replace hi : Gout [] [] i = some (0, e) := hi
      rw [gout_nil] at hi; cases hi
    · intro i a ha; cases ha
  · rw [hout] at hp; cases hp
end Go.Proofs.YtnenhckongccgaaGreatDoor
namespace Go.Proofs.YtnenhckongccgaaGreatDoor
set_option linter.unusedVariables false
set_option linter.unusedSimpArgs false
open Go.RowKit
section
variable {w0 w : World} {M N : Nat → Prop} {b0 : Nat → Value} {nt : Nat} {β : Nat → Value} {S : St} {tm : Array Value}
def mvG (G : Blk) (i r j q : Nat) (e : Option TypeId) (z : Nat) (l : List Value) : Blk := upd (upd G j (some (q, .row e z l))) i (some (r + 1, .fro z []))
def mvB (β : Nat → Value) (i j : Nat) : Nat → Value := fun k => if k = i then .slice none 0 0 else if k = j then β i else β k
theorem Sim.rename (hs : Sim w0 M N b0 nt β S w tm) {i j r q z : Nat} {e : Option TypeId} {l : List Value} (hij : i ≠ j) (hG : S.G i = some (r, .row e z l)) (hq : nvO S j = some q) (hi : i < 100000) (hj : j < 100000) :
    Sim w0 M N b0 nt (mvB β i j) ⟨S.E, mvG S.G i r j q e z l⟩ w tm ∧ (∀ b, okB w0 N β S.G w b → okB w0 N (mvB β i j) (mvG S.G i r j q e z l) w b) ∧ Older β (mvB β i j) S.G (mvG S.G i r j q e z l) := by
  have hGi : mvG S.G i r j q e z l i = some (r + 1, .fro z []) := upd_same _ _ _
  have hGj : mvG S.G i r j q e z l j = some (q, .row e z l) := by unfold mvG; rw [upd_ne _ _ (Ne.symm hij), upd_same]
  have hGk : ∀ k, k ≠ i → k ≠ j → mvG S.G i r j q e z l k = S.G k := fun k h1 h2 => by unfold mvG; rw [upd_ne _ _ h1, upd_ne _ _ h2]
  have hβi : mvB β i j i = .slice none 0 0 := by simp [mvB]
  have hβj : mvB β i j j = β i := by simp [mvB, Ne.symm hij]
  have hβk : ∀ k, k ≠ i → k ≠ j → mvB β i j k = β k := fun k h1 h2 => by simp [mvB, h1, h2]
  have hqj : ∀ r1 e1, S.G j = some (r1, e1) → r1 < q := by
    intro r1 e1 h1
    unfold nvO at hq
    rw [h1] at hq
    cases hq
    exact Nat.lt_succ_self _
  have hold : Older β (mvB β i j) S.G (mvG S.G i r j q e z l) := by
    intro k r1 e1 h1
    by_cases hki : k = i
    · subst hki
      rw [hG] at h1; cases h1
      exact ⟨r + 1, _, hGi, Nat.le_succ _, fun h => by omega⟩
    · by_cases hkj : k = j
      · subst hkj
        have := hqj r1 e1 h1
        exact ⟨q, _, hGj, by omega, fun h => by omega⟩
      · exact ⟨r1, e1, by rw [hGk k hki hkj]; exact h1, Nat.le_refl _, fun _ => hβk k hki hkj⟩
  -- who owns a block now owned it before
  have howner : ∀ k r1 e1 b, mvG S.G i r j q e z l k = some (r1, e1) → e1.live → blk? (mvB β i j k) = some b → ∃ k0 r0 e0, S.G k0 = some (r0, e0) ∧ e0.live ∧ blk? (β k0) = some b ∧ ((k = j ∧ k0 = i) ∨ (k ≠ i ∧ k ≠ j ∧ k0 = k ∧ r0 = r1 ∧ e0 = e1)) := by
    intro k r1 e1 b h1 h2 h3
    by_cases hki : k = i
    · subst hki
      rw [hGi] at h1; cases h1
      exact h2.elim
    · by_cases hkj : k = j
      · subst hkj
        rw [hβj] at h3
        exact ⟨i, r, _, hG, trivial, h3, .inl ⟨rfl, rfl⟩⟩
      · rw [hGk k hki hkj] at h1
        rw [hβk k hki hkj] at h3
        exact ⟨k, r1, e1, h1, h2, h3, .inr ⟨hki, hkj, rfl, rfl, rfl⟩⟩
  have hown : ∀ b, ¬ ownB β S.G b → ¬ ownB (mvB β i j) (mvG S.G i r j q e z l) b := by
    rintro b h ⟨k, r1, e1, h1, h2, h3⟩
    obtain ⟨k0, r0, e0, g1, g2, g3, _⟩ := howner k r1 e1 b h1 h2 h3
    exact h ⟨k0, r0, e0, g1, g2, g3⟩
  have hok : ∀ b, okB w0 N β S.G w b → okB w0 N (mvB β i j) (mvG S.G i r j q e z l) w b := fun b ⟨h1, h2, h3⟩ => ⟨h1, hown b h2, h3⟩
  have hok2 : ∀ b, okB w0 N β S.G w b → okB w0 N (mvB β i j) (mvG S.G i r j q e z l) w b ∧ w.heap[b]? = w.heap[b]? := fun b hb => ⟨hok b hb, rfl⟩
  refine ⟨⟨hs.os, hs.tape, hs.output, hs.glo, hs.size, hs.block, ?_, ?_, ?_, ?_, hs.wide, ?_⟩, hok, hold⟩
  · intro k r1 e1 h1
    replace h1 : mvG S.G i r j q e z l k = some (r1, e1) := h1
    by_cases hki : k = i
    · subst hki
      rw [hGi] at h1; cases h1
      refine ⟨0, ?_⟩
      rw [hβi]
      exact ⟨⟨by simp, rfl⟩, none, 0, rfl, Nat.le_refl _, by unfold maxLen; omega, fun h => absurd h (Nat.lt_irrefl _)⟩
    · by_cases hkj : k = j
      · subst hkj
        rw [hGj] at h1; cases h1
        obtain ⟨p0, e2, n, p1, p2⟩ := hs.ents i r _ hG
        exact ⟨p0, e2, n, p1, by rw [hβj]; exact p2⟩
      · rw [hGk k hki hkj] at h1
        have hr := hs.ents k r1 e1 h1
        have hb := hβk k hki hkj
        cases e1 with
        | box cs =>
          obtain ⟨g, vs, t, e1, e2, e3⟩ := hr
          exact ⟨g, vs, t, hb.trans e1, e2, e3.mono hok2 hold⟩
        | row e sz l =>
          obtain ⟨e0, e', n, e1, e2⟩ := hr
          exact ⟨e0, e', n, e1, by rw [hb]; exact e2⟩
        | fro sz l =>
          obtain ⟨n, e1⟩ := hr
          exact ⟨n, by rw [hb]; exact e1.mono hok2⟩
        | rbx cs =>
          obtain ⟨g, vs, t, fr, e1, e2, e3, e4⟩ := hr
          exact ⟨g, vs, t, fr, hb.trans e1, e2, e3.mono hok2 hold, hown g e4⟩
  · intro k1 k2 r1 e1 r2 e2 b h1 l1 h2 l2 b1 b2
    obtain ⟨x1, y1, z1, g1, g2, g3, g4⟩ := howner k1 r1 e1 b h1 l1 b1
    obtain ⟨x2, y2, z2, f1, f2, f3, f4⟩ := howner k2 r2 e2 b h2 l2 b2
    have hx := hs.apart x1 x2 _ _ _ _ b g1 g2 f1 f2 g3 f3
    rcases g4 with ⟨rfl, rfl⟩ | ⟨q1, q2, rfl, _⟩
    · rcases f4 with ⟨rfl, rfl⟩ | ⟨q1, q2, rfl, _⟩
      · rfl
      · exact absurd hx.symm q1
    · rcases f4 with ⟨rfl, rfl⟩ | ⟨_, _, rfl, _⟩
      · exact absurd hx q1
      · exact hx
  · intro k r1 e1 b h1 h2 h3
    obtain ⟨k0, r0, e0, g1, g2, g3, g4⟩ := howner k r1 e1 b h1 h2 h3
    obtain ⟨f1, f2⟩ := hs.fresh k0 r0 e0 b g1 g2 g3
    refine ⟨f1, ?_⟩
    rcases g4 with ⟨rfl, rfl⟩ | ⟨_, _, rfl, _⟩
    · rcases f2 with f2 | f2
      · exact .inl f2
      · omega
    · exact f2
  · intro k e1 hk h1
    have hki : k ≠ i := by omega
    have hkj : k ≠ j := by omega
    rw [hβk k hki hkj]
    exact hs.pin k e1 hk (by rw [← hGk k hki hkj]; exact h1)
  · intro k a ha
    obtain ⟨h1, h2⟩ := hs.env k a ha
    exact ⟨h1, AV.rep_mono hok2 hold h2⟩
def mvC (i r j q : Nat) : AC → AC
  | .sl i' r' n => bif Nat.beq i' i && Nat.beq r' r then .sl j q n else .sl i' r' n
  | c => c
def mvL (i r j q : Nat) : List AC → List AC
  | [] => []
  | c :: l => mvC i r j q c :: mvL i r j q l
theorem mvL_map (i r j q : Nat) : ∀ l, mvL i r j q l = l.map (mvC i r j q)
  | [] => rfl
  | c :: l => by rw [mvL, mvL_map i r j q l]; rfl
variable {P : Program} {c : Code} {KE : Exit → St → Prop}
theorem aw_mv (i j b : Nat) {r q z rb : Nat} {e : Option TypeId} {l : List Value} {cs : List AC} (hn : (!(Nat.beq i j) && (!(Nat.beq b i) && (!(Nat.beq b j) && (Nat.blt i 100000 && (Nat.blt j 100000 && Nat.blt b 100000))))) = true)
    (hG : S.G i = some (r, .row e z l)) (hB : S.G b = some (rb, .box cs)) (hq : nvO S j = some q)
    (h : AW P nt c KE (((S.lay j (some (q, .row e z l))).lay i (some (r + 1, .fro z []))).lay b (some (rb, .box (mvL i r j q cs))))) : AW P nt c KE S := fun w0 M N b0 β w tm hs => by
  simp only [Bool.and_eq_true, Bool.not_eq_true'] at hn
  obtain ⟨n1, n2, n3, n4, n5, n6⟩ := hn
  have n1 : i ≠ j := fun e => by rw [e, Nat.beq_refl] at n1; cases n1
  have n2 : b ≠ i := fun e => by rw [e, Nat.beq_refl] at n2; cases n2
  have n3 : b ≠ j := fun e => by rw [e, Nat.beq_refl] at n3; cases n3
  obtain ⟨h1, h2, h3⟩ := hs.rename n1 hG hq (blt_lt n4) (blt_lt n5)
  obtain ⟨g, vs, t, e1, e2, e3⟩ := hs.ents b rb _ hB
  have hGb : mvG S.G i r j q e z l b = some (rb, .box cs) := by unfold mvG; rw [upd_ne _ _ n2, upd_ne _ _ n3]; exact hB
  have hGj : mvG S.G i r j q e z l j = some (q, .row e z l) := by unfold mvG; rw [upd_ne _ _ (Ne.symm n1), upd_same]
  have hβj : mvB β i j j = β i := by simp [mvB, Ne.symm n1]
  have hβb : mvB β i j b = β b := by simp [mvB, n2, n3]
  have hc : CsRep w (mvB β i j) (mvG S.G i r j q e z l) (okB w0 N (mvB β i j) (mvG S.G i r j q e z l) w) (mvL i r j q cs) vs := by
    rw [mvL_map]
    refine ⟨by rw [List.length_map]; exact e3.1, fun k c' hk => ?_⟩
    simp only [List.getElem?_map, Option.map_eq_some_iff] at hk
    obtain ⟨c0, hk0, rfl⟩ := hk
    obtain ⟨y, hy, hr⟩ := e3.2 k c0 hk0
    refine ⟨y, hy, ?_⟩
    have hm : c0.rep w (mvB β i j) (mvG S.G i r j q e z l) (okB w0 N (mvB β i j) (mvG S.G i r j q e z l) w) y := AC.rep_mono (fun b hb => ⟨h2 b hb, rfl⟩) h3 hr
    cases c0 with
    | sl i' r' n =>
      simp only [mvC]
      cases hcc : (Nat.beq i' i && Nat.beq r' r) with
      | false => exact hm
      | true =>
        simp only [Bool.and_eq_true] at hcc
        have ei := Nat.eq_of_beq_eq_true hcc.1
        have er := Nat.eq_of_beq_eq_true hcc.2
        subst ei; subst er
        obtain ⟨A, m, cc, g1, g2, rfl⟩ := hs.cur_sl hr hG
        exact ⟨rfl, q, _, hGj, Nat.le_refl _, fun _ => ⟨A, m, cc, hβj.trans g1, g2, rfl⟩⟩
    | _ => exact hm
  obtain ⟨β', k1, k2, k3, k4⟩ := h1.change1 (w' := w) b rb (.box (mvL i r j q cs)) (mvB β i j b) rfl rfl rfl (Nat.le_refl _)
    (fun r1 e1 hg => by rw [show mvG S.G i r j q e z l b = some (r1, e1) from hg] at hGb; cases hGb; exact ⟨Nat.le_refl _, fun _ => rfl⟩) (fun k _ _ => rfl)
    (fun g' _ hg' => ⟨(h1.fresh b rb _ g' hGb trivial hg').1, .inr ⟨rb, _, hGb, trivial, hg'⟩⟩) (fun _ => ⟨_, hGb⟩)
    (fun β' G' hβ hG' hok hold hβi => ⟨g, vs, t, by rw [hβi, hβb]; exact e1, e2, hc.mono hok hold⟩)
  exact h w0 M N b0 β' w tm k1
end
section
variable {P : Program} {T : Tab} {Fs : Nat → Ft} {i : Nat} {rest : List Oper} {S : St} {K : St → Prop} {ops : Array Oper} {d : Tmp} {ty : TypeId} {pos : String} {af : Array Edge} {g : Option (Nat × Bool)}
theorem q_callF (wt : WsT) (zt : List (Nat × Nat)) {f : FuncId} {args : Array Operand} {ts : Array TypeId} {aa args' : List AV} {ws : List Nat} {al : Bool} {S1 : St} {ids : List (Nat × Nat)} {es : List Ent} {vw : List Nat} {q : Prop}
    (ha : zA (wszOf zt f) (rdL (Fs i) S args.toList) = some aa) (h0 : wsOf wt f = (ws, al)) (h1 : (bif al then frzF (Fs i) (cellsW (fun p => ws.any (Nat.beq p)) 0 aa) S else some S) = some S1)
    (h2 : nrmLf (Fs i) S1 (fun p => ws.any (Nat.beq p)) 0 aa [] [] [] = some (args', ids, es, vw, q)) (h3 : callB ids vw al d = true) (h : CallK P (Fs i) d f (fun S3 => runX Fs P T (cfU P) ops (i + 1) rest S3 K) (al, S1, args', ids, es, q)) :
    runA Fs P T (cfU P) ops i ⟨some d, .call { callee := .value (.func f), args := args, argTypes := ts }, ty, pos, af, g⟩ rest S K :=
  q_callE wt zt (by rw [ha]; unfold preC; simp only [h0, h1, h2, h3, cond_true]) h
end
end Go.Proofs.YtnenhckongccgaaGreatDoor
