/- PS, PU, PV, PW: laid into one text. -/
import Derived.Test.YtgphlcdinejmdaaDoorQRE
import Derived.Lib.Split
import Derived.Lib.SplitLaws
import Derived.Lib.AtoiAll
import Derived.Lib.ItoaNum

/- Texts cut at a byte; digits read. No program is named. -/
namespace Go.Proofs.YtgphlcdinejmdaaDoor
set_option linter.unusedVariables false
open Go.Lib (decDigits splitK index count atoiAll)
/-- What stands between the bytes c of a text, behind what was read of the first piece. -/
def cutA (c : UInt8) (acc : List UInt8) : List UInt8 → List (List UInt8)
  | [] => [acc]
  | b :: l => if b == c then acc :: cutA c [] l else cutA c (acc ++ [b]) l
theorem cutA_len (c : UInt8) : ∀ (l acc : List UInt8), 1 ≤ (cutA c acc l).length ∧ (cutA c acc l).length ≤ l.length + 1
  | [], acc => by simp [cutA]
  | b :: l, acc => by
    rw [cutA]
    split
    · have := cutA_len c l []; simp; omega
    · have := cutA_len c l (acc ++ [b]); simp; omega
theorem cutA_end {c : UInt8} : ∀ {a acc : List UInt8}, a.contains c = false → cutA c acc a = [acc ++ a]
  | [], acc, _ => by simp [cutA]
  | b :: a, acc, h => by
    simp only [List.contains_cons, Bool.or_eq_false_iff] at h
    have hb : (b == c) = false := by rw [beq_eq_false_iff_ne] at h ⊢; exact fun e => h.1 e.symm
    rw [cutA, hb, if_neg (by decide), cutA_end h.2]
    simp
theorem cutA_app {c : UInt8} {r : List UInt8} : ∀ {a acc : List UInt8}, a.contains c = false → cutA c acc (a ++ c :: r) = (acc ++ a) :: cutA c [] r
  | [], acc, _ => by simp [cutA]
  | b :: a, acc, h => by
    simp only [List.contains_cons, Bool.or_eq_false_iff] at h
    have hb : (b == c) = false := by rw [beq_eq_false_iff_ne] at h ⊢; exact fun e => h.1 e.symm
    rw [List.cons_append, cutA, hb, if_neg (by decide), cutA_app h.2]
    simp
theorem idx_cons (b c : UInt8) (l : List UInt8) : index (b :: l) [c] = if b == c then 0 else if index l [c] == -1 then -1 else index l [c] + 1 := by
  rw [index]
  have e : ([c].isPrefixOf (b :: l)) = (b == c) := by
    show ((c == b) && ([] : List UInt8).isPrefixOf l) = (b == c)
    rw [show ([] : List UInt8).isPrefixOf l = true from rfl, Bool.and_true]
    rw [Bool.eq_iff_iff, beq_iff_eq, beq_iff_eq]
    exact ⟨Eq.symm, Eq.symm⟩
  rw [e]
theorem cut_idx (c : UInt8) : ∀ (s acc : List UInt8), (index s [c] = -1 ∧ cutA c acc s = [acc ++ s]) ∨ (∃ i : Nat, index s [c] = (i : Int) ∧ i < s.length ∧ cutA c acc s = (acc ++ s.take i) :: cutA c [] (s.drop (i + 1)))
  | [], acc => .inl ⟨rfl, by simp [cutA]⟩
  | b :: s, acc => by
    rw [idx_cons, cutA]
    by_cases hb : (b == c) = true
    · rw [if_pos hb, if_pos hb]
      exact .inr ⟨0, rfl, by simp, by simp⟩
    · rw [if_neg hb, if_neg hb]
      rcases cut_idx c s (acc ++ [b]) with ⟨h1, h2⟩ | ⟨i, h1, h2, h3⟩
      · refine .inl ⟨?_, ?_⟩
        · rw [h1]; rfl
        · rw [h2]; simp
      · refine .inr ⟨i + 1, ?_, by simp; omega, ?_⟩
        · rw [h1, if_neg (by simp)]; simp
        · rw [h3]; simp
theorem split_cut (c : UInt8) : ∀ (n : Nat) (s : List UInt8), s.length ≤ n → splitK [c] 0 (count s [c]) s = cutA c [] s
  | 0, s, h => by
    have : s = [] := List.eq_nil_of_length_eq_zero (by omega)
    subst this
    have h1 : index [] [c] = -1 := rfl
    rw [Go.Lib.count_miss h1]
    rfl
  | n + 1, s, h => by
    rcases cut_idx c s [] with ⟨h1, h2⟩ | ⟨i, h1, h2, h3⟩
    · rw [Go.Lib.count_miss h1, h2]; rfl
    · rw [Go.Lib.count_hit (by simp) h1, Nat.add_comm, splitK, if_neg (by rw [h1]; simp), h3, h1]
      rw [show ((i : Int)).toNat = i from rfl, List.length_singleton, Nat.add_zero, List.nil_append]
      rw [split_cut c n (s.drop (i + 1)) (by rw [List.length_drop]; omega)]
/-- The digits of a number below 100. -/
def dd2 (n : Nat) : List UInt8 := if n < 10 then [UInt8.ofNat (48 + n)] else [UInt8.ofNat (48 + n / 10), UInt8.ofNat (48 + n % 10)]
theorem dd2_eq {n : Nat} (h : n < 100) : decDigits n = dd2 n := by
  unfold dd2
  split
  · rename_i h1; exact Go.Lib.decDigits_one h1
  · rename_i h1; exact Go.Lib.decDigits_two h1 h
/-- The number that digits tell, behind a number. -/
def dgA : Int → List UInt8 → Int
  | n, [] => n
  | n, b :: l => if b < 48 || b > 57 then -1 else dgA (10 * n + ((b.toNat : Int) - 48)) l
/-- The number of a text of one to four digits, without leading zeros. -/
def dgs (s : List UInt8) : Int := if !(decide (1 ≤ s.length) && decide (s.length ≤ 4)) || (decide (1 < s.length) && s.getD 0 0 == 48) then -1 else dgA 0 s
def okI : Go.Lib.NumEnd Int → Int → Bool
  | .ok v, n => v == n
  | _, _ => false
theorem okI_t {x : Go.Lib.NumEnd Int} {n : Int} (h : okI x n = true) : x = .ok n := by
  cases x with
  | ok v => simp only [okI, beq_iff_eq] at h; rw [h]
  | range => cases h
  | _ => cases h
theorem dd2_all : ∀ n : Fin 100, (dgs (dd2 n.val) == (n.val : Int)) && (okI (atoiAll (dd2 n.val)) (n.val : Int)) && !((dd2 n.val).contains 32) && decide (1 ≤ (dd2 n.val).length) && decide ((dd2 n.val).length ≤ 2) = true := by decide +kernel
theorem dd2_of {n : Nat} (h : n < 100) : dgs (decDigits n) = (n : Int) ∧ atoiAll (decDigits n) = .ok (n : Int) ∧ (decDigits n).contains 32 = false ∧ 1 ≤ (decDigits n).length ∧ (decDigits n).length ≤ 2 := by
  have := dd2_all ⟨n, h⟩
  simp only [Bool.and_eq_true, beq_iff_eq, Bool.not_eq_true', decide_eq_true_eq] at this
  rw [dd2_eq h]
  exact ⟨this.1.1.1.1, okI_t this.1.1.1.2, this.1.1.2, this.1.2, this.2⟩
end Go.Proofs.YtgphlcdinejmdaaDoor

/- Texts of gates; which gate a text is of. -/
namespace Go.Proofs.YtgphlcdinejmdaaDoor
set_option linter.unusedVariables false
set_option linter.unusedSimpArgs false
open Go.Lib (decDigits)
/-- The names of the kinds. -/
def gnm (k : Int) : List UInt8 := if k = 0 then [110, 111, 116] else if k = 1 then [99, 111, 112, 121] else if k = 2 then [98, 111, 116, 104] else if k = 3 then [115, 119, 97, 112] else [105, 102]
abbrev dx (x : Int) : List UInt8 := decDigits x.toNat
def gtT (g : Gt) : List UInt8 :=
  if g.k = 0 then gnm 0 ++ [32] ++ dx g.a
  else if g.k = 1 ∨ g.k = 3 then gnm g.k ++ [32] ++ dx g.a ++ [32] ++ dx g.b
  else gnm g.k ++ [32] ++ dx g.a ++ [32] ++ dx g.b ++ [32] ++ dx g.c
def gtW (g : Gt) : List (List UInt8) :=
  if g.k = 0 then [gnm 0, dx g.a]
  else if g.k = 1 ∨ g.k = 3 then [gnm g.k, dx g.a, dx g.b]
  else [gnm g.k, dx g.a, dx g.b, dx g.c]
def gtx (g : Gt) : List UInt8 := if gok 8 g = true then gtT g else []
def GOk (s : List UInt8) (g : Gt) : Prop := gok 8 g = true ∧ gtT g = s
theorem gnm_no (k : Int) : (gnm k).contains 32 = false := by
  unfold gnm
  repeat (split; rfl)
  rfl
theorem gnm_len (k : Int) : 2 ≤ (gnm k).length ∧ (gnm k).length ≤ 4 := by
  unfold gnm
  repeat (split; decide)
  decide
theorem gnm_inj5 : ∀ i j : Fin 5, (gnm (i.val : Int) == gnm (j.val : Int)) = (i == j) := by decide +kernel
theorem gnm_inj {k k' : Int} (h : 0 ≤ k ∧ k ≤ 4) (h' : 0 ≤ k' ∧ k' ≤ 4) (e : gnm k = gnm k') : k = k' := by
  have := gnm_inj5 ⟨k.toNat, by omega⟩ ⟨k'.toNat, by omega⟩
  dsimp only at this
  rw [show ((k.toNat : Nat) : Int) = k by omega, show ((k'.toNat : Nat) : Int) = k' by omega, e, beq_self_eq_true] at this
  have h2 := eq_of_beq this.symm
  have h3 := congrArg Fin.val h2
  dsimp only at h3
  omega
/-- One digit. -/
theorem dx1_all : ∀ n : Fin 10, ((dx (n.val : Int)) == [UInt8.ofNat (48 + n.val)]) && decide (((UInt8.ofNat (48 + n.val)).toNat : Int) - 48 = (n.val : Int)) = true := by decide +kernel
theorem dx1 {x : Int} (h : 0 ≤ x ∧ x ≤ 9) : dx x = [UInt8.ofNat (48 + x.toNat)] ∧ (((UInt8.ofNat (48 + x.toNat)).toNat : Int) - 48 = x) := by
  have := dx1_all ⟨x.toNat, by omega⟩
  dsimp only at this
  rw [show ((x.toNat : Nat) : Int) = x by omega, Bool.and_eq_true, beq_iff_eq] at this
  refine ⟨this.1, ?_⟩
  simpa using this.2
theorem dx_no {x : Int} (h : 0 ≤ x ∧ x < 100) : (dx x).contains 32 = false := (dd2_of (n := x.toNat) (by omega)).2.2.1
theorem dx_dg {x : Int} (h : 0 ≤ x ∧ x < 100) : dgs (dx x) = x := by
  have := (dd2_of (n := x.toNat) (by omega)).1
  rw [this]; omega
theorem dx_inj {x y : Int} (h : 0 ≤ x ∧ x < 100) (h' : 0 ≤ y ∧ y < 100) (e : dx x = dx y) : x = y := by
  rw [← dx_dg h, ← dx_dg h', e]
theorem cut4 {a b c d : List UInt8} (ha : a.contains 32 = false) (hb : b.contains 32 = false) (hc : c.contains 32 = false) (hd : d.contains 32 = false) : cutA 32 [] (a ++ [32] ++ b ++ [32] ++ c ++ [32] ++ d) = [a, b, c, d] := by
  rw [show a ++ [32] ++ b ++ [32] ++ c ++ [32] ++ d = a ++ 32 :: (b ++ 32 :: (c ++ 32 :: d)) by simp, cutA_app ha, cutA_app hb, cutA_app hc, cutA_end hd]; rfl
theorem cut3 {a b c : List UInt8} (ha : a.contains 32 = false) (hb : b.contains 32 = false) (hc : c.contains 32 = false) : cutA 32 [] (a ++ [32] ++ b ++ [32] ++ c) = [a, b, c] := by
  rw [show a ++ [32] ++ b ++ [32] ++ c = a ++ 32 :: (b ++ 32 :: c) by simp, cutA_app ha, cutA_app hb, cutA_end hc]; rfl
theorem cut2 {a b : List UInt8} (ha : a.contains 32 = false) (hb : b.contains 32 = false) : cutA 32 [] (a ++ [32] ++ b) = [a, b] := by
  rw [show a ++ [32] ++ b = a ++ 32 :: b by simp, cutA_app ha, cutA_end hb]; rfl
theorem gtT_cut {g : Gt} (h : gok 8 g = true) : cutA 32 [] (gtT g) = gtW g := by
  obtain ⟨_, _, ha, hb, hc⟩ := gok_bd h
  unfold gtT gtW
  split
  · exact cut2 (gnm_no 0) (dx_no (by omega))
  split
  · exact cut3 (gnm_no _) (dx_no (by omega)) (dx_no (by omega))
  · exact cut4 (gnm_no _) (dx_no (by omega)) (dx_no (by omega)) (dx_no (by omega))
theorem gtW_head (g : Gt) : (gtW g).getD 0 [] = gnm g.k := by
  unfold gtW
  split
  · rename_i h; rw [h]; rfl
  split <;> rfl
theorem gtT_ne (g : Gt) : gtT g ≠ [] := by
  intro e
  have e2 := congrArg List.length e
  unfold gtT at e2
  split at e2
  · simp at e2
  split at e2 <;> simp at e2
theorem gtT_len {g : Gt} (h : gok 8 g = true) : 4 ≤ (gtT g).length ∧ (gtT g).length ≤ 10 := by
  obtain ⟨_, _, ha, hb, hc⟩ := gok_bd h
  have hl := gnm_len g.k
  have h0 := gnm_len 0
  have e1 := congrArg List.length (dx1 (x := g.a) (by omega)).1
  have e2 := congrArg List.length (dx1 (x := g.b) (by omega)).1
  have e3 := congrArg List.length (dx1 (x := g.c) (by omega)).1
  simp only [List.length_cons, List.length_nil] at e1 e2 e3
  unfold gtT
  split
  · simp only [List.length_append, List.length_cons, List.length_nil, e1]; omega
  split
  · simp only [List.length_append, List.length_cons, List.length_nil, e1, e2]; omega
  · simp only [List.length_append, List.length_cons, List.length_nil, e1, e2, e3]; omega
theorem gtx_eq {s : List UInt8} (hs : s ≠ []) {g : Gt} : (gtx g == s) = true ↔ GOk s g := by
  unfold gtx GOk
  rw [beq_iff_eq]
  cases h : gok 8 g with
  | true => rw [if_pos rfl]; simp
  | false => rw [if_neg (by decide)]; simp; exact fun e => hs e
/-- What stands at a place of the words, read by its digits, or by its one byte. -/
def wdD (ws : List (List UInt8)) (i : Nat) : Int := if i < ws.length then dgs (ws.getD i []) else 0
def wdO (ws : List (List UInt8)) (i : Nat) : Int := if i < ws.length ∧ (ws.getD i []).length = 1 then (((ws.getD i []).getD 0 0).toNat : Int) - 48 else 0
def kfd (w : List UInt8) : Int := if w = gnm 0 then 0 else if w = gnm 1 then 1 else if w = gnm 2 then 2 else if w = gnm 3 then 3 else if w = gnm 4 then 4 else -1
def rdS (s : List UInt8) : Gt := ⟨kfd ((cutA 32 [] s).getD 0 []), wdD (cutA 32 [] s) 1, wdD (cutA 32 [] s) 2, wdD (cutA 32 [] s) 3⟩
def rdI (k : Int) (s : List UInt8) : Gt := ⟨k, wdO (cutA 32 [] s) 1, wdO (cutA 32 [] s) 2, wdO (cutA 32 [] s) 3⟩
theorem kfd_all : ∀ i : Fin 5, (kfd (gnm (i.val : Int)) == (i.val : Int)) = true := by decide +kernel
theorem kfd_of {k : Int} (h : 0 ≤ k ∧ k ≤ 4) : kfd (gnm k) = k := by
  have := kfd_all ⟨k.toNat, by omega⟩
  dsimp only at this
  rw [show ((k.toNat : Nat) : Int) = k by omega, beq_iff_eq] at this
  exact this
theorem wdD_at {ws : List (List UInt8)} {i : Nat} {x : Int} (hi : i < ws.length) (e : ws.getD i [] = dx x) (h : 0 ≤ x ∧ x ≤ 9) : wdD ws i = x := by
  unfold wdD
  rw [if_pos hi, e, dx_dg (by omega)]
theorem wdO_at {ws : List (List UInt8)} {i : Nat} {x : Int} (hi : i < ws.length) (e : ws.getD i [] = dx x) (h : 0 ≤ x ∧ x ≤ 9) : wdO ws i = x := by
  obtain ⟨h1, h2⟩ := dx1 h
  unfold wdO
  rw [e, h1, if_pos ⟨hi, rfl⟩]
  exact h2
theorem wdD_no {ws : List (List UInt8)} {i : Nat} (hi : ws.length ≤ i) : wdD ws i = 0 := if_neg (by omega)
theorem wdO_no {ws : List (List UInt8)} {i : Nat} (hi : ws.length ≤ i) : wdO ws i = 0 := if_neg (by omega)
/-- Both readers find the gate that a text is of. -/
theorem gk_rd {s : List UInt8} {g : Gt} (h : GOk s g) : rdS s = g ∧ rdI g.k s = g ∧ (cutA 32 [] s).getD 0 [] = gnm g.k := by
  have hw := gtT_cut h.1
  rw [h.2] at hw
  obtain ⟨_, hk, _⟩ := gok_bd h.1
  obtain ⟨_, hf⟩ := gok_facts h.1
  have hh := gtW_head g
  unfold rdS rdI
  rw [hw, hh, kfd_of hk]
  obtain ⟨k, a, b, c⟩ := g
  dsimp only at hk hf hh ⊢
  rcases hf with ⟨rfl, ha, rfl, rfl⟩ | ⟨hk2, ha, hb, _, rfl⟩ | ⟨hk2, ha, hb, hc, _⟩
  · have e : gtW ⟨0, a, 0, 0⟩ = [gnm 0, dx a] := rfl
    rw [e, wdD_at (x := a) (i := 1) (by simp) rfl (by omega), wdO_at (x := a) (i := 1) (by simp) rfl (by omega), wdD_no (i := 2) (by simp), wdO_no (i := 2) (by simp), wdD_no (i := 3) (by simp), wdO_no (i := 3) (by simp)]
    exact ⟨rfl, rfl, rfl⟩
  · have e : gtW ⟨k, a, b, 0⟩ = [gnm k, dx a, dx b] := by
      unfold gtW; dsimp only; rw [if_neg (by omega), if_pos (by omega)]
    rw [e, wdD_at (x := a) (i := 1) (by simp) rfl (by omega), wdO_at (x := a) (i := 1) (by simp) rfl (by omega), wdD_at (x := b) (i := 2) (by simp) rfl (by omega), wdO_at (x := b) (i := 2) (by simp) rfl (by omega), wdD_no (i := 3) (by simp), wdO_no (i := 3) (by simp)]
    exact ⟨rfl, rfl, rfl⟩
  · have e : gtW ⟨k, a, b, c⟩ = [gnm k, dx a, dx b, dx c] := by
      unfold gtW; dsimp only; rw [if_neg (by omega), if_neg (by omega)]
    rw [e, wdD_at (x := a) (i := 1) (by simp) rfl (by omega), wdO_at (x := a) (i := 1) (by simp) rfl (by omega), wdD_at (x := b) (i := 2) (by simp) rfl (by omega), wdO_at (x := b) (i := 2) (by simp) rfl (by omega), wdD_at (x := c) (i := 3) (by simp) rfl (by omega), wdO_at (x := c) (i := 3) (by simp) rfl (by omega)]
    exact ⟨rfl, rfl, rfl⟩
theorem gk_uni {s : List UInt8} {g g' : Gt} (h : GOk s g) (h' : GOk s g') : g = g' := (gk_rd h).1.symm.trans (gk_rd h').1
end Go.Proofs.YtgphlcdinejmdaaDoor

/- Texts of deeds; which deed a text is of. -/
namespace Go.Proofs.YtgphlcdinejmdaaDoor
set_option linter.unusedVariables false
set_option linter.unusedSimpArgs false
open Go.Lib (decDigits)
abbrev g0 : Gt := ⟨0, 0, 0, 0⟩
/-- The words with which deeds' texts begin. -/
def dnm (k : Int) : List UInt8 := if k = 0 then [102, 111, 114, 116, 104] else if k = 1 then [98, 97, 99, 107] else if k = 2 then [112, 117, 116] else if k = 3 then [116, 97, 107, 101] else [115, 104, 111, 114, 116]
def dtx (k n : Int) (p : Gt) : List UInt8 :=
  if k = 0 ∨ k = 1 then (if p = g0 ∧ 1 ≤ n ∧ n ≤ 99 then dnm k ++ [32] ++ dx n else [])
  else if k = 2 then (if n = 0 ∧ gok 8 p = true then dnm 2 ++ [32] ++ gtT p else [])
  else if k = 3 ∨ k = 4 then (if n = 0 ∧ p = g0 then dnm k else [])
  else []
/-- A text of a deed. -/
def DOk (s : List UInt8) (k n : Int) (p : Gt) : Prop := dtx k n p = s ∧ s ≠ []
theorem dnm_no (k : Int) : (dnm k).contains 32 = false := by
  unfold dnm
  repeat (split; rfl)
  rfl
theorem dnm_len (k : Int) : 3 ≤ (dnm k).length ∧ (dnm k).length ≤ 5 := by
  unfold dnm
  repeat (split; decide)
  decide
theorem dnm_inj5 : ∀ i j : Fin 5, (dnm (i.val : Int) == dnm (j.val : Int)) = (i == j) := by decide +kernel
theorem dnm_inj {k k' : Int} (h : 0 ≤ k ∧ k ≤ 4) (h' : 0 ≤ k' ∧ k' ≤ 4) (e : dnm k = dnm k') : k = k' := by
  have := dnm_inj5 ⟨k.toNat, by omega⟩ ⟨k'.toNat, by omega⟩
  dsimp only at this
  rw [show ((k.toNat : Nat) : Int) = k by omega, show ((k'.toNat : Nat) : Int) = k' by omega, e, beq_self_eq_true] at this
  have h2 := eq_of_beq this.symm
  have h3 := congrArg Fin.val h2
  dsimp only at h3
  omega
theorem d_cases {s : List UInt8} {k n : Int} {p : Gt} (h : DOk s k n p) :
    ((k = 0 ∨ k = 1) ∧ p = g0 ∧ (1 ≤ n ∧ n ≤ 99) ∧ s = dnm k ++ 32 :: dx n ∧ cutA 32 [] s = [dnm k, dx n]) ∨
    (k = 2 ∧ n = 0 ∧ gok 8 p = true ∧ s = dnm 2 ++ 32 :: gtT p ∧ cutA 32 [] s = dnm 2 :: gtW p) ∨
    ((k = 3 ∨ k = 4) ∧ n = 0 ∧ p = g0 ∧ s = dnm k ∧ cutA 32 [] s = [dnm k]) := by
  obtain ⟨h, hne⟩ := h
  unfold dtx at h
  split at h
  · rename_i hk
    split at h
    · rename_i hc
      refine .inl ⟨hk, hc.1, hc.2, by rw [← h]; simp, ?_⟩
      rw [← h]
      exact cut2 (dnm_no k) (dx_no (by omega))
    · exact absurd h.symm hne
  split at h
  · rename_i hk
    split at h
    · rename_i hc
      refine .inr (.inl ⟨hk, hc.1, hc.2, by rw [← h]; simp, ?_⟩)
      rw [← h, show dnm 2 ++ [32] ++ gtT p = dnm 2 ++ 32 :: gtT p by simp, cutA_app (dnm_no 2), gtT_cut hc.2]
      rfl
    · exact absurd h.symm hne
  split at h
  · rename_i hk
    split at h
    · rename_i hc
      refine .inr (.inr ⟨hk, hc.1, hc.2, h.symm, ?_⟩)
      rw [← h, cutA_end (dnm_no k)]
      rfl
    · exact absurd h.symm hne
  · exact absurd h.symm hne
theorem d_kind {s : List UInt8} {k n : Int} {p : Gt} (h : DOk s k n p) : 0 ≤ k ∧ k ≤ 4 := by
  rcases d_cases h with ⟨hk, _⟩ | ⟨hk, _⟩ | ⟨hk, _⟩ <;> omega
theorem d_head {s : List UInt8} {k n : Int} {p : Gt} (h : DOk s k n p) : (cutA 32 [] s).getD 0 [] = dnm k := by
  rcases d_cases h with ⟨_, _, _, _, e⟩ | ⟨rfl, _, _, _, e⟩ | ⟨_, _, _, _, e⟩ <;> rw [e] <;> rfl
theorem d_uni {s : List UInt8} {k n k' n' : Int} {p p' : Gt} (h : DOk s k n p) (h' : DOk s k' n' p') : k = k' ∧ n = n' ∧ p = p' := by
  have hk := dnm_inj (d_kind h) (d_kind h') ((d_head h).symm.trans (d_head h'))
  subst hk
  rcases d_cases h with ⟨hk, hp, hn, e, _⟩ | ⟨hk, hn, hp, e, _⟩ | ⟨hk, hn, hp, e, _⟩ <;> rcases d_cases h' with ⟨hk2, hp2, hn2, e2, _⟩ | ⟨hk2, hn2, hp2, e2, _⟩ | ⟨hk2, hn2, hp2, e2, _⟩
  all_goals first
    | (exfalso; omega)
    | skip
  · rw [e] at e2
    have e3 := List.append_cancel_left e2
    injection e3 with _ e4
    exact ⟨rfl, dx_inj (by omega) (by omega) e4, by rw [hp, hp2]⟩
  · rw [e] at e2
    have e3 := List.append_cancel_left e2
    injection e3 with _ e4
    exact ⟨rfl, by omega, gk_uni ⟨hp, e4⟩ ⟨hp2, rfl⟩⟩
  · exact ⟨rfl, by omega, by rw [hp, hp2]⟩
theorem dtx_eq {s : List UInt8} (hs : s ≠ []) {k n : Int} {p : Gt} : (dtx k n p == s) = true ↔ DOk s k n p := by
  rw [beq_iff_eq]
  exact ⟨fun h => ⟨h, hs⟩, fun h => h.1⟩
theorem dtx_len (k n : Int) (p : Gt) : (dtx k n p).length ≤ 20 := by
  have hl := dnm_len k
  have h2 := dnm_len 2
  unfold dtx
  split
  · split
    · rename_i hc
      have : 1 ≤ (dx n).length ∧ (dx n).length ≤ 2 := (dd2_of (n := n.toNat) (by omega)).2.2.2
      simp only [List.length_append, List.length_cons, List.length_nil]; omega
    · simp
  split
  · split
    · rename_i hc
      have := gtT_len hc.2
      simp only [List.length_append, List.length_cons, List.length_nil]; omega
    · simp
  split
  · split
    · omega
    · simp
  · simp
end Go.Proofs.YtgphlcdinejmdaaDoor

/- The kind whose name a word is, found one after the other; what both readers of gates answer. -/
namespace Go.Proofs.YtgphlcdinejmdaaDoor
set_option linter.unusedVariables false
set_option linter.unusedSimpArgs false
open Go.Lib (decDigits)
/-- The last of the first kinds whose name a word is. -/
def kft (w : List UInt8) : Nat → Int
  | 0 => -1
  | j + 1 => if (w == gnm (j : Int)) = true then (j : Int) else kft w j
theorem kft_5 (w : List UInt8) : kft w 5 = kfd w := by
  have e : ∀ i : Nat, (w == gnm (i : Int)) = true ↔ w = gnm (i : Int) := fun i => beq_iff_eq
  unfold kfd
  simp only [kft, e]
  by_cases h0 : w = gnm 0
  · subst h0; decide
  by_cases h1 : w = gnm 1
  · subst h1; decide
  by_cases h2 : w = gnm 2
  · subst h2; decide
  by_cases h3 : w = gnm 3
  · subst h3; decide
  by_cases h4 : w = gnm 4
  · subst h4; decide
  rw [if_neg h0, if_neg h1, if_neg h2, if_neg h3, if_neg h4]
  rw [if_neg (show ¬ w = gnm ((4 : Nat) : Int) from h4), if_neg (show ¬ w = gnm ((3 : Nat) : Int) from h3), if_neg (show ¬ w = gnm ((2 : Nat) : Int) from h2), if_neg (show ¬ w = gnm ((1 : Nat) : Int) from h1), if_neg (show ¬ w = gnm ((0 : Nat) : Int) from h0)]
theorem no_gtx {s : List UInt8} (hs : s ≠ []) (h : ∀ g, ¬ GOk s g) (g : Gt) : (gtx g == s) = false := by
  rw [Bool.eq_false_iff]
  intro e
  exact h _ ((gtx_eq hs).1 e)
/-- The gate that a reader returns, and whether there is one. -/
def RG (s : List UInt8) (g : Gt) (b : Bool) : Prop := (b = true ∧ GOk s g) ∨ (b = false ∧ g = g0 ∧ ∀ g', ¬ GOk s g')
theorem gok_nil (g : Gt) : ¬ GOk [] g := fun h => gtT_ne g h.2
theorem rg_all (s : List UInt8) : ∃ g b, RG s g b := by
  by_cases h : ∃ g, GOk s g
  · obtain ⟨g, h⟩ := h; exact ⟨g, true, .inl ⟨rfl, h⟩⟩
  · exact ⟨g0, false, .inr ⟨rfl, rfl, fun g' hg => h ⟨g', hg⟩⟩⟩
end Go.Proofs.YtgphlcdinejmdaaDoor
