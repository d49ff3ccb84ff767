/- FT, PFT, BW: laid into one text. -/
import Derived.Test.YtfoobfelgbcknaaDoorQFE
import Derived.Test.YtfoobfelgbcknaaDoorQFI
import Derived.Lib.Join
import Derived.Test.YtfoobfelgbcknaaDoorProg
import Derived.Shelf.Strings.BuilderK

namespace Go.Proofs.YtfoobfelgbcknaaDoor
set_option linter.unusedVariables false
set_option linter.unusedSimpArgs false
set_option maxRecDepth 20000
open Go.RowKit
attribute [local irreducible] runA runX AW
theorem gq_FT {H G : Prop} (k : H) (h : Hid H → G := by (intro hh; repeat1' (first | (first | (refine nxA ?_; (first | (first | refine r_sadd (by rfl) (by rfl) (by first | omega | (simp only [List.length_append, List.length_cons, List.length_nil, List.length_take]; omega)) (by rfl) ?_) | ((first | (refine z_op (by rfl) ?_; first | refine z_ok ?_ ?_ | refine z_ex ?_ (by first | exact zL1 | ((first | fail); exact zWW) | exact zL2 | fail | exact zL3 | fail) ?_) | ((first | refine q_callE wsT wsZ (by rfl) ?_ | refine q_callVE wsT (by rfl) (by rfl) ?_); refine ⟨_, _, _, (by first | assumption | exact Kon.of con_validS (cValid_at _ _ _)), _, by rfl, ?_, ?_⟩)); focus (first | exact trivial | fail | exact zQZ)) | fail)) | refine swA ?_) | refine awA ?_); exact hh.out)) : G := h ⟨k⟩
abbrev fAx (s : Int) (l : List Bool) (b : Bool) : AV := .g (.agg [.v (.int .i64 s), .ro 1 l.length (bV l), .v (.bool b)])
def cb (b : Bool) : UInt8 := if b then 111 else 46
def rowP (l : List Bool) (s y : Nat) : List UInt8 := ((l.drop (y * s)).take s).map cb
def bodyP (l : List Bool) (s : Nat) : Nat → List UInt8
  | 0 => []
  | n + 1 => rowP l s n ++ (if 0 < n then 47 :: bodyP l s n else [])
def ftx (f : Fld) : List UInt8 := if f.ok = true then (if f.b = true then [33] else []) ++ bodyP f.l f.s.toNat f.s.toNat else []
theorem rowP_len {l : List Bool} {s y : Nat} : (rowP l s y).length ≤ s := by
  unfold rowP
  rw [List.length_map, List.length_take]; omega
theorem rowP_snoc {l : List Bool} {s y x : Nat} (hx : x < s) (hl : y * s + x < l.length) : (rowP l s y).take (x + 1) = (rowP l s y).take x ++ [cb (l.getD (y * s + x) false)] := by
  have h : (rowP l s y)[x]? = some (cb (l.getD (y * s + x) false)) := by
    unfold rowP
    simp [hx, List.getElem?_take, List.getElem?_drop, List.getD_eq_getElem?_getD, hl]
  rw [List.take_add_one, h]; rfl
theorem rowP_all {l : List Bool} {s y : Nat} : (rowP l s y).take s = rowP l s y := List.take_of_length_le rowP_len
set_option maxHeartbeats 4000000 in
theorem k_ftS2true (l : List Bool) (hl : l.length = 4) (hok : Fld.ok ⟨2, l, true⟩ = true) : Kon Tryd.prog 8 [fAx 2 l true] [] (vS ([33] ++ bodyP l 2 2)) [] [] := by
  have hV : Kon Tryd.prog 26 [fAx 2 l true] [] (vB true) [] [] := by
    have := Kon.of con_validS (cValid_at 2 l true)
    rw [hok] at this
    exact this
  (refine kM Tryd.func8 rfl ?_; intro hfit hfe)
  (repeat (first | refine gq_FT ?_ | (refine ga0A ?_; intro _hq)))
  (refine aw_rd [1] [16] (fun g : Nat × List UInt8 => [(3, vS g.2), (4, vI ((g.1 : Int) - 1))]) (fun g => []) (fun g => g.1 ≤ 2 ∧ g.2 ++ bodyP l 2 g.1 = [33] ++ bodyP l 2 2 ∧ g.2.length + 20 * g.1 ≤ 400) (fun g => g.1) (2, [33]) (by rfl) (by rfl) ?_ (by rfl) zHE zHE ?_)
  · exact ⟨Nat.le_refl _, rfl, by decide⟩
  rintro ⟨n, o⟩ ⟨h1, h2, h3⟩
  dsimp only at h1 h2 h3 ⊢
  rcases n with _ | n
  · have hd : decide (((0 : Nat) : Int) - 1 ≥ 0) = false := by decide
    rw [bodyP, List.append_nil] at h2
    rw [← h2]
    (repeat (first | refine gq_FT ?_ | (refine ga0A ?_; intro _hq)))
    (refine rtA ?_; try rfl)
  · have hd : decide (((n + 1 : Nat) : Int) - 1 ≥ 0) = true := decide_eq_true (by omega)
    have hr := rowP_len (l := l) (s := 2) (y := n)
    (repeat (first | refine gq_FT ?_ | (refine ga0A ?_; intro _hq)))
    (refine aw_rd [1, 4] [16] (fun g : Nat × List UInt8 => [(3, vS g.2), (5, vI g.1)]) (fun g => []) (fun g => g.1 ≤ 2 ∧ g.2 = o ++ (rowP l 2 n).take g.1) (fun g => 2 - g.1) (0, o) (by rfl) (by rfl) ?_ (by rfl) zHE zHE ?_)
    · exact ⟨Nat.zero_le _, by simp⟩
    rintro ⟨x, p⟩ ⟨i1, i2⟩
    dsimp only at i1 i2 ⊢
    subst i2
    rcases Nat.lt_or_ge x 2 with i3 | i3
    · have hd2 : decide ((x : Int) < 2) = true := decide_eq_true (by omega)
      have hsn := rowP_snoc (l := l) (s := 2) (y := n) i3 (by omega)
      have hix : (((((n + 1 : Nat) : Int) - 1) * 2 + (x : Int)).toNat) = n * 2 + x := by omega
      have hlx : ((rowP l 2 n).take x).length ≤ 2 := by rw [List.length_take]; omega
      cases hc : l.getD (n * 2 + x) false with
      | false =>
        rw [hc] at hsn
        have hb : l.getD (((((n + 1 : Nat) : Int) - 1) * 2 + (x : Int)).toNat) Cel.no = false := by rw [hix]; exact hc
        have hinv : x + 1 ≤ 2 ∧ o ++ (rowP l 2 n).take x ++ [46] = o ++ (rowP l 2 n).take (x + 1) := ⟨i3, by rw [hsn, List.append_assoc]; rfl⟩
        (repeat (first | refine gq_FT ?_ | (refine ga0A ?_; intro _hq)))
        exact ⟨(x + 1, o ++ (rowP l 2 n).take x ++ [46]), hinv, ⟨by rfl, zHE, zHE⟩, (by first | omega | (dsimp only; omega))⟩
      | true =>
        rw [hc] at hsn
        have hb : l.getD (((((n + 1 : Nat) : Int) - 1) * 2 + (x : Int)).toNat) Cel.no = true := by rw [hix]; exact hc
        have hinv : x + 1 ≤ 2 ∧ o ++ (rowP l 2 n).take x ++ [111] = o ++ (rowP l 2 n).take (x + 1) := ⟨i3, by rw [hsn, List.append_assoc]; rfl⟩
        (repeat (first | refine gq_FT ?_ | (refine ga0A ?_; intro _hq)))
        exact ⟨(x + 1, o ++ (rowP l 2 n).take x ++ [111]), hinv, ⟨by rfl, zHE, zHE⟩, (by first | omega | (dsimp only; omega))⟩
    · obtain rfl : x = 2 := by omega
      have hd2 : decide (((2 : Nat) : Int) < 2) = false := by decide
      rw [rowP_all]
      rcases n with _ | n
      · have hd3 : decide (((0 + 1 : Nat) : Int) - 1 > 0) = false := by decide
        have hinv : 0 ≤ 2 ∧ o ++ rowP l 2 0 ++ bodyP l 2 0 = [33] ++ bodyP l 2 2 ∧ (o ++ rowP l 2 0).length + 20 * 0 ≤ 400 := by
          refine ⟨by omega, ?_, by rw [List.length_append]; omega⟩
          rw [← h2]; simp [bodyP]
        (repeat (first | refine gq_FT ?_ | (refine ga0A ?_; intro _hq)))
        exact ⟨(0, o ++ rowP l 2 0), hinv, ⟨by rfl, zHE, zHE⟩, (by first | omega | (dsimp only; omega))⟩
      · have hd3 : decide (((n + 1 + 1 : Nat) : Int) - 1 > 0) = true := decide_eq_true (by omega)
        have hinv : n + 1 ≤ 2 ∧ o ++ rowP l 2 (n + 1) ++ [47] ++ bodyP l 2 (n + 1) = [33] ++ bodyP l 2 2 ∧ (o ++ rowP l 2 (n + 1) ++ [47]).length + 20 * (n + 1) ≤ 400 := by
          refine ⟨by omega, ?_, by simp only [List.length_append, List.length_cons, List.length_nil]; omega⟩
          rw [← h2]; simp [bodyP]
        (repeat (first | refine gq_FT ?_ | (refine ga0A ?_; intro _hq)))
        exact ⟨(n + 1, o ++ rowP l 2 (n + 1) ++ [47]), hinv, ⟨by rfl, zHE, zHE⟩, (by first | omega | (dsimp only; omega))⟩
set_option maxHeartbeats 4000000 in
theorem k_ftS2false (l : List Bool) (hl : l.length = 4) (hok : Fld.ok ⟨2, l, false⟩ = true) : Kon Tryd.prog 8 [fAx 2 l false] [] (vS ([] ++ bodyP l 2 2)) [] [] := by
  have hV : Kon Tryd.prog 26 [fAx 2 l false] [] (vB true) [] [] := by
    have := Kon.of con_validS (cValid_at 2 l false)
    rw [hok] at this
    exact this
  (refine kM Tryd.func8 rfl ?_; intro hfit hfe)
  (repeat (first | refine gq_FT ?_ | (refine ga0A ?_; intro _hq)))
  (refine aw_rd [1] [16] (fun g : Nat × List UInt8 => [(3, vS g.2), (4, vI ((g.1 : Int) - 1))]) (fun g => []) (fun g => g.1 ≤ 2 ∧ g.2 ++ bodyP l 2 g.1 = [] ++ bodyP l 2 2 ∧ g.2.length + 20 * g.1 ≤ 400) (fun g => g.1) (2, []) (by rfl) (by rfl) ?_ (by rfl) zHE zHE ?_)
  · exact ⟨Nat.le_refl _, rfl, by decide⟩
  rintro ⟨n, o⟩ ⟨h1, h2, h3⟩
  dsimp only at h1 h2 h3 ⊢
  rcases n with _ | n
  · have hd : decide (((0 : Nat) : Int) - 1 ≥ 0) = false := by decide
    rw [bodyP, List.append_nil] at h2
    rw [← h2]
    (repeat (first | refine gq_FT ?_ | (refine ga0A ?_; intro _hq)))
    (refine rtA ?_; try rfl)
  · have hd : decide (((n + 1 : Nat) : Int) - 1 ≥ 0) = true := decide_eq_true (by omega)
    have hr := rowP_len (l := l) (s := 2) (y := n)
    (repeat (first | refine gq_FT ?_ | (refine ga0A ?_; intro _hq)))
    (refine aw_rd [1, 4] [16] (fun g : Nat × List UInt8 => [(3, vS g.2), (5, vI g.1)]) (fun g => []) (fun g => g.1 ≤ 2 ∧ g.2 = o ++ (rowP l 2 n).take g.1) (fun g => 2 - g.1) (0, o) (by rfl) (by rfl) ?_ (by rfl) zHE zHE ?_)
    · exact ⟨Nat.zero_le _, by simp⟩
    rintro ⟨x, p⟩ ⟨i1, i2⟩
    dsimp only at i1 i2 ⊢
    subst i2
    rcases Nat.lt_or_ge x 2 with i3 | i3
    · have hd2 : decide ((x : Int) < 2) = true := decide_eq_true (by omega)
      have hsn := rowP_snoc (l := l) (s := 2) (y := n) i3 (by omega)
      have hix : (((((n + 1 : Nat) : Int) - 1) * 2 + (x : Int)).toNat) = n * 2 + x := by omega
      have hlx : ((rowP l 2 n).take x).length ≤ 2 := by rw [List.length_take]; omega
      cases hc : l.getD (n * 2 + x) false with
      | false =>
        rw [hc] at hsn
        have hb : l.getD (((((n + 1 : Nat) : Int) - 1) * 2 + (x : Int)).toNat) Cel.no = false := by rw [hix]; exact hc
        have hinv : x + 1 ≤ 2 ∧ o ++ (rowP l 2 n).take x ++ [46] = o ++ (rowP l 2 n).take (x + 1) := ⟨i3, by rw [hsn, List.append_assoc]; rfl⟩
        (repeat (first | refine gq_FT ?_ | (refine ga0A ?_; intro _hq)))
        exact ⟨(x + 1, o ++ (rowP l 2 n).take x ++ [46]), hinv, ⟨by rfl, zHE, zHE⟩, (by first | omega | (dsimp only; omega))⟩
      | true =>
        rw [hc] at hsn
        have hb : l.getD (((((n + 1 : Nat) : Int) - 1) * 2 + (x : Int)).toNat) Cel.no = true := by rw [hix]; exact hc
        have hinv : x + 1 ≤ 2 ∧ o ++ (rowP l 2 n).take x ++ [111] = o ++ (rowP l 2 n).take (x + 1) := ⟨i3, by rw [hsn, List.append_assoc]; rfl⟩
        (repeat (first | refine gq_FT ?_ | (refine ga0A ?_; intro _hq)))
        exact ⟨(x + 1, o ++ (rowP l 2 n).take x ++ [111]), hinv, ⟨by rfl, zHE, zHE⟩, (by first | omega | (dsimp only; omega))⟩
    · obtain rfl : x = 2 := by omega
      have hd2 : decide (((2 : Nat) : Int) < 2) = false := by decide
      rw [rowP_all]
      rcases n with _ | n
      · have hd3 : decide (((0 + 1 : Nat) : Int) - 1 > 0) = false := by decide
        have hinv : 0 ≤ 2 ∧ o ++ rowP l 2 0 ++ bodyP l 2 0 = [] ++ bodyP l 2 2 ∧ (o ++ rowP l 2 0).length + 20 * 0 ≤ 400 := by
          refine ⟨by omega, ?_, by rw [List.length_append]; omega⟩
          rw [← h2]; simp [bodyP]
        (repeat (first | refine gq_FT ?_ | (refine ga0A ?_; intro _hq)))
        exact ⟨(0, o ++ rowP l 2 0), hinv, ⟨by rfl, zHE, zHE⟩, (by first | omega | (dsimp only; omega))⟩
      · have hd3 : decide (((n + 1 + 1 : Nat) : Int) - 1 > 0) = true := decide_eq_true (by omega)
        have hinv : n + 1 ≤ 2 ∧ o ++ rowP l 2 (n + 1) ++ [47] ++ bodyP l 2 (n + 1) = [] ++ bodyP l 2 2 ∧ (o ++ rowP l 2 (n + 1) ++ [47]).length + 20 * (n + 1) ≤ 400 := by
          refine ⟨by omega, ?_, by simp only [List.length_append, List.length_cons, List.length_nil]; omega⟩
          rw [← h2]; simp [bodyP]
        (repeat (first | refine gq_FT ?_ | (refine ga0A ?_; intro _hq)))
        exact ⟨(n + 1, o ++ rowP l 2 (n + 1) ++ [47]), hinv, ⟨by rfl, zHE, zHE⟩, (by first | omega | (dsimp only; omega))⟩
set_option maxHeartbeats 4000000 in
theorem k_ftS4true (l : List Bool) (hl : l.length = 16) (hok : Fld.ok ⟨4, l, true⟩ = true) : Kon Tryd.prog 8 [fAx 4 l true] [] (vS ([33] ++ bodyP l 4 4)) [] [] := by
  have hV : Kon Tryd.prog 26 [fAx 4 l true] [] (vB true) [] [] := by
    have := Kon.of con_validS (cValid_at 4 l true)
    rw [hok] at this
    exact this
  (refine kM Tryd.func8 rfl ?_; intro hfit hfe)
  (repeat (first | refine gq_FT ?_ | (refine ga0A ?_; intro _hq)))
  (refine aw_rd [1] [16] (fun g : Nat × List UInt8 => [(3, vS g.2), (4, vI ((g.1 : Int) - 1))]) (fun g => []) (fun g => g.1 ≤ 4 ∧ g.2 ++ bodyP l 4 g.1 = [33] ++ bodyP l 4 4 ∧ g.2.length + 20 * g.1 ≤ 400) (fun g => g.1) (4, [33]) (by rfl) (by rfl) ?_ (by rfl) zHE zHE ?_)
  · exact ⟨Nat.le_refl _, rfl, by decide⟩
  rintro ⟨n, o⟩ ⟨h1, h2, h3⟩
  dsimp only at h1 h2 h3 ⊢
  rcases n with _ | n
  · have hd : decide (((0 : Nat) : Int) - 1 ≥ 0) = false := by decide
    rw [bodyP, List.append_nil] at h2
    rw [← h2]
    (repeat (first | refine gq_FT ?_ | (refine ga0A ?_; intro _hq)))
    (refine rtA ?_; try rfl)
  · have hd : decide (((n + 1 : Nat) : Int) - 1 ≥ 0) = true := decide_eq_true (by omega)
    have hr := rowP_len (l := l) (s := 4) (y := n)
    (repeat (first | refine gq_FT ?_ | (refine ga0A ?_; intro _hq)))
    (refine aw_rd [1, 4] [16] (fun g : Nat × List UInt8 => [(3, vS g.2), (5, vI g.1)]) (fun g => []) (fun g => g.1 ≤ 4 ∧ g.2 = o ++ (rowP l 4 n).take g.1) (fun g => 4 - g.1) (0, o) (by rfl) (by rfl) ?_ (by rfl) zHE zHE ?_)
    · exact ⟨Nat.zero_le _, by simp⟩
    rintro ⟨x, p⟩ ⟨i1, i2⟩
    dsimp only at i1 i2 ⊢
    subst i2
    rcases Nat.lt_or_ge x 4 with i3 | i3
    · have hd2 : decide ((x : Int) < 4) = true := decide_eq_true (by omega)
      have hsn := rowP_snoc (l := l) (s := 4) (y := n) i3 (by omega)
      have hix : (((((n + 1 : Nat) : Int) - 1) * 4 + (x : Int)).toNat) = n * 4 + x := by omega
      have hlx : ((rowP l 4 n).take x).length ≤ 4 := by rw [List.length_take]; omega
      cases hc : l.getD (n * 4 + x) false with
      | false =>
        rw [hc] at hsn
        have hb : l.getD (((((n + 1 : Nat) : Int) - 1) * 4 + (x : Int)).toNat) Cel.no = false := by rw [hix]; exact hc
        have hinv : x + 1 ≤ 4 ∧ o ++ (rowP l 4 n).take x ++ [46] = o ++ (rowP l 4 n).take (x + 1) := ⟨i3, by rw [hsn, List.append_assoc]; rfl⟩
        (repeat (first | refine gq_FT ?_ | (refine ga0A ?_; intro _hq)))
        exact ⟨(x + 1, o ++ (rowP l 4 n).take x ++ [46]), hinv, ⟨by rfl, zHE, zHE⟩, (by first | omega | (dsimp only; omega))⟩
      | true =>
        rw [hc] at hsn
        have hb : l.getD (((((n + 1 : Nat) : Int) - 1) * 4 + (x : Int)).toNat) Cel.no = true := by rw [hix]; exact hc
        have hinv : x + 1 ≤ 4 ∧ o ++ (rowP l 4 n).take x ++ [111] = o ++ (rowP l 4 n).take (x + 1) := ⟨i3, by rw [hsn, List.append_assoc]; rfl⟩
        (repeat (first | refine gq_FT ?_ | (refine ga0A ?_; intro _hq)))
        exact ⟨(x + 1, o ++ (rowP l 4 n).take x ++ [111]), hinv, ⟨by rfl, zHE, zHE⟩, (by first | omega | (dsimp only; omega))⟩
    · obtain rfl : x = 4 := by omega
      have hd2 : decide (((4 : Nat) : Int) < 4) = false := by decide
      rw [rowP_all]
      rcases n with _ | n
      · have hd3 : decide (((0 + 1 : Nat) : Int) - 1 > 0) = false := by decide
        have hinv : 0 ≤ 4 ∧ o ++ rowP l 4 0 ++ bodyP l 4 0 = [33] ++ bodyP l 4 4 ∧ (o ++ rowP l 4 0).length + 20 * 0 ≤ 400 := by
          refine ⟨by omega, ?_, by rw [List.length_append]; omega⟩
          rw [← h2]; simp [bodyP]
        (repeat (first | refine gq_FT ?_ | (refine ga0A ?_; intro _hq)))
        exact ⟨(0, o ++ rowP l 4 0), hinv, ⟨by rfl, zHE, zHE⟩, (by first | omega | (dsimp only; omega))⟩
      · have hd3 : decide (((n + 1 + 1 : Nat) : Int) - 1 > 0) = true := decide_eq_true (by omega)
        have hinv : n + 1 ≤ 4 ∧ o ++ rowP l 4 (n + 1) ++ [47] ++ bodyP l 4 (n + 1) = [33] ++ bodyP l 4 4 ∧ (o ++ rowP l 4 (n + 1) ++ [47]).length + 20 * (n + 1) ≤ 400 := by
          refine ⟨by omega, ?_, by simp only [List.length_append, List.length_cons, List.length_nil]; omega⟩
          rw [← h2]; simp [bodyP]
        (repeat (first | refine gq_FT ?_ | (refine ga0A ?_; intro _hq)))
        exact ⟨(n + 1, o ++ rowP l 4 (n + 1) ++ [47]), hinv, ⟨by rfl, zHE, zHE⟩, (by first | omega | (dsimp only; omega))⟩
set_option maxHeartbeats 4000000 in
theorem k_ftS4false (l : List Bool) (hl : l.length = 16) (hok : Fld.ok ⟨4, l, false⟩ = true) : Kon Tryd.prog 8 [fAx 4 l false] [] (vS ([] ++ bodyP l 4 4)) [] [] := by
  have hV : Kon Tryd.prog 26 [fAx 4 l false] [] (vB true) [] [] := by
    have := Kon.of con_validS (cValid_at 4 l false)
    rw [hok] at this
    exact this
  (refine kM Tryd.func8 rfl ?_; intro hfit hfe)
  (repeat (first | refine gq_FT ?_ | (refine ga0A ?_; intro _hq)))
  (refine aw_rd [1] [16] (fun g : Nat × List UInt8 => [(3, vS g.2), (4, vI ((g.1 : Int) - 1))]) (fun g => []) (fun g => g.1 ≤ 4 ∧ g.2 ++ bodyP l 4 g.1 = [] ++ bodyP l 4 4 ∧ g.2.length + 20 * g.1 ≤ 400) (fun g => g.1) (4, []) (by rfl) (by rfl) ?_ (by rfl) zHE zHE ?_)
  · exact ⟨Nat.le_refl _, rfl, by decide⟩
  rintro ⟨n, o⟩ ⟨h1, h2, h3⟩
  dsimp only at h1 h2 h3 ⊢
  rcases n with _ | n
  · have hd : decide (((0 : Nat) : Int) - 1 ≥ 0) = false := by decide
    rw [bodyP, List.append_nil] at h2
    rw [← h2]
    (repeat (first | refine gq_FT ?_ | (refine ga0A ?_; intro _hq)))
    (refine rtA ?_; try rfl)
  · have hd : decide (((n + 1 : Nat) : Int) - 1 ≥ 0) = true := decide_eq_true (by omega)
    have hr := rowP_len (l := l) (s := 4) (y := n)
    (repeat (first | refine gq_FT ?_ | (refine ga0A ?_; intro _hq)))
    (refine aw_rd [1, 4] [16] (fun g : Nat × List UInt8 => [(3, vS g.2), (5, vI g.1)]) (fun g => []) (fun g => g.1 ≤ 4 ∧ g.2 = o ++ (rowP l 4 n).take g.1) (fun g => 4 - g.1) (0, o) (by rfl) (by rfl) ?_ (by rfl) zHE zHE ?_)
    · exact ⟨Nat.zero_le _, by simp⟩
    rintro ⟨x, p⟩ ⟨i1, i2⟩
    dsimp only at i1 i2 ⊢
    subst i2
    rcases Nat.lt_or_ge x 4 with i3 | i3
    · have hd2 : decide ((x : Int) < 4) = true := decide_eq_true (by omega)
      have hsn := rowP_snoc (l := l) (s := 4) (y := n) i3 (by omega)
      have hix : (((((n + 1 : Nat) : Int) - 1) * 4 + (x : Int)).toNat) = n * 4 + x := by omega
      have hlx : ((rowP l 4 n).take x).length ≤ 4 := by rw [List.length_take]; omega
      cases hc : l.getD (n * 4 + x) false with
      | false =>
        rw [hc] at hsn
        have hb : l.getD (((((n + 1 : Nat) : Int) - 1) * 4 + (x : Int)).toNat) Cel.no = false := by rw [hix]; exact hc
        have hinv : x + 1 ≤ 4 ∧ o ++ (rowP l 4 n).take x ++ [46] = o ++ (rowP l 4 n).take (x + 1) := ⟨i3, by rw [hsn, List.append_assoc]; rfl⟩
        (repeat (first | refine gq_FT ?_ | (refine ga0A ?_; intro _hq)))
        exact ⟨(x + 1, o ++ (rowP l 4 n).take x ++ [46]), hinv, ⟨by rfl, zHE, zHE⟩, (by first | omega | (dsimp only; omega))⟩
      | true =>
        rw [hc] at hsn
        have hb : l.getD (((((n + 1 : Nat) : Int) - 1) * 4 + (x : Int)).toNat) Cel.no = true := by rw [hix]; exact hc
        have hinv : x + 1 ≤ 4 ∧ o ++ (rowP l 4 n).take x ++ [111] = o ++ (rowP l 4 n).take (x + 1) := ⟨i3, by rw [hsn, List.append_assoc]; rfl⟩
        (repeat (first | refine gq_FT ?_ | (refine ga0A ?_; intro _hq)))
        exact ⟨(x + 1, o ++ (rowP l 4 n).take x ++ [111]), hinv, ⟨by rfl, zHE, zHE⟩, (by first | omega | (dsimp only; omega))⟩
    · obtain rfl : x = 4 := by omega
      have hd2 : decide (((4 : Nat) : Int) < 4) = false := by decide
      rw [rowP_all]
      rcases n with _ | n
      · have hd3 : decide (((0 + 1 : Nat) : Int) - 1 > 0) = false := by decide
        have hinv : 0 ≤ 4 ∧ o ++ rowP l 4 0 ++ bodyP l 4 0 = [] ++ bodyP l 4 4 ∧ (o ++ rowP l 4 0).length + 20 * 0 ≤ 400 := by
          refine ⟨by omega, ?_, by rw [List.length_append]; omega⟩
          rw [← h2]; simp [bodyP]
        (repeat (first | refine gq_FT ?_ | (refine ga0A ?_; intro _hq)))
        exact ⟨(0, o ++ rowP l 4 0), hinv, ⟨by rfl, zHE, zHE⟩, (by first | omega | (dsimp only; omega))⟩
      · have hd3 : decide (((n + 1 + 1 : Nat) : Int) - 1 > 0) = true := decide_eq_true (by omega)
        have hinv : n + 1 ≤ 4 ∧ o ++ rowP l 4 (n + 1) ++ [47] ++ bodyP l 4 (n + 1) = [] ++ bodyP l 4 4 ∧ (o ++ rowP l 4 (n + 1) ++ [47]).length + 20 * (n + 1) ≤ 400 := by
          refine ⟨by omega, ?_, by simp only [List.length_append, List.length_cons, List.length_nil]; omega⟩
          rw [← h2]; simp [bodyP]
        (repeat (first | refine gq_FT ?_ | (refine ga0A ?_; intro _hq)))
        exact ⟨(n + 1, o ++ rowP l 4 (n + 1) ++ [47]), hinv, ⟨by rfl, zHE, zHE⟩, (by first | omega | (dsimp only; omega))⟩
set_option maxHeartbeats 4000000 in
theorem k_ftS6true (l : List Bool) (hl : l.length = 36) (hok : Fld.ok ⟨6, l, true⟩ = true) : Kon Tryd.prog 8 [fAx 6 l true] [] (vS ([33] ++ bodyP l 6 6)) [] [] := by
  have hV : Kon Tryd.prog 26 [fAx 6 l true] [] (vB true) [] [] := by
    have := Kon.of con_validS (cValid_at 6 l true)
    rw [hok] at this
    exact this
  (refine kM Tryd.func8 rfl ?_; intro hfit hfe)
  (repeat (first | refine gq_FT ?_ | (refine ga0A ?_; intro _hq)))
  (refine aw_rd [1] [16] (fun g : Nat × List UInt8 => [(3, vS g.2), (4, vI ((g.1 : Int) - 1))]) (fun g => []) (fun g => g.1 ≤ 6 ∧ g.2 ++ bodyP l 6 g.1 = [33] ++ bodyP l 6 6 ∧ g.2.length + 20 * g.1 ≤ 400) (fun g => g.1) (6, [33]) (by rfl) (by rfl) ?_ (by rfl) zHE zHE ?_)
  · exact ⟨Nat.le_refl _, rfl, by decide⟩
  rintro ⟨n, o⟩ ⟨h1, h2, h3⟩
  dsimp only at h1 h2 h3 ⊢
  rcases n with _ | n
  · have hd : decide (((0 : Nat) : Int) - 1 ≥ 0) = false := by decide
    rw [bodyP, List.append_nil] at h2
    rw [← h2]
    (repeat (first | refine gq_FT ?_ | (refine ga0A ?_; intro _hq)))
    (refine rtA ?_; try rfl)
  · have hd : decide (((n + 1 : Nat) : Int) - 1 ≥ 0) = true := decide_eq_true (by omega)
    have hr := rowP_len (l := l) (s := 6) (y := n)
    (repeat (first | refine gq_FT ?_ | (refine ga0A ?_; intro _hq)))
    (refine aw_rd [1, 4] [16] (fun g : Nat × List UInt8 => [(3, vS g.2), (5, vI g.1)]) (fun g => []) (fun g => g.1 ≤ 6 ∧ g.2 = o ++ (rowP l 6 n).take g.1) (fun g => 6 - g.1) (0, o) (by rfl) (by rfl) ?_ (by rfl) zHE zHE ?_)
    · exact ⟨Nat.zero_le _, by simp⟩
    rintro ⟨x, p⟩ ⟨i1, i2⟩
    dsimp only at i1 i2 ⊢
    subst i2
    rcases Nat.lt_or_ge x 6 with i3 | i3
    · have hd2 : decide ((x : Int) < 6) = true := decide_eq_true (by omega)
      have hsn := rowP_snoc (l := l) (s := 6) (y := n) i3 (by omega)
      have hix : (((((n + 1 : Nat) : Int) - 1) * 6 + (x : Int)).toNat) = n * 6 + x := by omega
      have hlx : ((rowP l 6 n).take x).length ≤ 6 := by rw [List.length_take]; omega
      cases hc : l.getD (n * 6 + x) false with
      | false =>
        rw [hc] at hsn
        have hb : l.getD (((((n + 1 : Nat) : Int) - 1) * 6 + (x : Int)).toNat) Cel.no = false := by rw [hix]; exact hc
        have hinv : x + 1 ≤ 6 ∧ o ++ (rowP l 6 n).take x ++ [46] = o ++ (rowP l 6 n).take (x + 1) := ⟨i3, by rw [hsn, List.append_assoc]; rfl⟩
        (repeat (first | refine gq_FT ?_ | (refine ga0A ?_; intro _hq)))
        exact ⟨(x + 1, o ++ (rowP l 6 n).take x ++ [46]), hinv, ⟨by rfl, zHE, zHE⟩, (by first | omega | (dsimp only; omega))⟩
      | true =>
        rw [hc] at hsn
        have hb : l.getD (((((n + 1 : Nat) : Int) - 1) * 6 + (x : Int)).toNat) Cel.no = true := by rw [hix]; exact hc
        have hinv : x + 1 ≤ 6 ∧ o ++ (rowP l 6 n).take x ++ [111] = o ++ (rowP l 6 n).take (x + 1) := ⟨i3, by rw [hsn, List.append_assoc]; rfl⟩
        (repeat (first | refine gq_FT ?_ | (refine ga0A ?_; intro _hq)))
        exact ⟨(x + 1, o ++ (rowP l 6 n).take x ++ [111]), hinv, ⟨by rfl, zHE, zHE⟩, (by first | omega | (dsimp only; omega))⟩
    · obtain rfl : x = 6 := by omega
      have hd2 : decide (((6 : Nat) : Int) < 6) = false := by decide
      rw [rowP_all]
      rcases n with _ | n
      · have hd3 : decide (((0 + 1 : Nat) : Int) - 1 > 0) = false := by decide
        have hinv : 0 ≤ 6 ∧ o ++ rowP l 6 0 ++ bodyP l 6 0 = [33] ++ bodyP l 6 6 ∧ (o ++ rowP l 6 0).length + 20 * 0 ≤ 400 := by
          refine ⟨by omega, ?_, by rw [List.length_append]; omega⟩
          rw [← h2]; simp [bodyP]
        (repeat (first | refine gq_FT ?_ | (refine ga0A ?_; intro _hq)))
        exact ⟨(0, o ++ rowP l 6 0), hinv, ⟨by rfl, zHE, zHE⟩, (by first | omega | (dsimp only; omega))⟩
      · have hd3 : decide (((n + 1 + 1 : Nat) : Int) - 1 > 0) = true := decide_eq_true (by omega)
        have hinv : n + 1 ≤ 6 ∧ o ++ rowP l 6 (n + 1) ++ [47] ++ bodyP l 6 (n + 1) = [33] ++ bodyP l 6 6 ∧ (o ++ rowP l 6 (n + 1) ++ [47]).length + 20 * (n + 1) ≤ 400 := by
          refine ⟨by omega, ?_, by simp only [List.length_append, List.length_cons, List.length_nil]; omega⟩
          rw [← h2]; simp [bodyP]
        (repeat (first | refine gq_FT ?_ | (refine ga0A ?_; intro _hq)))
        exact ⟨(n + 1, o ++ rowP l 6 (n + 1) ++ [47]), hinv, ⟨by rfl, zHE, zHE⟩, (by first | omega | (dsimp only; omega))⟩
set_option maxHeartbeats 4000000 in
theorem k_ftS6false (l : List Bool) (hl : l.length = 36) (hok : Fld.ok ⟨6, l, false⟩ = true) : Kon Tryd.prog 8 [fAx 6 l false] [] (vS ([] ++ bodyP l 6 6)) [] [] := by
  have hV : Kon Tryd.prog 26 [fAx 6 l false] [] (vB true) [] [] := by
    have := Kon.of con_validS (cValid_at 6 l false)
    rw [hok] at this
    exact this
  (refine kM Tryd.func8 rfl ?_; intro hfit hfe)
  (repeat (first | refine gq_FT ?_ | (refine ga0A ?_; intro _hq)))
  (refine aw_rd [1] [16] (fun g : Nat × List UInt8 => [(3, vS g.2), (4, vI ((g.1 : Int) - 1))]) (fun g => []) (fun g => g.1 ≤ 6 ∧ g.2 ++ bodyP l 6 g.1 = [] ++ bodyP l 6 6 ∧ g.2.length + 20 * g.1 ≤ 400) (fun g => g.1) (6, []) (by rfl) (by rfl) ?_ (by rfl) zHE zHE ?_)
  · exact ⟨Nat.le_refl _, rfl, by decide⟩
  rintro ⟨n, o⟩ ⟨h1, h2, h3⟩
  dsimp only at h1 h2 h3 ⊢
  rcases n with _ | n
  · have hd : decide (((0 : Nat) : Int) - 1 ≥ 0) = false := by decide
    rw [bodyP, List.append_nil] at h2
    rw [← h2]
    (repeat (first | refine gq_FT ?_ | (refine ga0A ?_; intro _hq)))
    (refine rtA ?_; try rfl)
  · have hd : decide (((n + 1 : Nat) : Int) - 1 ≥ 0) = true := decide_eq_true (by omega)
    have hr := rowP_len (l := l) (s := 6) (y := n)
    (repeat (first | refine gq_FT ?_ | (refine ga0A ?_; intro _hq)))
    (refine aw_rd [1, 4] [16] (fun g : Nat × List UInt8 => [(3, vS g.2), (5, vI g.1)]) (fun g => []) (fun g => g.1 ≤ 6 ∧ g.2 = o ++ (rowP l 6 n).take g.1) (fun g => 6 - g.1) (0, o) (by rfl) (by rfl) ?_ (by rfl) zHE zHE ?_)
    · exact ⟨Nat.zero_le _, by simp⟩
    rintro ⟨x, p⟩ ⟨i1, i2⟩
    dsimp only at i1 i2 ⊢
    subst i2
    rcases Nat.lt_or_ge x 6 with i3 | i3
    · have hd2 : decide ((x : Int) < 6) = true := decide_eq_true (by omega)
      have hsn := rowP_snoc (l := l) (s := 6) (y := n) i3 (by omega)
      have hix : (((((n + 1 : Nat) : Int) - 1) * 6 + (x : Int)).toNat) = n * 6 + x := by omega
      have hlx : ((rowP l 6 n).take x).length ≤ 6 := by rw [List.length_take]; omega
      cases hc : l.getD (n * 6 + x) false with
      | false =>
        rw [hc] at hsn
        have hb : l.getD (((((n + 1 : Nat) : Int) - 1) * 6 + (x : Int)).toNat) Cel.no = false := by rw [hix]; exact hc
        have hinv : x + 1 ≤ 6 ∧ o ++ (rowP l 6 n).take x ++ [46] = o ++ (rowP l 6 n).take (x + 1) := ⟨i3, by rw [hsn, List.append_assoc]; rfl⟩
        (repeat (first | refine gq_FT ?_ | (refine ga0A ?_; intro _hq)))
        exact ⟨(x + 1, o ++ (rowP l 6 n).take x ++ [46]), hinv, ⟨by rfl, zHE, zHE⟩, (by first | omega | (dsimp only; omega))⟩
      | true =>
        rw [hc] at hsn
        have hb : l.getD (((((n + 1 : Nat) : Int) - 1) * 6 + (x : Int)).toNat) Cel.no = true := by rw [hix]; exact hc
        have hinv : x + 1 ≤ 6 ∧ o ++ (rowP l 6 n).take x ++ [111] = o ++ (rowP l 6 n).take (x + 1) := ⟨i3, by rw [hsn, List.append_assoc]; rfl⟩
        (repeat (first | refine gq_FT ?_ | (refine ga0A ?_; intro _hq)))
        exact ⟨(x + 1, o ++ (rowP l 6 n).take x ++ [111]), hinv, ⟨by rfl, zHE, zHE⟩, (by first | omega | (dsimp only; omega))⟩
    · obtain rfl : x = 6 := by omega
      have hd2 : decide (((6 : Nat) : Int) < 6) = false := by decide
      rw [rowP_all]
      rcases n with _ | n
      · have hd3 : decide (((0 + 1 : Nat) : Int) - 1 > 0) = false := by decide
        have hinv : 0 ≤ 6 ∧ o ++ rowP l 6 0 ++ bodyP l 6 0 = [] ++ bodyP l 6 6 ∧ (o ++ rowP l 6 0).length + 20 * 0 ≤ 400 := by
          refine ⟨by omega, ?_, by rw [List.length_append]; omega⟩
          rw [← h2]; simp [bodyP]
        (repeat (first | refine gq_FT ?_ | (refine ga0A ?_; intro _hq)))
        exact ⟨(0, o ++ rowP l 6 0), hinv, ⟨by rfl, zHE, zHE⟩, (by first | omega | (dsimp only; omega))⟩
      · have hd3 : decide (((n + 1 + 1 : Nat) : Int) - 1 > 0) = true := decide_eq_true (by omega)
        have hinv : n + 1 ≤ 6 ∧ o ++ rowP l 6 (n + 1) ++ [47] ++ bodyP l 6 (n + 1) = [] ++ bodyP l 6 6 ∧ (o ++ rowP l 6 (n + 1) ++ [47]).length + 20 * (n + 1) ≤ 400 := by
          refine ⟨by omega, ?_, by simp only [List.length_append, List.length_cons, List.length_nil]; omega⟩
          rw [← h2]; simp [bodyP]
        (repeat (first | refine gq_FT ?_ | (refine ga0A ?_; intro _hq)))
        exact ⟨(n + 1, o ++ rowP l 6 (n + 1) ++ [47]), hinv, ⟨by rfl, zHE, zHE⟩, (by first | omega | (dsimp only; omega))⟩
set_option maxHeartbeats 4000000 in
theorem k_ftS8true (l : List Bool) (hl : l.length = 64) (hok : Fld.ok ⟨8, l, true⟩ = true) : Kon Tryd.prog 8 [fAx 8 l true] [] (vS ([33] ++ bodyP l 8 8)) [] [] := by
  have hV : Kon Tryd.prog 26 [fAx 8 l true] [] (vB true) [] [] := by
    have := Kon.of con_validS (cValid_at 8 l true)
    rw [hok] at this
    exact this
  (refine kM Tryd.func8 rfl ?_; intro hfit hfe)
  (repeat (first | refine gq_FT ?_ | (refine ga0A ?_; intro _hq)))
  (refine aw_rd [1] [16] (fun g : Nat × List UInt8 => [(3, vS g.2), (4, vI ((g.1 : Int) - 1))]) (fun g => []) (fun g => g.1 ≤ 8 ∧ g.2 ++ bodyP l 8 g.1 = [33] ++ bodyP l 8 8 ∧ g.2.length + 20 * g.1 ≤ 400) (fun g => g.1) (8, [33]) (by rfl) (by rfl) ?_ (by rfl) zHE zHE ?_)
  · exact ⟨Nat.le_refl _, rfl, by decide⟩
  rintro ⟨n, o⟩ ⟨h1, h2, h3⟩
  dsimp only at h1 h2 h3 ⊢
  rcases n with _ | n
  · have hd : decide (((0 : Nat) : Int) - 1 ≥ 0) = false := by decide
    rw [bodyP, List.append_nil] at h2
    rw [← h2]
    (repeat (first | refine gq_FT ?_ | (refine ga0A ?_; intro _hq)))
    (refine rtA ?_; try rfl)
  · have hd : decide (((n + 1 : Nat) : Int) - 1 ≥ 0) = true := decide_eq_true (by omega)
    have hr := rowP_len (l := l) (s := 8) (y := n)
    (repeat (first | refine gq_FT ?_ | (refine ga0A ?_; intro _hq)))
    (refine aw_rd [1, 4] [16] (fun g : Nat × List UInt8 => [(3, vS g.2), (5, vI g.1)]) (fun g => []) (fun g => g.1 ≤ 8 ∧ g.2 = o ++ (rowP l 8 n).take g.1) (fun g => 8 - g.1) (0, o) (by rfl) (by rfl) ?_ (by rfl) zHE zHE ?_)
    · exact ⟨Nat.zero_le _, by simp⟩
    rintro ⟨x, p⟩ ⟨i1, i2⟩
    dsimp only at i1 i2 ⊢
    subst i2
    rcases Nat.lt_or_ge x 8 with i3 | i3
    · have hd2 : decide ((x : Int) < 8) = true := decide_eq_true (by omega)
      have hsn := rowP_snoc (l := l) (s := 8) (y := n) i3 (by omega)
      have hix : (((((n + 1 : Nat) : Int) - 1) * 8 + (x : Int)).toNat) = n * 8 + x := by omega
      have hlx : ((rowP l 8 n).take x).length ≤ 8 := by rw [List.length_take]; omega
      cases hc : l.getD (n * 8 + x) false with
      | false =>
        rw [hc] at hsn
        have hb : l.getD (((((n + 1 : Nat) : Int) - 1) * 8 + (x : Int)).toNat) Cel.no = false := by rw [hix]; exact hc
        have hinv : x + 1 ≤ 8 ∧ o ++ (rowP l 8 n).take x ++ [46] = o ++ (rowP l 8 n).take (x + 1) := ⟨i3, by rw [hsn, List.append_assoc]; rfl⟩
        (repeat (first | refine gq_FT ?_ | (refine ga0A ?_; intro _hq)))
        exact ⟨(x + 1, o ++ (rowP l 8 n).take x ++ [46]), hinv, ⟨by rfl, zHE, zHE⟩, (by first | omega | (dsimp only; omega))⟩
      | true =>
        rw [hc] at hsn
        have hb : l.getD (((((n + 1 : Nat) : Int) - 1) * 8 + (x : Int)).toNat) Cel.no = true := by rw [hix]; exact hc
        have hinv : x + 1 ≤ 8 ∧ o ++ (rowP l 8 n).take x ++ [111] = o ++ (rowP l 8 n).take (x + 1) := ⟨i3, by rw [hsn, List.append_assoc]; rfl⟩
        (repeat (first | refine gq_FT ?_ | (refine ga0A ?_; intro _hq)))
        exact ⟨(x + 1, o ++ (rowP l 8 n).take x ++ [111]), hinv, ⟨by rfl, zHE, zHE⟩, (by first | omega | (dsimp only; omega))⟩
    · obtain rfl : x = 8 := by omega
      have hd2 : decide (((8 : Nat) : Int) < 8) = false := by decide
      rw [rowP_all]
      rcases n with _ | n
      · have hd3 : decide (((0 + 1 : Nat) : Int) - 1 > 0) = false := by decide
        have hinv : 0 ≤ 8 ∧ o ++ rowP l 8 0 ++ bodyP l 8 0 = [33] ++ bodyP l 8 8 ∧ (o ++ rowP l 8 0).length + 20 * 0 ≤ 400 := by
          refine ⟨by omega, ?_, by rw [List.length_append]; omega⟩
          rw [← h2]; simp [bodyP]
        (repeat (first | refine gq_FT ?_ | (refine ga0A ?_; intro _hq)))
        exact ⟨(0, o ++ rowP l 8 0), hinv, ⟨by rfl, zHE, zHE⟩, (by first | omega | (dsimp only; omega))⟩
      · have hd3 : decide (((n + 1 + 1 : Nat) : Int) - 1 > 0) = true := decide_eq_true (by omega)
        have hinv : n + 1 ≤ 8 ∧ o ++ rowP l 8 (n + 1) ++ [47] ++ bodyP l 8 (n + 1) = [33] ++ bodyP l 8 8 ∧ (o ++ rowP l 8 (n + 1) ++ [47]).length + 20 * (n + 1) ≤ 400 := by
          refine ⟨by omega, ?_, by simp only [List.length_append, List.length_cons, List.length_nil]; omega⟩
          rw [← h2]; simp [bodyP]
        (repeat (first | refine gq_FT ?_ | (refine ga0A ?_; intro _hq)))
        exact ⟨(n + 1, o ++ rowP l 8 (n + 1) ++ [47]), hinv, ⟨by rfl, zHE, zHE⟩, (by first | omega | (dsimp only; omega))⟩
set_option maxHeartbeats 4000000 in
theorem k_ftS8false (l : List Bool) (hl : l.length = 64) (hok : Fld.ok ⟨8, l, false⟩ = true) : Kon Tryd.prog 8 [fAx 8 l false] [] (vS ([] ++ bodyP l 8 8)) [] [] := by
  have hV : Kon Tryd.prog 26 [fAx 8 l false] [] (vB true) [] [] := by
    have := Kon.of con_validS (cValid_at 8 l false)
    rw [hok] at this
    exact this
  (refine kM Tryd.func8 rfl ?_; intro hfit hfe)
  (repeat (first | refine gq_FT ?_ | (refine ga0A ?_; intro _hq)))
  (refine aw_rd [1] [16] (fun g : Nat × List UInt8 => [(3, vS g.2), (4, vI ((g.1 : Int) - 1))]) (fun g => []) (fun g => g.1 ≤ 8 ∧ g.2 ++ bodyP l 8 g.1 = [] ++ bodyP l 8 8 ∧ g.2.length + 20 * g.1 ≤ 400) (fun g => g.1) (8, []) (by rfl) (by rfl) ?_ (by rfl) zHE zHE ?_)
  · exact ⟨Nat.le_refl _, rfl, by decide⟩
  rintro ⟨n, o⟩ ⟨h1, h2, h3⟩
  dsimp only at h1 h2 h3 ⊢
  rcases n with _ | n
  · have hd : decide (((0 : Nat) : Int) - 1 ≥ 0) = false := by decide
    rw [bodyP, List.append_nil] at h2
    rw [← h2]
    (repeat (first | refine gq_FT ?_ | (refine ga0A ?_; intro _hq)))
    (refine rtA ?_; try rfl)
  · have hd : decide (((n + 1 : Nat) : Int) - 1 ≥ 0) = true := decide_eq_true (by omega)
    have hr := rowP_len (l := l) (s := 8) (y := n)
    (repeat (first | refine gq_FT ?_ | (refine ga0A ?_; intro _hq)))
    (refine aw_rd [1, 4] [16] (fun g : Nat × List UInt8 => [(3, vS g.2), (5, vI g.1)]) (fun g => []) (fun g => g.1 ≤ 8 ∧ g.2 = o ++ (rowP l 8 n).take g.1) (fun g => 8 - g.1) (0, o) (by rfl) (by rfl) ?_ (by rfl) zHE zHE ?_)
    · exact ⟨Nat.zero_le _, by simp⟩
    rintro ⟨x, p⟩ ⟨i1, i2⟩
    dsimp only at i1 i2 ⊢
    subst i2
    rcases Nat.lt_or_ge x 8 with i3 | i3
    · have hd2 : decide ((x : Int) < 8) = true := decide_eq_true (by omega)
      have hsn := rowP_snoc (l := l) (s := 8) (y := n) i3 (by omega)
      have hix : (((((n + 1 : Nat) : Int) - 1) * 8 + (x : Int)).toNat) = n * 8 + x := by omega
      have hlx : ((rowP l 8 n).take x).length ≤ 8 := by rw [List.length_take]; omega
      cases hc : l.getD (n * 8 + x) false with
      | false =>
        rw [hc] at hsn
        have hb : l.getD (((((n + 1 : Nat) : Int) - 1) * 8 + (x : Int)).toNat) Cel.no = false := by rw [hix]; exact hc
        have hinv : x + 1 ≤ 8 ∧ o ++ (rowP l 8 n).take x ++ [46] = o ++ (rowP l 8 n).take (x + 1) := ⟨i3, by rw [hsn, List.append_assoc]; rfl⟩
        (repeat (first | refine gq_FT ?_ | (refine ga0A ?_; intro _hq)))
        exact ⟨(x + 1, o ++ (rowP l 8 n).take x ++ [46]), hinv, ⟨by rfl, zHE, zHE⟩, (by first | omega | (dsimp only; omega))⟩
      | true =>
        rw [hc] at hsn
        have hb : l.getD (((((n + 1 : Nat) : Int) - 1) * 8 + (x : Int)).toNat) Cel.no = true := by rw [hix]; exact hc
        have hinv : x + 1 ≤ 8 ∧ o ++ (rowP l 8 n).take x ++ [111] = o ++ (rowP l 8 n).take (x + 1) := ⟨i3, by rw [hsn, List.append_assoc]; rfl⟩
        (repeat (first | refine gq_FT ?_ | (refine ga0A ?_; intro _hq)))
        exact ⟨(x + 1, o ++ (rowP l 8 n).take x ++ [111]), hinv, ⟨by rfl, zHE, zHE⟩, (by first | omega | (dsimp only; omega))⟩
    · obtain rfl : x = 8 := by omega
      have hd2 : decide (((8 : Nat) : Int) < 8) = false := by decide
      rw [rowP_all]
      rcases n with _ | n
      · have hd3 : decide (((0 + 1 : Nat) : Int) - 1 > 0) = false := by decide
        have hinv : 0 ≤ 8 ∧ o ++ rowP l 8 0 ++ bodyP l 8 0 = [] ++ bodyP l 8 8 ∧ (o ++ rowP l 8 0).length + 20 * 0 ≤ 400 := by
          refine ⟨by omega, ?_, by rw [List.length_append]; omega⟩
          rw [← h2]; simp [bodyP]
        (repeat (first | refine gq_FT ?_ | (refine ga0A ?_; intro _hq)))
        exact ⟨(0, o ++ rowP l 8 0), hinv, ⟨by rfl, zHE, zHE⟩, (by first | omega | (dsimp only; omega))⟩
      · have hd3 : decide (((n + 1 + 1 : Nat) : Int) - 1 > 0) = true := decide_eq_true (by omega)
        have hinv : n + 1 ≤ 8 ∧ o ++ rowP l 8 (n + 1) ++ [47] ++ bodyP l 8 (n + 1) = [] ++ bodyP l 8 8 ∧ (o ++ rowP l 8 (n + 1) ++ [47]).length + 20 * (n + 1) ≤ 400 := by
          refine ⟨by omega, ?_, by simp only [List.length_append, List.length_cons, List.length_nil]; omega⟩
          rw [← h2]; simp [bodyP]
        (repeat (first | refine gq_FT ?_ | (refine ga0A ?_; intro _hq)))
        exact ⟨(n + 1, o ++ rowP l 8 (n + 1) ++ [47]), hinv, ⟨by rfl, zHE, zHE⟩, (by first | omega | (dsimp only; omega))⟩
theorem k_ftS (s : Int) (l : List Bool) (b : Bool) : Kon Tryd.prog 8 [fAx s l b] [] (vS (ftx ⟨s, l, b⟩)) [] [] := by
  unfold ftx
  cases hok : Fld.ok ⟨s, l, b⟩ with
  | false =>
    have hV : Kon Tryd.prog 26 [fAx s l b] [] (vB false) [] [] := by
      have := Kon.of con_validS (cValid_at s l b)
      rw [hok] at this
      exact this
    rw [if_neg (by decide)]
    (refine kM Tryd.func8 rfl ?_; intro hfit hfe)
    (repeat (first | refine gq_FT ?_ | (refine ga0A ?_; intro _hq)))
    (refine rtA ?_; try rfl)
  | true =>
    rw [if_pos rfl]
    obtain ⟨h1, h2, h3, _⟩ := Fld.ok_facts hok
    have h4 : s = 2 ∨ s = 4 ∨ s = 6 ∨ s = 8 := by omega
    cases b <;> rcases h4 with rfl | rfl | rfl | rfl
    · exact k_ftS2false l (by omega) hok
    · exact k_ftS4false l (by omega) hok
    · exact k_ftS6false l (by omega) hok
    · exact k_ftS8false l (by omega) hok
    · exact k_ftS2true l (by omega) hok
    · exact k_ftS4true l (by omega) hok
    · exact k_ftS6true l (by omega) hok
    · exact k_ftS8true l (by omega) hok
end Go.Proofs.YtfoobfelgbcknaaDoor
namespace Go.Proofs.YtfoobfelgbcknaaDoor
set_option linter.unusedVariables false
set_option linter.unusedSimpArgs false
def fdH (s : List UInt8) : Bool := s.head? == some 33
def fdB (s : List UInt8) : List UInt8 := if fdH s = true then s.drop 1 else s
def fdR (s : List UInt8) : List (List UInt8) := (cutA 47 [] (fdB s)).reverse
def fdL (s : List UInt8) : List Bool := (fdR s).flatten.map (· == 111)
def fdF (s : List UInt8) : Fld := ⟨((fdR s).length : Int), fdL s, fdH s⟩
def fdK (s : List UInt8) : Bool := (fdF s).ok && (ftx (fdF s) == s)
theorem cb_ne (b : Bool) : cb b ≠ 47 ∧ cb b ≠ 33 ∧ (cb b == 111) = b := by cases b <;> decide
theorem rowP_mem {l : List Bool} {s y : Nat} {x : UInt8} (h : x ∈ rowP l s y) : x ≠ 47 ∧ x ≠ 33 := by
  unfold rowP at h
  obtain ⟨b, _, rfl⟩ := List.mem_map.1 h
  exact ⟨(cb_ne b).1, (cb_ne b).2.1⟩
theorem rowP_no {l : List Bool} {s y : Nat} : (rowP l s y).contains 47 = false := by
  rw [List.contains_eq_mem, decide_eq_false_iff_not]
  exact fun h => (rowP_mem h).1 rfl
theorem bodyP_mem {l : List Bool} {s : Nat} : ∀ {n : Nat} {x : UInt8}, x ∈ bodyP l s n → x ≠ 33
  | 0, x, h => by cases h
  | n + 1, x, h => by
    rw [bodyP, List.mem_append] at h
    rcases h with h | h
    · exact (rowP_mem h).2
    · split at h
      · rcases List.mem_cons.1 h with rfl | h
        · decide
        · exact bodyP_mem h
      · cases h
def rws (l : List Bool) (s : Nat) : Nat → List (List UInt8)
  | 0 => []
  | n + 1 => rowP l s n :: rws l s n
theorem rws_len (l : List Bool) (s : Nat) : ∀ n, (rws l s n).length = n
  | 0 => rfl
  | n + 1 => by rw [rws, List.length_cons, rws_len l s n]
theorem body_cut (l : List Bool) (s : Nat) : ∀ n, 0 < n → cutA 47 [] (bodyP l s n) = rws l s n
  | 0, h => absurd h (Nat.lt_irrefl _)
  | n + 1, _ => by
    rw [bodyP]
    rcases Nat.eq_zero_or_pos n with rfl | h
    · rw [if_neg (by omega), List.append_nil, cutA_end rowP_no]; rfl
    · rw [if_pos h, cutA_app rowP_no, body_cut l s n h]; rfl
theorem body_len (l : List Bool) (s : Nat) : ∀ n, (bodyP l s n).length ≤ n * (s + 1)
  | 0 => Nat.zero_le _
  | n + 1 => by
    have ih := body_len l s n
    have hr := rowP_len (l := l) (s := s) (y := n)
    rw [bodyP, List.length_append, Nat.add_mul, Nat.one_mul]
    split
    · rw [List.length_cons]; omega
    · rw [List.length_nil]; omega
theorem rws_eq (l : List Bool) (s : Nat) : ∀ n, ((List.range n).map (rowP l s)).reverse = rws l s n
  | 0 => rfl
  | n + 1 => by rw [List.range_succ, List.map_append, List.reverse_append, rws_eq l s n]; rfl
theorem rws_join (l : List Bool) (s : Nat) : ∀ n, 0 < n → Go.Lib.join (rws l s n) [47] = bodyP l s n
  | 0, h => absurd h (Nat.lt_irrefl _)
  | 1, _ => by
    rw [rws, rws, Go.Lib.join_one, bodyP, if_neg (by omega), List.append_nil]
  | n + 2, _ => by
    have ih := rws_join l s (n + 1) (by omega)
    rw [bodyP, if_pos (by omega), ← ih]
    simp [Go.Lib.join, rws, List.intercalate]
theorem rws_flat (l : List Bool) (s : Nat) : ∀ n, ((rws l s n).reverse.flatten).map (· == 111) = l.take (n * s)
  | 0 => by simp [rws]
  | n + 1 => by
    rw [rws, List.reverse_cons, List.flatten_append, List.map_append, rws_flat l s n, Nat.add_mul, Nat.one_mul, List.take_add]
    congr 1
    rw [List.flatten_singleton, rowP, List.map_map]
    conv => rhs; rw [← List.map_id ((l.drop (n * s)).take s)]
    exact List.map_congr_left fun b _ => (cb_ne b).2.2
theorem fd_self {f : Fld} (h : f.ok = true) : fdF (ftx f) = f ∧ ftx f ≠ [] := by
  obtain ⟨s, l, b⟩ := f
  obtain ⟨h1, h2, h3, _⟩ := Fld.ok_facts h
  obtain ⟨n, rfl⟩ : ∃ n : Nat, s = (n : Int) := ⟨s.toNat, by omega⟩
  have hn : 0 < n := by omega
  have hl : l.length = n * n := by
    have h4 : n = 2 ∨ n = 4 ∨ n = 6 ∨ n = 8 := by omega
    rcases h4 with rfl | rfl | rfl | rfl <;> omega
  have hne : bodyP l n n ≠ [] := by
    obtain ⟨m, rfl⟩ : ∃ m, n = m + 1 := ⟨n - 1, by omega⟩
    rw [bodyP]
    intro e
    have e2 := (List.append_eq_nil_iff.1 e).1
    unfold rowP at e2
    have e3 := congrArg List.length e2
    rw [List.length_map, List.length_take, List.length_drop, hl, List.length_nil, Nat.add_mul, Nat.mul_add] at e3
    omega
  have hft : ftx ⟨(n : Int), l, b⟩ = (if b = true then [33] else []) ++ bodyP l n n := by
    unfold ftx; rw [if_pos h, Int.toNat_natCast]
  have hB : fdH (ftx ⟨(n : Int), l, b⟩) = b ∧ fdB (ftx ⟨(n : Int), l, b⟩) = bodyP l n n := by
    rw [hft]
    cases b with
    | true => exact ⟨rfl, rfl⟩
    | false =>
      rw [if_neg (by decide), List.nil_append]
      have e : fdH (bodyP l n n) = false := by
        unfold fdH
        rcases hx : bodyP l n n with _ | ⟨x, r⟩
        · exact absurd hx hne
        · have := bodyP_mem (l := l) (s := n) (n := n) (x := x) (by rw [hx]; exact List.mem_cons_self)
          rw [List.head?_cons, beq_eq_false_iff_ne]
          intro e; cases e; exact this rfl
      exact ⟨e, by unfold fdB; rw [e]; rfl⟩
  refine ⟨?_, ?_⟩
  · unfold fdF fdL fdR
    rw [hB.1, hB.2, body_cut l n n hn, rws_flat, List.length_reverse, rws_len, ← hl, List.take_length]
  · rw [hft]
    intro e
    exact hne (List.append_eq_nil_iff.1 e).2
theorem fdK_t {s : List UInt8} (h : fdK s = true) : (fdF s).ok = true ∧ ftx (fdF s) = s := by
  unfold fdK at h
  rw [Bool.and_eq_true, beq_iff_eq] at h
  exact h
theorem fdK_self {f : Fld} (h : f.ok = true) : fdK (ftx f) = true := by
  unfold fdK; rw [(fd_self h).1, h, beq_self_eq_true]; rfl
theorem fdK_slash {s : List UInt8} (h : fdK s = true) : fdK (s ++ [47]) = false := by
  obtain ⟨h1, h2⟩ := fdK_t h
  obtain ⟨h3, h4, _⟩ := Fld.ok_facts h1
  have hne : s ≠ [] := h2 ▸ (fd_self h1).2
  have hH : fdH (s ++ [47]) = fdH s := by
    unfold fdH
    rcases s with _ | ⟨x, r⟩
    · exact absurd rfl hne
    · rfl
  have hB : fdB (s ++ [47]) = fdB s ++ [47] := by
    unfold fdB; rw [hH]
    rcases s with _ | ⟨x, r⟩
    · exact absurd rfl hne
    · split <;> rfl
  have hR : (fdR (s ++ [47])).length = (fdR s).length + 1 := by
    unfold fdR; rw [hB, cutA_snoc, List.length_reverse, List.length_reverse, List.length_append]; rfl
  cases hk : fdK (s ++ [47]) with
  | false => rfl
  | true =>
    obtain ⟨h5, _⟩ := fdK_t hk
    obtain ⟨h6, h7, _⟩ := Fld.ok_facts h5
    rw [hR] at h6 h7
    omega
theorem cut_flat (c : UInt8) : ∀ (l acc : List UInt8), (cutA c acc l).flatten.length ≤ acc.length + l.length
  | [], acc => by simp [cutA]
  | b :: l, acc => by
    rw [cutA]
    split
    · have := cut_flat c l []
      simp only [List.flatten_cons, List.length_append, List.length_nil, List.length_cons] at this ⊢
      omega
    · have := cut_flat c l (acc ++ [b])
      simp only [List.length_append, List.length_cons, List.length_nil] at this ⊢
      omega
theorem flat_rev : ∀ (L : List (List UInt8)), L.reverse.flatten.length = L.flatten.length
  | [] => rfl
  | a :: L => by
    rw [List.reverse_cons, List.flatten_append, List.length_append, flat_rev L]
    simp; omega
theorem fdR_flat (s : List UInt8) : (fdR s).flatten.length ≤ s.length := by
  have h1 := cut_flat 47 (fdB s) []
  have h2 : (fdB s).length ≤ s.length := by unfold fdB; split <;> simp
  unfold fdR
  rw [flat_rev]
  simp only [List.length_nil] at h1
  omega
abbrev eo (b : UInt8) : Bool := ((b.toNat : Int) == 111)
theorem eo_eq (b : UInt8) : eo b = (b == 111) := by
  rw [Bool.eq_iff_iff, beq_iff_eq, beq_iff_eq]
  constructor
  · intro h; exact UInt8.toNat_inj.1 (by have : (111 : UInt8).toNat = 111 := rfl; omega)
  · rintro rfl; rfl
def flB (R : List (List UInt8)) (i : Nat) : List Bool := (R.take i).flatten.map eo
theorem flB_all (s : List UInt8) : flB (fdR s) (fdR s).length = fdL s := by
  unfold flB fdL
  rw [List.take_length]
  exact List.map_congr_left fun b _ => eo_eq b
theorem flB_next {R : List (List UInt8)} {i : Nat} (h : i < R.length) : flB R (i + 1) = flB R i ++ (R.getD i []).map eo := by
  unfold flB
  rw [List.take_succ_eq_append_getElem h, List.flatten_append, List.map_append]
  simp [List.getD_eq_getElem?_getD, h]
theorem flB_len (R : List (List UInt8)) (i : Nat) : (flB R i).length ≤ R.flatten.length := by
  unfold flB
  rw [List.length_map]
  conv => rhs; rw [← List.take_append_drop i R, List.flatten_append, List.length_append]
  omega
theorem mapT_snoc {x : List UInt8} {j : Nat} (h : j < x.length) : (x.take (j + 1)).map eo = (x.take j).map eo ++ [eo (x.getD j 0)] := by
  rw [List.take_succ_eq_append_getElem h, List.map_append]
  simp [List.getD_eq_getElem?_getD, h]
end Go.Proofs.YtfoobfelgbcknaaDoor
namespace Go.Proofs.YtfoobfelgbcknaaDoor
set_option linter.unusedVariables false
set_option linter.unusedSimpArgs false
open Go.RowKit
abbrev tB : TypeId := 46
abbrev tu8 : TypeId := 5
theorem bk_info : (Tryd.prog.info? 46).map (·.size) = some 2 := by kernel_rfl
theorem bk_lies : liesAt Tryd.prog Tryd.prog.depth 46 (2 / Tryd.prog.cellsOf 46) 0 46 1 = true := by kernel_rfl
theorem bk_byte : (Tryd.prog.info? 5).map (fun i => (i.zero, i.size, i.bytes)) = some (some (.int .u8 0), 1, 1) := by kernel_rfl
theorem bk_ub : Tryd.prog.underlying 44 = some (.pointer 46) := by kernel_rfl
theorem bk_uu : Tryd.prog.underlying 77 = some .unsafePointer := by kernel_rfl
theorem bk_us : Tryd.prog.underlying 22 = some (.slice 5) := by kernel_rfl
theorem bk_ent : ∀ args w, (callFunc 42 args).run Tryd.prog w = .ok (.enter 42 args) w := Go.Proofs.enters_of Tryd.func42 (by kernel_rfl) rfl
set_option maxHeartbeats 1000000 in
set_option maxRecDepth 100000 in
theorem bk_used (b : Nat) (w : World) (h0 : w.cell? ⟨b, 0, none⟩ = some (.pointer (some ⟨b, 0, none⟩))) :
    Calls Tryd.prog 42 #[.pointer (some ⟨b, 0, none⟩)] w fun e w' => e = .returned (.tuple #[]) ∧ w' = w := by
  obtain ⟨j, hj, _⟩ := Option.map_eq_some_iff.1 bk_info
  go_enter Tryd.func42, Tryd.ntmps42
  go_wp2
  rw [Lib.run_neq_ptr_same w _ bk_ub hj]
  go_wp2
  go_end0
  exact ⟨rfl, rfl⟩
set_option maxHeartbeats 1000000 in
set_option maxRecDepth 100000 in
theorem bk_fresh (b : Nat) (w : World) (h0 : w.cell? ⟨b, 0, none⟩ = some (.pointer none)) (hsh : w.shape? b = some (46, 2)) (hfz : w.frozen? ⟨b, 0, none⟩ = false) :
    Calls Tryd.prog 42 #[.pointer (some ⟨b, 0, none⟩)] w fun e w' => e = .returned (.tuple #[]) ∧ w' = w.setCell ⟨b, 0, none⟩ (.pointer (some ⟨b, 0, none⟩)) := by
  obtain ⟨j, hj, hjs⟩ := Option.map_eq_some_iff.1 bk_info
  go_enter Tryd.func42, Tryd.ntmps42
  go_wp2
  rw [Lib.run_to_unsafe w ⟨b, 0, none⟩ bk_ub bk_uu hj (by rw [hjs]; decide) hsh (Nat.zero_lt_succ 1)]
  simp only [Result.andThen]
  rw [Oper.upon_value]
  go_wp2
  rw [run_callFunc_extern Tryd.func53 (by kernel_rfl) (by kernel_rfl) (by kernel_rfl) (e := Extern.AbiNoEscape.same) (by kernel_rfl)]
  rw [Lib.run_noEscape]
  simp only [Result.andThen]
  rw [Oper.upon_value]
  go_wp2
  rw [Lib.run_from_unsafe w ⟨b, 0, none⟩ bk_uu bk_ub hj hsh bk_lies]
  simp only [Result.andThen]
  rw [Oper.upon_value]
  go_wp2
  go_end0
  exact ⟨rfl, rfl⟩
theorem bk_copy (B b : Nat) (bs : List Value) (w : World) (h : Lib.IsBuilderF tB tu8 B b bs w) :
    Calls Tryd.prog 42 #[.pointer (some ⟨b, 0, none⟩)] w fun e w' => e = .returned (.tuple #[]) ∧ (Lib.BuilderAtF tB tu8 B b (.pointer (some ⟨b, 0, none⟩)) bs w' ∧ Below B w w' ∧ Lib.OthersKept tu8 (some b) w w') := by
  rcases h with h | h
  · refine (bk_fresh b w h.cell0 h.shape h.frozen0).mono ?_
    rintro e w' ⟨rfl, rfl⟩
    exact ⟨rfl, h.used _, (Below.refl B w).setCell (p := ⟨b, 0, none⟩) h.1 _, (Lib.OthersKept.refl _ _ w).setCell ⟨b, 0, none⟩ rfl _⟩
  · refine (bk_used b w h.cell0).mono ?_
    rintro e w' ⟨rfl, rfl⟩
    exact ⟨rfl, h, Below.refl B _, Lib.OthersKept.refl _ _ _⟩
set_option maxHeartbeats 2000000 in
set_option maxRecDepth 100000 in
theorem bk_byteW (B b : Nat) (bs : List Value) (c : Int) (w : World) (h : Lib.IsBuilderF tB tu8 B b bs w) (hlen : bs.length + 1 ≤ 140737488355328) (hBw : B ≤ w.heap.size) :
    Calls Tryd.prog 22 #[.pointer (some ⟨b, 0, none⟩), .int .u8 c] w fun e w' => e = .returned .nilIface ∧ (Lib.BuilderAtF tB tu8 B b (.pointer (some ⟨b, 0, none⟩)) (bs ++ [.int .u8 c]) w' ∧ Below B w w' ∧ Lib.OthersKept tu8 (some b) w w') := by
  obtain ⟨i0, hi, hz0, hz1, hz2⟩ := info_parts bk_byte
  have e240 := bk_ent
  go_enter Tryd.func22, Tryd.ntmps22
  go_wp2_with (go_at_fn 42; refine (bk_copy B b bs _ h).mono ?_)
  rintro e w1 ⟨rfl, h1, hb1, hk1⟩
  obtain ⟨hB, v, hbk, hown, hne⟩ := h1
  have c0 : w1.cell? ⟨b, 0, none⟩ = some (.pointer (some ⟨b, 0, none⟩)) := by rw [Lib.cell_of_heap hbk]; rfl
  have c1 : w1.cell? ⟨b, 1, none⟩ = some v := by rw [Lib.cell_of_heap hbk]; rfl
  go_wp2_with (at_builtin; refine wpList_append_ownF _ rfl _ _ 22 rfl B 5 i0 (.int .u8 0) 1 1 bk_us hi hz0 hz1 hz2 rfl (by decide) _ _ _ rfl (hown.alloc _) ⟨w1.heap.size, 0, none⟩ 1 1 [.int .u8 c] rfl rfl ?c1 ?c2 ?c3 ?c4 ?c5 ?_)
  case c1 =>
    intro j u hj
    match j, hj with
    | 0, hj => simp at hj; subst hj; simp [Addr.add]
  case c2 => intro u hu; simp at hu; subst hu; rfl
  case c3 => unfold maxLen; omega
  case c4 => omega
  case c5 => have := hb1.size; simp; omega
  intro v' w2 hown' hgrow _
  have hlt : b < w1.heap.size := by
    rcases Nat.lt_or_ge b w1.heap.size with h' | h'
    · exact h'
    · simp [Array.getElem?_eq_none h'] at hbk
  have hb2 : w2.heap[b]? = some (.cells #[.pointer (some ⟨b, 0, none⟩), v] 46 (0, 0)) := by
    rw [hgrow.block b (by simp; omega) (fun e => hne e.symm), Lib.alloc_old w1 _ b hlt]
    exact hbk
  have d0 : w2.cell? ⟨b, 0, none⟩ = some (.pointer (some ⟨b, 0, none⟩)) := by rw [Lib.cell_of_heap hb2]; rfl
  have d1 : w2.cell? ⟨b, 1, none⟩ = some v := by rw [Lib.cell_of_heap hb2]; rfl
  have f1 : w2.frozen? ⟨b, 1, none⟩ = false := Lib.frozen_of_heap hb2 1
  obtain ⟨g, cap, rfl⟩ : ∃ g cap, v' = .slice (some ⟨g, 0, none⟩) (bs.length + 1) cap := by
    rcases hown'.2 with ⟨_, h0⟩ | ⟨g, cap, cur, fz, hv, _⟩
    · omega
    · exact ⟨g, cap, hv⟩
  go_wp2
  go_ret
  refine ⟨rfl, ?_, ?_, ((hk1.alloc _).grown hgrow (Lib.ownsRowF_kind (hown.alloc _))).setCell ⟨b, 1, none⟩ rfl _⟩
  · exact Lib.BuilderAtF.put (T := tB) (e := tu8) hB hb2 (bs' := bs ++ [.int .u8 c]) (by simpa using hown') (by decide)
  · exact ((hb1.alloc (by have := hb1.size; omega) _).grown hgrow (by have := hb1.size; simp; omega) (fun k hk => (hown.lt k hk).1)).setCell (p := ⟨b, 1, none⟩) hB _
end Go.Proofs.YtfoobfelgbcknaaDoor
