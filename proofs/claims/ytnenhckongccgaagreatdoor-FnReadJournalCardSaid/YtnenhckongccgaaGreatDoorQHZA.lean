/- KMN: laid into one text. -/
import Derived.Test.YtnenhckongccgaaGreatDoorQHZ

namespace Go.Proofs.YtnenhckongccgaaGreatDoor
set_option linter.unusedVariables false
set_option linter.unusedSimpArgs false
set_option maxRecDepth 20000
open Go.RowKit
attribute [local irreducible] runA runX AW
theorem endB_bd (l : List UInt8) (q : Int) (x : BS × Int) (L f : Int) (h : bok L x.1.1 f x.1.2.1 x.1.2.2 = true) : x.2 ≤ (endB l q x).2 ∧ (endB l q x).2 ≤ x.2 + 2 ∧ (∀ b, (endB l q x).1 = some b → b.1.length ≤ 25 ∧ (0 ≤ b.2.1 ∧ b.2.1 ≤ 257) ∧ b.2.2 ≤ 25 ∧ (q ≤ 0 → bok L b.1 f b.2.1 b.2.2 = true)) ∧ (q ≤ 0 → (endB l q x).1 ≠ none) := by
  obtain ⟨⟨gs, w, A⟩, c⟩ := x
  dsimp only at h ⊢
  obtain ⟨q1, q2, q3, q4⟩ := bok_t h
  have hfv := wvB_t q2
  have hw := cr_lt (all_take (cokB_t q1).2.2 ((A : Int).toNat)) ⟨hfv.2.1, hfv.2.2.1⟩
  rw [← q4] at hw
  have h8 := (pow_8 (cokB_t q1).1).2
  have hl := (cokB_t q1).2.1
  unfold endB
  dsimp only
  cases hq : decide (q > 0) with
  | false =>
    have hq2 := of_decide_eq_false hq
    exact ⟨Int.le_refl _, by dsimp only [cond_false]; omega, fun b hb => by cases hb; exact ⟨by dsimp only; omega, by dsimp only; omega, by dsimp only; omega, fun _ => h⟩, fun _ hn => by cases hn⟩
  | true =>
    have hq2 := of_decide_eq_true hq
    dsimp only [cond_true]
    cases (pickI l c q == q - 1) with
    | false => exact ⟨by dsimp only [cond_false]; omega, by dsimp only [cond_false]; omega, fun b hb => by cases hb; exact ⟨by dsimp only; omega, by dsimp only; omega, by dsimp only; omega, fun _ => h⟩, fun hq3 => by omega⟩
    | true =>
      dsimp only [cond_true]
      cases (pickI l (c + 1) 4 == 0) with
      | true => exact ⟨by dsimp only [cond_true]; omega, by dsimp only [cond_true]; omega, fun b hb => by cases hb; exact ⟨by dsimp only; omega, by dsimp only; omega, by dsimp only; omega, fun hq3 => by omega⟩, fun hq3 => by omega⟩
      | false =>
        dsimp only [cond_false]
        cases (pickI l (c + 1) 4 == 1) with
        | true => exact ⟨by dsimp only [cond_true]; omega, by dsimp only [cond_true]; omega, fun b hb => by cases hb; exact ⟨by dsimp only; omega, by dsimp only; omega, by dsimp only; omega, fun hq3 => by omega⟩, fun hq3 => by omega⟩
        | false =>
          dsimp only [cond_false]
          cases (pickI l (c + 1) 4 == 2) with
          | true => exact ⟨by dsimp only [cond_true]; omega, by dsimp only [cond_true]; omega, fun b hb => by cases hb; exact ⟨by simp; omega, by dsimp only; omega, by dsimp only; omega, fun hq3 => by omega⟩, fun hq3 => by omega⟩
          | false => exact ⟨by dsimp only [cond_false]; omega, by dsimp only [cond_false]; omega, fun b hb => (by cases hb), fun hq3 => by omega⟩
theorem ex_bench (l : List UInt8) (c q : Int) (h : 0 ≤ c ∧ c ≤ 80000 ∧ l.length ≤ 2000) (hq : q ≤ 1000) : ∃ (L f : Int) (x : Option BS) (c' : Int), (1 ≤ L ∧ L ≤ 5) ∧ (0 ≤ f ∧ f ≤ 256) ∧ (c ≤ c' ∧ c' ≤ c + 600) ∧ (∀ b, x = some b → b.1.length ≤ 25 ∧ (0 ≤ b.2.1 ∧ b.2.1 ≤ 257) ∧ b.2.2 ≤ 25 ∧ (q ≤ 0 → bok L b.1 f b.2.1 b.2.2 = true)) ∧ (q ≤ 0 → x ≠ none) ∧
    Kon Tryz.prog 39 [p0, vI q] [rdE l c] (oB L f x) (nB x) [rdE l c'] := by
  have hL := tK6_bd l c
  have h2L := pow_8 (n := tK6 l c) (by omega)
  have hpw := pickI_lt (l := l) (c := c + 1) (n := 1 * 2 ^ (tK6 l c).toNat) (by omega)
  have hwv : wvB (tK6 l c) (bwd l (c + 1) (tK6 l c)) = true := by
    unfold wvB btw bwd
    rw [decide_eq_true (by omega), decide_eq_true (by omega), decide_eq_true (by omega), decide_eq_true (by omega)]; rfl
  have hp20 := pickI_lt (l := l) (c := c + 1 + 1) (n := 20) (by omega)
  have hb0 : bok (tK6 l c) (bx0 l c).1.1 (bwd l (c + 1) (tK6 l c)) (bx0 l c).1.2.1 ((bx0 l c).1.2.2 : Nat) = true := bok_mk (by omega) (by simp [bx0]) rfl hwv (Nat.le_refl _) rfl
  have hN := bnN_ok l (tK6 l c) _ (bx0 l c) hb0 (pickI l (c + 1 + 1) 20).toNat
  have hE := endB_bd l q _ (tK6 l c) _ hN.1
  have hc0 : (bx0 l c).2 = c + 1 + 1 + 1 := rfl
  have hfb : 0 ≤ bwd l (c + 1) (tK6 l c) ∧ bwd l (c + 1) (tK6 l c) ≤ 256 := by unfold bwd; omega
  exact ⟨_, _, _, _, by omega, hfb, by omega, hE.2.2.1, hE.2.2.2, k_bench l c q h hq⟩
end Go.Proofs.YtnenhckongccgaaGreatDoor
