/- TRS, TRQ, TRT: laid into one text. -/
import Derived.Test.YtgjnnlgeggamjaaQXDG
import Derived.Test.YtgjnnlgeggamjaaQXDM
import Derived.RangeFuncNested
import Derived.RangeFuncBox
import Derived.RangeFuncLeaves
import Derived.Shelf.Abstract
import Derived.WalkKit
import Derived.OwnWalkIn
import Derived.TacticsInMore
import Derived.LoopNIn
import Derived.LoopIn

namespace Go.Proofs.Ytgjnnlgeggamjaa
set_option linter.unusedVariables false
set_option linter.unusedSimpArgs false
open Go.RowKit
def elt : PS → Nat → PS
  | .nil, _ => .nil
  | .one l t, 0 => .one l .nil
  | .one l t, i + 1 => elt t i
  | .rep l e p t, 0 => .rep l e p .nil
  | .rep l e p t, i + 1 => elt t i
  | .iff l m e p q t, 0 => .iff l m e p q .nil
  | .iff l m e p q t, i + 1 => elt t i
def sfx : PS → Nat → PS
  | t, 0 => t
  | .nil, _ + 1 => .nil
  | .one l t, i + 1 => sfx t i
  | .rep l e p t, i + 1 => sfx t i
  | .iff l m e p q t, i + 1 => sfx t i
theorem sfx_zero (t : PS) : sfx t 0 = t := by cases t <;> rfl
theorem sfx_all : ∀ (t : PS), sfx t (pl t) = .nil
  | .nil => rfl
  | .one l t => sfx_all t
  | .rep l e p t => sfx_all t
  | .iff l m e p q t => sfx_all t
theorem sfx_elt : ∀ (t : PS) (i : Nat), i < pl t → sfx t i = app (elt t i) (sfx t (i + 1))
  | .nil, i, h => by cases h
  | .one l t, 0, h => by show PS.one l t = .one l (app .nil (sfx t 0)); rw [sfx_zero]; rfl
  | .one l t, i + 1, h => sfx_elt t i (by rw [pl] at h; omega)
  | .rep l e p t, 0, h => by show PS.rep l e p t = .rep l e p (app .nil (sfx t 0)); rw [sfx_zero]; rfl
  | .rep l e p t, i + 1, h => sfx_elt t i (by rw [pl] at h; omega)
  | .iff l m e p q t, 0, h => by show PS.iff l m e p q t = .iff l m e p q (app .nil (sfx t 0)); rw [sfx_zero]; rfl
  | .iff l m e p q t, i + 1, h => sfx_elt t i (by rw [pl] at h; omega)
theorem elt_wf : ∀ (t : PS) (i : Nat), wf t → wf (elt t i)
  | .nil, i, h => trivial
  | .one l t, 0, h => ⟨h.1, trivial⟩
  | .one l t, i + 1, h => elt_wf t i h.2
  | .rep l e p t, 0, h => ⟨h.1, h.2.1, trivial⟩
  | .rep l e p t, i + 1, h => elt_wf t i h.2.2
  | .iff l m e p q t, 0, h => ⟨h.1, h.2.1, h.2.2.1, trivial⟩
  | .iff l m e p q t, i + 1, h => elt_wf t i h.2.2.2
theorem elt_sub : ∀ (t : PS) (i : Nat), ∃ a b, fl t = a ++ (fl (elt t i) ++ b)
  | .nil, i => ⟨[], [], rfl⟩
  | .one l t, 0 => ⟨[], fl t, rfl⟩
  | .one l t, i + 1 => by obtain ⟨a, b, h⟩ := elt_sub t i; exact ⟨l :: a, b, by show l :: fl t = _; rw [h]; rfl⟩
  | .rep l e p t, 0 => ⟨[], fl t, by simp [fl, elt]⟩
  | .rep l e p t, i + 1 => by obtain ⟨a, b, h⟩ := elt_sub t i; exact ⟨l :: (fl p ++ e :: a), b, by show l :: (fl p ++ e :: fl t) = _; rw [h]; simp [elt]⟩
  | .iff l m e p q t, 0 => ⟨[], fl t, by simp [fl, elt]⟩
  | .iff l m e p q t, i + 1 => by obtain ⟨a, b, h⟩ := elt_sub t i; exact ⟨l :: (fl p ++ m :: (fl q ++ e :: a)), b, by show l :: (fl p ++ m :: (fl q ++ e :: fl t)) = _; rw [h]; simp [elt]⟩
theorem elt_len (t : PS) (i : Nat) : (fl (elt t i)).length ≤ (fl t).length := by
  obtain ⟨a, b, h⟩ := elt_sub t i
  rw [h]; simp; omega
theorem elt_lk {t : PS} (i : Nat) (h : lkA t) : lkA (elt t i) := by
  obtain ⟨a, b, he⟩ := elt_sub t i
  unfold lkA at *
  rw [he, List.all_append, List.all_append, Bool.and_eq_true, Bool.and_eq_true] at h
  exact h.2.1
theorem elt_rc {w : World} {D : Nat → Prop} : ∀ {t : PS} {cs : List Value} (i : Nat), RC w D t cs → i < pl t → RC w D (elt t i) ((cs.drop (i * 10)).take 10)
  | .nil, cs, i, _, h => by cases h
  | .one l t, cs, 0, ⟨cs', e, hr⟩, h => ⟨[], by rw [e]; simp, rfl⟩
  | .one l t, cs, i + 1, ⟨cs', e, hr⟩, h => by
    have h2 := elt_rc i hr (by rw [pl] at h; omega)
    rw [e, show (i + 1) * 10 = 10 + i * 10 by omega, ← List.drop_drop]
    exact h2
  | .rep l e p t, cs, 0, ⟨A, c, ps, cs', q, h1, h2, h3⟩, h => ⟨A, c, ps, [], by rw [q]; simp, h1, h2, rfl⟩
  | .rep l e p t, cs, i + 1, ⟨A, c, ps, cs', q, h1, h2, h3⟩, h => by
    have h4 := elt_rc i h3 (by rw [pl] at h; omega)
    rw [q, show (i + 1) * 10 = 10 + i * 10 by omega, ← List.drop_drop]
    exact h4
  | .iff l m e p q t, cs, 0, ⟨A, c, ps, A2, c2, qs, cs', qq, h1, h2, h3⟩, h => ⟨A, c, ps, A2, c2, qs, [], by rw [qq]; simp, h1, h2, rfl⟩
  | .iff l m e p q t, cs, i + 1, ⟨A, c, ps, A2, c2, qs, cs', qq, h1, h2, h3⟩, h => by
    have h4 := elt_rc i h3 (by rw [pl] at h; omega)
    rw [qq, show (i + 1) * 10 = 10 + i * 10 by omega, ← List.drop_drop]
    exact h4
theorem elt_cases : ∀ (t : PS) (i : Nat), i < pl t → (∃ l, elt t i = .one l .nil) ∨ (∃ l e p, elt t i = .rep l e p .nil) ∨ (∃ l m e p q, elt t i = .iff l m e p q .nil)
  | .nil, i, h => by cases h
  | .one l t, 0, h => .inl ⟨l, rfl⟩
  | .one l t, i + 1, h => elt_cases t i (by rw [pl] at h; omega)
  | .rep l e p t, 0, h => .inr (.inl ⟨l, e, p, rfl⟩)
  | .rep l e p t, i + 1, h => elt_cases t i (by rw [pl] at h; omega)
  | .iff l m e p q t, 0, h => .inr (.inr ⟨l, m, e, p, q, rfl⟩)
  | .iff l m e p q t, i + 1, h => elt_cases t i (by rw [pl] at h; omega)
theorem elt_one {w : World} {D : Nat → Prop} {t : PS} {cs : List Value} {i : Nat} {l : Gt} (h : RC w D t cs) (hi : i < pl t) (he : elt t i = .one l .nil) : (cs.drop (i * 10)).take 10 = [.int .i64 l.k, .int .i64 l.a, .int .i64 l.b, .int .i64 l.c, vNil, vNil, .int .i64 0, .int .i64 0, .int .i64 0, .int .i64 0] := by
  have := elt_rc i h hi
  rw [he] at this
  obtain ⟨cs', e, hr⟩ := this
  rw [e, show cs' = [] from hr]; rfl
theorem elt_rep {w : World} {D : Nat → Prop} {t p : PS} {cs : List Value} {i : Nat} {l e : Gt} (h : RC w D t cs) (hi : i < pl t) (he : elt t i = .rep l e p .nil) : ∃ A c, (cs.drop (i * 10)).take 10 = [.int .i64 l.k, .int .i64 l.a, .int .i64 l.b, .int .i64 l.c, .slice A (pl p) c, vNil, .int .i64 e.k, .int .i64 e.a, .int .i64 e.b, .int .i64 e.c] ∧ TV w D p (.slice A (pl p) c) := by
  have := elt_rc i h hi
  rw [he] at this
  obtain ⟨A, c, ps, cs', q, h1, h2, h3⟩ := this
  exact ⟨A, c, by rw [q, show cs' = [] from h3]; rfl, A, c, ps, rfl, h1, h2⟩
theorem elt_iff {w : World} {D : Nat → Prop} {t p q : PS} {cs : List Value} {i : Nat} {l m e : Gt} (h : RC w D t cs) (hi : i < pl t) (he : elt t i = .iff l m e p q .nil) : ∃ A c A2 c2, (cs.drop (i * 10)).take 10 = [.int .i64 l.k, .int .i64 l.a, .int .i64 l.b, .int .i64 l.c, .slice A (pl p) c, .slice A2 (pl q) c2, .int .i64 e.k, .int .i64 e.a, .int .i64 e.b, .int .i64 e.c] ∧ TV w D p (.slice A (pl p) c) ∧ TV w D q (.slice A2 (pl q) c2) := by
  have := elt_rc i h hi
  rw [he] at this
  obtain ⟨A, c, ps, A2, c2, qs, cs', qq, h1, h2, h3⟩ := this
  exact ⟨A, c, A2, c2, by rw [qq, show cs' = [] from h3]; rfl, ⟨A, c, ps, rfl, h1.1, h1.2⟩, ⟨A2, c2, qs, rfl, h2.1, h2.2⟩⟩
def Wb : PS → Nat
  | .nil => 0
  | .one l t => 1 + Wb t
  | .rep l e p t => 3 * Wb p + Wb t
  | .iff l m e p q t => Wb p + Wb q + Wb t
theorem Wb_le : ∀ t, Wb t + 1 ≤ 4 ^ (fl t).length
  | .nil => Nat.le_refl _
  | .one l t => by
    have := Wb_le t
    rw [Wb, fl, List.length_cons, Nat.pow_succ]; omega
  | .rep l e p t => by
    have h1 := Wb_le p
    have h2 := Wb_le t
    rw [Wb, fl, List.length_cons, List.length_append, List.length_cons, Nat.pow_succ, Nat.pow_add, Nat.pow_succ]
    generalize 4 ^ (fl p).length = a at *
    generalize 4 ^ (fl t).length = b at *
    have h3 : a ≤ a * b := Nat.le_mul_of_pos_right _ (by omega)
    have h4 : b ≤ a * b := Nat.le_mul_of_pos_left _ (by omega)
    have h5 : a * (b * 4) * 4 = 16 * (a * b) := by rw [← Nat.mul_assoc, Nat.mul_assoc (a * b), Nat.mul_comm]
    omega
  | .iff l m e p q t => by
    have h1 := Wb_le p
    have h2 := Wb_le q
    have h3 := Wb_le t
    rw [Wb, fl, List.length_cons, List.length_append, List.length_cons, List.length_append, List.length_cons, Nat.pow_succ, Nat.pow_add, Nat.pow_succ, Nat.pow_add, Nat.pow_succ]
    generalize 4 ^ (fl p).length = a at *
    generalize 4 ^ (fl q).length = b at *
    generalize 4 ^ (fl t).length = c at *
    have e1 : b ≤ b * (c * 4) := Nat.le_mul_of_pos_right _ (by omega)
    have e2 : c * 4 ≤ b * (c * 4) := Nat.le_mul_of_pos_left _ (by omega)
    generalize b * (c * 4) = d at *
    have e3 : a ≤ a * (d * 4) := Nat.le_mul_of_pos_right _ (by omega)
    have e4 : d * 4 ≤ a * (d * 4) := Nat.le_mul_of_pos_left _ (by omega)
    omega
theorem itO_bd {f : RS → Option RS} {W : Nat} (h : ∀ x y, f x = some y → y.2 ≤ x.2 + W) : ∀ (n : Nat) (x y : RS), itO f n x = some y → y.2 ≤ x.2 + n * W
  | 0, x, y, e => by cases e; omega
  | n + 1, x, y, e => by
    rw [itO] at e
    cases hf : f x with
    | none => rw [hf] at e; cases e
    | some z =>
      rw [hf] at e
      have h1 := h x z hf
      have h2 := itO_bd h n z y e
      rw [Nat.succ_mul]; omega
theorem rs_bd : ∀ (t : PS), wf t → lkA t → ∀ x y, rs t x = some y → y.2 ≤ x.2 + Wb t
  | .nil, _, _, x, y, e => by cases e; omega
  | .one l t, hw, hl, x, y, e => by
    rw [rs] at e
    have := rs_bd t hw.2 (lkA_one hl).2 _ y e
    rw [Wb]; dsimp only at this; omega
  | .rep l e0 p t, hw, hl, x, y, e => by
    rw [rs] at e
    obtain ⟨q1, q2, q3, q4⟩ := lkA_rep hl
    have hc : l.c.toNat ≤ 3 := by have := lk_cases q1; have := hw.1.1; omega
    cases hf : itO (rs p) l.c.toNat x with
    | none => rw [hf] at e; cases e
    | some z =>
      rw [hf] at e
      have h1 := itO_bd (rs_bd p hw.2.1 q2) _ x z hf
      have h2 := rs_bd t hw.2.2 q4 z y e
      have h3 : l.c.toNat * Wb p ≤ 3 * Wb p := Nat.mul_le_mul_right _ hc
      rw [Wb]; omega
  | .iff l m e0 p q t, hw, hl, x, y, e => by
    rw [rs] at e
    obtain ⟨q1, q2, q3, q4, q5, q6⟩ := lkA_iff hl
    cases hf : (if (rg x.1 l.a == l.c) = true then rs p x else rs q x) with
    | none => rw [hf] at e; cases e
    | some z =>
      rw [hf, Option.bind_some] at e
      have h1 : z.2 ≤ x.2 + (Wb p + Wb q) := by
        split at hf
        · have := rs_bd p hw.2.1 q2 x z hf; omega
        · have := rs_bd q hw.2.2.1 q4 x z hf; omega
      split at e
      · cases e
      · have h2 := rs_bd t hw.2.2.2 q6 z y e
        rw [Wb]; omega
end Go.Proofs.Ytgjnnlgeggamjaa
namespace Go.Proofs.Ytgjnnlgeggamjaa
set_option linter.unusedVariables false
set_option linter.unusedSimpArgs false
open Go.RowKit Go.Shelf
attribute [local go_sem] Oper.semAt_some
def KD (D : Nat → Prop) (Bs : Nat) (W W' : World) : Prop := (∀ b, D b → W'.heap[b]? = W.heap[b]?) ∧ ∀ v, Boxed W Bs 51 v → Boxed W' Bs 51 v
theorem KD.refl (D : Nat → Prop) (Bs : Nat) (W : World) : KD D Bs W W := ⟨fun _ _ => rfl, fun _ h => h⟩
theorem KD.trans {D : Nat → Prop} {Bs : Nat} {A B C : World} (h : KD D Bs A B) (k : KD D Bs B C) : KD D Bs A C := ⟨fun b hb => (k.1 b hb).trans (h.1 b hb), fun v b => k.2 v (h.2 v b)⟩
end Go.Proofs.Ytgjnnlgeggamjaa
