/- TRS, TRQ, TRT: laid into one text. -/
import Derived.Test.YtgjnnlgeggamjaaQXEP
import Derived.Test.YtgjnnlgeggamjaaQXEV
import Derived.RangeFuncNested
import Derived.RangeFuncBox
import Derived.RangeFuncLeaves
import Derived.Shelf.Abstract
import Derived.WalkKit
import Derived.OwnWalkIn
import Derived.TacticsInMore
import Derived.LoopNIn
import Derived.LoopIn

namespace Go.Proofs.Ytgjnnlgeggamjaa
set_option linter.unusedVariables false
set_option linter.unusedSimpArgs false
open Go.RowKit
def elt : PS → Nat → PS
  | .nil, _ => .nil
  | .one l t, 0 => .one l .nil
  | .one l t, i + 1 => elt t i
  | .rep l e p t, 0 => .rep l e p .nil
  | .rep l e p t, i + 1 => elt t i
  | .iff l m e p q t, 0 => .iff l m e p q .nil
  | .iff l m e p q t, i + 1 => elt t i
def sfx : PS → Nat → PS
  | t, 0 => t
  | .nil, _ + 1 => .nil
  | .one l t, i + 1 => sfx t i
  | .rep l e p t, i + 1 => sfx t i
  | .iff l m e p q t, i + 1 => sfx t i
theorem sfx_zero (t : PS) : sfx t 0 = t := by cases t <;> rfl
theorem sfx_all : ∀ (t : PS), sfx t (pl t) = .nil
  | .nil => rfl
  | .one l t => sfx_all t
  | .rep l e p t => sfx_all t
  | .iff l m e p q t => sfx_all t
theorem sfx_elt : ∀ (t : PS) (i : Nat), i < pl t → sfx t i = app (elt t i) (sfx t (i + 1))
  | .nil, i, h => by cases h
  | .one l t, 0, h => by show PS.one l t = .one l (app .nil (sfx t 0)); rw [sfx_zero]; rfl
  | .one l t, i + 1, h => sfx_elt t i (by rw [pl] at h; omega)
  | .rep l e p t, 0, h => by show PS.rep l e p t = .rep l e p (app .nil (sfx t 0)); rw [sfx_zero]; rfl
  | .rep l e p t, i + 1, h => sfx_elt t i (by rw [pl] at h; omega)
  | .iff l m e p q t, 0, h => by show PS.iff l m e p q t = .iff l m e p q (app .nil (sfx t 0)); rw [sfx_zero]; rfl
  | .iff l m e p q t, i + 1, h => sfx_elt t i (by rw [pl] at h; omega)
theorem elt_wf : ∀ (t : PS) (i : Nat), wf t → wf (elt t i)
  | .nil, i, h => trivial
  | .one l t, 0, h => ⟨h.1, trivial⟩
  | .one l t, i + 1, h => elt_wf t i h.2
  | .rep l e p t, 0, h => ⟨h.1, h.2.1, trivial⟩
  | .rep l e p t, i + 1, h => elt_wf t i h.2.2
  | .iff l m e p q t, 0, h => ⟨h.1, h.2.1, h.2.2.1, trivial⟩
  | .iff l m e p q t, i + 1, h => elt_wf t i h.2.2.2
theorem elt_sub : ∀ (t : PS) (i : Nat), ∃ a b, fl t = a ++ (fl (elt t i) ++ b)
  | .nil, i => ⟨[], [], rfl⟩
  | .one l t, 0 => ⟨[], fl t, rfl⟩
  | .one l t, i + 1 => by obtain ⟨a, b, h⟩ := elt_sub t i; exact ⟨l :: a, b, by show l :: fl t = _; rw [h]; rfl⟩
  | .rep l e p t, 0 => ⟨[], fl t, by simp [fl, elt]⟩
  | .rep l e p t, i + 1 => by obtain ⟨a, b, h⟩ := elt_sub t i; exact ⟨l :: (fl p ++ e :: a), b, by show l :: (fl p ++ e :: fl t) = _; rw [h]; simp [elt]⟩
  | .iff l m e p q t, 0 => ⟨[], fl t, by simp [fl, elt]⟩
  | .iff l m e p q t, i + 1 => by obtain ⟨a, b, h⟩ := elt_sub t i; exact ⟨l :: (fl p ++ m :: (fl q ++ e :: a)), b, by show l :: (fl p ++ m :: (fl q ++ e :: fl t)) = _; rw [h]; simp [elt]⟩
theorem elt_len (t : PS) (i : Nat) : (fl (elt t i)).length ≤ (fl t).length := by
  obtain ⟨a, b, h⟩ := elt_sub t i
  rw [h]; simp; omega
theorem elt_lk {t : PS} (i : Nat) (h : lkA t) : lkA (elt t i) := by
  obtain ⟨a, b, he⟩ := elt_sub t i
  unfold lkA at *
  rw [he, List.all_append, List.all_append, Bool.and_eq_true, Bool.and_eq_true] at h
  exact h.2.1
theorem elt_rc {w : World} {D : Nat → Prop} : ∀ {t : PS} {cs : List Value} (i : Nat), RC w D t cs → i < pl t → RC w D (elt t i) ((cs.drop (i * 10)).take 10)
  | .nil, cs, i, _, h => by cases h
  | .one l t, cs, 0, ⟨cs', e, hr⟩, h => ⟨[], by rw [e]; simp, rfl⟩
  | .one l t, cs, i + 1, ⟨cs', e, hr⟩, h => by
    have h2 := elt_rc i hr (by rw [pl] at h; omega)
    rw [e, show (i + 1) * 10 = 10 + i * 10 by omega, ← List.drop_drop]
    exact h2
  | .rep l e p t, cs, 0, ⟨A, c, ps, cs', q, h1, h2, h3⟩, h => ⟨A, c, ps, [], by rw [q]; simp, h1, h2, rfl⟩
  | .rep l e p t, cs, i + 1, ⟨A, c, ps, cs', q, h1, h2, h3⟩, h => by
    have h4 := elt_rc i h3 (by rw [pl] at h; omega)
    rw [q, show (i + 1) * 10 = 10 + i * 10 by omega, ← List.drop_drop]
    exact h4
  | .iff l m e p q t, cs, 0, ⟨A, c, ps, A2, c2, qs, cs', qq, h1, h2, h3⟩, h => ⟨A, c, ps, A2, c2, qs, [], by rw [qq]; simp, h1, h2, rfl⟩
  | .iff l m e p q t, cs, i + 1, ⟨A, c, ps, A2, c2, qs, cs', qq, h1, h2, h3⟩, h => by
    have h4 := elt_rc i h3 (by rw [pl] at h; omega)
    rw [qq, show (i + 1) * 10 = 10 + i * 10 by omega, ← List.drop_drop]
    exact h4
theorem elt_cases : ∀ (t : PS) (i : Nat), i < pl t → (∃ l, elt t i = .one l .nil) ∨ (∃ l e p, elt t i = .rep l e p .nil) ∨ (∃ l m e p q, elt t i = .iff l m e p q .nil)
  | .nil, i, h => by cases h
  | .one l t, 0, h => .inl ⟨l, rfl⟩
  | .one l t, i + 1, h => elt_cases t i (by rw [pl] at h; omega)
  | .rep l e p t, 0, h => .inr (.inl ⟨l, e, p, rfl⟩)
  | .rep l e p t, i + 1, h => elt_cases t i (by rw [pl] at h; omega)
  | .iff l m e p q t, 0, h => .inr (.inr ⟨l, m, e, p, q, rfl⟩)
  | .iff l m e p q t, i + 1, h => elt_cases t i (by rw [pl] at h; omega)
def bl (m : Nat) : (k : Nat) → k ≤ m → List (Fin m)
  | 0, _ => []
  | k + 1, h => bl m k (Nat.le_of_succ_le h) ++ [⟨m - 1 - k, by omega⟩]
theorem bl_len (m : Nat) : ∀ (k : Nat) (h : k ≤ m), (bl m k h).length = k
  | 0, _ => rfl
  | k + 1, h => by rw [bl, List.length_append, bl_len m k]; rfl
def bkS (t : PS) {m : Nat} (l : List (Fin m)) : List Gt := (l.map fun x => fl (bk (elt t x.val))).flatten
theorem bkS_snoc (t : PS) {m : Nat} (l : List (Fin m)) (x : Fin m) : bkS t (l ++ [x]) = bkS t l ++ fl (bk (elt t x.val)) := by
  unfold bkS; simp
theorem bkS_bl (t : PS) : ∀ (k : Nat) (h : k ≤ pl t), bkS t (bl (pl t) k h) = fl (bk (sfx t (pl t - k)))
  | 0, h => by rw [Nat.sub_zero, sfx_all]; rfl
  | k + 1, h => by
    rw [bl, bkS_snoc, bkS_bl t k, sfx_elt t (pl t - (k + 1)) (by omega), bk_app, fl_app, show pl t - (k + 1) + 1 = pl t - k by omega]
    show _ ++ fl (bk (elt t (pl t - 1 - k))) = _
    rw [show pl t - 1 - k = pl t - (k + 1) by omega]
theorem bkS_all (t : PS) : bkS t (bl (pl t) (pl t) (Nat.le_refl _)) = fl (bk t) := by
  rw [bkS_bl, Nat.sub_self, sfx_zero]
theorem bkS_len {t : PS} (hw : wf t) (hl : lkA t) {m : Nat} : ∀ (l : List (Fin m)), (bkS t l).length ≤ l.length * (fl t).length
  | [] => Nat.zero_le _
  | x :: l => by
    have h1 := bkS_len hw hl l
    have h2 := (bk_ok (elt_wf t x.val hw) (elt_lk x.val hl)).2.2.1
    have h3 := elt_len t x.val
    have e : bkS t (x :: l) = fl (bk (elt t x.val)) ++ bkS t l := rfl
    rw [e, List.length_append, List.length_cons, Nat.add_mul]
    omega
abbrev cx (cs : List Value) (j o : Nat) : Value := cs.getD (j * 10 + o) undef
theorem cx_of {cs : List Value} {j : Nat} {y0 y1 y2 y3 y4 y5 y6 y7 y8 y9 : Value} (h : (cs.drop (j * 10)).take 10 = [y0, y1, y2, y3, y4, y5, y6, y7, y8, y9]) : cx cs j 0 = y0 ∧ cx cs j 1 = y1 ∧ cx cs j 2 = y2 ∧ cx cs j 3 = y3 ∧ cx cs j 4 = y4 ∧ cx cs j 5 = y5 ∧ cx cs j 6 = y6 ∧ cx cs j 7 = y7 ∧ cx cs j 8 = y8 ∧ cx cs j 9 = y9 := by
  have key : ∀ o, o < 10 → cx cs j o = [y0, y1, y2, y3, y4, y5, y6, y7, y8, y9].getD o undef := fun o ho => by
    show cs.getD (j * 10 + o) undef = _
    rw [← h, List.getD_eq_getElem?_getD, List.getD_eq_getElem?_getD, List.getElem?_take_of_lt ho, List.getElem?_drop]
  exact ⟨key 0 (by omega), key 1 (by omega), key 2 (by omega), key 3 (by omega), key 4 (by omega), key 5 (by omega), key 6 (by omega), key 7 (by omega), key 8 (by omega), key 9 (by omega)⟩
theorem elt_one {w : World} {D : Nat → Prop} {t : PS} {cs : List Value} {i : Nat} {l : Gt} (h : RC w D t cs) (hi : i < pl t) (he : elt t i = .one l .nil) : (cs.drop (i * 10)).take 10 = [.int .i64 l.k, .int .i64 l.a, .int .i64 l.b, .int .i64 l.c, vNil, vNil, .int .i64 0, .int .i64 0, .int .i64 0, .int .i64 0] := by
  have := elt_rc i h hi
  rw [he] at this
  obtain ⟨cs', e, hr⟩ := this
  rw [e, show cs' = [] from hr]; rfl
theorem elt_rep {w : World} {D : Nat → Prop} {t p : PS} {cs : List Value} {i : Nat} {l e : Gt} (h : RC w D t cs) (hi : i < pl t) (he : elt t i = .rep l e p .nil) : ∃ A c, (cs.drop (i * 10)).take 10 = [.int .i64 l.k, .int .i64 l.a, .int .i64 l.b, .int .i64 l.c, .slice A (pl p) c, vNil, .int .i64 e.k, .int .i64 e.a, .int .i64 e.b, .int .i64 e.c] ∧ TV w D p (.slice A (pl p) c) := by
  have := elt_rc i h hi
  rw [he] at this
  obtain ⟨A, c, ps, cs', q, h1, h2, h3⟩ := this
  exact ⟨A, c, by rw [q, show cs' = [] from h3]; rfl, A, c, ps, rfl, h1, h2⟩
theorem elt_iff {w : World} {D : Nat → Prop} {t p q : PS} {cs : List Value} {i : Nat} {l m e : Gt} (h : RC w D t cs) (hi : i < pl t) (he : elt t i = .iff l m e p q .nil) : ∃ A c A2 c2, (cs.drop (i * 10)).take 10 = [.int .i64 l.k, .int .i64 l.a, .int .i64 l.b, .int .i64 l.c, .slice A (pl p) c, .slice A2 (pl q) c2, .int .i64 e.k, .int .i64 e.a, .int .i64 e.b, .int .i64 e.c] ∧ TV w D p (.slice A (pl p) c) ∧ TV w D q (.slice A2 (pl q) c2) := by
  have := elt_rc i h hi
  rw [he] at this
  obtain ⟨A, c, ps, A2, c2, qs, cs', qq, h1, h2, h3⟩ := this
  exact ⟨A, c, A2, c2, by rw [qq, show cs' = [] from h3]; rfl, ⟨A, c, ps, rfl, h1.1, h1.2⟩, ⟨A2, c2, qs, rfl, h2.1, h2.2⟩⟩
theorem cx_shape {w : World} {D : Nat → Prop} {t : PS} {cs : List Value} {i : Nat} (h : RC w D t cs) (hi : i < pl t) : ∃ (l e : Gt) (A1 : Option Addr) (n1 c1 : Nat) (A2 : Option Addr) (n2 c2 : Nat), cx cs i 0 = .int .i64 l.k ∧ cx cs i 1 = .int .i64 l.a ∧ cx cs i 2 = .int .i64 l.b ∧ cx cs i 3 = .int .i64 l.c ∧ cx cs i 4 = .slice A1 n1 c1 ∧ cx cs i 5 = .slice A2 n2 c2 ∧ cx cs i 6 = .int .i64 e.k ∧ cx cs i 7 = .int .i64 e.a ∧ cx cs i 8 = .int .i64 e.b ∧ cx cs i 9 = .int .i64 e.c := by
  rcases elt_cases t i hi with ⟨l, he⟩ | ⟨l, e, p, he⟩ | ⟨l, m, e, p, q, he⟩
  · exact ⟨l, gz, _, _, _, _, _, _, cx_of (elt_one h hi he)⟩
  · obtain ⟨A, c, h1, _⟩ := elt_rep h hi he
    exact ⟨l, e, _, _, _, _, _, _, cx_of h1⟩
  · obtain ⟨A, c, A2, c2, h1, _⟩ := elt_iff h hi he
    exact ⟨l, e, _, _, _, _, _, _, cx_of h1⟩
def Wb : PS → Nat
  | .nil => 0
  | .one l t => 1 + Wb t
  | .rep l e p t => 3 * Wb p + Wb t
  | .iff l m e p q t => Wb p + Wb q + Wb t
theorem Wb_le : ∀ t, Wb t + 1 ≤ 4 ^ (fl t).length
  | .nil => Nat.le_refl _
  | .one l t => by
    have := Wb_le t
    rw [Wb, fl, List.length_cons, Nat.pow_succ]; omega
  | .rep l e p t => by
    have h1 := Wb_le p
    have h2 := Wb_le t
    rw [Wb, fl, List.length_cons, List.length_append, List.length_cons, Nat.pow_succ, Nat.pow_add, Nat.pow_succ]
    generalize 4 ^ (fl p).length = a at *
    generalize 4 ^ (fl t).length = b at *
    have h3 : a ≤ a * b := Nat.le_mul_of_pos_right _ (by omega)
    have h4 : b ≤ a * b := Nat.le_mul_of_pos_left _ (by omega)
    have h5 : a * (b * 4) * 4 = 16 * (a * b) := by rw [← Nat.mul_assoc, Nat.mul_assoc (a * b), Nat.mul_comm]
    omega
  | .iff l m e p q t => by
    have h1 := Wb_le p
    have h2 := Wb_le q
    have h3 := Wb_le t
    rw [Wb, fl, List.length_cons, List.length_append, List.length_cons, List.length_append, List.length_cons, Nat.pow_succ, Nat.pow_add, Nat.pow_succ, Nat.pow_add, Nat.pow_succ]
    generalize 4 ^ (fl p).length = a at *
    generalize 4 ^ (fl q).length = b at *
    generalize 4 ^ (fl t).length = c at *
    have e1 : b ≤ b * (c * 4) := Nat.le_mul_of_pos_right _ (by omega)
    have e2 : c * 4 ≤ b * (c * 4) := Nat.le_mul_of_pos_left _ (by omega)
    generalize b * (c * 4) = d at *
    have e3 : a ≤ a * (d * 4) := Nat.le_mul_of_pos_right _ (by omega)
    have e4 : d * 4 ≤ a * (d * 4) := Nat.le_mul_of_pos_left _ (by omega)
    omega
theorem itO_bd {f : RS → Option RS} {W : Nat} (h : ∀ x y, f x = some y → y.2 ≤ x.2 + W) : ∀ (n : Nat) (x y : RS), itO f n x = some y → y.2 ≤ x.2 + n * W
  | 0, x, y, e => by cases e; omega
  | n + 1, x, y, e => by
    rw [itO] at e
    cases hf : f x with
    | none => rw [hf] at e; cases e
    | some z =>
      rw [hf] at e
      have h1 := h x z hf
      have h2 := itO_bd h n z y e
      rw [Nat.succ_mul]; omega
theorem rs_bd : ∀ (t : PS), wf t → lkA t → ∀ x y, rs t x = some y → y.2 ≤ x.2 + Wb t
  | .nil, _, _, x, y, e => by cases e; omega
  | .one l t, hw, hl, x, y, e => by
    rw [rs] at e
    have := rs_bd t hw.2 (lkA_one hl).2 _ y e
    rw [Wb]; dsimp only at this; omega
  | .rep l e0 p t, hw, hl, x, y, e => by
    rw [rs] at e
    obtain ⟨q1, q2, q3, q4⟩ := lkA_rep hl
    have hc : l.c.toNat ≤ 3 := by have := lk_cases q1; have := hw.1.1; omega
    cases hf : itO (rs p) l.c.toNat x with
    | none => rw [hf] at e; cases e
    | some z =>
      rw [hf] at e
      have h1 := itO_bd (rs_bd p hw.2.1 q2) _ x z hf
      have h2 := rs_bd t hw.2.2 q4 z y e
      have h3 : l.c.toNat * Wb p ≤ 3 * Wb p := Nat.mul_le_mul_right _ hc
      rw [Wb]; omega
  | .iff l m e0 p q t, hw, hl, x, y, e => by
    rw [rs] at e
    obtain ⟨q1, q2, q3, q4, q5, q6⟩ := lkA_iff hl
    cases hf : (if (rg x.1 l.a == l.c) = true then rs p x else rs q x) with
    | none => rw [hf] at e; cases e
    | some z =>
      rw [hf, Option.bind_some] at e
      have h1 : z.2 ≤ x.2 + (Wb p + Wb q) := by
        split at hf
        · have := rs_bd p hw.2.1 q2 x z hf; omega
        · have := rs_bd q hw.2.2.1 q4 x z hf; omega
      split at e
      · cases e
      · have h2 := rs_bd t hw.2.2.2 q6 z y e
        rw [Wb]; omega
end Go.Proofs.Ytgjnnlgeggamjaa
namespace Go.Proofs.Ytgjnnlgeggamjaa
set_option linter.unusedVariables false
set_option linter.unusedSimpArgs false
open Go.RowKit Go.Shelf
attribute [local go_sem] Oper.semAt_some
abbrev elv (cs : List Value) (j : Nat) : Value := .agg #[cx cs j 0, cx cs j 1, cx cs j 2, cx cs j 3, cx cs j 4, cx cs j 5, cx cs j 6, cx cs j 7, cx cs j 8, cx cs j 9]
def KD (D : Nat → Prop) (Bs : Nat) (W W' : World) : Prop := (∀ b, D b → W'.heap[b]? = W.heap[b]?) ∧ ∀ v, Boxed W Bs 51 v → Boxed W' Bs 51 v
theorem KD.refl (D : Nat → Prop) (Bs : Nat) (W : World) : KD D Bs W W := ⟨fun _ _ => rfl, fun _ h => h⟩
theorem KD.trans {D : Nat → Prop} {Bs : Nat} {A B C : World} (h : KD D Bs A B) (k : KD D Bs B C) : KD D Bs A C := ⟨fun b hb => (k.1 b hb).trans (h.1 b hb), fun v b => k.2 v (h.2 v b)⟩
set_option maxRecDepth 100000 in
set_option maxHeartbeats 4000000 in
theorem bwb_in (F : Fence) (n : Nat) (h7 : F.fn 72) (hro : F.round = none) (hn : 1 ≤ n) (l Bs b off m cap : Nat) (D : Nat → Prop) (cs : List Value) (hm : m ≤ 1000) (hb : D b) (hlen : cs.length = m * 10) (J Jx : List (Fin m) → World → Prop)
    (hY : ∀ pre x W, J pre W → pre.length < m → YieldAt F (n - 1) Try.prog l #[.int .i64 (x.val : Int), elv cs x.val] W fun e W' =>
      (e = .returned (.bool true) ∧ J (pre ++ [x]) W' ∧ KD D Bs W W') ∨ (e = .returned (.bool false) ∧ Jx (pre ++ [x]) W'))
    (W : World) (hBs : Boxed W Bs 51 (.slice (some ⟨b, off, none⟩) m cap)) (hc : Cells W b off cs) (h0 : J [] W) :
    CallsIn F n Try.prog 72 #[.func (.yield l) #[] #[], .pointer (some ⟨Bs, 0, none⟩)] W fun e W' => (∃ v, e = .returned v) ∧
      ((∃ ys, ys = bl m m (Nat.le_refl _) ∧ J ys W') ∨ (∃ pre, (∃ k, ∃ h : k ≤ m, pre = bl m k h) ∧ Jx pre W')) := by
  refine callsIn_of_wp Try.func72 rfl h7 ?_ hro
  simp only [Try.ntmps72, List.size_toArray, List.length_cons, List.length_nil, Nat.reduceAdd, Nat.reduceSub, Array.replicate_succ, Array.replicate_zero, List.push_toArray, List.append_toArray, List.nil_append, List.cons_append]
  have hBs0 := hBs.cell
  gi_wp2
  gi_loopw [3] (fun i wr => ∃ k : Nat, ∃ hk : k ≤ m, i = .int .i64 ((m : Int) - 1 - k) ∧ J (bl m k hk) wr ∧ KD D Bs W wr)
    (fun i _ => (intOf i + 1).toNat)
  case atStart => exact ⟨0, Nat.zero_le _, by simp, h0, KD.refl _ _ _⟩
  case round =>
    obtain ⟨k, hk, rfl, hJs, hnx⟩ := hrel
    have hBs' := (hnx.2 _ hBs).cell
    by_cases hlt : k < m
    · have hyY := hY _ ⟨m - 1 - k, by omega⟩ wr hJs (by rw [bl_len]; exact hlt)
      obtain ⟨q, hq⟩ : ∃ q : Nat, m - 1 - k = q := ⟨_, rfl⟩
      have hq2 : (m : Int) - 1 - k = (q : Int) := by omega
      have hcw : ∀ o, o < 10 → wr.cell? ⟨b, off + q * 10 + o, none⟩ = some (cx cs q o) := fun o ho => by
        have hj : q * 10 + o < cs.length := by rw [hlen]; omega
        have h2 := hc (q * 10 + o) (cs.getD (q * 10 + o) undef) (by simp [List.getD_eq_getElem?_getD, hj])
        rw [show off + q * 10 + o = off + (q * 10 + o) by omega]
        exact (World.cell?_of_block (a := ⟨b, off + (q * 10 + o), none⟩) (hnx.1 b hb)).trans h2
      obtain ⟨fn, tmps, assign, body, hy, hR⟩ := hyY
      dsimp only at hy
      rw [hq] at hy
      have c0 := hcw 0 (by omega)
      have c1 := hcw 1 (by omega)
      have c2 := hcw 2 (by omega)
      have c3 := hcw 3 (by omega)
      have c4 := hcw 4 (by omega)
      have c5 := hcw 5 (by omega)
      have c6 := hcw 6 (by omega)
      have c7 := hcw 7 (by omega)
      have c8 := hcw 8 (by omega)
      have c9 := hcw 9 (by omega)
      rw [Nat.add_zero] at c0
      unfold elv at hy
      generalize cx cs q 0 = x0 at *
      generalize cx cs q 1 = x1 at *
      generalize cx cs q 2 = x2 at *
      generalize cx cs q 3 = x3 at *
      generalize cx cs q 4 = x4 at *
      generalize cx cs q 5 = x5 at *
      generalize cx cs q 6 = x6 at *
      generalize cx cs q 7 = x7 at *
      generalize cx cs q 8 = x8 at *
      generalize cx cs q 9 = x9 at *
      clear hcw hlen hc
      rw [hq2]
      gi_wp2
      refine hR.mono ?_
      rintro e W3 (⟨rfl, hJ3, hk3⟩ | ⟨rfl, hJx3⟩)
      · gi_wp2
        go_roundw
        case rel => exact ⟨k + 1, hlt, by simp; omega, hJ3, hnx.trans hk3⟩
        case measure => simp [intOf]
      · gi_wp2
        refine bodyPost_ret (results_none rfl _ _ _) rfl ?_
        exact ⟨⟨_, rfl⟩, .inr ⟨_, ⟨k + 1, hlt, rfl⟩, hJx3⟩⟩
    · obtain rfl : k = m := by omega
      rw [show (k : Int) - 1 - k = -1 by omega]
      gi_wp2
      go_end0
      exact ⟨⟨_, rfl⟩, .inl ⟨_, rfl, hJs⟩⟩
set_option maxRecDepth 100000 in
set_option maxHeartbeats 1000000 in
theorem bwb_nil (F : Fence) (n : Nat) (h7 : F.fn 72) (hro : F.round = none) (l Bs cap : Nat) (A : Option Addr) (J : List (Fin 0) → World → Prop) (W : World) (hBs : W.cell? ⟨Bs, 0, none⟩ = some (.slice A 0 cap)) (h0 : J [] W) :
    CallsIn F n Try.prog 72 #[.func (.yield l) #[] #[], .pointer (some ⟨Bs, 0, none⟩)] W fun e W' => (∃ v, e = .returned v) ∧ J [] W' := by
  refine callsIn_of_wp Try.func72 rfl h7 ?_ hro
  simp only [Try.ntmps72, List.size_toArray, List.length_cons, List.length_nil, Nat.reduceAdd, Nat.reduceSub, Array.replicate_succ, Array.replicate_zero, List.push_toArray, List.append_toArray, List.nil_append, List.cons_append]
  gi_wp2
  gi_loopw [3] (fun i wr => i = .int .i64 (-1) ∧ J [] wr) (fun _ _ => 0)
  case atStart => exact ⟨rfl, h0⟩
  case round =>
    obtain ⟨rfl, hJs⟩ := hrel
    gi_wp2
    go_end0
    exact ⟨⟨_, rfl⟩, hJs⟩
set_option maxHeartbeats 1000000 in
theorem bwb_fn (F : Fence) (n : Nat) (h5 : F.fn 59) (hro : F.round = none) (a : Option Addr) (len cap : Nat) (w : World) :
    CallsIn F n Try.prog 59 #[.slice a len cap] w fun e w' => e = .returned (.func (.func 72) #[] #[.pointer (some ⟨w.heap.size, 0, none⟩)]) ∧ w' = w.alloc (.cells #[.slice a len cap] 51) := by
  refine callsIn_of_wp Try.func59 rfl h5 ?_ hro
  simp only [Try.ntmps59, List.size_toArray, List.length_cons, List.length_nil, Nat.reduceAdd, Nat.reduceSub, Array.replicate_succ, Array.replicate_zero, List.push_toArray, List.append_toArray, List.nil_append, List.cons_append]
  gi_wp2
  go_ret
  exact ⟨rfl, rfl⟩
theorem bwb_stops (F : Fence) (n : Nat) (h7 : F.fn 72) (hro : F.round = none) (hn : 1 ≤ n) (Bs : Nat) (D : Nat → Prop) (A : Option Addr) (m cap : Nat) (cs : List Value) (hm : m ≤ 1000) (hlen : cs.length = m * 10) (w : World) (hBs : Boxed w Bs 51 (.slice A m cap)) (hD : ∀ b, D b → b < w.heap.size) (hc : 0 < m → ∃ b off, A = some ⟨b, off, none⟩ ∧ D b ∧ Cells w b off cs) :
    SeqStopsK F n Try.prog 72 #[.pointer (some ⟨Bs, 0, none⟩)] (fun x : Fin m => #[.int .i64 (x.val : Int), elv cs x.val]) (KD D Bs) (fun ys => ys = bl m m (Nat.le_refl _)) (fun pre => ∃ k, ∃ h : k ≤ m, pre = bl m k h) m w := fun l J Jx W hW _ _ hY h0 => by
  have hb : Boxed W Bs _ _ := (hW.block Bs hBs.lt).trans hBs
  rcases Nat.eq_zero_or_pos m with h | h
  · subst h
    exact (bwb_nil F n h7 hro l Bs cap A J W hb.cell h0).mono fun e W' ⟨he, hj⟩ => ⟨he, .inl ⟨_, rfl, hj⟩⟩
  · obtain ⟨b, off, rfl, hDb, hcs⟩ := hc h
    exact bwb_in F n h7 hro hn l Bs b off m cap D cs hm hDb hlen J Jx hY W hb (hcs.keep (hW.block b (hD b hDb))) h0
end Go.Proofs.Ytgjnnlgeggamjaa
