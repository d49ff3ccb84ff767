/- TRA, TRS, TRT: laid into one text. -/
import Derived.Test.YtgjnnlgeggamjaaQXCA
import Derived.Test.YtgjnnlgeggamjaaQXCE
import Derived.Test.YtgjnnlgeggamjaaQXCF
import Derived.RangeFuncNested
import Derived.RangeFuncBox
import Derived.RangeFuncLeaves
import Derived.Shelf.Abstract
import Derived.WalkKit
import Derived.OwnWalkIn
import Derived.TacticsInMore
import Derived.LoopNIn
import Derived.LoopIn

namespace Go.Proofs.Ytgjnnlgeggamjaa
set_option linter.unusedVariables false
set_option linter.unusedSimpArgs false
open Go.RowKit
def pl : PS → Nat
  | .nil => 0
  | .one _ t => pl t + 1
  | .rep _ _ _ t => pl t + 1
  | .iff _ _ _ _ _ t => pl t + 1
theorem pl_app (b : PS) : ∀ a, pl (app a b) = pl a + pl b
  | .nil => (Nat.zero_add _).symm
  | .one l t => by rw [app, pl, pl, pl_app b t]; omega
  | .rep l e p t => by rw [app, pl, pl, pl_app b t]; omega
  | .iff l m e p q t => by rw [app, pl, pl, pl_app b t]; omega
theorem pl_fl : ∀ t, pl t ≤ (fl t).length
  | .nil => Nat.le_refl _
  | .one l t => by have := pl_fl t; rw [pl, fl, List.length_cons]; omega
  | .rep l e p t => by have := pl_fl t; rw [pl, fl, List.length_cons, List.length_append, List.length_cons]; omega
  | .iff l m e p q t => by have := pl_fl t; rw [pl, fl, List.length_cons, List.length_append, List.length_cons, List.length_append, List.length_cons]; omega
abbrev lC (g : Gt) : List Value := [.int .i64 g.k, .int .i64 g.a, .int .i64 g.b, .int .i64 g.c]
abbrev vNil : Value := .slice none 0 0
def RC (w : World) (D : Nat → Prop) : PS → List Value → Prop
  | .nil, cs => cs = []
  | .one l t, cs => ∃ cs', cs = lC l ++ (vNil :: vNil :: (lC gz ++ cs')) ∧ RC w D t cs'
  | .rep l e p t, cs => ∃ A c ps cs', cs = lC l ++ (.slice A (pl p) c :: vNil :: (lC e ++ cs')) ∧ RC w D p ps ∧ (0 < pl p → ∃ b off, A = some ⟨b, off, none⟩ ∧ D b ∧ Cells w b off ps) ∧ RC w D t cs'
  | .iff l m e p q t, cs => ∃ A c ps A2 c2 qs cs', cs = lC l ++ (.slice A (pl p) c :: .slice A2 (pl q) c2 :: (lC e ++ cs')) ∧ (RC w D p ps ∧ (0 < pl p → ∃ b off, A = some ⟨b, off, none⟩ ∧ D b ∧ Cells w b off ps)) ∧ (RC w D q qs ∧ (0 < pl q → ∃ b off, A2 = some ⟨b, off, none⟩ ∧ D b ∧ Cells w b off qs)) ∧ RC w D t cs'
def TV (w : World) (D : Nat → Prop) (t : PS) (v : Value) : Prop := ∃ A c ps, v = .slice A (pl t) c ∧ RC w D t ps ∧ (0 < pl t → ∃ b off, A = some ⟨b, off, none⟩ ∧ D b ∧ Cells w b off ps)
theorem RC.keep {w w' : World} {D D' : Nat → Prop} (h : ∀ b, D b → D' b ∧ w'.heap[b]? = w.heap[b]?) : ∀ {t : PS} {cs : List Value}, RC w D t cs → RC w' D' t cs
  | .nil, cs, hr => hr
  | .one l t, cs, ⟨cs', e, hr⟩ => ⟨cs', e, RC.keep h hr⟩
  | .rep l e p t, cs, ⟨A, c, ps, cs', q, h1, h2, h3⟩ => ⟨A, c, ps, cs', q, RC.keep h h1, fun h0 => by
      obtain ⟨b, off, e1, e2, e3⟩ := h2 h0
      exact ⟨b, off, e1, (h b e2).1, e3.keep (h b e2).2⟩, RC.keep h h3⟩
  | .iff l m e p q t, cs, ⟨A, c, ps, A2, c2, qs, cs', qq, ⟨h1, h2⟩, ⟨h4, h5⟩, h3⟩ => ⟨A, c, ps, A2, c2, qs, cs', qq, ⟨RC.keep h h1, fun h0 => by
      obtain ⟨b, off, e1, e2, e3⟩ := h2 h0
      exact ⟨b, off, e1, (h b e2).1, e3.keep (h b e2).2⟩⟩, ⟨RC.keep h h4, fun h0 => by
      obtain ⟨b, off, e1, e2, e3⟩ := h5 h0
      exact ⟨b, off, e1, (h b e2).1, e3.keep (h b e2).2⟩⟩, RC.keep h h3⟩
theorem TV.keep {w w' : World} {D D' : Nat → Prop} (h : ∀ b, D b → D' b ∧ w'.heap[b]? = w.heap[b]?) {t : PS} {v : Value} : TV w D t v → TV w' D' t v
  | ⟨A, c, ps, e, h1, h2⟩ => ⟨A, c, ps, e, RC.keep h h1, fun h0 => by
      obtain ⟨b, off, e1, e2, e3⟩ := h2 h0
      exact ⟨b, off, e1, (h b e2).1, e3.keep (h b e2).2⟩⟩
theorem RC.len {w : World} {D : Nat → Prop} : ∀ {t : PS} {cs : List Value}, RC w D t cs → cs.length = pl t * 10
  | .nil, cs, hr => by rw [show cs = [] from hr]; rfl
  | .one l t, cs, ⟨cs', e, hr⟩ => by
    have := RC.len hr
    rw [e, pl]; simp; omega
  | .rep l e p t, cs, ⟨A, c, ps, cs', q, h1, h2, h3⟩ => by
    have := RC.len h3
    rw [q, pl]; simp; omega
  | .iff l m e p q t, cs, ⟨A, c, ps, A2, c2, qs, cs', qq, ⟨h1, h2⟩, ⟨h4, h5⟩, h3⟩ => by
    have := RC.len h3
    rw [qq, pl]; simp; omega
theorem RC.app {w : World} {D : Nat → Prop} {b : PS} {ys : List Value} (hb : RC w D b ys) : ∀ {a : PS} {xs : List Value}, RC w D a xs → RC w D (app a b) (xs ++ ys)
  | .nil, xs, hr => by rw [show xs = [] from hr]; exact hb
  | .one l t, xs, ⟨cs', e, hr⟩ => ⟨cs' ++ ys, by rw [e]; simp, RC.app hb hr⟩
  | .rep l e p t, xs, ⟨A, c, ps, cs', q, h1, h2, h3⟩ => ⟨A, c, ps, cs' ++ ys, by rw [q]; simp, h1, h2, RC.app hb h3⟩
  | .iff l m e p q t, xs, ⟨A, c, ps, A2, c2, qs, cs', qq, h1, h2, h3⟩ => ⟨A, c, ps, A2, c2, qs, cs' ++ ys, by rw [qq]; simp, h1, h2, RC.app hb h3⟩
structure Oth (p : Nat) (w w' : World) : Prop where
  os : w'.os = w.os
  tape : w'.tape = w.tape
  output : w'.output = w.output
  size : w.heap.size ≤ w'.heap.size
  block : ∀ k, k < w.heap.size → k ≠ p → w'.heap[k]? = w.heap[k]?
section
variable {p : Nat} {a w w' : World}
theorem Oth.refl (p : Nat) (w : World) : Oth p w w := ⟨rfl, rfl, rfl, Nat.le_refl _, fun _ _ _ => rfl⟩
theorem Oth.trans (h : Oth p a w) (k : Oth p w w') : Oth p a w' := ⟨k.os.trans h.os, k.tape.trans h.tape, k.output.trans h.output, Nat.le_trans h.size k.size, fun i hi hp => (k.block i (Nat.lt_of_lt_of_le hi h.size) hp).trans (h.block i hi hp)⟩
theorem Oth.setCell (h : Oth p a w) {q : Addr} (hq : q.block = p) (u : Value) : Oth p a (w.setCell q u) :=
  ⟨h.os, h.tape, h.output, Nat.le_trans h.size (by simp [World.setCell]), fun k hk hp => (Below.heap_setCell w q u k (by rw [hq]; exact hp)).trans (h.block k hk hp)⟩
theorem Oth.setNew (h : Oth p a w) {q : Addr} (hq : a.heap.size ≤ q.block) (u : Value) : Oth p a (w.setCell q u) :=
  ⟨h.os, h.tape, h.output, Nat.le_trans h.size (by simp [World.setCell]), fun k hk hp => (Below.heap_setCell w q u k (by omega)).trans (h.block k hk hp)⟩
theorem Oth.alloc (h : Oth p a w) (o : Obj) : Oth p a (w.alloc o) :=
  ⟨h.os, h.tape, h.output, Nat.le_trans h.size (by simp), fun k hk hp => (Below.heap_alloc w o k (Nat.lt_of_lt_of_le hk h.size)).trans (h.block k hk hp)⟩
theorem Oth.drew (h : Oth p a w) : Oth p a w.drew := ⟨h.os, h.tape, h.output, h.size, h.block⟩
theorem Oth.grown (h : Oth p a w) {row : Option Nat} (hg : w.grownBy w' row) (hr : ∀ r, row = some r → a.heap.size ≤ r) : Oth p a w' :=
  ⟨hg.os.trans h.os, hg.tape.trans h.tape, hg.output.trans h.output, Nat.le_trans h.size hg.size, fun k hk hp => (hg.block k (Nat.lt_of_lt_of_le hk h.size) (fun e => by have := hr k e.symm; omega)).trans (h.block k hk hp)⟩
theorem Bk.oth {g : Nat} {cs : Array Value} (h : Bk w g cs) (hb : Oth p w w') (hg : g ≠ p) : Bk w' g cs := h.keep hb.size (hb.block g h.lt hg)
theorem Oth.below {B : Nat} (h : Oth p w w') (hB : B ≤ w.heap.size) (hp : B ≤ p) : Below B w w' := ⟨h.os, h.tape, h.output, h.size, fun k hk => h.block k (by omega) (by omega)⟩
end
def LnC (w : World) (lb : Nat) (Ls : List Gt) : Prop := ∀ j, j < Ls.length → w.cell? ⟨lb, j * 4, none⟩ = some (.int .i64 (Ls.getD j gz).k) ∧ w.cell? ⟨lb, j * 4 + 1, none⟩ = some (.int .i64 (Ls.getD j gz).a) ∧ w.cell? ⟨lb, j * 4 + 2, none⟩ = some (.int .i64 (Ls.getD j gz).b) ∧ w.cell? ⟨lb, j * 4 + 3, none⟩ = some (.int .i64 (Ls.getD j gz).c)
theorem LnC.keep {w w' : World} {lb : Nat} {Ls : List Gt} (h : LnC w lb Ls) (hk : w'.heap[lb]? = w.heap[lb]?) : LnC w' lb Ls := fun j hj => by
  obtain ⟨h1, h2, h3, h4⟩ := h j hj
  exact ⟨(World.cell?_of_block (a := ⟨lb, j * 4, none⟩) hk).trans h1, (World.cell?_of_block (a := ⟨lb, j * 4 + 1, none⟩) hk).trans h2, (World.cell?_of_block (a := ⟨lb, j * 4 + 2, none⟩) hk).trans h3, (World.cell?_of_block (a := ⟨lb, j * 4 + 3, none⟩) hk).trans h4⟩
theorem drop_g {l : List Gt} {k : Nat} (h : k < l.length) : l.drop k = l.getD k gz :: l.drop (k + 1) := by
  rw [List.drop_eq_getElem_cons h]
  simp [List.getD_eq_getElem?_getD, h]
structure Pts (w : World) (B : Nat) (e : TypeId) (t : PS) (v : Value) (cs : List Value) : Prop where
  own : w.ownsRow B e 10 v (pl t) cs
  rc : RC w (fun b => B ≤ b ∧ b < w.heap.size ∧ v.ownBlock ≠ some b) t cs
theorem own_lt {w : World} {B : Nat} {e : TypeId} {n sz : Nat} {v : Value} {xs : List Value} (h : w.ownsRow B e sz v n xs) {g : Nat} (hg : v.ownBlock = some g) : B ≤ g ∧ g < w.heap.size := by
  rcases h.2 with ⟨rfl, _⟩ | ⟨g', cap, cur, rfl, h1, h2, _⟩
  · cases hg
  · cases hg; exact ⟨h1, (Array.getElem?_eq_some_iff.1 h2).1⟩
theorem own_keep {w w' : World} {B : Nat} {e : TypeId} {n sz : Nat} {v : Value} {xs : List Value} (h : w.ownsRow B e sz v n xs) (hk : ∀ g, v.ownBlock = some g → w'.heap[g]? = w.heap[g]?) : w'.ownsRow B e sz v n xs := by
  refine ⟨h.1, ?_⟩
  rcases h.2 with h2 | ⟨g, cap, cur, rfl, hg, hh, r⟩
  · exact .inl h2
  · exact .inr ⟨g, cap, cur, rfl, hg, (hk g rfl).trans hh, r⟩
theorem Pts.oth {p : Nat} {w w' : World} {B : Nat} {e : TypeId} {t : PS} {v : Value} {cs : List Value} (h : Pts w B e t v cs) (ho : Oth p w w') (hp : p < B) : Pts w' B e t v cs :=
  ⟨own_keep h.own fun g hg => by
    obtain ⟨h1, h2⟩ := own_lt h.own hg
    exact ho.block g h2 (by omega), h.rc.keep fun b hb => ⟨⟨hb.1, Nat.lt_of_lt_of_le hb.2.1 ho.size, hb.2.2⟩, ho.block b hb.2.1 (by omega)⟩⟩
theorem Pts.nil (w : World) (e : TypeId) {B : Nat} (hB : B ≤ w.heap.size) : Pts (w.alloc (.cells #[] e)) B e .nil (.slice (some ⟨w.heap.size, 0, none⟩) 0 0) [] :=
  ⟨by exact World.ownsRow_made w #[] 0 hB (Nat.zero_le _) (by simp), rfl⟩
theorem Pts.snoc {w w0 w' : World} {B : Nat} {e : TypeId} {t u : PS} {v v' : Value} {cs us : List Value} (h : Pts w B e t v cs) (hu : RC w0 (fun b => w.heap.size ≤ b ∧ b < w0.heap.size) u us)
    (hk : ∀ k, B ≤ k → k < w.heap.size → w0.heap[k]? = w.heap[k]?) (hs : w.heap.size ≤ w0.heap.size) (hB : B ≤ w.heap.size)
    (hown : w'.ownsRow B e 10 v' (pl (app t u)) (cs ++ us)) (hg : w0.grownBy w' v.ownBlock) (hat : v'.ownBlock = v.ownBlock ∨ v'.ownBlock = some w0.heap.size) : Pts w' B e (app t u) v' (cs ++ us) := by
  have key : ∀ b, v'.ownBlock = some b → v.ownBlock = some b ∨ b = w0.heap.size := fun b hb => by
    rcases hat with hat | hat
    · exact .inl (hat ▸ hb)
    · rw [hat] at hb; cases hb; exact .inr rfl
  have hgs := hg.size
  refine ⟨hown, RC.app (hu.keep fun b hb => ?_) (h.rc.keep fun b hb => ?_)⟩
  · have hvb : v.ownBlock ≠ some b := fun hv => by have := own_lt h.own hv; omega
    refine ⟨⟨by omega, by omega, fun hv => ?_⟩, hg.block b hb.2 (fun e => hvb e.symm)⟩
    rcases key b hv with h1 | h1
    · exact hvb h1
    · omega
  · refine ⟨⟨hb.1, by omega, fun hv => ?_⟩, (hg.block b (by omega) (fun e => hb.2.2 e.symm)).trans (hk b hb.1 hb.2.1)⟩
    rcases key b hv with h1 | h1
    · exact hb.2.2 h1
    · omega
theorem Pts.tv {w : World} {B : Nat} {e : TypeId} {t : PS} {v : Value} {cs : List Value} (h : Pts w B e t v cs) : TV w (fun b => B ≤ b ∧ b < w.heap.size) t v := by
  obtain ⟨h1, h2⟩ := h
  have h2' := h2.keep (D' := fun b => B ≤ b ∧ b < w.heap.size) (w' := w) fun b hb => ⟨⟨hb.1, hb.2.1⟩, rfl⟩
  rcases h1.2 with ⟨rfl, h0⟩ | ⟨g, cap, cur, rfl, q1, q2, q3, q4, q5, q6⟩
  · exact ⟨none, 0, cs, by rw [h0], h2', fun hp => by omega⟩
  · refine ⟨some ⟨g, 0, none⟩, cap, cs, rfl, h2', fun _ => ⟨g, 0, rfl, ⟨q1, (Array.getElem?_eq_some_iff.1 q2).1⟩, fun j x hj => ?_⟩⟩
    rw [Nat.zero_add, cell_of_row w g j cur e (0, 0) q2]
    rw [← q6, List.getElem?_take] at hj
    split at hj
    · rw [← hj]; simp
    · cases hj
def elt : PS → Nat → PS
  | .nil, _ => .nil
  | .one l t, 0 => .one l .nil
  | .one l t, i + 1 => elt t i
  | .rep l e p t, 0 => .rep l e p .nil
  | .rep l e p t, i + 1 => elt t i
  | .iff l m e p q t, 0 => .iff l m e p q .nil
  | .iff l m e p q t, i + 1 => elt t i
def sfx : PS → Nat → PS
  | t, 0 => t
  | .nil, _ + 1 => .nil
  | .one l t, i + 1 => sfx t i
  | .rep l e p t, i + 1 => sfx t i
  | .iff l m e p q t, i + 1 => sfx t i
theorem sfx_zero (t : PS) : sfx t 0 = t := by cases t <;> rfl
theorem sfx_all : ∀ (t : PS), sfx t (pl t) = .nil
  | .nil => rfl
  | .one l t => sfx_all t
  | .rep l e p t => sfx_all t
  | .iff l m e p q t => sfx_all t
theorem sfx_elt : ∀ (t : PS) (i : Nat), i < pl t → sfx t i = app (elt t i) (sfx t (i + 1))
  | .nil, i, h => by cases h
  | .one l t, 0, h => by show PS.one l t = .one l (app .nil (sfx t 0)); rw [sfx_zero]; rfl
  | .one l t, i + 1, h => sfx_elt t i (by rw [pl] at h; omega)
  | .rep l e p t, 0, h => by show PS.rep l e p t = .rep l e p (app .nil (sfx t 0)); rw [sfx_zero]; rfl
  | .rep l e p t, i + 1, h => sfx_elt t i (by rw [pl] at h; omega)
  | .iff l m e p q t, 0, h => by show PS.iff l m e p q t = .iff l m e p q (app .nil (sfx t 0)); rw [sfx_zero]; rfl
  | .iff l m e p q t, i + 1, h => sfx_elt t i (by rw [pl] at h; omega)
theorem elt_wf : ∀ (t : PS) (i : Nat), wf t → wf (elt t i)
  | .nil, i, h => trivial
  | .one l t, 0, h => ⟨h.1, trivial⟩
  | .one l t, i + 1, h => elt_wf t i h.2
  | .rep l e p t, 0, h => ⟨h.1, h.2.1, trivial⟩
  | .rep l e p t, i + 1, h => elt_wf t i h.2.2
  | .iff l m e p q t, 0, h => ⟨h.1, h.2.1, h.2.2.1, trivial⟩
  | .iff l m e p q t, i + 1, h => elt_wf t i h.2.2.2
theorem elt_sub : ∀ (t : PS) (i : Nat), ∃ a b, fl t = a ++ (fl (elt t i) ++ b)
  | .nil, i => ⟨[], [], rfl⟩
  | .one l t, 0 => ⟨[], fl t, rfl⟩
  | .one l t, i + 1 => by obtain ⟨a, b, h⟩ := elt_sub t i; exact ⟨l :: a, b, by show l :: fl t = _; rw [h]; rfl⟩
  | .rep l e p t, 0 => ⟨[], fl t, by simp [fl, elt]⟩
  | .rep l e p t, i + 1 => by obtain ⟨a, b, h⟩ := elt_sub t i; exact ⟨l :: (fl p ++ e :: a), b, by show l :: (fl p ++ e :: fl t) = _; rw [h]; simp [elt]⟩
  | .iff l m e p q t, 0 => ⟨[], fl t, by simp [fl, elt]⟩
  | .iff l m e p q t, i + 1 => by obtain ⟨a, b, h⟩ := elt_sub t i; exact ⟨l :: (fl p ++ m :: (fl q ++ e :: a)), b, by show l :: (fl p ++ m :: (fl q ++ e :: fl t)) = _; rw [h]; simp [elt]⟩
theorem elt_len (t : PS) (i : Nat) : (fl (elt t i)).length ≤ (fl t).length := by
  obtain ⟨a, b, h⟩ := elt_sub t i
  rw [h]; simp; omega
theorem elt_lk {t : PS} (i : Nat) (h : lkA t) : lkA (elt t i) := by
  obtain ⟨a, b, he⟩ := elt_sub t i
  unfold lkA at *
  rw [he, List.all_append, List.all_append, Bool.and_eq_true, Bool.and_eq_true] at h
  exact h.2.1
theorem elt_rc {w : World} {D : Nat → Prop} : ∀ {t : PS} {cs : List Value} (i : Nat), RC w D t cs → i < pl t → RC w D (elt t i) ((cs.drop (i * 10)).take 10)
  | .nil, cs, i, _, h => by cases h
  | .one l t, cs, 0, ⟨cs', e, hr⟩, h => ⟨[], by rw [e]; simp, rfl⟩
  | .one l t, cs, i + 1, ⟨cs', e, hr⟩, h => by
    have h2 := elt_rc i hr (by rw [pl] at h; omega)
    rw [e, show (i + 1) * 10 = 10 + i * 10 by omega, ← List.drop_drop]
    exact h2
  | .rep l e p t, cs, 0, ⟨A, c, ps, cs', q, h1, h2, h3⟩, h => ⟨A, c, ps, [], by rw [q]; simp, h1, h2, rfl⟩
  | .rep l e p t, cs, i + 1, ⟨A, c, ps, cs', q, h1, h2, h3⟩, h => by
    have h4 := elt_rc i h3 (by rw [pl] at h; omega)
    rw [q, show (i + 1) * 10 = 10 + i * 10 by omega, ← List.drop_drop]
    exact h4
  | .iff l m e p q t, cs, 0, ⟨A, c, ps, A2, c2, qs, cs', qq, h1, h2, h3⟩, h => ⟨A, c, ps, A2, c2, qs, [], by rw [qq]; simp, h1, h2, rfl⟩
  | .iff l m e p q t, cs, i + 1, ⟨A, c, ps, A2, c2, qs, cs', qq, h1, h2, h3⟩, h => by
    have h4 := elt_rc i h3 (by rw [pl] at h; omega)
    rw [qq, show (i + 1) * 10 = 10 + i * 10 by omega, ← List.drop_drop]
    exact h4
theorem elt_cases : ∀ (t : PS) (i : Nat), i < pl t → (∃ l, elt t i = .one l .nil) ∨ (∃ l e p, elt t i = .rep l e p .nil) ∨ (∃ l m e p q, elt t i = .iff l m e p q .nil)
  | .nil, i, h => by cases h
  | .one l t, 0, h => .inl ⟨l, rfl⟩
  | .one l t, i + 1, h => elt_cases t i (by rw [pl] at h; omega)
  | .rep l e p t, 0, h => .inr (.inl ⟨l, e, p, rfl⟩)
  | .rep l e p t, i + 1, h => elt_cases t i (by rw [pl] at h; omega)
  | .iff l m e p q t, 0, h => .inr (.inr ⟨l, m, e, p, q, rfl⟩)
  | .iff l m e p q t, i + 1, h => elt_cases t i (by rw [pl] at h; omega)
def bl (m : Nat) : (k : Nat) → k ≤ m → List (Fin m)
  | 0, _ => []
  | k + 1, h => bl m k (Nat.le_of_succ_le h) ++ [⟨m - 1 - k, by omega⟩]
theorem bl_len (m : Nat) : ∀ (k : Nat) (h : k ≤ m), (bl m k h).length = k
  | 0, _ => rfl
  | k + 1, h => by rw [bl, List.length_append, bl_len m k]; rfl
def bkS (t : PS) {m : Nat} (l : List (Fin m)) : List Gt := (l.map fun x => fl (bk (elt t x.val))).flatten
theorem bkS_snoc (t : PS) {m : Nat} (l : List (Fin m)) (x : Fin m) : bkS t (l ++ [x]) = bkS t l ++ fl (bk (elt t x.val)) := by
  unfold bkS; simp
theorem bkS_bl (t : PS) : ∀ (k : Nat) (h : k ≤ pl t), bkS t (bl (pl t) k h) = fl (bk (sfx t (pl t - k)))
  | 0, h => by rw [Nat.sub_zero, sfx_all]; rfl
  | k + 1, h => by
    rw [bl, bkS_snoc, bkS_bl t k, sfx_elt t (pl t - (k + 1)) (by omega), bk_app, fl_app, show pl t - (k + 1) + 1 = pl t - k by omega]
    show _ ++ fl (bk (elt t (pl t - 1 - k))) = _
    rw [show pl t - 1 - k = pl t - (k + 1) by omega]
theorem bkS_all (t : PS) : bkS t (bl (pl t) (pl t) (Nat.le_refl _)) = fl (bk t) := by
  rw [bkS_bl, Nat.sub_self, sfx_zero]
theorem bkS_len {t : PS} (hw : wf t) (hl : lkA t) {m : Nat} : ∀ (l : List (Fin m)), (bkS t l).length ≤ l.length * (fl t).length
  | [] => Nat.zero_le _
  | x :: l => by
    have h1 := bkS_len hw hl l
    have h2 := (bk_ok (elt_wf t x.val hw) (elt_lk x.val hl)).2.2.1
    have h3 := elt_len t x.val
    have e : bkS t (x :: l) = fl (bk (elt t x.val)) ++ bkS t l := rfl
    rw [e, List.length_append, List.length_cons, Nat.add_mul]
    omega
abbrev cx (cs : List Value) (j o : Nat) : Value := cs.getD (j * 10 + o) undef
theorem cx_of {cs : List Value} {j : Nat} {y0 y1 y2 y3 y4 y5 y6 y7 y8 y9 : Value} (h : (cs.drop (j * 10)).take 10 = [y0, y1, y2, y3, y4, y5, y6, y7, y8, y9]) : cx cs j 0 = y0 ∧ cx cs j 1 = y1 ∧ cx cs j 2 = y2 ∧ cx cs j 3 = y3 ∧ cx cs j 4 = y4 ∧ cx cs j 5 = y5 ∧ cx cs j 6 = y6 ∧ cx cs j 7 = y7 ∧ cx cs j 8 = y8 ∧ cx cs j 9 = y9 := by
  have key : ∀ o, o < 10 → cx cs j o = [y0, y1, y2, y3, y4, y5, y6, y7, y8, y9].getD o undef := fun o ho => by
    show cs.getD (j * 10 + o) undef = _
    rw [← h, List.getD_eq_getElem?_getD, List.getD_eq_getElem?_getD, List.getElem?_take_of_lt ho, List.getElem?_drop]
  exact ⟨key 0 (by omega), key 1 (by omega), key 2 (by omega), key 3 (by omega), key 4 (by omega), key 5 (by omega), key 6 (by omega), key 7 (by omega), key 8 (by omega), key 9 (by omega)⟩
theorem elt_one {w : World} {D : Nat → Prop} {t : PS} {cs : List Value} {i : Nat} {l : Gt} (h : RC w D t cs) (hi : i < pl t) (he : elt t i = .one l .nil) : (cs.drop (i * 10)).take 10 = [.int .i64 l.k, .int .i64 l.a, .int .i64 l.b, .int .i64 l.c, vNil, vNil, .int .i64 0, .int .i64 0, .int .i64 0, .int .i64 0] := by
  have := elt_rc i h hi
  rw [he] at this
  obtain ⟨cs', e, hr⟩ := this
  rw [e, show cs' = [] from hr]; rfl
theorem elt_rep {w : World} {D : Nat → Prop} {t p : PS} {cs : List Value} {i : Nat} {l e : Gt} (h : RC w D t cs) (hi : i < pl t) (he : elt t i = .rep l e p .nil) : ∃ A c, (cs.drop (i * 10)).take 10 = [.int .i64 l.k, .int .i64 l.a, .int .i64 l.b, .int .i64 l.c, .slice A (pl p) c, vNil, .int .i64 e.k, .int .i64 e.a, .int .i64 e.b, .int .i64 e.c] ∧ TV w D p (.slice A (pl p) c) := by
  have := elt_rc i h hi
  rw [he] at this
  obtain ⟨A, c, ps, cs', q, h1, h2, h3⟩ := this
  exact ⟨A, c, by rw [q, show cs' = [] from h3]; rfl, A, c, ps, rfl, h1, h2⟩
theorem elt_iff {w : World} {D : Nat → Prop} {t p q : PS} {cs : List Value} {i : Nat} {l m e : Gt} (h : RC w D t cs) (hi : i < pl t) (he : elt t i = .iff l m e p q .nil) : ∃ A c A2 c2, (cs.drop (i * 10)).take 10 = [.int .i64 l.k, .int .i64 l.a, .int .i64 l.b, .int .i64 l.c, .slice A (pl p) c, .slice A2 (pl q) c2, .int .i64 e.k, .int .i64 e.a, .int .i64 e.b, .int .i64 e.c] ∧ TV w D p (.slice A (pl p) c) ∧ TV w D q (.slice A2 (pl q) c2) := by
  have := elt_rc i h hi
  rw [he] at this
  obtain ⟨A, c, ps, A2, c2, qs, cs', qq, h1, h2, h3⟩ := this
  exact ⟨A, c, A2, c2, by rw [qq, show cs' = [] from h3]; rfl, ⟨A, c, ps, rfl, h1.1, h1.2⟩, ⟨A2, c2, qs, rfl, h2.1, h2.2⟩⟩
theorem cx_shape {w : World} {D : Nat → Prop} {t : PS} {cs : List Value} {i : Nat} (h : RC w D t cs) (hi : i < pl t) : ∃ (l e : Gt) (A1 : Option Addr) (n1 c1 : Nat) (A2 : Option Addr) (n2 c2 : Nat), cx cs i 0 = .int .i64 l.k ∧ cx cs i 1 = .int .i64 l.a ∧ cx cs i 2 = .int .i64 l.b ∧ cx cs i 3 = .int .i64 l.c ∧ cx cs i 4 = .slice A1 n1 c1 ∧ cx cs i 5 = .slice A2 n2 c2 ∧ cx cs i 6 = .int .i64 e.k ∧ cx cs i 7 = .int .i64 e.a ∧ cx cs i 8 = .int .i64 e.b ∧ cx cs i 9 = .int .i64 e.c := by
  rcases elt_cases t i hi with ⟨l, he⟩ | ⟨l, e, p, he⟩ | ⟨l, m, e, p, q, he⟩
  · exact ⟨l, gz, _, _, _, _, _, _, cx_of (elt_one h hi he)⟩
  · obtain ⟨A, c, h1, _⟩ := elt_rep h hi he
    exact ⟨l, e, _, _, _, _, _, _, cx_of h1⟩
  · obtain ⟨A, c, A2, c2, h1, _⟩ := elt_iff h hi he
    exact ⟨l, e, _, _, _, _, _, _, cx_of h1⟩
end Go.Proofs.Ytgjnnlgeggamjaa
namespace Go.Proofs.Ytgjnnlgeggamjaa
set_option linter.unusedVariables false
set_option linter.unusedSimpArgs false
open Go.RowKit Go.Shelf
attribute [local go_sem] Oper.semAt_some
abbrev elv (cs : List Value) (j : Nat) : Value := .agg #[cx cs j 0, cx cs j 1, cx cs j 2, cx cs j 3, cx cs j 4, cx cs j 5, cx cs j 6, cx cs j 7, cx cs j 8, cx cs j 9]
def KD (D : Nat → Prop) (Bs : Nat) (W W' : World) : Prop := (∀ b, D b → W'.heap[b]? = W.heap[b]?) ∧ ∀ v, Boxed W Bs 51 v → Boxed W' Bs 51 v
theorem KD.refl (D : Nat → Prop) (Bs : Nat) (W : World) : KD D Bs W W := ⟨fun _ _ => rfl, fun _ h => h⟩
theorem KD.trans {D : Nat → Prop} {Bs : Nat} {A B C : World} (h : KD D Bs A B) (k : KD D Bs B C) : KD D Bs A C := ⟨fun b hb => (k.1 b hb).trans (h.1 b hb), fun v b => k.2 v (h.2 v b)⟩
set_option maxRecDepth 100000 in
set_option maxHeartbeats 4000000 in
theorem bwb_in (F : Fence) (n : Nat) (h7 : F.fn 72) (hro : F.round = none) (hn : 1 ≤ n) (l Bs b off m cap : Nat) (D : Nat → Prop) (cs : List Value) (hm : m ≤ 1000) (hb : D b) (hlen : cs.length = m * 10) (J Jx : List (Fin m) → World → Prop)
    (hY : ∀ pre x W, J pre W → pre.length < m → YieldAt F (n - 1) Try.prog l #[.int .i64 (x.val : Int), elv cs x.val] W fun e W' =>
      (e = .returned (.bool true) ∧ J (pre ++ [x]) W' ∧ KD D Bs W W') ∨ (e = .returned (.bool false) ∧ Jx (pre ++ [x]) W'))
    (W : World) (hBs : Boxed W Bs 51 (.slice (some ⟨b, off, none⟩) m cap)) (hc : Cells W b off cs) (h0 : J [] W) :
    CallsIn F n Try.prog 72 #[.func (.yield l) #[] #[], .pointer (some ⟨Bs, 0, none⟩)] W fun e W' => (∃ v, e = .returned v) ∧
      ((∃ ys, ys = bl m m (Nat.le_refl _) ∧ J ys W') ∨ (∃ pre, (∃ k, ∃ h : k ≤ m, pre = bl m k h) ∧ Jx pre W')) := by
  refine callsIn_of_wp Try.func72 rfl h7 ?_ hro
  simp only [Try.ntmps72, List.size_toArray, List.length_cons, List.length_nil, Nat.reduceAdd, Nat.reduceSub, Array.replicate_succ, Array.replicate_zero, List.push_toArray, List.append_toArray, List.nil_append, List.cons_append]
  have hBs0 := hBs.cell
  gi_wp2
  gi_loopw [3] (fun i wr => ∃ k : Nat, ∃ hk : k ≤ m, i = .int .i64 ((m : Int) - 1 - k) ∧ J (bl m k hk) wr ∧ KD D Bs W wr)
    (fun i _ => (intOf i + 1).toNat)
  case atStart => exact ⟨0, Nat.zero_le _, by simp, h0, KD.refl _ _ _⟩
  case round =>
    obtain ⟨k, hk, rfl, hJs, hnx⟩ := hrel
    have hBs' := (hnx.2 _ hBs).cell
    by_cases hlt : k < m
    · have hyY := hY _ ⟨m - 1 - k, by omega⟩ wr hJs (by rw [bl_len]; exact hlt)
      obtain ⟨q, hq⟩ : ∃ q : Nat, m - 1 - k = q := ⟨_, rfl⟩
      have hq2 : (m : Int) - 1 - k = (q : Int) := by omega
      have hcw : ∀ o, o < 10 → wr.cell? ⟨b, off + q * 10 + o, none⟩ = some (cx cs q o) := fun o ho => by
        have hj : q * 10 + o < cs.length := by rw [hlen]; omega
        have h2 := hc (q * 10 + o) (cs.getD (q * 10 + o) undef) (by simp [List.getD_eq_getElem?_getD, hj])
        rw [show off + q * 10 + o = off + (q * 10 + o) by omega]
        exact (World.cell?_of_block (a := ⟨b, off + (q * 10 + o), none⟩) (hnx.1 b hb)).trans h2
      obtain ⟨fn, tmps, assign, body, hy, hR⟩ := hyY
      dsimp only at hy
      rw [hq] at hy
      have c0 := hcw 0 (by omega)
      have c1 := hcw 1 (by omega)
      have c2 := hcw 2 (by omega)
      have c3 := hcw 3 (by omega)
      have c4 := hcw 4 (by omega)
      have c5 := hcw 5 (by omega)
      have c6 := hcw 6 (by omega)
      have c7 := hcw 7 (by omega)
      have c8 := hcw 8 (by omega)
      have c9 := hcw 9 (by omega)
      rw [Nat.add_zero] at c0
      unfold elv at hy
      generalize cx cs q 0 = x0 at *
      generalize cx cs q 1 = x1 at *
      generalize cx cs q 2 = x2 at *
      generalize cx cs q 3 = x3 at *
      generalize cx cs q 4 = x4 at *
      generalize cx cs q 5 = x5 at *
      generalize cx cs q 6 = x6 at *
      generalize cx cs q 7 = x7 at *
      generalize cx cs q 8 = x8 at *
      generalize cx cs q 9 = x9 at *
      clear hcw hlen hc
      rw [hq2]
      gi_wp2
      refine hR.mono ?_
      rintro e W3 (⟨rfl, hJ3, hk3⟩ | ⟨rfl, hJx3⟩)
      · gi_wp2
        go_roundw
        case rel => exact ⟨k + 1, hlt, by simp; omega, hJ3, hnx.trans hk3⟩
        case measure => simp [intOf]
      · gi_wp2
        refine bodyPost_ret (results_none rfl _ _ _) rfl ?_
        exact ⟨⟨_, rfl⟩, .inr ⟨_, ⟨k + 1, hlt, rfl⟩, hJx3⟩⟩
    · obtain rfl : k = m := by omega
      rw [show (k : Int) - 1 - k = -1 by omega]
      gi_wp2
      go_end0
      exact ⟨⟨_, rfl⟩, .inl ⟨_, rfl, hJs⟩⟩
set_option maxRecDepth 100000 in
set_option maxHeartbeats 1000000 in
theorem bwb_nil (F : Fence) (n : Nat) (h7 : F.fn 72) (hro : F.round = none) (l Bs cap : Nat) (A : Option Addr) (J : List (Fin 0) → World → Prop) (W : World) (hBs : W.cell? ⟨Bs, 0, none⟩ = some (.slice A 0 cap)) (h0 : J [] W) :
    CallsIn F n Try.prog 72 #[.func (.yield l) #[] #[], .pointer (some ⟨Bs, 0, none⟩)] W fun e W' => (∃ v, e = .returned v) ∧ J [] W' := by
  refine callsIn_of_wp Try.func72 rfl h7 ?_ hro
  simp only [Try.ntmps72, List.size_toArray, List.length_cons, List.length_nil, Nat.reduceAdd, Nat.reduceSub, Array.replicate_succ, Array.replicate_zero, List.push_toArray, List.append_toArray, List.nil_append, List.cons_append]
  gi_wp2
  gi_loopw [3] (fun i wr => i = .int .i64 (-1) ∧ J [] wr) (fun _ _ => 0)
  case atStart => exact ⟨rfl, h0⟩
  case round =>
    obtain ⟨rfl, hJs⟩ := hrel
    gi_wp2
    go_end0
    exact ⟨⟨_, rfl⟩, hJs⟩
set_option maxHeartbeats 1000000 in
theorem bwb_fn (F : Fence) (n : Nat) (h5 : F.fn 59) (hro : F.round = none) (a : Option Addr) (len cap : Nat) (w : World) :
    CallsIn F n Try.prog 59 #[.slice a len cap] w fun e w' => e = .returned (.func (.func 72) #[] #[.pointer (some ⟨w.heap.size, 0, none⟩)]) ∧ w' = w.alloc (.cells #[.slice a len cap] 51) := by
  refine callsIn_of_wp Try.func59 rfl h5 ?_ hro
  simp only [Try.ntmps59, List.size_toArray, List.length_cons, List.length_nil, Nat.reduceAdd, Nat.reduceSub, Array.replicate_succ, Array.replicate_zero, List.push_toArray, List.append_toArray, List.nil_append, List.cons_append]
  gi_wp2
  go_ret
  exact ⟨rfl, rfl⟩
theorem bwb_stops (F : Fence) (n : Nat) (h7 : F.fn 72) (hro : F.round = none) (hn : 1 ≤ n) (Bs : Nat) (D : Nat → Prop) (A : Option Addr) (m cap : Nat) (cs : List Value) (hm : m ≤ 1000) (hlen : cs.length = m * 10) (w : World) (hBs : Boxed w Bs 51 (.slice A m cap)) (hD : ∀ b, D b → b < w.heap.size) (hc : 0 < m → ∃ b off, A = some ⟨b, off, none⟩ ∧ D b ∧ Cells w b off cs) :
    SeqStopsK F n Try.prog 72 #[.pointer (some ⟨Bs, 0, none⟩)] (fun x : Fin m => #[.int .i64 (x.val : Int), elv cs x.val]) (KD D Bs) (fun ys => ys = bl m m (Nat.le_refl _)) (fun pre => ∃ k, ∃ h : k ≤ m, pre = bl m k h) m w := fun l J Jx W hW _ _ hY h0 => by
  have hb : Boxed W Bs _ _ := (hW.block Bs hBs.lt).trans hBs
  rcases Nat.eq_zero_or_pos m with h | h
  · subst h
    exact (bwb_nil F n h7 hro l Bs cap A J W hb.cell h0).mono fun e W' ⟨he, hj⟩ => ⟨he, .inl ⟨_, rfl, hj⟩⟩
  · obtain ⟨b, off, rfl, hDb, hcs⟩ := hc h
    exact bwb_in F n h7 hro hn l Bs b off m cap D cs hm hDb hlen J Jx hY W hb (hcs.keep (hW.block b (hD b hDb))) h0
end Go.Proofs.Ytgjnnlgeggamjaa
