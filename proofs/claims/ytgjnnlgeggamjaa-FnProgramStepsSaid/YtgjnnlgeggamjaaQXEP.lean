/- TRA: laid into one text. -/
import Derived.Test.YtgjnnlgeggamjaaQXEA
import Derived.Test.YtgjnnlgeggamjaaQXEE
import Derived.Test.YtgjnnlgeggamjaaQXEG

namespace Go.Proofs.Ytgjnnlgeggamjaa
set_option linter.unusedVariables false
set_option linter.unusedSimpArgs false
open Go.RowKit
def pl : PS → Nat
  | .nil => 0
  | .one _ t => pl t + 1
  | .rep _ _ _ t => pl t + 1
  | .iff _ _ _ _ _ t => pl t + 1
theorem pl_app (b : PS) : ∀ a, pl (app a b) = pl a + pl b
  | .nil => (Nat.zero_add _).symm
  | .one l t => by rw [app, pl, pl, pl_app b t]; omega
  | .rep l e p t => by rw [app, pl, pl, pl_app b t]; omega
  | .iff l m e p q t => by rw [app, pl, pl, pl_app b t]; omega
theorem pl_fl : ∀ t, pl t ≤ (fl t).length
  | .nil => Nat.le_refl _
  | .one l t => by have := pl_fl t; rw [pl, fl, List.length_cons]; omega
  | .rep l e p t => by have := pl_fl t; rw [pl, fl, List.length_cons, List.length_append, List.length_cons]; omega
  | .iff l m e p q t => by have := pl_fl t; rw [pl, fl, List.length_cons, List.length_append, List.length_cons, List.length_append, List.length_cons]; omega
abbrev lC (g : Gt) : List Value := [.int .i64 g.k, .int .i64 g.a, .int .i64 g.b, .int .i64 g.c]
abbrev vNil : Value := .slice none 0 0
def RC (w : World) (D : Nat → Prop) : PS → List Value → Prop
  | .nil, cs => cs = []
  | .one l t, cs => ∃ cs', cs = lC l ++ (vNil :: vNil :: (lC gz ++ cs')) ∧ RC w D t cs'
  | .rep l e p t, cs => ∃ A c ps cs', cs = lC l ++ (.slice A (pl p) c :: vNil :: (lC e ++ cs')) ∧ RC w D p ps ∧ (0 < pl p → ∃ b off, A = some ⟨b, off, none⟩ ∧ D b ∧ Cells w b off ps) ∧ RC w D t cs'
  | .iff l m e p q t, cs => ∃ A c ps A2 c2 qs cs', cs = lC l ++ (.slice A (pl p) c :: .slice A2 (pl q) c2 :: (lC e ++ cs')) ∧ (RC w D p ps ∧ (0 < pl p → ∃ b off, A = some ⟨b, off, none⟩ ∧ D b ∧ Cells w b off ps)) ∧ (RC w D q qs ∧ (0 < pl q → ∃ b off, A2 = some ⟨b, off, none⟩ ∧ D b ∧ Cells w b off qs)) ∧ RC w D t cs'
def TV (w : World) (D : Nat → Prop) (t : PS) (v : Value) : Prop := ∃ A c ps, v = .slice A (pl t) c ∧ RC w D t ps ∧ (0 < pl t → ∃ b off, A = some ⟨b, off, none⟩ ∧ D b ∧ Cells w b off ps)
theorem RC.keep {w w' : World} {D D' : Nat → Prop} (h : ∀ b, D b → D' b ∧ w'.heap[b]? = w.heap[b]?) : ∀ {t : PS} {cs : List Value}, RC w D t cs → RC w' D' t cs
  | .nil, cs, hr => hr
  | .one l t, cs, ⟨cs', e, hr⟩ => ⟨cs', e, RC.keep h hr⟩
  | .rep l e p t, cs, ⟨A, c, ps, cs', q, h1, h2, h3⟩ => ⟨A, c, ps, cs', q, RC.keep h h1, fun h0 => by
      obtain ⟨b, off, e1, e2, e3⟩ := h2 h0
      exact ⟨b, off, e1, (h b e2).1, e3.keep (h b e2).2⟩, RC.keep h h3⟩
  | .iff l m e p q t, cs, ⟨A, c, ps, A2, c2, qs, cs', qq, ⟨h1, h2⟩, ⟨h4, h5⟩, h3⟩ => ⟨A, c, ps, A2, c2, qs, cs', qq, ⟨RC.keep h h1, fun h0 => by
      obtain ⟨b, off, e1, e2, e3⟩ := h2 h0
      exact ⟨b, off, e1, (h b e2).1, e3.keep (h b e2).2⟩⟩, ⟨RC.keep h h4, fun h0 => by
      obtain ⟨b, off, e1, e2, e3⟩ := h5 h0
      exact ⟨b, off, e1, (h b e2).1, e3.keep (h b e2).2⟩⟩, RC.keep h h3⟩
theorem TV.keep {w w' : World} {D D' : Nat → Prop} (h : ∀ b, D b → D' b ∧ w'.heap[b]? = w.heap[b]?) {t : PS} {v : Value} : TV w D t v → TV w' D' t v
  | ⟨A, c, ps, e, h1, h2⟩ => ⟨A, c, ps, e, RC.keep h h1, fun h0 => by
      obtain ⟨b, off, e1, e2, e3⟩ := h2 h0
      exact ⟨b, off, e1, (h b e2).1, e3.keep (h b e2).2⟩⟩
theorem RC.len {w : World} {D : Nat → Prop} : ∀ {t : PS} {cs : List Value}, RC w D t cs → cs.length = pl t * 10
  | .nil, cs, hr => by rw [show cs = [] from hr]; rfl
  | .one l t, cs, ⟨cs', e, hr⟩ => by
    have := RC.len hr
    rw [e, pl]; simp; omega
  | .rep l e p t, cs, ⟨A, c, ps, cs', q, h1, h2, h3⟩ => by
    have := RC.len h3
    rw [q, pl]; simp; omega
  | .iff l m e p q t, cs, ⟨A, c, ps, A2, c2, qs, cs', qq, ⟨h1, h2⟩, ⟨h4, h5⟩, h3⟩ => by
    have := RC.len h3
    rw [qq, pl]; simp; omega
theorem RC.app {w : World} {D : Nat → Prop} {b : PS} {ys : List Value} (hb : RC w D b ys) : ∀ {a : PS} {xs : List Value}, RC w D a xs → RC w D (app a b) (xs ++ ys)
  | .nil, xs, hr => by rw [show xs = [] from hr]; exact hb
  | .one l t, xs, ⟨cs', e, hr⟩ => ⟨cs' ++ ys, by rw [e]; simp, RC.app hb hr⟩
  | .rep l e p t, xs, ⟨A, c, ps, cs', q, h1, h2, h3⟩ => ⟨A, c, ps, cs' ++ ys, by rw [q]; simp, h1, h2, RC.app hb h3⟩
  | .iff l m e p q t, xs, ⟨A, c, ps, A2, c2, qs, cs', qq, h1, h2, h3⟩ => ⟨A, c, ps, A2, c2, qs, cs' ++ ys, by rw [qq]; simp, h1, h2, RC.app hb h3⟩
structure Oth (p : Nat) (w w' : World) : Prop where
  os : w'.os = w.os
  tape : w'.tape = w.tape
  output : w'.output = w.output
  size : w.heap.size ≤ w'.heap.size
  block : ∀ k, k < w.heap.size → k ≠ p → w'.heap[k]? = w.heap[k]?
section
variable {p : Nat} {a w w' : World}
theorem Oth.refl (p : Nat) (w : World) : Oth p w w := ⟨rfl, rfl, rfl, Nat.le_refl _, fun _ _ _ => rfl⟩
theorem Oth.trans (h : Oth p a w) (k : Oth p w w') : Oth p a w' := ⟨k.os.trans h.os, k.tape.trans h.tape, k.output.trans h.output, Nat.le_trans h.size k.size, fun i hi hp => (k.block i (Nat.lt_of_lt_of_le hi h.size) hp).trans (h.block i hi hp)⟩
theorem Oth.setCell (h : Oth p a w) {q : Addr} (hq : q.block = p) (u : Value) : Oth p a (w.setCell q u) :=
  ⟨h.os, h.tape, h.output, Nat.le_trans h.size (by simp [World.setCell]), fun k hk hp => (Below.heap_setCell w q u k (by rw [hq]; exact hp)).trans (h.block k hk hp)⟩
theorem Oth.setNew (h : Oth p a w) {q : Addr} (hq : a.heap.size ≤ q.block) (u : Value) : Oth p a (w.setCell q u) :=
  ⟨h.os, h.tape, h.output, Nat.le_trans h.size (by simp [World.setCell]), fun k hk hp => (Below.heap_setCell w q u k (by omega)).trans (h.block k hk hp)⟩
theorem Oth.alloc (h : Oth p a w) (o : Obj) : Oth p a (w.alloc o) :=
  ⟨h.os, h.tape, h.output, Nat.le_trans h.size (by simp), fun k hk hp => (Below.heap_alloc w o k (Nat.lt_of_lt_of_le hk h.size)).trans (h.block k hk hp)⟩
theorem Oth.drew (h : Oth p a w) : Oth p a w.drew := ⟨h.os, h.tape, h.output, h.size, h.block⟩
theorem Oth.grown (h : Oth p a w) {row : Option Nat} (hg : w.grownBy w' row) (hr : ∀ r, row = some r → a.heap.size ≤ r) : Oth p a w' :=
  ⟨hg.os.trans h.os, hg.tape.trans h.tape, hg.output.trans h.output, Nat.le_trans h.size hg.size, fun k hk hp => (hg.block k (Nat.lt_of_lt_of_le hk h.size) (fun e => by have := hr k e.symm; omega)).trans (h.block k hk hp)⟩
theorem Bk.oth {g : Nat} {cs : Array Value} (h : Bk w g cs) (hb : Oth p w w') (hg : g ≠ p) : Bk w' g cs := h.keep hb.size (hb.block g h.lt hg)
theorem Oth.below {B : Nat} (h : Oth p w w') (hB : B ≤ w.heap.size) (hp : B ≤ p) : Below B w w' := ⟨h.os, h.tape, h.output, h.size, fun k hk => h.block k (by omega) (by omega)⟩
end
def LnC (w : World) (lb : Nat) (Ls : List Gt) : Prop := ∀ j, j < Ls.length → w.cell? ⟨lb, j * 4, none⟩ = some (.int .i64 (Ls.getD j gz).k) ∧ w.cell? ⟨lb, j * 4 + 1, none⟩ = some (.int .i64 (Ls.getD j gz).a) ∧ w.cell? ⟨lb, j * 4 + 2, none⟩ = some (.int .i64 (Ls.getD j gz).b) ∧ w.cell? ⟨lb, j * 4 + 3, none⟩ = some (.int .i64 (Ls.getD j gz).c)
theorem LnC.keep {w w' : World} {lb : Nat} {Ls : List Gt} (h : LnC w lb Ls) (hk : w'.heap[lb]? = w.heap[lb]?) : LnC w' lb Ls := fun j hj => by
  obtain ⟨h1, h2, h3, h4⟩ := h j hj
  exact ⟨(World.cell?_of_block (a := ⟨lb, j * 4, none⟩) hk).trans h1, (World.cell?_of_block (a := ⟨lb, j * 4 + 1, none⟩) hk).trans h2, (World.cell?_of_block (a := ⟨lb, j * 4 + 2, none⟩) hk).trans h3, (World.cell?_of_block (a := ⟨lb, j * 4 + 3, none⟩) hk).trans h4⟩
theorem drop_g {l : List Gt} {k : Nat} (h : k < l.length) : l.drop k = l.getD k gz :: l.drop (k + 1) := by
  rw [List.drop_eq_getElem_cons h]
  simp [List.getD_eq_getElem?_getD, h]
structure Pts (w : World) (B : Nat) (e : TypeId) (t : PS) (v : Value) (cs : List Value) : Prop where
  own : w.ownsRow B e 10 v (pl t) cs
  rc : RC w (fun b => B ≤ b ∧ b < w.heap.size ∧ v.ownBlock ≠ some b) t cs
theorem own_lt {w : World} {B : Nat} {e : TypeId} {n sz : Nat} {v : Value} {xs : List Value} (h : w.ownsRow B e sz v n xs) {g : Nat} (hg : v.ownBlock = some g) : B ≤ g ∧ g < w.heap.size := by
  rcases h.2 with ⟨rfl, _⟩ | ⟨g', cap, cur, rfl, h1, h2, _⟩
  · cases hg
  · cases hg; exact ⟨h1, (Array.getElem?_eq_some_iff.1 h2).1⟩
theorem own_keep {w w' : World} {B : Nat} {e : TypeId} {n sz : Nat} {v : Value} {xs : List Value} (h : w.ownsRow B e sz v n xs) (hk : ∀ g, v.ownBlock = some g → w'.heap[g]? = w.heap[g]?) : w'.ownsRow B e sz v n xs := by
  refine ⟨h.1, ?_⟩
  rcases h.2 with h2 | ⟨g, cap, cur, rfl, hg, hh, r⟩
  · exact .inl h2
  · exact .inr ⟨g, cap, cur, rfl, hg, (hk g rfl).trans hh, r⟩
theorem Pts.oth {p : Nat} {w w' : World} {B : Nat} {e : TypeId} {t : PS} {v : Value} {cs : List Value} (h : Pts w B e t v cs) (ho : Oth p w w') (hp : p < B) : Pts w' B e t v cs :=
  ⟨own_keep h.own fun g hg => by
    obtain ⟨h1, h2⟩ := own_lt h.own hg
    exact ho.block g h2 (by omega), h.rc.keep fun b hb => ⟨⟨hb.1, Nat.lt_of_lt_of_le hb.2.1 ho.size, hb.2.2⟩, ho.block b hb.2.1 (by omega)⟩⟩
theorem Pts.nil (w : World) (e : TypeId) {B : Nat} (hB : B ≤ w.heap.size) : Pts (w.alloc (.cells #[] e)) B e .nil (.slice (some ⟨w.heap.size, 0, none⟩) 0 0) [] :=
  ⟨by exact World.ownsRow_made w #[] 0 hB (Nat.zero_le _) (by simp), rfl⟩
theorem Pts.snoc {w w0 w' : World} {B : Nat} {e : TypeId} {t u : PS} {v v' : Value} {cs us : List Value} (h : Pts w B e t v cs) (hu : RC w0 (fun b => w.heap.size ≤ b ∧ b < w0.heap.size) u us)
    (hk : ∀ k, B ≤ k → k < w.heap.size → w0.heap[k]? = w.heap[k]?) (hs : w.heap.size ≤ w0.heap.size) (hB : B ≤ w.heap.size)
    (hown : w'.ownsRow B e 10 v' (pl (app t u)) (cs ++ us)) (hg : w0.grownBy w' v.ownBlock) (hat : v'.ownBlock = v.ownBlock ∨ v'.ownBlock = some w0.heap.size) : Pts w' B e (app t u) v' (cs ++ us) := by
  have key : ∀ b, v'.ownBlock = some b → v.ownBlock = some b ∨ b = w0.heap.size := fun b hb => by
    rcases hat with hat | hat
    · exact .inl (hat ▸ hb)
    · rw [hat] at hb; cases hb; exact .inr rfl
  have hgs := hg.size
  refine ⟨hown, RC.app (hu.keep fun b hb => ?_) (h.rc.keep fun b hb => ?_)⟩
  · have hvb : v.ownBlock ≠ some b := fun hv => by have := own_lt h.own hv; omega
    refine ⟨⟨by omega, by omega, fun hv => ?_⟩, hg.block b hb.2 (fun e => hvb e.symm)⟩
    rcases key b hv with h1 | h1
    · exact hvb h1
    · omega
  · refine ⟨⟨hb.1, by omega, fun hv => ?_⟩, (hg.block b (by omega) (fun e => hb.2.2 e.symm)).trans (hk b hb.1 hb.2.1)⟩
    rcases key b hv with h1 | h1
    · exact hb.2.2 h1
    · omega
theorem Pts.tv {w : World} {B : Nat} {e : TypeId} {t : PS} {v : Value} {cs : List Value} (h : Pts w B e t v cs) : TV w (fun b => B ≤ b ∧ b < w.heap.size) t v := by
  obtain ⟨h1, h2⟩ := h
  have h2' := h2.keep (D' := fun b => B ≤ b ∧ b < w.heap.size) (w' := w) fun b hb => ⟨⟨hb.1, hb.2.1⟩, rfl⟩
  rcases h1.2 with ⟨rfl, h0⟩ | ⟨g, cap, cur, rfl, q1, q2, q3, q4, q5, q6⟩
  · exact ⟨none, 0, cs, by rw [h0], h2', fun hp => by omega⟩
  · refine ⟨some ⟨g, 0, none⟩, cap, cs, rfl, h2', fun _ => ⟨g, 0, rfl, ⟨q1, (Array.getElem?_eq_some_iff.1 q2).1⟩, fun j x hj => ?_⟩⟩
    rw [Nat.zero_add, cell_of_row w g j cur e (0, 0) q2]
    rw [← q6, List.getElem?_take] at hj
    split at hj
    · rw [← hj]; simp
    · cases hj
end Go.Proofs.Ytgjnnlgeggamjaa
