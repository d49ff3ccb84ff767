/- TRU: laid into one text. -/
import Derived.Test.YtgjnnlgeggamjaaQXDE
import Derived.Test.YtgjnnlgeggamjaaQXDJ
import Derived.Test.YtgjnnlgeggamjaaQXDN
import Derived.Test.YtgjnnlgeggamjaaQXDP

namespace Go.Proofs.Ytgjnnlgeggamjaa
set_option linter.unusedVariables false
set_option linter.unusedSimpArgs false
open Go.RowKit Go.Shelf
attribute [local go_sem] Oper.semAt_some
def BI (w : World) (Bs B : Nat) (pv ov : Value) (L : List Gt) (W : World) : Prop :=
  (∃ v, Boxed W w.heap.size 24 v ∧ W.ownsRow B 47 4 v L.length (cV L) ∧ (v.ownBlock = ov.ownBlock ∨ ∃ g, v.ownBlock = some g ∧ w.heap.size ≤ g)) ∧ Boxed W Bs 51 pv ∧
  (W.os = w.os ∧ W.tape = w.tape ∧ W.output = w.output ∧ w.heap.size ≤ W.heap.size ∧ ∀ k, k < w.heap.size → ov.ownBlock ≠ some k → W.heap[k]? = w.heap[k]?)
theorem cells_kept {X Y : World} {row : Option Nat} {B : Nat} {cs : Array Value} {t : TypeId} {fz : Nat × Nat} (h : X.heap[B]? = some (.cells cs t fz)) (hg : X.grownBy Y row) (hr : ∀ r, row = some r → ∃ o : Obj, X.heap[r]? = some o ∧ o.isCells = false) : Y.heap[B]? = some (.cells cs t fz) :=
  (hg.block B (Array.getElem?_eq_some_iff.1 h).1 (fun e => by obtain ⟨o, h1, h2⟩ := hr B e.symm; rw [h] at h1; cases h1; cases h2)).trans h
theorem own_kept {X Y : World} {row : Option Nat} {B e sz n : Nat} {v : Value} {xs : List Value} (h : X.ownsRow B e sz v n xs) (hg : X.grownBy Y row) (hr : ∀ r, row = some r → ∃ o : Obj, X.heap[r]? = some o ∧ o.isCells = false) : Y.ownsRow B e sz v n xs := by
  refine ⟨h.1, ?_⟩
  rcases h.2 with h2 | ⟨g, cap, cu, rfl, h1, h2, h3⟩
  · exact .inl h2
  · exact .inr ⟨g, cap, cu, rfl, h1, cells_kept h2 hg hr, h3⟩
theorem BI.own {β : Type} {w : World} {Bs B B' : Nat} {pv ov : Value} (f : β → List Gt) (hB : w.heap.size ≤ B') : OwnFrom B' (fun s W => BI w Bs B pv ov (f s) W) := by
  rintro s X Y row ⟨⟨v, h1, h2, h3⟩, h4, h5, h6, h7, h8, h9⟩ hg hr
  have hr2 := fun r e => (hr r e).2
  refine ⟨⟨v, cells_kept h1 hg hr2, own_kept h2 hg hr2, h3⟩, cells_kept h4 hg hr2, hg.os.trans h5, hg.tape.trans h6, hg.output.trans h7, Nat.le_trans h8 hg.size, fun k hk ho => (hg.block k (by omega) (fun e => ?_)).trans (h9 k hk ho)⟩
  have := (hr k e.symm).1
  omega
theorem BI.region {w W w' : World} {Bs B Bx : Nat} {pv ov v0 : Value} {L L' : List Gt} {D : Nat → Prop} {cst : List (Nat × Value)} {bs : List (Nat × Nat × List Value)} {rows : List (Nat × List Gt)} {st : Nat} {f : Fl} {v : Nat → Value} {cs : Array Value} {fz : Nat × Nat} (B0 : Nat)
    (hBI : BI w Bs B pv ov L W) (h2 : W.ownsRow B 47 4 v0 L.length (cV L)) (h3 : v0.ownBlock = ov.ownBlock ∨ ∃ g, v0.ownBlock = some g ∧ w.heap.size ≤ g) (hBs : w.heap.size < Bs) (hD : ∀ b, D b → b < w.heap.size ∧ ov.ownBlock ≠ some b)
    (hx : W.heap[Bx]? = some (.cells cs 83 fz)) (hBx : w.heap.size < Bx)
    (hM : MR 47 24 cst bs rows st W w.heap.size B v0 L f v w') (hf : f st = true) (hl : curl rows f L = L') :
    BI w Bs B pv ov L' w' ∧ KeepsFrom B0 W w' ∧ KD D Bs W w' ∧ w'.heap[Bx]? = some (.cells cs 83 fz) := by
  obtain ⟨⟨vv, hbx, _⟩, h4, h5, h6, h7, h8, h9⟩ := hBI
  have hno : ∀ k, k < w.heap.size → ov.ownBlock ≠ some k → v0.ownBlock ≠ some k := fun k hk ho e => by
    rcases h3 with h | ⟨g, h, hg⟩
    · exact ho (h ▸ e)
    · rw [h] at e; cases e; omega
  have hkeep : ∀ k o, W.heap[k]? = some o → (∀ cc fzz, o ≠ .cells cc 47 fzz) → k ≠ w.heap.size → w'.heap[k]? = some o := fun k o ho hne hk => by
    refine (hM.l.block k (Array.getElem?_eq_some_iff.1 ho).1 hk (fun e => ?_)).trans ho
    rcases h2.2 with ⟨rfl, _⟩ | ⟨g, cap, cu, rfl, _, hh, _⟩
    · cases e
    · cases e; rw [hh] at ho; cases ho; exact hne _ _ rfl
  have hls := hM.l.size
  have hBOc : ∀ o, W.heap[w.heap.size]? = some o → ∃ cc tt fzz, w'.heap[w.heap.size]? = some (.cells cc tt fzz) := fun o _ => ⟨_, _, _, hM.x⟩
  have hxx := hM.x
  rw [hf] at hxx
  refine ⟨⟨⟨_, hxx, ?_, ?_⟩, hkeep Bs _ h4 (fun _ _ e => by cases e) (by omega), hM.l.os.trans h5, hM.l.tape.trans h6, hM.l.output.trans h7, by omega, fun k hk ho => (hM.l.block k (by omega) (by omega) (hno k hk ho)).trans (h9 k hk ho)⟩, ⟨hls, fun k o _ ho hc => ?_⟩, ⟨fun b hb => ?_, fun u hu => hkeep Bs _ hu (fun _ _ e => by cases e) (by omega)⟩, hkeep Bx _ hx (fun _ _ e => by cases e) (by omega)⟩
  · rw [← hl]; exact hM.r
  · rcases hM.k with h | ⟨g, h, hg⟩
    · rw [show (bif true then cur rows f v v0 else v0) = cur rows f v v0 from rfl, h]; exact h3
    · exact .inr ⟨g, h, by omega⟩
  · refine hkeep k o ho (fun _ _ e => by rw [e] at hc; cases hc) (fun e => ?_)
    subst e
    rw [show W.heap[w.heap.size]? = _ from hbx] at ho
    cases ho; cases hc
  · obtain ⟨q1, q2⟩ := hD b hb
    exact hM.l.block b (by omega) (by omega) (hno b q1 q2)
end Go.Proofs.Ytgjnnlgeggamjaa
