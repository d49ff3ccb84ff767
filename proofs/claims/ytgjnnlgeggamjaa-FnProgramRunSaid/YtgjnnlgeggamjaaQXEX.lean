/- TRP: laid into one text. -/
import Derived.Test.YtgjnnlgeggamjaaQXEF
import Derived.Test.YtgjnnlgeggamjaaQXEG
import Derived.Test.YtgjnnlgeggamjaaQXEP

namespace Go.Proofs.Ytgjnnlgeggamjaa
set_option linter.unusedVariables false
set_option linter.unusedSimpArgs false
open Go.RowKit
def cur : List (Nat × List Gt) → Fl → (Nat → Value) → Value → Value
  | [], _, _, x => x
  | p :: r, f, v, x => bif f p.1 then cur r f v (v p.1) else x
def curl : List (Nat × List Gt) → Fl → List Gt → List Gt
  | [], _, O => O
  | p :: r, f, O => bif f p.1 then curl r f p.2 else O
theorem cur_up {i : Nat} (f : Fl) (v : Nat → Value) (x : Value) : ∀ (rows : List (Nat × List Gt)) (y : Value), (∀ p ∈ rows, p.1 ≠ i) → cur rows (up1 f i) (upv v i x) y = cur rows f v y
  | [], _, _ => rfl
  | p :: r, y, h => by
    have h1 := h p List.mem_cons_self
    rw [cur, cur, up1_ne _ h1, upv_ne _ _ h1, cur_up f v x r _ fun q hq => h q (List.mem_cons_of_mem _ hq)]
theorem curl_up {i : Nat} (f : Fl) : ∀ (rows : List (Nat × List Gt)) (O : List Gt), (∀ p ∈ rows, p.1 ≠ i) → curl rows (up1 f i) O = curl rows f O
  | [], _, _ => rfl
  | p :: r, O, h => by
    have h1 := h p List.mem_cons_self
    rw [curl, curl, up1_ne _ h1, curl_up f r _ fun q hq => h q (List.mem_cons_of_mem _ hq)]
structure Rl (BO : Nat) (v0 : Value) (W w : World) : Prop where
  os : w.os = W.os
  tape : w.tape = W.tape
  output : w.output = W.output
  size : W.heap.size ≤ w.heap.size
  block : ∀ k, k < W.heap.size → k ≠ BO → v0.ownBlock ≠ some k → w.heap[k]? = W.heap[k]?
structure MR (te tb : TypeId) (cst : List (Nat × Value)) (bs : List (Nat × Nat × List Value)) (rows : List (Nat × List Gt)) (st : Nat) (W : World) (BO B : Nat) (v0 : Value) (O : List Gt) (f : Fl) (v : Nat → Value) (w : World) : Prop where
  c : ∀ p ∈ cst, f p.1 = true → v p.1 = p.2
  l : Rl BO v0 W w
  b : ∀ p ∈ bs, f p.1 = true → f p.2.1 = false → ∃ n, v p.1 = .slice (some ⟨n, 0, none⟩) 1 1 ∧ W.heap.size ≤ n ∧ n < w.heap.size ∧ (∀ (j : Nat) (u : Value), p.2.2[j]? = some u → w.cell? ⟨n, j, none⟩ = some u) ∧ (cur rows f v v0).ownBlock ≠ some n
  r : w.ownsRow B te 4 (cur rows f v v0) (curl rows f O).length (cV (curl rows f O))
  k : (cur rows f v v0).ownBlock = v0.ownBlock ∨ ∃ g, (cur rows f v v0).ownBlock = some g ∧ W.heap.size ≤ g
  x : Boxed w BO tb (bif f st then cur rows f v v0 else v0)
section
variable {te tb : TypeId} {cst : List (Nat × Value)} {bs : List (Nat × Nat × List Value)} {rows : List (Nat × List Gt)} {st : Nat} {W : World} {BO B : Nat} {v0 : Value} {O : List Gt} {f : Fl} {v : Nat → Value} {w w' : World} {i : Nat} {x : Value}
theorem MR.start (hx : Boxed W BO tb v0) (hr : W.ownsRow B te 4 v0 O.length (cV O)) : MR te tb cst bs rows st W BO B v0 O (fun _ => false) (fun _ => undef) W.drew := by
  have h1 : cur rows (fun _ => false) (fun _ => undef) v0 = v0 := by cases rows <;> rfl
  have h2 : curl rows (fun _ => false) O = O := by cases rows <;> rfl
  exact ⟨fun p _ h => (by cases h), ⟨rfl, rfl, rfl, Nat.le_refl _, fun _ _ _ _ => rfl⟩, fun p _ h => (by cases h), (by rw [h1, h2]; exact hr), (by rw [h1]; exact .inl rfl), hx⟩
theorem MR.const (h : MR te tb cst bs rows st W BO B v0 O f v w) (h1 : ∀ p ∈ rows, p.1 ≠ i) (h2 : ∀ p ∈ bs, p.1 ≠ i ∧ p.2.1 ≠ i) (h3 : st ≠ i) (h4 : ∀ p ∈ cst, p.1 = i → x = p.2) : MR te tb cst bs rows st W BO B v0 O (up1 f i) (upv v i x) w := by
  refine ⟨fun p hp hf => ?_, h.l, fun p hp hf hg => ?_, ?_, ?_, ?_⟩
  · rcases Nat.decEq p.1 i with e | e
    · rw [upv_ne _ _ e]; rw [up1_ne _ e] at hf; exact h.c p hp hf
    · rw [e, upv_same]; exact h4 p hp e
  · obtain ⟨e1, e2⟩ := h2 p hp
    rw [up1_ne _ e1] at hf
    rw [up1_ne _ e2] at hg
    rw [upv_ne _ _ e1, cur_up _ _ _ _ _ h1]
    exact h.b p hp hf hg
  · rw [cur_up _ _ _ _ _ h1, curl_up _ _ _ h1]; exact h.r
  · rw [cur_up _ _ _ _ _ h1]; exact h.k
  · rw [cur_up _ _ _ _ _ h1, up1_ne _ h3]; exact h.x
theorem MR.below (h : MR te tb cst bs rows st W BO B v0 O f v w) (hb : Below w.heap.size w w') : MR te tb cst bs rows st W BO B v0 O f v w' := by
  have hs := hb.size
  have hls := h.l.size
  refine ⟨h.c, ⟨hb.os.trans h.l.os, hb.tape.trans h.l.tape, hb.output.trans h.l.output, by omega, fun k hk1 hk2 hk3 => (hb.block k (by omega)).trans (h.l.block k hk1 hk2 hk3)⟩, fun p hp hf hg => ?_, own_keep h.r fun g hg => hb.block g (own_lt h.r hg).2, h.k, (hb.block BO h.x.lt).trans h.x⟩
  obtain ⟨n, n1, n2, n3, n4, n5⟩ := h.b p hp hf hg
  exact ⟨n, n1, n2, by omega, fun j u hu => (World.cell?_of_block (a := ⟨n, j, none⟩) (hb.block n n3)).trans (n4 j u hu), n5⟩
theorem MR.made (h : MR te tb cst bs rows st W BO B v0 O f v w) {cs : Array Value} {t : TypeId} (h1 : ∀ p ∈ rows, p.1 ≠ i) (h2 : ∀ p ∈ bs, p.2.1 ≠ i) (h3 : st ≠ i) (h4 : ∀ p ∈ cst, p.1 ≠ i) (h5 : ∀ p ∈ bs, p.1 = i → p.2.2.toArray = cs) : MR te tb cst bs rows st W BO B v0 O (up1 f i) (upv v i (.slice (some ⟨w.heap.size, 0, none⟩) 1 1)) (w.alloc (.cells cs t)) := by
  have hk : ∀ k, k < w.heap.size → (w.alloc (.cells cs t)).heap[k]? = w.heap[k]? := fun k hk => Below.heap_alloc w _ k hk
  have hs : (w.alloc (.cells cs t)).heap.size = w.heap.size + 1 := by simp
  refine ⟨fun p hp hf => ?_, ⟨h.l.os, h.l.tape, h.l.output, by have := h.l.size; omega, fun k hk1 hk2 hk3 => (hk k (Nat.lt_of_lt_of_le hk1 h.l.size)).trans (h.l.block k hk1 hk2 hk3)⟩, fun p hp hf hg => ?_, ?_, ?_, ?_⟩
  · rw [upv_ne _ _ (h4 p hp)]; rw [up1_ne _ (h4 p hp)] at hf; exact h.c p hp hf
  · rw [up1_ne _ (h2 p hp)] at hg
    rw [cur_up _ _ _ _ _ h1]
    rcases Nat.decEq p.1 i with e | e
    · rw [up1_ne _ e] at hf
      rw [upv_ne _ _ e]
      obtain ⟨n, n1, n2, n3, n4, n5⟩ := h.b p hp hf hg
      exact ⟨n, n1, n2, by omega, fun j u hu => (World.cell?_of_block (a := ⟨n, j, none⟩) (hk n n3)).trans (n4 j u hu), n5⟩
    · rw [e, upv_same]
      refine ⟨w.heap.size, rfl, h.l.size, by omega, fun j u hu => ?_, fun e' => ?_⟩
      · have hb := Bk.new w cs t
        rw [hb.cell j, ← h5 p hp e]
        simpa using hu
      · have := own_lt h.r e'; omega
  · rw [cur_up _ _ _ _ _ h1, curl_up _ _ _ h1]
    exact own_keep h.r fun g hg => hk g (own_lt h.r hg).2
  · rw [cur_up _ _ _ _ _ h1]; exact h.k
  · rw [cur_up _ _ _ _ _ h1, up1_ne _ h3]; exact h.x.alloc _
theorem MR.row (h : MR te tb cst bs rows st W BO B v0 O f v w) (ht : tb ≠ te) {L : List Gt} (h1 : cur rows (up1 f i) (upv v i x) v0 = x) (h6 : curl rows (up1 f i) O = L) (h2 : ∀ p ∈ bs, p.1 ≠ i) (h3 : st ≠ i) (h7 : f st = false) (h4 : ∀ p ∈ cst, p.1 ≠ i)
    (hg : w.grownBy w' (cur rows f v v0).ownBlock) (hr : w'.ownsRow B te 4 x L.length (cV L)) (hb : x.ownBlock = (cur rows f v v0).ownBlock ∨ ∃ g, x.ownBlock = some g ∧ w.heap.size ≤ g) : MR te tb cst bs rows st W BO B v0 O (up1 f i) (upv v i x) w' := by
  have hgs := hg.size
  have hls := h.l.size
  have hx0 : Boxed w BO tb v0 := by have := h.x; rw [h7] at this; exact this
  refine ⟨fun p hp hf => ?_, ⟨hg.os.trans h.l.os, hg.tape.trans h.l.tape, hg.output.trans h.l.output, by omega, fun k hk1 hk2 hk3 => ?_⟩, fun p hp hf hgf => ?_, ?_, ?_, ?_⟩
  · rw [upv_ne _ _ (h4 p hp)]; rw [up1_ne _ (h4 p hp)] at hf; exact h.c p hp hf
  · refine (hg.block k (by omega) (fun e => ?_)).trans (h.l.block k hk1 hk2 hk3)
    rcases h.k with h5 | ⟨g, h5, h8⟩
    · exact hk3 (h5 ▸ e.symm)
    · rw [h5] at e; cases e; omega
  · have e := h2 p hp
    rw [up1_ne _ e] at hf
    rw [upv_ne _ _ e, h1]
    have hgf' : f p.2.1 = false := by
      cases hq : f p.2.1 with
      | false => rfl
      | true => rw [up1_mono _ _ _ hq] at hgf; cases hgf
    obtain ⟨n, n1, n2, n3, n4, n5⟩ := h.b p hp hf hgf'
    refine ⟨n, n1, n2, by omega, fun j u hu => (World.cell?_of_block (a := ⟨n, j, none⟩) (hg.block n n3 (fun e => n5 e.symm))).trans (n4 j u hu), fun e' => ?_⟩
    rcases hb with hb | ⟨g, hb, hb2⟩
    · rw [hb] at e'; exact n5 e'
    · rw [hb] at e'; cases e'; omega
  · rw [h1, h6]; exact hr
  · rw [h1]
    rcases hb with hb | ⟨g, hb, hb2⟩
    · rw [hb]; exact h.k
    · exact .inr ⟨g, hb, by omega⟩
  · rw [up1_ne _ h3, h7]
    exact hx0.kept hg (hx0.not_row ht h.r)
theorem MR.store (h : MR te tb cst bs rows st W BO B v0 O f v w) (ht : tb ≠ te) (h1 : ∀ p ∈ rows, p.1 ≠ st) (h2 : ∀ p ∈ bs, p.1 ≠ st ∧ p.2.1 ≠ st) (h4 : ∀ p ∈ cst, p.1 ≠ st) (hB : BO < W.heap.size) : MR te tb cst bs rows st W BO B v0 O (up1 f st) (upv v st x) (w.setCell ⟨BO, 0, none⟩ (cur rows f v v0)) := by
  have hls := h.l.size
  have hg := grownBy_setCell' w BO (cur rows f v v0)
  refine ⟨fun p hp hf => ?_, ⟨h.l.os, h.l.tape, h.l.output, by have := hg.size; omega, fun k hk1 hk2 hk3 => ?_⟩, fun p hp hf hgf => ?_, ?_, ?_, ?_⟩
  · rw [upv_ne _ _ (h4 p hp)]; rw [up1_ne _ (h4 p hp)] at hf; exact h.c p hp hf
  · exact (hg.block k (by omega) (fun e => by cases e; exact hk2 rfl)).trans (h.l.block k hk1 hk2 hk3)
  · obtain ⟨e1, e2⟩ := h2 p hp
    rw [up1_ne _ e1] at hf
    rw [up1_ne _ e2] at hgf
    rw [upv_ne _ _ e1, cur_up _ _ _ _ _ h1]
    obtain ⟨n, n1, n2, n3, n4, n5⟩ := h.b p hp hf hgf
    refine ⟨n, n1, n2, by have := hg.size; omega, fun j u hu => (World.cell?_of_block (a := ⟨n, j, none⟩) (hg.block n n3 (fun e => by cases e; omega))).trans (n4 j u hu), n5⟩
  · rw [cur_up _ _ _ _ _ h1, curl_up _ _ _ h1]
    refine own_keep h.r fun g hgg => hg.block g (own_lt h.r hgg).2 (fun e => ?_)
    cases e
    exact h.x.not_row ht h.r hgg.symm
  · rw [cur_up _ _ _ _ _ h1]; exact h.k
  · rw [cur_up _ _ _ _ _ h1, up1_same]
    exact h.x.set _
end
end Go.Proofs.Ytgjnnlgeggamjaa
