/- The abstract run, second part: what an abstract state says of a world and a frame; how it changes when some own blocks change. No program is named. -/
import Derived.Test.YtgifhhefcmmdfaaAbsA
import Derived.Laws.AppendOwn
namespace Go.Proofs.Ytgifhhefcmmdfaa
set_option linter.unusedVariables false
open Go.RowKit

/-- The block that a pointer or a slice leads into. -/
def blk? : Value → Option Nat
  | .pointer (some a) => some a.block
  | .slice (some a) _ _ => some a.block
  | _ => none
/-- A row of our own: n elements of the given size, with room for as many as its capacity says, perhaps more. -/
def ownR (w : World) (e : TypeId) (size : Nat) (v : Value) (n : Nat) (xs : List Value) : Prop :=
  xs.length = n * size ∧ ((v = .slice none 0 0 ∧ n = 0) ∨
   ∃ g cap cur, v = .slice (some ⟨g, 0, none⟩) n cap ∧ 0 ≤ g ∧ w.heap[g]? = some (.cells cur e (0, 0)) ∧ n ≤ cap ∧ cap ≤ maxLen ∧ cap * size ≤ cur.size ∧ cur.toList.take (n * size) = xs)
def Ent.live : Ent → Prop
  | .fro _ _ => False
  | .rbx _ => False
  | _ => True
/-- Cells that can be read. -/
def Cells (w : World) (b off : Nat) (l : List Value) : Prop := ∀ (j : Nat) (x : Value), l[j]? = some x → w.cell? ⟨b, off + j, none⟩ = some x
section
variable (w : World) (β : Nat → Value) (G : Blk) (ok : Nat → Prop)
def RoRep (sz n : Nat) (l : List Value) (y : Value) : Prop :=
  (l.length = n * sz ∧ l.all (·.oneCell') = true) ∧ ∃ A c, y = .slice A n c ∧ n ≤ c ∧ c ≤ maxLen ∧ (0 < n → ∃ b off, A = some ⟨b, off, none⟩ ∧ ok b ∧ Cells w b off l)
def PtrRep (i r o : Nat) (y : Value) : Prop := y.oneCell' = true ∧ ∃ r' e, G i = some (r', e) ∧ r ≤ r' ∧ (r = r' → ∃ b, blk? (β i) = some b ∧ y = .pointer (some ⟨b, o, none⟩))
def AC.rep : AC → Value → Prop
  | .v x, y => y = x ∧ x.oneCell' = true
  | .ro sz n l, y => RoRep w ok sz n l y
  | .sl i r n, y => y.oneCell' = true ∧ ∃ r' e, G i = some (r', e) ∧ r ≤ r' ∧ (r = r' → ∃ A m c, β i = .slice A m c ∧ n ≤ m ∧ y = .slice A n c)
  | .ptr i r o, y => PtrRep β G i r o y
  | .rp l, y => l.all (·.oneCell') = true ∧ ∃ b off, y = .pointer (some ⟨b, off, none⟩) ∧ ok b ∧ Cells w b off l
  | .fn f c, y => ∃ vs, y = .func (.func f) #[] vs ∧ vs.size = c.length ∧ ∀ (j : Nat) (p : Nat × Nat), c[j]? = some p → ∃ z, vs[j]? = some z ∧ PtrRep β G p.1 p.2 0 z
def CsRep (cs : List AC) (vs : Array Value) : Prop := vs.size = cs.length ∧ ∀ (j : Nat) (c : AC), cs[j]? = some c → ∃ z, vs[j]? = some z ∧ c.rep w β G ok z
def AG.rep : AG → Value → Prop
  | .one c, y => c.rep w β G ok y
  | .agg cs, y => ∃ vs, y = .agg vs ∧ CsRep w β G ok cs vs
def AV.rep : AV → Value → Prop
  | .g x, y => x.rep w β G ok y
  | .tup xs, y => ∃ vs, y = .tuple vs ∧ vs.size = xs.length ∧ ∀ (j : Nat) (x : AG), xs[j]? = some x → ∃ z, vs[j]? = some z ∧ x.rep w β G ok z
/-- b is the block of a live own block. -/
def ownB (b : Nat) : Prop := ∃ i r e, G i = some (r, e) ∧ e.live ∧ blk? (β i) = some b
def Ent.rep (i : Nat) : Ent → Prop
  | .box cs => ∃ g vs t, β i = .pointer (some ⟨g, 0, none⟩) ∧ w.heap[g]? = some (.cells vs t (0, 0)) ∧ CsRep w β G ok cs vs
  | .row e sz l => l.all (·.oneCell') = true ∧ ∃ e' n, (∀ x, e = some x → x = e') ∧ ownR w e' sz (β i) n l
  | .fro sz l => ∃ n, RoRep w ok sz n l (β i)
  | .rbx cs => ∃ g vs t fr, β i = .pointer (some ⟨g, 0, none⟩) ∧ w.heap[g]? = some (.cells vs t fr) ∧ CsRep w β G ok cs vs ∧ ¬ ownB β G g
end
/-- b may be read, and nothing here writes to it. -/
def okB (w0 : World) (N : Nat → Prop) (β : Nat → Value) (G : Blk) (w : World) (b : Nat) : Prop := b < w.heap.size ∧ ¬ ownB β G b ∧ (b < w0.heap.size → N b)

section
variable {w w' : World} {β β' : Nat → Value} {G G' : Blk} {ok ok' : Nat → Prop}
theorem Cells.keep {b off : Nat} {l : List Value} (h : Cells w b off l) (hb : w'.heap[b]? = w.heap[b]?) : Cells w' b off l :=
  fun j x hj => (World.cell?_of_block (a := ⟨b, off + j, none⟩) hb).trans (h j x hj)
theorem RoRep.mono {sz n : Nat} {l : List Value} {y : Value} (hok : ∀ b, ok b → ok' b ∧ w'.heap[b]? = w.heap[b]?) (h : RoRep w ok sz n l y) : RoRep w' ok' sz n l y := by
  obtain ⟨h1, A, c, h2, h3, h4, h5⟩ := h
  refine ⟨h1, A, c, h2, h3, h4, fun hn => ?_⟩
  obtain ⟨b, off, e, hb, hc⟩ := h5 hn
  exact ⟨b, off, e, (hok b hb).1, hc.keep (hok b hb).2⟩
/-- Own blocks grow older, and one of the same age is the same. -/
def Older (β β' : Nat → Value) (G G' : Blk) : Prop := ∀ i r e, G i = some (r, e) → ∃ r' e', G' i = some (r', e') ∧ r ≤ r' ∧ (r = r' → β' i = β i)
theorem PtrRep.mono {i r o : Nat} {y : Value} (hG : Older β β' G G') (h : PtrRep β G i r o y) : PtrRep β' G' i r o y := by
  obtain ⟨h0, r1, e, h1, h2, h3⟩ := h
  obtain ⟨r2, e2, h4, h5, h6⟩ := hG i r1 e h1
  refine ⟨h0, r2, e2, h4, by omega, fun hr => ?_⟩
  have e1 : r1 = r2 := by omega
  rw [h6 e1]
  exact h3 (by omega)
theorem AC.rep_mono {c : AC} {y : Value} (hok : ∀ b, ok b → ok' b ∧ w'.heap[b]? = w.heap[b]?) (hG : Older β β' G G') (h : c.rep w β G ok y) : c.rep w' β' G' ok' y := by
  cases c with
  | v x => exact h
  | ro sz n l => exact RoRep.mono hok h
  | sl i r n =>
    obtain ⟨h0, r1, e, h1, h2, h3⟩ := h
    obtain ⟨r2, e2, h4, h5, h6⟩ := hG i r1 e h1
    refine ⟨h0, r2, e2, h4, by omega, fun hr => ?_⟩
    have e1 : r1 = r2 := by omega
    rw [h6 e1]
    exact h3 (by omega)
  | ptr i r o => exact PtrRep.mono hG h
  | rp l =>
    obtain ⟨h1, b, off, e, hb, hc⟩ := h
    exact ⟨h1, b, off, e, (hok b hb).1, hc.keep (hok b hb).2⟩
  | fn f c =>
    obtain ⟨vs, h1, h2, h3⟩ := h
    refine ⟨vs, h1, h2, fun j p hp => ?_⟩
    obtain ⟨z, hz, hr⟩ := h3 j p hp
    exact ⟨z, hz, hr.mono hG⟩
theorem CsRep.mono {cs : List AC} {vs : Array Value} (hok : ∀ b, ok b → ok' b ∧ w'.heap[b]? = w.heap[b]?) (hG : Older β β' G G') (h : CsRep w β G ok cs vs) : CsRep w' β' G' ok' cs vs :=
  ⟨h.1, fun j c hc => let ⟨z, hz, hr⟩ := h.2 j c hc; ⟨z, hz, AC.rep_mono hok hG hr⟩⟩
theorem AG.rep_mono {x : AG} {y : Value} (hok : ∀ b, ok b → ok' b ∧ w'.heap[b]? = w.heap[b]?) (hG : Older β β' G G') (h : x.rep w β G ok y) : x.rep w' β' G' ok' y := by
  cases x with
  | one c => exact AC.rep_mono hok hG h
  | agg cs => obtain ⟨vs, h1, h2⟩ := h; exact ⟨vs, h1, h2.mono hok hG⟩
theorem AV.rep_mono {x : AV} {y : Value} (hok : ∀ b, ok b → ok' b ∧ w'.heap[b]? = w.heap[b]?) (hG : Older β β' G G') (h : x.rep w β G ok y) : x.rep w' β' G' ok' y := by
  cases x with
  | g c => exact AG.rep_mono hok hG h
  | tup xs =>
    obtain ⟨vs, h1, h2, h3⟩ := h
    exact ⟨vs, h1, h2, fun j x hx => let ⟨z, hz, hr⟩ := h3 j x hx; ⟨z, hz, AG.rep_mono hok hG hr⟩⟩
end

/-- What an abstract state S says of the world w and the frame tm. w0: the world at the call's beginning; M: the blocks of before that the call may write to; N: those of before that it reads. -/
structure Sim (w0 : World) (M N : Nat → Prop) (b0 : Nat → Value) (nt : Nat) (β : Nat → Value) (S : St) (w : World) (tm : Array Value) : Prop where
  os : w.os = w0.os
  tape : w.tape = w0.tape
  output : w.output = w0.output
  size : w0.heap.size ≤ w.heap.size
  block : ∀ k, k < w0.heap.size → ¬ M k → w.heap[k]? = w0.heap[k]?
  ents : ∀ i r e, S.G i = some (r, e) → e.rep w β S.G (okB w0 N β S.G w) i
  apart : ∀ i j r e r' e' b, S.G i = some (r, e) → e.live → S.G j = some (r', e') → e'.live → blk? (β i) = some b → blk? (β j) = some b → i = j
  fresh : ∀ i r e b, S.G i = some (r, e) → e.live → blk? (β i) = some b → b < w.heap.size ∧ (w0.heap.size ≤ b ∨ (M b ∧ 100000 ≤ i))
  pin : ∀ i e, 100000 ≤ i → S.G i = some (0, e) → β i = b0 i
  wide : tm.size = nt
  env : ∀ i a, S.E i = some a → i < nt ∧ a.rep w β S.G (okB w0 N β S.G w) (tm.getD i undef)

section
variable {w0 w w' : World} {M N : Nat → Prop} {b0 : Nat → Value} {nt : Nat} {β β' : Nat → Value} {S : St} {tm : Array Value}
theorem Sim.put (h : Sim w0 M N b0 nt β S w tm) {i : Nat} {a : AV} {v : Value} (hi : i < nt) (hv : a.rep w β S.G (okB w0 N β S.G w) v) : Sim w0 M N b0 nt β (S.put i (some a)) w (tm.setIfInBounds i v) :=
  ⟨h.os, h.tape, h.output, h.size, h.block, h.ents, h.apart, h.fresh, h.pin, by simpa using h.wide, fun j b hb => by
    by_cases hj : j = i
    · subst hj
      have e : b = a := by
        have : upd S.E j (some a) j = some b := hb
        rw [upd_same] at this
        exact (Option.some.inj this).symm
      subst e
      refine ⟨hi, ?_⟩
      have hs : j < tm.size := by rw [h.wide]; exact hi
      have e2 : (tm.setIfInBounds j v).getD j undef = v := by simp [hs]
      rw [e2]; exact hv
    · have hb' : S.E j = some b := by rw [← upd_ne S.E (some a) hj]; exact hb
      obtain ⟨h1, h2⟩ := h.env j b hb'
      refine ⟨h1, ?_⟩
      have e : (tm.setIfInBounds i v).getD j undef = tm.getD j undef := by
        simp only [Array.getD_eq_getD_getElem?, Array.getElem?_setIfInBounds_ne (Ne.symm hj)]
      rw [e]; exact h2⟩
theorem Sim.del (h : Sim w0 M N b0 nt β S w tm) (i : Nat) (v : Value) : Sim w0 M N b0 nt β (S.put i none) w (tm.setIfInBounds i v) :=
  ⟨h.os, h.tape, h.output, h.size, h.block, h.ents, h.apart, h.fresh, h.pin, by simpa using h.wide, fun j b hb => by
    by_cases hj : j = i
    · subst hj
      have : upd S.E j none j = some b := hb
      rw [upd_same] at this; cases this
    · have hb' : S.E j = some b := by rw [← upd_ne S.E none hj]; exact hb
      obtain ⟨h1, h2⟩ := h.env j b hb'
      refine ⟨h1, ?_⟩
      have e : (tm.setIfInBounds i v).getD j undef = tm.getD j undef := by
        simp only [Array.getD_eq_getD_getElem?, Array.getElem?_setIfInBounds_ne (Ne.symm hj)]
      rw [e]; exact h2⟩
/-- A world that differs in the count of draws alone. -/
theorem Sim.draw (h : Sim w0 M N b0 nt β S w tm) (n : Nat) : Sim w0 M N b0 nt β S { w with drawn := n } tm :=
  ⟨h.os, h.tape, h.output, h.size, h.block, h.ents, h.apart, h.fresh, h.pin, h.wide, h.env⟩
/-- Fewer slots are known. -/
theorem Sim.less (h : Sim w0 M N b0 nt β S w tm) {E : Slots} (hE : ∀ i a, E i = some a → S.E i = some a) : Sim w0 M N b0 nt β ⟨E, S.G⟩ w tm :=
  ⟨h.os, h.tape, h.output, h.size, h.block, h.ents, h.apart, h.fresh, h.pin, h.wide, fun i a ha => h.env i a (hE i a ha)⟩

/-- Some own blocks (those of Ch) change, and nothing else. -/
theorem Sim.change (h : Sim w0 M N b0 nt β S w tm) (Ch : Nat → Prop) (G' : Blk)
    (hos : w'.os = w.os) (htape : w'.tape = w.tape) (hout : w'.output = w.output) (hsize : w.heap.size ≤ w'.heap.size)
    (hsame : ∀ j, ¬ Ch j → G' j = S.G j ∧ β' j = β j)
    (hver : ∀ j r e, Ch j → S.G j = some (r, e) → ∃ r' e', G' j = some (r', e') ∧ r ≤ r' ∧ (r = r' → β' j = β j))
    (hw : ∀ k, k < w.heap.size → (∀ j r e, Ch j → S.G j = some (r, e) → e.live → blk? (β j) ≠ some k) → w'.heap[k]? = w.heap[k]?)
    (hfr : ∀ j r e b, Ch j → G' j = some (r, e) → e.live → blk? (β' j) = some b → b < w'.heap.size ∧ (w.heap.size ≤ b ∨ ∃ r1 e1, S.G j = some (r1, e1) ∧ e1.live ∧ blk? (β j) = some b))
    (hpin : ∀ j, Ch j → 100000 ≤ j → ∃ x, S.G j = some x)
    (hap : ∀ i j r e r' e' b, Ch i → Ch j → G' i = some (r, e) → e.live → G' j = some (r', e') → e'.live → w.heap.size ≤ b → blk? (β' i) = some b → blk? (β' j) = some b → i = j)
    (hnew : (∀ b, okB w0 N β S.G w b → okB w0 N β' G' w' b ∧ w'.heap[b]? = w.heap[b]?) → Older β β' S.G G' → ∀ j r e, Ch j → G' j = some (r, e) → e.rep w' β' G' (okB w0 N β' G' w') j) :
    Sim w0 M N b0 nt β' ⟨S.E, G'⟩ w' tm ∧ (∀ b, okB w0 N β S.G w b → okB w0 N β' G' w' b ∧ w'.heap[b]? = w.heap[b]?) ∧ Older β β' S.G G' := by
  have hold : Older β β' S.G G' := fun i r e hi => by
    by_cases hc : Ch i
    · exact hver i r e hc hi
    · obtain ⟨h1, h2⟩ := hsame i hc
      exact ⟨r, e, by rw [h1]; exact hi, Nat.le_refl _, fun _ => h2⟩
  have hown : ∀ b, b < w.heap.size → ¬ ownB β S.G b → ¬ ownB β' G' b := by
    intro b h1 h2 ho
    refine h2 ?_
    obtain ⟨i, r, e, hg, hl, hbi⟩ := ho
    by_cases hc : Ch i
    · obtain ⟨_, h5⟩ := hfr i r e b hc hg hl hbi
      rcases h5 with h5 | ⟨r1, e1, h6, h7, h8⟩
      · omega
      · exact ⟨i, r1, e1, h6, h7, h8⟩
    · obtain ⟨h5, h6⟩ := hsame i hc
      exact ⟨i, r, e, by rw [← h5]; exact hg, hl, by rw [← h6]; exact hbi⟩
  have hok : ∀ b, okB w0 N β S.G w b → okB w0 N β' G' w' b ∧ w'.heap[b]? = w.heap[b]? := by
    intro b hb
    obtain ⟨h1, h2, h3⟩ := hb
    exact ⟨⟨by omega, hown b h1 h2, h3⟩, hw b h1 fun j r e hj hg hl hbj => h2 ⟨j, r, e, hg, hl, hbj⟩⟩
  refine ⟨⟨hos.trans h.os, htape.trans h.tape, hout.trans h.output, Nat.le_trans h.size hsize, ?_, ?_, ?_, ?_, ?_, h.wide, ?_⟩, hok, hold⟩
  · intro k hk hM
    rw [← h.block k hk hM]
    refine hw k (Nat.lt_of_lt_of_le hk h.size) fun j r e hj hg hl hb => ?_
    rcases (h.fresh j r e k hg hl hb).2 with h1 | h1
    · omega
    · exact hM h1.1
  · intro i r e hi
    by_cases hc : Ch i
    · exact hnew hok hold i r e hc hi
    · obtain ⟨h1, h2⟩ := hsame i hc
      have hi' : S.G i = some (r, e) := by rw [← h1]; exact hi
      have hr := h.ents i r e hi'
      have hkeep : ∀ b, e.live → blk? (β i) = some b → w'.heap[b]? = w.heap[b]? := fun b hl hb =>
        hw b (h.fresh i r e b hi' hl hb).1 fun j r1 e1 hj hg hl1 hbj => hc ((h.apart i j r e r1 e1 b hi' hl hg hl1 hb hbj) ▸ hj)
      cases e with
      | box cs =>
        obtain ⟨g, vs, t, e1, e2, e3⟩ := hr
        refine ⟨g, vs, t, h2.trans e1, ?_, e3.mono hok hold⟩
        rw [hkeep g trivial (by rw [e1]; rfl)]; exact e2
      | row e sz l =>
        obtain ⟨e0, e', n, e1, e2, e3⟩ := hr
        refine ⟨e0, e', n, e1, e2, ?_⟩
        rw [h2]
        rcases e3 with e3 | ⟨g, cap, cur, e4, e5, e6, e7⟩
        · exact .inl e3
        · refine .inr ⟨g, cap, cur, e4, e5, ?_, e7⟩
          rw [hkeep g trivial (by rw [e4]; rfl)]; exact e6
      | fro sz l =>
        obtain ⟨n, e1⟩ := hr
        refine ⟨n, ?_⟩
        rw [h2]; exact e1.mono hok
      | rbx cs =>
        obtain ⟨g, vs, t, fr, e1, e2, e3, e4⟩ := hr
        have hlt : g < w.heap.size := (Array.getElem?_eq_some_iff.1 e2).1
        refine ⟨g, vs, t, fr, h2.trans e1, ?_, e3.mono hok hold, hown g hlt e4⟩
        rw [hw g hlt fun j r1 e5 hj hg hl hbj => e4 ⟨j, r1, e5, hg, hl, hbj⟩]; exact e2
  · intro i j r e r' e' b hi hl hj hl' hbi hbj
    replace hi : G' i = some (r, e) := hi
    replace hj : G' j = some (r', e') := hj
    by_cases hci : Ch i
    · obtain ⟨_, h5⟩ := hfr i r e b hci hi hl hbi
      by_cases hcj : Ch j
      · obtain ⟨_, h6⟩ := hfr j r' e' b hcj hj hl' hbj
        rcases h5 with h5 | ⟨r1, e1, h7, h8, h9⟩
        · exact hap i j r e r' e' b hci hcj hi hl hj hl' h5 hbi hbj
        · rcases h6 with h6 | ⟨r2, e2, g7, g8, g9⟩
          · exact hap i j r e r' e' b hci hcj hi hl hj hl' h6 hbi hbj
          · exact h.apart i j r1 e1 r2 e2 b h7 h8 g7 g8 h9 g9
      · obtain ⟨q1, q2⟩ := hsame j hcj
        rw [q1] at hj; rw [q2] at hbj
        rcases h5 with h5 | ⟨r1, e1, h7, h8, h9⟩
        · have := (h.fresh j r' e' b hj hl' hbj).1; omega
        · exact h.apart i j r1 e1 r' e' b h7 h8 hj hl' h9 hbj
    · obtain ⟨q1, q2⟩ := hsame i hci
      rw [q1] at hi; rw [q2] at hbi
      by_cases hcj : Ch j
      · obtain ⟨_, h6⟩ := hfr j r' e' b hcj hj hl' hbj
        rcases h6 with h6 | ⟨r2, e2, g7, g8, g9⟩
        · have := (h.fresh i r e b hi hl hbi).1; omega
        · exact h.apart i j r e r2 e2 b hi hl g7 g8 hbi g9
      · obtain ⟨q3, q4⟩ := hsame j hcj
        rw [q3] at hj; rw [q4] at hbj
        exact h.apart i j r e r' e' b hi hl hj hl' hbi hbj
  · intro i r e b hi hl hb
    replace hi : G' i = some (r, e) := hi
    by_cases hc : Ch i
    · obtain ⟨h4, h5⟩ := hfr i r e b hc hi hl hb
      refine ⟨h4, ?_⟩
      rcases h5 with h5 | ⟨r1, e1, h7, h8, h9⟩
      · left; exact Nat.le_trans h.size h5
      · exact (h.fresh i r1 e1 b h7 h8 h9).2
    · obtain ⟨q1, q2⟩ := hsame i hc
      rw [q1] at hi; rw [q2] at hb
      obtain ⟨h4, h5⟩ := h.fresh i r e b hi hl hb
      exact ⟨by omega, h5⟩
  · intro i e hi hg
    replace hg : G' i = some (0, e) := hg
    by_cases hc : Ch i
    · obtain ⟨⟨r1, e1⟩, hx⟩ := hpin i hc hi
      obtain ⟨r2, e2, q1, q2, q3⟩ := hver i r1 e1 hc hx
      rw [hg] at q1
      cases q1
      have : r1 = 0 := by omega
      subst this
      rw [q3 rfl]; exact h.pin i e1 hi hx
    · obtain ⟨q1, q2⟩ := hsame i hc
      rw [q2]; exact h.pin i e hi (by rw [← q1]; exact hg)
  · intro i a ha
    obtain ⟨h1, h2⟩ := h.env i a ha
    exact ⟨h1, AV.rep_mono hok hold h2⟩

/-- One own block changes, or is new. -/
theorem Sim.change1 (h : Sim w0 M N b0 nt β S w tm) (i r : Nat) (e : Ent) (y : Value)
    (hos : w'.os = w.os) (htape : w'.tape = w.tape) (hout : w'.output = w.output) (hsize : w.heap.size ≤ w'.heap.size)
    (hver : ∀ r1 e1, S.G i = some (r1, e1) → r1 ≤ r ∧ (r1 = r → y = β i))
    (hw : ∀ k, k < w.heap.size → (∀ r1 e1, S.G i = some (r1, e1) → e1.live → blk? (β i) ≠ some k) → w'.heap[k]? = w.heap[k]?)
    (hfr : ∀ b, e.live → blk? y = some b → b < w'.heap.size ∧ (w.heap.size ≤ b ∨ ∃ r1 e1, S.G i = some (r1, e1) ∧ e1.live ∧ blk? (β i) = some b))
    (hpin : 100000 ≤ i → ∃ x, S.G i = some x)
    (hnew : ∀ β' G', (β' = fun j => if j = i then y else β j) → G' = upd S.G i (some (r, e)) → (∀ b, okB w0 N β S.G w b → okB w0 N β' G' w' b ∧ w'.heap[b]? = w.heap[b]?) → Older β β' S.G G' → β' i = y → e.rep w' β' G' (okB w0 N β' G' w') i) :
    ∃ β', Sim w0 M N b0 nt β' (S.lay i (some (r, e))) w' tm ∧ β' i = y ∧ (∀ b, okB w0 N β S.G w b → okB w0 N β' (upd S.G i (some (r, e))) w' b ∧ w'.heap[b]? = w.heap[b]?) ∧ Older β β' S.G (upd S.G i (some (r, e))) := by
  have hi : (fun j => if j = i then y else β j) i = y := by simp
  obtain ⟨h1, h2, h3⟩ := h.change (w' := w') (β' := fun j => if j = i then y else β j) (fun j => j = i) (upd S.G i (some (r, e))) hos htape hout hsize
    (fun j hj => ⟨upd_ne _ _ hj, by simp [hj]⟩)
    (fun j r1 e1 hj hg => by
      subst hj
      obtain ⟨a, b⟩ := hver r1 e1 hg
      exact ⟨r, e, upd_same _ _ _, a, fun he => by simpa using b he⟩)
    (fun k hk hn => hw k hk fun r1 e1 hg hl => hn i r1 e1 rfl hg hl)
    (fun j r1 e1 b hj hg hl hb => by
      subst hj
      rw [upd_same] at hg
      obtain ⟨rfl, rfl⟩ := Prod.mk.inj (Option.some.inj hg)
      exact hfr b hl (by simpa using hb))
    (fun j hj hge => by subst hj; exact hpin hge)
    (fun a b _ _ _ _ _ ha hb _ _ _ _ _ _ _ => by rw [ha, hb])
    (fun hok hold j r1 e1 hj hg => by
      subst hj
      rw [upd_same] at hg
      obtain ⟨rfl, rfl⟩ := Prod.mk.inj (Option.some.inj hg)
      exact hnew _ _ rfl rfl hok hold (by simp))
  exact ⟨_, h1, by simp, h2, h3⟩
end
end Go.Proofs.Ytgifhhefcmmdfaa
