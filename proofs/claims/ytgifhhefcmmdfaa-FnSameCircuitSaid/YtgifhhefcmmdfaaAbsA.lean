/- The abstract run, first part: abstract values, states, small programs of reads and writes; two of them that touch nothing in common can be exchanged. No program is named. -/
import Derived.WalkKit
import Derived.Orders
namespace Go.Proofs.Ytgifhhefcmmdfaa
set_option linter.unusedVariables false
open Go.RowKit

/-- A cell as the abstract run sees it: a value; a slice that is only read; a slice over own row i at its turn r; the address of cell o of own block i; the address of cells that are only read; a function with the own blocks that it captured. -/
inductive AC where
  | v (x : Value)
  | ro (sz n : Nat) (l : List Value)
  | sl (i r n : Nat)
  | ptr (i r o : Nat)
  | rp (l : List Value)
  | fn (f : FuncId) (c : List (Nat × Nat))
  deriving Inhabited
/-- One cell, or the cells of a struct or an array. -/
inductive AG where
  | one (c : AC)
  | agg (cs : List AC)
  deriving Inhabited
/-- What a slot holds. -/
inductive AV where
  | g (x : AG)
  | tup (xs : List AG)
  deriving Inhabited
/-- An own block: a variable; a row that a slice begins; a row that is only read from now on; a variable that is only read. -/
inductive Ent where
  | box (cs : List AC)
  | row (e : Option TypeId) (sz : Nat) (l : List Value)
  | fro (sz : Nat) (l : List Value)
  | rbx (cs : List AC)
  deriving Inhabited
abbrev Slots := Nat → Option AV
abbrev Blk := Nat → Option (Nat × Ent)
/-- The slots and the own blocks. -/
structure St where
  E : Slots
  G : Blk
/-- A function turned at one place. -/
def upd {α : Type} (f : Nat → Option α) (i : Nat) (x : Option α) : Nat → Option α := fun j => bif Nat.beq j i then x else f j
theorem upd_same {α : Type} (f : Nat → Option α) (i : Nat) (x : Option α) : upd f i x i = x := by simp [upd, Nat.beq_refl]
theorem upd_ne {α : Type} (f : Nat → Option α) {i j : Nat} (x : Option α) (h : j ≠ i) : upd f i x j = f j := by
  have : Nat.beq j i = false := by rw [Bool.eq_false_iff]; intro hb; exact h (Nat.eq_of_beq_eq_true hb)
  simp [upd, this]
theorem upd_comm {α : Type} (f : Nat → Option α) {i j : Nat} (x y : Option α) (h : i ≠ j) : upd (upd f i x) j y = upd (upd f j y) i x := by
  funext k
  by_cases h1 : k = i
  · subst h1; rw [upd_ne _ _ h, upd_same, upd_same]
  · by_cases h2 : k = j
    · subst h2; rw [upd_same, upd_ne _ _ h1, upd_same]
    · rw [upd_ne _ _ h2, upd_ne _ _ h1, upd_ne _ _ h1, upd_ne _ _ h2]
def St.put (S : St) (i : Nat) (x : Option AV) : St := { S with E := upd S.E i x }
def St.lay (S : St) (i : Nat) (x : Option (Nat × Ent)) : St := { S with G := upd S.G i x }

/-- A small program over a state. -/
inductive AM where
  | done
  | fail
  | getS (i : Nat) (k : AV → AM)
  | putS (i : Nat) (x : Option AV) (k : AM)
  | getE (i : Nat) (k : Option (Nat × Ent) → AM)
  | putE (i : Nat) (x : Option (Nat × Ent)) (k : AM)
  | need (p : Prop) (k : AM)
  | exv {α : Type} (p : α → Prop) (k : α → AM)
/-- What it may read and write. -/
structure Ft where
  sr : Nat → Bool
  sw : Nat → Bool
  er : Nat → Bool
  ew : Nat → Bool
/-- It runs, and ends in a state of which K holds. -/
def AM.run (F : Ft) : AM → St → (St → Prop) → Prop
  | .done, S, K => K S
  | .fail, _, _ => False
  | .getS i k, S, K => F.sr i = true ∧ ∃ x, S.E i = some x ∧ (k x).run F S K
  | .putS i x k, S, K => F.sw i = true ∧ k.run F (S.put i x) K
  | .getE i k, S, K => F.er i = true ∧ (k (S.G i)).run F S K
  | .putE i x k, S, K => F.ew i = true ∧ k.run F (S.lay i x) K
  | .need p k, S, K => p ∧ k.run F S K
  | .exv p k, S, K => ∃ x, p x ∧ (k x).run F S K
theorem AM.run_mono {F : Ft} {K K' : St → Prop} (h : ∀ S, K S → K' S) : ∀ (m : AM) (S : St), m.run F S K → m.run F S K' := by
  intro m
  induction m with
  | done => intro S hr; exact h S hr
  | fail => intro S hr; exact hr
  | getS i k ih => rintro S ⟨h1, x, h2, h3⟩; exact ⟨h1, x, h2, ih x S h3⟩
  | putS i x k ih => rintro S ⟨h1, h3⟩; exact ⟨h1, ih _ h3⟩
  | getE i k ih => rintro S ⟨h1, h3⟩; exact ⟨h1, ih _ _ h3⟩
  | putE i x k ih => rintro S ⟨h1, h3⟩; exact ⟨h1, ih _ h3⟩
  | need p k ih => rintro S ⟨h1, h3⟩; exact ⟨h1, ih _ h3⟩
  | exv p k ih => rintro S ⟨x, h1, h3⟩; exact ⟨x, h1, ih _ _ h3⟩
/-- A wider footprint serves as well. -/
theorem AM.run_wide {F F' : Ft} (h1 : ∀ i, F.sr i = true → F'.sr i = true) (h2 : ∀ i, F.sw i = true → F'.sw i = true) (h3 : ∀ i, F.er i = true → F'.er i = true) (h4 : ∀ i, F.ew i = true → F'.ew i = true) {K : St → Prop} :
    ∀ (m : AM) (S : St), m.run F S K → m.run F' S K := by
  intro m
  induction m with
  | done => intro S hr; exact hr
  | fail => intro S hr; exact hr
  | getS i k ih => rintro S ⟨a, x, b, c⟩; exact ⟨h1 i a, x, b, ih x S c⟩
  | putS i x k ih => rintro S ⟨a, c⟩; exact ⟨h2 i a, ih _ c⟩
  | getE i k ih => rintro S ⟨a, c⟩; exact ⟨h3 i a, ih _ _ c⟩
  | putE i x k ih => rintro S ⟨a, c⟩; exact ⟨h4 i a, ih _ c⟩
  | need p k ih => rintro S ⟨a, c⟩; exact ⟨a, ih _ c⟩
  | exv p k ih => rintro S ⟨x, a, c⟩; exact ⟨x, a, ih _ _ c⟩
theorem put_put (S : St) {i j : Nat} (x y : Option AV) (h : i ≠ j) : (S.put i x).put j y = (S.put j y).put i x := by simp [St.put, upd_comm _ _ _ h]
theorem lay_lay (S : St) {i j : Nat} (x y : Option (Nat × Ent)) (h : i ≠ j) : (S.lay i x).lay j y = (S.lay j y).lay i x := by simp [St.lay, upd_comm _ _ _ h]
theorem put_lay (S : St) (i j : Nat) (x : Option AV) (y : Option (Nat × Ent)) : (S.put i x).lay j y = (S.lay j y).put i x := rfl
/-- A write to a slot that a program does not touch can wait. -/
theorem AM.run_put {F : Ft} {i : Nat} {x : Option AV} (hr : F.sr i = false) (hw : F.sw i = false) {K : St → Prop} : ∀ (m : AM) (S : St), m.run F (S.put i x) K → m.run F S (fun S' => K (S'.put i x)) := by
  intro m
  induction m with
  | done => intro S h; exact h
  | fail => intro S h; exact h
  | getS j k ih =>
    rintro S ⟨a, y, b, c⟩
    have hne : j ≠ i := fun e => by subst e; rw [hr] at a; cases a
    refine ⟨a, y, ?_, ih y S c⟩
    rw [← b]; exact (upd_ne _ _ hne).symm
  | putS j y k ih =>
    rintro S ⟨a, c⟩
    have hne : i ≠ j := fun e => by subst e; rw [hw] at a; cases a
    refine ⟨a, ih _ ?_⟩
    rw [← put_put S x y hne]; exact c
  | getE j k ih => rintro S ⟨a, c⟩; exact ⟨a, ih _ _ c⟩
  | putE j y k ih => rintro S ⟨a, c⟩; exact ⟨a, ih _ c⟩
  | need p k ih => rintro S ⟨a, c⟩; exact ⟨a, ih _ c⟩
  | exv p k ih => rintro S ⟨y, a, c⟩; exact ⟨y, a, ih _ _ c⟩
/-- A write to a block that a program does not touch can wait. -/
theorem AM.run_lay {F : Ft} {i : Nat} {x : Option (Nat × Ent)} (hr : F.er i = false) (hw : F.ew i = false) {K : St → Prop} : ∀ (m : AM) (S : St), m.run F (S.lay i x) K → m.run F S (fun S' => K (S'.lay i x)) := by
  intro m
  induction m with
  | done => intro S h; exact h
  | fail => intro S h; exact h
  | getS j k ih => rintro S ⟨a, y, b, c⟩; exact ⟨a, y, b, ih y S c⟩
  | putS j y k ih => rintro S ⟨a, c⟩; exact ⟨a, ih _ c⟩
  | getE j k ih =>
    rintro S ⟨a, c⟩
    have hne : j ≠ i := fun e => by subst e; rw [hr] at a; cases a
    refine ⟨a, ih _ S ?_⟩
    have e : (S.lay i x).G j = S.G j := upd_ne _ _ hne
    rw [e] at c; exact c
  | putE j y k ih =>
    rintro S ⟨a, c⟩
    have hne : i ≠ j := fun e => by subst e; rw [hw] at a; cases a
    refine ⟨a, ih _ ?_⟩
    rw [← lay_lay S x y hne]; exact c
  | need p k ih => rintro S ⟨a, c⟩; exact ⟨a, ih _ c⟩
  | exv p k ih => rintro S ⟨y, a, c⟩; exact ⟨y, a, ih _ _ c⟩
/-- Nothing in common. -/
structure Ft.apart (F F' : Ft) : Prop where
  s1 : ∀ i, F.sw i = true → F'.sr i = false ∧ F'.sw i = false
  s2 : ∀ i, F'.sw i = true → F.sr i = false
  e1 : ∀ i, F.ew i = true → F'.er i = false ∧ F'.ew i = false
  e2 : ∀ i, F'.ew i = true → F.er i = false
/-- What a run reads is the same behind a write that it does not touch: the other way round. -/
theorem AM.run_put' {F : Ft} {i : Nat} {x : Option AV} (hr : F.sr i = false) (hw : F.sw i = false) {K : St → Prop} : ∀ (m : AM) (S : St), m.run F S (fun S' => K (S'.put i x)) → m.run F (S.put i x) K := by
  intro m
  induction m with
  | done => intro S h; exact h
  | fail => intro S h; exact h
  | getS j k ih =>
    rintro S ⟨a, y, b, c⟩
    have hne : j ≠ i := fun e => by subst e; rw [hr] at a; cases a
    refine ⟨a, y, ?_, ih y S c⟩
    rw [← b]; exact (upd_ne _ _ hne)
  | putS j y k ih =>
    rintro S ⟨a, c⟩
    have hne : i ≠ j := fun e => by subst e; rw [hw] at a; cases a
    refine ⟨a, ?_⟩
    rw [put_put S x y hne]; exact ih _ c
  | getE j k ih => rintro S ⟨a, c⟩; exact ⟨a, ih _ _ c⟩
  | putE j y k ih => rintro S ⟨a, c⟩; exact ⟨a, ih _ c⟩
  | need p k ih => rintro S ⟨a, c⟩; exact ⟨a, ih _ c⟩
  | exv p k ih => rintro S ⟨y, a, c⟩; exact ⟨y, a, ih _ _ c⟩
theorem AM.run_swap {F F' : Ft} (h : F.apart F') {K : St → Prop} (m' : AM) : ∀ (m : AM) (S : St), m.run F S (fun S' => m'.run F' S' K) → m'.run F' S (fun S' => m.run F S' K) := by
  intro m
  induction m with
  | done => intro S hr; exact hr
  | fail =>
    intro S hr; exact hr.elim
  | getS i k ih =>
    rintro S ⟨a, x, b, c⟩
    have hi : F'.sw i = false := by
      cases hq : F'.sw i with
      | false => rfl
      | true => have := h.s2 i hq; rw [a] at this; cases this
    have := ih x S c
    -- the slot reads the same behind m'
    have key : ∀ (m' : AM) (S : St), S.E i = some x → m'.run F' S (fun S' => (k x).run F S' K) → m'.run F' S (fun S' => (AM.getS i k).run F S' K) := by
      intro m'
      induction m' with
      | done => intro S e hr; exact ⟨a, x, e, hr⟩
      | fail => intro S e hr; exact hr
      | getS j k' ih' => rintro S e ⟨p, y, q, r⟩; exact ⟨p, y, q, ih' y S e r⟩
      | putS j y k' ih' =>
        rintro S e ⟨p, r⟩
        have hne : i ≠ j := fun e' => by subst e'; rw [hi] at p; cases p
        exact ⟨p, ih' _ (by rw [← e]; exact upd_ne _ _ hne) r⟩
      | getE j k' ih' => rintro S e ⟨p, r⟩; exact ⟨p, ih' _ _ e r⟩
      | putE j y k' ih' => rintro S e ⟨p, r⟩; exact ⟨p, ih' _ e r⟩
      | need p k' ih' => rintro S e ⟨p, r⟩; exact ⟨p, ih' _ e r⟩
      | exv p k' ih' => rintro S e ⟨y, p, r⟩; exact ⟨y, p, ih' _ _ e r⟩
    exact key m' S b this
  | putS i x k ih =>
    rintro S ⟨a, c⟩
    obtain ⟨h1, h2⟩ := h.s1 i a
    have := AM.run_put h1 h2 m' S (ih _ c)
    exact AM.run_mono (fun S' hS => ⟨a, hS⟩) m' S this
  | getE i k ih =>
    rintro S ⟨a, c⟩
    have hi : F'.ew i = false := by
      cases hq : F'.ew i with
      | false => rfl
      | true => have := h.e2 i hq; rw [a] at this; cases this
    have := ih _ S c
    have key : ∀ (m' : AM) (S : St) (x), S.G i = x → m'.run F' S (fun S' => (k x).run F S' K) → m'.run F' S (fun S' => (AM.getE i k).run F S' K) := by
      intro m'
      induction m' with
      | done => intro S x e hr; subst e; exact ⟨a, hr⟩
      | fail => intro S x e hr; exact hr
      | getS j k' ih' => rintro S x e ⟨p, y, q, r⟩; exact ⟨p, y, q, ih' y S x e r⟩
      | putS j y k' ih' => rintro S x e ⟨p, r⟩; exact ⟨p, ih' _ x e r⟩
      | getE j k' ih' => rintro S x e ⟨p, r⟩; exact ⟨p, ih' _ _ x e r⟩
      | putE j y k' ih' =>
        rintro S x e ⟨p, r⟩
        have hne : i ≠ j := fun e' => by subst e'; rw [hi] at p; cases p
        exact ⟨p, ih' _ x (by rw [← e]; exact upd_ne _ _ hne) r⟩
      | need p k' ih' => rintro S x e ⟨p, r⟩; exact ⟨p, ih' _ x e r⟩
      | exv p k' ih' => rintro S x e ⟨y, p, r⟩; exact ⟨y, p, ih' _ _ x e r⟩
    exact key m' S _ rfl this
  | putE i x k ih =>
    rintro S ⟨a, c⟩
    obtain ⟨h1, h2⟩ := h.e1 i a
    have := AM.run_lay h1 h2 m' S (ih _ c)
    exact AM.run_mono (fun S' hS => ⟨a, hS⟩) m' S this
  | need p k ih =>
    rintro S ⟨a, c⟩
    exact AM.run_mono (fun S' hS => ⟨a, hS⟩) m' S (ih _ c)
  | exv p k ih =>
    rintro S ⟨x, a, c⟩
    exact AM.run_mono (fun S' hS => ⟨x, a, hS⟩) m' S (ih _ _ c)

/-- Small programs one behind the other, each by its number. -/
def runs (F : Nat → Ft) (m : Nat → AM) : List Nat → St → (St → Prop) → Prop
  | [], S, K => K S
  | i :: l, S, K => (m i).run (F i) S (fun S' => runs F m l S' K)
theorem runs_mono {F : Nat → Ft} {m : Nat → AM} {K K' : St → Prop} (h : ∀ S, K S → K' S) : ∀ (l : List Nat) (S : St), runs F m l S K → runs F m l S K' := by
  intro l
  induction l with
  | nil => intro S hr; exact h S hr
  | cons i l ih => intro S hr; exact AM.run_mono (fun S' hS => ih S' hS) _ _ hr
/-- One that touches nothing of those ahead of it can go first. -/
theorem runs_first {F : Nat → Ft} {m : Nat → AM} {K : St → Prop} (i : Nat) (l2 : List Nat) : ∀ (l1 : List Nat) (S : St), (∀ j ∈ l1, (F j).apart (F i)) → runs F m (l1 ++ i :: l2) S K → (m i).run (F i) S (fun S' => runs F m (l1 ++ l2) S' K) := by
  intro l1
  induction l1 with
  | nil => intro S _ h; exact h
  | cons j l1 ih =>
    intro S ha h
    have h1 : (m j).run (F j) S (fun S' => (m i).run (F i) S' (fun S'' => runs F m (l1 ++ l2) S'' K)) :=
      AM.run_mono (fun S' hS => ih S' (fun k hk => ha k (List.mem_cons_of_mem _ hk)) hS) _ _ h
    exact AM.run_swap (ha j (List.mem_cons_self)) (m i) (m j) S h1
end Go.Proofs.Ytgifhhefcmmdfaa
