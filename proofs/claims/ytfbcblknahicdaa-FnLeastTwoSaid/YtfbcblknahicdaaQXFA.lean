/- AbsA, Glo, AbsB, AbsC, AbsD, AbsE, AbsF, AbsG: laid into one text. -/
import Derived.WalkKit
import Derived.Orders
import Derived.Lib.LaidTab
import Derived.Laws.AppendOwn
import Derived.Laws.CopyRow

namespace Go.Proofs.Ytfbcblknahicdaa
set_option linter.unusedVariables false
open Go.RowKit
inductive AC where
  | v (x : Value)
  | ro (sz n : Nat) (l : List Value)
  | sl (i r n : Nat)
  | ptr (i r o : Nat)
  | rp (l : List Value)
  | fn (f : FuncId) (c : List (Nat × Nat))
  | er
  | sb (i r n c : Nat)
  deriving Inhabited
inductive AG where
  | one (c : AC)
  | agg (cs : List AC)
  deriving Inhabited
inductive AV where
  | g (x : AG)
  | tup (xs : List AG)
  deriving Inhabited
inductive Ent where
  | box (cs : List AC)
  | row (e : Option TypeId) (sz : Nat) (l : List Value)
  | fro (sz : Nat) (l : List Value)
  | rbx (cs : List AC)
  | gst (R : Nat → Obj → Prop)
  deriving Inhabited
abbrev Slots := Nat → Option AV
abbrev Blk := Nat → Option (Nat × Ent)
structure St where
  E : Slots
  G : Blk
def upd {α : Type} (f : Nat → Option α) (i : Nat) (x : Option α) : Nat → Option α := fun j => bif Nat.beq j i then x else f j
theorem upd_same {α : Type} (f : Nat → Option α) (i : Nat) (x : Option α) : upd f i x i = x := by simp [upd, Nat.beq_refl]
theorem upd_ne {α : Type} (f : Nat → Option α) {i j : Nat} (x : Option α) (h : j ≠ i) : upd f i x j = f j := by
  have : Nat.beq j i = false := by rw [Bool.eq_false_iff]; intro hb; exact h (Nat.eq_of_beq_eq_true hb)
  simp [upd, this]
theorem upd_comm {α : Type} (f : Nat → Option α) {i j : Nat} (x y : Option α) (h : i ≠ j) : upd (upd f i x) j y = upd (upd f j y) i x := by
  funext k
  by_cases h1 : k = i
  · subst h1; rw [upd_ne _ _ h, upd_same, upd_same]
  · by_cases h2 : k = j
    · subst h2; rw [upd_same, upd_ne _ _ h1, upd_same]
    · rw [upd_ne _ _ h2, upd_ne _ _ h1, upd_ne _ _ h1, upd_ne _ _ h2]
def St.put (S : St) (i : Nat) (x : Option AV) : St := { S with E := upd S.E i x }
def St.lay (S : St) (i : Nat) (x : Option (Nat × Ent)) : St := { S with G := upd S.G i x }
inductive AM where
  | done
  | fail
  | getS (i : Nat) (k : AV → AM)
  | putS (i : Nat) (x : Option AV) (k : AM)
  | getE (i : Nat) (k : Option (Nat × Ent) → AM)
  | putE (i : Nat) (x : Option (Nat × Ent)) (k : AM)
  | need (p : Prop) (k : AM)
  | exv {α : Type} (p : α → Prop) (k : α → AM)
structure Ft where
  sr : Nat → Bool
  sw : Nat → Bool
  er : Nat → Bool
  ew : Nat → Bool
def AM.run (F : Ft) : AM → St → (St → Prop) → Prop
  | .done, S, K => K S
  | .fail, _, _ => False
  | .getS i k, S, K => F.sr i = true ∧ ∃ x, S.E i = some x ∧ (k x).run F S K
  | .putS i x k, S, K => F.sw i = true ∧ k.run F (S.put i x) K
  | .getE i k, S, K => F.er i = true ∧ (k (S.G i)).run F S K
  | .putE i x k, S, K => F.ew i = true ∧ k.run F (S.lay i x) K
  | .need p k, S, K => p ∧ k.run F S K
  | .exv p k, S, K => ∃ x, p x ∧ (k x).run F S K
theorem AM.run_mono {F : Ft} {K K' : St → Prop} (h : ∀ S, K S → K' S) : ∀ (m : AM) (S : St), m.run F S K → m.run F S K' := by
  intro m
  induction m with
  | done => intro S hr; exact h S hr
  | fail => intro S hr; exact hr
  | getS i k ih => rintro S ⟨h1, x, h2, h3⟩; exact ⟨h1, x, h2, ih x S h3⟩
  | putS i x k ih => rintro S ⟨h1, h3⟩; exact ⟨h1, ih _ h3⟩
  | getE i k ih => rintro S ⟨h1, h3⟩; exact ⟨h1, ih _ _ h3⟩
  | putE i x k ih => rintro S ⟨h1, h3⟩; exact ⟨h1, ih _ h3⟩
  | need p k ih => rintro S ⟨h1, h3⟩; exact ⟨h1, ih _ h3⟩
  | exv p k ih => rintro S ⟨x, h1, h3⟩; exact ⟨x, h1, ih _ _ h3⟩
theorem put_put (S : St) {i j : Nat} (x y : Option AV) (h : i ≠ j) : (S.put i x).put j y = (S.put j y).put i x := by simp [St.put, upd_comm _ _ _ h]
theorem lay_lay (S : St) {i j : Nat} (x y : Option (Nat × Ent)) (h : i ≠ j) : (S.lay i x).lay j y = (S.lay j y).lay i x := by simp [St.lay, upd_comm _ _ _ h]
theorem AM.run_put {F : Ft} {i : Nat} {x : Option AV} (hr : F.sr i = false) (hw : F.sw i = false) {K : St → Prop} : ∀ (m : AM) (S : St), m.run F (S.put i x) K → m.run F S (fun S' => K (S'.put i x)) := by
  intro m
  induction m with
  | done => intro S h; exact h
  | fail => intro S h; exact h
  | getS j k ih =>
    rintro S ⟨a, y, b, c⟩
    have hne : j ≠ i := fun e => by subst e; rw [hr] at a; cases a
    refine ⟨a, y, ?_, ih y S c⟩
    rw [← b]; exact (upd_ne _ _ hne).symm
  | putS j y k ih =>
    rintro S ⟨a, c⟩
    have hne : i ≠ j := fun e => by subst e; rw [hw] at a; cases a
    refine ⟨a, ih _ ?_⟩
    rw [← put_put S x y hne]; exact c
  | getE j k ih => rintro S ⟨a, c⟩; exact ⟨a, ih _ _ c⟩
  | putE j y k ih => rintro S ⟨a, c⟩; exact ⟨a, ih _ c⟩
  | need p k ih => rintro S ⟨a, c⟩; exact ⟨a, ih _ c⟩
  | exv p k ih => rintro S ⟨y, a, c⟩; exact ⟨y, a, ih _ _ c⟩
theorem AM.run_lay {F : Ft} {i : Nat} {x : Option (Nat × Ent)} (hr : F.er i = false) (hw : F.ew i = false) {K : St → Prop} : ∀ (m : AM) (S : St), m.run F (S.lay i x) K → m.run F S (fun S' => K (S'.lay i x)) := by
  intro m
  induction m with
  | done => intro S h; exact h
  | fail => intro S h; exact h
  | getS j k ih => rintro S ⟨a, y, b, c⟩; exact ⟨a, y, b, ih y S c⟩
  | putS j y k ih => rintro S ⟨a, c⟩; exact ⟨a, ih _ c⟩
  | getE j k ih =>
    rintro S ⟨a, c⟩
    have hne : j ≠ i := fun e => by subst e; rw [hr] at a; cases a
    refine ⟨a, ih _ S ?_⟩
    have e : (S.lay i x).G j = S.G j := upd_ne _ _ hne
    rw [e] at c; exact c
  | putE j y k ih =>
    rintro S ⟨a, c⟩
    have hne : i ≠ j := fun e => by subst e; rw [hw] at a; cases a
    refine ⟨a, ih _ ?_⟩
    rw [← lay_lay S x y hne]; exact c
  | need p k ih => rintro S ⟨a, c⟩; exact ⟨a, ih _ c⟩
  | exv p k ih => rintro S ⟨y, a, c⟩; exact ⟨y, a, ih _ _ c⟩
structure Ft.apart (F F' : Ft) : Prop where
  s1 : ∀ i, F.sw i = true → F'.sr i = false ∧ F'.sw i = false
  s2 : ∀ i, F'.sw i = true → F.sr i = false
  e1 : ∀ i, F.ew i = true → F'.er i = false ∧ F'.ew i = false
  e2 : ∀ i, F'.ew i = true → F.er i = false
theorem AM.run_swap {F F' : Ft} (h : F.apart F') {K : St → Prop} (m' : AM) : ∀ (m : AM) (S : St), m.run F S (fun S' => m'.run F' S' K) → m'.run F' S (fun S' => m.run F S' K) := by
  intro m
  induction m with
  | done => intro S hr; exact hr
  | fail =>
    intro S hr; exact hr.elim
  | getS i k ih =>
    rintro S ⟨a, x, b, c⟩
    have hi : F'.sw i = false := by
      cases hq : F'.sw i with
      | false => rfl
      | true => have := h.s2 i hq; rw [a] at this; cases this
    have := ih x S c
    -- the slot reads the same behind m'
    have key : ∀ (m' : AM) (S : St), S.E i = some x → m'.run F' S (fun S' => (k x).run F S' K) → m'.run F' S (fun S' => (AM.getS i k).run F S' K) := by
      intro m'
      induction m' with
      | done => intro S e hr; exact ⟨a, x, e, hr⟩
      | fail => intro S e hr; exact hr
      | getS j k' ih' => rintro S e ⟨p, y, q, r⟩; exact ⟨p, y, q, ih' y S e r⟩
      | putS j y k' ih' =>
        rintro S e ⟨p, r⟩
        have hne : i ≠ j := fun e' => by subst e'; rw [hi] at p; cases p
        exact ⟨p, ih' _ (by rw [← e]; exact upd_ne _ _ hne) r⟩
      | getE j k' ih' => rintro S e ⟨p, r⟩; exact ⟨p, ih' _ _ e r⟩
      | putE j y k' ih' => rintro S e ⟨p, r⟩; exact ⟨p, ih' _ e r⟩
      | need p k' ih' => rintro S e ⟨p, r⟩; exact ⟨p, ih' _ e r⟩
      | exv p k' ih' => rintro S e ⟨y, p, r⟩; exact ⟨y, p, ih' _ _ e r⟩
    exact key m' S b this
  | putS i x k ih =>
    rintro S ⟨a, c⟩
    obtain ⟨h1, h2⟩ := h.s1 i a
    have := AM.run_put h1 h2 m' S (ih _ c)
    exact AM.run_mono (fun S' hS => ⟨a, hS⟩) m' S this
  | getE i k ih =>
    rintro S ⟨a, c⟩
    have hi : F'.ew i = false := by
      cases hq : F'.ew i with
      | false => rfl
      | true => have := h.e2 i hq; rw [a] at this; cases this
    have := ih _ S c
    have key : ∀ (m' : AM) (S : St) (x), S.G i = x → m'.run F' S (fun S' => (k x).run F S' K) → m'.run F' S (fun S' => (AM.getE i k).run F S' K) := by
      intro m'
      induction m' with
      | done => intro S x e hr; subst e; exact ⟨a, hr⟩
      | fail => intro S x e hr; exact hr
      | getS j k' ih' => rintro S x e ⟨p, y, q, r⟩; exact ⟨p, y, q, ih' y S x e r⟩
      | putS j y k' ih' => rintro S x e ⟨p, r⟩; exact ⟨p, ih' _ x e r⟩
      | getE j k' ih' => rintro S x e ⟨p, r⟩; exact ⟨p, ih' _ _ x e r⟩
      | putE j y k' ih' =>
        rintro S x e ⟨p, r⟩
        have hne : i ≠ j := fun e' => by subst e'; rw [hi] at p; cases p
        exact ⟨p, ih' _ x (by rw [← e]; exact upd_ne _ _ hne) r⟩
      | need p k' ih' => rintro S x e ⟨p, r⟩; exact ⟨p, ih' _ x e r⟩
      | exv p k' ih' => rintro S x e ⟨y, p, r⟩; exact ⟨y, p, ih' _ _ x e r⟩
    exact key m' S _ rfl this
  | putE i x k ih =>
    rintro S ⟨a, c⟩
    obtain ⟨h1, h2⟩ := h.e1 i a
    have := AM.run_lay h1 h2 m' S (ih _ c)
    exact AM.run_mono (fun S' hS => ⟨a, hS⟩) m' S this
  | need p k ih =>
    rintro S ⟨a, c⟩
    exact AM.run_mono (fun S' hS => ⟨a, hS⟩) m' S (ih _ c)
  | exv p k ih =>
    rintro S ⟨x, a, c⟩
    exact AM.run_mono (fun S' hS => ⟨x, a, hS⟩) m' S (ih _ _ c)
def runs (F : Nat → Ft) (m : Nat → AM) : List Nat → St → (St → Prop) → Prop
  | [], S, K => K S
  | i :: l, S, K => (m i).run (F i) S (fun S' => runs F m l S' K)
theorem runs_first {F : Nat → Ft} {m : Nat → AM} {K : St → Prop} (i : Nat) (l2 : List Nat) : ∀ (l1 : List Nat) (S : St), (∀ j ∈ l1, (F j).apart (F i)) → runs F m (l1 ++ i :: l2) S K → (m i).run (F i) S (fun S' => runs F m (l1 ++ l2) S' K) := by
  intro l1
  induction l1 with
  | nil => intro S _ h; exact h
  | cons j l1 ih =>
    intro S ha h
    have h1 : (m j).run (F j) S (fun S' => (m i).run (F i) S' (fun S'' => runs F m (l1 ++ l2) S'' K)) :=
      AM.run_mono (fun S' hS => ih S' (fun k hk => ha k (List.mem_cons_of_mem _ hk)) hS) _ _ h
    exact AM.run_swap (ha j (List.mem_cons_self)) (m i) (m j) S h1
def gsz : Nat := 0
def Glo (w : World) : Prop := True
theorem Glo.keep {w w' : World} (h : Glo w) (hb : ∀ b, b < gsz → w'.heap[b]? = w.heap[b]?) : Glo w' := trivial
def blk? : Value → Option Nat
  | .pointer (some a) => some a.block
  | .slice (some a) _ _ => some a.block
  | _ => none
def ownR (w : World) (e : TypeId) (size : Nat) (v : Value) (n : Nat) (xs : List Value) : Prop :=
  xs.length = n * size ∧ ((v = .slice none 0 0 ∧ n = 0) ∨
   ∃ g cap cur, v = .slice (some ⟨g, 0, none⟩) n cap ∧ 0 ≤ g ∧ w.heap[g]? = some (.cells cur e (0, 0)) ∧ n ≤ cap ∧ cap ≤ maxLen ∧ cap * size ≤ cur.size ∧ cur.toList.take (n * size) = xs)
def Ent.live : Ent → Prop
  | .fro _ _ => False
  | .rbx _ => False
  | _ => True
def Cells (w : World) (b off : Nat) (l : List Value) : Prop := ∀ (j : Nat) (x : Value), l[j]? = some x → w.cell? ⟨b, off + j, none⟩ = some x
section
variable (w : World) (β : Nat → Value) (G : Blk) (ok : Nat → Prop)
def RoRep (sz n : Nat) (l : List Value) (y : Value) : Prop :=
  (l.length = n * sz ∧ l.all (·.oneCell') = true) ∧ ∃ A c, y = .slice A n c ∧ n ≤ c ∧ c ≤ maxLen ∧ (0 < n → ∃ b off, A = some ⟨b, off, none⟩ ∧ ok b ∧ Cells w b off l)
def PtrRep (i r o : Nat) (y : Value) : Prop := y.oneCell' = true ∧ ∃ r' e, G i = some (r', e) ∧ r ≤ r' ∧ (r = r' → ∃ b, blk? (β i) = some b ∧ y = .pointer (some ⟨b, o, none⟩))
def SbRep (i r n c : Nat) (y : Value) : Prop := y.oneCell' = true ∧ ∃ r' e, G i = some (r', e) ∧ r ≤ r' ∧ (r = r' → ∃ b, blk? (β i) = some b ∧ y = .slice (some ⟨b, 0, none⟩) n c ∧ n ≤ c ∧ c ≤ maxLen)
def AC.rep : AC → Value → Prop
  | .v x, y => y = x ∧ x.oneCell' = true
  | .ro sz n l, y => RoRep w ok sz n l y
  | .sl i r n, y => y.oneCell' = true ∧ ∃ r' e, G i = some (r', e) ∧ r ≤ r' ∧ (r = r' → ∃ A m c, β i = .slice A m c ∧ n ≤ m ∧ y = .slice A n c)
  | .ptr i r o, y => PtrRep β G i r o y
  | .rp l, y => l.all (·.oneCell') = true ∧ ∃ b off, y = .pointer (some ⟨b, off, none⟩) ∧ ok b ∧ Cells w b off l
  | .fn f c, y => ∃ vs, y = .func (.func f) #[] vs ∧ vs.size = c.length ∧ ∀ (j : Nat) (p : Nat × Nat), c[j]? = some p → ∃ z, vs[j]? = some z ∧ PtrRep β G p.1 p.2 0 z
  | .er, y => y.oneCell' = true ∧ ∃ t p, y = .iface t p
  | .sb i r n c, y => SbRep β G i r n c y
def CsRep (cs : List AC) (vs : Array Value) : Prop := vs.size = cs.length ∧ ∀ (j : Nat) (c : AC), cs[j]? = some c → ∃ z, vs[j]? = some z ∧ c.rep w β G ok z
def AG.rep : AG → Value → Prop
  | .one c, y => c.rep w β G ok y
  | .agg cs, y => ∃ vs, y = .agg vs ∧ CsRep w β G ok cs vs
def AV.rep : AV → Value → Prop
  | .g x, y => x.rep w β G ok y
  | .tup xs, y => ∃ vs, y = .tuple vs ∧ vs.size = xs.length ∧ ∀ (j : Nat) (x : AG), xs[j]? = some x → ∃ z, vs[j]? = some z ∧ x.rep w β G ok z
def ownB (b : Nat) : Prop := ∃ i r e, G i = some (r, e) ∧ e.live ∧ blk? (β i) = some b
def Ent.rep (i : Nat) : Ent → Prop
  | .box cs => ∃ g vs t, β i = .pointer (some ⟨g, 0, none⟩) ∧ w.heap[g]? = some (.cells vs t (0, 0)) ∧ CsRep w β G ok cs vs
  | .row e sz l => l.all (·.oneCell') = true ∧ ∃ e' n, (∀ x, e = some x → x = e') ∧ ownR w e' sz (β i) n l
  | .fro sz l => ∃ n, RoRep w ok sz n l (β i)
  | .rbx cs => ∃ g vs t fr, β i = .pointer (some ⟨g, 0, none⟩) ∧ w.heap[g]? = some (.cells vs t fr) ∧ CsRep w β G ok cs vs ∧ ¬ ownB β G g
  | .gst R => ∃ g o, β i = .pointer (some ⟨g, 0, none⟩) ∧ w.heap[g]? = some o ∧ R g o
end
def okB (w0 : World) (N : Nat → Prop) (β : Nat → Value) (G : Blk) (w : World) (b : Nat) : Prop := b < w.heap.size ∧ ¬ ownB β G b ∧ (b < w0.heap.size → N b)
section
variable {w w' : World} {β β' : Nat → Value} {G G' : Blk} {ok ok' : Nat → Prop}
theorem Cells.keep {b off : Nat} {l : List Value} (h : Cells w b off l) (hb : w'.heap[b]? = w.heap[b]?) : Cells w' b off l :=
  fun j x hj => (World.cell?_of_block (a := ⟨b, off + j, none⟩) hb).trans (h j x hj)
theorem RoRep.mono {sz n : Nat} {l : List Value} {y : Value} (hok : ∀ b, ok b → ok' b ∧ w'.heap[b]? = w.heap[b]?) (h : RoRep w ok sz n l y) : RoRep w' ok' sz n l y := by
  obtain ⟨h1, A, c, h2, h3, h4, h5⟩ := h
  refine ⟨h1, A, c, h2, h3, h4, fun hn => ?_⟩
  obtain ⟨b, off, e, hb, hc⟩ := h5 hn
  exact ⟨b, off, e, (hok b hb).1, hc.keep (hok b hb).2⟩
def Older (β β' : Nat → Value) (G G' : Blk) : Prop := ∀ i r e, G i = some (r, e) → ∃ r' e', G' i = some (r', e') ∧ r ≤ r' ∧ (r = r' → β' i = β i)
theorem PtrRep.mono {i r o : Nat} {y : Value} (hG : Older β β' G G') (h : PtrRep β G i r o y) : PtrRep β' G' i r o y := by
  obtain ⟨h0, r1, e, h1, h2, h3⟩ := h
  obtain ⟨r2, e2, h4, h5, h6⟩ := hG i r1 e h1
  refine ⟨h0, r2, e2, h4, by omega, fun hr => ?_⟩
  have e1 : r1 = r2 := by omega
  rw [h6 e1]
  exact h3 (by omega)
theorem SbRep.mono {i r n c : Nat} {y : Value} (hG : Older β β' G G') (h : SbRep β G i r n c y) : SbRep β' G' i r n c y := by
  obtain ⟨h0, r1, e, h1, h2, h3⟩ := h
  obtain ⟨r2, e2, h4, h5, h6⟩ := hG i r1 e h1
  refine ⟨h0, r2, e2, h4, by omega, fun hr => ?_⟩
  have e1 : r1 = r2 := by omega
  rw [h6 e1]
  exact h3 (by omega)
theorem AC.rep_mono {c : AC} {y : Value} (hok : ∀ b, ok b → ok' b ∧ w'.heap[b]? = w.heap[b]?) (hG : Older β β' G G') (h : c.rep w β G ok y) : c.rep w' β' G' ok' y := by
  cases c with
  | v x => exact h
  | ro sz n l => exact RoRep.mono hok h
  | sl i r n =>
    obtain ⟨h0, r1, e, h1, h2, h3⟩ := h
    obtain ⟨r2, e2, h4, h5, h6⟩ := hG i r1 e h1
    refine ⟨h0, r2, e2, h4, by omega, fun hr => ?_⟩
    have e1 : r1 = r2 := by omega
    rw [h6 e1]
    exact h3 (by omega)
  | ptr i r o => exact PtrRep.mono hG h
  | rp l =>
    obtain ⟨h1, b, off, e, hb, hc⟩ := h
    exact ⟨h1, b, off, e, (hok b hb).1, hc.keep (hok b hb).2⟩
  | fn f c =>
    obtain ⟨vs, h1, h2, h3⟩ := h
    refine ⟨vs, h1, h2, fun j p hp => ?_⟩
    obtain ⟨z, hz, hr⟩ := h3 j p hp
    exact ⟨z, hz, hr.mono hG⟩
  | er => exact h
  | sb i r n c => exact SbRep.mono hG h
theorem CsRep.mono {cs : List AC} {vs : Array Value} (hok : ∀ b, ok b → ok' b ∧ w'.heap[b]? = w.heap[b]?) (hG : Older β β' G G') (h : CsRep w β G ok cs vs) : CsRep w' β' G' ok' cs vs :=
  ⟨h.1, fun j c hc => let ⟨z, hz, hr⟩ := h.2 j c hc; ⟨z, hz, AC.rep_mono hok hG hr⟩⟩
theorem AG.rep_mono {x : AG} {y : Value} (hok : ∀ b, ok b → ok' b ∧ w'.heap[b]? = w.heap[b]?) (hG : Older β β' G G') (h : x.rep w β G ok y) : x.rep w' β' G' ok' y := by
  cases x with
  | one c => exact AC.rep_mono hok hG h
  | agg cs => obtain ⟨vs, h1, h2⟩ := h; exact ⟨vs, h1, h2.mono hok hG⟩
theorem AV.rep_mono {x : AV} {y : Value} (hok : ∀ b, ok b → ok' b ∧ w'.heap[b]? = w.heap[b]?) (hG : Older β β' G G') (h : x.rep w β G ok y) : x.rep w' β' G' ok' y := by
  cases x with
  | g c => exact AG.rep_mono hok hG h
  | tup xs =>
    obtain ⟨vs, h1, h2, h3⟩ := h
    exact ⟨vs, h1, h2, fun j x hx => let ⟨z, hz, hr⟩ := h3 j x hx; ⟨z, hz, AG.rep_mono hok hG hr⟩⟩
end
def Gk (w0 : World) (M N : Nat → Prop) : Prop := Glo w0 ∧ ∀ b, b < gsz → N b ∧ ¬ M b ∧ b < w0.heap.size
structure Sim (w0 : World) (M N : Nat → Prop) (b0 : Nat → Value) (nt : Nat) (β : Nat → Value) (S : St) (w : World) (tm : Array Value) : Prop where
  os : w.os = w0.os
  tape : w.tape = w0.tape
  output : w.output = w0.output
  glo : Gk w0 M N
  size : w0.heap.size ≤ w.heap.size
  block : ∀ k, k < w0.heap.size → ¬ M k → w.heap[k]? = w0.heap[k]?
  ents : ∀ i r e, S.G i = some (r, e) → e.rep w β S.G (okB w0 N β S.G w) i
  apart : ∀ i j r e r' e' b, S.G i = some (r, e) → e.live → S.G j = some (r', e') → e'.live → blk? (β i) = some b → blk? (β j) = some b → i = j
  fresh : ∀ i r e b, S.G i = some (r, e) → e.live → blk? (β i) = some b → b < w.heap.size ∧ (w0.heap.size ≤ b ∨ (M b ∧ 100000 ≤ i))
  pin : ∀ i e, 100000 ≤ i → S.G i = some (0, e) → β i = b0 i
  wide : tm.size = nt
  env : ∀ i a, S.E i = some a → i < nt ∧ a.rep w β S.G (okB w0 N β S.G w) (tm.getD i undef)
section
variable {w0 w w' : World} {M N : Nat → Prop} {b0 : Nat → Value} {nt : Nat} {β β' : Nat → Value} {S : St} {tm : Array Value}
theorem Sim.put (h : Sim w0 M N b0 nt β S w tm) {i : Nat} {a : AV} {v : Value} (hi : i < nt) (hv : a.rep w β S.G (okB w0 N β S.G w) v) : Sim w0 M N b0 nt β (S.put i (some a)) w (tm.setIfInBounds i v) :=
  ⟨h.os, h.tape, h.output, h.glo, h.size, h.block, h.ents, h.apart, h.fresh, h.pin, by simpa using h.wide, fun j b hb => by
    by_cases hj : j = i
    · subst hj
      have e : b = a := by
        have : upd S.E j (some a) j = some b := hb
        rw [upd_same] at this
        exact (Option.some.inj this).symm
      subst e
      refine ⟨hi, ?_⟩
      have hs : j < tm.size := by rw [h.wide]; exact hi
      have e2 : (tm.setIfInBounds j v).getD j undef = v := by simp [hs]
      rw [e2]; exact hv
    · have hb' : S.E j = some b := by rw [← upd_ne S.E (some a) hj]; exact hb
      obtain ⟨h1, h2⟩ := h.env j b hb'
      refine ⟨h1, ?_⟩
      have e : (tm.setIfInBounds i v).getD j undef = tm.getD j undef := by
        simp only [Array.getD_eq_getD_getElem?, Array.getElem?_setIfInBounds_ne (Ne.symm hj)]
      rw [e]; exact h2⟩
theorem Sim.del (h : Sim w0 M N b0 nt β S w tm) (i : Nat) (v : Value) : Sim w0 M N b0 nt β (S.put i none) w (tm.setIfInBounds i v) :=
  ⟨h.os, h.tape, h.output, h.glo, h.size, h.block, h.ents, h.apart, h.fresh, h.pin, by simpa using h.wide, fun j b hb => by
    by_cases hj : j = i
    · subst hj
      have : upd S.E j none j = some b := hb
      rw [upd_same] at this; cases this
    · have hb' : S.E j = some b := by rw [← upd_ne S.E none hj]; exact hb
      obtain ⟨h1, h2⟩ := h.env j b hb'
      refine ⟨h1, ?_⟩
      have e : (tm.setIfInBounds i v).getD j undef = tm.getD j undef := by
        simp only [Array.getD_eq_getD_getElem?, Array.getElem?_setIfInBounds_ne (Ne.symm hj)]
      rw [e]; exact h2⟩
theorem Sim.draw (h : Sim w0 M N b0 nt β S w tm) (n : Nat) : Sim w0 M N b0 nt β S { w with drawn := n } tm :=
  ⟨h.os, h.tape, h.output, h.glo, h.size, h.block, h.ents, h.apart, h.fresh, h.pin, h.wide, h.env⟩
theorem Sim.less (h : Sim w0 M N b0 nt β S w tm) {E : Slots} (hE : ∀ i a, E i = some a → S.E i = some a) : Sim w0 M N b0 nt β ⟨E, S.G⟩ w tm :=
  ⟨h.os, h.tape, h.output, h.glo, h.size, h.block, h.ents, h.apart, h.fresh, h.pin, h.wide, fun i a ha => h.env i a (hE i a ha)⟩
theorem Sim.change (h : Sim w0 M N b0 nt β S w tm) (Ch : Nat → Prop) (G' : Blk)
    (hos : w'.os = w.os) (htape : w'.tape = w.tape) (hout : w'.output = w.output) (hsize : w.heap.size ≤ w'.heap.size)
    (hsame : ∀ j, ¬ Ch j → G' j = S.G j ∧ β' j = β j)
    (hver : ∀ j r e, Ch j → S.G j = some (r, e) → ∃ r' e', G' j = some (r', e') ∧ r ≤ r' ∧ (r = r' → β' j = β j))
    (hw : ∀ k, k < w.heap.size → (∀ j r e, Ch j → S.G j = some (r, e) → e.live → blk? (β j) ≠ some k) → w'.heap[k]? = w.heap[k]?)
    (hfr : ∀ j r e b, Ch j → G' j = some (r, e) → e.live → blk? (β' j) = some b → b < w'.heap.size ∧ (w.heap.size ≤ b ∨ ∃ r1 e1, S.G j = some (r1, e1) ∧ e1.live ∧ blk? (β j) = some b))
    (hpin : ∀ j, Ch j → 100000 ≤ j → ∃ x, S.G j = some x)
    (hap : ∀ i j r e r' e' b, Ch i → Ch j → G' i = some (r, e) → e.live → G' j = some (r', e') → e'.live → w.heap.size ≤ b → blk? (β' i) = some b → blk? (β' j) = some b → i = j)
    (hnew : (∀ b, okB w0 N β S.G w b → okB w0 N β' G' w' b ∧ w'.heap[b]? = w.heap[b]?) → Older β β' S.G G' → ∀ j r e, Ch j → G' j = some (r, e) → e.rep w' β' G' (okB w0 N β' G' w') j) :
    Sim w0 M N b0 nt β' ⟨S.E, G'⟩ w' tm ∧ (∀ b, okB w0 N β S.G w b → okB w0 N β' G' w' b ∧ w'.heap[b]? = w.heap[b]?) ∧ Older β β' S.G G' := by
  have hold : Older β β' S.G G' := fun i r e hi => by
    by_cases hc : Ch i
    · exact hver i r e hc hi
    · obtain ⟨h1, h2⟩ := hsame i hc
      exact ⟨r, e, by rw [h1]; exact hi, Nat.le_refl _, fun _ => h2⟩
  have hown : ∀ b, b < w.heap.size → ¬ ownB β S.G b → ¬ ownB β' G' b := by
    intro b h1 h2 ho
    refine h2 ?_
    obtain ⟨i, r, e, hg, hl, hbi⟩ := ho
    by_cases hc : Ch i
    · obtain ⟨_, h5⟩ := hfr i r e b hc hg hl hbi
      rcases h5 with h5 | ⟨r1, e1, h6, h7, h8⟩
      · omega
      · exact ⟨i, r1, e1, h6, h7, h8⟩
    · obtain ⟨h5, h6⟩ := hsame i hc
      exact ⟨i, r, e, by rw [← h5]; exact hg, hl, by rw [← h6]; exact hbi⟩
  have hok : ∀ b, okB w0 N β S.G w b → okB w0 N β' G' w' b ∧ w'.heap[b]? = w.heap[b]? := by
    intro b hb
    obtain ⟨h1, h2, h3⟩ := hb
    exact ⟨⟨by omega, hown b h1 h2, h3⟩, hw b h1 fun j r e hj hg hl hbj => h2 ⟨j, r, e, hg, hl, hbj⟩⟩
  refine ⟨⟨hos.trans h.os, htape.trans h.tape, hout.trans h.output, h.glo, Nat.le_trans h.size hsize, ?_, ?_, ?_, ?_, ?_, h.wide, ?_⟩, hok, hold⟩
  · intro k hk hM
    rw [← h.block k hk hM]
    refine hw k (Nat.lt_of_lt_of_le hk h.size) fun j r e hj hg hl hb => ?_
    rcases (h.fresh j r e k hg hl hb).2 with h1 | h1
    · omega
    · exact hM h1.1
  · intro i r e hi
    by_cases hc : Ch i
    · exact hnew hok hold i r e hc hi
    · obtain ⟨h1, h2⟩ := hsame i hc
      have hi' : S.G i = some (r, e) := by rw [← h1]; exact hi
      have hr := h.ents i r e hi'
      have hkeep : ∀ b, e.live → blk? (β i) = some b → w'.heap[b]? = w.heap[b]? := fun b hl hb =>
        hw b (h.fresh i r e b hi' hl hb).1 fun j r1 e1 hj hg hl1 hbj => hc ((h.apart i j r e r1 e1 b hi' hl hg hl1 hb hbj) ▸ hj)
      cases e with
      | box cs =>
        obtain ⟨g, vs, t, e1, e2, e3⟩ := hr
        refine ⟨g, vs, t, h2.trans e1, ?_, e3.mono hok hold⟩
        rw [hkeep g trivial (by rw [e1]; rfl)]; exact e2
      | row e sz l =>
        obtain ⟨e0, e', n, e1, e2, e3⟩ := hr
        refine ⟨e0, e', n, e1, e2, ?_⟩
        rw [h2]
        rcases e3 with e3 | ⟨g, cap, cur, e4, e5, e6, e7⟩
        · exact .inl e3
        · refine .inr ⟨g, cap, cur, e4, e5, ?_, e7⟩
          rw [hkeep g trivial (by rw [e4]; rfl)]; exact e6
      | fro sz l =>
        obtain ⟨n, e1⟩ := hr
        refine ⟨n, ?_⟩
        rw [h2]; exact e1.mono hok
      | rbx cs =>
        obtain ⟨g, vs, t, fr, e1, e2, e3, e4⟩ := hr
        have hlt : g < w.heap.size := (Array.getElem?_eq_some_iff.1 e2).1
        refine ⟨g, vs, t, fr, h2.trans e1, ?_, e3.mono hok hold, hown g hlt e4⟩
        rw [hw g hlt fun j r1 e5 hj hg hl hbj => e4 ⟨j, r1, e5, hg, hl, hbj⟩]; exact e2
      | gst R =>
        obtain ⟨g, o, e1, e2, e3⟩ := hr
        refine ⟨g, o, h2.trans e1, ?_, e3⟩
        rw [hkeep g trivial (by rw [e1]; rfl)]; exact e2
  · intro i j r e r' e' b hi hl hj hl' hbi hbj
    replace hi : G' i = some (r, e) := hi
    replace hj : G' j = some (r', e') := hj
    by_cases hci : Ch i
    · obtain ⟨_, h5⟩ := hfr i r e b hci hi hl hbi
      by_cases hcj : Ch j
      · obtain ⟨_, h6⟩ := hfr j r' e' b hcj hj hl' hbj
        rcases h5 with h5 | ⟨r1, e1, h7, h8, h9⟩
        · exact hap i j r e r' e' b hci hcj hi hl hj hl' h5 hbi hbj
        · rcases h6 with h6 | ⟨r2, e2, g7, g8, g9⟩
          · exact hap i j r e r' e' b hci hcj hi hl hj hl' h6 hbi hbj
          · exact h.apart i j r1 e1 r2 e2 b h7 h8 g7 g8 h9 g9
      · obtain ⟨q1, q2⟩ := hsame j hcj
        rw [q1] at hj; rw [q2] at hbj
        rcases h5 with h5 | ⟨r1, e1, h7, h8, h9⟩
        · have := (h.fresh j r' e' b hj hl' hbj).1; omega
        · exact h.apart i j r1 e1 r' e' b h7 h8 hj hl' h9 hbj
    · obtain ⟨q1, q2⟩ := hsame i hci
      rw [q1] at hi; rw [q2] at hbi
      by_cases hcj : Ch j
      · obtain ⟨_, h6⟩ := hfr j r' e' b hcj hj hl' hbj
        rcases h6 with h6 | ⟨r2, e2, g7, g8, g9⟩
        · have := (h.fresh i r e b hi hl hbi).1; omega
        · exact h.apart i j r e r2 e2 b hi hl g7 g8 hbi g9
      · obtain ⟨q3, q4⟩ := hsame j hcj
        rw [q3] at hj; rw [q4] at hbj
        exact h.apart i j r e r' e' b hi hl hj hl' hbi hbj
  · intro i r e b hi hl hb
    replace hi : G' i = some (r, e) := hi
    by_cases hc : Ch i
    · obtain ⟨h4, h5⟩ := hfr i r e b hc hi hl hb
      refine ⟨h4, ?_⟩
      rcases h5 with h5 | ⟨r1, e1, h7, h8, h9⟩
      · left; exact Nat.le_trans h.size h5
      · exact (h.fresh i r1 e1 b h7 h8 h9).2
    · obtain ⟨q1, q2⟩ := hsame i hc
      rw [q1] at hi; rw [q2] at hb
      obtain ⟨h4, h5⟩ := h.fresh i r e b hi hl hb
      exact ⟨by omega, h5⟩
  · intro i e hi hg
    replace hg : G' i = some (0, e) := hg
    by_cases hc : Ch i
    · obtain ⟨⟨r1, e1⟩, hx⟩ := hpin i hc hi
      obtain ⟨r2, e2, q1, q2, q3⟩ := hver i r1 e1 hc hx
      rw [hg] at q1
      cases q1
      have : r1 = 0 := by omega
      subst this
      rw [q3 rfl]; exact h.pin i e1 hi hx
    · obtain ⟨q1, q2⟩ := hsame i hc
      rw [q2]; exact h.pin i e hi (by rw [← q1]; exact hg)
  · intro i a ha
    obtain ⟨h1, h2⟩ := h.env i a ha
    exact ⟨h1, AV.rep_mono hok hold h2⟩
theorem Sim.change1 (h : Sim w0 M N b0 nt β S w tm) (i r : Nat) (e : Ent) (y : Value)
    (hos : w'.os = w.os) (htape : w'.tape = w.tape) (hout : w'.output = w.output) (hsize : w.heap.size ≤ w'.heap.size)
    (hver : ∀ r1 e1, S.G i = some (r1, e1) → r1 ≤ r ∧ (r1 = r → y = β i))
    (hw : ∀ k, k < w.heap.size → (∀ r1 e1, S.G i = some (r1, e1) → e1.live → blk? (β i) ≠ some k) → w'.heap[k]? = w.heap[k]?)
    (hfr : ∀ b, e.live → blk? y = some b → b < w'.heap.size ∧ (w.heap.size ≤ b ∨ ∃ r1 e1, S.G i = some (r1, e1) ∧ e1.live ∧ blk? (β i) = some b))
    (hpin : 100000 ≤ i → ∃ x, S.G i = some x)
    (hnew : ∀ β' G', (β' = fun j => if j = i then y else β j) → G' = upd S.G i (some (r, e)) → (∀ b, okB w0 N β S.G w b → okB w0 N β' G' w' b ∧ w'.heap[b]? = w.heap[b]?) → Older β β' S.G G' → β' i = y → e.rep w' β' G' (okB w0 N β' G' w') i) :
    ∃ β', Sim w0 M N b0 nt β' (S.lay i (some (r, e))) w' tm ∧ β' i = y ∧ (∀ b, okB w0 N β S.G w b → okB w0 N β' (upd S.G i (some (r, e))) w' b ∧ w'.heap[b]? = w.heap[b]?) ∧ Older β β' S.G (upd S.G i (some (r, e))) := by
  have hi : (fun j => if j = i then y else β j) i = y := by simp
  obtain ⟨h1, h2, h3⟩ := h.change (w' := w') (β' := fun j => if j = i then y else β j) (fun j => j = i) (upd S.G i (some (r, e))) hos htape hout hsize
    (fun j hj => ⟨upd_ne _ _ hj, by simp [hj]⟩)
    (fun j r1 e1 hj hg => by
      subst hj
      obtain ⟨a, b⟩ := hver r1 e1 hg
      exact ⟨r, e, upd_same _ _ _, a, fun he => by simpa using b he⟩)
    (fun k hk hn => hw k hk fun r1 e1 hg hl => hn i r1 e1 rfl hg hl)
    (fun j r1 e1 b hj hg hl hb => by
      subst hj
      rw [upd_same] at hg
      obtain ⟨rfl, rfl⟩ := Prod.mk.inj (Option.some.inj hg)
      exact hfr b hl (by simpa using hb))
    (fun j hj hge => by subst hj; exact hpin hge)
    (fun a b _ _ _ _ _ ha hb _ _ _ _ _ _ _ => by rw [ha, hb])
    (fun hok hold j r1 e1 hj hg => by
      subst hj
      rw [upd_same] at hg
      obtain ⟨rfl, rfl⟩ := Prod.mk.inj (Option.some.inj hg)
      exact hnew _ _ rfl rfl hok hold (by simp))
  exact ⟨_, h1, by simp, h2, h3⟩
end
def isAggD : TypeDesc → Bool
  | .struct _ | .array _ _ => true
  | _ => false
def layP (P : Program) (t : TypeId) : Option (Bool × Nat) :=
  match P.underlying t, P.info? t with
  | some d, some i => some (isAggD d, i.size)
  | _, _ => none
def fldP (P : Program) (s f : Nat) : Option (Nat × Bool × Nat) :=
  match P.underlying s with
  | some (.struct fs) => match fs[f]? with
    | some fd => (layP P fd.type).map fun x => (fd.offset, x)
    | none => none
  | _ => none
def eltP (P : Program) (t : Nat) : Option (Option Nat × TypeId × Bool × Nat × Nat) :=
  match P.underlying t with
  | some (.slice e) => match layP P e, P.info? e with
    | some (a, k), some i => some (none, e, a, k, i.bytes)
    | _, _ => none
  | some (.array n e) => match layP P e, P.info? e with
    | some (a, k), some i => some (some n, e, a, k, i.bytes)
    | _, _ => none
  | _ => none
def zerP (P : Program) (t : Nat) : Option (List Value) :=
  match P.info? t with
  | some i => match i.zero with
    | some z => some z.cells.toList
    | none => none
  | none => none
def bldP (P : Program) (t : Nat) : Option (List Value × Option (List (Nat × Nat)) × Nat) :=
  match P.info? t, P.underlying t with
  | some it, some (.array _ e) => match it.zero, P.info? e with
    | some z, some ie => some (z.cells.toList, none, ie.size)
    | _, _ => none
  | some it, some (.struct fields) => match it.zero, fields.toList.mapM (fun f => (P.info? f.type).map fun i => (f.offset, i.size)) with
    | some z, some places => some (z.cells.toList, some places, 0)
    | _, _ => none
  | _, _ => none
def find1 {α : Type} : List (Nat × α) → Nat → Option α
  | [], _ => none
  | (k, x) :: l, i => bif Nat.beq k i then some x else find1 l i
theorem find1_mem {α : Type} {x : α} {i : Nat} : ∀ {l : List (Nat × α)}, find1 l i = some x → (i, x) ∈ l
  | [], h => by cases h
  | (k, y) :: l, h => by
    unfold find1 at h
    cases hk : Nat.beq k i with
    | true =>
      rw [hk] at h
      have e := Nat.eq_of_beq_eq_true hk
      subst e
      cases h
      exact List.mem_cons_self
    | false => rw [hk] at h; exact List.mem_cons_of_mem _ (find1_mem h)
structure Tab where
  lay : List (Nat × (Bool × Nat))
  fld : List (Nat × (Nat × Bool × Nat))
  elt : List (Nat × (Option Nat × TypeId × Bool × Nat × Nat))
  zer : List (Nat × List Value)
  bld : List (Nat × (List Value × Option (List (Nat × Nat)) × Nat))
structure TabOk (P : Program) (T : Tab) : Prop where
  lay : ∀ p ∈ T.lay, layP P p.1 = some p.2
  fld : ∀ p ∈ T.fld, fldP P (p.1 / 1000) (p.1 % 1000) = some p.2 ∧ 0 < p.2.2.2
  elt : ∀ p ∈ T.elt, eltP P p.1 = some p.2 ∧ 0 < p.2.2.2.2.1
  zer : ∀ p ∈ T.zer, zerP P p.1 = some p.2 ∧ p.2.all (·.oneCell') = true
  bld : ∀ p ∈ T.bld, bldP P p.1 = some p.2 ∧ p.2.1.all (·.oneCell') = true
def getO (x : Operand) (k : AV → AM) : AM :=
  match x with
  | .tmp t => .getS t k
  | .const v => .need (v.oneCell' = true) (k (.g (.one (.v v))))
  | .func f => k (.g (.one (.fn f [])))
  | .global _ => .fail
def getL : List Operand → (List AV → AM) → AM
  | [], k => k []
  | x :: l, k => getO x fun a => getL l fun as => k (a :: as)
def putD (d : Option Tmp) (x : AV) : AM :=
  match d with
  | some t => .putS t (some x) .done
  | none => .done
def delD (d : Option Tmp) : AM :=
  match d with
  | some t => .putS t none .done
  | none => .done
def pcs : List AC → Option (List Value)
  | [] => some []
  | .v x :: l => (pcs l).map (x :: ·)
  | _ :: _ => none
def pval : AV → Option Value
  | .g (.one (.v x)) => some x
  | .g (.agg cs) => (pcs cs).map fun l => .agg l.toArray
  | _ => none
def ofv (x : Value) : AV :=
  match x with
  | .agg cs => .g (.agg (cs.toList.map .v))
  | x => .g (.one (.v x))
def okv (x : Value) : Bool :=
  match x with
  | .agg cs => cs.toList.all (·.oneCell')
  | x => x.oneCell'
def getV (x : Operand) (k : Value → AM) : AM := getO x fun a => match pval a with
  | some v => k v
  | none => .fail
def getVs : List Operand → (List Value → AM) → AM
  | [], k => k []
  | x :: l, k => getV x fun a => getVs l fun as => k (a :: as)
def getVo : Option Operand → (Option Value → AM) → AM
  | none, k => k none
  | some x, k => getV x fun a => k (some a)
def exr (P : Program) (s : Sem Value) (d : Option Tmp) : AM := .exv (fun r => okv r = true ∧ ∀ w, s.run P w = .ok r w) fun r => putD d (ofv r)
def getSl (x : AV) (sz : Nat) (k : Nat → List Value → AM) : AM :=
  match x with
  | .g (.one (.ro z n l)) => .need (z = sz) (k n l)
  | .g (.one (.v (.slice none 0 0))) => k 0 []
  | .g (.one (.sl i r n)) => .getE i fun
    | some (r', .row e z l) => .need (r = r' ∧ z = sz ∧ 0 < z ∧ l.length = n * z) (k n l)
    | some (r', .fro z l) => .need (r = r' ∧ z = sz ∧ 0 < z ∧ l.length = n * z) (k n l)
    | _ => .fail
  | _ => .fail
def nid (d k : Nat) : Nat := d * 16 + k
def lay1 (i : Nat) (e : Ent) (k : Nat → AM) : AM := .need (i < 100000) <| .getE i fun
  | none => .putE i (some (0, e)) (k 0)
  | some (r, _) => .putE i (some (r + 1, e)) (k (r + 1))
def ofa (agg : Bool) (cs : List AC) : Option AV := if agg then some (.g (.agg cs)) else match cs with
  | [c] => some (.g (.one c))
  | _ => none
def cellsOf : AV → Option (List AC)
  | .g (.one c) => some [c]
  | .g (.agg cs) => some cs
  | _ => none
def orFail {α : Type _} (x : Option α) (k : α → AM) : AM := match x with
  | some a => k a
  | none => .fail
def splice {α : Type} (l : List α) (o : Nat) (m : List α) : List α := l.take o ++ m ++ l.drop (o + m.length)
def fillA (place : Nat → Option (Nat × Nat)) : List AC → List (Nat × AV) → Option (List AC)
  | cells, [] => some cells
  | cells, (i, v) :: rest => match place i, cellsOf v with
    | some (off, size), some cs => if cs.length = size ∧ off + size ≤ cells.length then fillA place (splice cells off cs) rest else none
    | _, _ => none
def getPs : List (Nat × Operand) → (List (Nat × AV) → AM) → AM
  | [], k => k []
  | (i, x) :: l, k => getO x fun a => getPs l fun as => k ((i, a) :: as)
def placeOf (places : Option (List (Nat × Nat))) (esz : Nat) (i : Nat) : Option (Nat × Nat) :=
  match places with
  | some l => l[i]?
  | none => some (i * esz, esz)
def isConst : Operand → Bool
  | .const _ => true
  | _ => false
def lo0 : Option Value → Option Int
  | none => some 0
  | some (.int _ l) => some l
  | _ => none
def hi0 (n : Nat) : Option Value → Option Int
  | none => some n
  | some (.int _ h) => some h
  | _ => none
def isRo : AV → Option Nat
  | .g (.one (.ro _ n _)) => some n
  | _ => none
def ptrsOf : List AV → Option (List (Nat × Nat))
  | [] => some []
  | .g (.one (.ptr i r 0)) :: l => match ptrsOf l with
    | some ps => some ((i, r) :: ps)
    | none => none
  | _ => none
def aop (P : Program) (T : Tab) (cf : FuncId → Option (List AV → Option Tmp → AM)) (o : Oper) : AM :=
  match o.op with
  | .move x | .assign x => getO x fun a => putD o.dst a
  | .pick c a b => getO c fun cv => match cv with
    | .g (.one (.v (.bool t))) => getO (if t then a else b) fun x => putD o.dst x
    | _ => .fail
  | .binOp op t x y _ => getO x fun a => match isRo a with
    | some n => .need (0 < n ∧ y = .const (.slice none 0 0)) (.exv (fun r => okv r = true ∧ ∀ b off c w, (do eqGuard op t x y (.slice (some ⟨b, off, none⟩) n c) (.slice none 0 0); binOp op t (.slice (some ⟨b, off, none⟩) n c) (.slice none 0 0)).run P w = .ok r w) fun r => putD o.dst (ofv r))
    | none => match pval a with
      | some a => getV y fun b => exr P (do eqGuard op t x y a b; binOp op t a b) o.dst
      | none => .need (a = .g (.one .er) ∧ y = .const .nilIface) (.exv (fun r : Value => okv r = true ∧ ∀ tt pp w, (do eqGuard op t x y (.iface tt pp) .nilIface; binOp op t (.iface tt pp) .nilIface : Sem Value).run P w = .ok r w) fun r => putD o.dst (ofv r))
  | .makeFunc fn first caps => match fn with
    | .func f => .need (first.size = 0) (getL caps.toList fun as => orFail (ptrsOf as) fun ps => putD o.dst (.g (.one (.fn f ps))))
    | _ => .fail
  | .unOp op _ x => getV x fun a => exr P (Op.unary op a) o.dst
  | .convert s d x => getO x fun a => match pval a with
    | some v => exr P (convert s d v) o.dst
    | none => getSl a 1 fun n l => .need (0 < n) (.exv (fun q : Value => okv q = true ∧ ∀ (w : World) (b off c : Nat), Cells w b off l → (convert s d (.slice (some ⟨b, off, none⟩) n c)).run P w = .ok q w) fun q => putD o.dst (ofv q))
  | .index t x y => getO x fun a => match pval a with
    | some u => getV y fun b => exr P (Instr.index t u b) o.dst
    | none => match a with
      | .g (.agg cs) => getV y fun b => orFail (find1 T.elt t) fun (arr, e, agg, sz, _) => match b with
        | .int _ j => .need (∃ n, arr = some n ∧ 0 ≤ j ∧ j < (n : Int) ∧ cs.length = n * sz) (orFail (ofa agg ((cs.drop (j.toNat * sz)).take sz)) fun y => putD o.dst y)
        | _ => .fail
      | _ => .fail
  | .extract x k => getO x fun a => match a with
    | .tup xs => orFail xs[k]? fun y => putD o.dst (.g y)
    | _ => .fail
  | .field s x f => getO x fun a => match a with
    | .g (.agg cs) => orFail (find1 T.fld (s * 1000 + f)) fun (off, agg, size) => .need (f < 1000 ∧ off + size ≤ cs.length) (orFail (ofa agg ((cs.drop off).take size)) fun y => putD o.dst y)
    | _ => .fail
  | .alloc t => orFail o.dst fun d => orFail (find1 T.zer t) fun z => lay1 (nid d 0) (.box (z.map .v)) fun r => putD o.dst (.g (.one (.ptr (nid d 0) r 0)))
  | .box t x => orFail o.dst fun d => getO x fun a => orFail (cellsOf a) fun cs => lay1 (nid d 0) (.box cs) fun r => putD o.dst (.g (.one (.ptr (nid d 0) r 0)))
  | .load t x => getO x fun a => orFail (find1 T.lay t) fun (agg, size) => match a with
    | .g (.one (.ptr i r off)) => .getE i fun
      | some (r', .box cs) => .need (r = r' ∧ off + size ≤ cs.length) (orFail (ofa agg ((cs.drop off).take size)) fun y => putD o.dst y)
      | some (r', .rbx cs) => .need (r = r' ∧ off + size ≤ cs.length) (orFail (ofa agg ((cs.drop off).take size)) fun y => putD o.dst y)
      | some (r', .row e sz l) => .need (r = r' ∧ off + size ≤ l.length) (orFail (ofa agg (((l.drop off).take size).map .v)) fun y => putD o.dst y)
      | _ => .fail
    | .g (.one (.rp l)) => .need (size ≤ l.length) (orFail (ofa agg ((l.take size).map .v)) fun y => putD o.dst y)
    | _ => .fail
  | .store t x y => getO x fun a => getO y fun b => orFail (find1 T.lay t) fun (agg, size) => orFail (cellsOf b) fun cs => match a with
    | .g (.one (.ptr i r off)) => .getE i fun
      | some (r', .box cells) => .need (r = r' ∧ cs.length = size ∧ off + size ≤ cells.length) (.putE i (some (r', .box (splice cells off cs))) (delD o.dst))
      | some (r', .row e sz l) => orFail (pcs cs) fun vs => .need (r = r' ∧ vs.length = size ∧ off + size ≤ l.length) (.putE i (some (r', .row e sz (splice l off vs))) (delD o.dst))
      | _ => .fail
    | _ => .fail
  | .nilCheck x => getO x fun a => match a with
    | .g (.one (.ptr i r off)) => .getE i fun
      | some (r', e) => .need (r = r') (putD o.dst a)
      | _ => .fail
    | .g (.one (.rp l)) => putD o.dst a
    | _ => .fail
  | .fieldAddr s x f => getO x fun a => orFail (find1 T.fld (s * 1000 + f)) fun (off, agg, size) => .need (f < 1000) <| match a with
    | .g (.one (.ptr i r b)) => .getE i fun
      | some (r', e) => .need (r = r') (putD o.dst (.g (.one (.ptr i r (b + off)))))
      | _ => .fail
    | .g (.one (.rp l)) => putD o.dst (.g (.one (.rp (l.drop off))))
    | _ => .fail
  | .indexAddr t x y => getO x fun a => getV y fun b => orFail (find1 T.elt t) fun (arr, e, agg, sz, _) => match b with
    | .int k j => match a with
      | .g (.one (.ptr i r off)) => match arr with
        | some n => .getE i fun
          | some (r', e) => .need (r = r' ∧ 0 ≤ j ∧ j < n) (putD o.dst (.g (.one (.ptr i r (off + j.toNat * sz)))))
          | _ => .fail
        | none => .fail
      | .g (.one (.sl i r n)) => match arr with
        | none => .getE i fun
          | some (r', .row e z l) => .need (r = r' ∧ z = sz ∧ 0 ≤ j ∧ j < n) (putD o.dst (.g (.one (.ptr i r (j.toNat * sz)))))
          | some (r', .fro z l) => .need (r = r' ∧ z = sz ∧ 0 ≤ j ∧ j < n ∧ n * sz ≤ l.length) (putD o.dst (.g (.one (.rp (l.drop (j.toNat * sz))))))
          | _ => .fail
        | some _ => .fail
      | .g (.one (.ro z n l)) => match arr with
        | none => .need (z = sz ∧ 0 ≤ j ∧ j < n) (putD o.dst (.g (.one (.rp (l.drop (j.toNat * sz))))))
        | _ => .fail
      | .g (.one (.sb i r n _)) => match arr with
        | none => .getE i fun
          | some (r', e) => .need (r = r' ∧ 0 ≤ j ∧ j < n) (putD o.dst (.g (.one (.ptr i r (j.toNat * sz)))))
          | _ => .fail
        | some _ => .fail
      | _ => .fail
    | _ => .fail
  | .build t ps => getPs ps.toList fun as => orFail (find1 T.bld t) fun (z, places, esz) => orFail (fillA (placeOf places esz) (z.map .v) as) fun cs => putD o.dst (.g (.agg cs))
  | .buildSlice t n ps => orFail o.dst fun d => getPs ps.toList fun as => orFail (find1 T.elt t) fun (arr, e, agg, sz, by') => orFail (find1 T.zer e) fun z => orFail (fillA (fun i => some (i * sz, sz)) ((List.replicate n z).flatten.map .v) as) fun cs => 
      .need (arr = none ∧ z.length = sz ∧ n * sz ≤ 1000 ∧ n ≤ 1000) (match pcs cs with
      | some l => lay1 (nid d 0) (.row (some e) sz l) fun r => putD o.dst (.g (.one (.sl (nid d 0) r n)))
      | none => lay1 (nid d 0) (.box cs) fun r => putD o.dst (.g (.one (.sb (nid d 0) r n n))))
  | .makeSlice t x y => orFail o.dst fun d => getV x fun a => getV y fun b => orFail (find1 T.elt t) fun (arr, e, agg, sz, by') => orFail (find1 T.zer e) fun z => match a, b with
    | .int _ n, .int _ c => .need (arr = none ∧ z.length = sz ∧ 0 ≤ n ∧ n ≤ c ∧ c ≤ 9223372036854775807 ∧ by' * c ≤ 281474976710656) (lay1 (nid d 0) (.row (some e) sz (List.replicate n.toNat z).flatten) fun r => putD o.dst (.g (.one (.sl (nid d 0) r n.toNat))))
    | _, _ => .fail
  | .slice t x lo hi mx => getO x fun a => getVo lo fun lv => getVo hi fun hv => getVo mx fun mv => match a with
    | .g (.one (.v (.string s))) => exr P (Instr.sliceAt t (.string s) lv hv mv) o.dst
    | .g (.one (.v (.slice none 0 0))) => orFail (find1 T.elt t) fun (arr, _) => orFail (lo0 lv) fun l => orFail (hi0 0 hv) fun h => orFail (hi0 0 mv) fun m => .need (arr = none ∧ l = 0 ∧ h = 0 ∧ m = 0 ∧ (hv = none → mv = none)) (putD o.dst a)
    | .g (.one (.ro z n c)) => orFail (find1 T.elt t) fun (arr, e, agg, sz, _) => orFail (lo0 lv) fun l => orFail (hi0 n hv) fun h => orFail (hi0 n mv) fun m => .need (arr = none ∧ z = sz ∧ 0 ≤ l ∧ l ≤ h ∧ h ≤ m ∧ m ≤ n ∧ (hv = none → mv = none)) (putD o.dst (.g (.one (.ro z (h - l).toNat ((c.drop (l.toNat * sz)).take ((h - l).toNat * sz))))))
    | .g (.one (.sl i r n)) => orFail (find1 T.elt t) fun (arr, e, agg, sz, _) => orFail (lo0 lv) fun l => orFail (hi0 n hv) fun h => orFail (hi0 n mv) fun m => .getE i fun
      | some (r', .row e' z c) => .need (r = r' ∧ arr = none ∧ z = sz ∧ n * sz ≤ c.length ∧ 0 ≤ l ∧ l ≤ h ∧ h ≤ m ∧ m ≤ n ∧ (hv = none → mv = none)) (match lv, mv with
        | none, none => putD o.dst (.g (.one (.sl i r h.toNat)))
        | none, some _ => .putE i (some (r' + 1, .row e' z (c.take (h.toNat * z)))) (putD o.dst (.g (.one (.sl i (r' + 1) h.toNat))))
        | _, _ => .need (i < 100000) (.putE i (some (r', .fro z c)) (putD o.dst (.g (.one (.ro z (h - l).toNat ((c.drop (l.toNat * sz)).take ((h - l).toNat * sz))))))))
      | some (r', .fro z c) => .need (r = r' ∧ arr = none ∧ z = sz ∧ n * sz ≤ c.length ∧ 0 ≤ l ∧ l ≤ h ∧ h ≤ m ∧ m ≤ n ∧ (hv = none → mv = none)) (putD o.dst (.g (.one (.ro z (h - l).toNat ((c.drop (l.toNat * sz)).take ((h - l).toNat * sz))))))
      | _ => .fail
    | _ => .fail
  | .call c => match c.callee with
    | .builtin .append => match c.args.toList, c.argTypes.toList with
      | [x, y], [t, t'] => getO x fun a => getO y fun b => orFail (find1 T.elt t) fun (arr, e, agg, sz, by') => orFail (find1 T.zer e) fun z => getSl b sz fun m news => .need (arr = none ∧ t' = t ∧ z.length = sz) <| match a with
        | .g (.one (.v (.slice none 0 0))) => orFail o.dst fun d => .need (m ≤ maxLen ∧ m * by' ≤ 140737488355328) (lay1 (nid d 0) (.row (some e) sz news) fun r => putD o.dst (.g (.one (.sl (nid d 0) r m))))
        | .g (.one (.sl i r n)) => .getE i fun
          | some (r', .row (some e') s l) => .need (r = r' ∧ e' = e ∧ s = sz ∧ n * sz ≤ l.length ∧ n + m ≤ maxLen ∧ (n + m) * by' ≤ 140737488355328)
            (.putE i (some (r' + 1, .row (some e) sz (l.take (n * sz) ++ news))) (putD o.dst (.g (.one (.sl i (r' + 1) (n + m))))))
          | _ => .fail
        | _ => .fail
      | _, _ => .fail
    | .builtin .len => match c.args.toList, c.argTypes.toList with
      | [x], [t] => getO x fun a => match a with
        | .g (.one (.v (.string s))) => .exv (fun r => okv r = true ∧ ∀ w, (builtin .len c.argTypes o.type (c.args.map isConst) #[.string s]).run P w = .ok (.value r) w) fun r => putD o.dst (ofv r)
        | _ => orFail (find1 T.elt t) fun (arr, e, agg, sz, _) => .need (arr = none) (match a with
          | .g (.one (.ro _ n _)) => putD o.dst (.g (.one (.v (.int .i64 n))))
          | .g (.one (.v (.slice none 0 0))) => putD o.dst (.g (.one (.v (.int .i64 (0 : Nat)))))
          | .g (.one (.sl i r n)) => .getE i fun
            | some (r', _) => .need (r = r') (putD o.dst (.g (.one (.v (.int .i64 n)))))
            | _ => .fail
          | .g (.one (.sb i r n _)) => .getE i fun
            | some (r', _) => .need (r = r') (putD o.dst (.g (.one (.v (.int .i64 n)))))
            | _ => .fail
          | _ => .fail)
      | _, _ => .fail
    | .builtin b => getVs c.args.toList fun vs => .exv (fun r => okv r = true ∧ ∀ w, (builtin b c.argTypes o.type (c.args.map isConst) vs.toArray).run P w = .ok (.value r) w) fun r => putD o.dst (ofv r)
    | .value f => getO f fun a => match a with
      | .g (.one (.fn f caps)) => getL c.args.toList fun as => orFail (cf f) fun m => m (as ++ caps.map fun p => .g (.one (.ptr p.1 p.2 0))) o.dst
      | _ => .fail
    | _ => .fail
  | _ => .fail
section
variable {P : Program} {w : World} {β : Nat → Value} {G : Blk} {ok : Nat → Prop}
theorem oneC {c : AC} {y : Value} (h : c.rep w β G ok y) : y.oneCell' = true := by
  cases c with
  | v x => obtain ⟨rfl, h1⟩ := h; exact h1
  | ro sz n l => obtain ⟨_, A, c, rfl, _⟩ := h; rfl
  | sl i r n => exact h.1
  | ptr i r o => exact h.1
  | rp l => obtain ⟨_, b, off, rfl, _⟩ := h; rfl
  | fn f c => obtain ⟨vs, rfl, _⟩ := h; rfl
  | er => exact h.1
  | sb i r n c => exact h.1
theorem one_cells {y : Value} (h : y.oneCell' = true) : y.cells = #[y] := by cases y <;> first | rfl | cases h
theorem cellsOf_rep {a : AV} {cs : List AC} {y : Value} (h : cellsOf a = some cs) (hr : a.rep w β G ok y) : CsRep w β G ok cs y.cells ∧ ∀ v ∈ y.cells.toList, v.oneCell' = true := by
  have key : ∀ (cs : List AC) (vs : Array Value), CsRep w β G ok cs vs → ∀ v ∈ vs.toList, v.oneCell' = true := by
    intro cs vs hc v hv
    obtain ⟨j, hj⟩ := List.getElem?_of_mem hv
    have hlt : j < vs.toList.length := (List.getElem?_eq_some_iff.1 hj).1
    have hlt2 : j < cs.length := by rw [← hc.1]; simpa using hlt
    obtain ⟨z, hz, hrz⟩ := hc.2 j cs[j] (List.getElem?_eq_getElem hlt2)
    have e : z = v := by
      have : vs[j]? = some v := by simpa using hj
      rw [hz] at this; exact Option.some.inj this
    rw [← e]; exact oneC hrz
  unfold cellsOf at h
  split at h
  · rename_i c
    cases h
    have h1 : c.rep w β G ok y := hr
    have hc : CsRep w β G ok [c] y.cells := by
      rw [one_cells (oneC h1)]
      refine ⟨rfl, fun j d hj => ?_⟩
      match j, hj with
      | 0, hj => cases hj; exact ⟨y, rfl, h1⟩
    exact ⟨hc, key _ _ hc⟩
  · cases h
    obtain ⟨vs, rfl, hc⟩ := hr
    exact ⟨hc, key _ _ hc⟩
  · cases h
theorem pcs_get : ∀ {cs : List AC} {l : List Value}, pcs cs = some l → cs = l.map .v
  | [], l, h => by simp [pcs] at h; subst h; rfl
  | c :: cs, l, h => by
    cases c with
    | v x =>
      simp only [pcs, Option.map_eq_some_iff] at h
      obtain ⟨m, hm, rfl⟩ := h
      simp [pcs_get hm]
    | _ => simp [pcs] at h
theorem csRep_map {l : List Value} {vs : Array Value} (h : CsRep w β G ok (l.map .v) vs) : vs = l.toArray ∧ l.all (·.oneCell') = true := by
  obtain ⟨h1, h2⟩ := h
  have key : ∀ (j : Nat) (x : Value), l[j]? = some x → vs[j]? = some x ∧ x.oneCell' = true := by
    intro j x hx
    obtain ⟨z, hz, hr⟩ := h2 j (.v x) (by simp [hx])
    obtain ⟨rfl, h3⟩ := hr
    exact ⟨hz, h3⟩
  refine ⟨?_, ?_⟩
  · apply Array.ext_getElem?
    intro j
    by_cases hj : j < l.length
    · rw [(key j l[j] (List.getElem?_eq_getElem hj)).1]; simp [hj]
    · have hj2 : vs.size ≤ j := by rw [h1]; simpa using hj
      rw [Array.getElem?_eq_none hj2]
      simp; omega
  · rw [List.all_eq_true]
    intro x hx
    obtain ⟨j, hj⟩ := List.getElem?_of_mem hx
    exact (key j x hj).2
theorem csRep_of {l : List Value} (h : l.all (·.oneCell') = true) : CsRep w β G ok (l.map .v) l.toArray := by
  refine ⟨by simp, fun j c hc => ?_⟩
  simp only [List.getElem?_map, Option.map_eq_some_iff] at hc
  obtain ⟨x, hx, rfl⟩ := hc
  exact ⟨x, by simpa using hx, rfl, (List.all_eq_true.1 h) x (List.mem_of_getElem? hx)⟩
theorem pval_rep {a : AV} {x y : Value} (h : pval a = some x) (hr : a.rep w β G ok y) : y = x := by
  unfold pval at h
  split at h
  · cases h; exact hr.1
  · obtain ⟨vs, rfl, hc⟩ := hr
    simp only [Option.map_eq_some_iff] at h
    obtain ⟨l, hl, rfl⟩ := h
    rw [pcs_get hl] at hc
    rw [(csRep_map hc).1]
  · cases h
theorem ofv_rep {x : Value} (h : okv x = true) : (ofv x).rep w β G ok x := by
  unfold ofv
  split
  · rename_i cs
    refine ⟨cs, rfl, ?_⟩
    have := csRep_of (w := w) (β := β) (G := G) (ok := ok) (l := cs.toList) h
    simpa using this
  · refine ⟨rfl, ?_⟩
    unfold okv at h
    split at h
    · rename_i cs hne; exact absurd rfl (hne _)
    · exact h
end
theorem wp_value {P : Program} {o : Oper} {a : Act} {w w' : World} {v : Value} {next : Act → World → Prop} {Q : Exit → Act → World → Prop}
    (hr : (execOp a.eval o).run P w = .ok (.value v) w') (hn : next (a.put o.dst v) w') : o.wp P a w next Q := by
  unfold Oper.wp; rw [hr]; exact hn
theorem wp_skipv {P : Program} {o : Oper} {a : Act} {w w' : World} {next : Act → World → Prop} {Q : Exit → Act → World → Prop}
    (hr : (execOp a.eval o).run P w = .ok .skip w') (hn : next (a.put o.dst undef) w') : o.wp P a w next Q := by
  unfold Oper.wp; rw [hr]; exact hn
section
variable {P : Program} {T : Tab} {F : Ft} {S : St} {K : St → Prop} {w0 w : World} {M N : Nat → Prop} {b0 : Nat → Value} {nt : Nat} {β : Nat → Value} {tm : Array Value} {ds : List Deferred}
theorem getO_run {x : Operand} {k : AV → AM} (h : (getO x k).run F S K) (hs : Sim w0 M N b0 nt β S w tm) : ∃ a, (k a).run F S K ∧ a.rep w β S.G (okB w0 N β S.G w) (Act.eval ⟨tm, ds⟩ x) := by
  cases x with
  | tmp t =>
    obtain ⟨_, a, ha, hk⟩ := h
    exact ⟨a, hk, (hs.env t a ha).2⟩
  | const v => exact ⟨_, h.2, rfl, h.1⟩
  | global g => exact h.elim
  | func f => exact ⟨_, h, #[], rfl, rfl, fun j p hp => by simp at hp⟩
theorem getV_run {x : Operand} {k : Value → AM} (h : (getV x k).run F S K) (hs : Sim w0 M N b0 nt β S w tm) : (k (Act.eval ⟨tm, ds⟩ x)).run F S K := by
  obtain ⟨a, ha, hr⟩ := getO_run (ds := ds) h hs
  cases hv : pval a with
  | none => simp only [hv] at ha; exact ha.elim
  | some v =>
    simp only [hv] at ha
    rw [pval_rep hv hr]; exact ha
theorem putD_run {d : Option Tmp} {x : AV} {v : Value} {next : Act → World → Prop} (h : (putD d x).run F S K) (hs : Sim w0 M N b0 nt β S w tm) (hd : ∀ t, d = some t → t < nt)
    (hv : x.rep w β S.G (okB w0 N β S.G w) v) (hn : ∀ S' β' w' tm', K S' → Sim w0 M N b0 nt β' S' w' tm' → next ⟨tm', ds⟩ w') : next (Act.put ⟨tm, ds⟩ d v) w := by
  cases d with
  | none => exact hn _ _ _ _ h hs
  | some t => exact hn _ _ _ _ h.2 (hs.put (hd t rfl) hv)
theorem delD_run {d : Option Tmp} {v : Value} {next : Act → World → Prop} (h : (delD d).run F S K) (hs : Sim w0 M N b0 nt β S w tm)
    (hn : ∀ S' β' w' tm', K S' → Sim w0 M N b0 nt β' S' w' tm' → next ⟨tm', ds⟩ w') : next (Act.put ⟨tm, ds⟩ d v) w := by
  cases d with
  | none => exact hn _ _ _ _ h hs
  | some t => exact hn _ _ _ _ h.2 (hs.del t v)
theorem orFail_run {α : Type _} {x : Option α} {k : α → AM} (h : (orFail x k).run F S K) : ∃ a, x = some a ∧ (k a).run F S K := by
  cases x with
  | none => exact h.elim
  | some a => exact ⟨a, rfl, h⟩
theorem Sim.cur_ptr (hs : Sim w0 M N b0 nt β S w tm) {i r off : Nat} {e : Ent} {y : Value} (h : PtrRep β S.G i r off y) (he : S.G i = some (r, e)) : ∃ b, blk? (β i) = some b ∧ y = .pointer (some ⟨b, off, none⟩) := by
  obtain ⟨_, r', e', h1, h2, h3⟩ := h
  rw [he] at h1
  obtain ⟨rfl, _⟩ := Prod.mk.inj (Option.some.inj h1)
  exact h3 rfl
theorem Sim.cur_sb (hs : Sim w0 M N b0 nt β S w tm) {i r n c : Nat} {e : Ent} {y : Value} (h : SbRep β S.G i r n c y) (he : S.G i = some (r, e)) :
    ∃ b, blk? (β i) = some b ∧ y = .slice (some ⟨b, 0, none⟩) n c := by
  obtain ⟨_, r1, e1, g1, g2, g3⟩ := h
  rw [he] at g1
  cases g1
  obtain ⟨b, q1, q2, _⟩ := g3 rfl
  exact ⟨b, q1, q2⟩
theorem Sim.cur_box (hs : Sim w0 M N b0 nt β S w tm) {i r off : Nat} {cs : List AC} {y : Value} (h : PtrRep β S.G i r off y) (he : S.G i = some (r, .box cs)) :
    ∃ g vs t, y = .pointer (some ⟨g, off, none⟩) ∧ β i = .pointer (some ⟨g, 0, none⟩) ∧ w.heap[g]? = some (.cells vs t (0, 0)) ∧ CsRep w β S.G (okB w0 N β S.G w) cs vs := by
  obtain ⟨b, hb, rfl⟩ := hs.cur_ptr h he
  obtain ⟨g, vs, t, h1, h2, h3⟩ := hs.ents i r _ he
  rw [h1] at hb
  cases hb
  exact ⟨g, vs, t, rfl, h1, h2, h3⟩
theorem Sim.cur_row (hs : Sim w0 M N b0 nt β S w tm) {i r off : Nat} {e : Option TypeId} {sz : Nat} {l : List Value} {y : Value} (h : PtrRep β S.G i r off y) (he : S.G i = some (r, .row e sz l)) :
    ∃ g n e' cap cur, y = .pointer (some ⟨g, off, none⟩) ∧ β i = .slice (some ⟨g, 0, none⟩) n cap ∧ w.heap[g]? = some (.cells cur e' (0, 0)) ∧ n ≤ cap ∧ cap ≤ maxLen ∧ cap * sz ≤ cur.size ∧ cur.toList.take (n * sz) = l ∧ l.length = n * sz ∧ (∀ x, e = some x → x = e') ∧ l.all (·.oneCell') = true := by
  obtain ⟨b, hb, rfl⟩ := hs.cur_ptr h he
  obtain ⟨h0, e', n, h1, h2, h3⟩ := hs.ents i r _ he
  rcases h3 with ⟨h3, _⟩ | ⟨g, cap, cur, h3, _, h4, h5, h6, h7, h8⟩
  · rw [h3] at hb; cases hb
  · rw [h3] at hb; cases hb
    exact ⟨g, n, e', cap, cur, rfl, h3, h4, h5, h6, h7, h8, h2, h1, h0⟩
end
theorem add_lit (b off j : Nat) : (⟨b, off, none⟩ : Addr).add j = ⟨b, off + j, none⟩ := by unfold Addr.add; split <;> simp_all
section
variable {P : Program}
theorem run_isAgg {t : TypeId} {a : Bool} {k : Nat} (h : layP P t = some (a, k)) (w : World) : (isAgg t).run P w = .ok a w ∧ (sizeOf t).run P w = .ok k w := by
  unfold layP at h
  cases hu : P.underlying t with
  | none => simp [hu] at h
  | some d =>
    cases hi : P.info? t with
    | none => simp [hu, hi] at h
    | some i =>
      simp only [hu, hi, Option.some.injEq, Prod.mk.injEq] at h
      obtain ⟨rfl, rfl⟩ := h
      refine ⟨?_, by simp [sizeOf, typeInfo, hi]⟩
      unfold isAgg
      rw [Sem.run_bind, run_underlying hu w]
      cases d <;> simp [isAggD]
theorem run_load_cells {t : TypeId} {a : Bool} {k : Nat} (h : layP P t = some (a, k)) {w : World} {b off : Nat} {l : List Value} (hl : l.length = k) (hc : Cells w b off l) (ha : a = false → k = 1) :
    (Instr.loadAt t (.pointer (some ⟨b, off, none⟩))).run P w = .ok (if a then .agg l.toArray else l.getD 0 undef) w := by
  have h1 := run_isAgg h w
  subst hl
  have h2 := run_loadCells_list (P := P) w ⟨b, off, none⟩ l (fun j v hv => by rw [add_lit]; exact hc j v hv)
  cases a with
  | true =>
    simp only [Instr.loadAt, Instr.sureAddr, Sem.run_bind, Sem.run_pure, Result.andThen_ok, loadVar, h1.1, h1.2, if_true, h2]
  | false =>
    have hk := ha rfl
    cases l with
    | nil => simp at hk
    | cons x l =>
      have := hc 0 x rfl
      simp only [Nat.add_zero] at this
      simp [Instr.loadAt, Instr.sureAddr, loadVar, h1.1, this]
end
section
variable {P : Program} {T : Tab} {F : Ft} {S : St} {K : St → Prop} {w0 w : World} {M N : Nat → Prop} {b0 : Nat → Value} {nt : Nat} {β : Nat → Value} {tm : Array Value} {ds : List Deferred} {next : Act → World → Prop} {Q : Exit → Act → World → Prop} {o : Oper}
def Nx (w0 : World) (M N : Nat → Prop) (b0 : Nat → Value) (nt : Nat) (ds : List Deferred) (K : St → Prop) (next : Act → World → Prop) : Prop := ∀ S' β' w' tm', K S' → Sim w0 M N b0 nt β' S' w' tm' → next ⟨tm', ds⟩ w'
theorem exr_sound {s : Sem Value} (h : (exr P s o.dst).run F S K) (hs : Sim w0 M N b0 nt β S w tm) (hd : ∀ t, o.dst = some t → t < nt) (hn : Nx w0 M N b0 nt ds K next)
    (he : execOp (Act.eval ⟨tm, ds⟩) o = (do pure (.value (← s)) : Sem Next)) : o.wp P ⟨tm, ds⟩ w next Q := by
  obtain ⟨r, ⟨h1, h2⟩, h3⟩ := h
  refine wp_value (v := r) (w' := w) ?_ (putD_run h3 hs hd (ofv_rep h1) hn)
  rw [he]; simp [h2]
theorem ofa_rep {agg : Bool} {cs : List AC} {vs : List Value} {x : AV} (h : ofa agg cs = some x) (hl : vs.length = cs.length) (hc : ∀ (j : Nat) (c : AC), cs[j]? = some c → ∃ z, vs[j]? = some z ∧ c.rep w β S.G (okB w0 N β S.G w) z) :
    x.rep w β S.G (okB w0 N β S.G w) (if agg then .agg vs.toArray else vs.getD 0 undef) ∧ (agg = false → cs.length = 1) := by
  unfold ofa at h
  cases agg with
  | true =>
    simp only [if_true, Option.some.injEq] at h
    subst h
    refine ⟨⟨vs.toArray, rfl, by simpa using hl, fun j c hj => ?_⟩, fun hf => by cases hf⟩
    obtain ⟨z, hz, hr⟩ := hc j c hj
    exact ⟨z, by simpa using hz, hr⟩
  | false =>
    match cs, h with
    | [c], h =>
      simp only [Bool.false_eq_true, if_false, Option.some.injEq] at h
      subst h
      obtain ⟨z, hz, hr⟩ := hc 0 c rfl
      refine ⟨?_, fun _ => rfl⟩
      show c.rep _ _ _ _ _
      rw [if_neg (by simp), List.getD_eq_getElem?_getD, hz]; exact hr
theorem cells_of_heap {w : World} {g : Nat} {vs : Array Value} {t : TypeId} {fr : Nat × Nat} (h : w.heap[g]? = some (.cells vs t fr)) (off : Nat) (k : Nat) : Cells w g off ((vs.toList.drop off).take k) := by
  intro j x hj
  rw [cell_of_row w g _ vs t fr h]
  rw [List.getElem?_take] at hj
  split at hj
  · rw [List.getElem?_drop] at hj
    simpa using hj
  · cases hj
theorem csRep_part {cs : List AC} {vs : Array Value} {ok : Nat → Prop} {G : Blk} (h : CsRep w β G ok cs vs) (off k : Nat) :
    ((vs.toList.drop off).take k).length = ((cs.drop off).take k).length ∧ ∀ (j : Nat) (c : AC), ((cs.drop off).take k)[j]? = some c → ∃ z, ((vs.toList.drop off).take k)[j]? = some z ∧ c.rep w β G ok z := by
  refine ⟨by simp [h.1], fun j c hj => ?_⟩
  rw [List.getElem?_take] at hj ⊢
  split at hj
  · rename_i hlt
    rw [if_pos hlt]
    rw [List.getElem?_drop] at hj ⊢
    obtain ⟨z, hz, hr⟩ := h.2 _ c hj
    exact ⟨z, by simpa using hz, hr⟩
  · cases hj
theorem fld_facts (hT : TabOk P T) {s f off size : Nat} {agg : Bool} (h : find1 T.fld (s * 1000 + f) = some (off, agg, size)) (hf : f < 1000) :
    ∃ fs fd, P.underlying s = some (.struct fs) ∧ fs[f]? = some fd ∧ layP P fd.type = some (agg, size) ∧ fd.offset = off ∧ 0 < size := by
  have h1 := hT.fld _ (find1_mem h)
  have e1 : (s * 1000 + f) / 1000 = s := by omega
  have e2 : (s * 1000 + f) % 1000 = f := by omega
  simp only [e1, e2] at h1
  obtain ⟨h1, h2⟩ := h1
  unfold fldP at h1
  split at h1
  · rename_i fs hfs
    split at h1
    · rename_i fd hfd
      simp only [Option.map_eq_some_iff, Prod.mk.injEq] at h1
      obtain ⟨x, hx, rfl, rfl⟩ := h1
      exact ⟨fs, fd, hfs, hfd, hx, rfl, h2⟩
    · cases h1
  · cases h1
theorem cut_rep {l : List Value} (h : l.all (·.oneCell') = true) (off size : Nat) : ∀ (j : Nat) (c : AC), (((l.drop off).take size).map AC.v)[j]? = some c → ∃ z, ((l.drop off).take size)[j]? = some z ∧ c.rep w β S.G (okB w0 N β S.G w) z := by
  intro j c hj
  simp only [List.getElem?_map, Option.map_eq_some_iff] at hj
  obtain ⟨z, hz, rfl⟩ := hj
  exact ⟨z, hz, rfl, (List.all_eq_true.1 h) z (List.mem_of_mem_drop (List.mem_of_mem_take (List.mem_of_getElem? hz)))⟩
theorem row_cells {w : World} {g : Nat} {cur : Array Value} {t : TypeId} {fr : Nat × Nat} {l : List Value} {n : Nat} (h : w.heap[g]? = some (.cells cur t fr)) (hl : cur.toList.take n = l) (off k : Nat) : Cells w g off ((l.drop off).take k) := by
  intro j x hj
  rw [cell_of_row w g _ cur t fr h]
  rw [List.getElem?_take] at hj
  split at hj
  · rw [List.getElem?_drop, ← hl, List.getElem?_take] at hj
    split at hj
    · simpa using hj
    · cases hj
  · cases hj
theorem Cells.part {w : World} {b off : Nat} {l : List Value} (h : Cells w b off l) (i k : Nat) : Cells w b (off + i) ((l.drop i).take k) := by
  intro j x hj
  rw [List.getElem?_take] at hj
  split at hj
  · rw [List.getElem?_drop] at hj
    have := h _ x hj
    rw [Nat.add_assoc]; exact this
  · cases hj
variable {cf : FuncId → Option (List AV → Option Tmp → AM)}
theorem s_field (hT : TabOk P T) {s f : Nat} {x : Operand} (ho : o.op = .field s x f) (h : (aop P T cf o).run F S K) (hs : Sim w0 M N b0 nt β S w tm) (hd : ∀ t, o.dst = some t → t < nt) (hn : Nx w0 M N b0 nt ds K next) : o.wp P ⟨tm, ds⟩ w next Q := by
  simp only [aop, ho] at h
  obtain ⟨a, h, hr⟩ := getO_run (ds := ds) h hs
  match a, h, hr with
  | .g (.agg cs), h, hr =>
    obtain ⟨⟨off, agg, size⟩, hf, h⟩ := orFail_run h
    obtain ⟨⟨hlt, hle⟩, h⟩ := h
    obtain ⟨y, hy, hk⟩ := orFail_run h
    obtain ⟨vs, hv, hc⟩ := hr
    obtain ⟨fs, fd, h1, h2, h3, rfl, h4⟩ := fld_facts hT hf hlt
    obtain ⟨p1, p2⟩ := csRep_part hc fd.offset size
    obtain ⟨q1, q2⟩ := ofa_rep hy p1 p2
    refine wp_value (w' := w) ?_ (putD_run hk hs hd q1 hn)
    have ha := run_isAgg h3 w
    unfold execOp
    simp only [ho, hv, Instr.field, Sem.run_bind, run_underlying h1, Result.andThen_ok, h2, asAgg, Sem.run_pure, part, ha.1]
    cases agg with
    | true =>
      simp only [if_true, Sem.run_bind, ha.2, Result.andThen_ok, Sem.run_pure]
      congr 3
      apply Array.ext'
      simp only [Array.toList_extract, List.extract_eq_take_drop]
      congr 1
      omega
    | false =>
      have hlen : fd.offset < vs.size := by rw [hc.1]; simp only at hle; omega
      have hsz : 0 < size := h4
      simp [hlen, hsz, List.getElem?_drop]
theorem s_load (hT : TabOk P T) {t : Nat} {x : Operand} (ho : o.op = .load t x) (h : (aop P T cf o).run F S K) (hs : Sim w0 M N b0 nt β S w tm) (hd : ∀ t, o.dst = some t → t < nt) (hn : Nx w0 M N b0 nt ds K next) : o.wp P ⟨tm, ds⟩ w next Q := by
  simp only [aop, ho] at h
  obtain ⟨a, h, hr⟩ := getO_run (ds := ds) h hs
  obtain ⟨⟨agg, size⟩, hl, h⟩ := orFail_run h
  have hlay := hT.lay _ (find1_mem hl)
  have fin : ∀ (b off : Nat) (vs : List Value) (y : AV), Act.eval ⟨tm, ds⟩ x = .pointer (some ⟨b, off, none⟩) → vs.length = size → Cells w b off vs → (agg = false → size = 1) → y.rep w β S.G (okB w0 N β S.G w) (if agg then .agg vs.toArray else vs.getD 0 undef) → (putD o.dst y).run F S K → o.wp P ⟨tm, ds⟩ w next Q := by
    intro b off vs y he hlen hc ha hy hput
    refine wp_value (w' := w) ?_ (putD_run hput hs hd hy hn)
    unfold execOp
    simp only [ho, he, Sem.run_bind, run_load_cells hlay hlen hc ha, Result.andThen_ok, Sem.run_pure]
  match a, h, hr with
  | .g (.one (.ptr i r off)), h, hr =>
    obtain ⟨_, h⟩ := h
    dsimp only at h
    split at h
    · rename_i r' cs hG
      obtain ⟨⟨rfl, hle⟩, h⟩ := h
      obtain ⟨y, hy, h⟩ := orFail_run h
      obtain ⟨g, vs, t', he, _, hh, hc⟩ := hs.cur_box hr hG
      obtain ⟨p1, p2⟩ := csRep_part hc off size
      obtain ⟨q1, q2⟩ := ofa_rep hy p1 p2
      have hlen : ((vs.toList.drop off).take size).length = size := by simp [hc.1]; omega
      exact fin g off _ y he hlen (cells_of_heap hh off size) (fun hf => by have := q2 hf; simp at this; omega) q1 h
    · rename_i r' cs hG
      obtain ⟨⟨rfl, hle⟩, h⟩ := h
      obtain ⟨y, hy, h⟩ := orFail_run h
      obtain ⟨b, hb, he⟩ := hs.cur_ptr hr hG
      obtain ⟨g, vs, t', fr, hβ, hh, hc, _⟩ := hs.ents i r _ hG
      rw [hβ] at hb
      cases hb
      obtain ⟨p1, p2⟩ := csRep_part hc off size
      obtain ⟨q1, q2⟩ := ofa_rep hy p1 p2
      have hlen : ((vs.toList.drop off).take size).length = size := by simp [hc.1]; omega
      exact fin g off _ y he hlen (cells_of_heap hh off size) (fun hf => by have := q2 hf; simp at this; omega) q1 h
    · rename_i r' e sz l hG
      obtain ⟨⟨rfl, hle⟩, h⟩ := h
      obtain ⟨y, hy, h⟩ := orFail_run h
      obtain ⟨g, n, e', cap, cur, he, _, hh, h1, _, h2, h3, h4, _, h5⟩ := hs.cur_row hr hG
      have hlen : ((l.drop off).take size).length = size := by simp; omega
      obtain ⟨q1, q2⟩ := ofa_rep hy (by simp) (cut_rep h5 off size)
      exact fin g off _ y he hlen (row_cells hh h3 off size) (fun hf => by have := q2 hf; simp at this; omega) q1 h
    · exact h.elim
  | .g (.one (.rp l)), h, hr =>
    obtain ⟨hle, h⟩ := h
    obtain ⟨y, hy, h⟩ := orFail_run h
    obtain ⟨h5, b, off, he, _, hc⟩ := hr
    have hc' := hc.part 0 size
    have hq := cut_rep (S := S) (w0 := w0) (w := w) (β := β) (N := N) h5 0 size
    simp only [List.drop_zero, Nat.add_zero] at hc' hq
    have hlen : (l.take size).length = size := by simp; omega
    obtain ⟨q1, q2⟩ := ofa_rep hy (by simp) hq
    exact fin b off _ y he hlen hc' (fun hf => by have := q2 hf; simp at this; omega) q1 h
end
section
variable {P : Program} {T : Tab} {F : Ft} {S : St} {K : St → Prop} {w0 w w' : World} {M N : Nat → Prop} {b0 : Nat → Value} {nt : Nat} {β : Nat → Value} {tm : Array Value} {ds : List Deferred} {next : Act → World → Prop} {Q : Exit → Act → World → Prop} {o : Oper}
variable {cf : FuncId → Option (List AV → Option Tmp → AM)}
theorem lay1_run {i : Nat} {e : Ent} {k : Nat → AM} (h : (lay1 i e k).run F S K) (hs : Sim w0 M N b0 nt β S w tm) (y : Value) (hl : e.live)
    (hos : w'.os = w.os) (htape : w'.tape = w.tape) (hout : w'.output = w.output) (hsize : w.heap.size ≤ w'.heap.size)
    (hw : ∀ k, k < w.heap.size → w'.heap[k]? = w.heap[k]?)
    (hb : ∀ b, blk? y = some b → b < w'.heap.size ∧ w.heap.size ≤ b)
    (hnew : ∀ β' G', (∀ b, okB w0 N β S.G w b → okB w0 N β' G' w' b ∧ w'.heap[b]? = w.heap[b]?) → Older β β' S.G G' → β' i = y → e.rep w' β' G' (okB w0 N β' G' w') i) :
    ∃ r β', (k r).run F (S.lay i (some (r, e))) K ∧ Sim w0 M N b0 nt β' (S.lay i (some (r, e))) w' tm ∧ β' i = y ∧ (∀ b, okB w0 N β S.G w b → okB w0 N β' (upd S.G i (some (r, e))) w' b ∧ w'.heap[b]? = w.heap[b]?) ∧ Older β β' S.G (upd S.G i (some (r, e))) := by
  obtain ⟨hlt, _, h⟩ := h
  have key : ∀ r, (∀ r1 e1, S.G i = some (r1, e1) → r1 < r) → (k r).run F (S.lay i (some (r, e))) K → ∃ r β', (k r).run F (S.lay i (some (r, e))) K ∧ Sim w0 M N b0 nt β' (S.lay i (some (r, e))) w' tm ∧ β' i = y ∧ (∀ b, okB w0 N β S.G w b → okB w0 N β' (upd S.G i (some (r, e))) w' b ∧ w'.heap[b]? = w.heap[b]?) ∧ Older β β' S.G (upd S.G i (some (r, e))) := by
    intro r hr hk
    obtain ⟨β', h1, h2, h3, h4⟩ := hs.change1 (w' := w') i r e y hos htape hout hsize (fun r1 e1 hg => by have := hr r1 e1 hg; exact ⟨by omega, fun he => by omega⟩)
      (fun k hk _ => hw k hk) (fun b _ hbb => ⟨(hb b hbb).1, .inl (hb b hbb).2⟩) (fun hge => by omega) (fun β' G' _ _ hok hold hβ => hnew β' G' hok hold hβ)
    exact ⟨r, β', hk, h1, h2, h3, h4⟩
  dsimp only at h
  split at h
  · rename_i hG
    obtain ⟨_, h⟩ := h
    exact key 0 (fun r1 e1 hg => by rw [hG] at hg; cases hg) h
  · rename_i r e' hG
    obtain ⟨_, h⟩ := h
    exact key (r + 1) (fun r1 e1 hg => by rw [hG] at hg; cases hg; omega) h
theorem ptr_new {i r : Nat} {e : Ent} {β' : Nat → Value} {G : Blk} {g : Nat} {y : Value} (hb : β' i = y) (hy : blk? y = some g) : PtrRep β' (upd G i (some (r, e))) i r 0 (.pointer (some ⟨g, 0, none⟩)) :=
  ⟨rfl, r, e, upd_same _ _ _, Nat.le_refl _, fun _ => ⟨g, by rw [hb]; exact hy, rfl⟩⟩
theorem orFail_dst {k : Nat → AM} (h : (orFail o.dst k).run F S K) : ∃ d, o.dst = some d ∧ (k d).run F S K := orFail_run h
theorem fin_box {d : Nat} {cs : List AC} {vs : Array Value} {t : TypeId} (hs : Sim w0 M N b0 nt β S w tm) (hd : ∀ t, o.dst = some t → t < nt) (hn : Nx w0 M N b0 nt ds K next) (hdst : o.dst = some d)
    (h : (lay1 (nid d 0) (.box cs) fun r => putD o.dst (.g (.one (.ptr (nid d 0) r 0)))).run F S K) (hc : CsRep w β S.G (okB w0 N β S.G w) cs vs)
    (he : (execOp (Act.eval ⟨tm, ds⟩) o).run P w = .ok (.value (.pointer (some ⟨w.heap.size, 0, none⟩))) (w.alloc (.cells vs t))) : o.wp P ⟨tm, ds⟩ w next Q := by
  obtain ⟨r, β', h1, h2, h3, h4, h5⟩ := lay1_run h hs (w' := w.alloc (.cells vs t)) (.pointer (some ⟨w.heap.size, 0, none⟩)) trivial rfl rfl rfl (by simp) (fun k hk => Below.heap_alloc w (.cells vs t) k hk)
    (fun b hb => by cases hb; simp)
    (fun β' G' hok hold hβ => ⟨w.heap.size, vs, t, hβ, heap_alloc_new w (.cells vs t), hc.mono hok hold⟩)
  exact wp_value he (putD_run h1 h2 hd (ptr_new h3 rfl) hn)
theorem s_box {t : Nat} {x : Operand} (ho : o.op = .box t x) (h : (aop P T cf o).run F S K) (hs : Sim w0 M N b0 nt β S w tm) (hd : ∀ t, o.dst = some t → t < nt) (hn : Nx w0 M N b0 nt ds K next) : o.wp P ⟨tm, ds⟩ w next Q := by
  simp only [aop, ho] at h
  obtain ⟨d, hdst, h⟩ := orFail_dst h
  obtain ⟨a, h, hr⟩ := getO_run (ds := ds) h hs
  obtain ⟨cs, hcs, h⟩ := orFail_run h
  have hc := (cellsOf_rep hcs hr).1
  refine fin_box (t := t) hs hd hn hdst h hc ?_
  unfold execOp
  simp only [ho, Instr.box, newVar, newRow]
  rfl
theorem s_alloc (hT : TabOk P T) {t : Nat} (ho : o.op = .alloc t) (h : (aop P T cf o).run F S K) (hs : Sim w0 M N b0 nt β S w tm) (hd : ∀ t, o.dst = some t → t < nt) (hn : Nx w0 M N b0 nt ds K next) : o.wp P ⟨tm, ds⟩ w next Q := by
  simp only [aop, ho] at h
  obtain ⟨d, hdst, h⟩ := orFail_dst h
  obtain ⟨z, hz, h⟩ := orFail_run h
  obtain ⟨h1, h2⟩ := hT.zer _ (find1_mem hz)
  refine fin_box (t := t) hs hd hn hdst h (csRep_of h2) ?_
  unfold zerP at h1
  dsimp only at h1
  split at h1
  · rename_i i hi
    split at h1
    · rename_i z' hz'
      have e1 : z'.cells.toList = z := Option.some.inj h1
      have e2 : z.toArray = z'.cells := by rw [← e1]
      have hzv : (zeroValue t).run P w = .ok z' w := by simp [zeroValue, typeInfo, hi, hz']
      unfold execOp
      rw [e2]
      simp only [ho, Instr.alloc, Sem.run_bind, hzv, Result.andThen_ok, newVar, newRow]
      rfl
    · cases h1
  · cases h1
theorem run_store_cells {t : TypeId} {a : Bool} {k : Nat} (h : layP P t = some (a, k)) {w : World} {g off : Nat} {cur : Array Value} {ty : TypeId} {v : Value} (hg : w.heap[g]? = some (.cells cur ty (0, 0)))
    (hk : v.cells.size = k) (hl : off + k ≤ cur.size) (h1 : ∀ x ∈ v.cells.toList, x.oneCell' = true) :
    (Instr.storeAt t (.pointer (some ⟨g, off, none⟩)) v).run P w = .ok () (w.setRow g (splice cur.toList off v.cells.toList).toArray) := by
  have ha := run_isAgg h w
  have hst := run_storeCells_at P g off ty v.cells.toList 0 cur w hg (by simp; omega) h1
  have e : (!decide (v.cells.size = k)) = false := by simp [hk]
  simp only [Instr.storeAt, Instr.sureAddr, Sem.run_bind, Sem.run_pure, Result.andThen_ok, storeVar, ha.2, splice]
  simp [hk, hst]
theorem splice_get {α : Type} {l : List α} {o : Nat} {m : List α} (h : o + m.length ≤ l.length) (j : Nat) : (splice l o m)[j]? = if o ≤ j ∧ j < o + m.length then m[j - o]? else l[j]? := by
  unfold splice
  rw [List.getElem?_append, List.getElem?_append]
  have e1 : (l.take o).length = o := by simp; omega
  simp only [List.length_append, e1]
  by_cases h1 : j < o
  · rw [if_pos (by omega), if_pos h1, if_neg (by omega)]
    simp [h1]
  · by_cases h2 : j < o + m.length
    · rw [if_pos h2, if_neg h1, if_pos ⟨by omega, h2⟩]
    · rw [if_neg h2, if_neg (by omega), List.getElem?_drop]
      congr 1; omega
theorem splice_len {α : Type} {l : List α} {o : Nat} {m : List α} (h : o + m.length ≤ l.length) : (splice l o m).length = l.length := by
  simp [splice]; omega
theorem splice_all {l m : List Value} {o : Nat} (h1 : l.all (·.oneCell') = true) (h2 : ∀ x ∈ m, x.oneCell' = true) : (splice l o m).all (·.oneCell') = true := by
  rw [List.all_eq_true] at h1 ⊢
  intro x hx
  simp only [splice, List.mem_append] at hx
  rcases hx with (hx | hx) | hx
  · exact h1 x (List.mem_of_mem_take hx)
  · exact h2 x hx
  · exact h1 x (List.mem_of_mem_drop hx)
theorem s_store (hT : TabOk P T) {t : Nat} {x y : Operand} (ho : o.op = .store t x y) (h : (aop P T cf o).run F S K) (hs : Sim w0 M N b0 nt β S w tm) (hd : ∀ t, o.dst = some t → t < nt) (hn : Nx w0 M N b0 nt ds K next) : o.wp P ⟨tm, ds⟩ w next Q := by
  simp only [aop, ho] at h
  obtain ⟨a, h, hr⟩ := getO_run (ds := ds) h hs
  obtain ⟨b, h, hrb⟩ := getO_run (ds := ds) h hs
  obtain ⟨⟨agg, size⟩, hl, h⟩ := orFail_run h
  obtain ⟨cs, hcs, h⟩ := orFail_run h
  obtain ⟨hc, h1⟩ := cellsOf_rep hcs hrb
  have hlay := hT.lay _ (find1_mem hl)
  -- the world behind the store, and what it keeps
  have fin : ∀ (i r off g : Nat) (e e' : Ent) (cur : Array Value) (ty : TypeId), S.G i = some (r, e) → e.live → blk? (β i) = some g → w.heap[g]? = some (.cells cur ty (0, 0)) → Act.eval ⟨tm, ds⟩ x = .pointer (some ⟨g, off, none⟩) →
      cs.length = size → off + size ≤ cur.size → F.ew i = true → (delD o.dst).run F (S.lay i (some (r, e'))) K → e'.live →
      (∀ β' G' w', (∀ b, okB w0 N β S.G w b → okB w0 N β' G' w' b ∧ w'.heap[b]? = w.heap[b]?) → Older β β' S.G G' → β' i = β i → w'.heap[g]? = some (.cells (splice cur.toList off (Act.eval ⟨tm, ds⟩ y).cells.toList).toArray ty (0, 0)) → e'.rep w' β' G' (okB w0 N β' G' w') i) → o.wp P ⟨tm, ds⟩ w next Q := by
    intro i r off g e e' cur ty hG hlive hblk hh he hlen hle _ hk hlive' hrep
    have hsz : (Act.eval ⟨tm, ds⟩ y).cells.size = size := by rw [hc.1, hlen]
    have hrun := run_store_cells hlay hh hsz hle h1
    have hlt : g < w.heap.size := (hs.fresh i r e g hG hlive hblk).1
    obtain ⟨β', k1, k2, _, _⟩ := hs.change1 (w' := w.setRow g (splice cur.toList off (Act.eval ⟨tm, ds⟩ y).cells.toList).toArray) i r e' (β i) rfl rfl rfl (by simp)
      (fun r1 e1 hg => by rw [hG] at hg; cases hg; exact ⟨Nat.le_refl _, fun _ => rfl⟩)
      (fun k hk hne => setRow_other w g k _ (fun ek => by subst ek; exact hne r e hG hlive hblk))
      (fun b _ hb => by rw [hblk] at hb; cases hb; exact ⟨by simpa using hlt, .inr ⟨r, e, hG, hlive, hblk⟩⟩)
      (fun _ => ⟨_, hG⟩)
      (fun β' G' _ _ hok hold hβ => hrep β' G' _ hok hold hβ (setRow_heap w g cur _ ty (0, 0) hh))
    refine wp_skipv (w' := w.setRow g (splice cur.toList off (Act.eval ⟨tm, ds⟩ y).cells.toList).toArray) ?_ (delD_run hk k1 hn)
    unfold execOp
    simp only [ho, he, Sem.run_bind, hrun, Result.andThen_ok, Sem.run_pure]
  match a, h, hr with
  | .g (.one (.ptr i r off)), h, hr =>
    obtain ⟨_, h⟩ := h
    dsimp only at h
    split at h
    · rename_i r' cells hG
      obtain ⟨⟨rfl, hlen, hle⟩, hew, h⟩ := h
      obtain ⟨g, vs, ty, he, hβ, hh, hcv⟩ := hs.cur_box hr hG
      refine fin i r off g _ _ vs ty hG trivial (by rw [hβ]; rfl) hh he hlen (by rw [hcv.1]; exact hle) hew h trivial ?_
      intro β' G' w' hok hold hβ' hh'
      refine ⟨g, _, ty, hβ'.trans hβ, hh', ?_⟩
      have hcl : off + cs.length ≤ cells.length := by omega
      have hvl : off + (Act.eval ⟨tm, ds⟩ y).cells.toList.length ≤ vs.toList.length := by
        have := hc.1; have := hcv.1; simp only [Array.length_toList]; omega
      refine ⟨by simp only [List.size_toArray]; rw [splice_len hvl, splice_len hcl]; simpa using hcv.1, fun j c hj => ?_⟩
      rw [splice_get hcl] at hj
      have e2 : (splice vs.toList off (Act.eval ⟨tm, ds⟩ y).cells.toList).toArray[j]? = if off ≤ j ∧ j < off + cs.length then (Act.eval ⟨tm, ds⟩ y).cells[j - off]? else vs[j]? := by
        rw [List.getElem?_toArray, splice_get hvl]
        simp only [Array.length_toList, hc.1, Array.getElem?_toList]
      rw [e2]
      split at hj
      · rename_i hcond
        rw [if_pos hcond]
        obtain ⟨z, hz, hrz⟩ := hc.2 _ c hj
        exact ⟨z, hz, AC.rep_mono hok hold hrz⟩
      · rename_i hcond
        rw [if_neg hcond]
        obtain ⟨z, hz, hrz⟩ := hcv.2 _ c hj
        exact ⟨z, hz, AC.rep_mono hok hold hrz⟩
    · rename_i r' e sz l hG
      obtain ⟨vs, hvs, h'⟩ := orFail_run h
      obtain ⟨⟨rfl, hlen, hle⟩, hew, hk⟩ := h'
      obtain ⟨g, n, e', cap, cur, he, hβ, hh, p1, p2, p3, p4, p5, p6, p7⟩ := hs.cur_row hr hG
      have e3 := pcs_get hvs
      subst e3
      obtain ⟨q1, q2⟩ := csRep_map hc
      have q3 : (Act.eval ⟨tm, ds⟩ y).cells.toList = vs := by rw [q1]
      have hn2 : n * sz ≤ cap * sz := Nat.mul_le_mul_right sz p1
      have hcs2 : (vs.map AC.v).length = size := by simpa using hlen
      refine fin i r off g _ _ cur e' hG trivial (by rw [hβ]; rfl) hh he hcs2 (by omega) hew hk trivial ?_
      intro β' G' w' hok hold hβ' hh'
      rw [q3] at hh'
      have hcl : off + vs.length ≤ cur.toList.length := by simp only [Array.length_toList]; omega
      refine ⟨splice_all p7 (fun x hx => (List.all_eq_true.1 q2) x hx), e', n, p6, by rw [splice_len (by omega)]; exact p5, .inr ⟨g, cap, _, hβ'.trans hβ, Nat.zero_le _, hh', p1, p2, ?_, ?_⟩⟩
      · simp only [List.size_toArray]; rw [splice_len hcl]; simpa using p3
      · apply List.ext_getElem?
        intro j
        have hll : off + vs.length ≤ l.length := by omega
        rw [List.getElem?_take, splice_get hcl, splice_get hll]
        by_cases hj : j < n * sz
        · rw [if_pos hj]
          split
          · rfl
          · rw [← p4, List.getElem?_take, if_pos hj]
        · rw [if_neg hj, if_neg (by omega)]
          rw [List.getElem?_eq_none]; omega
    · exact h.elim
end
section
variable {P : Program} {T : Tab} {F : Ft} {S : St} {K : St → Prop} {w0 w w' : World} {M N : Nat → Prop} {b0 : Nat → Value} {nt : Nat} {β : Nat → Value} {tm : Array Value} {ds : List Deferred} {next : Act → World → Prop} {Q : Exit → Act → World → Prop} {o : Oper}
variable {cf : FuncId → Option (List AV → Option Tmp → AM)}
theorem s_move {x : Operand} (ho : o.op = .move x ∨ o.op = .assign x) (h : (aop P T cf o).run F S K) (hs : Sim w0 M N b0 nt β S w tm) (hd : ∀ t, o.dst = some t → t < nt) (hn : Nx w0 M N b0 nt ds K next) : o.wp P ⟨tm, ds⟩ w next Q := by
  rcases ho with ho | ho <;>
  · simp only [aop, ho] at h
    obtain ⟨a, h, hr⟩ := getO_run (ds := ds) h hs
    exact wp_value (by unfold execOp; simp only [ho]; rfl) (putD_run h hs hd hr hn)
theorem s_pick {c x y : Operand} (ho : o.op = .pick c x y) (h : (aop P T cf o).run F S K) (hs : Sim w0 M N b0 nt β S w tm) (hd : ∀ t, o.dst = some t → t < nt) (hn : Nx w0 M N b0 nt ds K next) : o.wp P ⟨tm, ds⟩ w next Q := by
  simp only [aop, ho] at h
  obtain ⟨cv, h, hrc⟩ := getO_run (ds := ds) h hs
  match cv, h, hrc with
  | .g (.one (.v (.bool t))), h, hrc =>
    have e : Act.eval ⟨tm, ds⟩ c = .bool t := hrc.1
    obtain ⟨a, h, hr⟩ := getO_run (ds := ds) h hs
    refine wp_value (v := Act.eval ⟨tm, ds⟩ (if t then x else y)) (w' := w) ?_ (putD_run h hs hd hr hn)
    unfold execOp; simp only [ho, e, asBool, Sem.run_bind, Sem.run_pure, Result.andThen_ok]
    cases t <;> rfl
theorem val_run {s : Sem Value} {r : Value} (h : s.run P w = .ok r w) : (do pure (Next.value (← s)) : Sem Next).run P w = .ok (.value r) w := by simp [h]
theorem s_binOp {op : BinOp} {t : TypeId} {x y : Operand} {yt : TypeId} (ho : o.op = .binOp op t x y yt) (h : (aop P T cf o).run F S K) (hs : Sim w0 M N b0 nt β S w tm) (hd : ∀ t, o.dst = some t → t < nt) (hn : Nx w0 M N b0 nt ds K next) : o.wp P ⟨tm, ds⟩ w next Q := by
  simp only [aop, ho] at h
  obtain ⟨a, h, hr⟩ := getO_run (ds := ds) h hs
  split at h
  · rename_i n hn0
    unfold isRo at hn0
    split at hn0
    · rename_i z n' l
      cases hn0
      obtain ⟨⟨h0, hy⟩, h⟩ := h
      obtain ⟨_, A, c, e, _, _, h5⟩ := hr
      obtain ⟨b, off, rfl, _⟩ := h5 h0
      obtain ⟨r, ⟨h6, h7⟩, h⟩ := h
      refine wp_value (v := r) (w' := w) ?_ (putD_run h hs hd (ofv_rep h6) hn)
      unfold execOp
      simp only [ho]
      have h8 := h7 b off c w
      have ey : Act.eval ⟨tm, ds⟩ y = .slice none 0 0 := by rw [hy]; rfl
      rw [e, ey]
      exact val_run h8
    · cases hn0
  · split at h
    · rename_i v hv
      have := pval_rep hv hr
      rw [← this] at h
      have h := getV_run (ds := ds) h hs
      exact exr_sound h hs hd hn (by unfold execOp; simp only [ho])
    · obtain ⟨⟨rfl, hy⟩, h⟩ := h
      obtain ⟨r, ⟨h6, h7⟩, h⟩ := h
      obtain ⟨_, tt, pp, e⟩ := hr
      refine wp_value (v := r) (w' := w) ?_ (putD_run h hs hd (ofv_rep h6) hn)
      unfold execOp
      simp only [ho]
      have h8 := h7 tt pp w
      have ey : Act.eval ⟨tm, ds⟩ y = .nilIface := by rw [hy]; rfl
      rw [e, ey]
      exact val_run h8
theorem s_unOp {op : UnOp} {t : TypeId} {x : Operand} (ho : o.op = .unOp op t x) (h : (aop P T cf o).run F S K) (hs : Sim w0 M N b0 nt β S w tm) (hd : ∀ t, o.dst = some t → t < nt) (hn : Nx w0 M N b0 nt ds K next) : o.wp P ⟨tm, ds⟩ w next Q := by
  simp only [aop, ho] at h
  have h := getV_run (ds := ds) h hs
  exact exr_sound h hs hd hn (by unfold execOp; simp only [ho])
theorem s_extract {x : Operand} {k : Nat} (ho : o.op = .extract x k) (h : (aop P T cf o).run F S K) (hs : Sim w0 M N b0 nt β S w tm) (hd : ∀ t, o.dst = some t → t < nt) (hn : Nx w0 M N b0 nt ds K next) : o.wp P ⟨tm, ds⟩ w next Q := by
  simp only [aop, ho] at h
  obtain ⟨a, h, hr⟩ := getO_run (ds := ds) h hs
  match a, h, hr with
  | .tup xs, h, hr =>
    obtain ⟨y, hy, h⟩ := orFail_run h
    obtain ⟨vs, he, h1, h2⟩ := hr
    obtain ⟨z, hz, hrz⟩ := h2 k y hy
    refine wp_value (v := z) (w' := w) ?_ (putD_run h hs hd hrz hn)
    unfold execOp
    simp only [ho, he, Instr.extract, hz, Sem.run_bind, Sem.run_pure, Result.andThen_ok]
theorem s_nilCheck {x : Operand} (ho : o.op = .nilCheck x) (h : (aop P T cf o).run F S K) (hs : Sim w0 M N b0 nt β S w tm) (hd : ∀ t, o.dst = some t → t < nt) (hn : Nx w0 M N b0 nt ds K next) : o.wp P ⟨tm, ds⟩ w next Q := by
  simp only [aop, ho] at h
  obtain ⟨a, h, hr⟩ := getO_run (ds := ds) h hs
  match a, h, hr with
  | .g (.one (.ptr i r off)), h, hr =>
    obtain ⟨_, h⟩ := h
    dsimp only at h
    split at h
    · rename_i r' e hG
      obtain ⟨rfl, h⟩ := h
      obtain ⟨b, _, he⟩ := hs.cur_ptr hr hG
      refine wp_value (v := Act.eval ⟨tm, ds⟩ x) (w' := w) ?_ (putD_run h hs hd hr hn)
      unfold execOp
      simp only [ho, he, Sem.run_pure]
    · exact h.elim
  | .g (.one (.rp l)), h, hr =>
    refine wp_value (v := Act.eval ⟨tm, ds⟩ x) (w' := w) ?_ (putD_run h hs hd hr hn)
    obtain ⟨_, b, off, he, _⟩ := hr
    unfold execOp
    simp only [ho, he, Sem.run_pure]
theorem s_fieldAddr (hT : TabOk P T) {s f : Nat} {x : Operand} (ho : o.op = .fieldAddr s x f) (h : (aop P T cf o).run F S K) (hs : Sim w0 M N b0 nt β S w tm) (hd : ∀ t, o.dst = some t → t < nt) (hn : Nx w0 M N b0 nt ds K next) : o.wp P ⟨tm, ds⟩ w next Q := by
  simp only [aop, ho] at h
  obtain ⟨a, h, hr⟩ := getO_run (ds := ds) h hs
  obtain ⟨⟨off, agg, size⟩, hf, h⟩ := orFail_run h
  obtain ⟨hlt, h⟩ := h
  obtain ⟨fs, fd, h1, h2, h3, h5, h4⟩ := fld_facts hT hf hlt
  have ha := run_isAgg h3 w
  have hne : ¬ size = 0 := by omega
  have hrun : ∀ b i, (Instr.fieldAt s (.pointer (some ⟨b, i, none⟩)) f).run P w = .ok (.pointer (some ⟨b, i + off, none⟩)) w := by
    intro b i
    simp only [Instr.fieldAt, Sem.run_bind, run_underlying h1, Result.andThen_ok, h2, Instr.sureAddr, Sem.run_pure, fieldPlace, ha.2, hne, if_false, add_lit, h5]
  match a, h, hr with
  | .g (.one (.ptr i r b)), h, hr =>
    obtain ⟨_, h⟩ := h
    dsimp only at h
    split at h
    · rename_i r' e hG
      obtain ⟨rfl, h⟩ := h
      obtain ⟨g, hb, he⟩ := hs.cur_ptr hr hG
      refine wp_value (v := .pointer (some ⟨g, b + off, none⟩)) (w' := w) ?_ (putD_run h hs hd ⟨rfl, r, e, hG, Nat.le_refl _, fun _ => ⟨g, hb, rfl⟩⟩ hn)
      unfold execOp
      simp only [ho, he, Sem.run_bind, hrun, Result.andThen_ok, Sem.run_pure]
    · exact h.elim
  | .g (.one (.rp l)), h, hr =>
    obtain ⟨h0, b, i, he, hok, hc⟩ := hr
    refine wp_value (v := .pointer (some ⟨b, i + off, none⟩)) (w' := w) ?_ (putD_run h hs hd ⟨?_, b, i + off, rfl, hok, ?_⟩ hn)
    · unfold execOp
      simp only [ho, he, Sem.run_bind, hrun, Result.andThen_ok, Sem.run_pure]
    · rw [List.all_eq_true] at h0 ⊢
      exact fun x hx => h0 x (List.mem_of_mem_drop hx)
    · intro j x hj
      rw [List.getElem?_drop] at hj
      rw [Nat.add_assoc]; exact hc _ x hj
theorem elt_facts (hT : TabOk P T) {t e sz by' : Nat} {agg : Bool} {arr : Option Nat} (h : find1 T.elt t = some (arr, e, agg, sz, by')) :
    (P.underlying t = some (match arr with | none => .slice e | some n => .array n e)) ∧ layP P e = some (agg, sz) ∧ 0 < sz ∧ ∃ i, P.info? e = some i ∧ i.bytes = by' ∧ i.size = sz := by
  obtain ⟨h1, h2⟩ := hT.elt _ (find1_mem h)
  unfold eltP at h1
  split at h1
  · rename_i e' he
    split at h1
    · rename_i a k i hl hi
      simp only [Option.some.injEq, Prod.mk.injEq] at h1
      obtain ⟨rfl, rfl, rfl, rfl, rfl⟩ := h1
      refine ⟨he, hl, h2, i, hi, rfl, ?_⟩
      unfold layP at hl
      rw [hi] at hl
      cases hu : P.underlying e' <;> simp_all
    · cases h1
  · rename_i n e' he
    split at h1
    · rename_i a k i hl hi
      simp only [Option.some.injEq, Prod.mk.injEq] at h1
      obtain ⟨rfl, rfl, rfl, rfl, rfl⟩ := h1
      refine ⟨he, hl, h2, i, hi, rfl, ?_⟩
      unfold layP at hl
      rw [hi] at hl
      cases hu : P.underlying e' <;> simp_all
    · cases h1
  · cases h1
theorem s_index (hT : TabOk P T) {t : TypeId} {x y : Operand} (ho : o.op = .index t x y) (h : (aop P T cf o).run F S K) (hs : Sim w0 M N b0 nt β S w tm) (hd : ∀ t, o.dst = some t → t < nt) (hn : Nx w0 M N b0 nt ds K next) : o.wp P ⟨tm, ds⟩ w next Q := by
  simp only [aop, ho] at h
  obtain ⟨a, h, hr⟩ := getO_run (ds := ds) h hs
  split at h
  · rename_i v hv
    have := pval_rep hv hr
    rw [← this] at h
    have h := getV_run (ds := ds) h hs
    exact exr_sound h hs hd hn (by unfold execOp; simp only [ho])
  · split at h
    · rename_i cs _
      have h := getV_run (ds := ds) h hs
      obtain ⟨⟨arr, e, agg, sz, by'⟩, hl, h⟩ := orFail_run h
      obtain ⟨hu, hlay, hpos, _⟩ := elt_facts hT hl
      have ha := run_isAgg hlay w
      dsimp only at h
      split at h
      · rename_i k j hy
        obtain ⟨⟨n, rfl, h0, h1, hcl⟩, h⟩ := h
        obtain ⟨z, hz, hk⟩ := orFail_run h
        obtain ⟨vs, hv, hc⟩ := hr
        obtain ⟨p1, p2⟩ := csRep_part hc (j.toNat * sz) sz
        obtain ⟨q1, q2⟩ := ofa_rep hz p1 p2
        have hle : j.toNat * sz + sz ≤ cs.length := by
          rw [hcl, ← Nat.succ_mul]
          exact Nat.mul_le_mul_right _ (by omega)
        refine wp_value (w' := w) ?_ (putD_run hk hs hd q1 hn)
        have hcond : 0 ≤ j ∧ j < (n : Int) := ⟨h0, h1⟩
        unfold execOp
        simp only [ho, hv, hy, Instr.index, asIntOf, Sem.run_bind, Sem.run_pure, run_underlying hu, Result.andThen_ok, Sem.run_ite]
        rw [if_pos hcond]
        simp only [ha.2, Result.andThen_ok, part, ha.1, Sem.run_bind]
        cases agg with
        | true =>
          simp only [if_true, Sem.run_bind, ha.2, Result.andThen_ok, Sem.run_pure]
          congr 3
          apply Array.ext'
          simp only [Array.toList_extract, List.extract_eq_take_drop]
          congr 1
          omega
        | false =>
          have hlen : j.toNat * sz < vs.size := by rw [hc.1]; omega
          have hsz : 0 < sz := by omega
          simp [hlen, hsz, List.getElem?_drop]
      · exact h.elim
    · exact h.elim
theorem s_indexAddr (hT : TabOk P T) {t : Nat} {x y : Operand} (ho : o.op = .indexAddr t x y) (h : (aop P T cf o).run F S K) (hs : Sim w0 M N b0 nt β S w tm) (hd : ∀ t, o.dst = some t → t < nt) (hn : Nx w0 M N b0 nt ds K next) : o.wp P ⟨tm, ds⟩ w next Q := by
  simp only [aop, ho] at h
  obtain ⟨a, h, hr⟩ := getO_run (ds := ds) h hs
  have h := getV_run (ds := ds) h hs
  obtain ⟨⟨arr, e, agg, sz, by'⟩, hl, h⟩ := orFail_run h
  obtain ⟨hu, hlay, hpos, _⟩ := elt_facts hT hl
  have ha := run_isAgg hlay w
  split at h
  · rename_i k j hy
    have hslice : arr = none → ∀ (b off n c : Nat), 0 ≤ j → j < (n : Int) → (Instr.indexAt t (.slice (some ⟨b, off, none⟩) n c) (.int k j)).run P w = .ok (.pointer (some ⟨b, off + j.toNat * sz, none⟩)) w := by
      rintro rfl b off n c h0 h1
      have hc : 0 ≤ j ∧ j < (n : Int) := ⟨h0, h1⟩
      simp only [Instr.indexAt, asIntOf, Sem.run_bind, Sem.run_pure, Result.andThen_ok, run_underlying hu, Sem.run_ite]
      rw [if_pos hc]
      simp only [ha.2, Result.andThen_ok, add_lit]
    have harray : ∀ (n : Nat), arr = some n → ∀ (b off : Nat), 0 ≤ j → j < (n : Int) → (Instr.indexAt t (.pointer (some ⟨b, off, none⟩)) (.int k j)).run P w = .ok (.pointer (some ⟨b, off + j.toNat * sz, none⟩)) w := by
      rintro n rfl b off h0 h1
      have hc : 0 ≤ j ∧ j < (n : Int) := ⟨h0, h1⟩
      simp only [Instr.indexAt, asIntOf, Sem.run_bind, Sem.run_pure, Result.andThen_ok, run_underlying hu, Instr.sureAddr, Sem.run_ite]
      rw [if_pos hc]
      simp only [ha.2, Result.andThen_ok, add_lit]
    have fin : ∀ {v : Value} {z : AV}, (Instr.indexAt t (Act.eval ⟨tm, ds⟩ x) (.int k j)).run P w = .ok v w → (putD o.dst z).run F S K → z.rep w β S.G (okB w0 N β S.G w) v → o.wp P ⟨tm, ds⟩ w next Q := by
      intro v z hrun hp hz
      refine wp_value (v := v) (w' := w) ?_ (putD_run hp hs hd hz hn)
      unfold execOp
      simp only [ho, hy, Sem.run_bind, hrun, Result.andThen_ok, Sem.run_pure]
    have hro : ∀ {z n : Nat} {l : List Value}, arr = none → z = sz → 0 ≤ j → j < (n : Int) → RoRep w (okB w0 N β S.G w) z n l (Act.eval ⟨tm, ds⟩ x) → (putD o.dst (.g (.one (.rp (l.drop (j.toNat * sz)))))).run F S K → o.wp P ⟨tm, ds⟩ w next Q := by
      rintro z n l harr rfl h0 h1 ⟨⟨hlen, hone⟩, A, c, he, _, _, hcells⟩ hp
      obtain ⟨b, off, rfl, hok, hc⟩ := hcells (by omega)
      refine fin (by rw [he]; exact hslice harr b off n c h0 h1) hp ⟨?_, b, off + j.toNat * z, rfl, hok, ?_⟩
      · rw [List.all_eq_true] at hone ⊢
        exact fun x hx => hone x (List.mem_of_mem_drop hx)
      · intro j' x hj
        rw [List.getElem?_drop] at hj
        rw [Nat.add_assoc]; exact hc _ x hj
    match a, h, hr with
    | .g (.one (.ptr i r off)), h, hr =>
      cases arr with
      | some n =>
        obtain ⟨_, h⟩ := h
        dsimp only at h
        split at h
        · rename_i r' e' hG
          obtain ⟨⟨rfl, h0, h1⟩, h⟩ := h
          obtain ⟨g, hb, he⟩ := hs.cur_ptr hr hG
          exact fin (by rw [he]; exact harray n rfl g off h0 h1) h ⟨rfl, r, e', hG, Nat.le_refl _, fun _ => ⟨g, hb, rfl⟩⟩
        · exact h.elim
      | none => exact h.elim
    | .g (.one (.sl i r n)), h, hr =>
      cases arr with
      | some n => exact h.elim
      | none =>
        obtain ⟨_, h⟩ := h
        dsimp only at h
        split at h
        · rename_i r' e' z l hG
          obtain ⟨⟨rfl, hz, h0, h1⟩, h⟩ := h
          obtain ⟨_, r1, e1, g1, g2, g3⟩ := hr
          rw [hG] at g1
          cases g1
          obtain ⟨A, m, c, q1, q2, q3⟩ := g3 rfl
          obtain ⟨p0, e2, n2, p1, p2, p3⟩ := hs.ents i r _ hG
          rw [q1] at p3
          rcases p3 with ⟨p3, _⟩ | ⟨g, cap, cur, p3, _, p4, p5, p6, p7, p8⟩
          · cases p3; omega
          · cases p3
            refine fin (by rw [q3]; exact hslice rfl g 0 n _ h0 h1) h ⟨rfl, r, _, hG, Nat.le_refl _, fun _ => ⟨g, by rw [q1]; rfl, by simp⟩⟩
        · rename_i r' z l hG
          obtain ⟨⟨rfl, hz, h0, h1, hle⟩, h⟩ := h
          obtain ⟨_, r1, e1, g1, g2, g3⟩ := hr
          rw [hG] at g1
          cases g1
          obtain ⟨A, m, c, q1, q2, q3⟩ := g3 rfl
          obtain ⟨n2, ⟨hl1, hl2⟩, A2, c2, q4, q5, q6, q7⟩ := hs.ents i r _ hG
          rw [q1] at q4
          cases q4
          obtain ⟨b, off, rfl, hok, hc⟩ := q7 (by omega)
          refine fin (by rw [q3]; exact hslice rfl b off n c h0 h1) h ⟨?_, b, off + j.toNat * sz, rfl, hok, ?_⟩
          · rw [List.all_eq_true] at hl2 ⊢
            exact fun x hx => hl2 x (List.mem_of_mem_drop hx)
          · intro j' x hj
            rw [List.getElem?_drop] at hj
            rw [Nat.add_assoc]; exact hc _ x hj
        · exact h.elim
    | .g (.one (.ro z n' l)), h, hr =>
      cases arr with
      | some n => exact h.elim
      | none =>
        obtain ⟨⟨hz, h0, h1⟩, h⟩ := h
        exact hro rfl hz h0 h1 hr h
    | .g (.one (.sb i r n c0)), h, hr =>
      cases arr with
      | some n => exact h.elim
      | none =>
        obtain ⟨_, h⟩ := h
        dsimp only at h
        split at h
        · rename_i r' e' hG
          obtain ⟨⟨rfl, h0, h1⟩, h⟩ := h
          obtain ⟨g, hb, he⟩ := hs.cur_sb hr hG
          exact fin (by rw [he]; exact hslice rfl g 0 n c0 h0 h1) h ⟨rfl, r, e', hG, Nat.le_refl _, fun _ => ⟨g, hb, by simp⟩⟩
        · exact h.elim
  · exact h.elim
end
end Go.Proofs.Ytfbcblknahicdaa
