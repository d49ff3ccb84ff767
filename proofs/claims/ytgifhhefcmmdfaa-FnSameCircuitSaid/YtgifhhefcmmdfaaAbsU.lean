/- The abstract run: data that are only read from now on. No program is named. -/
import Derived.Test.YtgifhhefcmmdfaaAbsT
namespace Go.Proofs.Ytgifhhefcmmdfaa
set_option linter.unusedVariables false
open Go.RowKit
section
variable {P : Program} {T : Tab} {w0 w : World} {M N : Nat → Prop} {b0 : Nat → Value} {nt : Nat} {β : Nat → Value} {S : St} {tm : Array Value} {c : Code} {KE : Exit → St → Prop}
/-- A row is only read from now on. -/
theorem aw_freeze (j : Nat) {r z : Nat} {e : Option TypeId} {l : List Value} (hG : S.G j = some (r, .row e z l)) (hj : Nat.blt j 100000 = true) (h : AW P nt c KE (S.lay j (some (r, .fro z l)))) : AW P nt c KE S := fun w0 M N b0 β w tm hs => by
  obtain ⟨S', β', hk, hs', _, _⟩ := frzC_run (F := Ft.all) (S := S) (K := fun S' => AW P nt c KE S') (c := .sl j r 0) (k := .done) ⟨rfl, by rw [hG]; exact ⟨blt_lt hj, rfl, h⟩⟩ hs
  exact hk w0 M N b0 β' w tm hs'
/-- A cell, told with less. -/
def wkC (G : Blk) (z : Nat) : AC → Option (AC × Prop)
  | .v (.slice none 0 0) => some (.ro z 0 [], True)
  | .sl i r n => match G i with
    | some (r', .fro z' l) => some (.ro z' n l, r = r' ∧ 0 < z' ∧ l.length = n * z')
    | _ => some (.sl i r n, True)
  | c => some (c, True)
def wkL (G : Blk) (z : Nat) : List AC → Option (List AC × Prop)
  | [] => some ([], True)
  | c :: l => match wkC G z c, wkL G z l with
    | some (c', p), some (l', q) => some (c' :: l', p ∧ q)
    | _, _ => none
theorem wkC_ok {ok : Nat → Prop} (hs : Sim w0 M N b0 nt β S w tm) {z : Nat} {c c' : AC} {q : Prop} {y : Value} (h : wkC S.G z c = some (c', q)) (hq : q) (hr : c.rep w β S.G (okB w0 N β S.G w) y) : c'.rep w β S.G (okB w0 N β S.G w) y := by
  unfold wkC at h
  split at h
  · cases h
    obtain ⟨rfl, _⟩ := hr
    exact ⟨⟨by simp, rfl⟩, none, 0, rfl, Nat.le_refl _, by unfold maxLen; omega, fun h => absurd h (Nat.lt_irrefl _)⟩
  · rename_i i r n
    split at h
    · rename_i r' z' l hG
      cases h
      obtain ⟨rfl, h2, h3⟩ := hq
      obtain ⟨A, m, cc, g1, g2, rfl⟩ := hs.cur_sl hr hG
      obtain ⟨n2, hro⟩ := hs.ents i r _ hG
      rw [g1] at hro
      have e2 : n2 = m := by
        obtain ⟨_, A', c', g, _⟩ := hro
        cases g; rfl
      subst e2
      exact (ro_whole hro h3 h2).1
    · cases h; exact hr
  · cases h; exact hr
theorem wkL_ok (hs : Sim w0 M N b0 nt β S w tm) {z : Nat} : ∀ {cs cs' : List AC} {q : Prop}, wkL S.G z cs = some (cs', q) → q → cs'.length = cs.length ∧ ∀ (j : Nat) (c' : AC), cs'[j]? = some c' → ∃ c, cs[j]? = some c ∧ ∀ y, c.rep w β S.G (okB w0 N β S.G w) y → c'.rep w β S.G (okB w0 N β S.G w) y
  | [], cs', q, h, hq => by cases h; exact ⟨rfl, fun j c' hj => by simp at hj⟩
  | c :: cs, cs', q, h, hq => by
    simp only [wkL] at h
    split at h
    · rename_i c1 p1 l1 q1 h1 h2
      cases h
      obtain ⟨g1, g2⟩ := wkL_ok hs h2 hq.2
      refine ⟨by simp [g1], fun j c' hj => ?_⟩
      cases j with
      | zero => cases hj; exact ⟨c, rfl, fun y hy => wkC_ok (ok := fun _ => True) hs h1 hq.1 hy⟩
      | succ j =>
        obtain ⟨d, k1, k2⟩ := g2 j c' (by simpa using hj)
        exact ⟨d, by simpa using k1, k2⟩
    · cases h
/-- The slices in a variable are only read from now on. -/
theorem aw_box (b z : Nat) {r : Nat} {cs cs' : List AC} {q : Prop} (hG : S.G b = some (r, .box cs)) (hw : wkL S.G z cs = some (cs', q)) (hq : q) (hb : Nat.blt b 100000 = true) (h : AW P nt c KE (S.lay b (some (r, .box cs')))) : AW P nt c KE S := fun w0 M N b0 β w tm hs => by
  obtain ⟨l1, l2⟩ := wkL_ok hs hw hq
  obtain ⟨g, vs, t, e1, e2, e3⟩ := hs.ents b r _ hG
  obtain ⟨β', k1, k2, k3, k4⟩ := hs.change1 (w' := w) b r (.box cs') (β b) rfl rfl rfl (Nat.le_refl _)
    (fun r1 e1 hg => by rw [hG] at hg; cases hg; exact ⟨Nat.le_refl _, fun _ => rfl⟩) (fun k _ _ => rfl)
    (fun g' _ hg' => ⟨(hs.fresh b r _ g' hG trivial hg').1, .inr ⟨r, _, hG, trivial, hg'⟩⟩) (fun _ => ⟨_, hG⟩)
    (fun β' G' hβ hG' hok hold hβi => by
      refine ⟨g, vs, t, by rw [hβi]; exact e1, e2, ?_⟩
      have hc : CsRep w β S.G (okB w0 N β S.G w) cs' vs := ⟨by rw [e3.1, l1], fun j c' hj => by
        obtain ⟨d, m1, m2⟩ := l2 j c' hj
        obtain ⟨y, n1, n2⟩ := e3.2 j d m1
        exact ⟨y, n1, m2 y n2⟩⟩
      exact hc.mono hok hold)
  exact h w0 M N b0 β' w tm k1
end
end Go.Proofs.Ytgifhhefcmmdfaa
