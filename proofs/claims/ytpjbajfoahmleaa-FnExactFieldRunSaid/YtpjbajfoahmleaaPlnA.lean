/- Plain laws of fields: what a step makes of each cell. No program is named. -/
import Derived.Test.YtpjbajfoahmleaaFnL
namespace Go.Proofs.Ytpjbajfoahmleaa
set_option linter.unusedVariables false
set_option linter.unusedSimpArgs false
def cnt4 (a b c d : Bool) : Nat := a.toNat + b.toNat + c.toNat + d.toNat
/-- The new cell of a square: its own, the one beside it, the one above or below it, the opposite one. -/
def G4 (a b c d : Bool) : Bool := if cnt4 a b c d = 1 then d else if cnt4 a b c d = 2 ∧ a = d then b else a
def cq (s x y : Int) (p : Nat) : Nat := (inI (x + corX p) (y + corY p) s).toNat
theorem getD_set (r : List Bool) (c k : Nat) (v : Bool) (h : c < r.length) : (r.set c v).getD k false = if k = c then v else r.getD k false := by
  by_cases hk : k = c
  · subst hk
    rw [if_pos rfl, List.getD_eq_getElem?_getD, List.getElem?_set_self h]; rfl
  · rw [if_neg hk, List.getD_eq_getElem?_getD, List.getElem?_set_ne (Ne.symm hk), ← List.getD_eq_getElem?_getD]
/-- What a square lays on its cells. -/
def layC (s x y : Int) (l : List Bool) (k : Nat) : Bool :=
  (k == cq s x y 0 && G4 (l.getD (cq s x y 0) false) (l.getD (cq s x y 1) false) (l.getD (cq s x y 2) false) (l.getD (cq s x y 3) false)) ||
  (k == cq s x y 1 && G4 (l.getD (cq s x y 1) false) (l.getD (cq s x y 0) false) (l.getD (cq s x y 3) false) (l.getD (cq s x y 2) false)) ||
  (k == cq s x y 2 && G4 (l.getD (cq s x y 2) false) (l.getD (cq s x y 3) false) (l.getD (cq s x y 0) false) (l.getD (cq s x y 1) false)) ||
  (k == cq s x y 3 && G4 (l.getD (cq s x y 3) false) (l.getD (cq s x y 2) false) (l.getD (cq s x y 1) false) (l.getD (cq s x y 0) false))
theorem sqNew_get {s x y : Int} {l r : List Bool} (h : ∀ p, p < 4 → cq s x y p < r.length) (k : Nat) :
    (sqNew s (sqB s l x y 4) r).getD k false = (r.getD k false || layC s x y l k) := by
  have h0 := h 0 (by omega)
  have h1 := h 1 (by omega)
  have h2 := h 2 (by omega)
  have h3 := h 3 (by omega)
  have g0 : (inI (x + 0) (y + 0) s).toNat = cq s x y 0 := rfl
  have g1 : (inI (x + 1) (y + 0) s).toNat = cq s x y 1 := rfl
  have g2 : (inI (x + 0) (y + 1) s).toNat = cq s x y 2 := rfl
  have g3 : (inI (x + 1) (y + 1) s).toNat = cq s x y 3 := rfl
  have e : sqB s l x y 4 = (if l.getD (cq s x y 0) false = true then [(⟨x + 0, y + 0, 1 - 2 * 0, 1 - 2 * 0⟩ : Ball)] else []) ++ (if l.getD (cq s x y 1) false = true then [(⟨x + 1, y + 0, 1 - 2 * 1, 1 - 2 * 0⟩ : Ball)] else []) ++ (if l.getD (cq s x y 2) false = true then [(⟨x + 0, y + 1, 1 - 2 * 0, 1 - 2 * 1⟩ : Ball)] else []) ++ (if l.getD (cq s x y 3) false = true then [(⟨x + 1, y + 1, 1 - 2 * 1, 1 - 2 * 1⟩ : Ball)] else []) := by
    simp only [sqB, corX, corY, g0, g1, g2, g3]
    cases l.getD (cq s x y 0) false <;> cases l.getD (cq s x y 1) false <;> cases l.getD (cq s x y 2) false <;> cases l.getD (cq s x y 3) false <;> rfl
  rw [e]
  have f0 : (inI x y s).toNat = cq s x y 0 := by rw [← g0, Int.add_zero, Int.add_zero]
  have f1 : (inI (x + 1) y s).toNat = cq s x y 1 := by rw [← g1, Int.add_zero]
  have f2 : (inI x (y + 1) s).toNat = cq s x y 2 := by rw [← g2, Int.add_zero]
  have f3 : (inI (x + 1) (y + 1) s).toNat = cq s x y 3 := g3
  have n2 : ∀ z : Int, z + 1 + -1 = z := fun z => by omega
  have n3 : ∀ z : Int, ¬ z = z + 1 := fun z => by omega
  have n4 : ∀ z : Int, ¬ z + 1 = z := fun z => by omega
  have hset : ∀ (q : List Bool) (c : Nat), c < q.length → (q.set c true)[k]?.getD false = (k == c || q[k]?.getD false) := by
    intro q c hc
    have := getD_set q c k true hc
    simp only [List.getD_eq_getElem?_getD] at this
    rw [this]
    by_cases hk : k = c <;> simp [hk]
  unfold layC
  clear e g0 g1 g2 g3
  generalize l.getD (cq s x y 0) false = b0
  generalize l.getD (cq s x y 1) false = b1
  generalize l.getD (cq s x y 2) false = b2
  generalize l.getD (cq s x y 3) false = b3
  cases b0 <;> cases b1 <;> cases b2 <;> cases b3 <;>
    simp [sqNew, setAll, oppP, horP, atP, G4, cnt4, n2, n3, n4, f0, f1, f2, f3, hset, h0, h1, h2, h3] <;>
    (try (cases k == cq s x y 0 <;> cases k == cq s x y 1 <;> cases k == cq s x y 2 <;> cases k == cq s x y 3 <;> cases r[k]?.getD false <;> rfl))
end Go.Proofs.Ytpjbajfoahmleaa
