/- KBL, KBM: laid into one text. -/
import Derived.Test.YtalociocjjinlaaQAI
import Derived.Test.YtalociocjjinlaaQAL
import Derived.RangeFuncNested
import Derived.RangeFuncBox
import Derived.RangeFuncLeaves
import Derived.Shelf.Abstract
import Derived.WalkKit
import Derived.OwnWalkIn
import Derived.TacticsInMore
import Derived.LoopNIn
import Derived.LoopIn
import Derived.Maps.AppendAt

namespace Go.Proofs.Ytalociocjjinlaa
set_option linter.unusedVariables false
set_option linter.unusedSimpArgs false
open Go.RowKit Go.Shelf
attribute [local go_sem] Oper.semAt_some
def K2 (n₀ Bs : Nat) (W W' : World) : Prop := Below n₀ W W' ∧ ∀ v, Boxed W Bs 27 v → Boxed W' Bs 27 v
theorem K2.refl (n₀ Bs : Nat) (W : World) : K2 n₀ Bs W W := ⟨Below.refl _ _, fun _ h => h⟩
theorem K2.trans {n₀ Bs : Nat} {A B C : World} (h : K2 n₀ Bs A B) (k : K2 n₀ Bs B C) : K2 n₀ Bs A C := ⟨h.1.trans k.1, fun v b => k.2 v (h.2 v b)⟩
def HoldsG (n₀ : Nat) (W : World) (sv : Value) (len : Nat) (f : Nat → Gt) : Prop :=
  (∃ A cap, sv = .slice A 0 cap ∧ len = 0) ∨ ∃ b off cap, sv = .slice (some ⟨b, off, none⟩) len cap ∧ b < n₀ ∧ ∀ j, j < len → W.cell? ⟨b, off + j * 4, none⟩ = some (.int .i64 (f j).k) ∧ W.cell? ⟨b, off + j * 4 + 1, none⟩ = some (.int .i64 (f j).a) ∧ W.cell? ⟨b, off + j * 4 + 2, none⟩ = some (.int .i64 (f j).b) ∧ W.cell? ⟨b, off + j * 4 + 3, none⟩ = some (.int .i64 (f j).c)
theorem HoldsG.below {n₀ : Nat} {A B : World} (h : Below n₀ A B) {sv : Value} {len : Nat} {f : Nat → Gt} : HoldsG n₀ A sv len f → HoldsG n₀ B sv len f
  | .inl e => .inl e
  | .inr ⟨b, off, cap, e, hb, hc⟩ => .inr ⟨b, off, cap, e, hb, fun j hj => by
    obtain ⟨c0, c1, c2, c3⟩ := hc j hj
    exact ⟨(h.cell (p := ⟨b, off + j * 4, none⟩) hb).trans c0, (h.cell (p := ⟨b, off + j * 4 + 1, none⟩) hb).trans c1, (h.cell (p := ⟨b, off + j * 4 + 2, none⟩) hb).trans c2, (h.cell (p := ⟨b, off + j * 4 + 3, none⟩) hb).trans c3⟩⟩
end Go.Proofs.Ytalociocjjinlaa
namespace Go.Proofs.Ytalociocjjinlaa
set_option linter.unusedVariables false
set_option linter.unusedSimpArgs false
set_option maxRecDepth 20000
open Go.RowKit
attribute [local irreducible] runA runX AW
theorem cokB_mkM {n : Int} {l : List Gt} (h1 : 1 ≤ n ∧ n ≤ 8) (h2 : l.length ≤ 24) (h3 : l.all (gok n) = true) : cokB n l = true := by
  unfold cokB btw
  rw [decide_eq_true h1.1, decide_eq_true h1.2, decide_eq_true (by omega), h3]; rfl
end Go.Proofs.Ytalociocjjinlaa
