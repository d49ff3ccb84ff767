/- What the rows' proofs share: how arguments that came in read as slices. -/
import Derived.Test.YtchlhgfmoahdfaaBase
import Derived.ProofKit
import Derived.OpenShut
import Derived.ShutString
import Derived.ChangeOld
import Derived.Below
import Derived.Lib.SmallJoins
import Derived.Deep.Slices
namespace Go.Proofs.Ytchlhgfmoahdfaa
set_option linter.unusedVariables false
open Go.ChangeShapes Go.WideShapes Go.ChangeAt Go.RowKit Go.Joins Go.Deep

theorem own : ownKnob Try.prog.godebug = none := by kernel_rfl
theorem laidOut : laidOutB Try.prog = true := by kernel_rfl

section
variable {H : Type} {enc : TypeId × Value → H} {P : Program} {w : World}
theorem add_plain (b off j : Nat) : (⟨b, off, none⟩ : Addr).add j = ⟨b, off + j, none⟩ := by
  unfold Addr.add; split <;> simp_all
theorem list_of {α : Type} (p : Nat → α → Prop) (n : Nat) (h : ∀ j, j < n → ∃ v, p j v) : ∃ l : List α, l.length = n ∧ ∀ j (hj : j < l.length), p j l[j] := by
  induction n with
  | zero => exact ⟨[], rfl, fun j hj => by simp at hj⟩
  | succ n ih =>
    obtain ⟨l, hl, hp⟩ := ih fun j hj => h j (by omega)
    obtain ⟨v, hv⟩ := h n (by omega)
    refine ⟨l ++ [v], by simp [hl], fun j hj => ?_⟩
    by_cases hlt : j < l.length
    · rw [List.getElem_append_left hlt]; exact hp j hlt
    · have e : j = l.length := by simp at hj; omega
      subst e
      simp [hl, hv]
end

/-- The frame of a row's proof, from its walk: the arguments opened by the caller. -/
theorem row_end {H : Type} {enc : TypeId × Value → H} {W : World} {t : TypeId} {v : Value} {d : DataW H} {p : List MemPlace} (h : DataW.Trod enc Try.prog W 0 (fun _ => true) true t v d p) : ∀ x ∈ p, x.block < W.heap.size := by
  obtain ⟨m, hm⟩ := h; exact DataW.trod_lt m _ _ _ hm
end Go.Proofs.Ytchlhgfmoahdfaa
