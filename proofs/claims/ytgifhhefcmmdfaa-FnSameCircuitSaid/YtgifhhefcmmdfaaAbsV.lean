/- From a contract of a law to what is asked of it. No program is named. -/
import Derived.Test.YtgifhhefcmmdfaaAbsU
import Derived.Below
namespace Go.Proofs.Ytgifhhefcmmdfaa
set_option linter.unusedVariables false
open Go.RowKit
/-- Read-only data of before a call. -/
def Rep0 (w : World) (a : AV) (z : Value) : Prop := a.rep w (fun _ => undef) (fun _ => none) (fun b => b < w.heap.size) z
theorem ownB_none {β : Nat → Value} {G : Blk} (h : ∀ i, G i = none) (b : Nat) : ¬ ownB β G b := by
  rintro ⟨i, r, e, hi, _⟩
  rw [h] at hi; cases hi
theorem gin_nil (i : Nat) : Gin [] i = none := by
  unfold Gin
  split
  · simp
  · rfl
/-- A law answers true and leaves what was there. -/
theorem law_run {P : Program} {f : FuncId} {C : Fn3} (hC : ConOk P f C) {aa : List AV} (h : C aa [] = some (vB true, [], [])) {vs : Array Value} {w : World} (hs : vs.size = aa.length) (hr : ∀ (j : Nat) (a : AV), aa[j]? = some a → ∃ z, vs[j]? = some z ∧ Rep0 w a z) :
    Calls P f vs w fun e w' => e = .returned (.bool true) ∧ Below w.heap.size w w' := by
  have hG : Gin [] = fun _ => none := funext gin_nil
  have hM : ∀ b, ¬ Mof (fun _ => undef) [] b := by
    rintro b ⟨j, e, hj, _⟩
    simp at hj
  have hok : ∀ b, okB w (fun b => b < w.heap.size) (fun _ => undef) (Gin []) w b ↔ b < w.heap.size := fun b =>
    ⟨fun h => h.1, fun h => ⟨h, ownB_none gin_nil b, fun h => h⟩⟩
  have hok2 : okB w (fun b => b < w.heap.size) (fun _ => undef) (Gin []) w = fun b => b < w.heap.size := funext fun b => propext (hok b)
  have sim : Sim w (Mof (fun _ => undef) []) (fun b => b < w.heap.size) (fun _ => undef) vs.size (fun _ => undef) ⟨argsE aa, Gin []⟩ w vs := by
    refine ⟨rfl, rfl, rfl, Nat.le_refl _, fun _ _ _ => rfl, fun i r e hi => ?_, fun i j r e r' e' b hi => ?_, fun i r e b hi => ?_, fun i e _ hi => ?_, rfl, fun i a ha => ?_⟩
    · rw [show (⟨argsE aa, Gin []⟩ : St).G i = Gin [] i from rfl, gin_nil] at hi; cases hi
    · rw [show (⟨argsE aa, Gin []⟩ : St).G i = Gin [] i from rfl, gin_nil] at hi; cases hi
    · rw [show (⟨argsE aa, Gin []⟩ : St).G i = Gin [] i from rfl, gin_nil] at hi; cases hi
    · rw [show (⟨argsE aa, Gin []⟩ : St).G i = Gin [] i from rfl, gin_nil] at hi
    · have ha' : aa[i]? = some a := ha
      obtain ⟨z, hz, hrz⟩ := hr i a ha'
      have hlt : i < vs.size := (Array.getElem?_eq_some_iff.1 hz).1
      refine ⟨hlt, ?_⟩
      rw [hok2]
      show a.rep w _ (Gin []) _ _
      rw [hG]
      have : vs.getD i undef = z := by rw [Array.getD_eq_getD_getElem?, hz]; rfl
      rw [this]
      exact hrz
  refine (hC.does aa [] _ _ _ h w vs (fun _ => undef) (fun b => b < w.heap.size) (fun b hb => ⟨hb, hM b⟩) sim hs).mono ?_
  rintro e w' ⟨v, β', rfl, hsim, hrep, _⟩
  have hv : v = .bool true := hrep.1
  exact ⟨by rw [hv], hsim.os, hsim.tape, hsim.output, hsim.size, fun k hk => hsim.block k hk (hM k)⟩
end Go.Proofs.Ytgifhhefcmmdfaa
