/- A walk cut between two parts: what is known there, by a value. No program is named. -/
import Derived.Test.YtgifhhefcmmdfaaAbsZ
namespace Go.Proofs.Ytgifhhefcmmdfaa
set_option linter.unusedVariables false
set_option linter.unusedSimpArgs false
open Go.RowKit
/-- What is left to show, hidden from searches. -/
structure Hid (H : Prop) : Prop where
  out : H
def cutK {σ : Type} (KE : Exit → St → Prop) (E : σ → List (Nat × AV)) (G : σ → List (Nat × (Nat × Ent))) (q : σ → Prop) : Exit → St → Prop
  | .normal, S => ∃ g', q g' ∧ Is S (E g') (G g')
  | e, S => KE e S
theorem aw_cutg {P : Program} {nt : Nat} {x y : Code} {KE : Exit → St → Prop} {S : St} (ks bs : List Nat) {Ec : List (Nat × AV)} {Gc : List (Nat × (Nat × Ent))} {σ : Type} (E : σ → List (Nat × AV)) (G : σ → List (Nat × (Nat × Ent))) (q : σ → Prop) (hE : rdSlots S ks = some Ec) (hG : rdBlks S bs = some Gc)
    (h : AW P nt x (cutK KE (fun g => E g ++ Ec) (fun g => G g ++ Gc) q) S)
    (next : ∀ g, q g → AW P nt y KE (ofL (E g ++ Ec) (G g ++ Gc))) : AW P nt (.seq x y) KE S := by
  refine aw_seq (h.mono fun e S' hk => ?_)
  cases e with
  | normal =>
    obtain ⟨g, hq, hI⟩ := hk
    exact cut_ofL _ _ hI.1 hI.2.1 hI.2.2 (next g hq)
  | _ => exact hk
end Go.Proofs.Ytgifhhefcmmdfaa
