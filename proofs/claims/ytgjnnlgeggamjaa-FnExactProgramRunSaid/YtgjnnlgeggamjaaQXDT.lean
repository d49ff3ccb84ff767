/- TRW: laid into one text. -/
import Derived.Test.YtgjnnlgeggamjaaQXDK
import Derived.Test.YtgjnnlgeggamjaaQXDS

namespace Go.Proofs.Ytgjnnlgeggamjaa
set_option linter.unusedVariables false
set_option linter.unusedSimpArgs false
open Go.RowKit Go.Shelf
attribute [local go_sem] Oper.semAt_some
theorem parse_one (P : List Gt) (hP : P.length ≤ 2000000) (w : World) (hg : Glo w) (hz : gsz ≤ w.heap.size) (y : Value) (hy : RoRep w (fun b => b < w.heap.size) 4 P.length (cV P) y) :
    Calls Try.prog 36 #[y] w fun e w' => ∃ v, e = .returned (.tuple #[v, .bool (prs P).isSome]) ∧ Below w.heap.size w w' ∧ ∀ t, prs P = some t → TV w' (fun b => w.heap.size ≤ b ∧ b < w'.heap.size) t v := by
  have hp := parse_ok P hP w hg hz y hy
  obtain ⟨F, hF⟩ : ∃ F, F = prs P := ⟨_, rfl⟩
  rw [← hF] at hp ⊢
  refine hp.mono ?_
  rintro e w' ⟨hb, he⟩
  cases F with
  | none => exact ⟨_, he, hb, fun t h => by cases h⟩
  | some t =>
    obtain ⟨v, he, hv⟩ := he
    exact ⟨v, he, hb, fun t' h => by cases h; exact hv⟩
end Go.Proofs.Ytgjnnlgeggamjaa
