/- What the rows' proofs share: how arguments that came in read as slices. -/
import Derived.Test.YtpjbajfoahmleaaFldA
import Derived.ProofKit
import Derived.OpenShut
import Derived.ShutString
import Derived.ChangeOld
import Derived.Below
import Derived.Lib.SmallJoins
import Derived.Deep.Slices
namespace Go.Proofs.Ytpjbajfoahmleaa
set_option linter.unusedVariables false
open Go.ChangeShapes Go.WideShapes Go.ChangeAt Go.RowKit Go.Joins Go.Deep

theorem own : ownKnob Try.prog.godebug = none := by kernel_rfl
theorem laidOut : laidOutB Try.prog = true := by kernel_rfl

section
variable {H : Type} {enc : TypeId × Value → H} {P : Program} {w : World}
theorem add_plain (b off j : Nat) : (⟨b, off, none⟩ : Addr).add j = ⟨b, off + j, none⟩ := by
  unfold Addr.add; split <;> simp_all
theorem list_of {α : Type} (p : Nat → α → Prop) (n : Nat) (h : ∀ j, j < n → ∃ v, p j v) : ∃ l : List α, l.length = n ∧ ∀ j (hj : j < l.length), p j l[j] := by
  induction n with
  | zero => exact ⟨[], rfl, fun j hj => by simp at hj⟩
  | succ n ih =>
    obtain ⟨l, hl, hp⟩ := ih fun j hj => h j (by omega)
    obtain ⟨v, hv⟩ := h n (by omega)
    refine ⟨l ++ [v], by simp [hl], fun j hj => ?_⟩
    by_cases hlt : j < l.length
    · rw [List.getElem_append_left hlt]; exact hp j hlt
    · have e : j = l.length := by simp at hj; omega
      subst e
      simp [hl, hv]
/-- A slice of truths that came in. -/
theorem slB_of_trod {t e : TypeId} {fuel : Nat} {v : Value} {y : DataW H × List MemPlace} {ps : List MemPlace} (ht : P.underlying t = some (.slice e)) (he : P.underlying e = some .bool) (hc : P.cellsOf e = 1)
    (h : DataW.trod enc P w 0 (fun _ => true) true fuel t [v] = some y) (hfz : w.noneFrozen ps) (hsub : ∀ x ∈ y.2, x ∈ ps) : ∃ A n c l, v = .slice A n c ∧ SlB w 0 w.heap.size A n c l := by
  rcases open_slice1 ht hc h with ⟨hcs, _⟩ | ⟨a, len, cap, m, n, V, D, Pl, hcs, _, hl, hm, hmm, rfl, hx⟩
  · simp at hcs
    exact ⟨none, 0, 0, [], hcs, Sl.nil _ _ _ _ _ (by omega) (Nat.le_refl _)⟩
  · simp at hcs
    subst hcs
    simp at hmm
    subst hmm
    obtain ⟨l, hll, hlp⟩ := list_of (fun j (b : Bool) => w.cell? (a.add j) = some (.bool b)) len fun j hj => by
      obtain ⟨h1, h2⟩ := hx j (by omega)
      obtain ⟨b, hb, _⟩ := DataW.trod_bool he h2
      simp at hb
      exact ⟨b, hb ▸ h1⟩
    refine ⟨some a, len, m, l, rfl, by simp [bl, hll], hl, hm, Nat.le_refl _, fun hn => ?_⟩
    obtain ⟨b, off, spot⟩ := a
    have hspot : spot = none := by
      have := World.cell?_spot (hlp 0 (by omega))
      simpa [Addr.add] using this
    subst hspot
    refine ⟨b, off, rfl, Nat.zero_le _, ?_, fun j hj => ⟨?_, ?_⟩⟩
    · have := hlp 0 (by omega)
      rw [add_plain] at this
      exact block_lt_of_cell this
    · have := hlp j (by omega)
      rw [add_plain] at this
      rw [this, bl_get l j (by omega)]
      have hj' : j < l.length := by omega
      simp [hj']
    · refine hfz b (off + j) (hsub _ ?_)
      simp [MemPlace.row]
      exact .inl (by omega)
end

/-- The frame of a row's proof, from its walk: the arguments opened by the caller. -/
theorem row_end {H : Type} {enc : TypeId × Value → H} {W : World} {t : TypeId} {v : Value} {d : DataW H} {p : List MemPlace} (h : DataW.Trod enc Try.prog W 0 (fun _ => true) true t v d p) : ∀ x ∈ p, x.block < W.heap.size := by
  obtain ⟨m, hm⟩ := h; exact DataW.trod_lt m _ _ _ hm
end Go.Proofs.Ytpjbajfoahmleaa
