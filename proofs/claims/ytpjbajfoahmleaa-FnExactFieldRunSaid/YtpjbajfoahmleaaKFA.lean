/- The law FnFieldTurn. -/
import Derived.Test.YtpjbajfoahmleaaPlnB
import Derived.Test.YtpjbajfoahmleaaZA
namespace Go.Proofs.Ytpjbajfoahmleaa
set_option linter.unusedVariables false
set_option linter.unusedSimpArgs false
set_option maxRecDepth 20000
open Go.RowKit
attribute [local irreducible] runA runX AW
@[simp] theorem ballsB_refl (f : Fld) : ballsB f f = true := by simp [ballsB, beqL]
@[simp] theorem sameB_refl (f : Fld) : sameB f f = true := by simp [sameB, beqL]
theorem shp_ok {f : Fld} (h : f.shp) (hc : cntB f.l ≤ 12) : f.ok = true := by
  obtain ⟨h1, h2, h3⟩ := h
  simp only [Fld.ok, btw, Bool.and_eq_true, decide_eq_true_eq, beq_iff_eq]
  exact ⟨⟨⟨⟨h1.1, h1.2⟩, h2⟩, h3⟩, hc⟩
theorem step_ok {f : Fld} (h : f.ok = true) : f.step.ok = true := by
  have hs := Fld.shp_ok h
  obtain ⟨s, l, b⟩ := f
  exact shp_ok (Fld.shp_step hs) (by rw [step_cnt hs]; exact (Fld.ok_facts h).2.2.2.2)
theorem back_ok {f : Fld} (h : f.ok = true) : f.back.ok = true := by
  obtain ⟨s, l, b⟩ := f
  exact step_ok (f := ⟨s, l, !b⟩) h
theorem itr_ok {g : Fld → Fld} (hg : ∀ f, f.ok = true → (g f).ok = true) {f : Fld} (h : f.ok = true) : ∀ n, (itr g n f).ok = true
  | 0 => h
  | n + 1 => hg _ (itr_ok hg h n)
theorem run_ok {f : Fld} (h : f.ok = true) (n : Int) : (f.run n).ok = true := by
  unfold Fld.run
  split
  · exact itr_ok (fun f => step_ok) h _
  · exact itr_ok (fun f => back_ok) h _
theorem itr_turn {f : Fld} (h : f.shp) : ∀ n, itr Fld.step n f.turn = (itr Fld.step n f).turn
  | 0 => rfl
  | n + 1 => by
    show (itr Fld.step n f.turn).step = (itr Fld.step n f).step.turn
    rw [itr_turn h n, step_turn (itr_shp (fun f => Fld.shp_step) h n)]
theorem run_turn {f : Fld} (h : f.shp) (n : Nat) : f.turn.run n = (f.run n).turn := by
  unfold Fld.run
  rw [if_pos (by omega), if_pos (by omega)]
  exact itr_turn h _
end Go.Proofs.Ytpjbajfoahmleaa
