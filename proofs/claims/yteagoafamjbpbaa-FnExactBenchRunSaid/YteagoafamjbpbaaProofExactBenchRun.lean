/- FnExactBenchRun returns true for every input, and leaves its arguments as they were. -/
import Derived.Test.YteagoafamjbpbaaQExactBenchRunJ
namespace Go.Proofs.Yteagoafamjbpbaa.lawFnExactBenchRun
set_option linter.unusedVariables false
set_option linter.unusedSimpArgs false
open Go.ChangeShapes Go.WideShapes Go.ChangeAt Go.RowKit Go.Joins Go.Deep

set_option maxRecDepth 100000 in
theorem lifted (os : Os) (started : os.Started) (H : Type) (enc : TypeId × Value → H) :
    ReturnsInHanded {} Try.checked os 9 .any (Rows.fnExactBenchRunSpec.pre6 enc Try.prog Try.f9 Rows.fnExactBenchRunRow.domain false) (Rows.fnExactBenchRunSpec.post enc Try.prog Try.f9 false true false false) := by
  refine returnsInHanded_of_change (C := Try.checked) own started (by kernel_rfl) Try.func9
    (ChangeSpec.witness6 (enc := enc) (C := Try.checked) false ⟨#[], #[.agg #[.int .i64 0, .slice none 0 0, .int .i64 0, .int .i64 0, .int .i64 0], .slice none 0 0], []⟩ 8 (by kernel_rfl) (by kernel_rfl) (by kernel_rfl) (by kernel_rfl)) ?_
  intro W base args ds gs before hval0 hW hcnd _
  have hval : ∀ (j : Nat) t v, Try.f9.params[j]? = some t → args[j]? = some v → Value.okWide Try.prog W .any base t v := hval0
  have hW' := hW
  obtain ⟨p, q, hA0, hV, rfl, hfz, hnd⟩ := hW
  have hA : DataW.TrodAll enc Try.prog W 0 (fun _ => true) true Try.f9.params.toList args.toList ds p := hA0
  rw [Try.params9] at hA hval
  obtain ⟨v0, vs0, d0, ds0, p0, q0, hargs, rfl, rfl, h0, r0⟩ := trodAll_cons hA
  obtain ⟨v1, vs1, d1, ds1, p1, q1, rfl, rfl, rfl, h1, r1⟩ := trodAll_cons r0
  obtain ⟨rfl, rfl, rfl⟩ := trodAll_nil r1
  obtain rfl : args = #[v0, v1] := by cases args; simp_all
  obtain ⟨rfl, rfl⟩ := trodVars_none hV
  have k0 := h0
  have k1 := h1
  have lt0 := row_end h0
  have lt1 := row_end h1
  obtain ⟨n0, gs0, f0, wd0, at0, hn0, hg0, hl0⟩ := bench_of_trod Try.underlying48 (by kernel_rfl) (by kernel_rfl) Try.underlying3 Try.underlying46 (by kernel_rfl) (opens_gate Try.underlying49 (by kernel_rfl) (by kernel_rfl) Try.underlying3 Try.underlying3 Try.underlying3 Try.underlying3) Try.underlying3 Try.underlying3 Try.underlying3 (hval 0 48 v0 rfl rfl) h0
  obtain ⟨dl1, hl1⟩ := deeds_of_trod Try.underlying60 (by kernel_rfl) (opens_deed Try.underlying51 (by kernel_rfl) (by kernel_rfl) (by kernel_rfl) Try.underlying3 Try.underlying3 (opens_gate Try.underlying49 (by kernel_rfl) (by kernel_rfl) Try.underlying3 Try.underlying3 Try.underlying3 Try.underlying3)) (hval 1 60 v1 rfl rfl) h1
  have hdl1 := ro_len hl1
  clear hA0 hval0
  refine (law_of_kon (k_lawXBR n0 gs0 f0 wd0 at0 hg0 hn0 dl1 hdl1) rfl (by
    intro j a hj
    rcases j with _ | j
    · cases hj; exact ⟨_, rfl, hl0⟩
    rcases j with _ | j
    · cases hj; exact ⟨_, rfl, hl1⟩
    simp at hj)).mono fun e W' ⟨he, bel⟩ => ?_
  subst he
  exact ⟨_, rfl, _, _, _, [], _, [], hW', trodAll_mk1 (shut_bool Try.underlying4 _), (trodAll_cons_mk (Below.trod laidOut (by kernel_rfl) (of_decide_eq_true (by kernel_rfl)) k0 bel lt0) (trodAll_cons_mk (Below.trod laidOut (by kernel_rfl) (of_decide_eq_true (by kernel_rfl)) k1 bel lt1) trodAll_mk0)), rfl, bel.frame _, fun h => by cases h⟩

theorem over : Rows.fnExactBenchRunRow.holds Try.pinned (OpenSpec.ofChange Rows.fnExactBenchRunSpec) :=
  OpenClaim.holds_of_wide 9 Try.f9 rfl rfl rfl rfl rfl rfl rfl ⟨rfl, rfl, rfl, rfl, rfl⟩ rfl rfl rfl rfl rfl (by kernel_rfl) Try.func9 (by kernel_rfl)
    (of_decide_eq_true (by kernel_rfl)) (by unfold Func.isWrapper; first | (rw [if_pos (by decide +kernel)]; kernel_rfl) | (rw [if_neg (by decide +kernel)]; exact ⟨rfl, rfl⟩))
    (fun os started H enc _ => lifted os started H enc)

theorem proved : Rows.FnExactBenchRunSaid := over
#print axioms proved
end Go.Proofs.Yteagoafamjbpbaa.lawFnExactBenchRun
