/- FnExactFieldRun returns true for every input, and leaves its arguments as they were. -/
import Derived.Test.YtpjbajfoahmleaaKFY
import Derived.Test.YtpjbajfoahmleaaRowD
namespace Go.Proofs.Ytpjbajfoahmleaa.lawFnExactFieldRun
set_option linter.unusedVariables false
open Go.ChangeShapes Go.WideShapes Go.ChangeAt Go.RowKit Go.Joins Go.Deep

set_option maxRecDepth 100000 in
theorem lifted (os : Os) (started : os.Started) (H : Type) (enc : TypeId × Value → H) :
    ReturnsInHanded {} Try.checked os 6 .any (Rows.fnExactFieldRunSpec.pre6 enc Try.prog Try.f6 Rows.fnExactFieldRunRow.domain false) (Rows.fnExactFieldRunSpec.post enc Try.prog Try.f6 false true false false) := by
  refine returnsInHanded_of_change (C := Try.checked) own started (by kernel_rfl) Try.func6
    (ChangeSpec.witness6 (enc := enc) (C := Try.checked) false ⟨#[], #[.agg #[.int .i64 0, .slice none 0 0, .bool false], .int .i64 0], []⟩ 8 (by kernel_rfl) (by kernel_rfl) (by kernel_rfl) (by kernel_rfl)) ?_
  intro W base args ds gs before hval0 hW hcnd _
  have hval : ∀ (j : Nat) t v, Try.f6.params[j]? = some t → args[j]? = some v → Value.okWide Try.prog W .any base t v := hval0
  have hW' := hW
  obtain ⟨p, q, hA0, hV, rfl, hfz, hnd⟩ := hW
  have hA : DataW.TrodAll enc Try.prog W 0 (fun _ => true) true Try.f6.params.toList args.toList ds p := hA0
  rw [Try.params6] at hA hval
  obtain ⟨v0, vs0, d0, ds0, p0, q0, hargs, rfl, rfl, h0, r0⟩ := trodAll_cons hA
  obtain ⟨v1, vs1, d1, ds1, p1, q1, rfl, rfl, rfl, h1, r1⟩ := trodAll_cons r0
  obtain ⟨rfl, rfl, rfl⟩ := trodAll_nil r1
  obtain rfl : args = #[v0, v1] := by cases args; simp_all
  obtain ⟨rfl, rfl⟩ := trodVars_none hV
  have k0 := h0
  have k1 := h1
  have lt0 := row_end h0
  have lt1 := row_end h1
  obtain ⟨c0, c1, c2, y0, y1, y2, m, rfl, rfl, rfl, hy0, hy1, hy2⟩ := open_agg3 Try.underlying24 (by kernel_rfl) (by kernel_rfl) (hval 0 24 v0 rfl rfl) h0
  obtain ⟨s, e0, _, ws⟩ := DataW.trod_int Try.underlying3 hy0
  obtain ⟨sh, e2, _⟩ := DataW.trod_bool Try.underlying4 hy2
  obtain ⟨l, hl⟩ := ro_of_trod (α := Bool) Try.underlying22 (by kernel_rfl) (opens_bool Try.underlying4) hy1
  simp at e0 e2
  subst e0 e2
  obtain ⟨cell, rfl, rfl, rfl, w1⟩ := open_int Try.underlying3 (hval 1 3 v1 rfl rfl) h1
  clear hA0 hval0
  have hlen : l.length ≤ 9223372036854775807 := by
    obtain ⟨_, A, c, _, h1, h2, _⟩ := hl
    unfold maxLen at h2
    omega
  refine (law_of_kon (k_lawE s l sh cell hlen) rfl (by
    intro j a hj
    rcases j with _ | j
    · cases hj
      refine ⟨_, rfl, rep_agg rfl ?_⟩
      intro j c hj
      rcases j with _ | _ | _ | j
      · cases hj; exact ⟨_, rfl, rep_v rfl⟩
      · cases hj; exact ⟨_, rfl, hl⟩
      · cases hj; exact ⟨_, rfl, rep_v rfl⟩
      · simp at hj
    rcases j with _ | j
    · cases hj; exact ⟨_, rfl, ⟨rfl, rfl⟩⟩
    simp at hj)).mono fun e W' ⟨he, bel⟩ => ?_
  subst he
  exact ⟨_, rfl, _, _, _, [], _, [], hW', trodAll_mk1 (shut_bool Try.underlying4 _), (trodAll_cons_mk (Below.trod laidOut (by kernel_rfl) (of_decide_eq_true (by kernel_rfl)) k0 bel lt0) (trodAll_cons_mk (Below.trod laidOut (by kernel_rfl) (of_decide_eq_true (by kernel_rfl)) k1 bel lt1) trodAll_mk0)), rfl, bel.frame _, fun h => by cases h⟩

theorem over : Rows.fnExactFieldRunRow.holds Try.pinned (OpenSpec.ofChange Rows.fnExactFieldRunSpec) :=
  OpenClaim.holds_of_wide 6 Try.f6 rfl rfl rfl rfl rfl rfl rfl ⟨rfl, rfl, rfl, rfl, rfl⟩ rfl rfl rfl rfl rfl (by kernel_rfl) Try.func6 (by kernel_rfl)
    (of_decide_eq_true (by kernel_rfl)) (by unfold Func.isWrapper; first | (rw [if_pos (by decide +kernel)]; kernel_rfl) | (rw [if_neg (by decide +kernel)]; exact ⟨rfl, rfl⟩))
    (fun os started H enc _ => lifted os started H enc)

theorem proved : Rows.FnExactFieldRunSaid := over
#print axioms proved
end Go.Proofs.Ytpjbajfoahmleaa.lawFnExactFieldRun
