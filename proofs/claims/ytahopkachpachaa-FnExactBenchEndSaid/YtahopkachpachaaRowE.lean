/- How benches that came in read. -/
import Derived.Test.YtahopkachpachaaRowD
namespace Go.Proofs.Ytahopkachpachaa
set_option linter.unusedVariables false
set_option linter.unusedSimpArgs false
open Go.ChangeShapes Go.WideShapes Go.ChangeAt Go.RowKit Go.Joins Go.Deep
section
variable {H : Type} {enc : TypeId × Value → H} {P : Program} {w : World}
theorem list5 {α : Type} {l : List α} (h : l.length = 5) : ∃ a b c d e, l = [a, b, c, d, e] := by
  match l, h with
  | [a, b, c, d, e], _ => exact ⟨a, b, c, d, e, rfl⟩
theorem list4 {α : Type} {l : List α} (h : l.length = 4) : ∃ a b c d, l = [a, b, c, d] := by
  match l, h with
  | [a, b, c, d], _ => exact ⟨a, b, c, d, rfl⟩
theorem opens_gate {e : TypeId} {f0 f1 f2 f3 : Field} (he : P.underlying e = some (.struct #[f0, f1, f2, f3])) (hone : oneCellFields P #[f0, f1, f2, f3] = true) (hC : P.cellsOf e = 4)
    (h0 : P.underlying f0.type = some (.int .i64)) (h1 : P.underlying f1.type = some (.int .i64)) (h2 : P.underlying f2.type = some (.int .i64)) (h3 : P.underlying f3.type = some (.int .i64)) : OpensC enc P w e Gt := by
  intro n cs x h
  obtain ⟨y0, y1, y2, y3, m, _, hl, g0, g1, g2, g3⟩ := trod_struct4 he h
  obtain ⟨c0, c1, c2, c3, rfl⟩ := list4 (hl.trans hC)
  obtain ⟨o0, k0⟩ := hone_of hone 0 f0 rfl
  obtain ⟨o1, k1⟩ := hone_of hone 1 f1 rfl
  obtain ⟨o2, k2⟩ := hone_of hone 2 f2 rfl
  obtain ⟨o3, k3⟩ := hone_of hone 3 f3 rfl
  rw [o0, k0] at g0
  rw [o1, k1] at g1
  rw [o2, k2] at g2
  rw [o3, k3] at g3
  obtain ⟨i0, e0, _⟩ := DataW.trod_int h0 g0
  obtain ⟨i1, e1, _⟩ := DataW.trod_int h1 g1
  obtain ⟨i2, e2, _⟩ := DataW.trod_int h2 g2
  obtain ⟨i3, e3, _⟩ := DataW.trod_int h3 g3
  simp at e0 e1 e2 e3
  subst e0 e1 e2 e3
  exact ⟨⟨i0, i1, i2, i3⟩, rfl⟩
theorem i64_in_of {k : Int} (h : (Lit.int .i64 k).wf = true) : -9223372036854775808 ≤ k ∧ k ≤ 9223372036854775807 := by
  simp [Lit.wf, IntKind.min, IntKind.max, IntKind.signed, IntKind.bits] at h
  omega
theorem bench_of_trod {t e : TypeId} {f0 f1 f2 f3 f4 : Field} {v : Value} {d : DataW H} {ps : List MemPlace} {r : Reach} {b0 : Nat} (ht : P.underlying t = some (.struct #[f0, f1, f2, f3, f4])) (hone : oneCellFields P #[f0, f1, f2, f3, f4] = true) (hC : P.cellsOf t = 5)
    (h0 : P.underlying f0.type = some (.int .i64)) (h1 : P.underlying f1.type = some (.slice e)) (hz : P.cellsOf e = 4) (hg : OpensC enc P w e Gt) (h2 : P.underlying f2.type = some (.int .i64)) (h3 : P.underlying f3.type = some (.int .i64)) (h4 : P.underlying f4.type = some (.int .i64))
    (hval : Value.okWide P w r b0 t v) (h : DataW.Trod enc P w 0 (fun _ => true) true t v d ps) :
    ∃ (n : Int) (l : List Gt) (f wd a : Int), (-9223372036854775808 ≤ n ∧ n ≤ 9223372036854775807) ∧ l.length ≤ 9223372036854775807 ∧ Rep0 w (.g (.agg [.v (.int .i64 n), .ro 4 l.length (cV l), .v (.int .i64 f), .v (.int .i64 wd), .v (.int .i64 a)])) v := by
  obtain ⟨cs, rfl, hsz⟩ := okWide_struct ht hval
  obtain ⟨fuel, hf⟩ := h
  obtain ⟨xs, m, _, _, hl, hlen, hk⟩ := DataW.trod_struct ht hf
  obtain ⟨L⟩ := cs
  obtain ⟨c0, c1, c2, c3, c4, rfl⟩ := list5 (l := L) (by have := hsz.trans hC; simpa using this)
  obtain ⟨y0, y1, y2, y3, y4, rfl⟩ := list5 (l := xs) (by simpa using hlen)
  obtain ⟨o0, k0⟩ := hone_of hone 0 f0 rfl
  obtain ⟨o1, k1⟩ := hone_of hone 1 f1 rfl
  obtain ⟨o2, k2⟩ := hone_of hone 2 f2 rfl
  obtain ⟨o3, k3⟩ := hone_of hone 3 f3 rfl
  obtain ⟨o4, k4⟩ := hone_of hone 4 f4 rfl
  have g0 := hk 0 f0 rfl
  have g1 := hk 1 f1 rfl
  have g2 := hk 2 f2 rfl
  have g3 := hk 3 f3 rfl
  have g4 := hk 4 f4 rfl
  simp [Value.cells, o0, k0] at g0
  simp [Value.cells, o1, k1] at g1
  simp [Value.cells, o2, k2] at g2
  simp [Value.cells, o3, k3] at g3
  simp [Value.cells, o4, k4] at g4
  obtain ⟨i0, e0, _, w0⟩ := DataW.trod_int h0 g0
  obtain ⟨i2, e2, _⟩ := DataW.trod_int h2 g2
  obtain ⟨i3, e3, _⟩ := DataW.trod_int h3 g3
  obtain ⟨i4, e4, _⟩ := DataW.trod_int h4 g4
  obtain ⟨l, hl2⟩ := ro_of_trod (α := Gt) h1 hz hg g1
  simp at e0 e2 e3 e4
  subst e0 e2 e3 e4
  have hlen2 : l.length ≤ 9223372036854775807 := by
    obtain ⟨_, A, c, _, q1, q2, _⟩ := hl2
    unfold maxLen at q2
    omega
  refine ⟨i0, l, i2, i3, i4, i64_in_of w0, hlen2, rep_agg rfl ?_⟩
  intro j c hj
  rcases j with _ | _ | _ | _ | _ | j
  · cases hj; exact ⟨_, rfl, rep_v rfl⟩
  · cases hj; exact ⟨_, rfl, hl2⟩
  · cases hj; exact ⟨_, rfl, rep_v rfl⟩
  · cases hj; exact ⟨_, rfl, rep_v rfl⟩
  · cases hj; exact ⟨_, rfl, rep_v rfl⟩
  · simp at hj
end
end Go.Proofs.Ytahopkachpachaa
