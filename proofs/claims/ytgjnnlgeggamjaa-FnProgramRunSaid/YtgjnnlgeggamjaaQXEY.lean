/- TRV: laid into one text. -/
import Derived.Test.YtgjnnlgeggamjaaQXEW
import Derived.Test.YtgjnnlgeggamjaaQXEX

namespace Go.Proofs.Ytgjnnlgeggamjaa
set_option linter.unusedVariables false
set_option linter.unusedSimpArgs false
open Go.RowKit
abbrev lvl (g : Gt) : Value := .agg #[.int .i64 g.k, .int .i64 g.a, .int .i64 g.b, .int .i64 g.c]
section
variable {a : Act} {w w' : World} {o : Oper} {x y : Tmp} {b k : Nat} {v v' : Value} {g : Gt}
theorem ro_ldL (hop : o.op = .load 24 (.tmp x)) (ha : a.eval (.tmp x) = .pointer (some ⟨b, k, none⟩)) (hc : w.cell? ⟨b, k, none⟩ = some v) : (execOp a.eval o).run Try.prog w = .ok (.value v) w := by
  unfold execOp; rw [hop]; dsimp only; rw [ha]; simp [go_sem, hc]
theorem ro_ldB (hop : o.op = .load 51 (.tmp x)) (ha : a.eval (.tmp x) = .pointer (some ⟨b, k, none⟩)) (hc : w.cell? ⟨b, k, none⟩ = some v) : (execOp a.eval o).run Try.prog w = .ok (.value v) w := by
  unfold execOp; rw [hop]; dsimp only; rw [ha]; simp [go_sem, hc]
theorem ro_ldG (hop : o.op = .load 47 (.tmp x)) (ha : a.eval (.tmp x) = .pointer (some ⟨b, k, none⟩)) (h0 : w.cell? ⟨b, k, none⟩ = some (.int .i64 g.k)) (h1 : w.cell? ⟨b, k + 1, none⟩ = some (.int .i64 g.a)) (h2 : w.cell? ⟨b, k + 2, none⟩ = some (.int .i64 g.b)) (h3 : w.cell? ⟨b, k + 3, none⟩ = some (.int .i64 g.c)) : (execOp a.eval o).run Try.prog w = .ok (.value (lvl g)) w := by
  unfold execOp; rw [hop]; dsimp only; rw [ha]; simp [go_sem, h0, h1, h2, h3]
theorem ro_f0 (hop : o.op = .fieldAddr 83 (.tmp x) 0) (ha : a.eval (.tmp x) = .pointer (some ⟨b, 0, none⟩)) : (execOp a.eval o).run Try.prog w = .ok (.value (.pointer (some ⟨b, 0, none⟩))) w := by
  unfold execOp; rw [hop]; dsimp only; rw [ha]; simp [go_sem]
theorem ro_f1 (hop : o.op = .fieldAddr 83 (.tmp x) 1) (ha : a.eval (.tmp x) = .pointer (some ⟨b, 0, none⟩)) : (execOp a.eval o).run Try.prog w = .ok (.value (.pointer (some ⟨b, 4, none⟩))) w := by
  unfold execOp; rw [hop]; dsimp only; rw [ha]; simp [go_sem]
theorem ro_f2 (hop : o.op = .fieldAddr 83 (.tmp x) 2) (ha : a.eval (.tmp x) = .pointer (some ⟨b, 0, none⟩)) : (execOp a.eval o).run Try.prog w = .ok (.value (.pointer (some ⟨b, 5, none⟩))) w := by
  unfold execOp; rw [hop]; dsimp only; rw [ha]; simp [go_sem]
theorem ro_f3 (hop : o.op = .fieldAddr 83 (.tmp x) 3) (ha : a.eval (.tmp x) = .pointer (some ⟨b, 0, none⟩)) : (execOp a.eval o).run Try.prog w = .ok (.value (.pointer (some ⟨b, 6, none⟩))) w := by
  unfold execOp; rw [hop]; dsimp only; rw [ha]; simp [go_sem]
theorem ro_b7 (hop : o.op = .build 47 #[(0, .const (.int .i64 7))]) : (execOp a.eval o).run Try.prog w = .ok (.value (lvl ⟨7, 0, 0, 0⟩)) w := by
  unfold execOp; rw [hop]; simp [go_sem]
theorem ro_mk (hop : o.op = .buildSlice 24 1 #[(0, .tmp x)]) (ha : a.eval (.tmp x) = lvl g) : (execOp a.eval o).run Try.prog w = .ok (.value (.slice (some ⟨w.heap.size, 0, none⟩) 1 1)) (w.alloc (.cells #[.int .i64 g.k, .int .i64 g.a, .int .i64 g.b, .int .i64 g.c] 47)) := by
  have ha' : a.tmps[x]?.getD undef = lvl g := by rw [← ha]; simp [Act.eval]
  unfold execOp; rw [hop]; simp [go_sem, ha']
theorem ro_app (hop : o.op = .call { callee := .builtin .append, args := #[.tmp x, .tmp y], argTypes := #[24, 24] }) {sl : Value} (hs : a.eval (.tmp x) = v) (hx : a.eval (.tmp y) = sl) (hrun : (Builtin.append_ #[24, 24] o.type #[v, sl]).run Try.prog w = .ok v' w') : (execOp a.eval o).run Try.prog w = .ok (.value v') w' := by
  unfold execOp
  simp [hop, resolve, invoke, builtin, hs, hx, hrun, Result.andThen]
theorem ro_lb (hop : o.op = .call { callee := .value (.func 60), args := #[.tmp x], argTypes := #[47] }) (hx : a.eval (.tmp x) = v) : (execOp a.eval o).run Try.prog w = .ok (.enter 60 #[v]) w := by
  unfold execOp
  have hx' : a.tmps[x]?.getD undef = v := by rw [← hx]; simp [Act.eval]
  rw [hop]
  simp [go_sem, hx']
theorem ro_bk (hop : o.op = .call { callee := .value (.func 38), args := #[.tmp x, .tmp y], argTypes := #[51, 24] }) (hx : a.eval (.tmp x) = v) (hy : a.eval (.tmp y) = v') : (execOp a.eval o).run Try.prog w = .ok (.enter 38 #[v, v']) w := by
  unfold execOp
  have hx' : a.tmps[x]?.getD undef = v := by rw [← hx]; simp [Act.eval]
  have hy' : a.tmps[y]?.getD undef = v' := by rw [← hy]; simp [Act.eval]
  rw [hop]
  simp [go_sem, hx', hy']
theorem ro_st {A : Option Addr} {n c : Nat} {u : Value} (hop : o.op = .store 24 (.tmp x) (.tmp y)) (hx : a.eval (.tmp x) = .pointer (some ⟨b, 0, none⟩)) (hy : a.eval (.tmp y) = .slice A n c) (hc : w.cell? ⟨b, 0, none⟩ = some u) (hf : w.frozen? ⟨b, 0, none⟩ = false) : (execOp a.eval o).run Try.prog w = .ok .skip (w.setCell ⟨b, 0, none⟩ (.slice A n c)) := by
  unfold execOp
  have hx' : a.tmps[x]?.getD undef = .pointer (some ⟨b, 0, none⟩) := by rw [← hx]; simp [Act.eval]
  have hy' : a.tmps[y]?.getD undef = .slice A n c := by rw [← hy]; simp [Act.eval]
  rw [hop]
  simp [go_sem, hx', hy', hc, hf]
end
end Go.Proofs.Ytgjnnlgeggamjaa
