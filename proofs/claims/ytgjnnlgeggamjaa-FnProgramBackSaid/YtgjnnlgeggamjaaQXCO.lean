/- TRV, LB0, LB, LC, LD, TRD: laid into one text. -/
import Derived.Test.YtgjnnlgeggamjaaQXCF
import Derived.Test.YtgjnnlgeggamjaaQXCM
import Derived.Test.YtgjnnlgeggamjaaQXCN

namespace Go.Proofs.Ytgjnnlgeggamjaa
set_option linter.unusedVariables false
set_option linter.unusedSimpArgs false
open Go.RowKit
abbrev lvl (g : Gt) : Value := .agg #[.int .i64 g.k, .int .i64 g.a, .int .i64 g.b, .int .i64 g.c]
section
variable {a : Act} {w w' : World} {o : Oper} {x y : Tmp} {b k : Nat} {v v' : Value} {g : Gt}
theorem ro_ldL (hop : o.op = .load 24 (.tmp x)) (ha : a.eval (.tmp x) = .pointer (some ⟨b, k, none⟩)) (hc : w.cell? ⟨b, k, none⟩ = some v) : (execOp a.eval o).run Try.prog w = .ok (.value v) w := by
  unfold execOp; rw [hop]; dsimp only; rw [ha]; simp [go_sem, hc]
theorem ro_ldB (hop : o.op = .load 51 (.tmp x)) (ha : a.eval (.tmp x) = .pointer (some ⟨b, k, none⟩)) (hc : w.cell? ⟨b, k, none⟩ = some v) : (execOp a.eval o).run Try.prog w = .ok (.value v) w := by
  unfold execOp; rw [hop]; dsimp only; rw [ha]; simp [go_sem, hc]
theorem ro_ldG (hop : o.op = .load 47 (.tmp x)) (ha : a.eval (.tmp x) = .pointer (some ⟨b, k, none⟩)) (h0 : w.cell? ⟨b, k, none⟩ = some (.int .i64 g.k)) (h1 : w.cell? ⟨b, k + 1, none⟩ = some (.int .i64 g.a)) (h2 : w.cell? ⟨b, k + 2, none⟩ = some (.int .i64 g.b)) (h3 : w.cell? ⟨b, k + 3, none⟩ = some (.int .i64 g.c)) : (execOp a.eval o).run Try.prog w = .ok (.value (lvl g)) w := by
  unfold execOp; rw [hop]; dsimp only; rw [ha]; simp [go_sem, h0, h1, h2, h3]
theorem ro_f0 (hop : o.op = .fieldAddr 83 (.tmp x) 0) (ha : a.eval (.tmp x) = .pointer (some ⟨b, 0, none⟩)) : (execOp a.eval o).run Try.prog w = .ok (.value (.pointer (some ⟨b, 0, none⟩))) w := by
  unfold execOp; rw [hop]; dsimp only; rw [ha]; simp [go_sem]
theorem ro_f1 (hop : o.op = .fieldAddr 83 (.tmp x) 1) (ha : a.eval (.tmp x) = .pointer (some ⟨b, 0, none⟩)) : (execOp a.eval o).run Try.prog w = .ok (.value (.pointer (some ⟨b, 4, none⟩))) w := by
  unfold execOp; rw [hop]; dsimp only; rw [ha]; simp [go_sem]
theorem ro_f2 (hop : o.op = .fieldAddr 83 (.tmp x) 2) (ha : a.eval (.tmp x) = .pointer (some ⟨b, 0, none⟩)) : (execOp a.eval o).run Try.prog w = .ok (.value (.pointer (some ⟨b, 5, none⟩))) w := by
  unfold execOp; rw [hop]; dsimp only; rw [ha]; simp [go_sem]
theorem ro_f3 (hop : o.op = .fieldAddr 83 (.tmp x) 3) (ha : a.eval (.tmp x) = .pointer (some ⟨b, 0, none⟩)) : (execOp a.eval o).run Try.prog w = .ok (.value (.pointer (some ⟨b, 6, none⟩))) w := by
  unfold execOp; rw [hop]; dsimp only; rw [ha]; simp [go_sem]
theorem ro_b7 (hop : o.op = .build 47 #[(0, .const (.int .i64 7))]) : (execOp a.eval o).run Try.prog w = .ok (.value (lvl ⟨7, 0, 0, 0⟩)) w := by
  unfold execOp; rw [hop]; simp [go_sem]
theorem ro_mk (hop : o.op = .buildSlice 24 1 #[(0, .tmp x)]) (ha : a.eval (.tmp x) = lvl g) : (execOp a.eval o).run Try.prog w = .ok (.value (.slice (some ⟨w.heap.size, 0, none⟩) 1 1)) (w.alloc (.cells #[.int .i64 g.k, .int .i64 g.a, .int .i64 g.b, .int .i64 g.c] 47)) := by
  have ha' : a.tmps[x]?.getD undef = lvl g := by rw [← ha]; simp [Act.eval]
  unfold execOp; rw [hop]; simp [go_sem, ha']
theorem ro_app (hop : o.op = .call { callee := .builtin .append, args := #[.tmp x, .tmp y], argTypes := #[24, 24] }) {sl : Value} (hs : a.eval (.tmp x) = v) (hx : a.eval (.tmp y) = sl) (hrun : (Builtin.append_ #[24, 24] o.type #[v, sl]).run Try.prog w = .ok v' w') : (execOp a.eval o).run Try.prog w = .ok (.value v') w' := by
  unfold execOp
  simp [hop, resolve, invoke, builtin, hs, hx, hrun, Result.andThen]
theorem ro_lb (hop : o.op = .call { callee := .value (.func 60), args := #[.tmp x], argTypes := #[47] }) (hx : a.eval (.tmp x) = v) : (execOp a.eval o).run Try.prog w = .ok (.enter 60 #[v]) w := by
  unfold execOp
  have hx' : a.tmps[x]?.getD undef = v := by rw [← hx]; simp [Act.eval]
  rw [hop]
  simp [go_sem, hx']
theorem ro_bk (hop : o.op = .call { callee := .value (.func 38), args := #[.tmp x, .tmp y], argTypes := #[51, 24] }) (hx : a.eval (.tmp x) = v) (hy : a.eval (.tmp y) = v') : (execOp a.eval o).run Try.prog w = .ok (.enter 38 #[v, v']) w := by
  unfold execOp
  have hx' : a.tmps[x]?.getD undef = v := by rw [← hx]; simp [Act.eval]
  have hy' : a.tmps[y]?.getD undef = v' := by rw [← hy]; simp [Act.eval]
  rw [hop]
  simp [go_sem, hx', hy']
theorem ro_st {A : Option Addr} {n c : Nat} {u : Value} (hop : o.op = .store 24 (.tmp x) (.tmp y)) (hx : a.eval (.tmp x) = .pointer (some ⟨b, 0, none⟩)) (hy : a.eval (.tmp y) = .slice A n c) (hc : w.cell? ⟨b, 0, none⟩ = some u) (hf : w.frozen? ⟨b, 0, none⟩ = false) : (execOp a.eval o).run Try.prog w = .ok .skip (w.setCell ⟨b, 0, none⟩ (.slice A n c)) := by
  unfold execOp
  have hx' : a.tmps[x]?.getD undef = .pointer (some ⟨b, 0, none⟩) := by rw [← hx]; simp [Act.eval]
  have hy' : a.tmps[y]?.getD undef = .slice A n c := by rw [← hy]; simp [Act.eval]
  rw [hop]
  simp [go_sem, hx', hy', hc, hf]
end
end Go.Proofs.Ytgjnnlgeggamjaa
namespace Go.Proofs.Ytgjnnlgeggamjaa
set_option linter.unusedVariables false
set_option linter.unusedSimpArgs false
set_option maxRecDepth 20000
open Go.RowKit
attribute [local irreducible] runA runX AW
theorem gq_LB0 {H G : Prop} (k : H) (h : Hid H → G := by (intro hh; repeat1' (first | (first | (refine nxA ?_; (first | refine r_pure2 (by rfl) (by rfl) (fun w => rfl) (by rfl) (by rfl) ?_ | ((first | (refine z_op (by rfl) ?_; first | refine z_ok ?_ ?_ | refine z_ex ?_ (by first | exact zL1 | ((first | fail); exact zWW) | exact zL2 | fail | exact zL3 | fail) ?_) | ((first | refine q_callE wsT wsZ (by rfl) ?_ | refine q_callVE wsT (by rfl) (by rfl) ?_); refine ⟨_, _, _, (by first | assumption | exact k_within _ _ _ | exact k_shapes | exact k_topT _ | exact k_topF _), _, by rfl, ?_, ?_⟩)); focus (first | exact trivial | fail | exact zQZ)) | fail)) | refine swA ?_) | refine awA ?_); exact hh.out)) : G := h ⟨k⟩
def shC (k : Int) : List AC := if k = 0 then [.v (.string ⟨#[97, 100, 100]⟩), .v (.bool true), .v (.bool true), .v (.bool false), .v (.int .i64 0)]
   else if k = 1 then [.v (.string ⟨#[116, 97, 107, 101]⟩), .v (.bool true), .v (.bool true), .v (.bool false), .v (.int .i64 0)]
   else if k = 2 then [.v (.string ⟨#[109, 111, 114, 101]⟩), .v (.bool true), .v (.bool false), .v (.bool true), .v (.int .i64 63)]
   else if k = 3 then [.v (.string ⟨#[115, 119, 97, 112]⟩), .v (.bool true), .v (.bool true), .v (.bool false), .v (.int .i64 0)]
   else if k = 4 then [.v (.string ⟨#[114, 101, 112, 101, 97, 116]⟩), .v (.bool false), .v (.bool false), .v (.bool true), .v (.int .i64 3)]
   else if k = 5 then [.v (.string ⟨#[101, 110, 100]⟩), .v (.bool false), .v (.bool false), .v (.bool false), .v (.int .i64 0)]
   else if k = 6 then [.v (.string ⟨#[105, 102]⟩), .v (.bool true), .v (.bool false), .v (.bool true), .v (.int .i64 63)]
   else if k = 7 then [.v (.string ⟨#[101, 108, 115, 101]⟩), .v (.bool false), .v (.bool false), .v (.bool false), .v (.int .i64 0)]
   else [.v (.string ⟨#[102, 105]⟩), .v (.bool true), .v (.bool false), .v (.bool true), .v (.int .i64 63)]
def shV (k : Int) : Value := if k = 0 then .agg #[.string ⟨#[97, 100, 100]⟩, .bool true, .bool true, .bool false, .int .i64 0]
   else if k = 1 then .agg #[.string ⟨#[116, 97, 107, 101]⟩, .bool true, .bool true, .bool false, .int .i64 0]
   else if k = 2 then .agg #[.string ⟨#[109, 111, 114, 101]⟩, .bool true, .bool false, .bool true, .int .i64 63]
   else if k = 3 then .agg #[.string ⟨#[115, 119, 97, 112]⟩, .bool true, .bool true, .bool false, .int .i64 0]
   else if k = 4 then .agg #[.string ⟨#[114, 101, 112, 101, 97, 116]⟩, .bool false, .bool false, .bool true, .int .i64 3]
   else if k = 5 then .agg #[.string ⟨#[101, 110, 100]⟩, .bool false, .bool false, .bool false, .int .i64 0]
   else if k = 6 then .agg #[.string ⟨#[105, 102]⟩, .bool true, .bool false, .bool true, .int .i64 63]
   else if k = 7 then .agg #[.string ⟨#[101, 108, 115, 101]⟩, .bool false, .bool false, .bool false, .int .i64 0]
   else .agg #[.string ⟨#[102, 105]⟩, .bool true, .bool false, .bool true, .int .i64 63]
theorem k_shapes : Kon Try.prog 69 [] [] (.g (.agg (shC 0 ++ shC 1 ++ shC 2 ++ shC 3 ++ shC 4 ++ shC 5 ++ shC 6 ++ shC 7 ++ shC 8))) [] [] := by
  (refine kM Try.func69 rfl ?_; intro hfit hfe)
  (repeat (first | refine gq_LB0 ?_ | (refine ga0A ?_; intro _hq)))
  (refine rtA ?_; try rfl)
theorem k_topT (m : Int) : Kon Try.prog 70 [vB true, vI m] [] (vI m) [] [] := by
  (refine kM Try.func70 rfl ?_; intro hfit hfe)
  (repeat (first | refine gq_LB0 ?_ | (refine ga0A ?_; intro _hq)))
  (refine rtA ?_; try rfl)
theorem k_topF (m : Int) : Kon Try.prog 70 [vB false, vI m] [] (vI 0) [] [] := by
  (refine kM Try.func70 rfl ?_; intro hfit hfe)
  (repeat (first | refine gq_LB0 ?_ | (refine ga0A ?_; intro _hq)))
  (refine rtA ?_; try rfl)
theorem btw_0 (x : Int) : btw x 0 0 = (x == 0) := by
  unfold btw
  rw [Bool.eq_iff_iff]; simp; omega
theorem gq_LB {H G : Prop} (k : H) (h : Hid H → G := by (intro hh; repeat1' (first | (first | (refine nxA ?_; (first | refine r_pure2 (by rfl) (by rfl) (fun w => rfl) (by rfl) (by rfl) ?_ | ((first | (refine z_op (by rfl) ?_; first | refine z_ok ?_ ?_ | refine z_ex ?_ (by first | exact zL1 | ((first | fail); exact zWW) | exact zL2 | fail | exact zL3 | fail) ?_) | ((first | refine q_callE wsT wsZ (by rfl) ?_ | refine q_callVE wsT (by rfl) (by rfl) ?_); refine ⟨_, _, _, (by first | assumption | exact k_within _ _ _ | exact k_shapes | exact k_topT _ | exact k_topF _), _, by rfl, ?_, ?_⟩)); focus (first | exact trivial | fail | exact zQZ)) | fail)) | refine swA ?_) | refine awA ?_); exact hh.out)) : G := h ⟨k⟩
set_option maxHeartbeats 8000000 in
theorem k_lv0 (v w n : Int) : Kon Try.prog 55 [lV 0 v w n] [] (vB (btw v 0 3 && btw w 0 3 && btw n 0 0 && !(true && (v == w)))) [] [] := by
  cases h1 : btw v 0 3 <;> cases h2 : btw w 0 3 <;> cases h3 : btw n 0 0
  all_goals (refine kM Try.func55 rfl ?_; intro hfit hfe)
  all_goals ((repeat (first | refine gq_LB ?_ | (refine ga0A ?_; intro _hq))))
  all_goals ((refine aw_draw mixed T0ok cfU_ok [(48, [4, 5])] (by rfl) (by kernel_rfl) ?_))
  all_goals ((first | ((first | refine r_none ?_ | refine r_gt (by rfl) (by rfl) zDD (by rfl) ?_ | refine r_gf (by rfl) (by rfl) zDD (by rfl) ?_); (first | refine r_pure2 (by rfl) (by rfl) (fun w => rfl) (by rfl) (by rfl) ?_ | ((first | (refine z_op (by rfl) ?_; first | refine z_ok ?_ ?_ | refine z_ex ?_ (by first | exact zL1 | ((first | fail); exact zWW) | exact zL2 | fail | exact zL3 | fail) ?_ | refine z_alV ?_ (fun _hq => ?_)) | ((first | refine q_callE wsT wsZ (by rfl) ?_ | refine q_callVE wsT (by rfl) (by rfl) ?_); refine ⟨_, _, _, (by first | assumption | exact k_within _ _ _ | exact k_shapes | exact k_topT _ | exact k_topF _), _, by rfl, ?_, ?_⟩)); focus (first | exact trivial | fail | exact zQZ)) | fail)) | refine r_nt (by rfl) (by rfl) zDD (by rfl) ?_ | refine r_nf (by rfl) (by rfl) zDD (by rfl) ?_ | refine r_gu (by rfl) (by rfl) (by rfl) ?_ | refine r_nil ?_))
  all_goals ((first | ((first | refine r_none ?_ | refine r_gt (by rfl) (by rfl) zDD (by rfl) ?_ | refine r_gf (by rfl) (by rfl) zDD (by rfl) ?_); (first | refine r_pure2 (by rfl) (by rfl) (fun w => rfl) (by rfl) (by rfl) ?_ | ((first | (refine z_op (by rfl) ?_; first | refine z_ok ?_ ?_ | refine z_ex ?_ (by first | exact zL1 | ((first | fail); exact zWW) | exact zL2 | fail | exact zL3 | fail) ?_ | refine z_alV ?_ (fun _hq => ?_)) | ((first | refine q_callE wsT wsZ (by rfl) ?_ | refine q_callVE wsT (by rfl) (by rfl) ?_); refine ⟨_, _, _, (by first | assumption | exact k_within _ _ _ | exact k_shapes | exact k_topT _ | exact k_topF _), _, by rfl, ?_, ?_⟩)); focus (first | exact trivial | fail | exact zQZ)) | fail)) | refine r_nt (by rfl) (by rfl) zDD (by rfl) ?_ | refine r_nf (by rfl) (by rfl) zDD (by rfl) ?_ | refine r_gu (by rfl) (by rfl) (by rfl) ?_ | refine r_nil ?_))
  all_goals ((first | ((first | refine r_none ?_ | refine r_gt (by rfl) (by rfl) zDD (by rfl) ?_ | refine r_gf (by rfl) (by rfl) zDD (by rfl) ?_); (first | refine r_pure2 (by rfl) (by rfl) (fun w => rfl) (by rfl) (by rfl) ?_ | ((first | (refine z_op (by rfl) ?_; first | refine z_ok ?_ ?_ | refine z_ex ?_ (by first | exact zL1 | ((first | fail); exact zWW) | exact zL2 | fail | exact zL3 | fail) ?_ | refine z_alV ?_ (fun _hq => ?_)) | ((first | refine q_callE wsT wsZ (by rfl) ?_ | refine q_callVE wsT (by rfl) (by rfl) ?_); refine ⟨_, _, _, (by first | assumption | exact k_within _ _ _ | exact k_shapes | exact k_topT _ | exact k_topF _), _, by rfl, ?_, ?_⟩)); focus (first | exact trivial | fail | exact zQZ)) | fail)) | refine r_nt (by rfl) (by rfl) zDD (by rfl) ?_ | refine r_nf (by rfl) (by rfl) zDD (by rfl) ?_ | refine r_gu (by rfl) (by rfl) (by rfl) ?_ | refine r_nil ?_))
  all_goals (refine r_none ?_; refine z_op (by rfl) ?_; refine z_ex ?_ (pu_of (r := shV 0) (fun w => by kernel_rfl) rfl) ?_; focus (first | exact trivial | fail | exact zQZ))
  all_goals ((repeat (first | refine gq_LB ?_ | (refine ga0A ?_; intro _hq))))
  all_goals ((repeat (first | refine gq_LB ?_ | (refine ga0A ?_; intro _hq) | refine gdA ?_)))
  all_goals ((refine rtA ?_; try rfl))
set_option maxHeartbeats 8000000 in
theorem k_lv1 (v w n : Int) : Kon Try.prog 55 [lV 1 v w n] [] (vB (btw v 0 3 && btw w 0 3 && btw n 0 0 && !(true && (v == w)))) [] [] := by
  cases h1 : btw v 0 3 <;> cases h2 : btw w 0 3 <;> cases h3 : btw n 0 0
  all_goals (refine kM Try.func55 rfl ?_; intro hfit hfe)
  all_goals ((repeat (first | refine gq_LB ?_ | (refine ga0A ?_; intro _hq))))
  all_goals ((refine aw_draw mixed T0ok cfU_ok [(48, [4, 5])] (by rfl) (by kernel_rfl) ?_))
  all_goals ((first | ((first | refine r_none ?_ | refine r_gt (by rfl) (by rfl) zDD (by rfl) ?_ | refine r_gf (by rfl) (by rfl) zDD (by rfl) ?_); (first | refine r_pure2 (by rfl) (by rfl) (fun w => rfl) (by rfl) (by rfl) ?_ | ((first | (refine z_op (by rfl) ?_; first | refine z_ok ?_ ?_ | refine z_ex ?_ (by first | exact zL1 | ((first | fail); exact zWW) | exact zL2 | fail | exact zL3 | fail) ?_ | refine z_alV ?_ (fun _hq => ?_)) | ((first | refine q_callE wsT wsZ (by rfl) ?_ | refine q_callVE wsT (by rfl) (by rfl) ?_); refine ⟨_, _, _, (by first | assumption | exact k_within _ _ _ | exact k_shapes | exact k_topT _ | exact k_topF _), _, by rfl, ?_, ?_⟩)); focus (first | exact trivial | fail | exact zQZ)) | fail)) | refine r_nt (by rfl) (by rfl) zDD (by rfl) ?_ | refine r_nf (by rfl) (by rfl) zDD (by rfl) ?_ | refine r_gu (by rfl) (by rfl) (by rfl) ?_ | refine r_nil ?_))
  all_goals ((first | ((first | refine r_none ?_ | refine r_gt (by rfl) (by rfl) zDD (by rfl) ?_ | refine r_gf (by rfl) (by rfl) zDD (by rfl) ?_); (first | refine r_pure2 (by rfl) (by rfl) (fun w => rfl) (by rfl) (by rfl) ?_ | ((first | (refine z_op (by rfl) ?_; first | refine z_ok ?_ ?_ | refine z_ex ?_ (by first | exact zL1 | ((first | fail); exact zWW) | exact zL2 | fail | exact zL3 | fail) ?_ | refine z_alV ?_ (fun _hq => ?_)) | ((first | refine q_callE wsT wsZ (by rfl) ?_ | refine q_callVE wsT (by rfl) (by rfl) ?_); refine ⟨_, _, _, (by first | assumption | exact k_within _ _ _ | exact k_shapes | exact k_topT _ | exact k_topF _), _, by rfl, ?_, ?_⟩)); focus (first | exact trivial | fail | exact zQZ)) | fail)) | refine r_nt (by rfl) (by rfl) zDD (by rfl) ?_ | refine r_nf (by rfl) (by rfl) zDD (by rfl) ?_ | refine r_gu (by rfl) (by rfl) (by rfl) ?_ | refine r_nil ?_))
  all_goals ((first | ((first | refine r_none ?_ | refine r_gt (by rfl) (by rfl) zDD (by rfl) ?_ | refine r_gf (by rfl) (by rfl) zDD (by rfl) ?_); (first | refine r_pure2 (by rfl) (by rfl) (fun w => rfl) (by rfl) (by rfl) ?_ | ((first | (refine z_op (by rfl) ?_; first | refine z_ok ?_ ?_ | refine z_ex ?_ (by first | exact zL1 | ((first | fail); exact zWW) | exact zL2 | fail | exact zL3 | fail) ?_ | refine z_alV ?_ (fun _hq => ?_)) | ((first | refine q_callE wsT wsZ (by rfl) ?_ | refine q_callVE wsT (by rfl) (by rfl) ?_); refine ⟨_, _, _, (by first | assumption | exact k_within _ _ _ | exact k_shapes | exact k_topT _ | exact k_topF _), _, by rfl, ?_, ?_⟩)); focus (first | exact trivial | fail | exact zQZ)) | fail)) | refine r_nt (by rfl) (by rfl) zDD (by rfl) ?_ | refine r_nf (by rfl) (by rfl) zDD (by rfl) ?_ | refine r_gu (by rfl) (by rfl) (by rfl) ?_ | refine r_nil ?_))
  all_goals (refine r_none ?_; refine z_op (by rfl) ?_; refine z_ex ?_ (pu_of (r := shV 1) (fun w => by kernel_rfl) rfl) ?_; focus (first | exact trivial | fail | exact zQZ))
  all_goals ((repeat (first | refine gq_LB ?_ | (refine ga0A ?_; intro _hq))))
  all_goals ((repeat (first | refine gq_LB ?_ | (refine ga0A ?_; intro _hq) | refine gdA ?_)))
  all_goals ((refine rtA ?_; try rfl))
set_option maxHeartbeats 8000000 in
theorem k_lv3 (v w n : Int) : Kon Try.prog 55 [lV 3 v w n] [] (vB (btw v 0 3 && btw w 0 3 && btw n 0 0 && !(true && (v == w)))) [] [] := by
  cases h1 : btw v 0 3 <;> cases h2 : btw w 0 3 <;> cases h3 : btw n 0 0
  all_goals (refine kM Try.func55 rfl ?_; intro hfit hfe)
  all_goals ((repeat (first | refine gq_LB ?_ | (refine ga0A ?_; intro _hq))))
  all_goals ((refine aw_draw mixed T0ok cfU_ok [(48, [4, 5])] (by rfl) (by kernel_rfl) ?_))
  all_goals ((first | ((first | refine r_none ?_ | refine r_gt (by rfl) (by rfl) zDD (by rfl) ?_ | refine r_gf (by rfl) (by rfl) zDD (by rfl) ?_); (first | refine r_pure2 (by rfl) (by rfl) (fun w => rfl) (by rfl) (by rfl) ?_ | ((first | (refine z_op (by rfl) ?_; first | refine z_ok ?_ ?_ | refine z_ex ?_ (by first | exact zL1 | ((first | fail); exact zWW) | exact zL2 | fail | exact zL3 | fail) ?_ | refine z_alV ?_ (fun _hq => ?_)) | ((first | refine q_callE wsT wsZ (by rfl) ?_ | refine q_callVE wsT (by rfl) (by rfl) ?_); refine ⟨_, _, _, (by first | assumption | exact k_within _ _ _ | exact k_shapes | exact k_topT _ | exact k_topF _), _, by rfl, ?_, ?_⟩)); focus (first | exact trivial | fail | exact zQZ)) | fail)) | refine r_nt (by rfl) (by rfl) zDD (by rfl) ?_ | refine r_nf (by rfl) (by rfl) zDD (by rfl) ?_ | refine r_gu (by rfl) (by rfl) (by rfl) ?_ | refine r_nil ?_))
  all_goals ((first | ((first | refine r_none ?_ | refine r_gt (by rfl) (by rfl) zDD (by rfl) ?_ | refine r_gf (by rfl) (by rfl) zDD (by rfl) ?_); (first | refine r_pure2 (by rfl) (by rfl) (fun w => rfl) (by rfl) (by rfl) ?_ | ((first | (refine z_op (by rfl) ?_; first | refine z_ok ?_ ?_ | refine z_ex ?_ (by first | exact zL1 | ((first | fail); exact zWW) | exact zL2 | fail | exact zL3 | fail) ?_ | refine z_alV ?_ (fun _hq => ?_)) | ((first | refine q_callE wsT wsZ (by rfl) ?_ | refine q_callVE wsT (by rfl) (by rfl) ?_); refine ⟨_, _, _, (by first | assumption | exact k_within _ _ _ | exact k_shapes | exact k_topT _ | exact k_topF _), _, by rfl, ?_, ?_⟩)); focus (first | exact trivial | fail | exact zQZ)) | fail)) | refine r_nt (by rfl) (by rfl) zDD (by rfl) ?_ | refine r_nf (by rfl) (by rfl) zDD (by rfl) ?_ | refine r_gu (by rfl) (by rfl) (by rfl) ?_ | refine r_nil ?_))
  all_goals ((first | ((first | refine r_none ?_ | refine r_gt (by rfl) (by rfl) zDD (by rfl) ?_ | refine r_gf (by rfl) (by rfl) zDD (by rfl) ?_); (first | refine r_pure2 (by rfl) (by rfl) (fun w => rfl) (by rfl) (by rfl) ?_ | ((first | (refine z_op (by rfl) ?_; first | refine z_ok ?_ ?_ | refine z_ex ?_ (by first | exact zL1 | ((first | fail); exact zWW) | exact zL2 | fail | exact zL3 | fail) ?_ | refine z_alV ?_ (fun _hq => ?_)) | ((first | refine q_callE wsT wsZ (by rfl) ?_ | refine q_callVE wsT (by rfl) (by rfl) ?_); refine ⟨_, _, _, (by first | assumption | exact k_within _ _ _ | exact k_shapes | exact k_topT _ | exact k_topF _), _, by rfl, ?_, ?_⟩)); focus (first | exact trivial | fail | exact zQZ)) | fail)) | refine r_nt (by rfl) (by rfl) zDD (by rfl) ?_ | refine r_nf (by rfl) (by rfl) zDD (by rfl) ?_ | refine r_gu (by rfl) (by rfl) (by rfl) ?_ | refine r_nil ?_))
  all_goals (refine r_none ?_; refine z_op (by rfl) ?_; refine z_ex ?_ (pu_of (r := shV 3) (fun w => by kernel_rfl) rfl) ?_; focus (first | exact trivial | fail | exact zQZ))
  all_goals ((repeat (first | refine gq_LB ?_ | (refine ga0A ?_; intro _hq))))
  all_goals ((repeat (first | refine gq_LB ?_ | (refine ga0A ?_; intro _hq) | refine gdA ?_)))
  all_goals ((refine rtA ?_; try rfl))
theorem gq_LC {H G : Prop} (k : H) (h : Hid H → G := by (intro hh; repeat1' (first | (first | (refine nxA ?_; (first | refine r_pure2 (by rfl) (by rfl) (fun w => rfl) (by rfl) (by rfl) ?_ | ((first | (refine z_op (by rfl) ?_; first | refine z_ok ?_ ?_ | refine z_ex ?_ (by first | exact zL1 | ((first | fail); exact zWW) | exact zL2 | fail | exact zL3 | fail) ?_) | ((first | refine q_callE wsT wsZ (by rfl) ?_ | refine q_callVE wsT (by rfl) (by rfl) ?_); refine ⟨_, _, _, (by first | assumption | exact k_within _ _ _ | exact k_shapes | exact k_topT _ | exact k_topF _), _, by rfl, ?_, ?_⟩)); focus (first | exact trivial | fail | exact zQZ)) | fail)) | refine swA ?_) | refine awA ?_); exact hh.out)) : G := h ⟨k⟩
set_option maxHeartbeats 8000000 in
theorem k_lv2 (v w n : Int) : Kon Try.prog 55 [lV 2 v w n] [] (vB (btw v 0 3 && btw w 0 0 && btw n 0 63 && !(false && (v == w)))) [] [] := by
  cases h1 : btw v 0 3 <;> cases h2 : btw w 0 0 <;> cases h3 : btw n 0 63
  all_goals (refine kM Try.func55 rfl ?_; intro hfit hfe)
  all_goals ((repeat (first | refine gq_LC ?_ | (refine ga0A ?_; intro _hq))))
  all_goals ((refine aw_draw mixed T0ok cfU_ok [(48, [4, 5])] (by rfl) (by kernel_rfl) ?_))
  all_goals ((first | ((first | refine r_none ?_ | refine r_gt (by rfl) (by rfl) zDD (by rfl) ?_ | refine r_gf (by rfl) (by rfl) zDD (by rfl) ?_); (first | refine r_pure2 (by rfl) (by rfl) (fun w => rfl) (by rfl) (by rfl) ?_ | ((first | (refine z_op (by rfl) ?_; first | refine z_ok ?_ ?_ | refine z_ex ?_ (by first | exact zL1 | ((first | fail); exact zWW) | exact zL2 | fail | exact zL3 | fail) ?_ | refine z_alV ?_ (fun _hq => ?_)) | ((first | refine q_callE wsT wsZ (by rfl) ?_ | refine q_callVE wsT (by rfl) (by rfl) ?_); refine ⟨_, _, _, (by first | assumption | exact k_within _ _ _ | exact k_shapes | exact k_topT _ | exact k_topF _), _, by rfl, ?_, ?_⟩)); focus (first | exact trivial | fail | exact zQZ)) | fail)) | refine r_nt (by rfl) (by rfl) zDD (by rfl) ?_ | refine r_nf (by rfl) (by rfl) zDD (by rfl) ?_ | refine r_gu (by rfl) (by rfl) (by rfl) ?_ | refine r_nil ?_))
  all_goals ((first | ((first | refine r_none ?_ | refine r_gt (by rfl) (by rfl) zDD (by rfl) ?_ | refine r_gf (by rfl) (by rfl) zDD (by rfl) ?_); (first | refine r_pure2 (by rfl) (by rfl) (fun w => rfl) (by rfl) (by rfl) ?_ | ((first | (refine z_op (by rfl) ?_; first | refine z_ok ?_ ?_ | refine z_ex ?_ (by first | exact zL1 | ((first | fail); exact zWW) | exact zL2 | fail | exact zL3 | fail) ?_ | refine z_alV ?_ (fun _hq => ?_)) | ((first | refine q_callE wsT wsZ (by rfl) ?_ | refine q_callVE wsT (by rfl) (by rfl) ?_); refine ⟨_, _, _, (by first | assumption | exact k_within _ _ _ | exact k_shapes | exact k_topT _ | exact k_topF _), _, by rfl, ?_, ?_⟩)); focus (first | exact trivial | fail | exact zQZ)) | fail)) | refine r_nt (by rfl) (by rfl) zDD (by rfl) ?_ | refine r_nf (by rfl) (by rfl) zDD (by rfl) ?_ | refine r_gu (by rfl) (by rfl) (by rfl) ?_ | refine r_nil ?_))
  all_goals ((first | ((first | refine r_none ?_ | refine r_gt (by rfl) (by rfl) zDD (by rfl) ?_ | refine r_gf (by rfl) (by rfl) zDD (by rfl) ?_); (first | refine r_pure2 (by rfl) (by rfl) (fun w => rfl) (by rfl) (by rfl) ?_ | ((first | (refine z_op (by rfl) ?_; first | refine z_ok ?_ ?_ | refine z_ex ?_ (by first | exact zL1 | ((first | fail); exact zWW) | exact zL2 | fail | exact zL3 | fail) ?_ | refine z_alV ?_ (fun _hq => ?_)) | ((first | refine q_callE wsT wsZ (by rfl) ?_ | refine q_callVE wsT (by rfl) (by rfl) ?_); refine ⟨_, _, _, (by first | assumption | exact k_within _ _ _ | exact k_shapes | exact k_topT _ | exact k_topF _), _, by rfl, ?_, ?_⟩)); focus (first | exact trivial | fail | exact zQZ)) | fail)) | refine r_nt (by rfl) (by rfl) zDD (by rfl) ?_ | refine r_nf (by rfl) (by rfl) zDD (by rfl) ?_ | refine r_gu (by rfl) (by rfl) (by rfl) ?_ | refine r_nil ?_))
  all_goals (refine r_none ?_; refine z_op (by rfl) ?_; refine z_ex ?_ (pu_of (r := shV 2) (fun w => by kernel_rfl) rfl) ?_; focus (first | exact trivial | fail | exact zQZ))
  all_goals ((repeat (first | refine gq_LC ?_ | (refine ga0A ?_; intro _hq))))
  all_goals ((repeat (first | refine gq_LC ?_ | (refine ga0A ?_; intro _hq) | refine gdA ?_)))
  all_goals ((refine rtA ?_; try rfl))
set_option maxHeartbeats 8000000 in
theorem k_lv6 (v w n : Int) : Kon Try.prog 55 [lV 6 v w n] [] (vB (btw v 0 3 && btw w 0 0 && btw n 0 63 && !(false && (v == w)))) [] [] := by
  cases h1 : btw v 0 3 <;> cases h2 : btw w 0 0 <;> cases h3 : btw n 0 63
  all_goals (refine kM Try.func55 rfl ?_; intro hfit hfe)
  all_goals ((repeat (first | refine gq_LC ?_ | (refine ga0A ?_; intro _hq))))
  all_goals ((refine aw_draw mixed T0ok cfU_ok [(48, [4, 5])] (by rfl) (by kernel_rfl) ?_))
  all_goals ((first | ((first | refine r_none ?_ | refine r_gt (by rfl) (by rfl) zDD (by rfl) ?_ | refine r_gf (by rfl) (by rfl) zDD (by rfl) ?_); (first | refine r_pure2 (by rfl) (by rfl) (fun w => rfl) (by rfl) (by rfl) ?_ | ((first | (refine z_op (by rfl) ?_; first | refine z_ok ?_ ?_ | refine z_ex ?_ (by first | exact zL1 | ((first | fail); exact zWW) | exact zL2 | fail | exact zL3 | fail) ?_ | refine z_alV ?_ (fun _hq => ?_)) | ((first | refine q_callE wsT wsZ (by rfl) ?_ | refine q_callVE wsT (by rfl) (by rfl) ?_); refine ⟨_, _, _, (by first | assumption | exact k_within _ _ _ | exact k_shapes | exact k_topT _ | exact k_topF _), _, by rfl, ?_, ?_⟩)); focus (first | exact trivial | fail | exact zQZ)) | fail)) | refine r_nt (by rfl) (by rfl) zDD (by rfl) ?_ | refine r_nf (by rfl) (by rfl) zDD (by rfl) ?_ | refine r_gu (by rfl) (by rfl) (by rfl) ?_ | refine r_nil ?_))
  all_goals ((first | ((first | refine r_none ?_ | refine r_gt (by rfl) (by rfl) zDD (by rfl) ?_ | refine r_gf (by rfl) (by rfl) zDD (by rfl) ?_); (first | refine r_pure2 (by rfl) (by rfl) (fun w => rfl) (by rfl) (by rfl) ?_ | ((first | (refine z_op (by rfl) ?_; first | refine z_ok ?_ ?_ | refine z_ex ?_ (by first | exact zL1 | ((first | fail); exact zWW) | exact zL2 | fail | exact zL3 | fail) ?_ | refine z_alV ?_ (fun _hq => ?_)) | ((first | refine q_callE wsT wsZ (by rfl) ?_ | refine q_callVE wsT (by rfl) (by rfl) ?_); refine ⟨_, _, _, (by first | assumption | exact k_within _ _ _ | exact k_shapes | exact k_topT _ | exact k_topF _), _, by rfl, ?_, ?_⟩)); focus (first | exact trivial | fail | exact zQZ)) | fail)) | refine r_nt (by rfl) (by rfl) zDD (by rfl) ?_ | refine r_nf (by rfl) (by rfl) zDD (by rfl) ?_ | refine r_gu (by rfl) (by rfl) (by rfl) ?_ | refine r_nil ?_))
  all_goals ((first | ((first | refine r_none ?_ | refine r_gt (by rfl) (by rfl) zDD (by rfl) ?_ | refine r_gf (by rfl) (by rfl) zDD (by rfl) ?_); (first | refine r_pure2 (by rfl) (by rfl) (fun w => rfl) (by rfl) (by rfl) ?_ | ((first | (refine z_op (by rfl) ?_; first | refine z_ok ?_ ?_ | refine z_ex ?_ (by first | exact zL1 | ((first | fail); exact zWW) | exact zL2 | fail | exact zL3 | fail) ?_ | refine z_alV ?_ (fun _hq => ?_)) | ((first | refine q_callE wsT wsZ (by rfl) ?_ | refine q_callVE wsT (by rfl) (by rfl) ?_); refine ⟨_, _, _, (by first | assumption | exact k_within _ _ _ | exact k_shapes | exact k_topT _ | exact k_topF _), _, by rfl, ?_, ?_⟩)); focus (first | exact trivial | fail | exact zQZ)) | fail)) | refine r_nt (by rfl) (by rfl) zDD (by rfl) ?_ | refine r_nf (by rfl) (by rfl) zDD (by rfl) ?_ | refine r_gu (by rfl) (by rfl) (by rfl) ?_ | refine r_nil ?_))
  all_goals (refine r_none ?_; refine z_op (by rfl) ?_; refine z_ex ?_ (pu_of (r := shV 6) (fun w => by kernel_rfl) rfl) ?_; focus (first | exact trivial | fail | exact zQZ))
  all_goals ((repeat (first | refine gq_LC ?_ | (refine ga0A ?_; intro _hq))))
  all_goals ((repeat (first | refine gq_LC ?_ | (refine ga0A ?_; intro _hq) | refine gdA ?_)))
  all_goals ((refine rtA ?_; try rfl))
set_option maxHeartbeats 8000000 in
theorem k_lv8 (v w n : Int) : Kon Try.prog 55 [lV 8 v w n] [] (vB (btw v 0 3 && btw w 0 0 && btw n 0 63 && !(false && (v == w)))) [] [] := by
  cases h1 : btw v 0 3 <;> cases h2 : btw w 0 0 <;> cases h3 : btw n 0 63
  all_goals (refine kM Try.func55 rfl ?_; intro hfit hfe)
  all_goals ((repeat (first | refine gq_LC ?_ | (refine ga0A ?_; intro _hq))))
  all_goals ((refine aw_draw mixed T0ok cfU_ok [(48, [4, 5])] (by rfl) (by kernel_rfl) ?_))
  all_goals ((first | ((first | refine r_none ?_ | refine r_gt (by rfl) (by rfl) zDD (by rfl) ?_ | refine r_gf (by rfl) (by rfl) zDD (by rfl) ?_); (first | refine r_pure2 (by rfl) (by rfl) (fun w => rfl) (by rfl) (by rfl) ?_ | ((first | (refine z_op (by rfl) ?_; first | refine z_ok ?_ ?_ | refine z_ex ?_ (by first | exact zL1 | ((first | fail); exact zWW) | exact zL2 | fail | exact zL3 | fail) ?_ | refine z_alV ?_ (fun _hq => ?_)) | ((first | refine q_callE wsT wsZ (by rfl) ?_ | refine q_callVE wsT (by rfl) (by rfl) ?_); refine ⟨_, _, _, (by first | assumption | exact k_within _ _ _ | exact k_shapes | exact k_topT _ | exact k_topF _), _, by rfl, ?_, ?_⟩)); focus (first | exact trivial | fail | exact zQZ)) | fail)) | refine r_nt (by rfl) (by rfl) zDD (by rfl) ?_ | refine r_nf (by rfl) (by rfl) zDD (by rfl) ?_ | refine r_gu (by rfl) (by rfl) (by rfl) ?_ | refine r_nil ?_))
  all_goals ((first | ((first | refine r_none ?_ | refine r_gt (by rfl) (by rfl) zDD (by rfl) ?_ | refine r_gf (by rfl) (by rfl) zDD (by rfl) ?_); (first | refine r_pure2 (by rfl) (by rfl) (fun w => rfl) (by rfl) (by rfl) ?_ | ((first | (refine z_op (by rfl) ?_; first | refine z_ok ?_ ?_ | refine z_ex ?_ (by first | exact zL1 | ((first | fail); exact zWW) | exact zL2 | fail | exact zL3 | fail) ?_ | refine z_alV ?_ (fun _hq => ?_)) | ((first | refine q_callE wsT wsZ (by rfl) ?_ | refine q_callVE wsT (by rfl) (by rfl) ?_); refine ⟨_, _, _, (by first | assumption | exact k_within _ _ _ | exact k_shapes | exact k_topT _ | exact k_topF _), _, by rfl, ?_, ?_⟩)); focus (first | exact trivial | fail | exact zQZ)) | fail)) | refine r_nt (by rfl) (by rfl) zDD (by rfl) ?_ | refine r_nf (by rfl) (by rfl) zDD (by rfl) ?_ | refine r_gu (by rfl) (by rfl) (by rfl) ?_ | refine r_nil ?_))
  all_goals ((first | ((first | refine r_none ?_ | refine r_gt (by rfl) (by rfl) zDD (by rfl) ?_ | refine r_gf (by rfl) (by rfl) zDD (by rfl) ?_); (first | refine r_pure2 (by rfl) (by rfl) (fun w => rfl) (by rfl) (by rfl) ?_ | ((first | (refine z_op (by rfl) ?_; first | refine z_ok ?_ ?_ | refine z_ex ?_ (by first | exact zL1 | ((first | fail); exact zWW) | exact zL2 | fail | exact zL3 | fail) ?_ | refine z_alV ?_ (fun _hq => ?_)) | ((first | refine q_callE wsT wsZ (by rfl) ?_ | refine q_callVE wsT (by rfl) (by rfl) ?_); refine ⟨_, _, _, (by first | assumption | exact k_within _ _ _ | exact k_shapes | exact k_topT _ | exact k_topF _), _, by rfl, ?_, ?_⟩)); focus (first | exact trivial | fail | exact zQZ)) | fail)) | refine r_nt (by rfl) (by rfl) zDD (by rfl) ?_ | refine r_nf (by rfl) (by rfl) zDD (by rfl) ?_ | refine r_gu (by rfl) (by rfl) (by rfl) ?_ | refine r_nil ?_))
  all_goals (refine r_none ?_; refine z_op (by rfl) ?_; refine z_ex ?_ (pu_of (r := shV 8) (fun w => by kernel_rfl) rfl) ?_; focus (first | exact trivial | fail | exact zQZ))
  all_goals ((repeat (first | refine gq_LC ?_ | (refine ga0A ?_; intro _hq))))
  all_goals ((repeat (first | refine gq_LC ?_ | (refine ga0A ?_; intro _hq) | refine gdA ?_)))
  all_goals ((refine rtA ?_; try rfl))
theorem gq_LD {H G : Prop} (k : H) (h : Hid H → G := by (intro hh; repeat1' (first | (first | (refine nxA ?_; (first | refine r_pure2 (by rfl) (by rfl) (fun w => rfl) (by rfl) (by rfl) ?_ | ((first | (refine z_op (by rfl) ?_; first | refine z_ok ?_ ?_ | refine z_ex ?_ (by first | exact zL1 | ((first | fail); exact zWW) | exact zL2 | fail | exact zL3 | fail) ?_) | ((first | refine q_callE wsT wsZ (by rfl) ?_ | refine q_callVE wsT (by rfl) (by rfl) ?_); refine ⟨_, _, _, (by first | assumption | exact k_within _ _ _ | exact k_shapes | exact k_topT _ | exact k_topF _), _, by rfl, ?_, ?_⟩)); focus (first | exact trivial | fail | exact zQZ)) | fail)) | refine swA ?_) | refine awA ?_); exact hh.out)) : G := h ⟨k⟩
set_option maxHeartbeats 8000000 in
theorem k_lv4 (v w n : Int) : Kon Try.prog 55 [lV 4 v w n] [] (vB (btw v 0 0 && btw w 0 0 && btw n 0 3 && !(false && (v == w)))) [] [] := by
  cases h1 : btw v 0 0 <;> cases h2 : btw w 0 0 <;> cases h3 : btw n 0 3
  all_goals (refine kM Try.func55 rfl ?_; intro hfit hfe)
  all_goals ((repeat (first | refine gq_LD ?_ | (refine ga0A ?_; intro _hq))))
  all_goals ((refine aw_draw mixed T0ok cfU_ok [(48, [4, 5])] (by rfl) (by kernel_rfl) ?_))
  all_goals ((first | ((first | refine r_none ?_ | refine r_gt (by rfl) (by rfl) zDD (by rfl) ?_ | refine r_gf (by rfl) (by rfl) zDD (by rfl) ?_); (first | refine r_pure2 (by rfl) (by rfl) (fun w => rfl) (by rfl) (by rfl) ?_ | ((first | (refine z_op (by rfl) ?_; first | refine z_ok ?_ ?_ | refine z_ex ?_ (by first | exact zL1 | ((first | fail); exact zWW) | exact zL2 | fail | exact zL3 | fail) ?_ | refine z_alV ?_ (fun _hq => ?_)) | ((first | refine q_callE wsT wsZ (by rfl) ?_ | refine q_callVE wsT (by rfl) (by rfl) ?_); refine ⟨_, _, _, (by first | assumption | exact k_within _ _ _ | exact k_shapes | exact k_topT _ | exact k_topF _), _, by rfl, ?_, ?_⟩)); focus (first | exact trivial | fail | exact zQZ)) | fail)) | refine r_nt (by rfl) (by rfl) zDD (by rfl) ?_ | refine r_nf (by rfl) (by rfl) zDD (by rfl) ?_ | refine r_gu (by rfl) (by rfl) (by rfl) ?_ | refine r_nil ?_))
  all_goals ((first | ((first | refine r_none ?_ | refine r_gt (by rfl) (by rfl) zDD (by rfl) ?_ | refine r_gf (by rfl) (by rfl) zDD (by rfl) ?_); (first | refine r_pure2 (by rfl) (by rfl) (fun w => rfl) (by rfl) (by rfl) ?_ | ((first | (refine z_op (by rfl) ?_; first | refine z_ok ?_ ?_ | refine z_ex ?_ (by first | exact zL1 | ((first | fail); exact zWW) | exact zL2 | fail | exact zL3 | fail) ?_ | refine z_alV ?_ (fun _hq => ?_)) | ((first | refine q_callE wsT wsZ (by rfl) ?_ | refine q_callVE wsT (by rfl) (by rfl) ?_); refine ⟨_, _, _, (by first | assumption | exact k_within _ _ _ | exact k_shapes | exact k_topT _ | exact k_topF _), _, by rfl, ?_, ?_⟩)); focus (first | exact trivial | fail | exact zQZ)) | fail)) | refine r_nt (by rfl) (by rfl) zDD (by rfl) ?_ | refine r_nf (by rfl) (by rfl) zDD (by rfl) ?_ | refine r_gu (by rfl) (by rfl) (by rfl) ?_ | refine r_nil ?_))
  all_goals ((first | ((first | refine r_none ?_ | refine r_gt (by rfl) (by rfl) zDD (by rfl) ?_ | refine r_gf (by rfl) (by rfl) zDD (by rfl) ?_); (first | refine r_pure2 (by rfl) (by rfl) (fun w => rfl) (by rfl) (by rfl) ?_ | ((first | (refine z_op (by rfl) ?_; first | refine z_ok ?_ ?_ | refine z_ex ?_ (by first | exact zL1 | ((first | fail); exact zWW) | exact zL2 | fail | exact zL3 | fail) ?_ | refine z_alV ?_ (fun _hq => ?_)) | ((first | refine q_callE wsT wsZ (by rfl) ?_ | refine q_callVE wsT (by rfl) (by rfl) ?_); refine ⟨_, _, _, (by first | assumption | exact k_within _ _ _ | exact k_shapes | exact k_topT _ | exact k_topF _), _, by rfl, ?_, ?_⟩)); focus (first | exact trivial | fail | exact zQZ)) | fail)) | refine r_nt (by rfl) (by rfl) zDD (by rfl) ?_ | refine r_nf (by rfl) (by rfl) zDD (by rfl) ?_ | refine r_gu (by rfl) (by rfl) (by rfl) ?_ | refine r_nil ?_))
  all_goals (refine r_none ?_; refine z_op (by rfl) ?_; refine z_ex ?_ (pu_of (r := shV 4) (fun w => by kernel_rfl) rfl) ?_; focus (first | exact trivial | fail | exact zQZ))
  all_goals ((repeat (first | refine gq_LD ?_ | (refine ga0A ?_; intro _hq))))
  all_goals ((repeat (first | refine gq_LD ?_ | (refine ga0A ?_; intro _hq) | refine gdA ?_)))
  all_goals ((refine rtA ?_; try rfl))
set_option maxHeartbeats 8000000 in
theorem k_lv5 (v w n : Int) : Kon Try.prog 55 [lV 5 v w n] [] (vB (btw v 0 0 && btw w 0 0 && btw n 0 0 && !(false && (v == w)))) [] [] := by
  cases h1 : btw v 0 0 <;> cases h2 : btw w 0 0 <;> cases h3 : btw n 0 0
  all_goals (refine kM Try.func55 rfl ?_; intro hfit hfe)
  all_goals ((repeat (first | refine gq_LD ?_ | (refine ga0A ?_; intro _hq))))
  all_goals ((refine aw_draw mixed T0ok cfU_ok [(48, [4, 5])] (by rfl) (by kernel_rfl) ?_))
  all_goals ((first | ((first | refine r_none ?_ | refine r_gt (by rfl) (by rfl) zDD (by rfl) ?_ | refine r_gf (by rfl) (by rfl) zDD (by rfl) ?_); (first | refine r_pure2 (by rfl) (by rfl) (fun w => rfl) (by rfl) (by rfl) ?_ | ((first | (refine z_op (by rfl) ?_; first | refine z_ok ?_ ?_ | refine z_ex ?_ (by first | exact zL1 | ((first | fail); exact zWW) | exact zL2 | fail | exact zL3 | fail) ?_ | refine z_alV ?_ (fun _hq => ?_)) | ((first | refine q_callE wsT wsZ (by rfl) ?_ | refine q_callVE wsT (by rfl) (by rfl) ?_); refine ⟨_, _, _, (by first | assumption | exact k_within _ _ _ | exact k_shapes | exact k_topT _ | exact k_topF _), _, by rfl, ?_, ?_⟩)); focus (first | exact trivial | fail | exact zQZ)) | fail)) | refine r_nt (by rfl) (by rfl) zDD (by rfl) ?_ | refine r_nf (by rfl) (by rfl) zDD (by rfl) ?_ | refine r_gu (by rfl) (by rfl) (by rfl) ?_ | refine r_nil ?_))
  all_goals ((first | ((first | refine r_none ?_ | refine r_gt (by rfl) (by rfl) zDD (by rfl) ?_ | refine r_gf (by rfl) (by rfl) zDD (by rfl) ?_); (first | refine r_pure2 (by rfl) (by rfl) (fun w => rfl) (by rfl) (by rfl) ?_ | ((first | (refine z_op (by rfl) ?_; first | refine z_ok ?_ ?_ | refine z_ex ?_ (by first | exact zL1 | ((first | fail); exact zWW) | exact zL2 | fail | exact zL3 | fail) ?_ | refine z_alV ?_ (fun _hq => ?_)) | ((first | refine q_callE wsT wsZ (by rfl) ?_ | refine q_callVE wsT (by rfl) (by rfl) ?_); refine ⟨_, _, _, (by first | assumption | exact k_within _ _ _ | exact k_shapes | exact k_topT _ | exact k_topF _), _, by rfl, ?_, ?_⟩)); focus (first | exact trivial | fail | exact zQZ)) | fail)) | refine r_nt (by rfl) (by rfl) zDD (by rfl) ?_ | refine r_nf (by rfl) (by rfl) zDD (by rfl) ?_ | refine r_gu (by rfl) (by rfl) (by rfl) ?_ | refine r_nil ?_))
  all_goals ((first | ((first | refine r_none ?_ | refine r_gt (by rfl) (by rfl) zDD (by rfl) ?_ | refine r_gf (by rfl) (by rfl) zDD (by rfl) ?_); (first | refine r_pure2 (by rfl) (by rfl) (fun w => rfl) (by rfl) (by rfl) ?_ | ((first | (refine z_op (by rfl) ?_; first | refine z_ok ?_ ?_ | refine z_ex ?_ (by first | exact zL1 | ((first | fail); exact zWW) | exact zL2 | fail | exact zL3 | fail) ?_ | refine z_alV ?_ (fun _hq => ?_)) | ((first | refine q_callE wsT wsZ (by rfl) ?_ | refine q_callVE wsT (by rfl) (by rfl) ?_); refine ⟨_, _, _, (by first | assumption | exact k_within _ _ _ | exact k_shapes | exact k_topT _ | exact k_topF _), _, by rfl, ?_, ?_⟩)); focus (first | exact trivial | fail | exact zQZ)) | fail)) | refine r_nt (by rfl) (by rfl) zDD (by rfl) ?_ | refine r_nf (by rfl) (by rfl) zDD (by rfl) ?_ | refine r_gu (by rfl) (by rfl) (by rfl) ?_ | refine r_nil ?_))
  all_goals (refine r_none ?_; refine z_op (by rfl) ?_; refine z_ex ?_ (pu_of (r := shV 5) (fun w => by kernel_rfl) rfl) ?_; focus (first | exact trivial | fail | exact zQZ))
  all_goals ((repeat (first | refine gq_LD ?_ | (refine ga0A ?_; intro _hq))))
  all_goals ((repeat (first | refine gq_LD ?_ | (refine ga0A ?_; intro _hq) | refine gdA ?_)))
  all_goals ((refine rtA ?_; try rfl))
set_option maxHeartbeats 8000000 in
theorem k_lv7 (v w n : Int) : Kon Try.prog 55 [lV 7 v w n] [] (vB (btw v 0 0 && btw w 0 0 && btw n 0 0 && !(false && (v == w)))) [] [] := by
  cases h1 : btw v 0 0 <;> cases h2 : btw w 0 0 <;> cases h3 : btw n 0 0
  all_goals (refine kM Try.func55 rfl ?_; intro hfit hfe)
  all_goals ((repeat (first | refine gq_LD ?_ | (refine ga0A ?_; intro _hq))))
  all_goals ((refine aw_draw mixed T0ok cfU_ok [(48, [4, 5])] (by rfl) (by kernel_rfl) ?_))
  all_goals ((first | ((first | refine r_none ?_ | refine r_gt (by rfl) (by rfl) zDD (by rfl) ?_ | refine r_gf (by rfl) (by rfl) zDD (by rfl) ?_); (first | refine r_pure2 (by rfl) (by rfl) (fun w => rfl) (by rfl) (by rfl) ?_ | ((first | (refine z_op (by rfl) ?_; first | refine z_ok ?_ ?_ | refine z_ex ?_ (by first | exact zL1 | ((first | fail); exact zWW) | exact zL2 | fail | exact zL3 | fail) ?_ | refine z_alV ?_ (fun _hq => ?_)) | ((first | refine q_callE wsT wsZ (by rfl) ?_ | refine q_callVE wsT (by rfl) (by rfl) ?_); refine ⟨_, _, _, (by first | assumption | exact k_within _ _ _ | exact k_shapes | exact k_topT _ | exact k_topF _), _, by rfl, ?_, ?_⟩)); focus (first | exact trivial | fail | exact zQZ)) | fail)) | refine r_nt (by rfl) (by rfl) zDD (by rfl) ?_ | refine r_nf (by rfl) (by rfl) zDD (by rfl) ?_ | refine r_gu (by rfl) (by rfl) (by rfl) ?_ | refine r_nil ?_))
  all_goals ((first | ((first | refine r_none ?_ | refine r_gt (by rfl) (by rfl) zDD (by rfl) ?_ | refine r_gf (by rfl) (by rfl) zDD (by rfl) ?_); (first | refine r_pure2 (by rfl) (by rfl) (fun w => rfl) (by rfl) (by rfl) ?_ | ((first | (refine z_op (by rfl) ?_; first | refine z_ok ?_ ?_ | refine z_ex ?_ (by first | exact zL1 | ((first | fail); exact zWW) | exact zL2 | fail | exact zL3 | fail) ?_ | refine z_alV ?_ (fun _hq => ?_)) | ((first | refine q_callE wsT wsZ (by rfl) ?_ | refine q_callVE wsT (by rfl) (by rfl) ?_); refine ⟨_, _, _, (by first | assumption | exact k_within _ _ _ | exact k_shapes | exact k_topT _ | exact k_topF _), _, by rfl, ?_, ?_⟩)); focus (first | exact trivial | fail | exact zQZ)) | fail)) | refine r_nt (by rfl) (by rfl) zDD (by rfl) ?_ | refine r_nf (by rfl) (by rfl) zDD (by rfl) ?_ | refine r_gu (by rfl) (by rfl) (by rfl) ?_ | refine r_nil ?_))
  all_goals ((first | ((first | refine r_none ?_ | refine r_gt (by rfl) (by rfl) zDD (by rfl) ?_ | refine r_gf (by rfl) (by rfl) zDD (by rfl) ?_); (first | refine r_pure2 (by rfl) (by rfl) (fun w => rfl) (by rfl) (by rfl) ?_ | ((first | (refine z_op (by rfl) ?_; first | refine z_ok ?_ ?_ | refine z_ex ?_ (by first | exact zL1 | ((first | fail); exact zWW) | exact zL2 | fail | exact zL3 | fail) ?_ | refine z_alV ?_ (fun _hq => ?_)) | ((first | refine q_callE wsT wsZ (by rfl) ?_ | refine q_callVE wsT (by rfl) (by rfl) ?_); refine ⟨_, _, _, (by first | assumption | exact k_within _ _ _ | exact k_shapes | exact k_topT _ | exact k_topF _), _, by rfl, ?_, ?_⟩)); focus (first | exact trivial | fail | exact zQZ)) | fail)) | refine r_nt (by rfl) (by rfl) zDD (by rfl) ?_ | refine r_nf (by rfl) (by rfl) zDD (by rfl) ?_ | refine r_gu (by rfl) (by rfl) (by rfl) ?_ | refine r_nil ?_))
  all_goals (refine r_none ?_; refine z_op (by rfl) ?_; refine z_ex ?_ (pu_of (r := shV 7) (fun w => by kernel_rfl) rfl) ?_; focus (first | exact trivial | fail | exact zQZ))
  all_goals ((repeat (first | refine gq_LD ?_ | (refine ga0A ?_; intro _hq))))
  all_goals ((repeat (first | refine gq_LD ?_ | (refine ga0A ?_; intro _hq) | refine gdA ?_)))
  all_goals ((refine rtA ?_; try rfl))
theorem gq_TRD {H G : Prop} (k : H) (h : Hid H → G := by (intro hh; repeat1' (first | (first | (refine nxA ?_; (first | fail | ((first | (refine z_op (by rfl) ?_; first | refine z_ok ?_ ?_ | refine z_ex ?_ (by first | exact zL1 | ((first | fail); exact zWW) | exact zL2 | fail | exact zL3 | fail) ?_) | ((first | refine q_callE wsT wsZ (by rfl) ?_ | refine q_callVE wsT (by rfl) (by rfl) ?_); refine ⟨_, _, _, (by first | assumption | exact k_within _ _ _ | exact k_lvI _ _ _ _), _, by rfl, ?_, ?_⟩)); focus (first | exact trivial | fail | exact zQZ)) | fail)) | refine swA ?_) | refine awA ?_); exact hh.out)) : G := h ⟨k⟩
theorem k_lvI (k v w n : Int) : Kon Try.prog 55 [lV k v w n] [] (vB (lok k v w n)) [] [] := by
  by_cases h0 : k < 0 ∨ 8 < k
  · rw [lok_out h0]
    have hb : btw k 0 8 = false := by
      unfold btw
      rcases h0 with h | h
      · rw [decide_eq_false (by omega : ¬ 0 ≤ k)]; rfl
      · rw [decide_eq_false (by omega : ¬ k ≤ 8)]; cases decide (0 ≤ k) <;> rfl
    have hW := k_within k 0 8
    rw [hb] at hW
    (refine kM Try.func55 rfl ?_; intro hfit hfe)
    (repeat (first | refine gq_TRD ?_ | (refine ga0A ?_; intro _hq)))
    (refine rtA ?_; try rfl)
  have h' : (k = 0 ∨ k = 1 ∨ k = 3) ∨ (k = 2 ∨ k = 6 ∨ k = 8) ∨ k = 4 ∨ (k = 5 ∨ k = 7) := by omega
  have eA : (btw v 0 3 && btw w 0 3 && (v != w) && (n == 0)) = (btw v 0 3 && btw w 0 3 && btw n 0 0 && !(true && (v == w))) := by
    rw [btw_0]
    unfold bne
    cases btw v 0 3 <;> cases btw w 0 3 <;> cases (v == w) <;> cases (n == 0) <;> rfl
  have eB : (btw v 0 3 && (w == 0) && btw n 0 63) = (btw v 0 3 && btw w 0 0 && btw n 0 63 && !(false && (v == w))) := by
    rw [btw_0]
    cases btw v 0 3 <;> cases (w == 0) <;> cases btw n 0 63 <;> rfl
  have eC : ((v == 0) && (w == 0) && btw n 0 3) = (btw v 0 0 && btw w 0 0 && btw n 0 3 && !(false && (v == w))) := by
    rw [btw_0, btw_0]
    cases (v == 0) <;> cases (w == 0) <;> cases btw n 0 3 <;> rfl
  have eD : ((v == 0) && (w == 0) && (n == 0)) = (btw v 0 0 && btw w 0 0 && btw n 0 0 && !(false && (v == w))) := by
    rw [btw_0, btw_0, btw_0]
    cases (v == 0) <;> cases (w == 0) <;> cases (n == 0) <;> rfl
  rcases h' with hk | hk | rfl | hk
  · rw [lok_A hk, eA]
    rcases hk with rfl | rfl | rfl
    · exact k_lv0 v w n
    · exact k_lv1 v w n
    · exact k_lv3 v w n
  · rw [lok_B hk, eB]
    rcases hk with rfl | rfl | rfl
    · exact k_lv2 v w n
    · exact k_lv6 v w n
    · exact k_lv8 v w n
  · rw [lok_C, eC]
    exact k_lv4 v w n
  · rw [lok_D hk, eD]
    rcases hk with rfl | rfl
    · exact k_lv5 v w n
    · exact k_lv7 v w n
theorem k_p1 (g : Gt) : Kon Try.prog 54 [lV g.k g.a g.b g.c] [] (vB (!(lkG g))) [] [] := by
  (refine kM Try.func54 rfl ?_; intro hfit hfe)
  (repeat (first | refine gq_TRD ?_ | (refine ga0A ?_; intro _hq)))
  (refine rtA ?_; try rfl)
abbrev capL : AV := .g (.one (.fn 54 []))
def bL : List Gt → Nat → Int
  | [], _ => -1
  | g :: l, i => if lkG g = true then bL l (i + 1) else (i : Int)
theorem bL_all : ∀ (l : List Gt) (i : Nat), decide (bL l i ≥ 0) = !(l.all lkG)
  | [], i => rfl
  | g :: l, i => by
    cases h : lkG g with
    | true => simp only [bL, h, if_true, List.all_cons, Bool.true_and]; exact bL_all l (i + 1)
    | false => simp [bL, h]
theorem bL_drop {l : List Gt} {i : Nat} (hi : i < l.length) : bL (l.drop i) i = if lkG (l.getD i Cel.no) = true then bL (l.drop (i + 1)) (i + 1) else (i : Int) := by
  have e : l.getD i Cel.no = l[i] := by simp [List.getD_eq_getElem?_getD, hi]
  rw [List.drop_eq_getElem_cons hi, e]; rfl
theorem k_ixL (l : List Gt) (h : l.length ≤ 100000000) : Kon Try.prog 68 [roA l, capL] [] (vI (bL l 0)) [] [] := by
  (refine kM Try.func68 rfl ?_; intro hfit hfe)
  (repeat (first | refine gq_TRD ?_ | (refine ga0A ?_; intro _hq)))
  (refine aw_rd [0, 1, 7] [] (fun i : Nat => [(8, vI i)]) (fun _ => []) (fun i => i ≤ l.length ∧ bL (l.drop i) i = bL l 0) (fun i => l.length - i) 0 (by rfl) (by rfl) ?_ (by rfl) zHE zHE ?_)
  · exact ⟨Nat.zero_le _, by rw [List.drop_zero]⟩
  rintro i ⟨hi, hz⟩
  rcases Nat.lt_or_ge i l.length with h6 | h6
  · have hd : decide ((i : Int) < (l.length : Int)) = true := by simpa using h6
    rw [bL_drop h6] at hz
    have hK := k_p1 (l.getD (i : Int).toNat Cel.no)
    replace hz : (if lkG (l.getD (i : Int).toNat Cel.no) = true then bL (l.drop (i + 1)) (i + 1) else (i : Int)) = bL l 0 := hz
    cases hb : lkG (l.getD (i : Int).toNat Cel.no) with
    | false =>
      rw [hb, if_neg (by decide)] at hz
      rw [hb] at hK
      rw [← hz]
      clear hz
      (repeat (first | refine gq_TRD ?_ | (refine ga0A ?_; intro _hq)))
      (refine rtA ?_; try rfl)
    | true =>
      rw [hb, if_pos rfl] at hz
      rw [hb] at hK
      have hinv : i + 1 ≤ l.length ∧ bL (l.drop (i + 1)) (i + 1) = bL l 0 := ⟨h6, hz⟩
      clear hz
      (repeat (first | refine gq_TRD ?_ | (refine ga0A ?_; intro _hq)))
      exact ⟨i + 1, hinv, ⟨by rfl, zHE, zHE⟩, (by first | omega | (dsimp only; omega))⟩
  · have hd : decide ((i : Int) < (l.length : Int)) = false := by simp; omega
    rw [List.drop_of_length_le h6, bL] at hz
    rw [← hz]
    clear hz
    (repeat (first | refine gq_TRD ?_ | (refine ga0A ?_; intro _hq)))
    (refine rtA ?_; try rfl)
theorem k_cfL (l : List Gt) (h : l.length ≤ 100000000) : Kon Try.prog 53 [roA l, capL] [] (vB (!(l.all lkG))) [] [] := by
  rw [← bL_all l 0]
  have hK := k_ixL l h
  (refine kM Try.func53 rfl ?_; intro hfit hfe)
  (repeat (first | refine gq_TRD ?_ | (refine ga0A ?_; intro _hq)))
  (refine rtA ?_; try rfl)
set_option maxHeartbeats 4000000 in
theorem k_lbI (l : Gt) (h : lkG l = true) : Kon Try.prog 60 [lV l.k l.a l.b l.c] [] (lV (lb l).k (lb l).a (lb l).b (lb l).c) [] [] := by
  have hk := lk_kind h
  have hc := lk_cases h
  obtain ⟨k, a, b, c⟩ := l
  have hL := k_lvI k a b c
  have h' : lok k a b c = true := h
  rw [h'] at hL
  clear h h'
  dsimp only at hk hc ⊢
  have hcc : 0 ≤ c ∧ c ≤ 63 := by omega
  clear hc
  obtain rfl | rfl | rfl | rfl | rfl | rfl | rfl | rfl | rfl : k = 0 ∨ k = 1 ∨ k = 2 ∨ k = 3 ∨ k = 4 ∨ k = 5 ∨ k = 6 ∨ k = 7 ∨ k = 8 := by omega
  · show Kon _ _ _ _ (lV 1 a b c) _ _
    (refine kM Try.func60 rfl ?_; intro hfit hfe)
    (repeat (first | refine gq_TRD ?_ | (refine ga0A ?_; intro _hq)))
    (refine rtA ?_; try rfl)
  · show Kon _ _ _ _ (lV 0 a b c) _ _
    (refine kM Try.func60 rfl ?_; intro hfit hfe)
    (repeat (first | refine gq_TRD ?_ | (refine ga0A ?_; intro _hq)))
    (refine rtA ?_; try rfl)
  · show Kon _ _ _ _ (lV 2 a b ((64 - c) % 64)) _ _
    (refine kM Try.func60 rfl ?_; intro hfit hfe)
    (repeat (first | refine gq_TRD ?_ | (refine ga0A ?_; intro _hq)))
    (refine rtA ?_; try rfl)
  · show Kon _ _ _ _ (lV 3 a b c) _ _
    (refine kM Try.func60 rfl ?_; intro hfit hfe)
    (repeat (first | refine gq_TRD ?_ | (refine ga0A ?_; intro _hq)))
    (refine rtA ?_; try rfl)
  · show Kon _ _ _ _ (lV 5 0 0 0) _ _
    (refine kM Try.func60 rfl ?_; intro hfit hfe)
    (repeat (first | refine gq_TRD ?_ | (refine ga0A ?_; intro _hq)))
    (refine rtA ?_; try rfl)
  · show Kon _ _ _ _ (lV 4 a b c) _ _
    (refine kM Try.func60 rfl ?_; intro hfit hfe)
    (repeat (first | refine gq_TRD ?_ | (refine ga0A ?_; intro _hq)))
    (refine rtA ?_; try rfl)
  · show Kon _ _ _ _ (lV 8 a b c) _ _
    (refine kM Try.func60 rfl ?_; intro hfit hfe)
    (repeat (first | refine gq_TRD ?_ | (refine ga0A ?_; intro _hq)))
    (refine rtA ?_; try rfl)
  · show Kon _ _ _ _ (lV 7 a b c) _ _
    (refine kM Try.func60 rfl ?_; intro hfit hfe)
    (repeat (first | refine gq_TRD ?_ | (refine ga0A ?_; intro _hq)))
    (refine rtA ?_; try rfl)
  · show Kon _ _ _ _ (lV 6 a b c) _ _
    (refine kM Try.func60 rfl ?_; intro hfit hfe)
    (repeat (first | refine gq_TRD ?_ | (refine ga0A ?_; intro _hq)))
    (refine rtA ?_; try rfl)
end Go.Proofs.Ytgjnnlgeggamjaa
