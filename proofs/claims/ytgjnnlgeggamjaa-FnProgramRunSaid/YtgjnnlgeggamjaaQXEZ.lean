/- TRJ: laid into one text. -/
import Derived.Test.YtgjnnlgeggamjaaQXEF
import Derived.Test.YtgjnnlgeggamjaaQXEV
import Derived.Test.YtgjnnlgeggamjaaQXEY

namespace Go.Proofs.Ytgjnnlgeggamjaa
set_option linter.unusedVariables false
set_option linter.unusedSimpArgs false
open Go.RowKit
structure MD (ev : List Value) (ci : Nat) (w0 : World) (RQ : World → Prop) (f : Fl) (v : Nat → Value) (w' : World) : Prop where
  v : ∀ i, f i = true → v i = ev.getD i undef
  n : f ci = false → w' = w0
  y : f ci = true → RQ w'
section
variable {ev : List Value} {ci : Nat} {w0 w' w2 : World} {RQ : World → Prop} {f : Fl} {v : Nat → Value} {x : Value} {i : Nat}
theorem MD.start : MD ev ci w0 RQ (fun _ => false) (fun _ => undef) w0 := ⟨fun i h => (by cases h), fun _ => rfl, fun h => (by cases h)⟩
theorem MD.step (h : MD ev ci w0 RQ f v w') (hi : ci ≠ i) (hx : x = ev.getD i undef) : MD ev ci w0 RQ (up1 f i) (upv v i x) w' := by
  refine ⟨fun j hj => ?_, fun hn => h.n ?_, fun hy => h.y ?_⟩
  · rcases Nat.decEq j i with hji | hji
    · rw [upv_ne _ _ hji]; rw [up1_ne _ hji] at hj; exact h.v j hj
    · subst hji; rw [upv_same]; exact hx
  · rwa [up1_ne _ hi] at hn
  · rwa [up1_ne _ hi] at hy
theorem MD.call (h : MD ev ci w0 RQ f v w') (hr : RQ w2) (hx : x = ev.getD ci undef) : MD ev ci w0 RQ (up1 f ci) (upv v ci x) w2 := by
  refine ⟨fun j hj => ?_, fun hn => ?_, fun _ => hr⟩
  · rcases Nat.decEq j ci with hji | hji
    · rw [upv_ne _ _ hji]; rw [up1_ne _ hji] at hj; exact h.v j hj
    · subst hji; rw [upv_same]; exact hx
  · rw [up1_same] at hn; cases hn
end
section
variable {a : Act} {w w' : World} {o : Oper} {x y z : Tmp} {b k : Nat} {v v' : Value}
theorem q_move (hop : o.op = .move (.tmp x)) (ha : a.eval (.tmp x) = v) : (execOp a.eval o).run Try.prog w = .ok (.value v) w := by
  unfold execOp; rw [hop]; dsimp only; rw [ha]; simp [go_sem]
theorem q_not {c : Bool} (hop : o.op = .unOp .not 4 (.tmp x)) (ha : a.eval (.tmp x) = .bool c) : (execOp a.eval o).run Try.prog w = .ok (.value (.bool (!c))) w := by
  unfold execOp; rw [hop]; dsimp only; rw [ha]; simp [go_sem]
theorem q_l1 (hop : o.op = .fieldAddr 47 (.tmp x) 1) (ha : a.eval (.tmp x) = .pointer (some ⟨b, k, none⟩)) : (execOp a.eval o).run Try.prog w = .ok (.value (.pointer (some ⟨b, k + 1, none⟩))) w := by
  unfold execOp; rw [hop]; dsimp only; rw [ha]; simp [go_sem]
theorem q_l3 (hop : o.op = .fieldAddr 47 (.tmp x) 3) (ha : a.eval (.tmp x) = .pointer (some ⟨b, k, none⟩)) : (execOp a.eval o).run Try.prog w = .ok (.value (.pointer (some ⟨b, k + 3, none⟩))) w := by
  unfold execOp; rw [hop]; dsimp only; rw [ha]; simp [go_sem]
theorem q_m0 (hop : o.op = .fieldAddr 67 (.tmp x) 0) (ha : a.eval (.tmp x) = .pointer (some ⟨b, 0, none⟩)) : (execOp a.eval o).run Try.prog w = .ok (.value (.pointer (some ⟨b, 0, none⟩))) w := by
  unfold execOp; rw [hop]; dsimp only; rw [ha]; simp [go_sem]
theorem q_nil (hop : o.op = .nilCheck (.tmp x)) (ha : a.eval (.tmp x) = .pointer (some ⟨b, k, none⟩)) : (execOp a.eval o).run Try.prog w = .ok (.value (.pointer (some ⟨b, k, none⟩))) w := by
  unfold execOp; rw [hop]; dsimp only; rw [ha]; simp [go_sem]
theorem q_ld {u : Int} (hop : o.op = .load 3 (.tmp x)) (ha : a.eval (.tmp x) = .pointer (some ⟨b, k, none⟩)) (hc : w.cell? ⟨b, k, none⟩ = some (.int .i64 u)) : (execOp a.eval o).run Try.prog w = .ok (.value (.int .i64 u)) w := by
  unfold execOp; rw [hop]; dsimp only; rw [ha]; simp [go_sem, hc]
theorem q_ix {j : Nat} (hj : j < 4) (hop : o.op = .indexAddr 65 (.tmp x) (.tmp y)) (ha : a.eval (.tmp x) = .pointer (some ⟨b, 0, none⟩)) (hb : a.eval (.tmp y) = .int .i64 (j : Int)) : (execOp a.eval o).run Try.prog w = .ok (.value (.pointer (some ⟨b, j, none⟩))) w := by
  have h1 : (j : Int) < 4 := by omega
  unfold execOp; rw [hop]; dsimp only; rw [ha, hb]; simp [go_sem, h1]
theorem q_eqi {c d : Int} (hop : o.op = .binOp .eql 3 (.tmp x) (.tmp y) 3) (ha : a.eval (.tmp x) = .int .i64 c) (hb : a.eval (.tmp y) = .int .i64 d) : (execOp a.eval o).run Try.prog w = .ok (.value (.bool (c == d))) w := by
  unfold execOp; rw [hop]; dsimp only; rw [ha, hb]; simp [go_sem]
theorem q_eqb {c d : Bool} (hop : o.op = .binOp .eql 4 (.tmp x) (.tmp y) 4) (ha : a.eval (.tmp x) = .bool c) (hb : a.eval (.tmp y) = .bool d) : (execOp a.eval o).run Try.prog w = .ok (.value (.bool (c == d))) w := by
  unfold execOp; rw [hop]; dsimp only; rw [ha, hb]; simp [go_sem]
theorem q_pkT (hop : o.op = .pick (.tmp x) (.const (.bool true)) (.tmp y)) (ha : a.eval (.tmp x) = .bool true) : (execOp a.eval o).run Try.prog w = .ok (.value (.bool true)) w := by
  unfold execOp; rw [hop]; dsimp only; rw [ha]; simp [go_sem]
theorem q_pkF {c : Bool} (hop : o.op = .pick (.tmp x) (.const (.bool true)) (.tmp y)) (ha : a.eval (.tmp x) = .bool false) (hb : a.eval (.tmp y) = .bool c) : (execOp a.eval o).run Try.prog w = .ok (.value (.bool c)) w := by
  unfold execOp; rw [hop]; dsimp only; rw [ha, hb]; simp [go_sem]
theorem q_run (hop : o.op = .call { callee := .value (.func 66), args := #[.tmp x, .tmp y], argTypes := #[62, 51] }) (hx : a.eval (.tmp x) = v) (hy : a.eval (.tmp y) = v') : (execOp a.eval o).run Try.prog w = .ok (.enter 66 #[v, v']) w := by
  unfold execOp
  have hx' : a.tmps[x]?.getD undef = v := by rw [← hx]; simp [Act.eval]
  have hy' : a.tmps[y]?.getD undef = v' := by rw [← hy]; simp [Act.eval]
  rw [hop]
  simp [go_sem, hx', hy']
end
theorem lsucc {α : Type} {l : List α} {n : Nat} (h : l.length = n + 1) : ∃ x t, l = x :: t ∧ t.length = n := by
  match l, h with
  | x :: t, h => exact ⟨x, t, rfl, by simpa using h⟩
set_option maxRecDepth 100000 in
theorem list75 {α : Type} {l : List α} (h : l.length = 75) : ∃ x0 x1 x2 x3 x4 x5 x6 x7 x8 x9 x10 x11 x12 x13 x14 x15 x16 x17 x18 x19 x20 x21 x22 x23 x24 x25 x26 x27 x28 x29 x30 x31 x32 x33 x34 x35 x36 x37 x38 x39 x40 x41 x42 x43 x44 x45 x46 x47 x48 x49 x50 x51 x52 x53 x54 x55 x56 x57 x58 x59 x60 x61 x62 x63 x64 x65 x66 x67 x68 x69 x70 x71 x72 x73 x74, l = x0 :: x1 :: x2 :: x3 :: x4 :: x5 :: x6 :: x7 :: x8 :: x9 :: x10 :: x11 :: x12 :: x13 :: x14 :: x15 :: x16 :: x17 :: x18 :: x19 :: x20 :: x21 :: x22 :: x23 :: x24 :: x25 :: x26 :: x27 :: x28 :: x29 :: x30 :: x31 :: x32 :: x33 :: x34 :: x35 :: x36 :: x37 :: x38 :: x39 :: x40 :: x41 :: x42 :: x43 :: x44 :: x45 :: x46 :: x47 :: x48 :: x49 :: x50 :: x51 :: x52 :: x53 :: x54 :: x55 :: x56 :: x57 :: x58 :: x59 :: x60 :: x61 :: x62 :: x63 :: x64 :: x65 :: x66 :: x67 :: x68 :: x69 :: x70 :: x71 :: x72 :: x73 :: x74 :: [] := by
  obtain ⟨x0, l0, e0, h0⟩ := lsucc h
  obtain ⟨x1, l1, e1, h1⟩ := lsucc h0
  obtain ⟨x2, l2, e2, h2⟩ := lsucc h1
  obtain ⟨x3, l3, e3, h3⟩ := lsucc h2
  obtain ⟨x4, l4, e4, h4⟩ := lsucc h3
  obtain ⟨x5, l5, e5, h5⟩ := lsucc h4
  obtain ⟨x6, l6, e6, h6⟩ := lsucc h5
  obtain ⟨x7, l7, e7, h7⟩ := lsucc h6
  obtain ⟨x8, l8, e8, h8⟩ := lsucc h7
  obtain ⟨x9, l9, e9, h9⟩ := lsucc h8
  obtain ⟨x10, l10, e10, h10⟩ := lsucc h9
  obtain ⟨x11, l11, e11, h11⟩ := lsucc h10
  obtain ⟨x12, l12, e12, h12⟩ := lsucc h11
  obtain ⟨x13, l13, e13, h13⟩ := lsucc h12
  obtain ⟨x14, l14, e14, h14⟩ := lsucc h13
  obtain ⟨x15, l15, e15, h15⟩ := lsucc h14
  obtain ⟨x16, l16, e16, h16⟩ := lsucc h15
  obtain ⟨x17, l17, e17, h17⟩ := lsucc h16
  obtain ⟨x18, l18, e18, h18⟩ := lsucc h17
  obtain ⟨x19, l19, e19, h19⟩ := lsucc h18
  obtain ⟨x20, l20, e20, h20⟩ := lsucc h19
  obtain ⟨x21, l21, e21, h21⟩ := lsucc h20
  obtain ⟨x22, l22, e22, h22⟩ := lsucc h21
  obtain ⟨x23, l23, e23, h23⟩ := lsucc h22
  obtain ⟨x24, l24, e24, h24⟩ := lsucc h23
  obtain ⟨x25, l25, e25, h25⟩ := lsucc h24
  obtain ⟨x26, l26, e26, h26⟩ := lsucc h25
  obtain ⟨x27, l27, e27, h27⟩ := lsucc h26
  obtain ⟨x28, l28, e28, h28⟩ := lsucc h27
  obtain ⟨x29, l29, e29, h29⟩ := lsucc h28
  obtain ⟨x30, l30, e30, h30⟩ := lsucc h29
  obtain ⟨x31, l31, e31, h31⟩ := lsucc h30
  obtain ⟨x32, l32, e32, h32⟩ := lsucc h31
  obtain ⟨x33, l33, e33, h33⟩ := lsucc h32
  obtain ⟨x34, l34, e34, h34⟩ := lsucc h33
  obtain ⟨x35, l35, e35, h35⟩ := lsucc h34
  obtain ⟨x36, l36, e36, h36⟩ := lsucc h35
  obtain ⟨x37, l37, e37, h37⟩ := lsucc h36
  obtain ⟨x38, l38, e38, h38⟩ := lsucc h37
  obtain ⟨x39, l39, e39, h39⟩ := lsucc h38
  obtain ⟨x40, l40, e40, h40⟩ := lsucc h39
  obtain ⟨x41, l41, e41, h41⟩ := lsucc h40
  obtain ⟨x42, l42, e42, h42⟩ := lsucc h41
  obtain ⟨x43, l43, e43, h43⟩ := lsucc h42
  obtain ⟨x44, l44, e44, h44⟩ := lsucc h43
  obtain ⟨x45, l45, e45, h45⟩ := lsucc h44
  obtain ⟨x46, l46, e46, h46⟩ := lsucc h45
  obtain ⟨x47, l47, e47, h47⟩ := lsucc h46
  obtain ⟨x48, l48, e48, h48⟩ := lsucc h47
  obtain ⟨x49, l49, e49, h49⟩ := lsucc h48
  obtain ⟨x50, l50, e50, h50⟩ := lsucc h49
  obtain ⟨x51, l51, e51, h51⟩ := lsucc h50
  obtain ⟨x52, l52, e52, h52⟩ := lsucc h51
  obtain ⟨x53, l53, e53, h53⟩ := lsucc h52
  obtain ⟨x54, l54, e54, h54⟩ := lsucc h53
  obtain ⟨x55, l55, e55, h55⟩ := lsucc h54
  obtain ⟨x56, l56, e56, h56⟩ := lsucc h55
  obtain ⟨x57, l57, e57, h57⟩ := lsucc h56
  obtain ⟨x58, l58, e58, h58⟩ := lsucc h57
  obtain ⟨x59, l59, e59, h59⟩ := lsucc h58
  obtain ⟨x60, l60, e60, h60⟩ := lsucc h59
  obtain ⟨x61, l61, e61, h61⟩ := lsucc h60
  obtain ⟨x62, l62, e62, h62⟩ := lsucc h61
  obtain ⟨x63, l63, e63, h63⟩ := lsucc h62
  obtain ⟨x64, l64, e64, h64⟩ := lsucc h63
  obtain ⟨x65, l65, e65, h65⟩ := lsucc h64
  obtain ⟨x66, l66, e66, h66⟩ := lsucc h65
  obtain ⟨x67, l67, e67, h67⟩ := lsucc h66
  obtain ⟨x68, l68, e68, h68⟩ := lsucc h67
  obtain ⟨x69, l69, e69, h69⟩ := lsucc h68
  obtain ⟨x70, l70, e70, h70⟩ := lsucc h69
  obtain ⟨x71, l71, e71, h71⟩ := lsucc h70
  obtain ⟨x72, l72, e72, h72⟩ := lsucc h71
  obtain ⟨x73, l73, e73, h73⟩ := lsucc h72
  obtain ⟨x74, l74, e74, h74⟩ := lsucc h73
  have e75 := List.eq_nil_of_length_eq_zero h74
  refine ⟨x0, x1, x2, x3, x4, x5, x6, x7, x8, x9, x10, x11, x12, x13, x14, x15, x16, x17, x18, x19, x20, x21, x22, x23, x24, x25, x26, x27, x28, x29, x30, x31, x32, x33, x34, x35, x36, x37, x38, x39, x40, x41, x42, x43, x44, x45, x46, x47, x48, x49, x50, x51, x52, x53, x54, x55, x56, x57, x58, x59, x60, x61, x62, x63, x64, x65, x66, x67, x68, x69, x70, x71, x72, x73, x74, ?_⟩
  rw [e0, e1, e2, e3, e4, e5, e6, e7, e8, e9, e10, e11, e12, e13, e14, e15, e16, e17, e18, e19, e20, e21, e22, e23, e24, e25, e26, e27, e28, e29, e30, e31, e32, e33, e34, e35, e36, e37, e38, e39, e40, e41, e42, e43, e44, e45, e46, e47, e48, e49, e50, e51, e52, e53, e54, e55, e56, e57, e58, e59, e60, e61, e62, e63, e64, e65, e66, e67, e68, e69, e70, e71, e72, e73, e74, e75]
set_option maxRecDepth 100000 in
theorem tmps75 {a : Act} (h : a.tmps.size = 75) (hd : a.defers = []) : ∃ x0 x1 x2 x3 x4 x5 x6 x7 x8 x9 x10 x11 x12 x13 x14 x15 x16 x17 x18 x19 x20 x21 x22 x23 x24 x25 x26 x27 x28 x29 x30 x31 x32 x33 x34 x35 x36 x37 x38 x39 x40 x41 x42 x43 x44 x45 x46 x47 x48 x49 x50 x51 x52 x53 x54 x55 x56 x57 x58 x59 x60 x61 x62 x63 x64 x65 x66 x67 x68 x69 x70 x71 x72 x73 x74, a = ⟨(x0 :: x1 :: x2 :: x3 :: x4 :: x5 :: x6 :: x7 :: x8 :: x9 :: x10 :: x11 :: x12 :: x13 :: x14 :: x15 :: x16 :: x17 :: x18 :: x19 :: x20 :: x21 :: x22 :: x23 :: x24 :: x25 :: x26 :: x27 :: x28 :: x29 :: x30 :: x31 :: x32 :: x33 :: x34 :: x35 :: x36 :: x37 :: x38 :: x39 :: x40 :: x41 :: x42 :: x43 :: x44 :: x45 :: x46 :: x47 :: x48 :: x49 :: x50 :: x51 :: x52 :: x53 :: x54 :: x55 :: x56 :: x57 :: x58 :: x59 :: x60 :: x61 :: x62 :: x63 :: x64 :: x65 :: x66 :: x67 :: x68 :: x69 :: x70 :: x71 :: x72 :: x73 :: x74 :: []).toArray, []⟩ := by
  obtain ⟨⟨l⟩, d⟩ := a
  have hd : d = [] := hd
  subst hd
  obtain ⟨x0, x1, x2, x3, x4, x5, x6, x7, x8, x9, x10, x11, x12, x13, x14, x15, x16, x17, x18, x19, x20, x21, x22, x23, x24, x25, x26, x27, x28, x29, x30, x31, x32, x33, x34, x35, x36, x37, x38, x39, x40, x41, x42, x43, x44, x45, x46, x47, x48, x49, x50, x51, x52, x53, x54, x55, x56, x57, x58, x59, x60, x61, x62, x63, x64, x65, x66, x67, x68, x69, x70, x71, x72, x73, x74, rfl⟩ := list75 (l := l) h
  exact ⟨x0, x1, x2, x3, x4, x5, x6, x7, x8, x9, x10, x11, x12, x13, x14, x15, x16, x17, x18, x19, x20, x21, x22, x23, x24, x25, x26, x27, x28, x29, x30, x31, x32, x33, x34, x35, x36, x37, x38, x39, x40, x41, x42, x43, x44, x45, x46, x47, x48, x49, x50, x51, x52, x53, x54, x55, x56, x57, x58, x59, x60, x61, x62, x63, x64, x65, x66, x67, x68, x69, x70, x71, x72, x73, x74, rfl⟩
end Go.Proofs.Ytgjnnlgeggamjaa
