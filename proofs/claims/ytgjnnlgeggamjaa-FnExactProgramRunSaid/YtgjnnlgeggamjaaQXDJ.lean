/- LE, LA0, LB0, LB, LC, LD, PKA, TRD: laid into one text. -/
import Derived.Test.YtgjnnlgeggamjaaQXDG
import Derived.ChangeKeysEq

namespace Go.Proofs.Ytgjnnlgeggamjaa
set_option linter.unusedVariables false
set_option linter.unusedSimpArgs false
set_option maxRecDepth 20000
open Go.RowKit
def chk4 (ti : TypeId) : List Field → Bool
  | [f, f', f'', f3] => (f.name != "_") && (f.type == ti) && (f.offset == 0) && ((f'.name != "_") && (f'.type == ti) && (f'.offset == 1)) && ((f''.name != "_") && (f''.type == ti) && (f''.offset == 2)) && ((f3.name != "_") && (f3.type == ti) && (f3.offset == 3))
  | _ => false
theorem equal_line (k a b c k' a' b' c' : Int) (w : World) : (Op.equalIn 10000 47 (.agg #[.int .i64 k, .int .i64 a, .int .i64 b, .int .i64 c]) (.agg #[.int .i64 k', .int .i64 a', .int .i64 b', .int .i64 c'])).run Try.prog w = .ok (k == k' && (a == a' && (b == b' && c == c'))) w := by
  rw [run_equalIn_agg (ht := by kernel_rfl) (hp := by kernel_rfl)]
  have hc : chk4 3 (Try.prog.fieldsOf 47).toList = true := by kernel_rfl
  have hi : Try.prog.underlying 3 = some (.int .i64) := by kernel_rfl
  have hz : ∀ (xs : Array Value) (k : Nat) (v : Value) (w : World), xs[k]? = some v → (part 3 xs k).run Try.prog w = .ok v w := fun xs k v w h => run_part_plain w (by kernel_rfl) h
  have z0 := fun w => hz #[.int .i64 k, .int .i64 a, .int .i64 b, .int .i64 c] 0 _ w rfl
  have y0 := fun w => hz #[.int .i64 k', .int .i64 a', .int .i64 b', .int .i64 c'] 0 _ w rfl
  have z1 := fun w => hz #[.int .i64 k, .int .i64 a, .int .i64 b, .int .i64 c] 1 _ w rfl
  have y1 := fun w => hz #[.int .i64 k', .int .i64 a', .int .i64 b', .int .i64 c'] 1 _ w rfl
  have z2 := fun w => hz #[.int .i64 k, .int .i64 a, .int .i64 b, .int .i64 c] 2 _ w rfl
  have y2 := fun w => hz #[.int .i64 k', .int .i64 a', .int .i64 b', .int .i64 c'] 2 _ w rfl
  have z3 := fun w => hz #[.int .i64 k, .int .i64 a, .int .i64 b, .int .i64 c] 3 _ w rfl
  have y3 := fun w => hz #[.int .i64 k', .int .i64 a', .int .i64 b', .int .i64 c'] 3 _ w rfl
  have e : ∀ (x y : Int) w, (Op.equalIn 9999 3 (.int .i64 x) (.int .i64 y)).run Try.prog w = .ok (x == y) w := fun x y w => run_equalIn_int (P := Try.prog) w 9998 3 .i64 .i64 x y hi
  clear hz
  generalize (Try.prog.fieldsOf 47).toList = fs at hc ⊢
  unfold chk4 at hc
  split at hc
  · rename_i f f' f'' f3
    simp only [Bool.and_eq_true, bne_iff_ne, beq_iff_eq] at hc
    obtain ⟨⟨⟨⟨⟨h1, h2⟩, h3⟩, ⟨⟨h4, h5⟩, h6⟩⟩, ⟨⟨h7, h8⟩, h9⟩⟩, ⟨⟨g1, g2⟩, g3⟩⟩ := hc
    simp only [Op.eqFields, h1, h2, h3, h4, h5, h6, h7, h8, h9, g1, g2, g3, if_true, ne_eq, not_false_eq_true, Sem.run_bind, z0, y0, Result.andThen_ok]
    erw [e k k' w]
    cases (k == k')
    · rfl
    simp only [Result.andThen_ok, Bool.not_true, Bool.false_eq_true, if_false, Sem.run_bind, z1, y1]
    erw [e a a' w]
    cases (a == a')
    · rfl
    simp only [Result.andThen_ok, Bool.not_true, Bool.false_eq_true, if_false, Sem.run_bind, z2, y2]
    erw [e b b' w]
    cases (b == b')
    · rfl
    simp only [Result.andThen_ok, Bool.not_true, Bool.false_eq_true, if_false, Sem.run_bind, z3, y3]
    erw [e c c' w]
    cases (c == c') <;> rfl
  · cases hc
theorem eq_line (x y : Operand) (k a b c k' a' b' c' : Int) (w : World) : (do eqGuard .eql 47 x y (.agg #[.int .i64 k, .int .i64 a, .int .i64 b, .int .i64 c]) (.agg #[.int .i64 k', .int .i64 a', .int .i64 b', .int .i64 c']); binOp .eql 47 (.agg #[.int .i64 k, .int .i64 a, .int .i64 b, .int .i64 c]) (.agg #[.int .i64 k', .int .i64 a', .int .i64 b', .int .i64 c']) : Sem Value).run Try.prog w = .ok (.bool (k == k' && (a == a' && (b == b' && c == c')))) w := by
  rw [Sem.run_bind, run_eqGuard_agg (hm := by kernel_rfl)]
  simp only [Result.andThen_ok]
  rw [run_eql_struct, equal_line]; rfl
end Go.Proofs.Ytgjnnlgeggamjaa
namespace Go.Proofs.Ytgjnnlgeggamjaa
set_option linter.unusedVariables false
set_option linter.unusedSimpArgs false
set_option maxRecDepth 20000
open Go.RowKit
attribute [local irreducible] runA runX AW
theorem gq_LA0 {H G : Prop} (k : H) (h : Hid H → G := by (intro hh; repeat1' (first | (first | (refine nxA ?_; (first | fail | ((first | (refine z_op (by rfl) ?_; first | refine z_ok ?_ ?_ | refine z_ex ?_ (by first | exact zL1 | ((first | fail); exact zWW) | exact zL2 | fail | exact zL3 | (first | exact pu_of (fun w => eq_line _ _ _ _ _ _ _ _ _ _ w) rfl)) ?_) | ((first | refine q_callE wsT wsZ (by rfl) ?_ | refine q_callVE wsT (by rfl) (by rfl) ?_); refine ⟨_, _, _, (by first | assumption | exact k_within _ _ _ | exact k_l1In _ _ _), _, by rfl, ?_, ?_⟩)); focus (first | exact trivial | fail | exact zQZ)) | fail)) | refine swA ?_) | refine awA ?_); exact hh.out)) : G := h ⟨k⟩
abbrev lCs (k v w n : Int) : List AC := [.v (.int .i64 k), .v (.int .i64 v), .v (.int .i64 w), .v (.int .i64 n)]
abbrev lV (k v w n : Int) : AV := .g (.agg (lCs k v w n))
theorem k_lvS0 (k v w n : Int) (h0 : k < 0 ∨ 8 < k) : Kon Try.prog 42 [lV k v w n] [] (vB (lok k v w n)) [] [] := by
  rw [lok_out h0]
  have hk : (k == 0) = false ∧ (k == 1) = false ∧ (k == 2) = false ∧ (k == 3) = false ∧ (k == 4) = false ∧ (k == 5) = false ∧ (k == 6) = false ∧ (k == 7) = false ∧ (k == 8) = false := by
    refine ⟨?_, ?_, ?_, ?_, ?_, ?_, ?_, ?_, ?_⟩ <;> (simp; omega)
  obtain ⟨k0, k1, k2, k3, k4, k5, k6, k7, k8⟩ := hk
  (refine kM Try.func42 rfl ?_; intro hfit hfe)
  (repeat (first | refine gq_LA0 ?_ | (refine ga0A ?_; intro _hq)))
  (refine rtA ?_; try rfl)
set_option maxHeartbeats 4000000 in
theorem k_lvSA (k v w n : Int) (hk : k = 0 ∨ k = 1 ∨ k = 3) : Kon Try.prog 42 [lV k v w n] [] (vB (lok k v w n)) [] [] := by
  rw [lok_A hk]
  cases h1 : btw v 0 3 <;> cases h2 : btw w 0 3 <;> cases h3 : (v != w)
  all_goals rcases hk with rfl | rfl | rfl
  all_goals (refine kM Try.func42 rfl ?_; intro hfit hfe)
  all_goals ((repeat (first | refine gq_LA0 ?_ | (refine ga0A ?_; intro _hq))))
  all_goals ((refine rtA ?_; try rfl))
set_option maxHeartbeats 4000000 in
theorem k_lvSB (k v w n : Int) (hk : k = 2 ∨ k = 6 ∨ k = 8) : Kon Try.prog 42 [lV k v w n] [] (vB (lok k v w n)) [] [] := by
  rw [lok_B hk]
  cases h1 : btw v 0 3 <;> cases h2 : (w == 0)
  all_goals rcases hk with rfl | rfl | rfl
  all_goals (refine kM Try.func42 rfl ?_; intro hfit hfe)
  all_goals ((repeat (first | refine gq_LA0 ?_ | (refine ga0A ?_; intro _hq))))
  all_goals ((refine rtA ?_; try rfl))
set_option maxHeartbeats 4000000 in
theorem k_lvSC (v w n : Int) : Kon Try.prog 42 [lV 4 v w n] [] (vB (lok 4 v w n)) [] [] := by
  rw [lok_C]
  cases h1 : (v == 0) <;> cases h2 : (w == 0)
  all_goals (refine kM Try.func42 rfl ?_; intro hfit hfe)
  all_goals ((repeat (first | refine gq_LA0 ?_ | (refine ga0A ?_; intro _hq))))
  all_goals ((refine rtA ?_; try rfl))
theorem k_lvSD (k v w n : Int) (hk : k = 5 ∨ k = 7) : Kon Try.prog 42 [lV k v w n] [] (vB (lok k v w n)) [] [] := by
  rw [lok_D hk]
  rcases hk with rfl | rfl
  all_goals (refine kM Try.func42 rfl ?_; intro hfit hfe)
  all_goals ((repeat (first | refine gq_LA0 ?_ | (refine ga0A ?_; intro _hq))))
  all_goals ((refine rtA ?_; try rfl))
  all_goals (cases (v == 0) <;> cases (w == 0) <;> cases (n == 0) <;> rfl)
theorem k_lvS (k v w n : Int) : Kon Try.prog 42 [lV k v w n] [] (vB (lok k v w n)) [] [] := by
  by_cases h0 : k < 0 ∨ 8 < k
  · exact k_lvS0 k v w n h0
  have h' : (k = 0 ∨ k = 1 ∨ k = 3) ∨ (k = 2 ∨ k = 6 ∨ k = 8) ∨ k = 4 ∨ (k = 5 ∨ k = 7) := by omega
  rcases h' with hk | hk | rfl | hk
  · exact k_lvSA k v w n hk
  · exact k_lvSB k v w n hk
  · exact k_lvSC v w n
  · exact k_lvSD k v w n hk
theorem gq_LB0 {H G : Prop} (k : H) (h : Hid H → G := by (intro hh; repeat1' (first | (first | (refine nxA ?_; (first | refine r_pure2 (by rfl) (by rfl) (fun w => rfl) (by rfl) (by rfl) ?_ | ((first | (refine z_op (by rfl) ?_; first | refine z_ok ?_ ?_ | refine z_ex ?_ (by first | exact zL1 | ((first | fail); exact zWW) | exact zL2 | fail | exact zL3 | fail) ?_) | ((first | refine q_callE wsT wsZ (by rfl) ?_ | refine q_callVE wsT (by rfl) (by rfl) ?_); refine ⟨_, _, _, (by first | assumption | exact k_within _ _ _ | exact k_shapes | exact k_topT _ | exact k_topF _), _, by rfl, ?_, ?_⟩)); focus (first | exact trivial | fail | exact zQZ)) | fail)) | refine swA ?_) | refine awA ?_); exact hh.out)) : G := h ⟨k⟩
def shC (k : Int) : List AC := if k = 0 then [.v (.string ⟨#[97, 100, 100]⟩), .v (.bool true), .v (.bool true), .v (.bool false), .v (.int .i64 0)]
   else if k = 1 then [.v (.string ⟨#[116, 97, 107, 101]⟩), .v (.bool true), .v (.bool true), .v (.bool false), .v (.int .i64 0)]
   else if k = 2 then [.v (.string ⟨#[109, 111, 114, 101]⟩), .v (.bool true), .v (.bool false), .v (.bool true), .v (.int .i64 63)]
   else if k = 3 then [.v (.string ⟨#[115, 119, 97, 112]⟩), .v (.bool true), .v (.bool true), .v (.bool false), .v (.int .i64 0)]
   else if k = 4 then [.v (.string ⟨#[114, 101, 112, 101, 97, 116]⟩), .v (.bool false), .v (.bool false), .v (.bool true), .v (.int .i64 3)]
   else if k = 5 then [.v (.string ⟨#[101, 110, 100]⟩), .v (.bool false), .v (.bool false), .v (.bool false), .v (.int .i64 0)]
   else if k = 6 then [.v (.string ⟨#[105, 102]⟩), .v (.bool true), .v (.bool false), .v (.bool true), .v (.int .i64 63)]
   else if k = 7 then [.v (.string ⟨#[101, 108, 115, 101]⟩), .v (.bool false), .v (.bool false), .v (.bool false), .v (.int .i64 0)]
   else [.v (.string ⟨#[102, 105]⟩), .v (.bool true), .v (.bool false), .v (.bool true), .v (.int .i64 63)]
def shV (k : Int) : Value := if k = 0 then .agg #[.string ⟨#[97, 100, 100]⟩, .bool true, .bool true, .bool false, .int .i64 0]
   else if k = 1 then .agg #[.string ⟨#[116, 97, 107, 101]⟩, .bool true, .bool true, .bool false, .int .i64 0]
   else if k = 2 then .agg #[.string ⟨#[109, 111, 114, 101]⟩, .bool true, .bool false, .bool true, .int .i64 63]
   else if k = 3 then .agg #[.string ⟨#[115, 119, 97, 112]⟩, .bool true, .bool true, .bool false, .int .i64 0]
   else if k = 4 then .agg #[.string ⟨#[114, 101, 112, 101, 97, 116]⟩, .bool false, .bool false, .bool true, .int .i64 3]
   else if k = 5 then .agg #[.string ⟨#[101, 110, 100]⟩, .bool false, .bool false, .bool false, .int .i64 0]
   else if k = 6 then .agg #[.string ⟨#[105, 102]⟩, .bool true, .bool false, .bool true, .int .i64 63]
   else if k = 7 then .agg #[.string ⟨#[101, 108, 115, 101]⟩, .bool false, .bool false, .bool false, .int .i64 0]
   else .agg #[.string ⟨#[102, 105]⟩, .bool true, .bool false, .bool true, .int .i64 63]
theorem k_shapes : Kon Try.prog 69 [] [] (.g (.agg (shC 0 ++ shC 1 ++ shC 2 ++ shC 3 ++ shC 4 ++ shC 5 ++ shC 6 ++ shC 7 ++ shC 8))) [] [] := by
  (refine kM Try.func69 rfl ?_; intro hfit hfe)
  (repeat (first | refine gq_LB0 ?_ | (refine ga0A ?_; intro _hq)))
  (refine rtA ?_; try rfl)
theorem k_topT (m : Int) : Kon Try.prog 70 [vB true, vI m] [] (vI m) [] [] := by
  (refine kM Try.func70 rfl ?_; intro hfit hfe)
  (repeat (first | refine gq_LB0 ?_ | (refine ga0A ?_; intro _hq)))
  (refine rtA ?_; try rfl)
theorem k_topF (m : Int) : Kon Try.prog 70 [vB false, vI m] [] (vI 0) [] [] := by
  (refine kM Try.func70 rfl ?_; intro hfit hfe)
  (repeat (first | refine gq_LB0 ?_ | (refine ga0A ?_; intro _hq)))
  (refine rtA ?_; try rfl)
theorem btw_0 (x : Int) : btw x 0 0 = (x == 0) := by
  unfold btw
  rw [Bool.eq_iff_iff]; simp; omega
theorem gq_LB {H G : Prop} (k : H) (h : Hid H → G := by (intro hh; repeat1' (first | (first | (refine nxA ?_; (first | refine r_pure2 (by rfl) (by rfl) (fun w => rfl) (by rfl) (by rfl) ?_ | ((first | (refine z_op (by rfl) ?_; first | refine z_ok ?_ ?_ | refine z_ex ?_ (by first | exact zL1 | ((first | fail); exact zWW) | exact zL2 | fail | exact zL3 | fail) ?_) | ((first | refine q_callE wsT wsZ (by rfl) ?_ | refine q_callVE wsT (by rfl) (by rfl) ?_); refine ⟨_, _, _, (by first | assumption | exact k_within _ _ _ | exact k_shapes | exact k_topT _ | exact k_topF _), _, by rfl, ?_, ?_⟩)); focus (first | exact trivial | fail | exact zQZ)) | fail)) | refine swA ?_) | refine awA ?_); exact hh.out)) : G := h ⟨k⟩
set_option maxHeartbeats 8000000 in
theorem k_lv0 (v w n : Int) : Kon Try.prog 55 [lV 0 v w n] [] (vB (btw v 0 3 && btw w 0 3 && btw n 0 0 && !(true && (v == w)))) [] [] := by
  cases h1 : btw v 0 3 <;> cases h2 : btw w 0 3 <;> cases h3 : btw n 0 0
  all_goals (refine kM Try.func55 rfl ?_; intro hfit hfe)
  all_goals ((repeat (first | refine gq_LB ?_ | (refine ga0A ?_; intro _hq))))
  all_goals ((refine aw_draw mixed T0ok cfU_ok [(48, [4, 5])] (by rfl) (by kernel_rfl) ?_))
  all_goals ((first | ((first | refine r_none ?_ | refine r_gt (by rfl) (by rfl) zDD (by rfl) ?_ | refine r_gf (by rfl) (by rfl) zDD (by rfl) ?_); (first | refine r_pure2 (by rfl) (by rfl) (fun w => rfl) (by rfl) (by rfl) ?_ | ((first | (refine z_op (by rfl) ?_; first | refine z_ok ?_ ?_ | refine z_ex ?_ (by first | exact zL1 | ((first | fail); exact zWW) | exact zL2 | fail | exact zL3 | fail) ?_ | refine z_alV ?_ (fun _hq => ?_)) | ((first | refine q_callE wsT wsZ (by rfl) ?_ | refine q_callVE wsT (by rfl) (by rfl) ?_); refine ⟨_, _, _, (by first | assumption | exact k_within _ _ _ | exact k_shapes | exact k_topT _ | exact k_topF _), _, by rfl, ?_, ?_⟩)); focus (first | exact trivial | fail | exact zQZ)) | fail)) | refine r_nt (by rfl) (by rfl) zDD (by rfl) ?_ | refine r_nf (by rfl) (by rfl) zDD (by rfl) ?_ | refine r_gu (by rfl) (by rfl) (by rfl) ?_ | refine r_nil ?_))
  all_goals ((first | ((first | refine r_none ?_ | refine r_gt (by rfl) (by rfl) zDD (by rfl) ?_ | refine r_gf (by rfl) (by rfl) zDD (by rfl) ?_); (first | refine r_pure2 (by rfl) (by rfl) (fun w => rfl) (by rfl) (by rfl) ?_ | ((first | (refine z_op (by rfl) ?_; first | refine z_ok ?_ ?_ | refine z_ex ?_ (by first | exact zL1 | ((first | fail); exact zWW) | exact zL2 | fail | exact zL3 | fail) ?_ | refine z_alV ?_ (fun _hq => ?_)) | ((first | refine q_callE wsT wsZ (by rfl) ?_ | refine q_callVE wsT (by rfl) (by rfl) ?_); refine ⟨_, _, _, (by first | assumption | exact k_within _ _ _ | exact k_shapes | exact k_topT _ | exact k_topF _), _, by rfl, ?_, ?_⟩)); focus (first | exact trivial | fail | exact zQZ)) | fail)) | refine r_nt (by rfl) (by rfl) zDD (by rfl) ?_ | refine r_nf (by rfl) (by rfl) zDD (by rfl) ?_ | refine r_gu (by rfl) (by rfl) (by rfl) ?_ | refine r_nil ?_))
  all_goals ((first | ((first | refine r_none ?_ | refine r_gt (by rfl) (by rfl) zDD (by rfl) ?_ | refine r_gf (by rfl) (by rfl) zDD (by rfl) ?_); (first | refine r_pure2 (by rfl) (by rfl) (fun w => rfl) (by rfl) (by rfl) ?_ | ((first | (refine z_op (by rfl) ?_; first | refine z_ok ?_ ?_ | refine z_ex ?_ (by first | exact zL1 | ((first | fail); exact zWW) | exact zL2 | fail | exact zL3 | fail) ?_ | refine z_alV ?_ (fun _hq => ?_)) | ((first | refine q_callE wsT wsZ (by rfl) ?_ | refine q_callVE wsT (by rfl) (by rfl) ?_); refine ⟨_, _, _, (by first | assumption | exact k_within _ _ _ | exact k_shapes | exact k_topT _ | exact k_topF _), _, by rfl, ?_, ?_⟩)); focus (first | exact trivial | fail | exact zQZ)) | fail)) | refine r_nt (by rfl) (by rfl) zDD (by rfl) ?_ | refine r_nf (by rfl) (by rfl) zDD (by rfl) ?_ | refine r_gu (by rfl) (by rfl) (by rfl) ?_ | refine r_nil ?_))
  all_goals (refine r_none ?_; refine z_op (by rfl) ?_; refine z_ex ?_ (pu_of (r := shV 0) (fun w => by kernel_rfl) rfl) ?_; focus (first | exact trivial | fail | exact zQZ))
  all_goals ((repeat (first | refine gq_LB ?_ | (refine ga0A ?_; intro _hq))))
  all_goals ((repeat (first | refine gq_LB ?_ | (refine ga0A ?_; intro _hq) | refine gdA ?_)))
  all_goals ((refine rtA ?_; try rfl))
set_option maxHeartbeats 8000000 in
theorem k_lv1 (v w n : Int) : Kon Try.prog 55 [lV 1 v w n] [] (vB (btw v 0 3 && btw w 0 3 && btw n 0 0 && !(true && (v == w)))) [] [] := by
  cases h1 : btw v 0 3 <;> cases h2 : btw w 0 3 <;> cases h3 : btw n 0 0
  all_goals (refine kM Try.func55 rfl ?_; intro hfit hfe)
  all_goals ((repeat (first | refine gq_LB ?_ | (refine ga0A ?_; intro _hq))))
  all_goals ((refine aw_draw mixed T0ok cfU_ok [(48, [4, 5])] (by rfl) (by kernel_rfl) ?_))
  all_goals ((first | ((first | refine r_none ?_ | refine r_gt (by rfl) (by rfl) zDD (by rfl) ?_ | refine r_gf (by rfl) (by rfl) zDD (by rfl) ?_); (first | refine r_pure2 (by rfl) (by rfl) (fun w => rfl) (by rfl) (by rfl) ?_ | ((first | (refine z_op (by rfl) ?_; first | refine z_ok ?_ ?_ | refine z_ex ?_ (by first | exact zL1 | ((first | fail); exact zWW) | exact zL2 | fail | exact zL3 | fail) ?_ | refine z_alV ?_ (fun _hq => ?_)) | ((first | refine q_callE wsT wsZ (by rfl) ?_ | refine q_callVE wsT (by rfl) (by rfl) ?_); refine ⟨_, _, _, (by first | assumption | exact k_within _ _ _ | exact k_shapes | exact k_topT _ | exact k_topF _), _, by rfl, ?_, ?_⟩)); focus (first | exact trivial | fail | exact zQZ)) | fail)) | refine r_nt (by rfl) (by rfl) zDD (by rfl) ?_ | refine r_nf (by rfl) (by rfl) zDD (by rfl) ?_ | refine r_gu (by rfl) (by rfl) (by rfl) ?_ | refine r_nil ?_))
  all_goals ((first | ((first | refine r_none ?_ | refine r_gt (by rfl) (by rfl) zDD (by rfl) ?_ | refine r_gf (by rfl) (by rfl) zDD (by rfl) ?_); (first | refine r_pure2 (by rfl) (by rfl) (fun w => rfl) (by rfl) (by rfl) ?_ | ((first | (refine z_op (by rfl) ?_; first | refine z_ok ?_ ?_ | refine z_ex ?_ (by first | exact zL1 | ((first | fail); exact zWW) | exact zL2 | fail | exact zL3 | fail) ?_ | refine z_alV ?_ (fun _hq => ?_)) | ((first | refine q_callE wsT wsZ (by rfl) ?_ | refine q_callVE wsT (by rfl) (by rfl) ?_); refine ⟨_, _, _, (by first | assumption | exact k_within _ _ _ | exact k_shapes | exact k_topT _ | exact k_topF _), _, by rfl, ?_, ?_⟩)); focus (first | exact trivial | fail | exact zQZ)) | fail)) | refine r_nt (by rfl) (by rfl) zDD (by rfl) ?_ | refine r_nf (by rfl) (by rfl) zDD (by rfl) ?_ | refine r_gu (by rfl) (by rfl) (by rfl) ?_ | refine r_nil ?_))
  all_goals ((first | ((first | refine r_none ?_ | refine r_gt (by rfl) (by rfl) zDD (by rfl) ?_ | refine r_gf (by rfl) (by rfl) zDD (by rfl) ?_); (first | refine r_pure2 (by rfl) (by rfl) (fun w => rfl) (by rfl) (by rfl) ?_ | ((first | (refine z_op (by rfl) ?_; first | refine z_ok ?_ ?_ | refine z_ex ?_ (by first | exact zL1 | ((first | fail); exact zWW) | exact zL2 | fail | exact zL3 | fail) ?_ | refine z_alV ?_ (fun _hq => ?_)) | ((first | refine q_callE wsT wsZ (by rfl) ?_ | refine q_callVE wsT (by rfl) (by rfl) ?_); refine ⟨_, _, _, (by first | assumption | exact k_within _ _ _ | exact k_shapes | exact k_topT _ | exact k_topF _), _, by rfl, ?_, ?_⟩)); focus (first | exact trivial | fail | exact zQZ)) | fail)) | refine r_nt (by rfl) (by rfl) zDD (by rfl) ?_ | refine r_nf (by rfl) (by rfl) zDD (by rfl) ?_ | refine r_gu (by rfl) (by rfl) (by rfl) ?_ | refine r_nil ?_))
  all_goals (refine r_none ?_; refine z_op (by rfl) ?_; refine z_ex ?_ (pu_of (r := shV 1) (fun w => by kernel_rfl) rfl) ?_; focus (first | exact trivial | fail | exact zQZ))
  all_goals ((repeat (first | refine gq_LB ?_ | (refine ga0A ?_; intro _hq))))
  all_goals ((repeat (first | refine gq_LB ?_ | (refine ga0A ?_; intro _hq) | refine gdA ?_)))
  all_goals ((refine rtA ?_; try rfl))
set_option maxHeartbeats 8000000 in
theorem k_lv3 (v w n : Int) : Kon Try.prog 55 [lV 3 v w n] [] (vB (btw v 0 3 && btw w 0 3 && btw n 0 0 && !(true && (v == w)))) [] [] := by
  cases h1 : btw v 0 3 <;> cases h2 : btw w 0 3 <;> cases h3 : btw n 0 0
  all_goals (refine kM Try.func55 rfl ?_; intro hfit hfe)
  all_goals ((repeat (first | refine gq_LB ?_ | (refine ga0A ?_; intro _hq))))
  all_goals ((refine aw_draw mixed T0ok cfU_ok [(48, [4, 5])] (by rfl) (by kernel_rfl) ?_))
  all_goals ((first | ((first | refine r_none ?_ | refine r_gt (by rfl) (by rfl) zDD (by rfl) ?_ | refine r_gf (by rfl) (by rfl) zDD (by rfl) ?_); (first | refine r_pure2 (by rfl) (by rfl) (fun w => rfl) (by rfl) (by rfl) ?_ | ((first | (refine z_op (by rfl) ?_; first | refine z_ok ?_ ?_ | refine z_ex ?_ (by first | exact zL1 | ((first | fail); exact zWW) | exact zL2 | fail | exact zL3 | fail) ?_ | refine z_alV ?_ (fun _hq => ?_)) | ((first | refine q_callE wsT wsZ (by rfl) ?_ | refine q_callVE wsT (by rfl) (by rfl) ?_); refine ⟨_, _, _, (by first | assumption | exact k_within _ _ _ | exact k_shapes | exact k_topT _ | exact k_topF _), _, by rfl, ?_, ?_⟩)); focus (first | exact trivial | fail | exact zQZ)) | fail)) | refine r_nt (by rfl) (by rfl) zDD (by rfl) ?_ | refine r_nf (by rfl) (by rfl) zDD (by rfl) ?_ | refine r_gu (by rfl) (by rfl) (by rfl) ?_ | refine r_nil ?_))
  all_goals ((first | ((first | refine r_none ?_ | refine r_gt (by rfl) (by rfl) zDD (by rfl) ?_ | refine r_gf (by rfl) (by rfl) zDD (by rfl) ?_); (first | refine r_pure2 (by rfl) (by rfl) (fun w => rfl) (by rfl) (by rfl) ?_ | ((first | (refine z_op (by rfl) ?_; first | refine z_ok ?_ ?_ | refine z_ex ?_ (by first | exact zL1 | ((first | fail); exact zWW) | exact zL2 | fail | exact zL3 | fail) ?_ | refine z_alV ?_ (fun _hq => ?_)) | ((first | refine q_callE wsT wsZ (by rfl) ?_ | refine q_callVE wsT (by rfl) (by rfl) ?_); refine ⟨_, _, _, (by first | assumption | exact k_within _ _ _ | exact k_shapes | exact k_topT _ | exact k_topF _), _, by rfl, ?_, ?_⟩)); focus (first | exact trivial | fail | exact zQZ)) | fail)) | refine r_nt (by rfl) (by rfl) zDD (by rfl) ?_ | refine r_nf (by rfl) (by rfl) zDD (by rfl) ?_ | refine r_gu (by rfl) (by rfl) (by rfl) ?_ | refine r_nil ?_))
  all_goals ((first | ((first | refine r_none ?_ | refine r_gt (by rfl) (by rfl) zDD (by rfl) ?_ | refine r_gf (by rfl) (by rfl) zDD (by rfl) ?_); (first | refine r_pure2 (by rfl) (by rfl) (fun w => rfl) (by rfl) (by rfl) ?_ | ((first | (refine z_op (by rfl) ?_; first | refine z_ok ?_ ?_ | refine z_ex ?_ (by first | exact zL1 | ((first | fail); exact zWW) | exact zL2 | fail | exact zL3 | fail) ?_ | refine z_alV ?_ (fun _hq => ?_)) | ((first | refine q_callE wsT wsZ (by rfl) ?_ | refine q_callVE wsT (by rfl) (by rfl) ?_); refine ⟨_, _, _, (by first | assumption | exact k_within _ _ _ | exact k_shapes | exact k_topT _ | exact k_topF _), _, by rfl, ?_, ?_⟩)); focus (first | exact trivial | fail | exact zQZ)) | fail)) | refine r_nt (by rfl) (by rfl) zDD (by rfl) ?_ | refine r_nf (by rfl) (by rfl) zDD (by rfl) ?_ | refine r_gu (by rfl) (by rfl) (by rfl) ?_ | refine r_nil ?_))
  all_goals (refine r_none ?_; refine z_op (by rfl) ?_; refine z_ex ?_ (pu_of (r := shV 3) (fun w => by kernel_rfl) rfl) ?_; focus (first | exact trivial | fail | exact zQZ))
  all_goals ((repeat (first | refine gq_LB ?_ | (refine ga0A ?_; intro _hq))))
  all_goals ((repeat (first | refine gq_LB ?_ | (refine ga0A ?_; intro _hq) | refine gdA ?_)))
  all_goals ((refine rtA ?_; try rfl))
theorem gq_LC {H G : Prop} (k : H) (h : Hid H → G := by (intro hh; repeat1' (first | (first | (refine nxA ?_; (first | refine r_pure2 (by rfl) (by rfl) (fun w => rfl) (by rfl) (by rfl) ?_ | ((first | (refine z_op (by rfl) ?_; first | refine z_ok ?_ ?_ | refine z_ex ?_ (by first | exact zL1 | ((first | fail); exact zWW) | exact zL2 | fail | exact zL3 | fail) ?_) | ((first | refine q_callE wsT wsZ (by rfl) ?_ | refine q_callVE wsT (by rfl) (by rfl) ?_); refine ⟨_, _, _, (by first | assumption | exact k_within _ _ _ | exact k_shapes | exact k_topT _ | exact k_topF _), _, by rfl, ?_, ?_⟩)); focus (first | exact trivial | fail | exact zQZ)) | fail)) | refine swA ?_) | refine awA ?_); exact hh.out)) : G := h ⟨k⟩
set_option maxHeartbeats 8000000 in
theorem k_lv2 (v w n : Int) : Kon Try.prog 55 [lV 2 v w n] [] (vB (btw v 0 3 && btw w 0 0 && btw n 0 63 && !(false && (v == w)))) [] [] := by
  cases h1 : btw v 0 3 <;> cases h2 : btw w 0 0 <;> cases h3 : btw n 0 63
  all_goals (refine kM Try.func55 rfl ?_; intro hfit hfe)
  all_goals ((repeat (first | refine gq_LC ?_ | (refine ga0A ?_; intro _hq))))
  all_goals ((refine aw_draw mixed T0ok cfU_ok [(48, [4, 5])] (by rfl) (by kernel_rfl) ?_))
  all_goals ((first | ((first | refine r_none ?_ | refine r_gt (by rfl) (by rfl) zDD (by rfl) ?_ | refine r_gf (by rfl) (by rfl) zDD (by rfl) ?_); (first | refine r_pure2 (by rfl) (by rfl) (fun w => rfl) (by rfl) (by rfl) ?_ | ((first | (refine z_op (by rfl) ?_; first | refine z_ok ?_ ?_ | refine z_ex ?_ (by first | exact zL1 | ((first | fail); exact zWW) | exact zL2 | fail | exact zL3 | fail) ?_ | refine z_alV ?_ (fun _hq => ?_)) | ((first | refine q_callE wsT wsZ (by rfl) ?_ | refine q_callVE wsT (by rfl) (by rfl) ?_); refine ⟨_, _, _, (by first | assumption | exact k_within _ _ _ | exact k_shapes | exact k_topT _ | exact k_topF _), _, by rfl, ?_, ?_⟩)); focus (first | exact trivial | fail | exact zQZ)) | fail)) | refine r_nt (by rfl) (by rfl) zDD (by rfl) ?_ | refine r_nf (by rfl) (by rfl) zDD (by rfl) ?_ | refine r_gu (by rfl) (by rfl) (by rfl) ?_ | refine r_nil ?_))
  all_goals ((first | ((first | refine r_none ?_ | refine r_gt (by rfl) (by rfl) zDD (by rfl) ?_ | refine r_gf (by rfl) (by rfl) zDD (by rfl) ?_); (first | refine r_pure2 (by rfl) (by rfl) (fun w => rfl) (by rfl) (by rfl) ?_ | ((first | (refine z_op (by rfl) ?_; first | refine z_ok ?_ ?_ | refine z_ex ?_ (by first | exact zL1 | ((first | fail); exact zWW) | exact zL2 | fail | exact zL3 | fail) ?_ | refine z_alV ?_ (fun _hq => ?_)) | ((first | refine q_callE wsT wsZ (by rfl) ?_ | refine q_callVE wsT (by rfl) (by rfl) ?_); refine ⟨_, _, _, (by first | assumption | exact k_within _ _ _ | exact k_shapes | exact k_topT _ | exact k_topF _), _, by rfl, ?_, ?_⟩)); focus (first | exact trivial | fail | exact zQZ)) | fail)) | refine r_nt (by rfl) (by rfl) zDD (by rfl) ?_ | refine r_nf (by rfl) (by rfl) zDD (by rfl) ?_ | refine r_gu (by rfl) (by rfl) (by rfl) ?_ | refine r_nil ?_))
  all_goals ((first | ((first | refine r_none ?_ | refine r_gt (by rfl) (by rfl) zDD (by rfl) ?_ | refine r_gf (by rfl) (by rfl) zDD (by rfl) ?_); (first | refine r_pure2 (by rfl) (by rfl) (fun w => rfl) (by rfl) (by rfl) ?_ | ((first | (refine z_op (by rfl) ?_; first | refine z_ok ?_ ?_ | refine z_ex ?_ (by first | exact zL1 | ((first | fail); exact zWW) | exact zL2 | fail | exact zL3 | fail) ?_ | refine z_alV ?_ (fun _hq => ?_)) | ((first | refine q_callE wsT wsZ (by rfl) ?_ | refine q_callVE wsT (by rfl) (by rfl) ?_); refine ⟨_, _, _, (by first | assumption | exact k_within _ _ _ | exact k_shapes | exact k_topT _ | exact k_topF _), _, by rfl, ?_, ?_⟩)); focus (first | exact trivial | fail | exact zQZ)) | fail)) | refine r_nt (by rfl) (by rfl) zDD (by rfl) ?_ | refine r_nf (by rfl) (by rfl) zDD (by rfl) ?_ | refine r_gu (by rfl) (by rfl) (by rfl) ?_ | refine r_nil ?_))
  all_goals (refine r_none ?_; refine z_op (by rfl) ?_; refine z_ex ?_ (pu_of (r := shV 2) (fun w => by kernel_rfl) rfl) ?_; focus (first | exact trivial | fail | exact zQZ))
  all_goals ((repeat (first | refine gq_LC ?_ | (refine ga0A ?_; intro _hq))))
  all_goals ((repeat (first | refine gq_LC ?_ | (refine ga0A ?_; intro _hq) | refine gdA ?_)))
  all_goals ((refine rtA ?_; try rfl))
set_option maxHeartbeats 8000000 in
theorem k_lv6 (v w n : Int) : Kon Try.prog 55 [lV 6 v w n] [] (vB (btw v 0 3 && btw w 0 0 && btw n 0 63 && !(false && (v == w)))) [] [] := by
  cases h1 : btw v 0 3 <;> cases h2 : btw w 0 0 <;> cases h3 : btw n 0 63
  all_goals (refine kM Try.func55 rfl ?_; intro hfit hfe)
  all_goals ((repeat (first | refine gq_LC ?_ | (refine ga0A ?_; intro _hq))))
  all_goals ((refine aw_draw mixed T0ok cfU_ok [(48, [4, 5])] (by rfl) (by kernel_rfl) ?_))
  all_goals ((first | ((first | refine r_none ?_ | refine r_gt (by rfl) (by rfl) zDD (by rfl) ?_ | refine r_gf (by rfl) (by rfl) zDD (by rfl) ?_); (first | refine r_pure2 (by rfl) (by rfl) (fun w => rfl) (by rfl) (by rfl) ?_ | ((first | (refine z_op (by rfl) ?_; first | refine z_ok ?_ ?_ | refine z_ex ?_ (by first | exact zL1 | ((first | fail); exact zWW) | exact zL2 | fail | exact zL3 | fail) ?_ | refine z_alV ?_ (fun _hq => ?_)) | ((first | refine q_callE wsT wsZ (by rfl) ?_ | refine q_callVE wsT (by rfl) (by rfl) ?_); refine ⟨_, _, _, (by first | assumption | exact k_within _ _ _ | exact k_shapes | exact k_topT _ | exact k_topF _), _, by rfl, ?_, ?_⟩)); focus (first | exact trivial | fail | exact zQZ)) | fail)) | refine r_nt (by rfl) (by rfl) zDD (by rfl) ?_ | refine r_nf (by rfl) (by rfl) zDD (by rfl) ?_ | refine r_gu (by rfl) (by rfl) (by rfl) ?_ | refine r_nil ?_))
  all_goals ((first | ((first | refine r_none ?_ | refine r_gt (by rfl) (by rfl) zDD (by rfl) ?_ | refine r_gf (by rfl) (by rfl) zDD (by rfl) ?_); (first | refine r_pure2 (by rfl) (by rfl) (fun w => rfl) (by rfl) (by rfl) ?_ | ((first | (refine z_op (by rfl) ?_; first | refine z_ok ?_ ?_ | refine z_ex ?_ (by first | exact zL1 | ((first | fail); exact zWW) | exact zL2 | fail | exact zL3 | fail) ?_ | refine z_alV ?_ (fun _hq => ?_)) | ((first | refine q_callE wsT wsZ (by rfl) ?_ | refine q_callVE wsT (by rfl) (by rfl) ?_); refine ⟨_, _, _, (by first | assumption | exact k_within _ _ _ | exact k_shapes | exact k_topT _ | exact k_topF _), _, by rfl, ?_, ?_⟩)); focus (first | exact trivial | fail | exact zQZ)) | fail)) | refine r_nt (by rfl) (by rfl) zDD (by rfl) ?_ | refine r_nf (by rfl) (by rfl) zDD (by rfl) ?_ | refine r_gu (by rfl) (by rfl) (by rfl) ?_ | refine r_nil ?_))
  all_goals ((first | ((first | refine r_none ?_ | refine r_gt (by rfl) (by rfl) zDD (by rfl) ?_ | refine r_gf (by rfl) (by rfl) zDD (by rfl) ?_); (first | refine r_pure2 (by rfl) (by rfl) (fun w => rfl) (by rfl) (by rfl) ?_ | ((first | (refine z_op (by rfl) ?_; first | refine z_ok ?_ ?_ | refine z_ex ?_ (by first | exact zL1 | ((first | fail); exact zWW) | exact zL2 | fail | exact zL3 | fail) ?_ | refine z_alV ?_ (fun _hq => ?_)) | ((first | refine q_callE wsT wsZ (by rfl) ?_ | refine q_callVE wsT (by rfl) (by rfl) ?_); refine ⟨_, _, _, (by first | assumption | exact k_within _ _ _ | exact k_shapes | exact k_topT _ | exact k_topF _), _, by rfl, ?_, ?_⟩)); focus (first | exact trivial | fail | exact zQZ)) | fail)) | refine r_nt (by rfl) (by rfl) zDD (by rfl) ?_ | refine r_nf (by rfl) (by rfl) zDD (by rfl) ?_ | refine r_gu (by rfl) (by rfl) (by rfl) ?_ | refine r_nil ?_))
  all_goals (refine r_none ?_; refine z_op (by rfl) ?_; refine z_ex ?_ (pu_of (r := shV 6) (fun w => by kernel_rfl) rfl) ?_; focus (first | exact trivial | fail | exact zQZ))
  all_goals ((repeat (first | refine gq_LC ?_ | (refine ga0A ?_; intro _hq))))
  all_goals ((repeat (first | refine gq_LC ?_ | (refine ga0A ?_; intro _hq) | refine gdA ?_)))
  all_goals ((refine rtA ?_; try rfl))
set_option maxHeartbeats 8000000 in
theorem k_lv8 (v w n : Int) : Kon Try.prog 55 [lV 8 v w n] [] (vB (btw v 0 3 && btw w 0 0 && btw n 0 63 && !(false && (v == w)))) [] [] := by
  cases h1 : btw v 0 3 <;> cases h2 : btw w 0 0 <;> cases h3 : btw n 0 63
  all_goals (refine kM Try.func55 rfl ?_; intro hfit hfe)
  all_goals ((repeat (first | refine gq_LC ?_ | (refine ga0A ?_; intro _hq))))
  all_goals ((refine aw_draw mixed T0ok cfU_ok [(48, [4, 5])] (by rfl) (by kernel_rfl) ?_))
  all_goals ((first | ((first | refine r_none ?_ | refine r_gt (by rfl) (by rfl) zDD (by rfl) ?_ | refine r_gf (by rfl) (by rfl) zDD (by rfl) ?_); (first | refine r_pure2 (by rfl) (by rfl) (fun w => rfl) (by rfl) (by rfl) ?_ | ((first | (refine z_op (by rfl) ?_; first | refine z_ok ?_ ?_ | refine z_ex ?_ (by first | exact zL1 | ((first | fail); exact zWW) | exact zL2 | fail | exact zL3 | fail) ?_ | refine z_alV ?_ (fun _hq => ?_)) | ((first | refine q_callE wsT wsZ (by rfl) ?_ | refine q_callVE wsT (by rfl) (by rfl) ?_); refine ⟨_, _, _, (by first | assumption | exact k_within _ _ _ | exact k_shapes | exact k_topT _ | exact k_topF _), _, by rfl, ?_, ?_⟩)); focus (first | exact trivial | fail | exact zQZ)) | fail)) | refine r_nt (by rfl) (by rfl) zDD (by rfl) ?_ | refine r_nf (by rfl) (by rfl) zDD (by rfl) ?_ | refine r_gu (by rfl) (by rfl) (by rfl) ?_ | refine r_nil ?_))
  all_goals ((first | ((first | refine r_none ?_ | refine r_gt (by rfl) (by rfl) zDD (by rfl) ?_ | refine r_gf (by rfl) (by rfl) zDD (by rfl) ?_); (first | refine r_pure2 (by rfl) (by rfl) (fun w => rfl) (by rfl) (by rfl) ?_ | ((first | (refine z_op (by rfl) ?_; first | refine z_ok ?_ ?_ | refine z_ex ?_ (by first | exact zL1 | ((first | fail); exact zWW) | exact zL2 | fail | exact zL3 | fail) ?_ | refine z_alV ?_ (fun _hq => ?_)) | ((first | refine q_callE wsT wsZ (by rfl) ?_ | refine q_callVE wsT (by rfl) (by rfl) ?_); refine ⟨_, _, _, (by first | assumption | exact k_within _ _ _ | exact k_shapes | exact k_topT _ | exact k_topF _), _, by rfl, ?_, ?_⟩)); focus (first | exact trivial | fail | exact zQZ)) | fail)) | refine r_nt (by rfl) (by rfl) zDD (by rfl) ?_ | refine r_nf (by rfl) (by rfl) zDD (by rfl) ?_ | refine r_gu (by rfl) (by rfl) (by rfl) ?_ | refine r_nil ?_))
  all_goals ((first | ((first | refine r_none ?_ | refine r_gt (by rfl) (by rfl) zDD (by rfl) ?_ | refine r_gf (by rfl) (by rfl) zDD (by rfl) ?_); (first | refine r_pure2 (by rfl) (by rfl) (fun w => rfl) (by rfl) (by rfl) ?_ | ((first | (refine z_op (by rfl) ?_; first | refine z_ok ?_ ?_ | refine z_ex ?_ (by first | exact zL1 | ((first | fail); exact zWW) | exact zL2 | fail | exact zL3 | fail) ?_ | refine z_alV ?_ (fun _hq => ?_)) | ((first | refine q_callE wsT wsZ (by rfl) ?_ | refine q_callVE wsT (by rfl) (by rfl) ?_); refine ⟨_, _, _, (by first | assumption | exact k_within _ _ _ | exact k_shapes | exact k_topT _ | exact k_topF _), _, by rfl, ?_, ?_⟩)); focus (first | exact trivial | fail | exact zQZ)) | fail)) | refine r_nt (by rfl) (by rfl) zDD (by rfl) ?_ | refine r_nf (by rfl) (by rfl) zDD (by rfl) ?_ | refine r_gu (by rfl) (by rfl) (by rfl) ?_ | refine r_nil ?_))
  all_goals (refine r_none ?_; refine z_op (by rfl) ?_; refine z_ex ?_ (pu_of (r := shV 8) (fun w => by kernel_rfl) rfl) ?_; focus (first | exact trivial | fail | exact zQZ))
  all_goals ((repeat (first | refine gq_LC ?_ | (refine ga0A ?_; intro _hq))))
  all_goals ((repeat (first | refine gq_LC ?_ | (refine ga0A ?_; intro _hq) | refine gdA ?_)))
  all_goals ((refine rtA ?_; try rfl))
theorem gq_LD {H G : Prop} (k : H) (h : Hid H → G := by (intro hh; repeat1' (first | (first | (refine nxA ?_; (first | refine r_pure2 (by rfl) (by rfl) (fun w => rfl) (by rfl) (by rfl) ?_ | ((first | (refine z_op (by rfl) ?_; first | refine z_ok ?_ ?_ | refine z_ex ?_ (by first | exact zL1 | ((first | fail); exact zWW) | exact zL2 | fail | exact zL3 | fail) ?_) | ((first | refine q_callE wsT wsZ (by rfl) ?_ | refine q_callVE wsT (by rfl) (by rfl) ?_); refine ⟨_, _, _, (by first | assumption | exact k_within _ _ _ | exact k_shapes | exact k_topT _ | exact k_topF _), _, by rfl, ?_, ?_⟩)); focus (first | exact trivial | fail | exact zQZ)) | fail)) | refine swA ?_) | refine awA ?_); exact hh.out)) : G := h ⟨k⟩
set_option maxHeartbeats 8000000 in
theorem k_lv4 (v w n : Int) : Kon Try.prog 55 [lV 4 v w n] [] (vB (btw v 0 0 && btw w 0 0 && btw n 0 3 && !(false && (v == w)))) [] [] := by
  cases h1 : btw v 0 0 <;> cases h2 : btw w 0 0 <;> cases h3 : btw n 0 3
  all_goals (refine kM Try.func55 rfl ?_; intro hfit hfe)
  all_goals ((repeat (first | refine gq_LD ?_ | (refine ga0A ?_; intro _hq))))
  all_goals ((refine aw_draw mixed T0ok cfU_ok [(48, [4, 5])] (by rfl) (by kernel_rfl) ?_))
  all_goals ((first | ((first | refine r_none ?_ | refine r_gt (by rfl) (by rfl) zDD (by rfl) ?_ | refine r_gf (by rfl) (by rfl) zDD (by rfl) ?_); (first | refine r_pure2 (by rfl) (by rfl) (fun w => rfl) (by rfl) (by rfl) ?_ | ((first | (refine z_op (by rfl) ?_; first | refine z_ok ?_ ?_ | refine z_ex ?_ (by first | exact zL1 | ((first | fail); exact zWW) | exact zL2 | fail | exact zL3 | fail) ?_ | refine z_alV ?_ (fun _hq => ?_)) | ((first | refine q_callE wsT wsZ (by rfl) ?_ | refine q_callVE wsT (by rfl) (by rfl) ?_); refine ⟨_, _, _, (by first | assumption | exact k_within _ _ _ | exact k_shapes | exact k_topT _ | exact k_topF _), _, by rfl, ?_, ?_⟩)); focus (first | exact trivial | fail | exact zQZ)) | fail)) | refine r_nt (by rfl) (by rfl) zDD (by rfl) ?_ | refine r_nf (by rfl) (by rfl) zDD (by rfl) ?_ | refine r_gu (by rfl) (by rfl) (by rfl) ?_ | refine r_nil ?_))
  all_goals ((first | ((first | refine r_none ?_ | refine r_gt (by rfl) (by rfl) zDD (by rfl) ?_ | refine r_gf (by rfl) (by rfl) zDD (by rfl) ?_); (first | refine r_pure2 (by rfl) (by rfl) (fun w => rfl) (by rfl) (by rfl) ?_ | ((first | (refine z_op (by rfl) ?_; first | refine z_ok ?_ ?_ | refine z_ex ?_ (by first | exact zL1 | ((first | fail); exact zWW) | exact zL2 | fail | exact zL3 | fail) ?_ | refine z_alV ?_ (fun _hq => ?_)) | ((first | refine q_callE wsT wsZ (by rfl) ?_ | refine q_callVE wsT (by rfl) (by rfl) ?_); refine ⟨_, _, _, (by first | assumption | exact k_within _ _ _ | exact k_shapes | exact k_topT _ | exact k_topF _), _, by rfl, ?_, ?_⟩)); focus (first | exact trivial | fail | exact zQZ)) | fail)) | refine r_nt (by rfl) (by rfl) zDD (by rfl) ?_ | refine r_nf (by rfl) (by rfl) zDD (by rfl) ?_ | refine r_gu (by rfl) (by rfl) (by rfl) ?_ | refine r_nil ?_))
  all_goals ((first | ((first | refine r_none ?_ | refine r_gt (by rfl) (by rfl) zDD (by rfl) ?_ | refine r_gf (by rfl) (by rfl) zDD (by rfl) ?_); (first | refine r_pure2 (by rfl) (by rfl) (fun w => rfl) (by rfl) (by rfl) ?_ | ((first | (refine z_op (by rfl) ?_; first | refine z_ok ?_ ?_ | refine z_ex ?_ (by first | exact zL1 | ((first | fail); exact zWW) | exact zL2 | fail | exact zL3 | fail) ?_ | refine z_alV ?_ (fun _hq => ?_)) | ((first | refine q_callE wsT wsZ (by rfl) ?_ | refine q_callVE wsT (by rfl) (by rfl) ?_); refine ⟨_, _, _, (by first | assumption | exact k_within _ _ _ | exact k_shapes | exact k_topT _ | exact k_topF _), _, by rfl, ?_, ?_⟩)); focus (first | exact trivial | fail | exact zQZ)) | fail)) | refine r_nt (by rfl) (by rfl) zDD (by rfl) ?_ | refine r_nf (by rfl) (by rfl) zDD (by rfl) ?_ | refine r_gu (by rfl) (by rfl) (by rfl) ?_ | refine r_nil ?_))
  all_goals (refine r_none ?_; refine z_op (by rfl) ?_; refine z_ex ?_ (pu_of (r := shV 4) (fun w => by kernel_rfl) rfl) ?_; focus (first | exact trivial | fail | exact zQZ))
  all_goals ((repeat (first | refine gq_LD ?_ | (refine ga0A ?_; intro _hq))))
  all_goals ((repeat (first | refine gq_LD ?_ | (refine ga0A ?_; intro _hq) | refine gdA ?_)))
  all_goals ((refine rtA ?_; try rfl))
set_option maxHeartbeats 8000000 in
theorem k_lv5 (v w n : Int) : Kon Try.prog 55 [lV 5 v w n] [] (vB (btw v 0 0 && btw w 0 0 && btw n 0 0 && !(false && (v == w)))) [] [] := by
  cases h1 : btw v 0 0 <;> cases h2 : btw w 0 0 <;> cases h3 : btw n 0 0
  all_goals (refine kM Try.func55 rfl ?_; intro hfit hfe)
  all_goals ((repeat (first | refine gq_LD ?_ | (refine ga0A ?_; intro _hq))))
  all_goals ((refine aw_draw mixed T0ok cfU_ok [(48, [4, 5])] (by rfl) (by kernel_rfl) ?_))
  all_goals ((first | ((first | refine r_none ?_ | refine r_gt (by rfl) (by rfl) zDD (by rfl) ?_ | refine r_gf (by rfl) (by rfl) zDD (by rfl) ?_); (first | refine r_pure2 (by rfl) (by rfl) (fun w => rfl) (by rfl) (by rfl) ?_ | ((first | (refine z_op (by rfl) ?_; first | refine z_ok ?_ ?_ | refine z_ex ?_ (by first | exact zL1 | ((first | fail); exact zWW) | exact zL2 | fail | exact zL3 | fail) ?_ | refine z_alV ?_ (fun _hq => ?_)) | ((first | refine q_callE wsT wsZ (by rfl) ?_ | refine q_callVE wsT (by rfl) (by rfl) ?_); refine ⟨_, _, _, (by first | assumption | exact k_within _ _ _ | exact k_shapes | exact k_topT _ | exact k_topF _), _, by rfl, ?_, ?_⟩)); focus (first | exact trivial | fail | exact zQZ)) | fail)) | refine r_nt (by rfl) (by rfl) zDD (by rfl) ?_ | refine r_nf (by rfl) (by rfl) zDD (by rfl) ?_ | refine r_gu (by rfl) (by rfl) (by rfl) ?_ | refine r_nil ?_))
  all_goals ((first | ((first | refine r_none ?_ | refine r_gt (by rfl) (by rfl) zDD (by rfl) ?_ | refine r_gf (by rfl) (by rfl) zDD (by rfl) ?_); (first | refine r_pure2 (by rfl) (by rfl) (fun w => rfl) (by rfl) (by rfl) ?_ | ((first | (refine z_op (by rfl) ?_; first | refine z_ok ?_ ?_ | refine z_ex ?_ (by first | exact zL1 | ((first | fail); exact zWW) | exact zL2 | fail | exact zL3 | fail) ?_ | refine z_alV ?_ (fun _hq => ?_)) | ((first | refine q_callE wsT wsZ (by rfl) ?_ | refine q_callVE wsT (by rfl) (by rfl) ?_); refine ⟨_, _, _, (by first | assumption | exact k_within _ _ _ | exact k_shapes | exact k_topT _ | exact k_topF _), _, by rfl, ?_, ?_⟩)); focus (first | exact trivial | fail | exact zQZ)) | fail)) | refine r_nt (by rfl) (by rfl) zDD (by rfl) ?_ | refine r_nf (by rfl) (by rfl) zDD (by rfl) ?_ | refine r_gu (by rfl) (by rfl) (by rfl) ?_ | refine r_nil ?_))
  all_goals ((first | ((first | refine r_none ?_ | refine r_gt (by rfl) (by rfl) zDD (by rfl) ?_ | refine r_gf (by rfl) (by rfl) zDD (by rfl) ?_); (first | refine r_pure2 (by rfl) (by rfl) (fun w => rfl) (by rfl) (by rfl) ?_ | ((first | (refine z_op (by rfl) ?_; first | refine z_ok ?_ ?_ | refine z_ex ?_ (by first | exact zL1 | ((first | fail); exact zWW) | exact zL2 | fail | exact zL3 | fail) ?_ | refine z_alV ?_ (fun _hq => ?_)) | ((first | refine q_callE wsT wsZ (by rfl) ?_ | refine q_callVE wsT (by rfl) (by rfl) ?_); refine ⟨_, _, _, (by first | assumption | exact k_within _ _ _ | exact k_shapes | exact k_topT _ | exact k_topF _), _, by rfl, ?_, ?_⟩)); focus (first | exact trivial | fail | exact zQZ)) | fail)) | refine r_nt (by rfl) (by rfl) zDD (by rfl) ?_ | refine r_nf (by rfl) (by rfl) zDD (by rfl) ?_ | refine r_gu (by rfl) (by rfl) (by rfl) ?_ | refine r_nil ?_))
  all_goals (refine r_none ?_; refine z_op (by rfl) ?_; refine z_ex ?_ (pu_of (r := shV 5) (fun w => by kernel_rfl) rfl) ?_; focus (first | exact trivial | fail | exact zQZ))
  all_goals ((repeat (first | refine gq_LD ?_ | (refine ga0A ?_; intro _hq))))
  all_goals ((repeat (first | refine gq_LD ?_ | (refine ga0A ?_; intro _hq) | refine gdA ?_)))
  all_goals ((refine rtA ?_; try rfl))
set_option maxHeartbeats 8000000 in
theorem k_lv7 (v w n : Int) : Kon Try.prog 55 [lV 7 v w n] [] (vB (btw v 0 0 && btw w 0 0 && btw n 0 0 && !(false && (v == w)))) [] [] := by
  cases h1 : btw v 0 0 <;> cases h2 : btw w 0 0 <;> cases h3 : btw n 0 0
  all_goals (refine kM Try.func55 rfl ?_; intro hfit hfe)
  all_goals ((repeat (first | refine gq_LD ?_ | (refine ga0A ?_; intro _hq))))
  all_goals ((refine aw_draw mixed T0ok cfU_ok [(48, [4, 5])] (by rfl) (by kernel_rfl) ?_))
  all_goals ((first | ((first | refine r_none ?_ | refine r_gt (by rfl) (by rfl) zDD (by rfl) ?_ | refine r_gf (by rfl) (by rfl) zDD (by rfl) ?_); (first | refine r_pure2 (by rfl) (by rfl) (fun w => rfl) (by rfl) (by rfl) ?_ | ((first | (refine z_op (by rfl) ?_; first | refine z_ok ?_ ?_ | refine z_ex ?_ (by first | exact zL1 | ((first | fail); exact zWW) | exact zL2 | fail | exact zL3 | fail) ?_ | refine z_alV ?_ (fun _hq => ?_)) | ((first | refine q_callE wsT wsZ (by rfl) ?_ | refine q_callVE wsT (by rfl) (by rfl) ?_); refine ⟨_, _, _, (by first | assumption | exact k_within _ _ _ | exact k_shapes | exact k_topT _ | exact k_topF _), _, by rfl, ?_, ?_⟩)); focus (first | exact trivial | fail | exact zQZ)) | fail)) | refine r_nt (by rfl) (by rfl) zDD (by rfl) ?_ | refine r_nf (by rfl) (by rfl) zDD (by rfl) ?_ | refine r_gu (by rfl) (by rfl) (by rfl) ?_ | refine r_nil ?_))
  all_goals ((first | ((first | refine r_none ?_ | refine r_gt (by rfl) (by rfl) zDD (by rfl) ?_ | refine r_gf (by rfl) (by rfl) zDD (by rfl) ?_); (first | refine r_pure2 (by rfl) (by rfl) (fun w => rfl) (by rfl) (by rfl) ?_ | ((first | (refine z_op (by rfl) ?_; first | refine z_ok ?_ ?_ | refine z_ex ?_ (by first | exact zL1 | ((first | fail); exact zWW) | exact zL2 | fail | exact zL3 | fail) ?_ | refine z_alV ?_ (fun _hq => ?_)) | ((first | refine q_callE wsT wsZ (by rfl) ?_ | refine q_callVE wsT (by rfl) (by rfl) ?_); refine ⟨_, _, _, (by first | assumption | exact k_within _ _ _ | exact k_shapes | exact k_topT _ | exact k_topF _), _, by rfl, ?_, ?_⟩)); focus (first | exact trivial | fail | exact zQZ)) | fail)) | refine r_nt (by rfl) (by rfl) zDD (by rfl) ?_ | refine r_nf (by rfl) (by rfl) zDD (by rfl) ?_ | refine r_gu (by rfl) (by rfl) (by rfl) ?_ | refine r_nil ?_))
  all_goals ((first | ((first | refine r_none ?_ | refine r_gt (by rfl) (by rfl) zDD (by rfl) ?_ | refine r_gf (by rfl) (by rfl) zDD (by rfl) ?_); (first | refine r_pure2 (by rfl) (by rfl) (fun w => rfl) (by rfl) (by rfl) ?_ | ((first | (refine z_op (by rfl) ?_; first | refine z_ok ?_ ?_ | refine z_ex ?_ (by first | exact zL1 | ((first | fail); exact zWW) | exact zL2 | fail | exact zL3 | fail) ?_ | refine z_alV ?_ (fun _hq => ?_)) | ((first | refine q_callE wsT wsZ (by rfl) ?_ | refine q_callVE wsT (by rfl) (by rfl) ?_); refine ⟨_, _, _, (by first | assumption | exact k_within _ _ _ | exact k_shapes | exact k_topT _ | exact k_topF _), _, by rfl, ?_, ?_⟩)); focus (first | exact trivial | fail | exact zQZ)) | fail)) | refine r_nt (by rfl) (by rfl) zDD (by rfl) ?_ | refine r_nf (by rfl) (by rfl) zDD (by rfl) ?_ | refine r_gu (by rfl) (by rfl) (by rfl) ?_ | refine r_nil ?_))
  all_goals (refine r_none ?_; refine z_op (by rfl) ?_; refine z_ex ?_ (pu_of (r := shV 7) (fun w => by kernel_rfl) rfl) ?_; focus (first | exact trivial | fail | exact zQZ))
  all_goals ((repeat (first | refine gq_LD ?_ | (refine ga0A ?_; intro _hq))))
  all_goals ((repeat (first | refine gq_LD ?_ | (refine ga0A ?_; intro _hq) | refine gdA ?_)))
  all_goals ((refine rtA ?_; try rfl))
theorem gq_PKA {H G : Prop} (k : H) (h : Hid H → G := by (intro hh; repeat1' (first | (first | (refine nxA ?_; (first | fail | ((first | (refine z_op (by rfl) ?_; first | refine z_ok ?_ ?_ | refine z_ex ?_ (by first | exact zL1 | ((first | fail); exact zWW) | exact zL2 | exact rw_c Int rfl | exact zL3 | fail) ?_) | ((first | refine q_callE wsT wsZ (by rfl) ?_ | refine q_callVE wsT (by rfl) (by rfl) ?_); refine ⟨_, _, _, (by first | assumption | exact k_l1In _ _ _), _, by rfl, ?_, ?_⟩)); focus (first | exact trivial | fail | exact zQZ)) | fail)) | refine swA ?_) | refine awA ?_); exact hh.out)) : G := h ⟨k⟩
def rvB (l : List Int) : Bool := l.all (fun x => btw x 0 63) && ((l.length : Int) == 4)
theorem drop_at {l : List Int} {k : Nat} (h : k < l.length) : l.drop k = l.getD k 0 :: l.drop (k + 1) := by
  rw [List.drop_eq_getElem_cons h]
  simp [List.getD_eq_getElem?_getD, h]
theorem k_rvS (l : List Int) (h : l.length ≤ 2000000) : Kon Try.prog 45 [roA l] [] (vB (rvB l)) [] [] := by
  (refine kM Try.func45 rfl ?_; intro hfit hfe)
  (repeat (first | refine gq_PKA ?_ | (refine ga0A ?_; intro _hq)))
  (refine aw_rd [0] [] (fun i : Nat => [(3, vI i)]) (fun _ => []) (fun i => i ≤ l.length ∧ (l.drop i).all (fun x => btw x 0 63) = l.all (fun x => btw x 0 63)) (fun i => l.length - i) 0 (by rfl) (by rfl) ?_ (by rfl) zHE zHE ?_)
  · exact ⟨Nat.zero_le _, rfl⟩
  rintro i ⟨hi, hz⟩
  rcases Nat.lt_or_ge i l.length with h5 | h5
  · have hd : decide ((i : Int) < (l.length : Int)) = true := by simpa using h5
    rw [drop_at h5, List.all_cons] at hz
    cases hb : btw (l.getD i 0) 0 63 with
    | false =>
      have e : rvB l = false := by unfold rvB; rw [← hz, hb]; rfl
      have hb' : btw (l.getD (i : Int).toNat Cel.no) 0 63 = false := hb
      rw [e]
      (repeat (first | refine gq_PKA ?_ | (refine ga0A ?_; intro _hq)))
      (refine rtA ?_; try rfl)
    | true =>
      have hb' : btw (l.getD (i : Int).toNat Cel.no) 0 63 = true := hb
      rw [hb, Bool.true_and] at hz
      have hinv : i + 1 ≤ l.length ∧ (l.drop (i + 1)).all (fun x => btw x 0 63) = l.all (fun x => btw x 0 63) := ⟨h5, hz⟩
      clear hz
      (repeat (first | refine gq_PKA ?_ | (refine ga0A ?_; intro _hq)))
      exact ⟨i + 1, hinv, ⟨by rfl, zHE, zHE⟩, (by first | omega | (dsimp only; omega))⟩
  · have hd : decide ((i : Int) < (l.length : Int)) = false := by simp; omega
    have e : rvB l = ((l.length : Int) == 4) := by
      unfold rvB; rw [← hz, List.drop_of_length_le h5]; rfl
    rw [e]
    (repeat (first | refine gq_PKA ?_ | (refine ga0A ?_; intro _hq)))
    (refine rtA ?_; try rfl)
def o1 (o : List Int) (k : Int) : List Int × Bool :=
  if k = 4 ∨ k = 6 then (o ++ [k], decide (o.length + 1 ≤ 3))
  else if k = 5 then (if o.getLast? = some 4 then (o.take ((o.length : Int) - 1).toNat, true) else (o, false))
  else if k = 7 then (if o.getLast? = some 6 then (o.set ((o.length : Int) - 1).toNat 7, true) else (o, false))
  else if k = 8 then (if o.getLast? = some 7 then (o.take ((o.length : Int) - 1).toNat, true) else (o, false))
  else (o, true)
def opn : List Gt → List Int → List Int × Bool
  | [], o => (o, true)
  | l :: p, o => if (o1 o l.k).2 then opn p (o1 o l.k).1 else ((o1 o l.k).1, false)
theorem last_snoc (st : List Int) (x : Int) : (x :: st).reverse.take ((((x :: st).reverse.length : Nat) : Int) - 1).toNat = st.reverse := by
  have : ((((x :: st).reverse.length : Nat) : Int) - 1).toNat = st.reverse.length := by simp
  rw [this, List.reverse_cons]
  exact List.take_left
theorem set_snoc (st : List Int) (x y : Int) : (x :: st).reverse.set ((((x :: st).reverse.length : Nat) : Int) - 1).toNat y = (y :: st).reverse := by
  have : ((((x :: st).reverse.length : Nat) : Int) - 1).toNat = st.reverse.length := by simp
  rw [this, List.reverse_cons, List.reverse_cons, List.set_append_right _ _ (Nat.le_refl _), Nat.sub_self]
  rfl
theorem last_head (st : List Int) : st.reverse.getLast? = st.head? := by rw [List.getLast?_reverse]
theorem o1_op1 (st : List Int) (k : Int) : (match op1 st k with | none => (o1 st.reverse k).2 = false | some st' => o1 st.reverse k = (st'.reverse, true)) := by
  unfold op1 o1
  rw [last_head]
  by_cases h4 : k = 4 ∨ k = 6
  · rw [if_pos h4, if_pos h4]
    by_cases h3 : 3 < st.length + 1
    · rw [if_pos h3]; simp; omega
    · rw [if_neg h3]; simp; omega
  rw [if_neg h4, if_neg h4]
  by_cases h5 : k = 5
  · rw [if_pos h5, if_pos h5]
    by_cases h : st.head? = some 4
    · rw [if_pos h, if_pos h]
      obtain _ | ⟨x, st⟩ := st
      · cases h
      · show _ = _; rw [last_snoc]; rfl
    · rw [if_neg h, if_neg h]
  rw [if_neg h5, if_neg h5]
  by_cases h7 : k = 7
  · rw [if_pos h7, if_pos h7]
    by_cases h : st.head? = some 6
    · rw [if_pos h, if_pos h]
      obtain _ | ⟨x, st⟩ := st
      · cases h
      · show _ = _; rw [set_snoc]; rfl
    · rw [if_neg h, if_neg h]
  rw [if_neg h7, if_neg h7]
  by_cases h8 : k = 8
  · rw [if_pos h8, if_pos h8]
    by_cases h : st.head? = some 7
    · rw [if_pos h, if_pos h]
      obtain _ | ⟨x, st⟩ := st
      · cases h
      · show _ = _; rw [last_snoc]; rfl
    · rw [if_neg h, if_neg h]
  rw [if_neg h8, if_neg h8]
theorem opn_scan : ∀ (p : List Gt) (st : List Int), (match scan p st with | none => (opn p st.reverse).2 = false | some st' => opn p st.reverse = (st'.reverse, true))
  | [], st => rfl
  | l :: p, st => by
    have h := o1_op1 st l.k
    rw [scan, opn]
    cases ho : op1 st l.k with
    | none => rw [ho] at h; dsimp only at h ⊢; rw [h]; rfl
    | some st' => rw [ho] at h; dsimp only at h ⊢; rw [h]; exact opn_scan p st'
def o2 (R : List Int) (n : Nat) (k : Int) : (List Int × Nat) × Bool :=
  if k = 4 ∨ k = 6 then ((R.take n ++ [k], (R.take n ++ [k]).length), decide (n + 1 ≤ 3))
  else if k = 5 then (if 0 < n ∧ R.getD ((n : Int) - 1).toNat Cel.no = 4 then ((R, ((n : Int) - 1).toNat), true) else ((R, n), false))
  else if k = 7 then (if 0 < n ∧ R.getD ((n : Int) - 1).toNat Cel.no = 6 then ((R.set ((n : Int) - 1).toNat 7, n), true) else ((R, n), false))
  else if k = 8 then (if 0 < n ∧ R.getD ((n : Int) - 1).toNat Cel.no = 7 then ((R, ((n : Int) - 1).toNat), true) else ((R, n), false))
  else ((R, n), true)
def opm : List Gt → List Int → Nat → (List Int × Nat) × Bool
  | [], R, n => ((R, n), true)
  | l :: p, R, n => if (o2 R n l.k).2 then opm p (o2 R n l.k).1.1 (o2 R n l.k).1.2 else ((o2 R n l.k).1, false)
theorem lastR {R : List Int} {n : Nat} (h : n ≤ R.length) (x : Int) : (0 < n ∧ R.getD ((n : Int) - 1).toNat Cel.no = x) ↔ (R.take n).getLast? = some x := by
  rw [show ((n : Int) - 1).toNat = n - 1 by omega, List.getLast?_eq_getElem?, List.length_take, Nat.min_eq_left h]
  rcases Nat.eq_zero_or_pos n with rfl | h0
  · simp
  · rw [List.getElem?_take_of_lt (by omega), List.getElem?_eq_getElem (by omega), List.getD_eq_getElem?_getD, List.getElem?_eq_getElem (by omega)]
    simp [h0]
theorem o2_o1 {R : List Int} {n : Nat} (h : n ≤ R.length) (k : Int) : (o2 R n k).1.2 ≤ (o2 R n k).1.1.length ∧ o1 (R.take n) k = ((o2 R n k).1.1.take (o2 R n k).1.2, (o2 R n k).2) := by
  have hl : (R.take n).length = n := by rw [List.length_take]; omega
  have hc : (R.take n).take ((n : Int) - 1).toNat = R.take ((n : Int) - 1).toNat := by rw [List.take_take, Nat.min_eq_left (by omega)]
  unfold o1 o2
  rw [hl, hc]
  by_cases h4 : k = 4 ∨ k = 6
  · rw [if_pos h4, if_pos h4]
    exact ⟨Nat.le_refl _, by rw [List.take_length]⟩
  rw [if_neg h4, if_neg h4]
  by_cases h5 : k = 5
  · rw [if_pos h5, if_pos h5]
    by_cases hx : (R.take n).getLast? = some 4
    · rw [if_pos hx, if_pos ((lastR h 4).2 hx)]; exact ⟨show ((n : Int) - 1).toNat ≤ R.length by omega, rfl⟩
    · rw [if_neg hx, if_neg (fun z => hx ((lastR h 4).1 z))]; exact ⟨h, rfl⟩
  rw [if_neg h5, if_neg h5]
  by_cases h7 : k = 7
  · rw [if_pos h7, if_pos h7]
    by_cases hx : (R.take n).getLast? = some 6
    · rw [if_pos hx, if_pos ((lastR h 6).2 hx)]; exact ⟨show n ≤ (R.set _ 7).length by rw [List.length_set]; exact h, by rw [List.take_set]⟩
    · rw [if_neg hx, if_neg (fun z => hx ((lastR h 6).1 z))]; exact ⟨h, rfl⟩
  rw [if_neg h7, if_neg h7]
  by_cases h8 : k = 8
  · rw [if_pos h8, if_pos h8]
    by_cases hx : (R.take n).getLast? = some 7
    · rw [if_pos hx, if_pos ((lastR h 7).2 hx)]; exact ⟨show ((n : Int) - 1).toNat ≤ R.length by omega, rfl⟩
    · rw [if_neg hx, if_neg (fun z => hx ((lastR h 7).1 z))]; exact ⟨h, rfl⟩
  rw [if_neg h8, if_neg h8]
  exact ⟨h, rfl⟩
theorem opm_opn : ∀ (p : List Gt) {R : List Int} {n : Nat}, n ≤ R.length → (opm p R n).1.2 ≤ (opm p R n).1.1.length ∧ opn p (R.take n) = ((opm p R n).1.1.take (opm p R n).1.2, (opm p R n).2)
  | [], R, n, h => ⟨h, rfl⟩
  | l :: p, R, n, h => by
    have h1 := o2_o1 h l.k
    rw [opn, opm, h1.2]
    dsimp only
    by_cases hb : (o2 R n l.k).2 = true
    · rw [if_pos hb, if_pos hb]; exact opm_opn p h1.1
    · rw [if_neg hb, if_neg hb]; exact ⟨h1.1, rfl⟩
theorem pv_opn (p : List Gt) : pvS p = (p.all lkG && ((opn p []).2 && (((opn p []).1.length : Int) == 0) && decide ((p.length : Int) ≤ 16))) := by
  have h := opn_scan p []
  have e16 : decide ((p.length : Int) ≤ 16) = decide (p.length ≤ 16) := by rw [decide_eq_decide]; omega
  unfold pvS
  rw [e16]
  cases hs : scan p [] with
  | none => rw [hs] at h; dsimp only at h; rw [show (opn p []) = opn p ([] : List Int).reverse from rfl, h]; simp
  | some st =>
    rw [hs] at h; dsimp only at h
    rw [show (opn p []) = opn p ([] : List Int).reverse from rfl, h]
    obtain _ | ⟨x, st⟩ := st
    · simp
    · simp
      intros
      omega
theorem pv_opm (p : List Gt) : pvS p = (p.all lkG && ((opm p [] 0).2 && (((opm p [] 0).1.2 : Int) == 0) && decide ((p.length : Int) ≤ 16))) := by
  have h := opm_opn p (R := []) (n := 0) (Nat.le_refl _)
  rw [pv_opn, show (opn p []) = opn p (([] : List Int).take 0) from rfl, h.2]
  dsimp only
  rw [List.length_take, Nat.min_eq_left h.1]
theorem gq_TRD {H G : Prop} (k : H) (h : Hid H → G := by (intro hh; repeat1' (first | (first | (refine nxA ?_; (first | fail | ((first | (refine z_op (by rfl) ?_; first | refine z_ok ?_ ?_ | refine z_ex ?_ (by first | exact zL1 | ((first | fail); exact zWW) | exact zL2 | fail | exact zL3 | fail) ?_) | ((first | refine q_callE wsT wsZ (by rfl) ?_ | refine q_callVE wsT (by rfl) (by rfl) ?_); refine ⟨_, _, _, (by first | assumption | exact k_within _ _ _ | exact k_lvI _ _ _ _), _, by rfl, ?_, ?_⟩)); focus (first | exact trivial | fail | exact zQZ)) | fail)) | refine swA ?_) | refine awA ?_); exact hh.out)) : G := h ⟨k⟩
theorem k_lvI (k v w n : Int) : Kon Try.prog 55 [lV k v w n] [] (vB (lok k v w n)) [] [] := by
  by_cases h0 : k < 0 ∨ 8 < k
  · rw [lok_out h0]
    have hb : btw k 0 8 = false := by
      unfold btw
      rcases h0 with h | h
      · rw [decide_eq_false (by omega : ¬ 0 ≤ k)]; rfl
      · rw [decide_eq_false (by omega : ¬ k ≤ 8)]; cases decide (0 ≤ k) <;> rfl
    have hW := k_within k 0 8
    rw [hb] at hW
    (refine kM Try.func55 rfl ?_; intro hfit hfe)
    (repeat (first | refine gq_TRD ?_ | (refine ga0A ?_; intro _hq)))
    (refine rtA ?_; try rfl)
  have h' : (k = 0 ∨ k = 1 ∨ k = 3) ∨ (k = 2 ∨ k = 6 ∨ k = 8) ∨ k = 4 ∨ (k = 5 ∨ k = 7) := by omega
  have eA : (btw v 0 3 && btw w 0 3 && (v != w) && (n == 0)) = (btw v 0 3 && btw w 0 3 && btw n 0 0 && !(true && (v == w))) := by
    rw [btw_0]
    unfold bne
    cases btw v 0 3 <;> cases btw w 0 3 <;> cases (v == w) <;> cases (n == 0) <;> rfl
  have eB : (btw v 0 3 && (w == 0) && btw n 0 63) = (btw v 0 3 && btw w 0 0 && btw n 0 63 && !(false && (v == w))) := by
    rw [btw_0]
    cases btw v 0 3 <;> cases (w == 0) <;> cases btw n 0 63 <;> rfl
  have eC : ((v == 0) && (w == 0) && btw n 0 3) = (btw v 0 0 && btw w 0 0 && btw n 0 3 && !(false && (v == w))) := by
    rw [btw_0, btw_0]
    cases (v == 0) <;> cases (w == 0) <;> cases btw n 0 3 <;> rfl
  have eD : ((v == 0) && (w == 0) && (n == 0)) = (btw v 0 0 && btw w 0 0 && btw n 0 0 && !(false && (v == w))) := by
    rw [btw_0, btw_0, btw_0]
    cases (v == 0) <;> cases (w == 0) <;> cases (n == 0) <;> rfl
  rcases h' with hk | hk | rfl | hk
  · rw [lok_A hk, eA]
    rcases hk with rfl | rfl | rfl
    · exact k_lv0 v w n
    · exact k_lv1 v w n
    · exact k_lv3 v w n
  · rw [lok_B hk, eB]
    rcases hk with rfl | rfl | rfl
    · exact k_lv2 v w n
    · exact k_lv6 v w n
    · exact k_lv8 v w n
  · rw [lok_C, eC]
    exact k_lv4 v w n
  · rw [lok_D hk, eD]
    rcases hk with rfl | rfl
    · exact k_lv5 v w n
    · exact k_lv7 v w n
theorem k_p1 (g : Gt) : Kon Try.prog 54 [lV g.k g.a g.b g.c] [] (vB (!(lkG g))) [] [] := by
  (refine kM Try.func54 rfl ?_; intro hfit hfe)
  (repeat (first | refine gq_TRD ?_ | (refine ga0A ?_; intro _hq)))
  (refine rtA ?_; try rfl)
def rgB (n : Int) : Bool := btw n 0 63
theorem k_r1 (n : Int) : Kon Try.prog 51 [vI n] [] (vB (!(rgB n))) [] [] := by
  unfold rgB
  (refine kM Try.func51 rfl ?_; intro hfit hfe)
  (repeat (first | refine gq_TRD ?_ | (refine ga0A ?_; intro _hq)))
  (refine rtA ?_; try rfl)
abbrev capL : AV := .g (.one (.fn 54 []))
def bL : List Gt → Nat → Int
  | [], _ => -1
  | g :: l, i => if lkG g = true then bL l (i + 1) else (i : Int)
theorem bL_all : ∀ (l : List Gt) (i : Nat), decide (bL l i ≥ 0) = !(l.all lkG)
  | [], i => rfl
  | g :: l, i => by
    cases h : lkG g with
    | true => simp only [bL, h, if_true, List.all_cons, Bool.true_and]; exact bL_all l (i + 1)
    | false => simp [bL, h]
theorem bL_drop {l : List Gt} {i : Nat} (hi : i < l.length) : bL (l.drop i) i = if lkG (l.getD i Cel.no) = true then bL (l.drop (i + 1)) (i + 1) else (i : Int) := by
  have e : l.getD i Cel.no = l[i] := by simp [List.getD_eq_getElem?_getD, hi]
  rw [List.drop_eq_getElem_cons hi, e]; rfl
theorem k_ixL (l : List Gt) (h : l.length ≤ 100000000) : Kon Try.prog 68 [roA l, capL] [] (vI (bL l 0)) [] [] := by
  (refine kM Try.func68 rfl ?_; intro hfit hfe)
  (repeat (first | refine gq_TRD ?_ | (refine ga0A ?_; intro _hq)))
  (refine aw_rd [0, 1, 7] [] (fun i : Nat => [(8, vI i)]) (fun _ => []) (fun i => i ≤ l.length ∧ bL (l.drop i) i = bL l 0) (fun i => l.length - i) 0 (by rfl) (by rfl) ?_ (by rfl) zHE zHE ?_)
  · exact ⟨Nat.zero_le _, by rw [List.drop_zero]⟩
  rintro i ⟨hi, hz⟩
  rcases Nat.lt_or_ge i l.length with h6 | h6
  · have hd : decide ((i : Int) < (l.length : Int)) = true := by simpa using h6
    rw [bL_drop h6] at hz
    have hK := k_p1 (l.getD (i : Int).toNat Cel.no)
    replace hz : (if lkG (l.getD (i : Int).toNat Cel.no) = true then bL (l.drop (i + 1)) (i + 1) else (i : Int)) = bL l 0 := hz
    cases hb : lkG (l.getD (i : Int).toNat Cel.no) with
    | false =>
      rw [hb, if_neg (by decide)] at hz
      rw [hb] at hK
      rw [← hz]
      clear hz
      (repeat (first | refine gq_TRD ?_ | (refine ga0A ?_; intro _hq)))
      (refine rtA ?_; try rfl)
    | true =>
      rw [hb, if_pos rfl] at hz
      rw [hb] at hK
      have hinv : i + 1 ≤ l.length ∧ bL (l.drop (i + 1)) (i + 1) = bL l 0 := ⟨h6, hz⟩
      clear hz
      (repeat (first | refine gq_TRD ?_ | (refine ga0A ?_; intro _hq)))
      exact ⟨i + 1, hinv, ⟨by rfl, zHE, zHE⟩, (by first | omega | (dsimp only; omega))⟩
  · have hd : decide ((i : Int) < (l.length : Int)) = false := by simp; omega
    rw [List.drop_of_length_le h6, bL] at hz
    rw [← hz]
    clear hz
    (repeat (first | refine gq_TRD ?_ | (refine ga0A ?_; intro _hq)))
    (refine rtA ?_; try rfl)
theorem k_cfL (l : List Gt) (h : l.length ≤ 100000000) : Kon Try.prog 53 [roA l, capL] [] (vB (!(l.all lkG))) [] [] := by
  rw [← bL_all l 0]
  have hK := k_ixL l h
  (refine kM Try.func53 rfl ?_; intro hfit hfe)
  (repeat (first | refine gq_TRD ?_ | (refine ga0A ?_; intro _hq)))
  (refine rtA ?_; try rfl)
abbrev capR : AV := .g (.one (.fn 51 []))
def bR : List Int → Nat → Int
  | [], _ => -1
  | g :: l, i => if rgB g = true then bR l (i + 1) else (i : Int)
theorem bR_all : ∀ (l : List Int) (i : Nat), decide (bR l i ≥ 0) = !(l.all rgB)
  | [], i => rfl
  | g :: l, i => by
    cases h : rgB g with
    | true => simp only [bR, h, if_true, List.all_cons, Bool.true_and]; exact bR_all l (i + 1)
    | false => simp [bR, h]
theorem bR_drop {l : List Int} {i : Nat} (hi : i < l.length) : bR (l.drop i) i = if rgB (l.getD i Cel.no) = true then bR (l.drop (i + 1)) (i + 1) else (i : Int) := by
  have e : l.getD i Cel.no = l[i] := by simp [List.getD_eq_getElem?_getD, hi]
  rw [List.drop_eq_getElem_cons hi, e]; rfl
theorem k_ixR (l : List Int) (h : l.length ≤ 100000000) : Kon Try.prog 67 [roA l, capR] [] (vI (bR l 0)) [] [] := by
  (refine kM Try.func67 rfl ?_; intro hfit hfe)
  (repeat (first | refine gq_TRD ?_ | (refine ga0A ?_; intro _hq)))
  (refine aw_rd [0, 1, 7] [] (fun i : Nat => [(8, vI i)]) (fun _ => []) (fun i => i ≤ l.length ∧ bR (l.drop i) i = bR l 0) (fun i => l.length - i) 0 (by rfl) (by rfl) ?_ (by rfl) zHE zHE ?_)
  · exact ⟨Nat.zero_le _, by rw [List.drop_zero]⟩
  rintro i ⟨hi, hz⟩
  rcases Nat.lt_or_ge i l.length with h6 | h6
  · have hd : decide ((i : Int) < (l.length : Int)) = true := by simpa using h6
    rw [bR_drop h6] at hz
    have hK := k_r1 (l.getD (i : Int).toNat Cel.no)
    replace hz : (if rgB (l.getD (i : Int).toNat Cel.no) = true then bR (l.drop (i + 1)) (i + 1) else (i : Int)) = bR l 0 := hz
    cases hb : rgB (l.getD (i : Int).toNat Cel.no) with
    | false =>
      rw [hb, if_neg (by decide)] at hz
      rw [hb] at hK
      rw [← hz]
      clear hz
      (repeat (first | refine gq_TRD ?_ | (refine ga0A ?_; intro _hq)))
      (refine rtA ?_; try rfl)
    | true =>
      rw [hb, if_pos rfl] at hz
      rw [hb] at hK
      have hinv : i + 1 ≤ l.length ∧ bR (l.drop (i + 1)) (i + 1) = bR l 0 := ⟨h6, hz⟩
      clear hz
      (repeat (first | refine gq_TRD ?_ | (refine ga0A ?_; intro _hq)))
      exact ⟨i + 1, hinv, ⟨by rfl, zHE, zHE⟩, (by first | omega | (dsimp only; omega))⟩
  · have hd : decide ((i : Int) < (l.length : Int)) = false := by simp; omega
    rw [List.drop_of_length_le h6, bR] at hz
    rw [← hz]
    clear hz
    (repeat (first | refine gq_TRD ?_ | (refine ga0A ?_; intro _hq)))
    (refine rtA ?_; try rfl)
theorem k_cfR (l : List Int) (h : l.length ≤ 100000000) : Kon Try.prog 50 [roA l, capR] [] (vB (!(l.all rgB))) [] [] := by
  rw [← bR_all l 0]
  have hK := k_ixR l h
  (refine kM Try.func50 rfl ?_; intro hfit hfe)
  (repeat (first | refine gq_TRD ?_ | (refine ga0A ?_; intro _hq)))
  (refine rtA ?_; try rfl)
theorem k_rvI (l : List Int) (h : l.length ≤ 2000000) : Kon Try.prog 31 [roA l] [] (vB (rvB l)) [] [] := by
  have hK := k_cfR l (by omega)
  have e : rvB l = (l.all rgB && ((l.length : Int) == 4)) := rfl
  rw [e]
  clear e
  cases h4 : ((l.length : Int) == 4) with
  | false =>
    rw [Bool.and_false]
    (refine kM Try.func31 rfl ?_; intro hfit hfe)
    (repeat (first | refine gq_TRD ?_ | (refine ga0A ?_; intro _hq)))
    (refine rtA ?_; try rfl)
  | true =>
    rw [Bool.and_true]
    (refine kM Try.func31 rfl ?_; intro hfit hfe)
    (repeat (first | refine gq_TRD ?_ | (refine ga0A ?_; intro _hq)))
    (refine rtA ?_; try rfl)
    rw [Bool.not_not]
    rfl
end Go.Proofs.Ytgjnnlgeggamjaa
