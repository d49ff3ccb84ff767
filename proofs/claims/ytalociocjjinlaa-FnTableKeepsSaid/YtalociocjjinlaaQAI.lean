/- KGJ, EQ, KGR, PTC0, KOC, PWT, KWT, KTA, PTC, KTB, KTC, KTK: laid into one text. -/
import Derived.Test.YtalociocjjinlaaQAE
import Derived.Test.YtalociocjjinlaaQAF
import Derived.Test.YtalociocjjinlaaQAH
import Derived.ChangeKeysEq
import Derived.Test.YtalociocjjinlaaProg

namespace Go.Proofs.Ytalociocjjinlaa
set_option linter.unusedVariables false
set_option linter.unusedSimpArgs false
set_option maxRecDepth 20000
open Go.RowKit
attribute [local irreducible] runA runX AW
theorem gq_KGJ {H G : Prop} (k : H) (h : Hid H → G := by (intro hh; repeat1' (first | (first | (refine nxA ?_; (first | fail | ((first | (refine z_op (by rfl) ?_; first | refine z_ok ?_ ?_ | refine z_ex ?_ (by first | exact zL1 | ((first | fail); exact zWW) | exact zL2 | fail | exact zL3 | fail) ?_) | ((first | refine q_callE wsT wsZ (by rfl) ?_ | refine q_callVE wsT (by rfl) (by rfl) ?_); refine ⟨_, _, _, (by first | assumption | exact k_okL _ | exact k_l1In _ _ _ | exact k_wvS2 _ _ | exact k_wv _ _ | exact k_gv _ _ | exact k_gvS _ _ (by omega) | exact k_cv1 _ _ | exact k_idxV _ _ (by omega) | exact k_contV _ _ (by omega) | exact k_cv _ _ (by omega) | exact k_cvS _ _ (by omega) (by omega)), _, by rfl, ?_, ?_⟩)); focus (first | exact trivial | fail | exact zQZ)) | fail)) | refine swA ?_) | refine awA ?_); exact hh.out)) : G := h ⟨k⟩
abbrev capA : AV := .g (.one (.fn 43 [(100000, 0)]))
abbrev boxI (n : Int) : Ent := .rbx [.v (.int .i64 n)]
theorem k_cv1 (n : Int) (g : Gt) : Kon Try.prog 43 [gV g, .g (.one (.ptr 100000 0 0))] [boxI n] (vB (!(gok n g))) [] [boxI n] := by
  (refine kM Try.func43 rfl ?_; intro hfit hfe)
  (repeat (first | refine gq_KGJ ?_ | (refine ga0A ?_; intro _hq)))
  (refine rtA ?_; try rfl)
def badI (n : Int) : List Gt → Nat → Int
  | [], _ => -1
  | g :: l, i => if gok n g = true then badI n l (i + 1) else (i : Int)
theorem badI_all {n : Int} : ∀ (l : List Gt) (i : Nat), decide (badI n l i ≥ 0) = !(l.all (gok n))
  | [], i => rfl
  | g :: l, i => by
    cases h : gok n g with
    | true => simp only [badI, h, if_true, List.all_cons, Bool.true_and]; exact badI_all l (i + 1)
    | false => simp [badI, h]
theorem badI_drop {n : Int} {l : List Gt} {i : Nat} (hi : i < l.length) : badI n (l.drop i) i = if gok n (l.getD i Cel.no) = true then badI n (l.drop (i + 1)) (i + 1) else (i : Int) := by
  have e : l.getD i Cel.no = l[i] := by simp [List.getD_eq_getElem?_getD, hi]
  rw [List.drop_eq_getElem_cons hi, e]; rfl
theorem k_idxV (n : Int) (l : List Gt) (h : l.length ≤ 100000000) : Kon Try.prog 49 [roA l, capA] [boxI n] (vI (badI n l 0)) [] [boxI n] := by
  (refine kM Try.func49 rfl ?_; intro hfit hfe)
  (repeat (first | refine gq_KGJ ?_ | (refine ga0A ?_; intro _hq)))
  (refine aw_rd [0, 1, 7] [100000] (fun i : Nat => [(8, vI i)]) (fun _ => []) (fun i => i ≤ l.length ∧ badI n (l.drop i) i = badI n l 0) (fun i => l.length - i) 0 (by rfl) (by rfl) ?_ (by rfl) zHE zHE ?_)
  · exact ⟨Nat.zero_le _, by rw [List.drop_zero]⟩
  rintro i ⟨hi, hz⟩
  rcases Nat.lt_or_ge i l.length with h6 | h6
  · have hd : decide ((i : Int) < (l.length : Int)) = true := by simpa using h6
    rw [badI_drop h6] at hz
    have hK := k_cv1 n (l.getD (i : Int).toNat Cel.no)
    replace hz : (if gok n (l.getD (i : Int).toNat Cel.no) = true then badI n (l.drop (i + 1)) (i + 1) else (i : Int)) = badI n l 0 := hz
    cases hb : gok n (l.getD (i : Int).toNat Cel.no) with
    | false =>
      rw [hb, if_neg (by decide)] at hz
      rw [hb] at hK
      rw [← hz]
      clear hz
      (repeat (first | refine gq_KGJ ?_ | (refine ga0A ?_; intro _hq)))
      (refine rtA ?_; try rfl)
    | true =>
      rw [hb, if_pos rfl] at hz
      rw [hb] at hK
      have hinv : i + 1 ≤ l.length ∧ badI n (l.drop (i + 1)) (i + 1) = badI n l 0 := ⟨h6, hz⟩
      clear hz
      (repeat (first | refine gq_KGJ ?_ | (refine ga0A ?_; intro _hq)))
      exact ⟨i + 1, hinv, ⟨by rfl, zHE, zHE⟩, (by first | omega | (dsimp only; omega))⟩
  · have hd : decide ((i : Int) < (l.length : Int)) = false := by simp; omega
    rw [List.drop_of_length_le h6, badI] at hz
    rw [← hz]
    clear hz
    (repeat (first | refine gq_KGJ ?_ | (refine ga0A ?_; intro _hq)))
    (refine rtA ?_; try rfl)
theorem k_contV (n : Int) (l : List Gt) (h : l.length ≤ 100000000) : Kon Try.prog 42 [roA l, capA] [boxI n] (vB (!(l.all (gok n)))) [] [boxI n] := by
  rw [← badI_all l 0]
  (refine kM Try.func42 rfl ?_; intro hfit hfe)
  (repeat (first | refine gq_KGJ ?_ | (refine ga0A ?_; intro _hq)))
  (refine rtA ?_; try rfl)
def cokB (n : Int) (l : List Gt) : Bool := btw n 1 8 && (decide ((l.length : Int) ≤ 24) && l.all (gok n))
theorem k_cv (n : Int) (l : List Gt) (h : l.length ≤ 100000000) : Kon Try.prog 26 [vI n, roA l] [] (vB (cokB n l)) [] [] := by
  unfold cokB
  cases h1 : btw n 1 8 with
  | false =>
    (refine kM Try.func26 rfl ?_; intro hfit hfe)
    (repeat (first | refine gq_KGJ ?_ | (refine ga0A ?_; intro _hq)))
    (refine rtA ?_; try rfl)
  | true =>
    cases h2 : decide ((l.length : Int) ≤ 24) with
    | false =>
      (refine kM Try.func26 rfl ?_; intro hfit hfe)
      (repeat (first | refine gq_KGJ ?_ | (refine ga0A ?_; intro _hq)))
      (refine rtA ?_; try rfl)
    | true =>
      (refine kM Try.func26 rfl ?_; intro hfit hfe)
      (repeat (first | refine gq_KGJ ?_ | (refine ga0A ?_; intro _hq)))
      (refine rtA ?_; try rfl)
      rw [Bool.not_not]; rfl
theorem all_drop {p : Gt → Bool} {l : List Gt} {i : Nat} (hi : i < l.length) : (l.drop i).all p = (p (l.getD i Cel.no) && (l.drop (i + 1)).all p) := by
  have e : l.getD i Cel.no = l[i] := by simp [List.getD_eq_getElem?_getD, hi]
  rw [List.drop_eq_getElem_cons hi, e, List.all_cons]
theorem k_cvS (n : Int) (l : List Gt) (h : l.length ≤ 100000000) (hr : -9223372036854775808 ≤ n ∧ n ≤ 9223372036854775807) : Kon Try.prog 8 [vI n, roA l] [] (vB (cokB n l)) [] [] := by
  have e : cokB n l = (l.all (gok n) && (btw n 1 8 && decide ((l.length : Int) ≤ 24))) := by
    unfold cokB; cases btw n 1 8 <;> cases decide ((l.length : Int) ≤ 24) <;> cases l.all (gok n) <;> rfl
  rw [e]
  clear e
  (refine kM Try.func8 rfl ?_; intro hfit hfe)
  (repeat (first | refine gq_KGJ ?_ | (refine ga0A ?_; intro _hq)))
  (refine aw_rd [0, 1] [] (fun i : Nat => [(5, vI i)]) (fun _ => []) (fun i => i ≤ l.length ∧ (l.drop i).all (gok n) = l.all (gok n)) (fun i => l.length - i) 0 (by rfl) (by rfl) ?_ (by rfl) zHE zHE ?_)
  · exact ⟨Nat.zero_le _, by rw [List.drop_zero]⟩
  rintro i ⟨hi, hz⟩
  rcases Nat.lt_or_ge i l.length with h6 | h6
  · have hd : decide ((i : Int) < (l.length : Int)) = true := by simpa using h6
    rw [all_drop h6] at hz
    have hK := k_gvS n (l.getD (i : Int).toNat Cel.no) hr
    replace hz : (gok n (l.getD (i : Int).toNat Cel.no) && (l.drop (i + 1)).all (gok n)) = l.all (gok n) := hz
    cases hb : gok n (l.getD (i : Int).toNat Cel.no) with
    | false =>
      rw [hb, Bool.false_and] at hz
      rw [hb] at hK
      rw [← hz, Bool.false_and]
      clear hz
      (repeat (first | refine gq_KGJ ?_ | (refine ga0A ?_; intro _hq)))
      (refine rtA ?_; try rfl)
    | true =>
      rw [hb, Bool.true_and] at hz
      rw [hb] at hK
      have hinv : i + 1 ≤ l.length ∧ (l.drop (i + 1)).all (gok n) = l.all (gok n) := ⟨h6, hz⟩
      clear hz
      (repeat (first | refine gq_KGJ ?_ | (refine ga0A ?_; intro _hq)))
      exact ⟨i + 1, hinv, ⟨by rfl, zHE, zHE⟩, (by first | omega | (dsimp only; omega))⟩
  · have hd : decide ((i : Int) < (l.length : Int)) = false := by simp; omega
    rw [List.drop_of_length_le h6, List.all_nil] at hz
    rw [← hz, Bool.true_and]
    clear hz
    cases hn : btw n 1 8
    all_goals
      (repeat (first | refine gq_KGJ ?_ | (refine ga0A ?_; intro _hq)))
      (refine rtA ?_; try rfl)
theorem cr_drop {l : List Gt} {i : Nat} {w : Int} (hi : i < l.length) : cr (l.drop i) w = cr (l.drop (i + 1)) (gr (l.getD i Cel.no) w) := by
  have e : l.getD i Cel.no = l[i] := by simp [List.getD_eq_getElem?_getD, hi]
  rw [List.drop_eq_getElem_cons hi, e, cr_cons]
theorem all_at {p : Gt → Bool} {l : List Gt} (h : l.all p = true) {i : Nat} (hi : i < l.length) : p (l.getD i Cel.no) = true := by
  have e : l.getD i Cel.no = l[i] := by simp [List.getD_eq_getElem?_getD, hi]
  rw [e]; exact List.all_eq_true.1 h _ (List.getElem_mem hi)
theorem k_runAll (n : Int) (l : List Gt) (w : Int) (h : l.all (gok n) = true) (hl : l.length ≤ 100000000) (hw : wvB n w = true) : Kon Try.prog 44 [roA l, vI w] [] (vI (cr l w)) [] [] := by
  have hv := wvB_t hw
  (refine kM Try.func44 rfl ?_; intro hfit hfe)
  (repeat (first | refine gq_KGJ ?_ | (refine ga0A ?_; intro _hq)))
  (refine aw_rd [7, 8] [] (fun g : Nat × Int => [(9, vI g.1), (1, vI g.2)]) (fun _ => []) (fun g => g.1 ≤ l.length ∧ (0 ≤ g.2 ∧ g.2 < 2 ^ n.toNat) ∧ cr (l.drop g.1) g.2 = cr l w) (fun g => l.length - g.1) (0, w) (by rfl) (by rfl) ?_ (by rfl) zHE zHE ?_)
  · exact ⟨Nat.zero_le _, ⟨hv.2.1, hv.2.2.1⟩, by rw [List.drop_zero]⟩
  rintro ⟨i, v⟩ ⟨hi, hv2, hz⟩
  dsimp only at hi hv2 hz ⊢
  have h8 := pow_8 hv.1
  rcases Nat.lt_or_ge i l.length with h6 | h6
  · have hd : decide ((i : Int) < (l.length : Int)) = true := by simpa using h6
    rw [cr_drop h6] at hz
    have hg := all_at h h6
    have hK : Kon Try.prog 50 [gV (l.getD (i : Int).toNat Cel.no), vI v] [] (vI (gr (l.getD i Cel.no) v)) [] [] := k_run n (l.getD i Cel.no) v hg (by omega)
    have hinv : i + 1 ≤ l.length ∧ (0 ≤ gr (l.getD i Cel.no) v ∧ gr (l.getD i Cel.no) v < 2 ^ n.toNat) ∧ cr (l.drop (i + 1)) (gr (l.getD i Cel.no) v) = cr l w := ⟨h6, gr_lt hg hv2, hz⟩
    clear hz
    (repeat (first | refine gq_KGJ ?_ | (refine ga0A ?_; intro _hq)))
    exact ⟨(i + 1, gr (l.getD i Cel.no) v), hinv, ⟨by rfl, zHE, zHE⟩, (by first | omega | (dsimp only; omega))⟩
  · have hd : decide ((i : Int) < (l.length : Int)) = false := by simp; omega
    rw [List.drop_of_length_le h6] at hz
    rw [← hz]
    clear hz
    (repeat (first | refine gq_KGJ ?_ | (refine ga0A ?_; intro _hq)))
    (refine rtA ?_; try rfl)
theorem k_l2Run (n : Int) (l : List Gt) (w : Int) (h : l.all (gok n) = true) (hl : l.length ≤ 100000000) (hw : wvB n w = true) : Kon Try.prog 31 [vI n, roA l, vI w] [] (vI (cr l w)) [] [] := by
  have hv := wvB_t hw
  (refine kM Try.func31 rfl ?_; intro hfit hfe)
  (repeat (first | refine gq_KGJ ?_ | (refine ga0A ?_; intro _hq)))
  (refine aw_rd [0, 1] [] (fun g : Nat × Int => [(7, vI g.1), (2, vI g.2)]) (fun _ => []) (fun g => g.1 ≤ l.length ∧ (0 ≤ g.2 ∧ g.2 < 2 ^ n.toNat) ∧ cr (l.drop g.1) g.2 = cr l w) (fun g => l.length - g.1) (0, w) (by rfl) (by rfl) ?_ (by rfl) zHE zHE ?_)
  · exact ⟨Nat.zero_le _, ⟨hv.2.1, hv.2.2.1⟩, by rw [List.drop_zero]⟩
  rintro ⟨i, v⟩ ⟨hi, hv2, hz⟩
  dsimp only at hi hv2 hz ⊢
  rcases Nat.lt_or_ge i l.length with h6 | h6
  · have hd : decide ((i : Int) < (l.length : Int)) = true := by simpa using h6
    rw [cr_drop h6] at hz
    have hg := all_at h h6
    have hwv : wvB n v = true := by
      unfold wvB btw
      rw [decide_eq_true hv.1.1, decide_eq_true hv.1.2, decide_eq_true hv2.1, decide_eq_true (by omega)]; rfl
    have hK : Kon Try.prog 45 [vI n, gV (l.getD (i : Int).toNat Cel.no), vI v] [] (vI (gr (l.getD i Cel.no) v)) [] [] := k_grS1 n (l.getD i Cel.no) v hg hwv
    have hinv : i + 1 ≤ l.length ∧ (0 ≤ gr (l.getD i Cel.no) v ∧ gr (l.getD i Cel.no) v < 2 ^ n.toNat) ∧ cr (l.drop (i + 1)) (gr (l.getD i Cel.no) v) = cr l w := ⟨h6, gr_lt hg hv2, hz⟩
    clear hz
    (repeat (first | refine gq_KGJ ?_ | (refine ga0A ?_; intro _hq)))
    exact ⟨(i + 1, gr (l.getD i Cel.no) v), hinv, ⟨by rfl, zHE, zHE⟩, (by first | omega | (dsimp only; omega))⟩
  · have hd : decide ((i : Int) < (l.length : Int)) = false := by simp; omega
    rw [List.drop_of_length_le h6] at hz
    rw [← hz]
    clear hz
    (repeat (first | refine gq_KGJ ?_ | (refine ga0A ?_; intro _hq)))
    (refine rtA ?_; try rfl)
theorem cokB_t {n : Int} {l : List Gt} (h : cokB n l = true) : (1 ≤ n ∧ n ≤ 8) ∧ l.length ≤ 24 ∧ l.all (gok n) = true := by
  unfold cokB at h
  simp only [Bool.and_eq_true, decide_eq_true_eq] at h
  exact ⟨btw_t h.1, by omega, h.2.2⟩
end Go.Proofs.Ytalociocjjinlaa
namespace Go.Proofs.Ytalociocjjinlaa
set_option linter.unusedVariables false
set_option linter.unusedSimpArgs false
set_option maxRecDepth 20000
open Go.RowKit
def chk4 (ti : TypeId) : List Field → Bool
  | [f, f', f'', f3] => (f.name != "_") && (f.type == ti) && (f.offset == 0) && ((f'.name != "_") && (f'.type == ti) && (f'.offset == 1)) && ((f''.name != "_") && (f''.type == ti) && (f''.offset == 2)) && ((f3.name != "_") && (f3.type == ti) && (f3.offset == 3))
  | _ => false
theorem equal_gate (k a b c k' a' b' c' : Int) (w : World) : (Op.equalIn 10000 33 (.agg #[.int .i64 k, .int .i64 a, .int .i64 b, .int .i64 c]) (.agg #[.int .i64 k', .int .i64 a', .int .i64 b', .int .i64 c'])).run Try.prog w = .ok (k == k' && (a == a' && (b == b' && c == c'))) w := by
  rw [run_equalIn_agg (ht := by kernel_rfl) (hp := by kernel_rfl)]
  have hc : chk4 3 (Try.prog.fieldsOf 33).toList = true := by kernel_rfl
  have hi : Try.prog.underlying 3 = some (.int .i64) := by kernel_rfl
  have hz : ∀ (xs : Array Value) (k : Nat) (v : Value) (w : World), xs[k]? = some v → (part 3 xs k).run Try.prog w = .ok v w := fun xs k v w h => run_part_plain w (by kernel_rfl) h
  have z0 := fun w => hz #[.int .i64 k, .int .i64 a, .int .i64 b, .int .i64 c] 0 _ w rfl
  have y0 := fun w => hz #[.int .i64 k', .int .i64 a', .int .i64 b', .int .i64 c'] 0 _ w rfl
  have z1 := fun w => hz #[.int .i64 k, .int .i64 a, .int .i64 b, .int .i64 c] 1 _ w rfl
  have y1 := fun w => hz #[.int .i64 k', .int .i64 a', .int .i64 b', .int .i64 c'] 1 _ w rfl
  have z2 := fun w => hz #[.int .i64 k, .int .i64 a, .int .i64 b, .int .i64 c] 2 _ w rfl
  have y2 := fun w => hz #[.int .i64 k', .int .i64 a', .int .i64 b', .int .i64 c'] 2 _ w rfl
  have z3 := fun w => hz #[.int .i64 k, .int .i64 a, .int .i64 b, .int .i64 c] 3 _ w rfl
  have y3 := fun w => hz #[.int .i64 k', .int .i64 a', .int .i64 b', .int .i64 c'] 3 _ w rfl
  have e : ∀ (x y : Int) w, (Op.equalIn 9999 3 (.int .i64 x) (.int .i64 y)).run Try.prog w = .ok (x == y) w := fun x y w => run_equalIn_int (P := Try.prog) w 9998 3 .i64 .i64 x y hi
  clear hz
  generalize (Try.prog.fieldsOf 33).toList = fs at hc ⊢
  unfold chk4 at hc
  split at hc
  · rename_i f f' f'' f3
    simp only [Bool.and_eq_true, bne_iff_ne, beq_iff_eq] at hc
    obtain ⟨⟨⟨⟨⟨h1, h2⟩, h3⟩, ⟨⟨h4, h5⟩, h6⟩⟩, ⟨⟨h7, h8⟩, h9⟩⟩, ⟨⟨g1, g2⟩, g3⟩⟩ := hc
    simp only [Op.eqFields, h1, h2, h3, h4, h5, h6, h7, h8, h9, g1, g2, g3, if_true, ne_eq, not_false_eq_true, Sem.run_bind, z0, y0, Result.andThen_ok]
    erw [e k k' w]
    cases (k == k')
    · rfl
    simp only [Result.andThen_ok, Bool.not_true, Bool.false_eq_true, if_false, Sem.run_bind, z1, y1]
    erw [e a a' w]
    cases (a == a')
    · rfl
    simp only [Result.andThen_ok, Bool.not_true, Bool.false_eq_true, if_false, Sem.run_bind, z2, y2]
    erw [e b b' w]
    cases (b == b')
    · rfl
    simp only [Result.andThen_ok, Bool.not_true, Bool.false_eq_true, if_false, Sem.run_bind, z3, y3]
    erw [e c c' w]
    cases (c == c') <;> rfl
  · cases hc
theorem eq_gate (x y : Operand) (k a b c k' a' b' c' : Int) (w : World) : (do eqGuard .eql 33 x y (.agg #[.int .i64 k, .int .i64 a, .int .i64 b, .int .i64 c]) (.agg #[.int .i64 k', .int .i64 a', .int .i64 b', .int .i64 c']); binOp .eql 33 (.agg #[.int .i64 k, .int .i64 a, .int .i64 b, .int .i64 c]) (.agg #[.int .i64 k', .int .i64 a', .int .i64 b', .int .i64 c']) : Sem Value).run Try.prog w = .ok (.bool (k == k' && (a == a' && (b == b' && c == c')))) w := by
  rw [Sem.run_bind, run_eqGuard_agg (hm := by kernel_rfl)]
  simp only [Result.andThen_ok]
  rw [run_eql_struct, equal_gate]; rfl
theorem neq_gate (x y : Operand) (k a b c k' a' b' c' : Int) (w : World) : (do eqGuard .neq 33 x y (.agg #[.int .i64 k, .int .i64 a, .int .i64 b, .int .i64 c]) (.agg #[.int .i64 k', .int .i64 a', .int .i64 b', .int .i64 c']); binOp .neq 33 (.agg #[.int .i64 k, .int .i64 a, .int .i64 b, .int .i64 c]) (.agg #[.int .i64 k', .int .i64 a', .int .i64 b', .int .i64 c']) : Sem Value).run Try.prog w = .ok (.bool (!(k == k' && (a == a' && (b == b' && c == c'))))) w := by
  rw [Sem.run_bind, run_eqGuard_agg (hm := by kernel_rfl)]
  simp only [Result.andThen_ok]
  rw [run_neq_struct, equal_gate]; rfl
end Go.Proofs.Ytalociocjjinlaa
namespace Go.Proofs.Ytalociocjjinlaa
set_option linter.unusedVariables false
set_option linter.unusedSimpArgs false
set_option maxRecDepth 20000
open Go.RowKit
attribute [local irreducible] runA runX AW
theorem gq_KGR {H G : Prop} (k : H) (h : Hid H → G := by (intro hh; repeat1' (first | (first | (refine nxA ?_; (first | fail | ((first | (refine z_op (by rfl) ?_; first | refine z_ok ?_ ?_ | refine z_ex ?_ (by first | exact zL1 | ((first | (first | refine mk_0 Int rfl rfl ?_ | refine mk_0 Gt rfl rfl ?_)); exact zWW) | exact zL2 | exact rw_c Int rfl | exact zL3 | (first | exact pu_of (fun w => neq_gate _ _ _ _ _ _ _ _ _ _ w) rfl | exact pu_of (fun w => eq_gate _ _ _ _ _ _ _ _ _ _ w) rfl)) ?_) | ((first | refine q_callE wsT wsZ (by rfl) ?_ | refine q_callVE wsT (by rfl) (by rfl) ?_); refine ⟨_, _, _, (by first | assumption | exact k_gv _ _ | exact k_cv _ _ (by omega)), _, by rfl, ?_, ?_⟩)); focus (first | exact trivial | fail | exact zQZ)) | fail)) | refine swA ?_) | refine awA ?_); exact hh.out)) : G := h ⟨k⟩
def geq (g h : Gt) : Bool := g.k == h.k && (g.a == h.a && (g.b == h.b && g.c == h.c))
theorem k_keeps (n : Int) (g : Gt) : Kon Try.prog 9 [vI n, gV g] [] (vB (gok n g && (g.k == 3 || g.k == 4))) [] [] := by
  cases h1 : gok n g with
  | false =>
    (refine kM Try.func9 rfl ?_; intro hfit hfe)
    (repeat (first | refine gq_KGR ?_ | (refine ga0A ?_; intro _hq)))
    (refine rtA ?_; try rfl)
  | true =>
    cases h2 : (g.k == 3) with
    | true =>
      (refine kM Try.func9 rfl ?_; intro hfit hfe)
      (repeat (first | refine gq_KGR ?_ | (refine ga0A ?_; intro _hq)))
      (refine rtA ?_; try rfl)
    | false =>
      (refine kM Try.func9 rfl ?_; intro hfit hfe)
      (repeat (first | refine gq_KGR ?_ | (refine ga0A ?_; intro _hq)))
      (refine rtA ?_; try rfl)
def tabN (l : List Gt) : Nat → List Int
  | 0 => []
  | i + 1 => tabN l i ++ [cr l (i : Int)]
theorem tabN_len (l : List Gt) : ∀ i, (tabN l i).length = i
  | 0 => rfl
  | i + 1 => by rw [tabN, List.length_append, tabN_len l i]; rfl
theorem tabN_get (l : List Gt) : ∀ (m i : Nat), i < m → (tabN l m).getD i 0 = cr l (i : Int)
  | m + 1, i, h => by
    rw [tabN, List.getD_eq_getElem?_getD]
    rcases Nat.lt_or_ge i m with h1 | h1
    · rw [List.getElem?_append_left (by rw [tabN_len]; exact h1), ← List.getD_eq_getElem?_getD, tabN_get l m i h1]
    · have : i = m := by omega
      subst this
      rw [List.getElem?_append_right (by rw [tabN_len]; exact Nat.le_refl _), tabN_len, Nat.sub_self]; rfl
theorem wv_of {n w : Int} (h1 : 1 ≤ n ∧ n ≤ 8) (h2 : 0 ≤ w ∧ w < 2 ^ n.toNat) : wvB n w = true := by
  unfold wvB btw
  rw [decide_eq_true h1.1, decide_eq_true h1.2, decide_eq_true h2.1, decide_eq_true (by omega)]; rfl
set_option maxHeartbeats 1000000 in
theorem k_tab (n : Int) (l : List Gt) (h : cokB n l = true) (N : Nat) (hN : (1 * 2 ^ n.toNat : Int) = (N : Int)) : Kon Try.prog 27 [vI n, roA l] [] (slA 0 0 (tabN l N)) [iRow (tabN l N)] [] := by
  obtain ⟨hn, hl, ha⟩ := cokB_t h
  have h8 := pow_8 hn
  have hN2 : (2 : Int) ^ n.toNat = (N : Int) := by rw [← hN, Int.one_mul]
  (refine kM Try.func27 rfl ?_; intro hfit hfe)
  (repeat (first | refine gq_KGR ?_ | (refine ga0A ?_; intro _hq)))
  rw [hN]
  (refine aw_rd [1, 11] [] (fun i : Nat => [(5, .g (.one (.sl 144 i i))), (12, vI i)]) (fun i => [(144, (i, iRow (tabN l i)))]) (fun i => i ≤ N) (fun i => N - i) 0 (by rfl) (by rfl) ?_ (by rfl) zHE zHE ?_)
  · exact Nat.zero_le _
  rintro i hi
  have hil := tabN_len l i
  rcases Nat.lt_or_ge i N with h5 | h5
  · have hd : decide ((i : Int) < (N : Int)) = true := decide_eq_true (by omega)
    have hR := k_runAll n l (i : Int) ha (by omega) (wv_of hn (by omega))
    (repeat (first | refine gq_KGR ?_ | (refine ga0A ?_; intro _hq)))
    exact ⟨i + 1, h5, ⟨by rfl, ⟨Eq.trans (b := some (.g (.one (.sl 144 (i + 1) (tabN l (i + 1)).length)))) (by rfl) (by rw [tabN_len]), zHE⟩, zHE⟩, (by first | omega | (dsimp only; omega))⟩
  · obtain rfl : i = N := by omega
    have hd : decide ((i : Int) < (i : Int)) = false := decide_eq_false (by omega)
    (repeat (first | refine gq_KGR ?_ | (refine ga0A ?_; intro _hq)))
    (refine rtA ?_; try rfl)
    exact congrArg (fun m => AV.g (.one (.sl 0 0 m))) hil.symm
end Go.Proofs.Ytalociocjjinlaa
namespace Go.Proofs.Ytalociocjjinlaa
set_option linter.unusedVariables false
set_option linter.unusedSimpArgs false
theorem pow_N {n : Int} {N : Nat} (hN : (2 ^ n.toNat : Int) = (N : Int)) : 2 ^ n.toNat = N := by
  have : ((2 ^ n.toNat : Nat) : Int) = (N : Int) := by rw [Int.natCast_pow]; exact hN
  exact Int.ofNat.inj this
theorem tab_valid {n : Int} {c : List Gt} {N : Nat} (h : cokB n c = true) (hN : (2 ^ n.toNat : Int) = (N : Int)) : tvB n (tabN c N) = true := by
  have hb := cokB_t h
  have hpn := pow_N hN
  have hl := tabN_len c N
  have hT := crN_tp hb.2.2
  rw [hpn] at hT
  have hbt : btw n 1 8 = true := by unfold btw; rw [decide_eq_true hb.1.1, decide_eq_true hb.1.2]; rfl
  have hg : ∀ i, i < N → (tabN c N).getD i 0 = ((crN c i : Nat) : Int) := fun i hi => by
    rw [tabN_get c N i hi]; exact ((crN_lt hb.2.2 (by rw [hpn]; exact hi)).2).symm
  unfold tvB
  rw [hbt, hl, Bool.true_and, beq_iff_eq.2 hN.symm, Bool.true_and]
  refine tvL_of (by rw [List.length_replicate]) (fun i hi => ?_) (fun i j hij hj => ?_)
  · rw [hl] at hi
    rw [hg i hi]
    have := hT.bd i hi
    refine ⟨by omega, ?_⟩
    rw [Int.toNat_natCast]
    simp [List.getD_eq_getElem?_getD, this]
  · rw [hl] at hj
    rw [hg i (by omega), hg j hj]
    intro e
    have := hT.inj i j (by omega) hj (Int.ofNat.inj e)
    omega
end Go.Proofs.Ytalociocjjinlaa
namespace Go.Proofs.Ytalociocjjinlaa
set_option linter.unusedVariables false
set_option linter.unusedSimpArgs false
set_option maxRecDepth 20000
open Go.RowKit
def pc8 (w : Nat) : Nat := w % 2 + w / 2 % 2 + w / 4 % 2 + w / 8 % 2 + w / 16 % 2 + w / 32 % 2 + w / 64 % 2 + w / 128 % 2
theorem oc1 : ∀ n : Fin 256, IntKind.u64.wrap (bits BinOp.and IntKind.u64 ((n.val : Int) / 2) 6148914691236517205 + bits BinOp.and IntKind.u64 (n.val : Int) 6148914691236517205) = (((n.val / 2 &&& 85) + (n.val &&& 85) : Nat) : Int) := by decide +kernel
theorem oc2 : ∀ n : Fin 256, IntKind.u64.wrap (bits BinOp.and IntKind.u64 ((n.val : Int) / 4) 3689348814741910323 + bits BinOp.and IntKind.u64 (n.val : Int) 3689348814741910323) = (((n.val / 4 &&& 51) + (n.val &&& 51) : Nat) : Int) := by decide +kernel
theorem oc3 : ∀ n : Fin 256, bits BinOp.and IntKind.u64 (IntKind.u64.wrap ((n.val : Int) / 16 + (n.val : Int))) 1085102592571150095 = ((((n.val / 16 + n.val) &&& 3855) : Nat) : Int) := by decide +kernel
theorem oc4 : ∀ n : Fin 9, IntKind.u64.wrap ((n.val : Int) + (n.val : Int) / 256) = (n.val : Int) ∧ IntKind.u64.wrap ((n.val : Int) + (n.val : Int) / 65536) = (n.val : Int) ∧ IntKind.u64.wrap ((n.val : Int) + (n.val : Int) / 4294967296) = (n.val : Int) ∧ bits BinOp.and IntKind.i64 (wrap64 (n.val : Int)) 127 = (n.val : Int) := by decide +kernel
def og1 (n : Nat) : Nat := (n / 2 &&& 85) + (n &&& 85)
def og2 (n : Nat) : Nat := (n / 4 &&& 51) + (n &&& 51)
def og3 (n : Nat) : Nat := (n / 16 + n) &&& 3855
theorem ocN : ∀ n : Fin 256, og1 n.val < 256 ∧ og2 (og1 n.val) < 256 ∧ og3 (og2 (og1 n.val)) = pc8 n.val ∧ pc8 n.val < 9 := by decide +kernel
theorem oc64_calls (x : Int) (w : World) (h0 : 0 ≤ x) (h1 : x ≤ 255) : Calls Try.prog 47 #[.int .u64 x] w fun e w' => e = .returned (.int .i64 (pc8 x.toNat)) ∧ w' = w := by
  obtain ⟨n, rfl⟩ : ∃ n : Nat, x = (n : Int) := ⟨x.toNat, by omega⟩
  obtain ⟨p1, p2, p3, p4⟩ : og1 n < 256 ∧ og2 (og1 n) < 256 ∧ og3 (og2 (og1 n)) = pc8 n ∧ pc8 n < 9 := ocN ⟨n, by omega⟩
  go_enter Try.func47, Try.ntmps47
  go_wp2
  go_ret
  refine ⟨?_, rfl⟩
  generalize q1 : IntKind.u64.wrap (bits BinOp.and IntKind.u64 ((n : Int) / 2) 6148914691236517205 + bits BinOp.and IntKind.u64 (n : Int) 6148914691236517205) = a
  generalize q2 : IntKind.u64.wrap (bits BinOp.and IntKind.u64 (a / 4) 3689348814741910323 + bits BinOp.and IntKind.u64 a 3689348814741910323) = b
  generalize q3 : bits BinOp.and IntKind.u64 (IntKind.u64.wrap (b / 16 + b)) 1085102592571150095 = c
  generalize q4 : IntKind.u64.wrap (c + c / 256) = d
  generalize q5 : IntKind.u64.wrap (d + d / 65536) = e
  generalize q6 : IntKind.u64.wrap (e + e / 4294967296) = f
  refine Eq.trans (b := Ending.returned (.int .i64 (bits BinOp.and IntKind.i64 (wrap64 f) 127))) rfl ?_
  refine congrArg (fun z => Ending.returned (Value.int IntKind.i64 z)) ?_
  obtain rfl : a = ((og1 n : Nat) : Int) := q1.symm.trans (oc1 ⟨n, by omega⟩)
  obtain rfl : b = ((og2 (og1 n) : Nat) : Int) := q2.symm.trans (oc2 ⟨og1 n, p1⟩)
  obtain rfl : c = ((og3 (og2 (og1 n)) : Nat) : Int) := q3.symm.trans (oc3 ⟨og2 (og1 n), p2⟩)
  rw [p3] at q4
  obtain ⟨p, hp⟩ : ∃ p, pc8 n = p := ⟨_, rfl⟩
  rw [hp] at p4 q4
  rw [Int.toNat_natCast, hp]
  obtain ⟨r1, r2, r3, r4⟩ := oc4 ⟨p, p4⟩
  obtain rfl : d = ((p : Nat) : Int) := q4.symm.trans r1
  obtain rfl : e = ((p : Nat) : Int) := q5.symm.trans r2
  obtain rfl : f = ((p : Nat) : Int) := q6.symm.trans r3
  exact r4
theorem oc_calls (x : Int) (w : World) (h0 : 0 ≤ x) (h1 : x ≤ 255) : Calls Try.prog 32 #[.int .u64 x] w fun e w' => e = .returned (.int .i64 (pc8 x.toNat)) ∧ w' = w := by
  go_enter Try.func32, Try.ntmps32
  go_wp2_with (go_at_call 47; refine (oc64_calls x _ h0 h1).mono ?_; rintro e w' ⟨rfl, rfl⟩)
  go_ret
  exact ⟨rfl, rfl⟩
end Go.Proofs.Ytalociocjjinlaa
namespace Go.Proofs.Ytalociocjjinlaa
set_option linter.unusedVariables false
set_option linter.unusedSimpArgs false
def wtI (n w : Int) : Int := if wvB n w = true then (pc8 w.toNat : Int) else -1
theorem pc_swap : ∀ w : Fin 256, ∀ i j : Fin 8, i ≠ j → (w.val.testBit i.val != w.val.testBit j.val) = true → pc8 (w.val ^^^ (2 ^ i.val ^^^ 2 ^ j.val)) = pc8 w.val := by decide +kernel
theorem pc_zero : ∀ w : Fin 256, pc8 w.val = 0 → w.val = 0 := by decide +kernel
theorem pc_full : ∀ n : Fin 9, ∀ w : Fin 256, w.val < 2 ^ n.val → pc8 w.val = pc8 (2 ^ n.val - 1) → w.val = 2 ^ n.val - 1 := by decide +kernel
theorem pc_gr {n w : Int} {g : Gt} (hg : gok n g = true) (hk : (g.k == 3 || g.k == 4) = true) (hw : 0 ≤ w ∧ w < 256) : pc8 (gr g w).toNat = pc8 w.toNat := by
  unfold gr
  rw [Int.toNat_natCast]
  split
  · rename_i hc
    obtain ⟨h8, hf⟩ := gok_facts hg
    rw [Bool.or_eq_true, beq_iff_eq, beq_iff_eq] at hk
    rcases hk with hk | hk
    · rw [gc3 hk] at hc
      rw [gm3 hk]
      exact pc_swap ⟨w.toNat, by omega⟩ ⟨g.a.toNat, by omega⟩ ⟨g.b.toNat, by omega⟩ (fun e => by have := congrArg Fin.val e; dsimp only at this; omega) hc
    · rw [gc4 hk, Bool.and_eq_true] at hc
      rw [gm4 hk]
      exact pc_swap ⟨w.toNat, by omega⟩ ⟨g.b.toNat, by omega⟩ ⟨g.c.toNat, by omega⟩ (fun e => by have := congrArg Fin.val e; dsimp only at this; omega) hc.2
  · rfl
theorem wvB_iff {n w : Int} : wvB n w = true ↔ (1 ≤ n ∧ n ≤ 8) ∧ (0 ≤ w ∧ w < 2 ^ n.toNat) := by
  unfold wvB btw
  simp only [Bool.and_eq_true, decide_eq_true_eq]
  omega
def kgt (n : Int) (g : Gt) : Bool := gok n g && (g.k == 3 || g.k == 4)
theorem pc_cr {n : Int} (h8 : 1 ≤ n ∧ n ≤ 8) : ∀ {c : List Gt}, c.all (kgt n) = true → ∀ {w : Int}, (0 ≤ w ∧ w < 2 ^ n.toNat) → (0 ≤ cr c w ∧ cr c w < 2 ^ n.toNat) ∧ pc8 (cr c w).toNat = pc8 w.toNat
  | [], _, w, hw => ⟨hw, rfl⟩
  | g :: c, h, w, hw => by
    rw [List.all_cons, Bool.and_eq_true] at h
    have hk := h.1
    unfold kgt at hk
    rw [Bool.and_eq_true] at hk
    have hlt := gr_lt hk.1 hw
    have h256 := (pow_8 h8).2
    obtain ⟨h1, h2⟩ := pc_cr h8 h.2 hlt
    rw [cr_cons]
    exact ⟨h1, by rw [h2]; exact pc_gr hk.1 hk.2 (by omega)⟩
theorem wt_cr {n : Int} (h8 : 1 ≤ n ∧ n ≤ 8) {c : List Gt} (h : c.all (kgt n) = true) {w : Int} (hw : 0 ≤ w ∧ w < 2 ^ n.toNat) : wtI n w = wtI n (cr c w) := by
  obtain ⟨h1, h2⟩ := pc_cr h8 h hw
  unfold wtI
  rw [if_pos (wvB_iff.2 ⟨h8, hw⟩), if_pos (wvB_iff.2 ⟨h8, h1⟩), h2]
def kpB (n : Int) (t : List Int) : Nat → Bool
  | 0 => true
  | k + 1 => kpB n t k && (wtI n (k : Int) == wtI n (t.getD k Cel.no))
theorem kpB_no {n : Int} {t : List Int} {k : Nat} (h : kpB n t k = false) : ∀ m, kpB n t (k + m) = false
  | 0 => h
  | m + 1 => by rw [show k + (m + 1) = (k + m) + 1 from rfl, kpB, kpB_no h m]; rfl
theorem kpB_at {n : Int} {t : List Int} : ∀ {k : Nat}, kpB n t k = true → ∀ i : Nat, i < k → wtI n (i : Int) = wtI n (t.getD i Cel.no)
  | k + 1, h, i, hi => by
    rw [kpB, Bool.and_eq_true, beq_iff_eq] at h
    rcases Nat.lt_or_ge i k with h1 | h1
    · exact kpB_at h.1 i h1
    · obtain rfl : i = k := by omega
      exact h.2
theorem kpB_mk {n : Int} {t : List Int} : ∀ {k : Nat}, (∀ i : Nat, i < k → wtI n (i : Int) = wtI n (t.getD i Cel.no)) → kpB n t k = true
  | 0, _ => rfl
  | k + 1, h => by
    rw [kpB, kpB_mk fun i hi => h i (by omega), h k (by omega)]
    simp
def tkB (n : Int) (t : List Int) : Bool := kpB n t t.length && tvB n t
theorem tk_circ {n : Int} {c : List Gt} {N : Nat} (hc : cokB n c = true) (hk : c.all (kgt n) = true) (hN : (2 ^ n.toNat : Int) = (N : Int)) : tkB n (tabN c N) = true := by
  have h8 := (cokB_t hc).1
  unfold tkB
  rw [tab_valid hc hN, Bool.and_true]
  refine kpB_mk fun i hi => ?_
  rw [tabN_len] at hi
  have e : (tabN c N).getD i Cel.no = cr c (i : Int) := tabN_get c N i hi
  rw [e]
  exact wt_cr h8 hk (by omega)
theorem tk_ends {n : Int} {t : List Int} (h : tkB n t = true) : 2 ≤ t.length ∧ t.getD 0 Cel.no = 0 ∧ t.getD (t.length - 1) Cel.no = (t.length : Int) - 1 := by
  unfold tkB at h
  rw [Bool.and_eq_true] at h
  obtain ⟨h1, h2⟩ := h
  unfold tvB at h2
  rw [Bool.and_eq_true, Bool.and_eq_true, beq_iff_eq] at h2
  obtain ⟨h3, h4, _⟩ := h2
  have h8 := btw_t h3
  have hp := pow_8 h8
  obtain ⟨m, hm⟩ : ∃ m : Nat, n = (m : Int) := ⟨n.toNat, by omega⟩
  have hm8 : 1 ≤ m ∧ m ≤ 8 := by omega
  have hpm : (2 : Int) ^ n.toNat = ((2 ^ m : Nat) : Int) := by rw [hm, Int.toNat_natCast, Int.natCast_pow]; rfl
  have hl : t.length = 2 ^ m := by rw [hpm] at h4; omega
  have h2m : 2 ≤ 2 ^ m := by
    have := Nat.pow_le_pow_right (n := 2) (by omega) hm8.1
    omega
  have h256 : 2 ^ m ≤ 256 := by
    have := Nat.pow_le_pow_right (n := 2) (by omega) hm8.2
    omega
  have key : ∀ i : Nat, i < t.length → (0 ≤ t.getD i Cel.no ∧ t.getD i Cel.no < (t.length : Int)) ∧ pc8 i = pc8 (t.getD i Cel.no).toNat := fun i hi => by
    have h5 := kpB_at h1 i hi
    unfold wtI at h5
    rw [if_pos (wvB_iff.2 ⟨h8, by omega, by omega⟩)] at h5
    split at h5
    · rename_i hv
      have hv2 := (wvB_iff.1 hv).2
      rw [Int.toNat_natCast] at h5
      exact ⟨by omega, by omega⟩
    · omega
  refine ⟨by omega, ?_, ?_⟩
  · obtain ⟨h6, h7⟩ := key 0 (by omega)
    have h9 := pc_zero ⟨(t.getD 0 Cel.no).toNat, by omega⟩ (by rw [← h7]; rfl)
    dsimp only at h9
    omega
  · obtain ⟨h6, h7⟩ := key (t.length - 1) (by omega)
    have h9 := pc_full ⟨m, by omega⟩ ⟨(t.getD (t.length - 1) Cel.no).toNat, by omega⟩ (by dsimp only; omega) (by dsimp only; rw [← h7, hl])
    dsimp only at h9
    omega
end Go.Proofs.Ytalociocjjinlaa
namespace Go.Proofs.Ytalociocjjinlaa
set_option linter.unusedVariables false
set_option linter.unusedSimpArgs false
set_option maxRecDepth 20000
open Go.RowKit
attribute [local irreducible] runA runX AW
theorem gq_KWT {H G : Prop} (k : H) (h : Hid H → G := by (intro hh; repeat1' (first | (first | (refine nxA ?_; (first | fail | ((first | (refine z_op (by rfl) ?_; first | refine z_ok ?_ ?_ | refine z_ex ?_ (by first | exact zL1 | ((first | fail); exact zWW) | exact zL2 | fail | exact zL3 | fail) ?_) | ((first | refine q_callE wsT wsZ (by rfl) ?_ | refine q_callVE wsT (by rfl) (by rfl) ?_); refine ⟨_, _, _, (by first | assumption | exact k_wvS2 _ _), _, by rfl, ?_, ?_⟩)); focus (first | exact trivial | fail | exact zQZ)) | fail)) | refine swA ?_) | refine awA ?_); exact hh.out)) : G := h ⟨k⟩
theorem k_oc (x : Int) (h : 0 ≤ x ∧ x ≤ 255) : Kon Try.prog 32 [.g (.one (.v (.int .u64 x)))] [] (vI ((pc8 x.toNat : Nat) : Int)) [] [] := by
  refine kon_pure (enters_of (c := Try.f32.body.get rfl) Try.func32 (Option.some_get _).symm rfl) rfl rfl ?_
  intro w ok vs hg hok hsz hargs
  obtain ⟨z, hz, hr⟩ := hargs 0 _ rfl
  have hv : vs = #[.int .u64 x] := by
    obtain ⟨xs⟩ := vs
    match xs, hsz with
    | [y], _ =>
      cases hz
      rw [show y = .int .u64 x from hr.1]
  subst hv
  refine (oc_calls x w h.1 h.2).mono ?_
  rintro en W' ⟨rfl, rfl⟩
  exact ⟨_, rfl, Below.refl _ _, fun β G ok' => ⟨rfl, rfl⟩⟩
theorem k_wtI (n w : Int) : Kon Try.prog 18 [vI n, vI w] [] (vI (wtI n w)) [] [] := by
  have hV := k_wv n w
  unfold wtI
  cases hb : wvB n w with
  | false =>
    rw [hb] at hV
    (refine kM Try.func18 rfl ?_; intro hfit hfe)
    (repeat (first | refine gq_KWT ?_ | (refine ga0A ?_; intro _hq)))
    (refine rtA ?_; try rfl)
  | true =>
    rw [hb] at hV
    obtain ⟨h8, hw⟩ := wvB_iff.1 hb
    have h256 := (pow_8 h8).2
    have ew : IntKind.u64.wrap w = w := by
      show w % 18446744073709551616 = w
      omega
    have hO : Kon Try.prog 32 [.g (.one (.v (.int .u64 (IntKind.u64.wrap w))))] [] (vI ((pc8 w.toNat : Nat) : Int)) [] [] := by
      rw [ew]; exact k_oc w (by omega)
    (refine kM Try.func18 rfl ?_; intro hfit hfe)
    (repeat (first | refine gq_KWT ?_ | (refine ga0A ?_; intro _hq)))
    (refine rtA ?_; try rfl)
def wtN (w : Int) : Nat → Nat
  | 0 => 0
  | k + 1 => wtN w k + (if bt w (k : Int) then 1 else 0)
theorem wtN_pc : ∀ n : Fin 9, ∀ w : Fin 256, w.val < 2 ^ n.val → wtN (w.val : Int) n.val = pc8 w.val := by decide +kernel
theorem k_wtS (n w : Int) : Kon Try.prog 21 [vI n, vI w] [] (vI (wtI n w)) [] [] := by
  have hV := k_wvS2 n w
  unfold wtI
  cases hb : wvB n w with
  | false =>
    rw [hb] at hV
    (refine kM Try.func21 rfl ?_; intro hfit hfe)
    (repeat (first | refine gq_KWT ?_ | (refine ga0A ?_; intro _hq)))
    (refine rtA ?_; try rfl)
  | true =>
    rw [hb] at hV
    obtain ⟨h8, hw⟩ := wvB_iff.1 hb
    have h256 := (pow_8 h8).2
    obtain ⟨m, rfl⟩ : ∃ m : Nat, n = (m : Int) := ⟨n.toNat, by omega⟩
    obtain ⟨v, rfl⟩ : ∃ v : Nat, w = (v : Int) := ⟨w.toNat, by omega⟩
    have hm8 : 1 ≤ m ∧ m ≤ 8 := by omega
    have hv2 : v < 2 ^ m := by
      have e : ((2 ^ m : Nat) : Int) = 2 ^ m := by simp
      have := hw.2
      rw [Int.toNat_natCast] at this
      omega
    have hfin : wtN (v : Int) m = pc8 v := wtN_pc ⟨m, by omega⟩ ⟨v, by omega⟩ hv2
    rw [if_pos rfl, Int.toNat_natCast, ← hfin]
    have hs : ∀ k, wtN (v : Int) (k + 1) = wtN (v : Int) k + (if bt (v : Int) (k : Int) then 1 else 0) := fun k => rfl
    have hle : ∀ k, wtN (v : Int) k ≤ k := by
      intro k
      induction k with
      | zero => exact Nat.le_refl _
      | succ k ih => rw [hs]; split <;> omega
    clear hfin hv2 hb
    (refine kM Try.func21 rfl ?_; intro hfit hfe)
    (repeat (first | refine gq_KWT ?_ | (refine ga0A ?_; intro _hq)))
    (refine aw_rd [0, 1] [] (fun k : Nat => [(5, vI ((wtN (v : Int) k : Nat) : Int)), (6, vI k)]) (fun _ => []) (fun k => k ≤ m) (fun k => m - k) 0 (by rfl) (by rfl) ?_ (by rfl) zHE zHE ?_)
    · exact Nat.zero_le _
    rintro k hk
    have hlk := hle k
    rcases Nat.lt_or_ge k m with h5 | h5
    · have hd : decide ((k : Int) < (m : Int)) = true := decide_eq_true (by omega)
      have hsk := hs k
      have hinv : k + 1 ≤ m := h5
      cases hbt : bt (v : Int) (k : Int) with
      | true =>
        rw [hbt, if_pos rfl] at hsk
        have e3 : ((wtN (v : Int) k : Nat) : Int) + 1 = ((wtN (v : Int) (k + 1) : Nat) : Int) := by omega
        have hB : Kon Try.prog 37 [vI (v : Int), vI (k : Int)] [] (vI 1) [] [] := by
          have := k_bitS (v : Int) (k : Int) (by omega)
          rw [hbt] at this; exact this
        clear hsk hbt hs hle
        (repeat (first | refine gq_KWT ?_ | (refine ga0A ?_; intro _hq)))
        exact ⟨k + 1, hinv, ⟨by rfl, ⟨vI_of (by rfl) e3, zHE⟩, zHE⟩, (by first | omega | (dsimp only; omega))⟩
      | false =>
        rw [hbt, if_neg (by decide)] at hsk
        have e3 : ((wtN (v : Int) k : Nat) : Int) + 0 = ((wtN (v : Int) (k + 1) : Nat) : Int) := by omega
        have hB : Kon Try.prog 37 [vI (v : Int), vI (k : Int)] [] (vI 0) [] [] := by
          have := k_bitS (v : Int) (k : Int) (by omega)
          rw [hbt] at this; exact this
        clear hsk hbt hs hle
        (repeat (first | refine gq_KWT ?_ | (refine ga0A ?_; intro _hq)))
        exact ⟨k + 1, hinv, ⟨by rfl, ⟨vI_of (by rfl) e3, zHE⟩, zHE⟩, (by first | omega | (dsimp only; omega))⟩
    · have hd : decide ((k : Int) < (m : Int)) = false := decide_eq_false (by omega)
      obtain rfl : k = m := by omega
      (repeat (first | refine gq_KWT ?_ | (refine ga0A ?_; intro _hq)))
      (refine rtA ?_; try rfl)
theorem gq_KTA {H G : Prop} (k : H) (h : Hid H → G := by (intro hh; repeat1' (first | (first | (refine nxA ?_; (first | fail | ((first | (refine z_op (by rfl) ?_; first | refine z_ok ?_ ?_ | refine z_ex ?_ (by first | exact zL1 | ((first | refine mk_c Bool rfl rfl rfl ?_); exact zWW) | exact zL2 | fail | exact zL3 | fail) ?_) | ((first | refine q_callE wsT wsZ (by rfl) ?_ | refine q_callVE wsT (by rfl) (by rfl) ?_); refine ⟨_, _, _, (by first | assumption | exact k_within _ _ _ | exact k_okL _), _, by rfl, ?_, ?_⟩)); focus (first | exact trivial | fail | exact zQZ)) | fail)) | refine swA ?_) | refine awA ?_); exact hh.out)) : G := h ⟨k⟩
abbrev bRow (l : List Bool) : Ent := rwE 4 l
set_option maxHeartbeats 4000000 in
theorem k_tvI (n : Int) (t : List Int) (h : t.length ≤ 1000) : Kon Try.prog 19 [vI n, roA t] [] (vB (tvB n t)) [] [] := by
  unfold tvB
  cases hn : btw n 1 8 with
  | false =>
    (refine kM Try.func19 rfl ?_; intro hfit hfe)
    (repeat (first | refine gq_KTA ?_ | (refine ga0A ?_; intro _hq)))
    (refine rtA ?_; try rfl)
  | true =>
  have hn' := btw_t hn
  have h8 := pow_8 hn'
  rw [Bool.true_and]
  cases hl : ((t.length : Int) == 2 ^ n.toNat) with
  | false =>
    have hl2 : ((t.length : Int) != 1 * 2 ^ n.toNat) = true := by rw [Int.one_mul, bne, hl]; rfl
    (refine kM Try.func19 rfl ?_; intro hfit hfe)
    (repeat (first | refine gq_KTA ?_ | (refine ga0A ?_; intro _hq)))
    (refine rtA ?_; try rfl)
  | true =>
  have hl2 : ((t.length : Int) != 1 * 2 ^ n.toNat) = false := by rw [Int.one_mul, bne, hl]; rfl
  rw [Bool.true_and]
  have hrl : (List.replicate (t.length : Int).toNat (Cel.no : Bool)).length = t.length := by rw [List.length_replicate]; omega
  have hpos : 0 < t.length := by rw [beq_iff_eq] at hl; omega
  (refine kM Try.func19 rfl ?_; intro hfit hfe)
  (repeat (first | refine gq_KTA ?_ | (refine ga0A ?_; intro _hq)))
  (refine aw_rd [0, 1, 5, 21, 22] [] (fun g : Nat × List Bool => [(23, vI g.1)]) (fun g => [(320, (0, bRow g.2))]) (fun g => g.1 ≤ t.length ∧ g.2.length = t.length ∧ tvL (t.length : Int) g.2 (t.drop g.1) = tvL (t.length : Int) (List.replicate t.length false) t) (fun g => t.length - g.1) (0, List.replicate (t.length : Int).toNat (Cel.no : Bool)) (by rfl) (by rfl) ?_ (by rfl) zHE zHE ?_)
  · exact ⟨Nat.zero_le _, hrl, rfl⟩
  rintro ⟨i, s⟩ ⟨hi, hs, hz⟩
  dsimp only at hi hs hz ⊢
  rcases Nat.lt_or_ge i t.length with h5 | h5
  · have hd : decide ((i : Int) < (t.length : Int)) = true := by simpa using h5
    obtain ⟨x, hx⟩ : ∃ x, t.getD (i : Int).toNat (Cel.no : Int) = x := ⟨_, rfl⟩
    have hx' : t.getD i 0 = x := hx
    rw [tvL_drop h5, hx'] at hz
    (repeat (first | refine gq_KTA ?_ | (refine ga0A ?_; intro _hq)))
    rw [hx]
    cases hb : btw x 0 ((t.length : Int) - 1) with
    | false =>
      rw [hb, Bool.false_and, Bool.false_and] at hz
      rw [← hz]
      clear hz
      (repeat (first | refine gq_KTA ?_ | (refine ga0A ?_; intro _hq)))
      (refine rtA ?_; try rfl)
    | true =>
      have hb' := btw_t hb
      rw [hb, Bool.true_and] at hz
      cases hv : s.getD x.toNat false with
      | true =>
        rw [hv, Bool.not_true, Bool.false_and] at hz
        rw [← hz]
        clear hz
        replace hv : s.getD x.toNat Cel.no = true := hv
        (repeat (first | refine gq_KTA ?_ | (refine ga0A ?_; intro _hq)))
        (refine rtA ?_; try rfl)
      | false =>
        rw [hv, Bool.not_false, Bool.true_and] at hz
        replace hv : s.getD x.toNat Cel.no = false := hv
        have hinv : i + 1 ≤ t.length ∧ (s.set x.toNat true).length = t.length ∧ tvL (t.length : Int) (s.set x.toNat true) (t.drop (i + 1)) = tvL (t.length : Int) (List.replicate t.length false) t := ⟨h5, by rw [List.length_set]; exact hs, hz⟩
        clear hz
        (repeat (first | refine gq_KTA ?_ | (refine ga0A ?_; intro _hq)))
        exact ⟨(i + 1, s.set x.toNat true), hinv, ⟨by rfl, zHE, zHE⟩, (by first | omega | (dsimp only; omega))⟩
  · have hd : decide ((i : Int) < (t.length : Int)) = false := by simp; omega
    rw [List.drop_of_length_le h5, tvL] at hz
    rw [← hz]
    clear hz
    (repeat (first | refine gq_KTA ?_ | (refine ga0A ?_; intro _hq)))
    (refine rtA ?_; try rfl)
end Go.Proofs.Ytalociocjjinlaa
namespace Go.Proofs.Ytalociocjjinlaa
set_option linter.unusedVariables false
set_option linter.unusedSimpArgs false
section
variable {f : Nat → Nat} {N : Nat}
end
end Go.Proofs.Ytalociocjjinlaa
namespace Go.Proofs.Ytalociocjjinlaa
set_option linter.unusedVariables false
set_option linter.unusedSimpArgs false
set_option maxRecDepth 20000
open Go.RowKit
attribute [local irreducible] runA runX AW
theorem gq_KTC {H G : Prop} (k : H) (h : Hid H → G := by (intro hh; repeat1' (first | (first | (refine nxA ?_; (first | fail | ((first | (refine z_op (by rfl) ?_; first | refine z_ok ?_ ?_ | refine z_ex ?_ (by first | exact zL1 | ((first | fail); exact zWW) | exact zL2 | fail | exact zL3 | fail) ?_) | ((first | refine q_callE wsT wsZ (by rfl) ?_ | refine q_callVE wsT (by rfl) (by rfl) ?_); refine ⟨_, _, _, (by first | assumption | exact k_l1In _ _ _ | exact k_has _ _ (by omega)), _, by rfl, ?_, ?_⟩)); focus (first | exact trivial | fail | exact zQZ)) | fail)) | refine swA ?_) | refine awA ?_); exact hh.out)) : G := h ⟨k⟩
theorem take_j {l : List Int} {k : Nat} (h : k < l.length) : l.take (k + 1) = l.take k ++ [l.getD k 0] := by
  rw [List.take_succ_eq_append_getElem h]
  simp [List.getD_eq_getElem?_getD, h]
set_option maxHeartbeats 4000000 in
theorem k_tvS (n : Int) (t : List Int) (hr : -9223372036854775808 ≤ n ∧ n ≤ 9223372036854775807) (h : t.length ≤ 1000) : Kon Try.prog 20 [vI n, roA t] [] (vB (tvB n t)) [] [] := by
  unfold tvB
  cases hn : btw n 1 8 with
  | false =>
    (refine kM Try.func20 rfl ?_; intro hfit hfe)
    (repeat (first | refine gq_KTC ?_ | (refine ga0A ?_; intro _hq)))
    (refine rtA ?_; try rfl)
  | true =>
  have hn' := btw_t hn
  have h8 := pow_8 hn'
  rw [Bool.true_and]
  cases hl : ((t.length : Int) == 2 ^ n.toNat) with
  | false =>
    have hl2 : ((t.length : Int) != 1 * 2 ^ n.toNat) = true := by rw [Int.one_mul, bne, hl]; rfl
    (refine kM Try.func20 rfl ?_; intro hfit hfe)
    (repeat (first | refine gq_KTC ?_ | (refine ga0A ?_; intro _hq)))
    (refine rtA ?_; try rfl)
  | true =>
  have hl2 : ((t.length : Int) != 1 * 2 ^ n.toNat) = false := by rw [Int.one_mul, bne, hl]; rfl
  have hlN : (t.length : Int) = 2 ^ n.toNat := beq_iff_eq.1 hl
  rw [Bool.true_and]
  (refine kM Try.func20 rfl ?_; intro hfit hfe)
  (repeat (first | refine gq_KTC ?_ | (refine ga0A ?_; intro _hq)))
  (refine aw_rd [0, 1] [] (fun i : Nat => [(5, vI i)]) (fun _ => []) (fun i => i ≤ t.length ∧ (∀ x ∈ t.take i, 0 ≤ x ∧ x < (t.length : Int)) ∧ tvL (t.length : Int) (seenL (List.replicate t.length false) (t.take i)) (t.drop i) = tvL (t.length : Int) (List.replicate t.length false) t) (fun i => t.length - i) 0 (by rfl) (by rfl) ?_ (by rfl) zHE zHE ?_)
  · exact ⟨Nat.zero_le _, by simp, rfl⟩
  rintro i ⟨hi, hp, hz⟩
  rcases Nat.lt_or_ge i t.length with h5 | h5
  · have hd : decide ((i : Int) < (t.length : Int)) = true := by simpa using h5
    have hlt : (t.take i).length ≤ 1000 := by rw [List.length_take]; omega
    have hH := k_has (t.take i) (t.getD (i : Int).toNat Cel.no) (by omega)
    have hW := k_wvS2 n (t.getD (i : Int).toNat Cel.no)
    have hti := take_j h5
    rw [tvL_drop h5] at hz
    have hwv : wvB n (t.getD (i : Int).toNat Cel.no) = btw (t.getD i 0) 0 ((t.length : Int) - 1) := by
      unfold wvB; rw [hn, Bool.true_and, hlN]; rfl
    rw [hwv] at hW
    cases hb : btw (t.getD i 0) 0 ((t.length : Int) - 1) with
    | false =>
      rw [hb] at hW
      rw [hb, Bool.false_and, Bool.false_and] at hz
      rw [← hz]
      clear hz hp hti
      (repeat (first | refine gq_KTC ?_ | (refine ga0A ?_; intro _hq)))
      (refine aw_draw mixed T0ok cfU_ok [] (by rfl) (by kernel_rfl) ?_)
      (repeat (first | refine gq_KTC ?_ | (refine ga0A ?_; intro _hq)))
      (refine rtA ?_; try rfl)
    | true =>
      rw [hb] at hW
      have hb' := btw_t hb
      rw [hb, Bool.true_and] at hz
      have hsn := seenL_at (t.take i) (List.replicate t.length false) (t.getD i 0) (by rw [List.length_replicate]; exact hp) hb'.1
      have hr0 : (List.replicate t.length false).getD (t.getD i 0).toNat false = false := by
        rw [List.getD_eq_getElem?_getD]
        cases hq : (List.replicate t.length false)[(t.getD i 0).toNat]? with
        | none => rfl
        | some v => have := List.eq_of_mem_replicate (List.mem_of_getElem? hq); rw [this]; rfl
      rw [hr0, Bool.false_or] at hsn
      have hhas : hasB (t.take i) (t.getD (i : Int).toNat Cel.no) = (t.take i).any (· == t.getD i 0) := rfl
      cases hv : (t.take i).any (· == t.getD i 0) with
      | true =>
        rw [hsn, hv, Bool.not_true, Bool.false_and] at hz
        rw [hhas, hv] at hH
        rw [← hz]
        clear hz hp hti hsn
        (repeat (first | refine gq_KTC ?_ | (refine ga0A ?_; intro _hq)))
        (refine aw_draw mixed T0ok cfU_ok [] (by rfl) (by kernel_rfl) ?_)
        (repeat (first | refine gq_KTC ?_ | (refine ga0A ?_; intro _hq)))
        (refine rtA ?_; try rfl)
      | false =>
        rw [hsn, hv, Bool.not_false, Bool.true_and, ← seenL_snoc, ← hti] at hz
        rw [hhas, hv] at hH
        have hp2 : ∀ x ∈ t.take (i + 1), 0 ≤ x ∧ x < (t.length : Int) := by
          intro x hx
          rw [hti] at hx
          rcases List.mem_append.1 hx with hx | hx
          · exact hp x hx
          · rw [List.mem_singleton] at hx; subst hx; omega
        have hinv : i + 1 ≤ t.length ∧ (∀ x ∈ t.take (i + 1), 0 ≤ x ∧ x < (t.length : Int)) ∧ tvL (t.length : Int) (seenL (List.replicate t.length false) (t.take (i + 1))) (t.drop (i + 1)) = tvL (t.length : Int) (List.replicate t.length false) t := ⟨h5, hp2, hz⟩
        clear hz hp hti hsn hp2
        (repeat (first | refine gq_KTC ?_ | (refine ga0A ?_; intro _hq)))
        (refine aw_draw mixed T0ok cfU_ok [] (by rfl) (by kernel_rfl) ?_)
        (repeat (first | refine gq_KTC ?_ | (refine ga0A ?_; intro _hq)))
        exact ⟨i + 1, hinv, ⟨by rfl, zHE, zHE⟩, (by first | omega | (dsimp only; omega))⟩
  · have hd : decide ((i : Int) < (t.length : Int)) = false := by simp; omega
    rw [List.drop_of_length_le h5, tvL] at hz
    rw [← hz]
    clear hz hp
    (repeat (first | refine gq_KTC ?_ | (refine ga0A ?_; intro _hq)))
    (refine rtA ?_; try rfl)
theorem gq_KTK {H G : Prop} (k : H) (h : Hid H → G := by (intro hh; repeat1' (first | (first | (refine nxA ?_; (first | fail | ((first | (refine z_op (by rfl) ?_; first | refine z_ok ?_ ?_ | refine z_ex ?_ (by first | exact zL1 | ((first | fail); exact zWW) | exact zL2 | fail | exact zL3 | fail) ?_) | ((first | refine q_callE wsT wsZ (by rfl) ?_ | refine q_callVE wsT (by rfl) (by rfl) ?_); refine ⟨_, _, _, (by first | assumption | exact k_wtI _ _ | exact k_wtS _ _), _, by rfl, ?_, ?_⟩)); focus (first | exact trivial | fail | exact zQZ)) | fail)) | refine swA ?_) | refine awA ?_); exact hh.out)) : G := h ⟨k⟩
theorem tk_no {n : Int} {t : List Int} {k : Nat} (hk : k < t.length) (hkp : kpB n t k = true) (hc : (wtI n (k : Int) == wtI n (t.getD k Cel.no)) = false) : tkB n t = false := by
  have hs : kpB n t (k + 1) = false := by
    show (kpB n t k && (wtI n (k : Int) == wtI n (t.getD k Cel.no))) = false
    rw [hkp, Bool.true_and]; exact hc
  have := kpB_no hs (t.length - (k + 1))
  rw [show k + 1 + (t.length - (k + 1)) = t.length by omega] at this
  unfold tkB
  rw [this]; rfl
theorem kp_next {n : Int} {t : List Int} {k : Nat} (hkp : kpB n t k = true) (hc : (wtI n (k : Int) == wtI n (t.getD k Cel.no)) = true) : kpB n t (k + 1) = true := by
  show (kpB n t k && (wtI n (k : Int) == wtI n (t.getD k Cel.no))) = true
  rw [hkp, Bool.true_and]; exact hc
theorem k_tkI (n : Int) (t : List Int) (h : t.length ≤ 1000) : Kon Try.prog 5 [vI n, roA t] [] (vB (tkB n t)) [] [] := by
  have hV := k_tvI n t h
  (refine kM Try.func5 rfl ?_; intro hfit hfe)
  (repeat (first | refine gq_KTK ?_ | (refine ga0A ?_; intro _hq)))
  (refine aw_rd [0, 1, 7, 8] [] (fun k : Nat => [(9, vI k)]) (fun _ => []) (fun k => k ≤ t.length ∧ kpB n t k = true) (fun k => t.length - k) 0 (by rfl) (by rfl) ?_ (by rfl) zHE zHE ?_)
  · exact ⟨Nat.zero_le _, rfl⟩
  rintro k ⟨hk, hkp⟩
  rcases Nat.lt_or_ge k t.length with h5 | h5
  · have hd : decide ((k : Int) < (t.length : Int)) = true := decide_eq_true (by omega)
    cases hc : (wtI n (k : Int) == wtI n (t.getD (k : Int).toNat Cel.no)) with
    | true =>
      have hne : (wtI n (k : Int) != wtI n (t.getD (k : Int).toNat Cel.no)) = false := by rw [bne, hc]; rfl
      have hinv : k + 1 ≤ t.length ∧ kpB n t (k + 1) = true := ⟨h5, kp_next hkp hc⟩
      clear hc hkp
      (repeat (first | refine gq_KTK ?_ | (refine ga0A ?_; intro _hq)))
      exact ⟨k + 1, hinv, ⟨by rfl, zHE, zHE⟩, (by first | omega | (dsimp only; omega))⟩
    | false =>
      have hne : (wtI n (k : Int) != wtI n (t.getD (k : Int).toNat Cel.no)) = true := by rw [bne, hc]; rfl
      rw [tk_no h5 hkp hc]
      clear hc hkp
      (repeat (first | refine gq_KTK ?_ | (refine ga0A ?_; intro _hq)))
      (refine rtA ?_; try rfl)
  · have hd : decide ((k : Int) < (t.length : Int)) = false := decide_eq_false (by omega)
    obtain rfl : k = t.length := by omega
    have hz : tkB n t = tvB n t := by unfold tkB; rw [hkp]; rfl
    rw [hz]
    clear hkp hz
    (repeat (first | refine gq_KTK ?_ | (refine ga0A ?_; intro _hq)))
    (refine rtA ?_; try rfl)
theorem k_tkS (n : Int) (t : List Int) (hr : -9223372036854775808 ≤ n ∧ n ≤ 9223372036854775807) (h : t.length ≤ 1000) : Kon Try.prog 6 [vI n, roA t] [] (vB (tkB n t)) [] [] := by
  have hV := k_tvS n t hr h
  cases hv : tvB n t with
  | false =>
    have hz : tkB n t = false := by unfold tkB; rw [hv, Bool.and_false]
    rw [hz]
    rw [hv] at hV
    clear hz hv
    rcases Nat.eq_zero_or_pos t.length with h6 | h6
    · have hd : decide ((0 : Int) < (t.length : Int)) = false := decide_eq_false (by omega)
      (refine kM Try.func6 rfl ?_; intro hfit hfe)
      (repeat (first | refine gq_KTK ?_ | (refine ga0A ?_; intro _hq)))
      refine aw_unroll 1 ?_
      (repeat (first | refine gq_KTK ?_ | (refine ga0A ?_; intro _hq)))
      (refine rtA ?_; try rfl)
    · have hd : decide ((0 : Int) < (t.length : Int)) = true := decide_eq_true (by omega)
      (refine kM Try.func6 rfl ?_; intro hfit hfe)
      (repeat (first | refine gq_KTK ?_ | (refine ga0A ?_; intro _hq)))
      refine aw_unroll 1 ?_
      (repeat (first | refine gq_KTK ?_ | (refine ga0A ?_; intro _hq)))
      (refine rtA ?_; try rfl)
  | true =>
  rw [hv] at hV
  (refine kM Try.func6 rfl ?_; intro hfit hfe)
  (repeat (first | refine gq_KTK ?_ | (refine ga0A ?_; intro _hq)))
  (refine aw_rd [0, 1] [] (fun k : Nat => [(5, vI k)]) (fun _ => []) (fun k => k ≤ t.length ∧ kpB n t k = true) (fun k => t.length - k) 0 (by rfl) (by rfl) ?_ (by rfl) zHE zHE ?_)
  · exact ⟨Nat.zero_le _, rfl⟩
  rintro k ⟨hk, hkp⟩
  rcases Nat.lt_or_ge k t.length with h5 | h5
  · have hd : decide ((k : Int) < (t.length : Int)) = true := decide_eq_true (by omega)
    cases hc : (wtI n (k : Int) == wtI n (t.getD (k : Int).toNat Cel.no)) with
    | true =>
      have hne : (wtI n (k : Int) != wtI n (t.getD (k : Int).toNat Cel.no)) = false := by rw [bne, hc]; rfl
      have hinv : k + 1 ≤ t.length ∧ kpB n t (k + 1) = true := ⟨h5, kp_next hkp hc⟩
      clear hc hkp
      (repeat (first | refine gq_KTK ?_ | (refine ga0A ?_; intro _hq)))
      (refine aw_draw mixed T0ok cfU_ok [] (by rfl) (by kernel_rfl) ?_)
      (repeat (first | refine gq_KTK ?_ | (refine ga0A ?_; intro _hq)))
      exact ⟨k + 1, hinv, ⟨by rfl, zHE, zHE⟩, (by first | omega | (dsimp only; omega))⟩
    | false =>
      have hne : (wtI n (k : Int) != wtI n (t.getD (k : Int).toNat Cel.no)) = true := by rw [bne, hc]; rfl
      rw [tk_no h5 hkp hc]
      clear hc hkp
      (repeat (first | refine gq_KTK ?_ | (refine ga0A ?_; intro _hq)))
      (refine aw_draw mixed T0ok cfU_ok [] (by rfl) (by kernel_rfl) ?_)
      (repeat (first | refine gq_KTK ?_ | (refine ga0A ?_; intro _hq)))
      (refine rtA ?_; try rfl)
  · have hd : decide ((k : Int) < (t.length : Int)) = false := decide_eq_false (by omega)
    obtain rfl : k = t.length := by omega
    have hz : tkB n t = true := by unfold tkB; rw [hkp, hv]; rfl
    rw [hz]
    clear hkp hz hv
    (repeat (first | refine gq_KTK ?_ | (refine ga0A ?_; intro _hq)))
    (refine rtA ?_; try rfl)
end Go.Proofs.Ytalociocjjinlaa
