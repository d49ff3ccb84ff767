/- EQ, KGR, KBM: laid into one text. -/
import Derived.Test.YtfcadkdgichpmaaQTI
import Derived.Test.YtfcadkdgichpmaaQTL
import Derived.Test.YtfcadkdgichpmaaQTM
import Derived.ChangeKeysEq

/- Gates compared, deeds compared; deeds as cells. -/
namespace Go.Proofs.Ytfcadkdgichpmaa
set_option linter.unusedVariables false
set_option linter.unusedSimpArgs false
set_option maxRecDepth 20000
open Go.RowKit
def chk4 (ti : TypeId) : List Field → Bool
  | [f, f', f'', f3] => (f.name != "_") && (f.type == ti) && (f.offset == 0) && ((f'.name != "_") && (f'.type == ti) && (f'.offset == 1)) && ((f''.name != "_") && (f''.type == ti) && (f''.offset == 2)) && ((f3.name != "_") && (f3.type == ti) && (f3.offset == 3))
  | _ => false
theorem equal_gate (k a b c k' a' b' c' : Int) (w : World) : (Op.equalIn 10000 42 (.agg #[.int .i64 k, .int .i64 a, .int .i64 b, .int .i64 c]) (.agg #[.int .i64 k', .int .i64 a', .int .i64 b', .int .i64 c'])).run Try.prog w = .ok (k == k' && (a == a' && (b == b' && c == c'))) w := by
  rw [run_equalIn_agg (ht := by kernel_rfl) (hp := by kernel_rfl)]
  have hc : chk4 3 (Try.prog.fieldsOf 42).toList = true := by kernel_rfl
  have hi : Try.prog.underlying 3 = some (.int .i64) := by kernel_rfl
  have hz : ∀ (xs : Array Value) (k : Nat) (v : Value) (w : World), xs[k]? = some v → (part 3 xs k).run Try.prog w = .ok v w := fun xs k v w h => run_part_plain w (by kernel_rfl) h
  have z0 := fun w => hz #[.int .i64 k, .int .i64 a, .int .i64 b, .int .i64 c] 0 _ w rfl
  have y0 := fun w => hz #[.int .i64 k', .int .i64 a', .int .i64 b', .int .i64 c'] 0 _ w rfl
  have z1 := fun w => hz #[.int .i64 k, .int .i64 a, .int .i64 b, .int .i64 c] 1 _ w rfl
  have y1 := fun w => hz #[.int .i64 k', .int .i64 a', .int .i64 b', .int .i64 c'] 1 _ w rfl
  have z2 := fun w => hz #[.int .i64 k, .int .i64 a, .int .i64 b, .int .i64 c] 2 _ w rfl
  have y2 := fun w => hz #[.int .i64 k', .int .i64 a', .int .i64 b', .int .i64 c'] 2 _ w rfl
  have z3 := fun w => hz #[.int .i64 k, .int .i64 a, .int .i64 b, .int .i64 c] 3 _ w rfl
  have y3 := fun w => hz #[.int .i64 k', .int .i64 a', .int .i64 b', .int .i64 c'] 3 _ w rfl
  have e : ∀ (x y : Int) w, (Op.equalIn 9999 3 (.int .i64 x) (.int .i64 y)).run Try.prog w = .ok (x == y) w := fun x y w => run_equalIn_int (P := Try.prog) w 9998 3 .i64 .i64 x y hi
  clear hz
  generalize (Try.prog.fieldsOf 42).toList = fs at hc ⊢
  unfold chk4 at hc
  split at hc
  · rename_i f f' f'' f3
    simp only [Bool.and_eq_true, bne_iff_ne, beq_iff_eq] at hc
    obtain ⟨⟨⟨⟨⟨h1, h2⟩, h3⟩, ⟨⟨h4, h5⟩, h6⟩⟩, ⟨⟨h7, h8⟩, h9⟩⟩, ⟨⟨g1, g2⟩, g3⟩⟩ := hc
    simp only [Op.eqFields, h1, h2, h3, h4, h5, h6, h7, h8, h9, g1, g2, g3, if_true, ne_eq, not_false_eq_true, Sem.run_bind, z0, y0, Result.andThen_ok]
    erw [e k k' w]
    cases (k == k')
    · rfl
    simp only [Result.andThen_ok, Bool.not_true, Bool.false_eq_true, if_false, Sem.run_bind, z1, y1]
    erw [e a a' w]
    cases (a == a')
    · rfl
    simp only [Result.andThen_ok, Bool.not_true, Bool.false_eq_true, if_false, Sem.run_bind, z2, y2]
    erw [e b b' w]
    cases (b == b')
    · rfl
    simp only [Result.andThen_ok, Bool.not_true, Bool.false_eq_true, if_false, Sem.run_bind, z3, y3]
    erw [e c c' w]
    cases (c == c') <;> rfl
  · cases hc
theorem eq_gate (x y : Operand) (k a b c k' a' b' c' : Int) (w : World) : (do eqGuard .eql 42 x y (.agg #[.int .i64 k, .int .i64 a, .int .i64 b, .int .i64 c]) (.agg #[.int .i64 k', .int .i64 a', .int .i64 b', .int .i64 c']); binOp .eql 42 (.agg #[.int .i64 k, .int .i64 a, .int .i64 b, .int .i64 c]) (.agg #[.int .i64 k', .int .i64 a', .int .i64 b', .int .i64 c']) : Sem Value).run Try.prog w = .ok (.bool (k == k' && (a == a' && (b == b' && c == c')))) w := by
  rw [Sem.run_bind, run_eqGuard_agg (hm := by kernel_rfl)]
  simp only [Result.andThen_ok]
  rw [run_eql_struct, equal_gate]; rfl
theorem neq_gate (x y : Operand) (k a b c k' a' b' c' : Int) (w : World) : (do eqGuard .neq 42 x y (.agg #[.int .i64 k, .int .i64 a, .int .i64 b, .int .i64 c]) (.agg #[.int .i64 k', .int .i64 a', .int .i64 b', .int .i64 c']); binOp .neq 42 (.agg #[.int .i64 k, .int .i64 a, .int .i64 b, .int .i64 c]) (.agg #[.int .i64 k', .int .i64 a', .int .i64 b', .int .i64 c']) : Sem Value).run Try.prog w = .ok (.bool (!(k == k' && (a == a' && (b == b' && c == c'))))) w := by
  rw [Sem.run_bind, run_eqGuard_agg (hm := by kernel_rfl)]
  simp only [Result.andThen_ok]
  rw [run_neq_struct, equal_gate]; rfl
end Go.Proofs.Ytfcadkdgichpmaa

/- Gates compared; circuits compared; Clip; what all words become; what circuits cost. -/
namespace Go.Proofs.Ytfcadkdgichpmaa
set_option linter.unusedVariables false
set_option linter.unusedSimpArgs false
set_option maxRecDepth 20000
open Go.RowKit







attribute [local irreducible] runA runX AW
theorem gq_KGR {H G : Prop} (k : H) (h : Hid H → G := by (intro hh; repeat1' (first | (first | ((first | refine r_none ?_ | refine r_gt (by rfl) (by rfl) zDD (by rfl) ?_ | refine r_gf (by rfl) (by rfl) zDD (by rfl) ?_); (first | fail | ((first | (refine z_op (by rfl) ?_; first | refine z_ok ?_ ?_ | refine z_ex ?_ (by first | exact zL1 | ((first | (first | refine mk_0 Int rfl rfl ?_ | refine mk_0 Gt rfl rfl ?_)); exact zWW) | exact zL2 | exact rw_c Int rfl | exact zL3 | (first | exact pu_of (fun w => neq_gate _ _ _ _ _ _ _ _ _ _ w) rfl | exact pu_of (fun w => eq_gate _ _ _ _ _ _ _ _ _ _ w) rfl)) ?_) | ((first | refine q_callE wsT wsZ (by rfl) ?_ | refine q_callVE wsT (by rfl) (by rfl) ?_); refine ⟨_, _, _, (by first | assumption | exact k_gv _ _ | exact k_cv _ _ (by omega)), _, by rfl, ?_, ?_⟩)); focus (first | exact trivial | fail | exact zQZ)) | fail)) | refine r_nt (by rfl) (by rfl) zDD (by rfl) ?_ | refine r_nf (by rfl) (by rfl) zDD (by rfl) ?_ | refine r_gu (by rfl) (by rfl) (by rfl) ?_ | refine r_nil ?_) | (first | refine aw_seq ?_ | refine aw_ct (by rfl) zDD ?_ | refine aw_cf (by rfl) zDD ?_ | refine aw_block ?_ | refine aw_region T0ok cfU_ok (by rfl) ?_ | refine aw_skip ?_ | refine aw_exit ?_ | refine ra_step ?_)); exact hh.out)) : G := h ⟨k⟩
theorem ga_KGR {H G : Prop} (k : H) (h : Hid H → G := by (intro hh; (first | refine r_none ?_ | refine r_gt (by rfl) (by rfl) zDD (by rfl) ?_ | refine r_gf (by rfl) (by rfl) zDD (by rfl) ?_); refine z_op (by rfl) ?_; refine z_alV ?_ hh.out; focus (first | exact trivial | fail | exact zQZ))) : G := h ⟨k⟩
def geq (g h : Gt) : Bool := g.k == h.k && (g.a == h.a && (g.b == h.b && g.c == h.c))
/-- What becomes of all words. -/
def tabN (l : List Gt) : Nat → List Int
  | 0 => []
  | i + 1 => tabN l i ++ [cr l (i : Int)]
theorem tabN_len (l : List Gt) : ∀ i, (tabN l i).length = i
  | 0 => rfl
  | i + 1 => by rw [tabN, List.length_append, tabN_len l i]; rfl
theorem tabN_get (l : List Gt) : ∀ (m i : Nat), i < m → (tabN l m).getD i 0 = cr l (i : Int)
  | m + 1, i, h => by
    rw [tabN, List.getD_eq_getElem?_getD]
    rcases Nat.lt_or_ge i m with h1 | h1
    · rw [List.getElem?_append_left (by rw [tabN_len]; exact h1), ← List.getD_eq_getElem?_getD, tabN_get l m i h1]
    · have : i = m := by omega
      subst this
      rw [List.getElem?_append_right (by rw [tabN_len]; exact Nat.le_refl _), tabN_len, Nat.sub_self]; rfl
theorem wv_of {n w : Int} (h1 : 1 ≤ n ∧ n ≤ 8) (h2 : 0 ≤ w ∧ w < 2 ^ n.toNat) : wvB n w = true := by
  unfold wvB btw
  rw [decide_eq_true h1.1, decide_eq_true h1.2, decide_eq_true h2.1, decide_eq_true (by omega)]; rfl

set_option maxHeartbeats 1000000 in
theorem k_tab (n : Int) (l : List Gt) (h : cokB n l = true) (N : Nat) (hN : (1 * 2 ^ n.toNat : Int) = (N : Int)) : Kon Try.prog 22 [vI n, roA l] [] (slA 0 0 (tabN l N)) [iRow (tabN l N)] [] := by
  obtain ⟨hn, hl, ha⟩ := cokB_t h
  have h8 := pow_8 hn
  have hN2 : (2 : Int) ^ n.toNat = (N : Int) := by rw [← hN, Int.one_mul]
  (refine kon_mk T0ok (fn := Try.f22) (c := Try.f22.body.get rfl) Try.func22 rfl (by rfl) (by rfl) (by rfl) ?_; intro hfit hfe)
  (repeat (first | refine gq_KGR ?_ | (refine ga_KGR ?_; intro _hq)))
  rw [hN]
  (refine aw_rd [1, 11] [] (fun i : Nat => [(5, .g (.one (.sl 144 i i))), (12, vI i)]) (fun i => [(144, (i, iRow (tabN l i)))]) (fun i => i ≤ N) (fun i => N - i) 0 (by rfl) (by rfl) ?_ (by rfl) zHE zHE ?_)
  · exact Nat.zero_le _
  rintro i hi
  have hil := tabN_len l i
  rcases Nat.lt_or_ge i N with h5 | h5
  · have hd : decide ((i : Int) < (N : Int)) = true := decide_eq_true (by omega)
    have hR := k_runAll n l (i : Int) ha (by omega) (wv_of hn (by omega))
    (repeat (first | refine gq_KGR ?_ | (refine ga_KGR ?_; intro _hq)))
    exact ⟨i + 1, h5, ⟨by rfl, ⟨Eq.trans (b := some (.g (.one (.sl 144 (i + 1) (tabN l (i + 1)).length)))) (by rfl) (by rw [tabN_len]), zHE⟩, zHE⟩, (by first | omega | (dsimp only; omega))⟩
  · obtain rfl : i = N := by omega
    have hd : decide ((i : Int) < (i : Int)) = false := decide_eq_false (by omega)
    (repeat (first | refine gq_KGR ?_ | (refine ga_KGR ?_; intro _hq)))
    (refine rtA ?_; try rfl)
    exact congrArg (fun m => AV.g (.one (.sl 0 0 m))) hil.symm























end Go.Proofs.Ytfcadkdgichpmaa

/- impl.CircuitBack; the draw and the law of FnCircuitRun. -/
namespace Go.Proofs.Ytfcadkdgichpmaa
set_option linter.unusedVariables false
set_option linter.unusedSimpArgs false
set_option maxRecDepth 20000
open Go.RowKit
attribute [local irreducible] runA runX AW
theorem cokB_mkM {n : Int} {l : List Gt} (h1 : 1 ≤ n ∧ n ≤ 8) (h2 : l.length ≤ 24) (h3 : l.all (gok n) = true) : cokB n l = true := by
  unfold cokB btw
  rw [decide_eq_true h1.1, decide_eq_true h1.2, decide_eq_true (by omega), h3]; rfl
end Go.Proofs.Ytfcadkdgichpmaa
