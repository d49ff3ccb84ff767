/- KGR, PK, KCB, KCC, KBP, KME: laid into one text. -/
import Derived.Test.YteagoafamjbpbaaQCircuitShortH
import Derived.ChangeKeysEq

/- Gates compared; circuits compared; Clip; what all words become; what circuits cost. -/
namespace Go.Proofs.Yteagoafamjbpbaa
set_option linter.unusedVariables false
set_option linter.unusedSimpArgs false
set_option maxRecDepth 20000
open Go.RowKit
def chk4 (ti : TypeId) : List Field → Bool
  | [f, f', f'', f3] => (f.name != "_") && (f.type == ti) && (f.offset == 0) && ((f'.name != "_") && (f'.type == ti) && (f'.offset == 1)) && ((f''.name != "_") && (f''.type == ti) && (f''.offset == 2)) && ((f3.name != "_") && (f3.type == ti) && (f3.offset == 3))
  | _ => false
theorem equal_gate (k a b c k' a' b' c' : Int) (w : World) : (Op.equalIn 10000 34 (.agg #[.int .i64 k, .int .i64 a, .int .i64 b, .int .i64 c]) (.agg #[.int .i64 k', .int .i64 a', .int .i64 b', .int .i64 c'])).run Try.prog w = .ok (k == k' && (a == a' && (b == b' && c == c'))) w := by
  rw [run_equalIn_agg (ht := by kernel_rfl) (hp := by kernel_rfl)]
  have hc : chk4 3 (Try.prog.fieldsOf 34).toList = true := by kernel_rfl
  have hi : Try.prog.underlying 3 = some (.int .i64) := by kernel_rfl
  have hz : ∀ (xs : Array Value) (k : Nat) (v : Value) (w : World), xs[k]? = some v → (part 3 xs k).run Try.prog w = .ok v w := fun xs k v w h => run_part_plain w (by kernel_rfl) h
  have z0 := fun w => hz #[.int .i64 k, .int .i64 a, .int .i64 b, .int .i64 c] 0 _ w rfl
  have y0 := fun w => hz #[.int .i64 k', .int .i64 a', .int .i64 b', .int .i64 c'] 0 _ w rfl
  have z1 := fun w => hz #[.int .i64 k, .int .i64 a, .int .i64 b, .int .i64 c] 1 _ w rfl
  have y1 := fun w => hz #[.int .i64 k', .int .i64 a', .int .i64 b', .int .i64 c'] 1 _ w rfl
  have z2 := fun w => hz #[.int .i64 k, .int .i64 a, .int .i64 b, .int .i64 c] 2 _ w rfl
  have y2 := fun w => hz #[.int .i64 k', .int .i64 a', .int .i64 b', .int .i64 c'] 2 _ w rfl
  have z3 := fun w => hz #[.int .i64 k, .int .i64 a, .int .i64 b, .int .i64 c] 3 _ w rfl
  have y3 := fun w => hz #[.int .i64 k', .int .i64 a', .int .i64 b', .int .i64 c'] 3 _ w rfl
  have e : ∀ (x y : Int) w, (Op.equalIn 9999 3 (.int .i64 x) (.int .i64 y)).run Try.prog w = .ok (x == y) w := fun x y w => run_equalIn_int (P := Try.prog) w 9998 3 .i64 .i64 x y hi
  clear hz
  generalize (Try.prog.fieldsOf 34).toList = fs at hc ⊢
  unfold chk4 at hc
  split at hc
  · rename_i f f' f'' f3
    simp only [Bool.and_eq_true, bne_iff_ne, beq_iff_eq] at hc
    obtain ⟨⟨⟨⟨⟨h1, h2⟩, h3⟩, ⟨⟨h4, h5⟩, h6⟩⟩, ⟨⟨h7, h8⟩, h9⟩⟩, ⟨⟨g1, g2⟩, g3⟩⟩ := hc
    simp only [Op.eqFields, h1, h2, h3, h4, h5, h6, h7, h8, h9, g1, g2, g3, if_true, ne_eq, not_false_eq_true, Sem.run_bind, z0, y0, Result.andThen_ok]
    erw [e k k' w]
    cases (k == k')
    · rfl
    simp only [Result.andThen_ok, Bool.not_true, Bool.false_eq_true, if_false, Sem.run_bind, z1, y1]
    erw [e a a' w]
    cases (a == a')
    · rfl
    simp only [Result.andThen_ok, Bool.not_true, Bool.false_eq_true, if_false, Sem.run_bind, z2, y2]
    erw [e b b' w]
    cases (b == b')
    · rfl
    simp only [Result.andThen_ok, Bool.not_true, Bool.false_eq_true, if_false, Sem.run_bind, z3, y3]
    erw [e c c' w]
    cases (c == c') <;> rfl
  · cases hc
theorem eq_gate (x y : Operand) (k a b c k' a' b' c' : Int) (w : World) : (do eqGuard .eql 34 x y (.agg #[.int .i64 k, .int .i64 a, .int .i64 b, .int .i64 c]) (.agg #[.int .i64 k', .int .i64 a', .int .i64 b', .int .i64 c']); binOp .eql 34 (.agg #[.int .i64 k, .int .i64 a, .int .i64 b, .int .i64 c]) (.agg #[.int .i64 k', .int .i64 a', .int .i64 b', .int .i64 c']) : Sem Value).run Try.prog w = .ok (.bool (k == k' && (a == a' && (b == b' && c == c')))) w := by
  rw [Sem.run_bind, run_eqGuard_agg (hm := by kernel_rfl)]
  simp only [Result.andThen_ok]
  rw [run_eql_struct, equal_gate]; rfl
theorem neq_gate (x y : Operand) (k a b c k' a' b' c' : Int) (w : World) : (do eqGuard .neq 34 x y (.agg #[.int .i64 k, .int .i64 a, .int .i64 b, .int .i64 c]) (.agg #[.int .i64 k', .int .i64 a', .int .i64 b', .int .i64 c']); binOp .neq 34 (.agg #[.int .i64 k, .int .i64 a, .int .i64 b, .int .i64 c]) (.agg #[.int .i64 k', .int .i64 a', .int .i64 b', .int .i64 c']) : Sem Value).run Try.prog w = .ok (.bool (!(k == k' && (a == a' && (b == b' && c == c'))))) w := by
  rw [Sem.run_bind, run_eqGuard_agg (hm := by kernel_rfl)]
  simp only [Result.andThen_ok]
  rw [run_neq_struct, equal_gate]; rfl
set_option maxHeartbeats 400000 in
theorem clipG : IsClip Try.prog 94 := by
  refine isClip_mk Try.func94 rfl (by rfl) fun A n c w hn hm => ?_
  go_enter Try.func94, Try.ntmps94
  go_wp2
  go_ret
  exact ⟨rfl, rfl⟩
attribute [local irreducible] runA runX AW
theorem gq_KGR {H G : Prop} (k : H) (h : Hid H → G := by (intro hh; (first | (first | ((first | refine r_none ?_ | refine r_gt (by rfl) (by rfl) (by first | rfl | assumption | omega | (simp only [*, Bool.not_false, Bool.not_true]; first | done | fail) | (simp [*]; first | done | fail)) (by rfl) ?_ | refine r_gf (by rfl) (by rfl) (by first | rfl | assumption | omega | (simp only [*, Bool.not_false, Bool.not_true]; first | done | fail) | (simp [*]; first | done | fail)) (by rfl) ?_); (first | fail | ((first | (refine z_op (by rfl) ?_; first | refine z_ok ?_ ?_ | refine z_ex ?_ (by first | exact ft_raw rfl rfl | ((first | refine ft_rp rfl rfl rfl ?_ | refine ft_row rfl rfl rfl ?_ | refine ft_rpF rfl rfl rfl ?_ | refine ft_rowF rfl rfl rfl ?_ | refine up_row rfl rfl ?_ | refine up_rowF rfl rfl rfl ?_ | refine ct_0 rfl ?_ | refine ct_r rfl rfl ?_ | refine ct_c rfl rfl rfl ?_ | refine cu_all rfl ?_ | refine cu_to rfl ?_ | refine cu_from rfl ?_ | refine cu_p rfl ?_ | (first | refine mk_0 Int rfl rfl ?_ | refine mk_0 Gt rfl rfl ?_)); (first | omega | (simp only [List.length_append, List.length_replicate, List.length_cons, List.length_nil, List.length_set, List.length_take, List.length_drop, true_and]; omega))) | exact up_raw rfl | exact pk_t (by first | rfl | assumption | omega | (simp only [*, Bool.not_false, Bool.not_true]; first | done | fail) | (simp [*]; first | done | fail)) rfl | exact pk_f (by first | rfl | assumption | omega | (simp only [*, Bool.not_false, Bool.not_true]; first | done | fail) | (simp [*]; first | done | fail)) rfl | exact rw_c Int rfl | exact rw_raw | exact pu_cv (fun w => rfl) (by omega) | exact pu_of (fun w => rfl) rfl | exact be_of (fun w => rfl) | exact nc_of (fun _ _ _ _ => rfl) rfl | exact bu_of (fun w => rfl) rfl | (first | exact pu_of (fun w => neq_gate _ _ _ _ _ _ _ _ _ _ w) rfl | exact pu_of (fun w => eq_gate _ _ _ _ _ _ _ _ _ _ w) rfl)) ?_) | ((first | refine q_callE wsT wsZ (by rfl) ?_ | refine q_callVE wsT (by rfl) (by rfl) ?_); refine ⟨_, _, _, (by first | assumption | exact k_gv _ _ | exact k_cv _ _ (by omega)), _, by rfl, ?_, ?_⟩)); focus (first | exact trivial | fail | exact rfl | (first | omega | (simp only [List.length_append, List.length_replicate, List.length_cons, List.length_nil, List.length_set, List.length_take, List.length_drop, true_and]; omega)) | exact cvB (fun w => rfl) | ((repeat' (first | exact rfl | exact cV_len _ | exact cV_ln rfl (by omega) | exact Cel.pos | omega | exact trivial | refine And.intro ?_ ?_)); done) | (simp [*]; done) | (simp; omega))) | fail)) | refine r_nt (by rfl) (by rfl) (by first | rfl | assumption | omega | (simp only [*, Bool.not_false, Bool.not_true]; first | done | fail) | (simp [*]; first | done | fail)) (by rfl) ?_ | refine r_nf (by rfl) (by rfl) (by first | rfl | assumption | omega | (simp only [*, Bool.not_false, Bool.not_true]; first | done | fail) | (simp [*]; first | done | fail)) (by rfl) ?_ | refine r_gu (by rfl) (by rfl) (by rfl) ?_ | refine r_nil ?_) | (first | refine aw_seq ?_ | refine aw_ct (by rfl) (by first | rfl | assumption | omega | (simp only [*, Bool.not_false, Bool.not_true]; first | done | fail) | (simp [*]; first | done | fail)) ?_ | refine aw_cf (by rfl) (by first | rfl | assumption | omega | (simp only [*, Bool.not_false, Bool.not_true]; first | done | fail) | (simp [*]; first | done | fail)) ?_ | refine aw_block ?_ | refine aw_region T0ok cfU_ok (by rfl) ?_ | refine aw_skip ?_ | refine aw_exit ?_ | refine ra_step ?_)); (repeat (first | (first | ((first | refine r_none ?_ | refine r_gt (by rfl) (by rfl) (by first | rfl | assumption | omega | (simp only [*, Bool.not_false, Bool.not_true]; first | done | fail) | (simp [*]; first | done | fail)) (by rfl) ?_ | refine r_gf (by rfl) (by rfl) (by first | rfl | assumption | omega | (simp only [*, Bool.not_false, Bool.not_true]; first | done | fail) | (simp [*]; first | done | fail)) (by rfl) ?_); (first | fail | ((first | (refine z_op (by rfl) ?_; first | refine z_ok ?_ ?_ | refine z_ex ?_ (by first | exact ft_raw rfl rfl | ((first | refine ft_rp rfl rfl rfl ?_ | refine ft_row rfl rfl rfl ?_ | refine ft_rpF rfl rfl rfl ?_ | refine ft_rowF rfl rfl rfl ?_ | refine up_row rfl rfl ?_ | refine up_rowF rfl rfl rfl ?_ | refine ct_0 rfl ?_ | refine ct_r rfl rfl ?_ | refine ct_c rfl rfl rfl ?_ | refine cu_all rfl ?_ | refine cu_to rfl ?_ | refine cu_from rfl ?_ | refine cu_p rfl ?_ | (first | refine mk_0 Int rfl rfl ?_ | refine mk_0 Gt rfl rfl ?_)); (first | omega | (simp only [List.length_append, List.length_replicate, List.length_cons, List.length_nil, List.length_set, List.length_take, List.length_drop, true_and]; omega))) | exact up_raw rfl | exact pk_t (by first | rfl | assumption | omega | (simp only [*, Bool.not_false, Bool.not_true]; first | done | fail) | (simp [*]; first | done | fail)) rfl | exact pk_f (by first | rfl | assumption | omega | (simp only [*, Bool.not_false, Bool.not_true]; first | done | fail) | (simp [*]; first | done | fail)) rfl | exact rw_c Int rfl | exact rw_raw | exact pu_cv (fun w => rfl) (by omega) | exact pu_of (fun w => rfl) rfl | exact be_of (fun w => rfl) | exact nc_of (fun _ _ _ _ => rfl) rfl | exact bu_of (fun w => rfl) rfl | (first | exact pu_of (fun w => neq_gate _ _ _ _ _ _ _ _ _ _ w) rfl | exact pu_of (fun w => eq_gate _ _ _ _ _ _ _ _ _ _ w) rfl)) ?_) | ((first | refine q_callE wsT wsZ (by rfl) ?_ | refine q_callVE wsT (by rfl) (by rfl) ?_); refine ⟨_, _, _, (by first | assumption | exact k_gv _ _ | exact k_cv _ _ (by omega)), _, by rfl, ?_, ?_⟩)); focus (first | exact trivial | fail | exact rfl | (first | omega | (simp only [List.length_append, List.length_replicate, List.length_cons, List.length_nil, List.length_set, List.length_take, List.length_drop, true_and]; omega)) | exact cvB (fun w => rfl) | ((repeat' (first | exact rfl | exact cV_len _ | exact cV_ln rfl (by omega) | exact Cel.pos | omega | exact trivial | refine And.intro ?_ ?_)); done) | (simp [*]; done) | (simp; omega))) | fail)) | refine r_nt (by rfl) (by rfl) (by first | rfl | assumption | omega | (simp only [*, Bool.not_false, Bool.not_true]; first | done | fail) | (simp [*]; first | done | fail)) (by rfl) ?_ | refine r_nf (by rfl) (by rfl) (by first | rfl | assumption | omega | (simp only [*, Bool.not_false, Bool.not_true]; first | done | fail) | (simp [*]; first | done | fail)) (by rfl) ?_ | refine r_gu (by rfl) (by rfl) (by rfl) ?_ | refine r_nil ?_) | (first | refine aw_seq ?_ | refine aw_ct (by rfl) (by first | rfl | assumption | omega | (simp only [*, Bool.not_false, Bool.not_true]; first | done | fail) | (simp [*]; first | done | fail)) ?_ | refine aw_cf (by rfl) (by first | rfl | assumption | omega | (simp only [*, Bool.not_false, Bool.not_true]; first | done | fail) | (simp [*]; first | done | fail)) ?_ | refine aw_block ?_ | refine aw_region T0ok cfU_ok (by rfl) ?_ | refine aw_skip ?_ | refine aw_exit ?_ | refine ra_step ?_))); exact hh.out)) : G := h ⟨k⟩
theorem ga_KGR {H G : Prop} (k : H) (h : Hid H → G := by (intro hh; (first | refine r_none ?_ | refine r_gt (by rfl) (by rfl) (by first | rfl | assumption | omega | (simp only [*, Bool.not_false, Bool.not_true]; first | done | fail) | (simp [*]; first | done | fail)) (by rfl) ?_ | refine r_gf (by rfl) (by rfl) (by first | rfl | assumption | omega | (simp only [*, Bool.not_false, Bool.not_true]; first | done | fail) | (simp [*]; first | done | fail)) (by rfl) ?_); refine z_op (by rfl) ?_; refine z_alV ?_ hh.out; focus (first | exact trivial | fail | exact rfl | (first | omega | (simp only [List.length_append, List.length_replicate, List.length_cons, List.length_nil, List.length_set, List.length_take, List.length_drop, true_and]; omega)) | exact cvB (fun w => rfl) | ((repeat' (first | exact rfl | exact cV_len _ | exact cV_ln rfl (by omega) | exact Cel.pos | omega | exact trivial | refine And.intro ?_ ?_)); done) | (simp [*]; done) | (simp; omega)))) : G := h ⟨k⟩
theorem gs_KGR {H G : Prop} (k : H) (h : Hid H → G := by (intro hh; (first | ((first | refine r_none ?_ | refine r_gt (by rfl) (by rfl) (by first | rfl | assumption | omega | (simp only [*, Bool.not_false, Bool.not_true]; first | done | fail) | (simp [*]; first | done | fail)) (by rfl) ?_ | refine r_gf (by rfl) (by rfl) (by first | rfl | assumption | omega | (simp only [*, Bool.not_false, Bool.not_true]; first | done | fail) | (simp [*]; first | done | fail)) (by rfl) ?_); (first | fail | ((first | (refine z_op (by rfl) ?_; first | refine z_ok ?_ ?_ | refine z_ex ?_ (by first | exact ft_raw rfl rfl | ((first | refine ft_rp rfl rfl rfl ?_ | refine ft_row rfl rfl rfl ?_ | refine ft_rpF rfl rfl rfl ?_ | refine ft_rowF rfl rfl rfl ?_ | refine up_row rfl rfl ?_ | refine up_rowF rfl rfl rfl ?_ | refine ct_0 rfl ?_ | refine ct_r rfl rfl ?_ | refine ct_c rfl rfl rfl ?_ | refine cu_all rfl ?_ | refine cu_to rfl ?_ | refine cu_from rfl ?_ | refine cu_p rfl ?_ | (first | refine mk_0 Int rfl rfl ?_ | refine mk_0 Gt rfl rfl ?_)); (first | omega | (simp only [List.length_append, List.length_replicate, List.length_cons, List.length_nil, List.length_set, List.length_take, List.length_drop, true_and]; omega))) | exact up_raw rfl | exact pk_t (by first | rfl | assumption | omega | (simp only [*, Bool.not_false, Bool.not_true]; first | done | fail) | (simp [*]; first | done | fail)) rfl | exact pk_f (by first | rfl | assumption | omega | (simp only [*, Bool.not_false, Bool.not_true]; first | done | fail) | (simp [*]; first | done | fail)) rfl | exact rw_c Int rfl | exact rw_raw | exact pu_cv (fun w => rfl) (by omega) | exact pu_of (fun w => rfl) rfl | exact be_of (fun w => rfl) | exact nc_of (fun _ _ _ _ => rfl) rfl | exact bu_of (fun w => rfl) rfl | (first | exact pu_of (fun w => neq_gate _ _ _ _ _ _ _ _ _ _ w) rfl | exact pu_of (fun w => eq_gate _ _ _ _ _ _ _ _ _ _ w) rfl)) ?_) | ((first | refine q_callE wsT wsZ (by rfl) ?_ | refine q_callVE wsT (by rfl) (by rfl) ?_); refine ⟨_, _, _, (by first | assumption | exact k_gv _ _ | exact k_cv _ _ (by omega)), _, by rfl, ?_, ?_⟩)); focus (first | exact trivial | fail | exact rfl | (first | omega | (simp only [List.length_append, List.length_replicate, List.length_cons, List.length_nil, List.length_set, List.length_take, List.length_drop, true_and]; omega)) | exact cvB (fun w => rfl) | ((repeat' (first | exact rfl | exact cV_len _ | exact cV_ln rfl (by omega) | exact Cel.pos | omega | exact trivial | refine And.intro ?_ ?_)); done) | (simp [*]; done) | (simp; omega))) | fail)) | refine r_nt (by rfl) (by rfl) (by first | rfl | assumption | omega | (simp only [*, Bool.not_false, Bool.not_true]; first | done | fail) | (simp [*]; first | done | fail)) (by rfl) ?_ | refine r_nf (by rfl) (by rfl) (by first | rfl | assumption | omega | (simp only [*, Bool.not_false, Bool.not_true]; first | done | fail) | (simp [*]; first | done | fail)) (by rfl) ?_ | refine r_gu (by rfl) (by rfl) (by rfl) ?_ | refine r_nil ?_); (repeat (first | ((first | refine r_none ?_ | refine r_gt (by rfl) (by rfl) (by first | rfl | assumption | omega | (simp only [*, Bool.not_false, Bool.not_true]; first | done | fail) | (simp [*]; first | done | fail)) (by rfl) ?_ | refine r_gf (by rfl) (by rfl) (by first | rfl | assumption | omega | (simp only [*, Bool.not_false, Bool.not_true]; first | done | fail) | (simp [*]; first | done | fail)) (by rfl) ?_); (first | fail | ((first | (refine z_op (by rfl) ?_; first | refine z_ok ?_ ?_ | refine z_ex ?_ (by first | exact ft_raw rfl rfl | ((first | refine ft_rp rfl rfl rfl ?_ | refine ft_row rfl rfl rfl ?_ | refine ft_rpF rfl rfl rfl ?_ | refine ft_rowF rfl rfl rfl ?_ | refine up_row rfl rfl ?_ | refine up_rowF rfl rfl rfl ?_ | refine ct_0 rfl ?_ | refine ct_r rfl rfl ?_ | refine ct_c rfl rfl rfl ?_ | refine cu_all rfl ?_ | refine cu_to rfl ?_ | refine cu_from rfl ?_ | refine cu_p rfl ?_ | (first | refine mk_0 Int rfl rfl ?_ | refine mk_0 Gt rfl rfl ?_)); (first | omega | (simp only [List.length_append, List.length_replicate, List.length_cons, List.length_nil, List.length_set, List.length_take, List.length_drop, true_and]; omega))) | exact up_raw rfl | exact pk_t (by first | rfl | assumption | omega | (simp only [*, Bool.not_false, Bool.not_true]; first | done | fail) | (simp [*]; first | done | fail)) rfl | exact pk_f (by first | rfl | assumption | omega | (simp only [*, Bool.not_false, Bool.not_true]; first | done | fail) | (simp [*]; first | done | fail)) rfl | exact rw_c Int rfl | exact rw_raw | exact pu_cv (fun w => rfl) (by omega) | exact pu_of (fun w => rfl) rfl | exact be_of (fun w => rfl) | exact nc_of (fun _ _ _ _ => rfl) rfl | exact bu_of (fun w => rfl) rfl | (first | exact pu_of (fun w => neq_gate _ _ _ _ _ _ _ _ _ _ w) rfl | exact pu_of (fun w => eq_gate _ _ _ _ _ _ _ _ _ _ w) rfl)) ?_) | ((first | refine q_callE wsT wsZ (by rfl) ?_ | refine q_callVE wsT (by rfl) (by rfl) ?_); refine ⟨_, _, _, (by first | assumption | exact k_gv _ _ | exact k_cv _ _ (by omega)), _, by rfl, ?_, ?_⟩)); focus (first | exact trivial | fail | exact rfl | (first | omega | (simp only [List.length_append, List.length_replicate, List.length_cons, List.length_nil, List.length_set, List.length_take, List.length_drop, true_and]; omega)) | exact cvB (fun w => rfl) | ((repeat' (first | exact rfl | exact cV_len _ | exact cV_ln rfl (by omega) | exact Cel.pos | omega | exact trivial | refine And.intro ?_ ?_)); done) | (simp [*]; done) | (simp; omega))) | fail)) | refine r_nt (by rfl) (by rfl) (by first | rfl | assumption | omega | (simp only [*, Bool.not_false, Bool.not_true]; first | done | fail) | (simp [*]; first | done | fail)) (by rfl) ?_ | refine r_nf (by rfl) (by rfl) (by first | rfl | assumption | omega | (simp only [*, Bool.not_false, Bool.not_true]; first | done | fail) | (simp [*]; first | done | fail)) (by rfl) ?_ | refine r_gu (by rfl) (by rfl) (by rfl) ?_ | refine r_nil ?_)); exact hh.out)) : G := h ⟨k⟩
theorem gc_KGR {H G : Prop} (k : H) (h : Hid H → G := by (intro hh; (first | refine aw_seq ?_ | refine aw_ct (by rfl) (by first | rfl | assumption | omega | (simp only [*, Bool.not_false, Bool.not_true]; first | done | fail) | (simp [*]; first | done | fail)) ?_ | refine aw_cf (by rfl) (by first | rfl | assumption | omega | (simp only [*, Bool.not_false, Bool.not_true]; first | done | fail) | (simp [*]; first | done | fail)) ?_ | refine aw_block ?_ | refine aw_region T0ok cfU_ok (by rfl) ?_ | refine aw_skip ?_ | refine aw_exit ?_ | refine ra_step ?_); (repeat (first | refine aw_seq ?_ | refine aw_ct (by rfl) (by first | rfl | assumption | omega | (simp only [*, Bool.not_false, Bool.not_true]; first | done | fail) | (simp [*]; first | done | fail)) ?_ | refine aw_cf (by rfl) (by first | rfl | assumption | omega | (simp only [*, Bool.not_false, Bool.not_true]; first | done | fail) | (simp [*]; first | done | fail)) ?_ | refine aw_block ?_ | refine aw_region T0ok cfU_ok (by rfl) ?_ | refine aw_skip ?_ | refine aw_exit ?_ | refine ra_step ?_)); exact hh.out)) : G := h ⟨k⟩
theorem gd_KGR {H G : Prop} (k : H) (h : Hid H → G := by (intro hh; (refine aw_draw mixed T0ok cfU_ok [] (by rfl) (by kernel_rfl) ?_); exact hh.out)) : G := h ⟨k⟩
def geq (g h : Gt) : Bool := g.k == h.k && (g.a == h.a && (g.b == h.b && g.c == h.c))
theorem geq_refl (g : Gt) : geq g g = true := by simp [geq]
theorem geq_iff {g h : Gt} : geq g h = true ↔ g = h := by
  obtain ⟨k, a, b, c⟩ := g
  obtain ⟨k', a', b', c'⟩ := h
  simp [geq]
theorem k_sg (l : List Gt) (h : l.length ≤ 10000000) : Kon Try.prog 26 [roA l, roA l] [] (vB true) [] [] := by
  have h1 : ((l.length : Int) != (l.length : Int)) = false := by simp
  (refine kon_mk T0ok (fn := Try.f26) (c := Try.f26.body.get rfl) Try.func26 rfl (by rfl) (by rfl) (by rfl) ?_; intro hfit hfe)
  (repeat (first | refine gq_KGR ?_ | (refine ga_KGR ?_; intro _hq)))
  (refine aw_rd [0, 1] [] (fun i : Nat => [(5, vI i)]) (fun _ => []) (fun i => i ≤ l.length) (fun i => l.length - i) 0 (by rfl) (by rfl) ?_ (by rfl) (by repeat (first | exact trivial | refine ⟨by rfl, ?_⟩ | refine ⟨vI_of (by rfl) (by omega), ?_⟩)) (by repeat (first | exact trivial | refine ⟨by rfl, ?_⟩ | refine ⟨vI_of (by rfl) (by omega), ?_⟩)) ?_)
  · exact Nat.zero_le _
  rintro i hi
  rcases Nat.lt_or_ge i l.length with h5 | h5
  · have hd : decide ((i : Int) < (l.length : Int)) = true := decide_eq_true (by omega)
    have hg : (!(geq (l.getD (i : Int).toNat Cel.no) (l.getD (i : Int).toNat Cel.no))) = false := by rw [geq_refl]; rfl
    unfold geq at hg
    (repeat (first | refine gq_KGR ?_ | (refine ga_KGR ?_; intro _hq) | refine gd_KGR ?_))
    exact ⟨i + 1, h5, ⟨by rfl, (by repeat (first | exact trivial | refine ⟨by rfl, ?_⟩ | refine ⟨vI_of (by rfl) (by omega), ?_⟩)), (by repeat (first | exact trivial | refine ⟨by rfl, ?_⟩ | refine ⟨vI_of (by rfl) (by omega), ?_⟩))⟩, (by first | omega | (dsimp only; omega))⟩
  · have hd : decide ((i : Int) < (l.length : Int)) = false := decide_eq_false (by omega)
    (repeat (first | refine gq_KGR ?_ | (refine ga_KGR ?_; intro _hq) | refine gd_KGR ?_))
    ((try refine aw_ret ?_); refine ret_auto2 (by rfl) (by rfl) (by rfl) (by repeat (first | exact trivial | refine ⟨by first | rfl | omega, ?_⟩)) ?_ (by repeat (first | exact trivial | refine ⟨by rfl, by rfl, ?_⟩)) (by repeat (first | exact trivial | refine ⟨by rfl, by rfl, ?_⟩)); try rfl)

theorem k_eqI (l : List Int) (h : l.length ≤ 10000000) : Kon Try.prog 91 [roA l, roA l] [] (vB true) [] [] := by
  have h1 : ((l.length : Int) != (l.length : Int)) = false := by simp
  have hg : ∀ x : Int, (x != x) = false := fun x => by simp
  (refine kon_mk T0ok (fn := Try.f91) (c := Try.f91.body.get rfl) Try.func91 rfl (by rfl) (by rfl) (by rfl) ?_; intro hfit hfe)
  (repeat (first | refine gq_KGR ?_ | (refine ga_KGR ?_; intro _hq)))
  (refine aw_rd [0, 1, 12] [] (fun i : Nat => [(13, vI i)]) (fun _ => []) (fun i => i ≤ l.length) (fun i => l.length - i) 0 (by rfl) (by rfl) ?_ (by rfl) (by repeat (first | exact trivial | refine ⟨by rfl, ?_⟩ | refine ⟨vI_of (by rfl) (by omega), ?_⟩)) (by repeat (first | exact trivial | refine ⟨by rfl, ?_⟩ | refine ⟨vI_of (by rfl) (by omega), ?_⟩)) ?_)
  · exact Nat.zero_le _
  rintro i hi
  rcases Nat.lt_or_ge i l.length with h5 | h5
  · have hd : decide ((i : Int) < (l.length : Int)) = true := decide_eq_true (by omega)
    have hg := hg (l.getD (i : Int).toNat Cel.no)
    (repeat (first | refine gq_KGR ?_ | (refine ga_KGR ?_; intro _hq) | refine gd_KGR ?_))
    exact ⟨i + 1, h5, ⟨by rfl, (by repeat (first | exact trivial | refine ⟨by rfl, ?_⟩ | refine ⟨vI_of (by rfl) (by omega), ?_⟩)), (by repeat (first | exact trivial | refine ⟨by rfl, ?_⟩ | refine ⟨vI_of (by rfl) (by omega), ?_⟩))⟩, (by first | omega | (dsimp only; omega))⟩
  · have hd : decide ((i : Int) < (l.length : Int)) = false := decide_eq_false (by omega)
    (repeat (first | refine gq_KGR ?_ | (refine ga_KGR ?_; intro _hq) | refine gd_KGR ?_))
    ((try refine aw_ret ?_); refine ret_auto2 (by rfl) (by rfl) (by rfl) (by repeat (first | exact trivial | refine ⟨by first | rfl | omega, ?_⟩)) ?_ (by repeat (first | exact trivial | refine ⟨by rfl, by rfl, ?_⟩)) (by repeat (first | exact trivial | refine ⟨by rfl, by rfl, ?_⟩)); try rfl)



















/-- What becomes of all words. -/
def tabN (l : List Gt) : Nat → List Int
  | 0 => []
  | i + 1 => tabN l i ++ [cr l (i : Int)]
theorem tabN_len (l : List Gt) : ∀ i, (tabN l i).length = i
  | 0 => rfl
  | i + 1 => by rw [tabN, List.length_append, tabN_len l i]; rfl
theorem tabN_ext {l l' : List Gt} : ∀ {m : Nat}, (∀ i : Nat, i < m → cr l (i : Int) = cr l' (i : Int)) → tabN l m = tabN l' m
  | 0, _ => rfl
  | m + 1, h => by rw [tabN, tabN, tabN_ext (fun i hi => h i (by omega)), h m (by omega)]
theorem tabN_get (l : List Gt) : ∀ (m i : Nat), i < m → (tabN l m).getD i 0 = cr l (i : Int)
  | m + 1, i, h => by
    rw [tabN, List.getD_eq_getElem?_getD]
    rcases Nat.lt_or_ge i m with h1 | h1
    · rw [List.getElem?_append_left (by rw [tabN_len]; exact h1), ← List.getD_eq_getElem?_getD, tabN_get l m i h1]
    · have : i = m := by omega
      subst this
      rw [List.getElem?_append_right (by rw [tabN_len]; exact Nat.le_refl _), tabN_len, Nat.sub_self]; rfl
theorem wv_of {n w : Int} (h1 : 1 ≤ n ∧ n ≤ 8) (h2 : 0 ≤ w ∧ w < 2 ^ n.toNat) : wvB n w = true := by
  unfold wvB btw
  rw [decide_eq_true h1.1, decide_eq_true h1.2, decide_eq_true h2.1, decide_eq_true (by omega)]; rfl

set_option maxHeartbeats 1000000 in
theorem k_tab (n : Int) (l : List Gt) (h : cokB n l = true) (N : Nat) (hN : (1 * 2 ^ n.toNat : Int) = (N : Int)) : Kon Try.prog 92 [vI n, roA l] [] (slA 0 0 (tabN l N)) [iRow (tabN l N)] [] := by
  obtain ⟨hn, hl, ha⟩ := cokB_t h
  have h8 := pow_8 hn
  have hN2 : (2 : Int) ^ n.toNat = (N : Int) := by rw [← hN, Int.one_mul]
  (refine kon_mk T0ok (fn := Try.f92) (c := Try.f92.body.get rfl) Try.func92 rfl (by rfl) (by rfl) (by rfl) ?_; intro hfit hfe)
  (repeat (first | refine gq_KGR ?_ | (refine ga_KGR ?_; intro _hq)))
  rw [hN]
  (refine aw_rd [1, 11] [] (fun i : Nat => [(5, .g (.one (.sl 144 i i))), (12, vI i)]) (fun i => [(144, (i, iRow (tabN l i)))]) (fun i => i ≤ N) (fun i => N - i) 0 (by rfl) (by rfl) ?_ (by rfl) (by repeat (first | exact trivial | refine ⟨by rfl, ?_⟩ | refine ⟨vI_of (by rfl) (by omega), ?_⟩)) (by repeat (first | exact trivial | refine ⟨by rfl, ?_⟩ | refine ⟨vI_of (by rfl) (by omega), ?_⟩)) ?_)
  · exact Nat.zero_le _
  rintro i hi
  have hil := tabN_len l i
  rcases Nat.lt_or_ge i N with h5 | h5
  · have hd : decide ((i : Int) < (N : Int)) = true := decide_eq_true (by omega)
    have hR := k_runAll n l (i : Int) ha (by omega) (wv_of hn (by omega))
    (repeat (first | refine gq_KGR ?_ | (refine ga_KGR ?_; intro _hq)))
    exact ⟨i + 1, h5, ⟨by rfl, ⟨Eq.trans (b := some (.g (.one (.sl 144 (i + 1) (tabN l (i + 1)).length)))) (by rfl) (by rw [tabN_len]), (by repeat (first | exact trivial | refine ⟨by rfl, ?_⟩ | refine ⟨vI_of (by rfl) (by omega), ?_⟩))⟩, (by repeat (first | exact trivial | refine ⟨by rfl, ?_⟩ | refine ⟨vI_of (by rfl) (by omega), ?_⟩))⟩, (by first | omega | (dsimp only; omega))⟩
  · obtain rfl : i = N := by omega
    have hd : decide ((i : Int) < (i : Int)) = false := decide_eq_false (by omega)
    (repeat (first | refine gq_KGR ?_ | (refine ga_KGR ?_; intro _hq)))
    ((try refine aw_ret ?_); refine ret_auto2 (by rfl) (by rfl) (by rfl) (by repeat (first | exact trivial | refine ⟨by first | rfl | omega, ?_⟩)) ?_ (by repeat (first | exact trivial | refine ⟨by rfl, by rfl, ?_⟩)) (by repeat (first | exact trivial | refine ⟨by rfl, by rfl, ?_⟩)); try rfl)
    exact congrArg (fun m => AV.g (.one (.sl 0 0 m))) hil.symm


/-- Circuits that make the same are the same. -/
theorem k_same (n : Int) (l l' : List Gt) (h : cokB n l = true) (h' : cokB n l' = true) (hs : ∀ w : Int, 0 ≤ w ∧ w < 2 ^ n.toNat → cr l w = cr l' w) : Kon Try.prog 49 [vI n, roA l, roA l'] [] (vB true) [] [] := by
  obtain ⟨hn, hl, _⟩ := cokB_t h
  obtain ⟨_, hl', _⟩ := cokB_t h'
  obtain ⟨N, hN, hN8⟩ : ∃ N : Nat, (1 * 2 ^ n.toNat : Int) = (N : Int) ∧ N ≤ 256 := ⟨2 ^ n.toNat, by simp, by
    have := (pow_8 hn).2
    have e : ((2 ^ n.toNat : Nat) : Int) = 2 ^ n.toNat := by simp
    omega⟩
  have hT := k_tab n l h N hN
  have hT' := k_tab n l' h' N hN
  have e : tabN l' N = tabN l N := (tabN_ext fun i hi => hs (i : Int) (by rw [Int.one_mul] at hN; omega)).symm
  rw [e] at hT'
  have hC := k_cv n l (by omega)
  have hC' := k_cv n l' (by omega)
  rw [h] at hC
  rw [h'] at hC'
  have hE := k_eqI (tabN l N) (by rw [tabN_len]; omega)
  (refine kon_mk T0ok (fn := Try.f49) (c := Try.f49.body.get rfl) Try.func49 rfl (by rfl) (by rfl) (by rfl) ?_; intro hfit hfe)
  (repeat (first | refine gq_KGR ?_ | (refine ga_KGR ?_; intro _hq)))
  ((try refine aw_ret ?_); refine ret_auto2 (by rfl) (by rfl) (by rfl) (by repeat (first | exact trivial | refine ⟨by first | rfl | omega, ?_⟩)) ?_ (by repeat (first | exact trivial | refine ⟨by rfl, by rfl, ?_⟩)) (by repeat (first | exact trivial | refine ⟨by rfl, by rfl, ?_⟩)); try rfl)

end Go.Proofs.Yteagoafamjbpbaa

/- Plain: the first useless pair. -/
namespace Go.Proofs.Yteagoafamjbpbaa
set_option linter.unusedVariables false
set_option linter.unusedSimpArgs false
theorem geq_comm (g h : Gt) : geq g h = geq h g := by
  rw [Bool.eq_iff_iff, geq_iff, geq_iff]; exact eq_comm
/-- The place of the same gate behind gates that are apart. -/
def uI (g : Gt) : List Gt → Nat → Int
  | [], _ => -1
  | x :: l, k => bif geq x g then (k : Int) else bif apaB x g then uI g l (k + 1) else -1
def usl : List Gt → Nat → Int × Int
  | [], _ => (-1, -1)
  | g :: l, i => bif decide (uI g l (i + 1) ≥ 0) then ((i : Int), uI g l (i + 1)) else usl l (i + 1)
theorem uI_drop {g : Gt} {l : List Gt} {i : Nat} (hi : i < l.length) : uI g (l.drop i) i = bif geq (l.getD i Cel.no) g then (i : Int) else bif apaB (l.getD i Cel.no) g then uI g (l.drop (i + 1)) (i + 1) else -1 := by
  have e : l.getD i Cel.no = l[i] := by simp [List.getD_eq_getElem?_getD, hi]
  rw [List.drop_eq_getElem_cons hi, e]; rfl
theorem usl_drop {l : List Gt} {i : Nat} (hi : i < l.length) : usl (l.drop i) i = bif decide (uI (l.getD i Cel.no) (l.drop (i + 1)) (i + 1) ≥ 0) then ((i : Int), uI (l.getD i Cel.no) (l.drop (i + 1)) (i + 1)) else usl (l.drop (i + 1)) (i + 1) := by
  have e : l.getD i Cel.no = l[i] := by simp [List.getD_eq_getElem?_getD, hi]
  rw [List.drop_eq_getElem_cons hi, e]; rfl
/-- What a found place is. -/
theorem uI_spec {g : Gt} : ∀ (l : List Gt) (k : Nat), uI g l k = -1 ∨ ∃ j : Nat, uI g l k = ((k + j : Nat) : Int) ∧ j < l.length ∧ l.getD j Cel.no = g ∧ ∀ x ∈ l.take j, apaB x g = true
  | [], k => .inl rfl
  | x :: l, k => by
    rw [uI]
    cases h : geq x g with
    | true => exact .inr ⟨0, by simp, by simp, geq_iff.1 h, fun y hy => by cases hy⟩
    | false =>
      cases h2 : apaB x g with
      | false => exact .inl rfl
      | true =>
        rcases uI_spec l (k + 1) with h3 | ⟨j, h3, h4, h5, h6⟩
        · exact .inl h3
        · refine .inr ⟨j + 1, ?_, by simp; omega, by simpa using h5, fun y hy => ?_⟩
          · show uI g l (k + 1) = _
            rw [h3]; congr 1; omega
          · rw [List.take_succ_cons] at hy
            rcases List.mem_cons.1 hy with rfl | hy
            · exact h2
            · exact h6 y hy
theorem usl_spec : ∀ (l : List Gt) (i : Nat), usl l i = (-1, -1) ∨ ∃ a b : Nat, usl l i = (((i + a : Nat) : Int), ((i + b : Nat) : Int)) ∧ a < b ∧ b < l.length ∧ l.getD a Cel.no = l.getD b Cel.no ∧ ∀ x ∈ (l.drop (a + 1)).take (b - (a + 1)), apaB x (l.getD a Cel.no) = true
  | [], i => .inl rfl
  | g :: l, i => by
    rw [usl]
    rcases uI_spec (g := g) l (i + 1) with h | ⟨j, h1, h2, h3, h4⟩
    · rw [h]
      rcases usl_spec l (i + 1) with h5 | ⟨a, b, h5, h6, h7, h8, h9⟩
      · exact .inl h5
      · refine .inr ⟨a + 1, b + 1, ?_, by omega, by simp; omega, by simpa using h8, ?_⟩
        · show usl l (i + 1) = _
          rw [h5]; congr 2 <;> omega
        · simpa using h9
    · right
      refine ⟨0, j + 1, ?_, by omega, by simp; omega, by simpa using h3.symm, by simpa using h4⟩
      rw [h1, decide_eq_true (by omega)]
      show ((i : Int), ((i + 1 + j : Nat) : Int)) = _
      congr 2; omega
/-- Nothing found: no two of the same side by side. -/
theorem usl_none : ∀ (l : List Gt) (i : Nat), usl l i = (-1, -1) → ∀ k : Nat, k + 1 < l.length → ¬ l.getD (k + 1) Cel.no = l.getD k Cel.no
  | g :: l, i, h, k, hk, e => by
    rw [usl] at h
    cases hd : decide (uI g l (i + 1) ≥ 0) with
    | true =>
      rw [hd] at h
      have := (Prod.mk.inj h).1
      omega
    | false =>
      rw [hd] at h
      cases k with
      | zero =>
        cases l with
        | nil => simp at hk
        | cons x l =>
          have ex : x = g := by simpa using e
          rw [uI, ex, geq_refl] at hd
          have := of_decide_eq_false hd
          simp at this
          omega
      | succ k => exact usl_none l (i + 1) h k (by simpa using hk) (by simpa using e)
theorem cr_one (g : Gt) (l : List Gt) (w : Int) : cr (g :: l) w = cr l (gr g w) := rfl
/-- A gate goes through gates that are apart. -/
theorem cr_thru {n : Int} {g : Gt} (hg : gok n g = true) : ∀ {m : List Gt}, m.all (gok n) = true → (∀ x ∈ m, apaB x g = true) → ∀ w : Int, gr g (cr m w) = cr m (gr g w)
  | [], _, _, w => rfl
  | x :: m, hm, ha, w => by
    rw [List.all_cons, Bool.and_eq_true] at hm
    rw [cr_one, cr_one, cr_thru hg hm.2 (fun y hy => ha y (List.mem_cons_of_mem _ hy))]
    rw [apa_comm hm.1 hg (ha x (List.mem_cons_self))]
/-- Without a useless pair a circuit makes the same. -/
theorem cr_less {n : Int} {g : Gt} {p m s : List Gt} (hg : gok n g = true) (hp : p.all (gok n) = true) (hm : m.all (gok n) = true) (ha : ∀ x ∈ m, apaB x g = true) {w : Int} (hw : 0 ≤ w ∧ w < 2 ^ n.toNat) : cr (p ++ g :: m ++ g :: s) w = cr (p ++ m ++ s) w := by
  have hw2 := cr_lt hp hw
  rw [cr_append, cr_append, cr_append, cr_append, cr_one, cr_one, cr_thru hg hm ha, gr_gr hg hw2.1]
theorem split_pair {l : List Gt} {a b : Nat} (h1 : a < b) (h2 : b < l.length) : l = l.take a ++ l.getD a Cel.no :: (l.drop (a + 1)).take (b - (a + 1)) ++ l.getD b Cel.no :: l.drop (b + 1) := by
  have ea : l.getD a Cel.no = l[a] := by simp [List.getD_eq_getElem?_getD, show a < l.length by omega]
  have eb : l.getD b Cel.no = l[b] := by simp [List.getD_eq_getElem?_getD, h2]
  have e1 : l.drop a = l[a] :: l.drop (a + 1) := List.drop_eq_getElem_cons (by omega)
  have e2 : l.drop b = l[b] :: l.drop (b + 1) := List.drop_eq_getElem_cons h2
  have e3 : l.drop (a + 1) = (l.drop (a + 1)).take (b - (a + 1)) ++ l.drop b := by
    have := (List.take_append_drop (b - (a + 1)) (l.drop (a + 1))).symm
    rw [List.drop_drop, show a + 1 + (b - (a + 1)) = b by omega] at this
    exact this
  calc l = l.take a ++ l.drop a := (List.take_append_drop a l).symm
    _ = _ := by
      rw [e1, ea, eb, List.append_assoc, List.cons_append, ← e2]
      congr 2
end Go.Proofs.Yteagoafamjbpbaa

/- The first useless pair, both sides. -/
namespace Go.Proofs.Yteagoafamjbpbaa
set_option linter.unusedVariables false
set_option linter.unusedSimpArgs false
set_option maxRecDepth 20000
open Go.RowKit
attribute [local irreducible] runA runX AW
theorem gq_KCB {H G : Prop} (k : H) (h : Hid H → G := by (intro hh; (first | (first | ((first | refine r_none ?_ | refine r_gt (by rfl) (by rfl) (by first | rfl | assumption | omega | (simp only [*, Bool.not_false, Bool.not_true]; first | done | fail) | (simp [*]; first | done | fail)) (by rfl) ?_ | refine r_gf (by rfl) (by rfl) (by first | rfl | assumption | omega | (simp only [*, Bool.not_false, Bool.not_true]; first | done | fail) | (simp [*]; first | done | fail)) (by rfl) ?_); (first | fail | ((first | (refine z_op (by rfl) ?_; first | refine z_ok ?_ ?_ | refine z_ex ?_ (by first | exact ft_raw rfl rfl | ((first | refine ft_rp rfl rfl rfl ?_ | refine ft_row rfl rfl rfl ?_ | refine ft_rpF rfl rfl rfl ?_ | refine ft_rowF rfl rfl rfl ?_ | refine up_row rfl rfl ?_ | refine up_rowF rfl rfl rfl ?_ | refine ct_0 rfl ?_ | refine ct_r rfl rfl ?_ | refine ct_c rfl rfl rfl ?_ | refine cu_all rfl ?_ | refine cu_to rfl ?_ | refine cu_from rfl ?_ | refine cu_p rfl ?_ | fail); (first | omega | (simp only [List.length_append, List.length_replicate, List.length_cons, List.length_nil, List.length_set, List.length_take, List.length_drop, true_and]; omega))) | exact up_raw rfl | exact pk_t (by first | rfl | assumption | omega | (simp only [*, Bool.not_false, Bool.not_true]; first | done | fail) | (simp [*]; first | done | fail)) rfl | exact pk_f (by first | rfl | assumption | omega | (simp only [*, Bool.not_false, Bool.not_true]; first | done | fail) | (simp [*]; first | done | fail)) rfl | fail | exact rw_raw | exact pu_cv (fun w => rfl) (by omega) | exact pu_of (fun w => rfl) rfl | exact be_of (fun w => rfl) | exact nc_of (fun _ _ _ _ => rfl) rfl | exact bu_of (fun w => rfl) rfl | (first | exact pu_of (fun w => eq_gate _ _ _ _ _ _ _ _ _ _ w) rfl)) ?_) | ((first | refine q_callE wsT wsZ (by rfl) ?_ | refine q_callVE wsT (by rfl) (by rfl) ?_); refine ⟨_, _, _, (by first | assumption | exact k_cv _ _ (by omega)), _, by rfl, ?_, ?_⟩)); focus (first | exact trivial | fail | exact rfl | (first | omega | (simp only [List.length_append, List.length_replicate, List.length_cons, List.length_nil, List.length_set, List.length_take, List.length_drop, true_and]; omega)) | exact cvB (fun w => rfl) | ((repeat' (first | exact rfl | exact cV_len _ | exact cV_ln rfl (by omega) | exact Cel.pos | omega | exact trivial | refine And.intro ?_ ?_)); done) | (simp [*]; done) | (simp; omega))) | fail)) | refine r_nt (by rfl) (by rfl) (by first | rfl | assumption | omega | (simp only [*, Bool.not_false, Bool.not_true]; first | done | fail) | (simp [*]; first | done | fail)) (by rfl) ?_ | refine r_nf (by rfl) (by rfl) (by first | rfl | assumption | omega | (simp only [*, Bool.not_false, Bool.not_true]; first | done | fail) | (simp [*]; first | done | fail)) (by rfl) ?_ | refine r_gu (by rfl) (by rfl) (by rfl) ?_ | refine r_nil ?_) | (first | refine aw_seq ?_ | refine aw_ct (by rfl) (by first | rfl | assumption | omega | (simp only [*, Bool.not_false, Bool.not_true]; first | done | fail) | (simp [*]; first | done | fail)) ?_ | refine aw_cf (by rfl) (by first | rfl | assumption | omega | (simp only [*, Bool.not_false, Bool.not_true]; first | done | fail) | (simp [*]; first | done | fail)) ?_ | refine aw_block ?_ | refine aw_region T0ok cfU_ok (by rfl) ?_ | refine aw_skip ?_ | refine aw_exit ?_ | refine ra_step ?_)); (repeat (first | (first | ((first | refine r_none ?_ | refine r_gt (by rfl) (by rfl) (by first | rfl | assumption | omega | (simp only [*, Bool.not_false, Bool.not_true]; first | done | fail) | (simp [*]; first | done | fail)) (by rfl) ?_ | refine r_gf (by rfl) (by rfl) (by first | rfl | assumption | omega | (simp only [*, Bool.not_false, Bool.not_true]; first | done | fail) | (simp [*]; first | done | fail)) (by rfl) ?_); (first | fail | ((first | (refine z_op (by rfl) ?_; first | refine z_ok ?_ ?_ | refine z_ex ?_ (by first | exact ft_raw rfl rfl | ((first | refine ft_rp rfl rfl rfl ?_ | refine ft_row rfl rfl rfl ?_ | refine ft_rpF rfl rfl rfl ?_ | refine ft_rowF rfl rfl rfl ?_ | refine up_row rfl rfl ?_ | refine up_rowF rfl rfl rfl ?_ | refine ct_0 rfl ?_ | refine ct_r rfl rfl ?_ | refine ct_c rfl rfl rfl ?_ | refine cu_all rfl ?_ | refine cu_to rfl ?_ | refine cu_from rfl ?_ | refine cu_p rfl ?_ | fail); (first | omega | (simp only [List.length_append, List.length_replicate, List.length_cons, List.length_nil, List.length_set, List.length_take, List.length_drop, true_and]; omega))) | exact up_raw rfl | exact pk_t (by first | rfl | assumption | omega | (simp only [*, Bool.not_false, Bool.not_true]; first | done | fail) | (simp [*]; first | done | fail)) rfl | exact pk_f (by first | rfl | assumption | omega | (simp only [*, Bool.not_false, Bool.not_true]; first | done | fail) | (simp [*]; first | done | fail)) rfl | fail | exact rw_raw | exact pu_cv (fun w => rfl) (by omega) | exact pu_of (fun w => rfl) rfl | exact be_of (fun w => rfl) | exact nc_of (fun _ _ _ _ => rfl) rfl | exact bu_of (fun w => rfl) rfl | (first | exact pu_of (fun w => eq_gate _ _ _ _ _ _ _ _ _ _ w) rfl)) ?_) | ((first | refine q_callE wsT wsZ (by rfl) ?_ | refine q_callVE wsT (by rfl) (by rfl) ?_); refine ⟨_, _, _, (by first | assumption | exact k_cv _ _ (by omega)), _, by rfl, ?_, ?_⟩)); focus (first | exact trivial | fail | exact rfl | (first | omega | (simp only [List.length_append, List.length_replicate, List.length_cons, List.length_nil, List.length_set, List.length_take, List.length_drop, true_and]; omega)) | exact cvB (fun w => rfl) | ((repeat' (first | exact rfl | exact cV_len _ | exact cV_ln rfl (by omega) | exact Cel.pos | omega | exact trivial | refine And.intro ?_ ?_)); done) | (simp [*]; done) | (simp; omega))) | fail)) | refine r_nt (by rfl) (by rfl) (by first | rfl | assumption | omega | (simp only [*, Bool.not_false, Bool.not_true]; first | done | fail) | (simp [*]; first | done | fail)) (by rfl) ?_ | refine r_nf (by rfl) (by rfl) (by first | rfl | assumption | omega | (simp only [*, Bool.not_false, Bool.not_true]; first | done | fail) | (simp [*]; first | done | fail)) (by rfl) ?_ | refine r_gu (by rfl) (by rfl) (by rfl) ?_ | refine r_nil ?_) | (first | refine aw_seq ?_ | refine aw_ct (by rfl) (by first | rfl | assumption | omega | (simp only [*, Bool.not_false, Bool.not_true]; first | done | fail) | (simp [*]; first | done | fail)) ?_ | refine aw_cf (by rfl) (by first | rfl | assumption | omega | (simp only [*, Bool.not_false, Bool.not_true]; first | done | fail) | (simp [*]; first | done | fail)) ?_ | refine aw_block ?_ | refine aw_region T0ok cfU_ok (by rfl) ?_ | refine aw_skip ?_ | refine aw_exit ?_ | refine ra_step ?_))); exact hh.out)) : G := h ⟨k⟩
theorem ga_KCB {H G : Prop} (k : H) (h : Hid H → G := by (intro hh; (first | refine r_none ?_ | refine r_gt (by rfl) (by rfl) (by first | rfl | assumption | omega | (simp only [*, Bool.not_false, Bool.not_true]; first | done | fail) | (simp [*]; first | done | fail)) (by rfl) ?_ | refine r_gf (by rfl) (by rfl) (by first | rfl | assumption | omega | (simp only [*, Bool.not_false, Bool.not_true]; first | done | fail) | (simp [*]; first | done | fail)) (by rfl) ?_); refine z_op (by rfl) ?_; refine z_al ?_ hh.out; focus (first | exact trivial | fail | exact rfl | (first | omega | (simp only [List.length_append, List.length_replicate, List.length_cons, List.length_nil, List.length_set, List.length_take, List.length_drop, true_and]; omega)) | exact cvB (fun w => rfl) | ((repeat' (first | exact rfl | exact cV_len _ | exact cV_ln rfl (by omega) | exact Cel.pos | omega | exact trivial | refine And.intro ?_ ?_)); done) | (simp [*]; done) | (simp; omega)))) : G := h ⟨k⟩
theorem gs_KCB {H G : Prop} (k : H) (h : Hid H → G := by (intro hh; (first | ((first | refine r_none ?_ | refine r_gt (by rfl) (by rfl) (by first | rfl | assumption | omega | (simp only [*, Bool.not_false, Bool.not_true]; first | done | fail) | (simp [*]; first | done | fail)) (by rfl) ?_ | refine r_gf (by rfl) (by rfl) (by first | rfl | assumption | omega | (simp only [*, Bool.not_false, Bool.not_true]; first | done | fail) | (simp [*]; first | done | fail)) (by rfl) ?_); (first | fail | ((first | (refine z_op (by rfl) ?_; first | refine z_ok ?_ ?_ | refine z_ex ?_ (by first | exact ft_raw rfl rfl | ((first | refine ft_rp rfl rfl rfl ?_ | refine ft_row rfl rfl rfl ?_ | refine ft_rpF rfl rfl rfl ?_ | refine ft_rowF rfl rfl rfl ?_ | refine up_row rfl rfl ?_ | refine up_rowF rfl rfl rfl ?_ | refine ct_0 rfl ?_ | refine ct_r rfl rfl ?_ | refine ct_c rfl rfl rfl ?_ | refine cu_all rfl ?_ | refine cu_to rfl ?_ | refine cu_from rfl ?_ | refine cu_p rfl ?_ | fail); (first | omega | (simp only [List.length_append, List.length_replicate, List.length_cons, List.length_nil, List.length_set, List.length_take, List.length_drop, true_and]; omega))) | exact up_raw rfl | exact pk_t (by first | rfl | assumption | omega | (simp only [*, Bool.not_false, Bool.not_true]; first | done | fail) | (simp [*]; first | done | fail)) rfl | exact pk_f (by first | rfl | assumption | omega | (simp only [*, Bool.not_false, Bool.not_true]; first | done | fail) | (simp [*]; first | done | fail)) rfl | fail | exact rw_raw | exact pu_cv (fun w => rfl) (by omega) | exact pu_of (fun w => rfl) rfl | exact be_of (fun w => rfl) | exact nc_of (fun _ _ _ _ => rfl) rfl | exact bu_of (fun w => rfl) rfl | (first | exact pu_of (fun w => eq_gate _ _ _ _ _ _ _ _ _ _ w) rfl)) ?_) | ((first | refine q_callE wsT wsZ (by rfl) ?_ | refine q_callVE wsT (by rfl) (by rfl) ?_); refine ⟨_, _, _, (by first | assumption | exact k_cv _ _ (by omega)), _, by rfl, ?_, ?_⟩)); focus (first | exact trivial | fail | exact rfl | (first | omega | (simp only [List.length_append, List.length_replicate, List.length_cons, List.length_nil, List.length_set, List.length_take, List.length_drop, true_and]; omega)) | exact cvB (fun w => rfl) | ((repeat' (first | exact rfl | exact cV_len _ | exact cV_ln rfl (by omega) | exact Cel.pos | omega | exact trivial | refine And.intro ?_ ?_)); done) | (simp [*]; done) | (simp; omega))) | fail)) | refine r_nt (by rfl) (by rfl) (by first | rfl | assumption | omega | (simp only [*, Bool.not_false, Bool.not_true]; first | done | fail) | (simp [*]; first | done | fail)) (by rfl) ?_ | refine r_nf (by rfl) (by rfl) (by first | rfl | assumption | omega | (simp only [*, Bool.not_false, Bool.not_true]; first | done | fail) | (simp [*]; first | done | fail)) (by rfl) ?_ | refine r_gu (by rfl) (by rfl) (by rfl) ?_ | refine r_nil ?_); (repeat (first | ((first | refine r_none ?_ | refine r_gt (by rfl) (by rfl) (by first | rfl | assumption | omega | (simp only [*, Bool.not_false, Bool.not_true]; first | done | fail) | (simp [*]; first | done | fail)) (by rfl) ?_ | refine r_gf (by rfl) (by rfl) (by first | rfl | assumption | omega | (simp only [*, Bool.not_false, Bool.not_true]; first | done | fail) | (simp [*]; first | done | fail)) (by rfl) ?_); (first | fail | ((first | (refine z_op (by rfl) ?_; first | refine z_ok ?_ ?_ | refine z_ex ?_ (by first | exact ft_raw rfl rfl | ((first | refine ft_rp rfl rfl rfl ?_ | refine ft_row rfl rfl rfl ?_ | refine ft_rpF rfl rfl rfl ?_ | refine ft_rowF rfl rfl rfl ?_ | refine up_row rfl rfl ?_ | refine up_rowF rfl rfl rfl ?_ | refine ct_0 rfl ?_ | refine ct_r rfl rfl ?_ | refine ct_c rfl rfl rfl ?_ | refine cu_all rfl ?_ | refine cu_to rfl ?_ | refine cu_from rfl ?_ | refine cu_p rfl ?_ | fail); (first | omega | (simp only [List.length_append, List.length_replicate, List.length_cons, List.length_nil, List.length_set, List.length_take, List.length_drop, true_and]; omega))) | exact up_raw rfl | exact pk_t (by first | rfl | assumption | omega | (simp only [*, Bool.not_false, Bool.not_true]; first | done | fail) | (simp [*]; first | done | fail)) rfl | exact pk_f (by first | rfl | assumption | omega | (simp only [*, Bool.not_false, Bool.not_true]; first | done | fail) | (simp [*]; first | done | fail)) rfl | fail | exact rw_raw | exact pu_cv (fun w => rfl) (by omega) | exact pu_of (fun w => rfl) rfl | exact be_of (fun w => rfl) | exact nc_of (fun _ _ _ _ => rfl) rfl | exact bu_of (fun w => rfl) rfl | (first | exact pu_of (fun w => eq_gate _ _ _ _ _ _ _ _ _ _ w) rfl)) ?_) | ((first | refine q_callE wsT wsZ (by rfl) ?_ | refine q_callVE wsT (by rfl) (by rfl) ?_); refine ⟨_, _, _, (by first | assumption | exact k_cv _ _ (by omega)), _, by rfl, ?_, ?_⟩)); focus (first | exact trivial | fail | exact rfl | (first | omega | (simp only [List.length_append, List.length_replicate, List.length_cons, List.length_nil, List.length_set, List.length_take, List.length_drop, true_and]; omega)) | exact cvB (fun w => rfl) | ((repeat' (first | exact rfl | exact cV_len _ | exact cV_ln rfl (by omega) | exact Cel.pos | omega | exact trivial | refine And.intro ?_ ?_)); done) | (simp [*]; done) | (simp; omega))) | fail)) | refine r_nt (by rfl) (by rfl) (by first | rfl | assumption | omega | (simp only [*, Bool.not_false, Bool.not_true]; first | done | fail) | (simp [*]; first | done | fail)) (by rfl) ?_ | refine r_nf (by rfl) (by rfl) (by first | rfl | assumption | omega | (simp only [*, Bool.not_false, Bool.not_true]; first | done | fail) | (simp [*]; first | done | fail)) (by rfl) ?_ | refine r_gu (by rfl) (by rfl) (by rfl) ?_ | refine r_nil ?_)); exact hh.out)) : G := h ⟨k⟩
theorem gc_KCB {H G : Prop} (k : H) (h : Hid H → G := by (intro hh; (first | refine aw_seq ?_ | refine aw_ct (by rfl) (by first | rfl | assumption | omega | (simp only [*, Bool.not_false, Bool.not_true]; first | done | fail) | (simp [*]; first | done | fail)) ?_ | refine aw_cf (by rfl) (by first | rfl | assumption | omega | (simp only [*, Bool.not_false, Bool.not_true]; first | done | fail) | (simp [*]; first | done | fail)) ?_ | refine aw_block ?_ | refine aw_region T0ok cfU_ok (by rfl) ?_ | refine aw_skip ?_ | refine aw_exit ?_ | refine ra_step ?_); (repeat (first | refine aw_seq ?_ | refine aw_ct (by rfl) (by first | rfl | assumption | omega | (simp only [*, Bool.not_false, Bool.not_true]; first | done | fail) | (simp [*]; first | done | fail)) ?_ | refine aw_cf (by rfl) (by first | rfl | assumption | omega | (simp only [*, Bool.not_false, Bool.not_true]; first | done | fail) | (simp [*]; first | done | fail)) ?_ | refine aw_block ?_ | refine aw_region T0ok cfU_ok (by rfl) ?_ | refine aw_skip ?_ | refine aw_exit ?_ | refine ra_step ?_)); exact hh.out)) : G := h ⟨k⟩
theorem gd_KCB {H G : Prop} (k : H) (h : Hid H → G := by (intro hh; (refine aw_draw mixed T0ok cfU_ok [] (by rfl) (by kernel_rfl) ?_); exact hh.out)) : G := h ⟨k⟩
abbrev prO (x y : Int) : AV := .tup [.one (.v (.int .i64 x)), .one (.v (.int .i64 y))]
abbrev gAt (l : List Gt) (i : Nat) : Gt := l.getD (i : Int).toNat Cel.no
set_option maxHeartbeats 2000000 in
theorem k_usl (n : Int) (l : List Gt) (ha : l.all (gok n) = true) (hl : l.length ≤ 1000) : Kon Try.prog 90 [roA l] [] (prO (usl l 0).1 (usl l 0).2) [] [] := by
  (refine kon_mk T0ok (fn := Try.f90) (c := Try.f90.body.get rfl) Try.func90 rfl (by rfl) (by rfl) (by rfl) ?_; intro hfit hfe)
  (repeat (first | refine gq_KCB ?_ | (refine ga_KCB ?_; intro _q ⟨_he, _hq⟩)))
  (refine aw_rd [0, 2, 3, 7, 8] [] (fun i : Nat => [(9, vI i)]) (fun _ => []) (fun i => i ≤ l.length ∧ usl (l.drop i) i = usl l 0) (fun i => l.length - i) 0 (by rfl) (by rfl) ?_ (by rfl) (by repeat (first | exact trivial | refine ⟨by rfl, ?_⟩ | refine ⟨vI_of (by rfl) (by omega), ?_⟩)) (by repeat (first | exact trivial | refine ⟨by rfl, ?_⟩ | refine ⟨vI_of (by rfl) (by omega), ?_⟩)) ?_)
  · exact ⟨Nat.zero_le _, by rw [List.drop_zero]⟩
  rintro i ⟨hi, hz⟩
  rcases Nat.lt_or_ge i l.length with h5 | h5
  · have hd : decide ((i : Int) < (l.length : Int)) = true := decide_eq_true (by omega)
    rw [usl_drop h5] at hz
    have hgi := gok_bd (all_at ha h5)
    obtain ⟨g, hg⟩ : ∃ g, gAt l i = g := ⟨_, rfl⟩
    have hg' : l.getD i Cel.no = g := hg
    rw [hg'] at hz hgi
    (repeat (first | refine gq_KCB ?_ | (refine ga_KCB ?_; intro _q ⟨_he, _hq⟩)))
    rw [show l.getD (i : Int).toNat Cel.no = g from hg]
    (refine aw_rd [0, 2, 3, 4, 5, 7, 8, 9] [80] (fun k : Nat => [(6, vI k)]) (fun _ => []) (fun k => i + 1 ≤ k ∧ k ≤ l.length ∧ uI g (l.drop k) k = uI g (l.drop (i + 1)) (i + 1)) (fun k => l.length - k) (i + 1) (by rfl) (by rfl) ?_ (by rfl) (by repeat (first | exact trivial | refine ⟨by rfl, ?_⟩ | refine ⟨vI_of (by rfl) (by omega), ?_⟩)) (by repeat (first | exact trivial | refine ⟨by rfl, ?_⟩ | refine ⟨vI_of (by rfl) (by omega), ?_⟩)) ?_)
    · exact ⟨Nat.le_refl _, h5, rfl⟩
    rintro k ⟨hk1, hk2, hu⟩
    rcases Nat.lt_or_ge k l.length with h6 | h6
    · have hd2 : decide ((k : Int) < (l.length : Int)) = true := decide_eq_true (by omega)
      rw [uI_drop h6] at hu
      have hgk := gok_bd (all_at ha h6)
      obtain ⟨x, hx⟩ : ∃ x, gAt l k = x := ⟨_, rfl⟩
      have hx' : l.getD k Cel.no = x := hx
      rw [hx'] at hu hgk
      (repeat (first | refine gq_KCB ?_ | (refine ga_KCB ?_; intro _q ⟨_he, _hq⟩)))
      (refine aw_draw mixed T0ok cfU_ok [] (by rfl) (by kernel_rfl) ?_)
      (repeat (first | refine gq_KCB ?_ | (refine ga_KCB ?_; intro _q ⟨_he, _hq⟩)))
      rw [show l.getD (k : Int).toNat Cel.no = x from hx]
      cases hge : geq x g with
      | true =>
        have hge' := hge
        unfold geq at hge'
        rw [hge] at hu
        dsimp only [cond_true] at hu
        rw [← hu, decide_eq_true (show (k : Int) ≥ 0 by omega)] at hz
        dsimp only [cond_true] at hz
        rw [← hz]
        clear hz hu hge
        (repeat (first | refine gq_KCB ?_ | (refine ga_KCB ?_; intro _q ⟨_he, _hq⟩) | refine gd_KCB ?_))
        ((try refine aw_ret ?_); refine ret_auto2 (by rfl) (by rfl) (by rfl) (by repeat (first | exact trivial | refine ⟨by first | rfl | omega, ?_⟩)) ?_ (by repeat (first | exact trivial | refine ⟨by rfl, by rfl, ?_⟩)) (by repeat (first | exact trivial | refine ⟨by rfl, by rfl, ?_⟩)); try rfl)
      | false =>
        have hge' := hge
        unfold geq at hge'
        rw [hge] at hu
        dsimp only [cond_false] at hu
        have hA := k_apa x g hgk.2.1 hgi.2.1
        cases hap : apaB x g with
        | true =>
          rw [hap] at hu hA
          dsimp only [cond_true] at hu
          have hinv : i + 1 ≤ k + 1 ∧ k + 1 ≤ l.length ∧ uI g (l.drop (k + 1)) (k + 1) = uI g (l.drop (i + 1)) (i + 1) := ⟨by omega, h6, hu⟩
          clear hz hu hge
          (repeat (first | refine gq_KCB ?_ | (refine ga_KCB ?_; intro _q ⟨_he, _hq⟩) | refine gd_KCB ?_))
          rw [show l.getD (k : Int).toNat Cel.no = x from hx]
          (repeat (first | refine gq_KCB ?_ | (refine ga_KCB ?_; intro _q ⟨_he, _hq⟩) | refine gd_KCB ?_))
          exact ⟨k + 1, hinv, ⟨by rfl, (by repeat (first | exact trivial | refine ⟨by rfl, ?_⟩ | refine ⟨vI_of (by rfl) (by omega), ?_⟩)), (by repeat (first | exact trivial | refine ⟨by rfl, ?_⟩ | refine ⟨vI_of (by rfl) (by omega), ?_⟩))⟩, (by first | omega | (dsimp only; omega))⟩
        | false =>
          rw [hap] at hu hA
          dsimp only [cond_false] at hu
          rw [← hu, decide_eq_false (by omega)] at hz
          dsimp only [cond_false] at hz
          have hinv : i + 1 ≤ l.length ∧ usl (l.drop (i + 1)) (i + 1) = usl l 0 := ⟨h5, hz⟩
          clear hz hu hge
          (repeat (first | refine gq_KCB ?_ | (refine ga_KCB ?_; intro _q ⟨_he, _hq⟩) | refine gd_KCB ?_))
          rw [show l.getD (k : Int).toNat Cel.no = x from hx]
          (repeat (first | refine gq_KCB ?_ | (refine ga_KCB ?_; intro _q ⟨_he, _hq⟩) | refine gd_KCB ?_))
          exact ⟨i + 1, hinv, ⟨by rfl, (by repeat (first | exact trivial | refine ⟨by rfl, ?_⟩ | refine ⟨vI_of (by rfl) (by omega), ?_⟩)), (by repeat (first | exact trivial | refine ⟨by rfl, ?_⟩ | refine ⟨vI_of (by rfl) (by omega), ?_⟩))⟩, (by first | omega | (dsimp only; omega))⟩
    · have hd2 : decide ((k : Int) < (l.length : Int)) = false := decide_eq_false (by omega)
      rw [List.drop_of_length_le h6, uI] at hu
      rw [← hu, decide_eq_false (by omega)] at hz
      dsimp only [cond_false] at hz
      have hinv : i + 1 ≤ l.length ∧ usl (l.drop (i + 1)) (i + 1) = usl l 0 := ⟨h5, hz⟩
      clear hz hu
      (repeat (first | refine gq_KCB ?_ | (refine ga_KCB ?_; intro _q ⟨_he, _hq⟩) | refine gd_KCB ?_))
      exact ⟨i + 1, hinv, ⟨by rfl, (by repeat (first | exact trivial | refine ⟨by rfl, ?_⟩ | refine ⟨vI_of (by rfl) (by omega), ?_⟩)), (by repeat (first | exact trivial | refine ⟨by rfl, ?_⟩ | refine ⟨vI_of (by rfl) (by omega), ?_⟩))⟩, (by first | omega | (dsimp only; omega))⟩
  · have hd : decide ((i : Int) < (l.length : Int)) = false := decide_eq_false (by omega)
    rw [List.drop_of_length_le h5, usl] at hz
    rw [← hz]
    clear hz
    (repeat (first | refine gq_KCB ?_ | (refine ga_KCB ?_; intro _q ⟨_he, _hq⟩)))
    ((try refine aw_ret ?_); refine ret_auto2 (by rfl) (by rfl) (by rfl) (by repeat (first | exact trivial | refine ⟨by first | rfl | omega, ?_⟩)) ?_ (by repeat (first | exact trivial | refine ⟨by rfl, by rfl, ?_⟩)) (by repeat (first | exact trivial | refine ⟨by rfl, by rfl, ?_⟩)); try rfl)
def uspM (n : Int) (l : List Gt) : Int × Int := bif cokB n l then usl l 0 else (-1, -1)
theorem k_usp (n : Int) (l : List Gt) (hl : l.length ≤ 1000) : Kon Try.prog 48 [vI n, roA l] [] (prO (uspM n l).1 (uspM n l).2) [] [] := by
  unfold uspM
  cases h : cokB n l with
  | false =>
    (refine kon_mk T0ok (fn := Try.f48) (c := Try.f48.body.get rfl) Try.func48 rfl (by rfl) (by rfl) (by rfl) ?_; intro hfit hfe)
    (repeat (first | refine gq_KCB ?_ | (refine ga_KCB ?_; intro _q ⟨_he, _hq⟩)))
    ((try refine aw_ret ?_); refine ret_auto2 (by rfl) (by rfl) (by rfl) (by repeat (first | exact trivial | refine ⟨by first | rfl | omega, ?_⟩)) ?_ (by repeat (first | exact trivial | refine ⟨by rfl, by rfl, ?_⟩)) (by repeat (first | exact trivial | refine ⟨by rfl, by rfl, ?_⟩)); try rfl)
  | true =>
    have hU := k_usl n l (cokB_t h).2.2 hl
    (refine kon_mk T0ok (fn := Try.f48) (c := Try.f48.body.get rfl) Try.func48 rfl (by rfl) (by rfl) (by rfl) ?_; intro hfit hfe)
    (repeat (first | refine gq_KCB ?_ | (refine ga_KCB ?_; intro _q ⟨_he, _hq⟩)))
    ((try refine aw_ret ?_); refine ret_auto2 (by rfl) (by rfl) (by rfl) (by repeat (first | exact trivial | refine ⟨by first | rfl | omega, ?_⟩)) ?_ (by repeat (first | exact trivial | refine ⟨by rfl, by rfl, ?_⟩)) (by repeat (first | exact trivial | refine ⟨by rfl, by rfl, ?_⟩)); try rfl)
end Go.Proofs.Yteagoafamjbpbaa

/- The first useless pair: the reference. -/
namespace Go.Proofs.Yteagoafamjbpbaa
set_option linter.unusedVariables false
set_option linter.unusedSimpArgs false
set_option maxRecDepth 20000
open Go.RowKit
attribute [local irreducible] runA runX AW
theorem gq_KCC {H G : Prop} (k : H) (h : Hid H → G := by (intro hh; (first | (first | ((first | refine r_none ?_ | refine r_gt (by rfl) (by rfl) (by first | rfl | assumption | omega | (simp only [*, Bool.not_false, Bool.not_true]; first | done | fail) | (simp [*]; first | done | fail)) (by rfl) ?_ | refine r_gf (by rfl) (by rfl) (by first | rfl | assumption | omega | (simp only [*, Bool.not_false, Bool.not_true]; first | done | fail) | (simp [*]; first | done | fail)) (by rfl) ?_); (first | fail | ((first | (refine z_op (by rfl) ?_; first | refine z_ok ?_ ?_ | refine z_ex ?_ (by first | exact ft_raw rfl rfl | ((first | refine ft_rp rfl rfl rfl ?_ | refine ft_row rfl rfl rfl ?_ | refine ft_rpF rfl rfl rfl ?_ | refine ft_rowF rfl rfl rfl ?_ | refine up_row rfl rfl ?_ | refine up_rowF rfl rfl rfl ?_ | refine ct_0 rfl ?_ | refine ct_r rfl rfl ?_ | refine ct_c rfl rfl rfl ?_ | refine cu_all rfl ?_ | refine cu_to rfl ?_ | refine cu_from rfl ?_ | refine cu_p rfl ?_ | fail); (first | omega | (simp only [List.length_append, List.length_replicate, List.length_cons, List.length_nil, List.length_set, List.length_take, List.length_drop, true_and]; omega))) | exact up_raw rfl | exact pk_t (by first | rfl | assumption | omega | (simp only [*, Bool.not_false, Bool.not_true]; first | done | fail) | (simp [*]; first | done | fail)) rfl | exact pk_f (by first | rfl | assumption | omega | (simp only [*, Bool.not_false, Bool.not_true]; first | done | fail) | (simp [*]; first | done | fail)) rfl | fail | exact rw_raw | exact pu_cv (fun w => rfl) (by omega) | exact pu_of (fun w => rfl) rfl | exact be_of (fun w => rfl) | exact nc_of (fun _ _ _ _ => rfl) rfl | exact bu_of (fun w => rfl) rfl | (first | exact pu_of (fun w => eq_gate _ _ _ _ _ _ _ _ _ _ w) rfl)) ?_) | ((first | refine q_callE wsT wsZ (by rfl) ?_ | refine q_callVE wsT (by rfl) (by rfl) ?_); refine ⟨_, _, _, (by first | assumption), _, by rfl, ?_, ?_⟩)); focus (first | exact trivial | fail | exact rfl | (first | omega | (simp only [List.length_append, List.length_replicate, List.length_cons, List.length_nil, List.length_set, List.length_take, List.length_drop, true_and]; omega)) | exact cvB (fun w => rfl) | ((repeat' (first | exact rfl | exact cV_len _ | exact cV_ln rfl (by omega) | exact Cel.pos | omega | exact trivial | refine And.intro ?_ ?_)); done) | (simp [*]; done) | (simp; omega))) | fail)) | refine r_nt (by rfl) (by rfl) (by first | rfl | assumption | omega | (simp only [*, Bool.not_false, Bool.not_true]; first | done | fail) | (simp [*]; first | done | fail)) (by rfl) ?_ | refine r_nf (by rfl) (by rfl) (by first | rfl | assumption | omega | (simp only [*, Bool.not_false, Bool.not_true]; first | done | fail) | (simp [*]; first | done | fail)) (by rfl) ?_ | refine r_gu (by rfl) (by rfl) (by rfl) ?_ | refine r_nil ?_) | (first | refine aw_seq ?_ | refine aw_ct (by rfl) (by first | rfl | assumption | omega | (simp only [*, Bool.not_false, Bool.not_true]; first | done | fail) | (simp [*]; first | done | fail)) ?_ | refine aw_cf (by rfl) (by first | rfl | assumption | omega | (simp only [*, Bool.not_false, Bool.not_true]; first | done | fail) | (simp [*]; first | done | fail)) ?_ | refine aw_block ?_ | refine aw_region T0ok cfU_ok (by rfl) ?_ | refine aw_skip ?_ | refine aw_exit ?_ | refine ra_step ?_)); (repeat (first | (first | ((first | refine r_none ?_ | refine r_gt (by rfl) (by rfl) (by first | rfl | assumption | omega | (simp only [*, Bool.not_false, Bool.not_true]; first | done | fail) | (simp [*]; first | done | fail)) (by rfl) ?_ | refine r_gf (by rfl) (by rfl) (by first | rfl | assumption | omega | (simp only [*, Bool.not_false, Bool.not_true]; first | done | fail) | (simp [*]; first | done | fail)) (by rfl) ?_); (first | fail | ((first | (refine z_op (by rfl) ?_; first | refine z_ok ?_ ?_ | refine z_ex ?_ (by first | exact ft_raw rfl rfl | ((first | refine ft_rp rfl rfl rfl ?_ | refine ft_row rfl rfl rfl ?_ | refine ft_rpF rfl rfl rfl ?_ | refine ft_rowF rfl rfl rfl ?_ | refine up_row rfl rfl ?_ | refine up_rowF rfl rfl rfl ?_ | refine ct_0 rfl ?_ | refine ct_r rfl rfl ?_ | refine ct_c rfl rfl rfl ?_ | refine cu_all rfl ?_ | refine cu_to rfl ?_ | refine cu_from rfl ?_ | refine cu_p rfl ?_ | fail); (first | omega | (simp only [List.length_append, List.length_replicate, List.length_cons, List.length_nil, List.length_set, List.length_take, List.length_drop, true_and]; omega))) | exact up_raw rfl | exact pk_t (by first | rfl | assumption | omega | (simp only [*, Bool.not_false, Bool.not_true]; first | done | fail) | (simp [*]; first | done | fail)) rfl | exact pk_f (by first | rfl | assumption | omega | (simp only [*, Bool.not_false, Bool.not_true]; first | done | fail) | (simp [*]; first | done | fail)) rfl | fail | exact rw_raw | exact pu_cv (fun w => rfl) (by omega) | exact pu_of (fun w => rfl) rfl | exact be_of (fun w => rfl) | exact nc_of (fun _ _ _ _ => rfl) rfl | exact bu_of (fun w => rfl) rfl | (first | exact pu_of (fun w => eq_gate _ _ _ _ _ _ _ _ _ _ w) rfl)) ?_) | ((first | refine q_callE wsT wsZ (by rfl) ?_ | refine q_callVE wsT (by rfl) (by rfl) ?_); refine ⟨_, _, _, (by first | assumption), _, by rfl, ?_, ?_⟩)); focus (first | exact trivial | fail | exact rfl | (first | omega | (simp only [List.length_append, List.length_replicate, List.length_cons, List.length_nil, List.length_set, List.length_take, List.length_drop, true_and]; omega)) | exact cvB (fun w => rfl) | ((repeat' (first | exact rfl | exact cV_len _ | exact cV_ln rfl (by omega) | exact Cel.pos | omega | exact trivial | refine And.intro ?_ ?_)); done) | (simp [*]; done) | (simp; omega))) | fail)) | refine r_nt (by rfl) (by rfl) (by first | rfl | assumption | omega | (simp only [*, Bool.not_false, Bool.not_true]; first | done | fail) | (simp [*]; first | done | fail)) (by rfl) ?_ | refine r_nf (by rfl) (by rfl) (by first | rfl | assumption | omega | (simp only [*, Bool.not_false, Bool.not_true]; first | done | fail) | (simp [*]; first | done | fail)) (by rfl) ?_ | refine r_gu (by rfl) (by rfl) (by rfl) ?_ | refine r_nil ?_) | (first | refine aw_seq ?_ | refine aw_ct (by rfl) (by first | rfl | assumption | omega | (simp only [*, Bool.not_false, Bool.not_true]; first | done | fail) | (simp [*]; first | done | fail)) ?_ | refine aw_cf (by rfl) (by first | rfl | assumption | omega | (simp only [*, Bool.not_false, Bool.not_true]; first | done | fail) | (simp [*]; first | done | fail)) ?_ | refine aw_block ?_ | refine aw_region T0ok cfU_ok (by rfl) ?_ | refine aw_skip ?_ | refine aw_exit ?_ | refine ra_step ?_))); exact hh.out)) : G := h ⟨k⟩
theorem ga_KCC {H G : Prop} (k : H) (h : Hid H → G := by (intro hh; (first | refine r_none ?_ | refine r_gt (by rfl) (by rfl) (by first | rfl | assumption | omega | (simp only [*, Bool.not_false, Bool.not_true]; first | done | fail) | (simp [*]; first | done | fail)) (by rfl) ?_ | refine r_gf (by rfl) (by rfl) (by first | rfl | assumption | omega | (simp only [*, Bool.not_false, Bool.not_true]; first | done | fail) | (simp [*]; first | done | fail)) (by rfl) ?_); refine z_op (by rfl) ?_; refine z_al ?_ hh.out; focus (first | exact trivial | fail | exact rfl | (first | omega | (simp only [List.length_append, List.length_replicate, List.length_cons, List.length_nil, List.length_set, List.length_take, List.length_drop, true_and]; omega)) | exact cvB (fun w => rfl) | ((repeat' (first | exact rfl | exact cV_len _ | exact cV_ln rfl (by omega) | exact Cel.pos | omega | exact trivial | refine And.intro ?_ ?_)); done) | (simp [*]; done) | (simp; omega)))) : G := h ⟨k⟩
theorem gs_KCC {H G : Prop} (k : H) (h : Hid H → G := by (intro hh; (first | ((first | refine r_none ?_ | refine r_gt (by rfl) (by rfl) (by first | rfl | assumption | omega | (simp only [*, Bool.not_false, Bool.not_true]; first | done | fail) | (simp [*]; first | done | fail)) (by rfl) ?_ | refine r_gf (by rfl) (by rfl) (by first | rfl | assumption | omega | (simp only [*, Bool.not_false, Bool.not_true]; first | done | fail) | (simp [*]; first | done | fail)) (by rfl) ?_); (first | fail | ((first | (refine z_op (by rfl) ?_; first | refine z_ok ?_ ?_ | refine z_ex ?_ (by first | exact ft_raw rfl rfl | ((first | refine ft_rp rfl rfl rfl ?_ | refine ft_row rfl rfl rfl ?_ | refine ft_rpF rfl rfl rfl ?_ | refine ft_rowF rfl rfl rfl ?_ | refine up_row rfl rfl ?_ | refine up_rowF rfl rfl rfl ?_ | refine ct_0 rfl ?_ | refine ct_r rfl rfl ?_ | refine ct_c rfl rfl rfl ?_ | refine cu_all rfl ?_ | refine cu_to rfl ?_ | refine cu_from rfl ?_ | refine cu_p rfl ?_ | fail); (first | omega | (simp only [List.length_append, List.length_replicate, List.length_cons, List.length_nil, List.length_set, List.length_take, List.length_drop, true_and]; omega))) | exact up_raw rfl | exact pk_t (by first | rfl | assumption | omega | (simp only [*, Bool.not_false, Bool.not_true]; first | done | fail) | (simp [*]; first | done | fail)) rfl | exact pk_f (by first | rfl | assumption | omega | (simp only [*, Bool.not_false, Bool.not_true]; first | done | fail) | (simp [*]; first | done | fail)) rfl | fail | exact rw_raw | exact pu_cv (fun w => rfl) (by omega) | exact pu_of (fun w => rfl) rfl | exact be_of (fun w => rfl) | exact nc_of (fun _ _ _ _ => rfl) rfl | exact bu_of (fun w => rfl) rfl | (first | exact pu_of (fun w => eq_gate _ _ _ _ _ _ _ _ _ _ w) rfl)) ?_) | ((first | refine q_callE wsT wsZ (by rfl) ?_ | refine q_callVE wsT (by rfl) (by rfl) ?_); refine ⟨_, _, _, (by first | assumption), _, by rfl, ?_, ?_⟩)); focus (first | exact trivial | fail | exact rfl | (first | omega | (simp only [List.length_append, List.length_replicate, List.length_cons, List.length_nil, List.length_set, List.length_take, List.length_drop, true_and]; omega)) | exact cvB (fun w => rfl) | ((repeat' (first | exact rfl | exact cV_len _ | exact cV_ln rfl (by omega) | exact Cel.pos | omega | exact trivial | refine And.intro ?_ ?_)); done) | (simp [*]; done) | (simp; omega))) | fail)) | refine r_nt (by rfl) (by rfl) (by first | rfl | assumption | omega | (simp only [*, Bool.not_false, Bool.not_true]; first | done | fail) | (simp [*]; first | done | fail)) (by rfl) ?_ | refine r_nf (by rfl) (by rfl) (by first | rfl | assumption | omega | (simp only [*, Bool.not_false, Bool.not_true]; first | done | fail) | (simp [*]; first | done | fail)) (by rfl) ?_ | refine r_gu (by rfl) (by rfl) (by rfl) ?_ | refine r_nil ?_); (repeat (first | ((first | refine r_none ?_ | refine r_gt (by rfl) (by rfl) (by first | rfl | assumption | omega | (simp only [*, Bool.not_false, Bool.not_true]; first | done | fail) | (simp [*]; first | done | fail)) (by rfl) ?_ | refine r_gf (by rfl) (by rfl) (by first | rfl | assumption | omega | (simp only [*, Bool.not_false, Bool.not_true]; first | done | fail) | (simp [*]; first | done | fail)) (by rfl) ?_); (first | fail | ((first | (refine z_op (by rfl) ?_; first | refine z_ok ?_ ?_ | refine z_ex ?_ (by first | exact ft_raw rfl rfl | ((first | refine ft_rp rfl rfl rfl ?_ | refine ft_row rfl rfl rfl ?_ | refine ft_rpF rfl rfl rfl ?_ | refine ft_rowF rfl rfl rfl ?_ | refine up_row rfl rfl ?_ | refine up_rowF rfl rfl rfl ?_ | refine ct_0 rfl ?_ | refine ct_r rfl rfl ?_ | refine ct_c rfl rfl rfl ?_ | refine cu_all rfl ?_ | refine cu_to rfl ?_ | refine cu_from rfl ?_ | refine cu_p rfl ?_ | fail); (first | omega | (simp only [List.length_append, List.length_replicate, List.length_cons, List.length_nil, List.length_set, List.length_take, List.length_drop, true_and]; omega))) | exact up_raw rfl | exact pk_t (by first | rfl | assumption | omega | (simp only [*, Bool.not_false, Bool.not_true]; first | done | fail) | (simp [*]; first | done | fail)) rfl | exact pk_f (by first | rfl | assumption | omega | (simp only [*, Bool.not_false, Bool.not_true]; first | done | fail) | (simp [*]; first | done | fail)) rfl | fail | exact rw_raw | exact pu_cv (fun w => rfl) (by omega) | exact pu_of (fun w => rfl) rfl | exact be_of (fun w => rfl) | exact nc_of (fun _ _ _ _ => rfl) rfl | exact bu_of (fun w => rfl) rfl | (first | exact pu_of (fun w => eq_gate _ _ _ _ _ _ _ _ _ _ w) rfl)) ?_) | ((first | refine q_callE wsT wsZ (by rfl) ?_ | refine q_callVE wsT (by rfl) (by rfl) ?_); refine ⟨_, _, _, (by first | assumption), _, by rfl, ?_, ?_⟩)); focus (first | exact trivial | fail | exact rfl | (first | omega | (simp only [List.length_append, List.length_replicate, List.length_cons, List.length_nil, List.length_set, List.length_take, List.length_drop, true_and]; omega)) | exact cvB (fun w => rfl) | ((repeat' (first | exact rfl | exact cV_len _ | exact cV_ln rfl (by omega) | exact Cel.pos | omega | exact trivial | refine And.intro ?_ ?_)); done) | (simp [*]; done) | (simp; omega))) | fail)) | refine r_nt (by rfl) (by rfl) (by first | rfl | assumption | omega | (simp only [*, Bool.not_false, Bool.not_true]; first | done | fail) | (simp [*]; first | done | fail)) (by rfl) ?_ | refine r_nf (by rfl) (by rfl) (by first | rfl | assumption | omega | (simp only [*, Bool.not_false, Bool.not_true]; first | done | fail) | (simp [*]; first | done | fail)) (by rfl) ?_ | refine r_gu (by rfl) (by rfl) (by rfl) ?_ | refine r_nil ?_)); exact hh.out)) : G := h ⟨k⟩
theorem gc_KCC {H G : Prop} (k : H) (h : Hid H → G := by (intro hh; (first | refine aw_seq ?_ | refine aw_ct (by rfl) (by first | rfl | assumption | omega | (simp only [*, Bool.not_false, Bool.not_true]; first | done | fail) | (simp [*]; first | done | fail)) ?_ | refine aw_cf (by rfl) (by first | rfl | assumption | omega | (simp only [*, Bool.not_false, Bool.not_true]; first | done | fail) | (simp [*]; first | done | fail)) ?_ | refine aw_block ?_ | refine aw_region T0ok cfU_ok (by rfl) ?_ | refine aw_skip ?_ | refine aw_exit ?_ | refine ra_step ?_); (repeat (first | refine aw_seq ?_ | refine aw_ct (by rfl) (by first | rfl | assumption | omega | (simp only [*, Bool.not_false, Bool.not_true]; first | done | fail) | (simp [*]; first | done | fail)) ?_ | refine aw_cf (by rfl) (by first | rfl | assumption | omega | (simp only [*, Bool.not_false, Bool.not_true]; first | done | fail) | (simp [*]; first | done | fail)) ?_ | refine aw_block ?_ | refine aw_region T0ok cfU_ok (by rfl) ?_ | refine aw_skip ?_ | refine aw_exit ?_ | refine ra_step ?_)); exact hh.out)) : G := h ⟨k⟩
theorem gd_KCC {H G : Prop} (k : H) (h : Hid H → G := by (intro hh; (refine aw_draw mixed T0ok cfU_ok [] (by rfl) (by kernel_rfl) ?_); exact hh.out)) : G := h ⟨k⟩
abbrev prS (x y : Int) : AV := .tup [.one (.v (.int .i64 x)), .one (.v (.int .i64 y))]
/-- The gates between. -/
def seg (l : List Gt) (a b : Nat) : List Gt := (l.drop (a + 1)).take (b - (a + 1))
theorem seg_succ {l : List Gt} {a b : Nat} (h : a + 1 ≤ b) (hb : b < l.length) : seg l a (b + 1) = seg l a b ++ [l.getD b Cel.no] := by
  have e : l.getD b Cel.no = l[b] := by simp [List.getD_eq_getElem?_getD, hb]
  unfold seg
  rw [show b + 1 - (a + 1) = (b - (a + 1)) + 1 by omega]
  have hlt : b - (a + 1) < (l.drop (a + 1)).length := by rw [List.length_drop]; omega
  rw [List.take_succ_eq_append_getElem hlt, List.getElem_drop, e]
  congr 3; omega
def frB (n : Int) (l : List Gt) (a b k : Nat) : Bool := geq (l.getD a Cel.no) (l.getD b Cel.no) && (seg l a k).all (fun x => geq x (l.getD b Cel.no) || apM n x (l.getD b Cel.no))
theorem frB_start (n : Int) (l : List Gt) (a b : Nat) : frB n l a b (a + 1) = geq (l.getD a Cel.no) (l.getD b Cel.no) := by
  unfold frB seg; simp
theorem frB_succ {n : Int} {l : List Gt} {a b k : Nat} (h : a + 1 ≤ k) (hk : k < l.length) : frB n l a b (k + 1) = (frB n l a b k && (geq (l.getD k Cel.no) (l.getD b Cel.no) || apM n (l.getD k Cel.no) (l.getD b Cel.no))) := by
  unfold frB
  rw [seg_succ h hk, List.all_append]
  simp [Bool.and_assoc]
theorem frB_false {n : Int} {l : List Gt} {a b : Nat} : ∀ (d k : Nat), a + 1 ≤ k → k + d ≤ l.length → frB n l a b k = false → frB n l a b (k + d) = false
  | 0, k, _, _, h => h
  | d + 1, k, h1, h2, h => by
    have := frB_false (n := n) (l := l) (a := a) (b := b) d (k + 1) (by omega) (by omega) (by rw [frB_succ h1 (by omega), h]; rfl)
    rwa [show k + (d + 1) = k + 1 + d by omega]
/-- What is known in the middle loop. -/
def Mid (l : List Gt) (a b : Nat) : Prop := ((∀ x ∈ seg l a b, geq x (l.getD a Cel.no) = false ∧ apaB x (l.getD a Cel.no) = true) ∧ uI (l.getD a Cel.no) (l.drop b) b = uI (l.getD a Cel.no) (l.drop (a + 1)) (a + 1)) ∨
  ((∃ x ∈ seg l a b, geq x (l.getD a Cel.no) = false ∧ apaB x (l.getD a Cel.no) = false) ∧ uI (l.getD a Cel.no) (l.drop (a + 1)) (a + 1) = -1)
theorem mid_start (l : List Gt) (a : Nat) : Mid l a (a + 1) := .inl ⟨fun x hx => by unfold seg at hx; simp at hx, rfl⟩
theorem apM_ok {n : Int} {x y : Gt} (hx : gok n x = true) (hy : gok n y = true) : apM n x y = apaB x y := by unfold apM; rw [hx, hy]; rfl
theorem seg_ok {n : Int} {l : List Gt} (h : l.all (gok n) = true) {a b : Nat} : ∀ x ∈ seg l a b, gok n x = true := by
  intro x hx
  rw [List.all_eq_true] at h
  exact h x (List.mem_of_mem_drop (List.mem_of_mem_take hx))
theorem mid_found {n : Int} {l : List Gt} (h : l.all (gok n) = true) {a b : Nat} (ha : a + 1 ≤ b) (hb : b < l.length) (hm : Mid l a b) (hf : frB n l a b b = true) : usl (l.drop a) a = ((a : Int), (b : Int)) := by
  unfold frB at hf
  rw [Bool.and_eq_true] at hf
  obtain ⟨h1, h2⟩ := hf
  have e : l.getD a Cel.no = l.getD b Cel.no := geq_iff.1 h1
  rcases hm with ⟨m1, m2⟩ | ⟨⟨x, hx, m1, m2⟩, _⟩
  · have hu : uI (l.getD a Cel.no) (l.drop b) b = (b : Int) := by
      rw [uI_drop hb, ← e, geq_refl]; rfl
    rw [usl_drop (by omega), ← m2, hu, decide_eq_true (by omega)]; rfl
  · have := List.all_eq_true.1 h2 x hx
    rw [← e, m1, Bool.false_or, apM_ok (seg_ok h x hx) (all_at h (by omega)), m2] at this
    cases this
theorem mid_next {n : Int} {l : List Gt} (h : l.all (gok n) = true) {a b : Nat} (ha : a + 1 ≤ b) (hb : b < l.length) (hm : Mid l a b) (hf : frB n l a b b = false) : Mid l a (b + 1) := by
  unfold Mid
  rw [seg_succ ha hb]
  rcases hm with ⟨m1, m2⟩ | ⟨⟨x, hx, m1, m2⟩, m3⟩
  · have hne : geq (l.getD b Cel.no) (l.getD a Cel.no) = false := by
      cases hq : geq (l.getD b Cel.no) (l.getD a Cel.no) with
      | false => rfl
      | true =>
        have e : l.getD b Cel.no = l.getD a Cel.no := geq_iff.1 hq
        have : frB n l a b b = true := by
          unfold frB
          rw [e, geq_refl, Bool.true_and, List.all_eq_true]
          intro x hx
          rw [apM_ok (seg_ok h x hx) (all_at h (by omega)), (m1 x hx).2, Bool.or_true]
        rw [this] at hf; cases hf
    rw [uI_drop hb, hne] at m2
    dsimp only [cond_false] at m2
    cases hap : apaB (l.getD b Cel.no) (l.getD a Cel.no) with
    | true =>
      rw [hap] at m2
      left
      refine ⟨fun x hx => ?_, m2⟩
      rcases List.mem_append.1 hx with hx | hx
      · exact m1 x hx
      · rw [List.mem_singleton.1 hx]; exact ⟨hne, hap⟩
    | false =>
      rw [hap] at m2
      right
      exact ⟨⟨_, List.mem_append_right _ (List.mem_singleton.2 rfl), hne, hap⟩, m2.symm⟩
  · exact .inr ⟨⟨x, List.mem_append_left _ hx, m1, m2⟩, m3⟩
theorem mid_end {l : List Gt} {a : Nat} (ha : a < l.length) (hm : Mid l a l.length) : usl (l.drop a) a = usl (l.drop (a + 1)) (a + 1) := by
  have hu : uI (l.getD a Cel.no) (l.drop (a + 1)) (a + 1) = -1 := by
    rcases hm with ⟨_, m2⟩ | ⟨_, m2⟩
    · rw [List.drop_of_length_le (Nat.le_refl _), uI] at m2; exact m2.symm
    · exact m2
  rw [usl_drop ha, hu]; rfl
theorem k_uspS0 (n : Int) (l : List Gt) (hl : l.length ≤ 1000) (hr : -9223372036854775808 ≤ n ∧ n ≤ 9223372036854775807) (h : cokB n l = false) : Kon Try.prog 88 [vI n, roA l] [] (prS (-1) (-1)) [] [] := by
  have hC := k_cvS n l (by omega) hr
  rw [h] at hC
  cases hd : decide (((0 : Nat) : Int) < (l.length : Int)) with
  | true =>
    have hd2 : decide (0 < (l.length : Int)) = true := hd
    (refine kon_mk T0ok (fn := Try.f88) (c := Try.f88.body.get rfl) Try.func88 rfl (by rfl) (by rfl) (by rfl) ?_; intro hfit hfe)
    (repeat (first | refine gq_KCC ?_ | (refine ga_KCC ?_; intro _q ⟨_he, _hq⟩)))
    refine aw_unroll 1 ?_
    (repeat (first | refine gq_KCC ?_ | (refine ga_KCC ?_; intro _q ⟨_he, _hq⟩)))
    ((try refine aw_ret ?_); refine ret_auto2 (by rfl) (by rfl) (by rfl) (by repeat (first | exact trivial | refine ⟨by first | rfl | omega, ?_⟩)) ?_ (by repeat (first | exact trivial | refine ⟨by rfl, by rfl, ?_⟩)) (by repeat (first | exact trivial | refine ⟨by rfl, by rfl, ?_⟩)); try rfl)
  | false =>
    have hd2 : decide (0 < (l.length : Int)) = false := hd
    (refine kon_mk T0ok (fn := Try.f88) (c := Try.f88.body.get rfl) Try.func88 rfl (by rfl) (by rfl) (by rfl) ?_; intro hfit hfe)
    (repeat (first | refine gq_KCC ?_ | (refine ga_KCC ?_; intro _q ⟨_he, _hq⟩)))
    refine aw_unroll 1 ?_
    (repeat (first | refine gq_KCC ?_ | (refine ga_KCC ?_; intro _q ⟨_he, _hq⟩)))
    ((try refine aw_ret ?_); refine ret_auto2 (by rfl) (by rfl) (by rfl) (by repeat (first | exact trivial | refine ⟨by first | rfl | omega, ?_⟩)) ?_ (by repeat (first | exact trivial | refine ⟨by rfl, by rfl, ?_⟩)) (by repeat (first | exact trivial | refine ⟨by rfl, by rfl, ?_⟩)); try rfl)
set_option maxHeartbeats 4000000 in
theorem k_uspS (n : Int) (l : List Gt) (h : cokB n l = true) : Kon Try.prog 88 [vI n, roA l] [] (prS (usl l 0).1 (usl l 0).2) [] [] := by
  obtain ⟨hn, hl, ha⟩ := cokB_t h
  have hC := k_cvS n l (by omega) (by omega)
  rw [h] at hC
  (refine kon_mk T0ok (fn := Try.f88) (c := Try.f88.body.get rfl) Try.func88 rfl (by rfl) (by rfl) (by rfl) ?_; intro hfit hfe)
  (repeat (first | refine gq_KCC ?_ | (refine ga_KCC ?_; intro _q ⟨_he, _hq⟩)))
  (refine aw_rd [0, 1, 4, 5] [] (fun i : Nat => [(6, vI i)]) (fun _ => []) (fun i => i ≤ l.length ∧ usl (l.drop i) i = usl l 0) (fun i => l.length - i) 0 (by rfl) (by rfl) ?_ (by rfl) (by repeat (first | exact trivial | refine ⟨by rfl, ?_⟩ | refine ⟨vI_of (by rfl) (by omega), ?_⟩)) (by repeat (first | exact trivial | refine ⟨by rfl, ?_⟩ | refine ⟨vI_of (by rfl) (by omega), ?_⟩)) ?_)
  · exact ⟨Nat.zero_le _, by rw [List.drop_zero]⟩
  rintro i ⟨hi, hz⟩
  rcases Nat.lt_or_ge i l.length with h5 | h5
  · have hd : decide ((i : Int) < (l.length : Int)) = true := decide_eq_true (by omega)
    (repeat (first | refine gq_KCC ?_ | (refine ga_KCC ?_; intro _q ⟨_he, _hq⟩)))
    (refine aw_rd [0, 1, 4, 5, 6] [] (fun b : Nat => [(7, vI b)]) (fun _ => []) (fun b => i + 1 ≤ b ∧ b ≤ l.length ∧ Mid l i b) (fun b => l.length - b) (i + 1) (by rfl) (by rfl) ?_ (by rfl) (by repeat (first | exact trivial | refine ⟨by rfl, ?_⟩ | refine ⟨vI_of (by rfl) (by omega), ?_⟩)) (by repeat (first | exact trivial | refine ⟨by rfl, ?_⟩ | refine ⟨vI_of (by rfl) (by omega), ?_⟩)) ?_)
    · exact ⟨Nat.le_refl _, h5, mid_start l i⟩
    rintro b ⟨hb1, hb2, hm⟩
    rcases Nat.lt_or_ge b l.length with h6 | h6
    · have hd2 : decide ((b : Int) < (l.length : Int)) = true := decide_eq_true (by omega)
      (repeat (first | refine gq_KCC ?_ | (refine ga_KCC ?_; intro _q ⟨_he, _hq⟩)))
      (refine aw_draw mixed T0ok cfU_ok [] (by rfl) (by kernel_rfl) ?_)
      (repeat (first | refine gq_KCC ?_ | (refine ga_KCC ?_; intro _q ⟨_he, _hq⟩)))
      refine aw_rd [0, 1, 4, 5, 6, 7] [] (fun g : Nat × Bool => [(8, vB g.2), (9, vI g.1)]) (fun _ => []) (fun g => (i + 1 ≤ g.1 ∧ g.1 ≤ b) ∧ g.2 = frB n l i b g.1) (fun g => b - g.1) (i + 1, geq (l.getD i Cel.no) (l.getD b Cel.no)) (by rfl) (by rfl) ?_ (by rfl) (by repeat (first | exact trivial | refine ⟨by rfl, ?_⟩ | refine ⟨vI_of (by rfl) (by omega), ?_⟩)) (by repeat (first | exact trivial | refine ⟨by rfl, ?_⟩ | refine ⟨vI_of (by rfl) (by omega), ?_⟩)) ?_
      · exact ⟨⟨Nat.le_refl _, hb1⟩, (frB_start n l i b).symm⟩
      rintro ⟨k, f⟩ ⟨⟨hk1, hk2⟩, hf⟩
      dsimp only at hk1 hk2 hf ⊢
      have fin : (k = b ∨ f = false) → f = frB n l i b b := by
        rintro (rfl | rfl)
        · exact hf
        · have := frB_false (n := n) (l := l) (a := i) (b := b) (b - k) k hk1 (by omega) hf.symm
          rw [show k + (b - k) = b by omega] at this
          exact this.symm
      cases hkb : decide ((k : Int) < (b : Int)) with
      | false =>
        have hk3 : k = b := by have := of_decide_eq_false hkb; omega
        have hff := fin (.inl hk3)
        clear fin
        cases f with
        | true =>
          have hu := mid_found ha hb1 h6 hm hff.symm
          rw [← hz, hu]
          clear hz hu hm hff hf
          (repeat (first | refine gq_KCC ?_ | (refine ga_KCC ?_; intro _q ⟨_he, _hq⟩)))
          ((try refine aw_ret ?_); refine ret_auto2 (by rfl) (by rfl) (by rfl) (by repeat (first | exact trivial | refine ⟨by first | rfl | omega, ?_⟩)) ?_ (by repeat (first | exact trivial | refine ⟨by rfl, by rfl, ?_⟩)) (by repeat (first | exact trivial | refine ⟨by rfl, by rfl, ?_⟩)); try rfl)
        | false =>
          have hm2 := mid_next ha hb1 h6 hm hff.symm
          have hinv : i + 1 ≤ b + 1 ∧ b + 1 ≤ l.length ∧ Mid l i (b + 1) := ⟨by omega, h6, hm2⟩
          clear hz hm hff hf hm2
          (repeat (first | refine gq_KCC ?_ | (refine ga_KCC ?_; intro _q ⟨_he, _hq⟩)))
          exact ⟨b + 1, hinv, ⟨by rfl, (by repeat (first | exact trivial | refine ⟨by rfl, ?_⟩ | refine ⟨vI_of (by rfl) (by omega), ?_⟩)), (by repeat (first | exact trivial | refine ⟨by rfl, ?_⟩ | refine ⟨vI_of (by rfl) (by omega), ?_⟩))⟩, (by first | omega | (dsimp only; omega))⟩
      | true =>
        have hk3 : k < b := by have := of_decide_eq_true hkb; omega
        cases f with
        | false =>
          have hff := fin (.inr rfl)
          clear fin
          have hm2 := mid_next ha hb1 h6 hm hff.symm
          have hinv : i + 1 ≤ b + 1 ∧ b + 1 ≤ l.length ∧ Mid l i (b + 1) := ⟨by omega, h6, hm2⟩
          clear hz hm hff hf hm2
          (repeat (first | refine gq_KCC ?_ | (refine ga_KCC ?_; intro _q ⟨_he, _hq⟩)))
          exact ⟨b + 1, hinv, ⟨by rfl, (by repeat (first | exact trivial | refine ⟨by rfl, ?_⟩ | refine ⟨vI_of (by rfl) (by omega), ?_⟩)), (by repeat (first | exact trivial | refine ⟨by rfl, ?_⟩ | refine ⟨vI_of (by rfl) (by omega), ?_⟩))⟩, (by first | omega | (dsimp only; omega))⟩
        | true =>
          clear fin
          have hs := frB_succ (n := n) (l := l) (a := i) (b := b) hk1 (show k < l.length by omega)
          rw [← hf, Bool.true_and] at hs
          have hA := k_apS n (l.getD k Cel.no) (l.getD b Cel.no) (by omega)
          cases hge : geq (l.getD k Cel.no) (l.getD b Cel.no) with
          | true =>
            have hge' : ((l.getD (k : Int).toNat Cel.no : Gt).k == (l.getD (b : Int).toNat Cel.no : Gt).k && ((l.getD (k : Int).toNat Cel.no : Gt).a == (l.getD (b : Int).toNat Cel.no : Gt).a && ((l.getD (k : Int).toNat Cel.no : Gt).b == (l.getD (b : Int).toNat Cel.no : Gt).b && (l.getD (k : Int).toNat Cel.no : Gt).c == (l.getD (b : Int).toNat Cel.no : Gt).c))) = true := hge
            rw [hge, Bool.true_or] at hs
            have hinv : (i + 1 ≤ k + 1 ∧ k + 1 ≤ b) ∧ true = frB n l i b (k + 1) := ⟨by omega, hs.symm⟩
            clear hz hm hf hge hs
            (repeat (first | refine gq_KCC ?_ | (refine ga_KCC ?_; intro _q ⟨_he, _hq⟩) | refine gd_KCC ?_))
            exact ⟨(k + 1, true), hinv, ⟨by rfl, (by repeat (first | exact trivial | refine ⟨by rfl, ?_⟩ | refine ⟨vI_of (by rfl) (by omega), ?_⟩)), (by repeat (first | exact trivial | refine ⟨by rfl, ?_⟩ | refine ⟨vI_of (by rfl) (by omega), ?_⟩))⟩, (by first | omega | (dsimp only; omega))⟩
          | false =>
            have hge' : ((l.getD (k : Int).toNat Cel.no : Gt).k == (l.getD (b : Int).toNat Cel.no : Gt).k && ((l.getD (k : Int).toNat Cel.no : Gt).a == (l.getD (b : Int).toNat Cel.no : Gt).a && ((l.getD (k : Int).toNat Cel.no : Gt).b == (l.getD (b : Int).toNat Cel.no : Gt).b && (l.getD (k : Int).toNat Cel.no : Gt).c == (l.getD (b : Int).toNat Cel.no : Gt).c))) = false := hge
            rw [hge, Bool.false_or] at hs
            have hinv : (i + 1 ≤ k + 1 ∧ k + 1 ≤ b) ∧ apM n (l.getD k Cel.no) (l.getD b Cel.no) = frB n l i b (k + 1) := ⟨by omega, hs.symm⟩
            clear hz hm hf hge hs
            (repeat (first | refine gq_KCC ?_ | (refine ga_KCC ?_; intro _q ⟨_he, _hq⟩) | refine gd_KCC ?_))
            exact ⟨(k + 1, apM n (l.getD k Cel.no) (l.getD b Cel.no)), hinv, ⟨by rfl, (by repeat (first | exact trivial | refine ⟨by rfl, ?_⟩ | refine ⟨vI_of (by rfl) (by omega), ?_⟩)), (by repeat (first | exact trivial | refine ⟨by rfl, ?_⟩ | refine ⟨vI_of (by rfl) (by omega), ?_⟩))⟩, (by first | omega | (dsimp only; omega))⟩
    · have hd2 : decide ((b : Int) < (l.length : Int)) = false := decide_eq_false (by omega)
      have hbl : b = l.length := by omega
      subst hbl
      have he := mid_end h5 hm
      have hinv : i + 1 ≤ l.length ∧ usl (l.drop (i + 1)) (i + 1) = usl l 0 := ⟨h5, he.symm.trans hz⟩
      clear hz hm he
      (repeat (first | refine gq_KCC ?_ | (refine ga_KCC ?_; intro _q ⟨_he, _hq⟩)))
      exact ⟨i + 1, hinv, ⟨by rfl, (by repeat (first | exact trivial | refine ⟨by rfl, ?_⟩ | refine ⟨vI_of (by rfl) (by omega), ?_⟩)), (by repeat (first | exact trivial | refine ⟨by rfl, ?_⟩ | refine ⟨vI_of (by rfl) (by omega), ?_⟩))⟩, (by first | omega | (dsimp only; omega))⟩
  · have hd : decide ((i : Int) < (l.length : Int)) = false := decide_eq_false (by omega)
    rw [List.drop_of_length_le h5, usl] at hz
    rw [← hz]
    clear hz
    (repeat (first | refine gq_KCC ?_ | (refine ga_KCC ?_; intro _q ⟨_he, _hq⟩)))
    ((try refine aw_ret ?_); refine ret_auto2 (by rfl) (by rfl) (by rfl) (by repeat (first | exact trivial | refine ⟨by first | rfl | omega, ?_⟩)) ?_ (by repeat (first | exact trivial | refine ⟨by rfl, by rfl, ?_⟩)) (by repeat (first | exact trivial | refine ⟨by rfl, by rfl, ?_⟩)); try rfl)
end Go.Proofs.Yteagoafamjbpbaa

/- spec.l2Drop, spec.CircuitShort (some circuit), the draw of FnSameCircuit. -/



namespace Go.Proofs.Yteagoafamjbpbaa
set_option linter.unusedVariables false
set_option linter.unusedSimpArgs false
set_option maxRecDepth 20000
open Go.RowKit
attribute [local irreducible] runA runX AW
def wsTP : WsT := [(89, ([], true)), (46, ([], true))]
theorem gq_KBP {H G : Prop} (k : H) (h : Hid H → G := by (intro hh; (first | (first | ((first | refine r_none ?_ | refine r_gt (by rfl) (by rfl) (by first | rfl | assumption | omega | (simp only [*, Bool.not_false, Bool.not_true]; first | done | fail) | (simp [*]; first | done | fail)) (by rfl) ?_ | refine r_gf (by rfl) (by rfl) (by first | rfl | assumption | omega | (simp only [*, Bool.not_false, Bool.not_true]; first | done | fail) | (simp [*]; first | done | fail)) (by rfl) ?_); (first | fail | ((first | (refine z_op (by rfl) ?_; first | refine z_ok ?_ ?_ | refine z_ex ?_ (by first | exact ft_raw rfl rfl | ((first | refine ft_rp rfl rfl rfl ?_ | refine ft_row rfl rfl rfl ?_ | refine ft_rpF rfl rfl rfl ?_ | refine ft_rowF rfl rfl rfl ?_ | refine up_row rfl rfl ?_ | refine up_rowF rfl rfl rfl ?_ | refine ct_0 rfl ?_ | refine ct_r rfl rfl ?_ | refine ct_c rfl rfl rfl ?_ | refine cu_all rfl ?_ | refine cu_to rfl ?_ | refine cu_from rfl ?_ | refine cu_p rfl ?_ | (first | refine mk_0 Int rfl rfl ?_ | refine mk_0 Gt rfl rfl ?_)); (first | omega | (simp only [List.length_append, List.length_replicate, List.length_cons, List.length_nil, List.length_set, List.length_take, List.length_drop, true_and]; omega))) | exact up_raw rfl | exact pk_t (by first | rfl | assumption | omega | (simp only [*, Bool.not_false, Bool.not_true]; first | done | fail) | (simp [*]; first | done | fail)) rfl | exact pk_f (by first | rfl | assumption | omega | (simp only [*, Bool.not_false, Bool.not_true]; first | done | fail) | (simp [*]; first | done | fail)) rfl | exact rw_c Gt rfl | exact rw_raw | exact pu_cv (fun w => rfl) (by omega) | exact pu_of (fun w => rfl) rfl | exact be_of (fun w => rfl) | exact nc_of (fun _ _ _ _ => rfl) rfl | exact bu_of (fun w => rfl) rfl | fail) ?_) | ((first | refine q_callE wsTP wsZ (by rfl) ?_ | refine q_callVE wsTP (by rfl) (by rfl) ?_); refine ⟨_, _, _, (by first | assumption | exact k_open _ (by omega)), _, by rfl, ?_, ?_⟩)); focus (first | exact trivial | fail | exact rfl | (first | omega | (simp only [List.length_append, List.length_replicate, List.length_cons, List.length_nil, List.length_set, List.length_take, List.length_drop, true_and]; omega)) | exact cvB (fun w => rfl) | ((repeat' (first | exact rfl | exact cV_len _ | exact cV_ln rfl (by omega) | exact Cel.pos | omega | exact trivial | refine And.intro ?_ ?_)); done) | (simp [*]; done) | (simp; omega))) | fail)) | refine r_nt (by rfl) (by rfl) (by first | rfl | assumption | omega | (simp only [*, Bool.not_false, Bool.not_true]; first | done | fail) | (simp [*]; first | done | fail)) (by rfl) ?_ | refine r_nf (by rfl) (by rfl) (by first | rfl | assumption | omega | (simp only [*, Bool.not_false, Bool.not_true]; first | done | fail) | (simp [*]; first | done | fail)) (by rfl) ?_ | refine r_gu (by rfl) (by rfl) (by rfl) ?_ | refine r_nil ?_) | (first | refine aw_seq ?_ | refine aw_ct (by rfl) (by first | rfl | assumption | omega | (simp only [*, Bool.not_false, Bool.not_true]; first | done | fail) | (simp [*]; first | done | fail)) ?_ | refine aw_cf (by rfl) (by first | rfl | assumption | omega | (simp only [*, Bool.not_false, Bool.not_true]; first | done | fail) | (simp [*]; first | done | fail)) ?_ | refine aw_block ?_ | refine aw_region T0ok cfU_ok (by rfl) ?_ | refine aw_skip ?_ | refine aw_exit ?_ | refine ra_step ?_)); (repeat (first | (first | ((first | refine r_none ?_ | refine r_gt (by rfl) (by rfl) (by first | rfl | assumption | omega | (simp only [*, Bool.not_false, Bool.not_true]; first | done | fail) | (simp [*]; first | done | fail)) (by rfl) ?_ | refine r_gf (by rfl) (by rfl) (by first | rfl | assumption | omega | (simp only [*, Bool.not_false, Bool.not_true]; first | done | fail) | (simp [*]; first | done | fail)) (by rfl) ?_); (first | fail | ((first | (refine z_op (by rfl) ?_; first | refine z_ok ?_ ?_ | refine z_ex ?_ (by first | exact ft_raw rfl rfl | ((first | refine ft_rp rfl rfl rfl ?_ | refine ft_row rfl rfl rfl ?_ | refine ft_rpF rfl rfl rfl ?_ | refine ft_rowF rfl rfl rfl ?_ | refine up_row rfl rfl ?_ | refine up_rowF rfl rfl rfl ?_ | refine ct_0 rfl ?_ | refine ct_r rfl rfl ?_ | refine ct_c rfl rfl rfl ?_ | refine cu_all rfl ?_ | refine cu_to rfl ?_ | refine cu_from rfl ?_ | refine cu_p rfl ?_ | (first | refine mk_0 Int rfl rfl ?_ | refine mk_0 Gt rfl rfl ?_)); (first | omega | (simp only [List.length_append, List.length_replicate, List.length_cons, List.length_nil, List.length_set, List.length_take, List.length_drop, true_and]; omega))) | exact up_raw rfl | exact pk_t (by first | rfl | assumption | omega | (simp only [*, Bool.not_false, Bool.not_true]; first | done | fail) | (simp [*]; first | done | fail)) rfl | exact pk_f (by first | rfl | assumption | omega | (simp only [*, Bool.not_false, Bool.not_true]; first | done | fail) | (simp [*]; first | done | fail)) rfl | exact rw_c Gt rfl | exact rw_raw | exact pu_cv (fun w => rfl) (by omega) | exact pu_of (fun w => rfl) rfl | exact be_of (fun w => rfl) | exact nc_of (fun _ _ _ _ => rfl) rfl | exact bu_of (fun w => rfl) rfl | fail) ?_) | ((first | refine q_callE wsTP wsZ (by rfl) ?_ | refine q_callVE wsTP (by rfl) (by rfl) ?_); refine ⟨_, _, _, (by first | assumption | exact k_open _ (by omega)), _, by rfl, ?_, ?_⟩)); focus (first | exact trivial | fail | exact rfl | (first | omega | (simp only [List.length_append, List.length_replicate, List.length_cons, List.length_nil, List.length_set, List.length_take, List.length_drop, true_and]; omega)) | exact cvB (fun w => rfl) | ((repeat' (first | exact rfl | exact cV_len _ | exact cV_ln rfl (by omega) | exact Cel.pos | omega | exact trivial | refine And.intro ?_ ?_)); done) | (simp [*]; done) | (simp; omega))) | fail)) | refine r_nt (by rfl) (by rfl) (by first | rfl | assumption | omega | (simp only [*, Bool.not_false, Bool.not_true]; first | done | fail) | (simp [*]; first | done | fail)) (by rfl) ?_ | refine r_nf (by rfl) (by rfl) (by first | rfl | assumption | omega | (simp only [*, Bool.not_false, Bool.not_true]; first | done | fail) | (simp [*]; first | done | fail)) (by rfl) ?_ | refine r_gu (by rfl) (by rfl) (by rfl) ?_ | refine r_nil ?_) | (first | refine aw_seq ?_ | refine aw_ct (by rfl) (by first | rfl | assumption | omega | (simp only [*, Bool.not_false, Bool.not_true]; first | done | fail) | (simp [*]; first | done | fail)) ?_ | refine aw_cf (by rfl) (by first | rfl | assumption | omega | (simp only [*, Bool.not_false, Bool.not_true]; first | done | fail) | (simp [*]; first | done | fail)) ?_ | refine aw_block ?_ | refine aw_region T0ok cfU_ok (by rfl) ?_ | refine aw_skip ?_ | refine aw_exit ?_ | refine ra_step ?_))); exact hh.out)) : G := h ⟨k⟩
theorem ga_KBP {H G : Prop} (k : H) (h : Hid H → G := by (intro hh; (first | refine r_none ?_ | refine r_gt (by rfl) (by rfl) (by first | rfl | assumption | omega | (simp only [*, Bool.not_false, Bool.not_true]; first | done | fail) | (simp [*]; first | done | fail)) (by rfl) ?_ | refine r_gf (by rfl) (by rfl) (by first | rfl | assumption | omega | (simp only [*, Bool.not_false, Bool.not_true]; first | done | fail) | (simp [*]; first | done | fail)) (by rfl) ?_); refine z_op (by rfl) ?_; refine z_al ?_ hh.out; focus (first | exact trivial | fail | exact rfl | (first | omega | (simp only [List.length_append, List.length_replicate, List.length_cons, List.length_nil, List.length_set, List.length_take, List.length_drop, true_and]; omega)) | exact cvB (fun w => rfl) | ((repeat' (first | exact rfl | exact cV_len _ | exact cV_ln rfl (by omega) | exact Cel.pos | omega | exact trivial | refine And.intro ?_ ?_)); done) | (simp [*]; done) | (simp; omega)))) : G := h ⟨k⟩
theorem gs_KBP {H G : Prop} (k : H) (h : Hid H → G := by (intro hh; (first | ((first | refine r_none ?_ | refine r_gt (by rfl) (by rfl) (by first | rfl | assumption | omega | (simp only [*, Bool.not_false, Bool.not_true]; first | done | fail) | (simp [*]; first | done | fail)) (by rfl) ?_ | refine r_gf (by rfl) (by rfl) (by first | rfl | assumption | omega | (simp only [*, Bool.not_false, Bool.not_true]; first | done | fail) | (simp [*]; first | done | fail)) (by rfl) ?_); (first | fail | ((first | (refine z_op (by rfl) ?_; first | refine z_ok ?_ ?_ | refine z_ex ?_ (by first | exact ft_raw rfl rfl | ((first | refine ft_rp rfl rfl rfl ?_ | refine ft_row rfl rfl rfl ?_ | refine ft_rpF rfl rfl rfl ?_ | refine ft_rowF rfl rfl rfl ?_ | refine up_row rfl rfl ?_ | refine up_rowF rfl rfl rfl ?_ | refine ct_0 rfl ?_ | refine ct_r rfl rfl ?_ | refine ct_c rfl rfl rfl ?_ | refine cu_all rfl ?_ | refine cu_to rfl ?_ | refine cu_from rfl ?_ | refine cu_p rfl ?_ | (first | refine mk_0 Int rfl rfl ?_ | refine mk_0 Gt rfl rfl ?_)); (first | omega | (simp only [List.length_append, List.length_replicate, List.length_cons, List.length_nil, List.length_set, List.length_take, List.length_drop, true_and]; omega))) | exact up_raw rfl | exact pk_t (by first | rfl | assumption | omega | (simp only [*, Bool.not_false, Bool.not_true]; first | done | fail) | (simp [*]; first | done | fail)) rfl | exact pk_f (by first | rfl | assumption | omega | (simp only [*, Bool.not_false, Bool.not_true]; first | done | fail) | (simp [*]; first | done | fail)) rfl | exact rw_c Gt rfl | exact rw_raw | exact pu_cv (fun w => rfl) (by omega) | exact pu_of (fun w => rfl) rfl | exact be_of (fun w => rfl) | exact nc_of (fun _ _ _ _ => rfl) rfl | exact bu_of (fun w => rfl) rfl | fail) ?_) | ((first | refine q_callE wsTP wsZ (by rfl) ?_ | refine q_callVE wsTP (by rfl) (by rfl) ?_); refine ⟨_, _, _, (by first | assumption | exact k_open _ (by omega)), _, by rfl, ?_, ?_⟩)); focus (first | exact trivial | fail | exact rfl | (first | omega | (simp only [List.length_append, List.length_replicate, List.length_cons, List.length_nil, List.length_set, List.length_take, List.length_drop, true_and]; omega)) | exact cvB (fun w => rfl) | ((repeat' (first | exact rfl | exact cV_len _ | exact cV_ln rfl (by omega) | exact Cel.pos | omega | exact trivial | refine And.intro ?_ ?_)); done) | (simp [*]; done) | (simp; omega))) | fail)) | refine r_nt (by rfl) (by rfl) (by first | rfl | assumption | omega | (simp only [*, Bool.not_false, Bool.not_true]; first | done | fail) | (simp [*]; first | done | fail)) (by rfl) ?_ | refine r_nf (by rfl) (by rfl) (by first | rfl | assumption | omega | (simp only [*, Bool.not_false, Bool.not_true]; first | done | fail) | (simp [*]; first | done | fail)) (by rfl) ?_ | refine r_gu (by rfl) (by rfl) (by rfl) ?_ | refine r_nil ?_); (repeat (first | ((first | refine r_none ?_ | refine r_gt (by rfl) (by rfl) (by first | rfl | assumption | omega | (simp only [*, Bool.not_false, Bool.not_true]; first | done | fail) | (simp [*]; first | done | fail)) (by rfl) ?_ | refine r_gf (by rfl) (by rfl) (by first | rfl | assumption | omega | (simp only [*, Bool.not_false, Bool.not_true]; first | done | fail) | (simp [*]; first | done | fail)) (by rfl) ?_); (first | fail | ((first | (refine z_op (by rfl) ?_; first | refine z_ok ?_ ?_ | refine z_ex ?_ (by first | exact ft_raw rfl rfl | ((first | refine ft_rp rfl rfl rfl ?_ | refine ft_row rfl rfl rfl ?_ | refine ft_rpF rfl rfl rfl ?_ | refine ft_rowF rfl rfl rfl ?_ | refine up_row rfl rfl ?_ | refine up_rowF rfl rfl rfl ?_ | refine ct_0 rfl ?_ | refine ct_r rfl rfl ?_ | refine ct_c rfl rfl rfl ?_ | refine cu_all rfl ?_ | refine cu_to rfl ?_ | refine cu_from rfl ?_ | refine cu_p rfl ?_ | (first | refine mk_0 Int rfl rfl ?_ | refine mk_0 Gt rfl rfl ?_)); (first | omega | (simp only [List.length_append, List.length_replicate, List.length_cons, List.length_nil, List.length_set, List.length_take, List.length_drop, true_and]; omega))) | exact up_raw rfl | exact pk_t (by first | rfl | assumption | omega | (simp only [*, Bool.not_false, Bool.not_true]; first | done | fail) | (simp [*]; first | done | fail)) rfl | exact pk_f (by first | rfl | assumption | omega | (simp only [*, Bool.not_false, Bool.not_true]; first | done | fail) | (simp [*]; first | done | fail)) rfl | exact rw_c Gt rfl | exact rw_raw | exact pu_cv (fun w => rfl) (by omega) | exact pu_of (fun w => rfl) rfl | exact be_of (fun w => rfl) | exact nc_of (fun _ _ _ _ => rfl) rfl | exact bu_of (fun w => rfl) rfl | fail) ?_) | ((first | refine q_callE wsTP wsZ (by rfl) ?_ | refine q_callVE wsTP (by rfl) (by rfl) ?_); refine ⟨_, _, _, (by first | assumption | exact k_open _ (by omega)), _, by rfl, ?_, ?_⟩)); focus (first | exact trivial | fail | exact rfl | (first | omega | (simp only [List.length_append, List.length_replicate, List.length_cons, List.length_nil, List.length_set, List.length_take, List.length_drop, true_and]; omega)) | exact cvB (fun w => rfl) | ((repeat' (first | exact rfl | exact cV_len _ | exact cV_ln rfl (by omega) | exact Cel.pos | omega | exact trivial | refine And.intro ?_ ?_)); done) | (simp [*]; done) | (simp; omega))) | fail)) | refine r_nt (by rfl) (by rfl) (by first | rfl | assumption | omega | (simp only [*, Bool.not_false, Bool.not_true]; first | done | fail) | (simp [*]; first | done | fail)) (by rfl) ?_ | refine r_nf (by rfl) (by rfl) (by first | rfl | assumption | omega | (simp only [*, Bool.not_false, Bool.not_true]; first | done | fail) | (simp [*]; first | done | fail)) (by rfl) ?_ | refine r_gu (by rfl) (by rfl) (by rfl) ?_ | refine r_nil ?_)); exact hh.out)) : G := h ⟨k⟩
theorem gc_KBP {H G : Prop} (k : H) (h : Hid H → G := by (intro hh; (first | refine aw_seq ?_ | refine aw_ct (by rfl) (by first | rfl | assumption | omega | (simp only [*, Bool.not_false, Bool.not_true]; first | done | fail) | (simp [*]; first | done | fail)) ?_ | refine aw_cf (by rfl) (by first | rfl | assumption | omega | (simp only [*, Bool.not_false, Bool.not_true]; first | done | fail) | (simp [*]; first | done | fail)) ?_ | refine aw_block ?_ | refine aw_region T0ok cfU_ok (by rfl) ?_ | refine aw_skip ?_ | refine aw_exit ?_ | refine ra_step ?_); (repeat (first | refine aw_seq ?_ | refine aw_ct (by rfl) (by first | rfl | assumption | omega | (simp only [*, Bool.not_false, Bool.not_true]; first | done | fail) | (simp [*]; first | done | fail)) ?_ | refine aw_cf (by rfl) (by first | rfl | assumption | omega | (simp only [*, Bool.not_false, Bool.not_true]; first | done | fail) | (simp [*]; first | done | fail)) ?_ | refine aw_block ?_ | refine aw_region T0ok cfU_ok (by rfl) ?_ | refine aw_skip ?_ | refine aw_exit ?_ | refine ra_step ?_)); exact hh.out)) : G := h ⟨k⟩
theorem gd_KBP {H G : Prop} (k : H) (h : Hid H → G := by (intro hh; (refine aw_draw mixed T0ok cfU_ok [] (by rfl) (by kernel_rfl) ?_); exact hh.out)) : G := h ⟨k⟩
theorem cokB_mk3 {n : Int} {l : List Gt} (h1 : 1 ≤ n ∧ n ≤ 8) (h2 : l.length ≤ 24) (h3 : l.all (gok n) = true) : cokB n l = true := by
  unfold cokB btw
  rw [decide_eq_true h1.1, decide_eq_true h1.2, decide_eq_true (by omega), h3]; rfl
/-- Without the gates at a and b. -/
def drp (l : List Gt) (a b : Int) : Nat → List Gt
  | 0 => []
  | i + 1 => if ((i : Int) != a && (i : Int) != b) = true then drp l a b i ++ [l.getD i Cel.no] else drp l a b i
theorem drp_len (l : List Gt) (a b : Int) : ∀ i : Nat, (drp l a b i).length ≤ i
  | 0 => Nat.le_refl _
  | i + 1 => by
    have := drp_len l a b i
    rw [drp]; split
    · rw [List.length_append]; simp; omega
    · omega
theorem drp_less (l : List Gt) (a : Nat) (b : Int) : ∀ i : Nat, a < i → (drp l a b i).length < i
  | 0, h => by omega
  | i + 1, h => by
    rw [drp]; split
    · rename_i hc
      have : a < i := by
        rcases Nat.lt_or_ge a i with h1 | h1
        · exact h1
        · obtain rfl : a = i := by omega
          simp at hc
      have := drp_less l a b i this
      rw [List.length_append]; simp; omega
    · have := drp_len l a b i
      omega
theorem drp_mem (l : List Gt) (a b : Int) : ∀ i : Nat, i ≤ l.length → ∀ g ∈ drp l a b i, g ∈ l
  | 0, _, g, h => by cases h
  | i + 1, hi, g, h => by
    rw [drp] at h; split at h
    · rcases List.mem_append.1 h with h | h
      · exact drp_mem l a b i (by omega) g h
      · have e : l.getD i Cel.no = l[i] := by simp [List.getD_eq_getElem?_getD, show i < l.length by omega]
        rw [List.mem_singleton.1 h, e]
        exact List.getElem_mem _
    · exact drp_mem l a b i (by omega) g h
theorem k_drop (l : List Gt) (a b : Int) (h : l.length ≤ 1000) : Kon Try.prog 89 [roA l, vI a, vI b] [] (roA (drp l a b l.length)) [] [] := by
  (refine kon_mk T0ok (fn := Try.f89) (c := Try.f89.body.get rfl) Try.func89 rfl (by rfl) (by rfl) (by rfl) ?_; intro hfit hfe)
  (repeat (first | refine gq_KBP ?_ | (refine ga_KBP ?_; intro _q ⟨_he, _hq⟩)))
  (refine aw_rd [0, 1, 2] [] (fun i : Nat => [(7, .g (.one (.sl 144 (drp l a b i).length (drp l a b i).length))), (8, vI i)]) (fun i => [(144, ((drp l a b i).length, gRow (drp l a b i)))]) (fun i => i ≤ l.length) (fun i => l.length - i) 0 (by rfl) (by rfl) ?_ (by rfl) (by repeat (first | exact trivial | refine ⟨by rfl, ?_⟩ | refine ⟨vI_of (by rfl) (by omega), ?_⟩)) (by repeat (first | exact trivial | refine ⟨by rfl, ?_⟩ | refine ⟨vI_of (by rfl) (by omega), ?_⟩)) ?_)
  · exact Nat.zero_le _
  rintro i hi
  have hil := drp_len l a b i
  rcases Nat.lt_or_ge i l.length with h5 | h5
  · have hd : decide ((i : Int) < (l.length : Int)) = true := decide_eq_true (by omega)
    cases hk : ((i : Int) != a && (i : Int) != b) with
    | true =>
      have e : drp l a b (i + 1) = drp l a b i ++ [l.getD i Cel.no] := by rw [drp, if_pos hk]
      have hk' := hk
      rw [Bool.and_eq_true] at hk'
      obtain ⟨hk1, hk2⟩ := hk'
      have e2 : (drp l a b (i + 1)).length = (drp l a b i).length + 1 := by rw [e, List.length_append]; rfl
      (repeat (first | refine gq_KBP ?_ | (refine ga_KBP ?_; intro _q ⟨_he, _hq⟩)))
      refine ⟨i + 1, h5, ?_, (by first | omega | (dsimp only; omega))⟩
      dsimp only
      rw [e2, e]
      refine ⟨by rfl, ⟨?_, (by repeat (first | exact trivial | refine ⟨by rfl, ?_⟩ | refine ⟨vI_of (by rfl) (by omega), ?_⟩))⟩, (by repeat (first | exact trivial | refine ⟨by rfl, ?_⟩ | refine ⟨vI_of (by rfl) (by omega), ?_⟩))⟩
      simp [St.put, St.lay, upd]
      rfl
    | false =>
      have e : drp l a b (i + 1) = drp l a b i := by rw [drp, if_neg (by rw [hk]; decide)]
      cases hk1 : ((i : Int) != a) with
      | false =>
        (repeat (first | refine gq_KBP ?_ | (refine ga_KBP ?_; intro _q ⟨_he, _hq⟩)))
        refine ⟨i + 1, h5, ?_, (by first | omega | (dsimp only; omega))⟩
        dsimp only
        rw [e]
        exact ⟨by rfl, ⟨by rfl, (by repeat (first | exact trivial | refine ⟨by rfl, ?_⟩ | refine ⟨vI_of (by rfl) (by omega), ?_⟩))⟩, (by repeat (first | exact trivial | refine ⟨by rfl, ?_⟩ | refine ⟨vI_of (by rfl) (by omega), ?_⟩))⟩
      | true =>
        have hk2 : ((i : Int) != b) = false := by rw [hk1, Bool.true_and] at hk; exact hk
        (repeat (first | refine gq_KBP ?_ | (refine ga_KBP ?_; intro _q ⟨_he, _hq⟩)))
        refine ⟨i + 1, h5, ?_, (by first | omega | (dsimp only; omega))⟩
        dsimp only
        rw [e]
        exact ⟨by rfl, ⟨by rfl, (by repeat (first | exact trivial | refine ⟨by rfl, ?_⟩ | refine ⟨vI_of (by rfl) (by omega), ?_⟩))⟩, (by repeat (first | exact trivial | refine ⟨by rfl, ?_⟩ | refine ⟨vI_of (by rfl) (by omega), ?_⟩))⟩
  · obtain rfl : i = l.length := by omega
    have hd : decide ((l.length : Int) < (l.length : Int)) = false := decide_eq_false (by omega)
    (refine aw_freeze 144 (by rfl) (by rfl) ?_; refine aw_slot 7 4 (by rfl) (by rfl) (by first | exact trivial | omega | exact cvB (fun w => rfl) | ((repeat (any_goals (first | exact rfl | exact cV_len _ | exact cV_ln rfl (by omega) | exact Cel.pos | omega | exact trivial | refine And.intro ?_ ?_))); first | done | fail) | (simp [*]; first | done | fail)) ?_)
    (repeat (first | refine gq_KBP ?_ | (refine ga_KBP ?_; intro _q ⟨_he, _hq⟩)))
    ((try refine aw_ret ?_); refine ret_auto2 (by rfl) (by rfl) (by rfl) (by repeat (first | exact trivial | refine ⟨by first | rfl | omega, ?_⟩)) ?_ (by repeat (first | exact trivial | refine ⟨by rfl, by rfl, ?_⟩)) (by repeat (first | exact trivial | refine ⟨by rfl, by rfl, ?_⟩)); try rfl)
theorem k_short0 (n : Int) (l : List Gt) (hl : l.length ≤ 1000) (hr : -9223372036854775808 ≤ n ∧ n ≤ 9223372036854775807) (h : cokB n l = false) : Kon Try.prog 46 [vI n, roA l] [] (roA ([] : List Gt)) [] [] := by
  have hC := k_cvS n l (by omega) hr
  rw [h] at hC
  (refine kon_mk T0ok (fn := Try.f46) (c := Try.f46.body.get rfl) Try.func46 rfl (by rfl) (by rfl) (by rfl) ?_; intro hfit hfe)
  (repeat refine gc_KBP ?_)
  (repeat (first | refine gs_KBP ?_ | (refine ga_KBP ?_; intro _q ⟨_he, _hq⟩)))
  (repeat refine gc_KBP ?_)
  (repeat (first | refine gs_KBP ?_ | (refine ga_KBP ?_; intro _q ⟨_he, _hq⟩)))
  (refine aw_freeze 128 (by rfl) (by rfl) ?_; refine aw_slot 5 4 (by rfl) (by rfl) (by first | exact trivial | omega | exact cvB (fun w => rfl) | ((repeat (any_goals (first | exact rfl | exact cV_len _ | exact cV_ln rfl (by omega) | exact Cel.pos | omega | exact trivial | refine And.intro ?_ ?_))); first | done | fail) | (simp [*]; first | done | fail)) ?_)
  (repeat (first | refine gq_KBP ?_ | (refine ga_KBP ?_; intro _q ⟨_he, _hq⟩)))
  ((try refine aw_ret ?_); refine ret_auto2 (by rfl) (by rfl) (by rfl) (by repeat (first | exact trivial | refine ⟨by first | rfl | omega, ?_⟩)) ?_ (by repeat (first | exact trivial | refine ⟨by rfl, by rfl, ?_⟩)) (by repeat (first | exact trivial | refine ⟨by rfl, by rfl, ?_⟩)); try rfl)
theorem drp_ok {n : Int} {l : List Gt} {a b : Int} (h : cokB n l = true) : cokB n (drp l a b l.length) = true := by
  obtain ⟨hn, hl, ha⟩ := cokB_t h
  refine cokB_mk3 hn (by have := drp_len l a b l.length; omega) ?_
  rw [List.all_eq_true] at ha ⊢
  exact fun g hg => ha g (drp_mem l a b l.length (Nat.le_refl _) g hg)
/-- Dropped as long as there is a pair. -/
def shr (l : List Gt) : Nat → List Gt
  | 0 => l
  | f + 1 => if (usl l 0).1 < 0 then l else shr (drp l (usl l 0).1 (usl l 0).2 l.length) f
theorem shr_len : ∀ (f : Nat) (l : List Gt), (shr l f).length ≤ l.length
  | 0, l => Nat.le_refl _
  | f + 1, l => by
    rw [shr]; split
    · exact Nat.le_refl _
    · exact Nat.le_trans (shr_len f _) (drp_len _ _ _ _)
theorem usl_less (l : List Gt) (h : ¬ (usl l 0).1 < 0) : (drp l (usl l 0).1 (usl l 0).2 l.length).length < l.length := by
  rcases usl_spec l 0 with hu | ⟨a, b, hu, hab, hbl, _⟩
  · rw [hu] at h; simp at h
  · rw [hu, Nat.zero_add]
    exact drp_less l a _ l.length (by omega)
theorem shr_step (l : List Gt) (h : ¬ (usl l 0).1 < 0) : shr (drp l (usl l 0).1 (usl l 0).2 l.length) (drp l (usl l 0).1 (usl l 0).2 l.length).length = shr l l.length := by
  have key : ∀ (f f' : Nat) (o : List Gt), o.length ≤ f → o.length ≤ f' → shr o f = shr o f' := by
    intro f
    induction f with
    | zero =>
      intro f' o h1 h2
      have e : o = [] := List.eq_nil_of_length_eq_zero (by omega)
      subst e
      cases f' with
      | zero => rfl
      | succ f' => rw [shr, shr]; rfl
    | succ f ih =>
      intro f' o h1 h2
      cases f' with
      | zero =>
        have e : o = [] := List.eq_nil_of_length_eq_zero (by omega)
        subst e
        rw [shr, shr]; rfl
      | succ f' =>
        rw [shr, shr]
        split
        · rfl
        · rename_i hn
          have := usl_less o hn
          exact ih f' _ (by omega) (by omega)
  have hl := usl_less l h
  obtain ⟨m, hm⟩ : ∃ m, l.length = m + 1 := ⟨l.length - 1, by omega⟩
  conv => rhs; rw [hm, shr, if_neg h]
  exact key _ _ _ (Nat.le_refl _) (by omega)
set_option maxHeartbeats 1000000 in
theorem k_short (n : Int) (l : List Gt) (hr : -9223372036854775808 ≤ n ∧ n ≤ 9223372036854775807) (h : cokB n l = true) : Kon Try.prog 46 [vI n, roA l] [] (roA (shr l l.length)) [] [] := by
  have hC := k_cvS n l (by have := (cokB_t h).2.1; omega) hr
  have hl24 := (cokB_t h).2.1
  rw [h] at hC
  (refine kon_mk T0ok (fn := Try.f46) (c := Try.f46.body.get rfl) Try.func46 rfl (by rfl) (by rfl) (by rfl) ?_; intro hfit hfe)
  (repeat refine gc_KBP ?_)
  (repeat (first | refine gs_KBP ?_ | (refine ga_KBP ?_; intro _q ⟨_he, _hq⟩)))
  (repeat refine gc_KBP ?_)
  (repeat (first | refine gs_KBP ?_ | (refine ga_KBP ?_; intro _q ⟨_he, _hq⟩)))
  (repeat refine gc_KBP ?_)
  (repeat (first | refine gs_KBP ?_ | (refine ga_KBP ?_; intro _q ⟨_he, _hq⟩)))
  (repeat refine gc_KBP ?_)
  (repeat (first | refine gs_KBP ?_ | (refine ga_KBP ?_; intro _q ⟨_he, _hq⟩)))
  (refine aw_freeze 128 (by rfl) (by rfl) ?_; refine aw_slot 5 4 (by rfl) (by rfl) (by first | exact trivial | omega | exact cvB (fun w => rfl) | ((repeat (any_goals (first | exact rfl | exact cV_len _ | exact cV_ln rfl (by omega) | exact Cel.pos | omega | exact trivial | refine And.intro ?_ ?_))); first | done | fail) | (simp [*]; first | done | fail)) ?_)
  (repeat (first | refine gq_KBP ?_ | (refine ga_KBP ?_; intro _q ⟨_he, _hq⟩)))
  (refine aw_rd [0, 1] [] (fun o : List Gt => [(5, roA o)]) (fun _ => []) (fun o => cokB n o = true ∧ shr o o.length = shr l l.length) (fun o => o.length) l (by rfl) (by rfl) ?_ (by rfl) (by repeat (first | exact trivial | refine ⟨by rfl, ?_⟩ | refine ⟨vI_of (by rfl) (by omega), ?_⟩)) (by repeat (first | exact trivial | refine ⟨by rfl, ?_⟩ | refine ⟨vI_of (by rfl) (by omega), ?_⟩)) ?_)
  · exact ⟨h, rfl⟩
  rintro o ⟨ho, hs⟩
  have hU := k_uspS n o ho
  have ho24 := (cokB_t ho).2.1
  have hD := k_drop o (usl o 0).1 (usl o 0).2 (by omega)
  have hok : cokB n (drp o (usl o 0).1 (usl o 0).2 o.length) = true := drp_ok ho
  cases hd : decide ((usl o 0).1 < 0) with
  | true =>
    have e : shr o o.length = o := by
      cases hm : o.length with
      | zero => rfl
      | succ m => rw [shr, if_pos (of_decide_eq_true hd)]
    rw [← hs, e]
    clear hs e
    (repeat (first | refine gq_KBP ?_ | (refine ga_KBP ?_; intro _q ⟨_he, _hq⟩)))
    ((try refine aw_ret ?_); refine ret_auto2 (by rfl) (by rfl) (by rfl) (by repeat (first | exact trivial | refine ⟨by first | rfl | omega, ?_⟩)) ?_ (by repeat (first | exact trivial | refine ⟨by rfl, by rfl, ?_⟩)) (by repeat (first | exact trivial | refine ⟨by rfl, by rfl, ?_⟩)); try rfl)
  | false =>
    have hnn := of_decide_eq_false hd
    have hless := usl_less o hnn
    have hinv : cokB n (drp o (usl o 0).1 (usl o 0).2 o.length) = true ∧ shr (drp o (usl o 0).1 (usl o 0).2 o.length) (drp o (usl o 0).1 (usl o 0).2 o.length).length = shr l l.length := ⟨hok, (shr_step o hnn).trans hs⟩
    clear hs
    generalize drp o (usl o 0).1 (usl o 0).2 o.length = o' at *
    (repeat (first | refine gq_KBP ?_ | (refine ga_KBP ?_; intro _q ⟨_he, _hq⟩)))
    exact ⟨o', hinv, ⟨by rfl, (by repeat (first | exact trivial | refine ⟨by rfl, ?_⟩ | refine ⟨vI_of (by rfl) (by omega), ?_⟩)), (by repeat (first | exact trivial | refine ⟨by rfl, ?_⟩ | refine ⟨vI_of (by rfl) (by omega), ?_⟩))⟩, (by first | omega | (dsimp only; omega))⟩
end Go.Proofs.Yteagoafamjbpbaa

/- impl.short: circuits made shorter, by the program. -/
namespace Go.Proofs.Yteagoafamjbpbaa
set_option linter.unusedVariables false
set_option linter.unusedSimpArgs false
set_option maxRecDepth 20000
open Go.RowKit
attribute [local irreducible] runA runX AW
def wsTM : WsT := [(94, ([], true)), (87, ([], true))]
theorem gq_KME {H G : Prop} (k : H) (h : Hid H → G := by (intro hh; (first | (first | ((first | refine r_none ?_ | refine r_gt (by rfl) (by rfl) (by first | rfl | assumption | omega | (simp only [*, Bool.not_false, Bool.not_true]; first | done | fail) | (simp [*]; first | done | fail)) (by rfl) ?_ | refine r_gf (by rfl) (by rfl) (by first | rfl | assumption | omega | (simp only [*, Bool.not_false, Bool.not_true]; first | done | fail) | (simp [*]; first | done | fail)) (by rfl) ?_); (first | fail | ((first | (refine z_op (by rfl) ?_; first | refine z_ok ?_ ?_ | refine z_ex ?_ (by first | exact ft_raw rfl rfl | ((first | refine ft_rp rfl rfl rfl ?_ | refine ft_row rfl rfl rfl ?_ | refine ft_rpF rfl rfl rfl ?_ | refine ft_rowF rfl rfl rfl ?_ | refine up_row rfl rfl ?_ | refine up_rowF rfl rfl rfl ?_ | refine ct_0 rfl ?_ | refine ct_r rfl rfl ?_ | refine ct_c rfl rfl rfl ?_ | refine cu_all rfl ?_ | refine cu_to rfl ?_ | refine cu_from rfl ?_ | refine cu_p rfl ?_ | fail); (first | omega | (simp only [List.length_append, List.length_replicate, List.length_cons, List.length_nil, List.length_set, List.length_take, List.length_drop, true_and]; omega))) | exact up_raw rfl | exact pk_t (by first | rfl | assumption | omega | (simp only [*, Bool.not_false, Bool.not_true]; first | done | fail) | (simp [*]; first | done | fail)) rfl | exact pk_f (by first | rfl | assumption | omega | (simp only [*, Bool.not_false, Bool.not_true]; first | done | fail) | (simp [*]; first | done | fail)) rfl | fail | exact rw_raw | exact pu_cv (fun w => rfl) (by omega) | exact pu_of (fun w => rfl) rfl | exact be_of (fun w => rfl) | exact nc_of (fun _ _ _ _ => rfl) rfl | exact bu_of (fun w => rfl) rfl | fail) ?_) | ((first | refine q_callE wsTM wsZ (by rfl) ?_ | refine q_callVE wsTM (by rfl) (by rfl) ?_); refine ⟨_, _, _, (by first | assumption | exact k_clone _ (by omega) | exact k_clipR _), _, by rfl, ?_, ?_⟩)); focus (first | exact trivial | fail | exact rfl | (first | omega | (simp only [List.length_append, List.length_replicate, List.length_cons, List.length_nil, List.length_set, List.length_take, List.length_drop, true_and]; omega)) | exact cvB (fun w => rfl) | ((repeat' (first | exact rfl | exact cV_len _ | exact cV_ln rfl (by omega) | exact Cel.pos | omega | exact trivial | refine And.intro ?_ ?_)); done) | (simp [*]; done) | (simp; omega))) | refine q_delC (α := Gt) (by rfl) (by rfl) (by rfl) delG (by first | exact trivial | omega | exact cvB (fun w => rfl) | ((repeat (any_goals (first | exact rfl | exact cV_len _ | exact cV_ln rfl (by omega) | exact Cel.pos | omega | exact trivial | refine And.intro ?_ ?_))); first | done | fail) | (simp [*]; first | done | fail)) ?_)) | refine r_nt (by rfl) (by rfl) (by first | rfl | assumption | omega | (simp only [*, Bool.not_false, Bool.not_true]; first | done | fail) | (simp [*]; first | done | fail)) (by rfl) ?_ | refine r_nf (by rfl) (by rfl) (by first | rfl | assumption | omega | (simp only [*, Bool.not_false, Bool.not_true]; first | done | fail) | (simp [*]; first | done | fail)) (by rfl) ?_ | refine r_gu (by rfl) (by rfl) (by rfl) ?_ | refine r_nil ?_) | (first | refine aw_seq ?_ | refine aw_ct (by rfl) (by first | rfl | assumption | omega | (simp only [*, Bool.not_false, Bool.not_true]; first | done | fail) | (simp [*]; first | done | fail)) ?_ | refine aw_cf (by rfl) (by first | rfl | assumption | omega | (simp only [*, Bool.not_false, Bool.not_true]; first | done | fail) | (simp [*]; first | done | fail)) ?_ | refine aw_block ?_ | refine aw_region T0ok cfU_ok (by rfl) ?_ | refine aw_skip ?_ | refine aw_exit ?_ | refine ra_step ?_)); (repeat (first | (first | ((first | refine r_none ?_ | refine r_gt (by rfl) (by rfl) (by first | rfl | assumption | omega | (simp only [*, Bool.not_false, Bool.not_true]; first | done | fail) | (simp [*]; first | done | fail)) (by rfl) ?_ | refine r_gf (by rfl) (by rfl) (by first | rfl | assumption | omega | (simp only [*, Bool.not_false, Bool.not_true]; first | done | fail) | (simp [*]; first | done | fail)) (by rfl) ?_); (first | fail | ((first | (refine z_op (by rfl) ?_; first | refine z_ok ?_ ?_ | refine z_ex ?_ (by first | exact ft_raw rfl rfl | ((first | refine ft_rp rfl rfl rfl ?_ | refine ft_row rfl rfl rfl ?_ | refine ft_rpF rfl rfl rfl ?_ | refine ft_rowF rfl rfl rfl ?_ | refine up_row rfl rfl ?_ | refine up_rowF rfl rfl rfl ?_ | refine ct_0 rfl ?_ | refine ct_r rfl rfl ?_ | refine ct_c rfl rfl rfl ?_ | refine cu_all rfl ?_ | refine cu_to rfl ?_ | refine cu_from rfl ?_ | refine cu_p rfl ?_ | fail); (first | omega | (simp only [List.length_append, List.length_replicate, List.length_cons, List.length_nil, List.length_set, List.length_take, List.length_drop, true_and]; omega))) | exact up_raw rfl | exact pk_t (by first | rfl | assumption | omega | (simp only [*, Bool.not_false, Bool.not_true]; first | done | fail) | (simp [*]; first | done | fail)) rfl | exact pk_f (by first | rfl | assumption | omega | (simp only [*, Bool.not_false, Bool.not_true]; first | done | fail) | (simp [*]; first | done | fail)) rfl | fail | exact rw_raw | exact pu_cv (fun w => rfl) (by omega) | exact pu_of (fun w => rfl) rfl | exact be_of (fun w => rfl) | exact nc_of (fun _ _ _ _ => rfl) rfl | exact bu_of (fun w => rfl) rfl | fail) ?_) | ((first | refine q_callE wsTM wsZ (by rfl) ?_ | refine q_callVE wsTM (by rfl) (by rfl) ?_); refine ⟨_, _, _, (by first | assumption | exact k_clone _ (by omega) | exact k_clipR _), _, by rfl, ?_, ?_⟩)); focus (first | exact trivial | fail | exact rfl | (first | omega | (simp only [List.length_append, List.length_replicate, List.length_cons, List.length_nil, List.length_set, List.length_take, List.length_drop, true_and]; omega)) | exact cvB (fun w => rfl) | ((repeat' (first | exact rfl | exact cV_len _ | exact cV_ln rfl (by omega) | exact Cel.pos | omega | exact trivial | refine And.intro ?_ ?_)); done) | (simp [*]; done) | (simp; omega))) | refine q_delC (α := Gt) (by rfl) (by rfl) (by rfl) delG (by first | exact trivial | omega | exact cvB (fun w => rfl) | ((repeat (any_goals (first | exact rfl | exact cV_len _ | exact cV_ln rfl (by omega) | exact Cel.pos | omega | exact trivial | refine And.intro ?_ ?_))); first | done | fail) | (simp [*]; first | done | fail)) ?_)) | refine r_nt (by rfl) (by rfl) (by first | rfl | assumption | omega | (simp only [*, Bool.not_false, Bool.not_true]; first | done | fail) | (simp [*]; first | done | fail)) (by rfl) ?_ | refine r_nf (by rfl) (by rfl) (by first | rfl | assumption | omega | (simp only [*, Bool.not_false, Bool.not_true]; first | done | fail) | (simp [*]; first | done | fail)) (by rfl) ?_ | refine r_gu (by rfl) (by rfl) (by rfl) ?_ | refine r_nil ?_) | (first | refine aw_seq ?_ | refine aw_ct (by rfl) (by first | rfl | assumption | omega | (simp only [*, Bool.not_false, Bool.not_true]; first | done | fail) | (simp [*]; first | done | fail)) ?_ | refine aw_cf (by rfl) (by first | rfl | assumption | omega | (simp only [*, Bool.not_false, Bool.not_true]; first | done | fail) | (simp [*]; first | done | fail)) ?_ | refine aw_block ?_ | refine aw_region T0ok cfU_ok (by rfl) ?_ | refine aw_skip ?_ | refine aw_exit ?_ | refine ra_step ?_))); exact hh.out)) : G := h ⟨k⟩
theorem ga_KME {H G : Prop} (k : H) (h : Hid H → G := by (intro hh; (first | refine r_none ?_ | refine r_gt (by rfl) (by rfl) (by first | rfl | assumption | omega | (simp only [*, Bool.not_false, Bool.not_true]; first | done | fail) | (simp [*]; first | done | fail)) (by rfl) ?_ | refine r_gf (by rfl) (by rfl) (by first | rfl | assumption | omega | (simp only [*, Bool.not_false, Bool.not_true]; first | done | fail) | (simp [*]; first | done | fail)) (by rfl) ?_); refine z_op (by rfl) ?_; refine z_al ?_ hh.out; focus (first | exact trivial | fail | exact rfl | (first | omega | (simp only [List.length_append, List.length_replicate, List.length_cons, List.length_nil, List.length_set, List.length_take, List.length_drop, true_and]; omega)) | exact cvB (fun w => rfl) | ((repeat' (first | exact rfl | exact cV_len _ | exact cV_ln rfl (by omega) | exact Cel.pos | omega | exact trivial | refine And.intro ?_ ?_)); done) | (simp [*]; done) | (simp; omega)))) : G := h ⟨k⟩
theorem gs_KME {H G : Prop} (k : H) (h : Hid H → G := by (intro hh; (first | ((first | refine r_none ?_ | refine r_gt (by rfl) (by rfl) (by first | rfl | assumption | omega | (simp only [*, Bool.not_false, Bool.not_true]; first | done | fail) | (simp [*]; first | done | fail)) (by rfl) ?_ | refine r_gf (by rfl) (by rfl) (by first | rfl | assumption | omega | (simp only [*, Bool.not_false, Bool.not_true]; first | done | fail) | (simp [*]; first | done | fail)) (by rfl) ?_); (first | fail | ((first | (refine z_op (by rfl) ?_; first | refine z_ok ?_ ?_ | refine z_ex ?_ (by first | exact ft_raw rfl rfl | ((first | refine ft_rp rfl rfl rfl ?_ | refine ft_row rfl rfl rfl ?_ | refine ft_rpF rfl rfl rfl ?_ | refine ft_rowF rfl rfl rfl ?_ | refine up_row rfl rfl ?_ | refine up_rowF rfl rfl rfl ?_ | refine ct_0 rfl ?_ | refine ct_r rfl rfl ?_ | refine ct_c rfl rfl rfl ?_ | refine cu_all rfl ?_ | refine cu_to rfl ?_ | refine cu_from rfl ?_ | refine cu_p rfl ?_ | fail); (first | omega | (simp only [List.length_append, List.length_replicate, List.length_cons, List.length_nil, List.length_set, List.length_take, List.length_drop, true_and]; omega))) | exact up_raw rfl | exact pk_t (by first | rfl | assumption | omega | (simp only [*, Bool.not_false, Bool.not_true]; first | done | fail) | (simp [*]; first | done | fail)) rfl | exact pk_f (by first | rfl | assumption | omega | (simp only [*, Bool.not_false, Bool.not_true]; first | done | fail) | (simp [*]; first | done | fail)) rfl | fail | exact rw_raw | exact pu_cv (fun w => rfl) (by omega) | exact pu_of (fun w => rfl) rfl | exact be_of (fun w => rfl) | exact nc_of (fun _ _ _ _ => rfl) rfl | exact bu_of (fun w => rfl) rfl | fail) ?_) | ((first | refine q_callE wsTM wsZ (by rfl) ?_ | refine q_callVE wsTM (by rfl) (by rfl) ?_); refine ⟨_, _, _, (by first | assumption | exact k_clone _ (by omega) | exact k_clipR _), _, by rfl, ?_, ?_⟩)); focus (first | exact trivial | fail | exact rfl | (first | omega | (simp only [List.length_append, List.length_replicate, List.length_cons, List.length_nil, List.length_set, List.length_take, List.length_drop, true_and]; omega)) | exact cvB (fun w => rfl) | ((repeat' (first | exact rfl | exact cV_len _ | exact cV_ln rfl (by omega) | exact Cel.pos | omega | exact trivial | refine And.intro ?_ ?_)); done) | (simp [*]; done) | (simp; omega))) | refine q_delC (α := Gt) (by rfl) (by rfl) (by rfl) delG (by first | exact trivial | omega | exact cvB (fun w => rfl) | ((repeat (any_goals (first | exact rfl | exact cV_len _ | exact cV_ln rfl (by omega) | exact Cel.pos | omega | exact trivial | refine And.intro ?_ ?_))); first | done | fail) | (simp [*]; first | done | fail)) ?_)) | refine r_nt (by rfl) (by rfl) (by first | rfl | assumption | omega | (simp only [*, Bool.not_false, Bool.not_true]; first | done | fail) | (simp [*]; first | done | fail)) (by rfl) ?_ | refine r_nf (by rfl) (by rfl) (by first | rfl | assumption | omega | (simp only [*, Bool.not_false, Bool.not_true]; first | done | fail) | (simp [*]; first | done | fail)) (by rfl) ?_ | refine r_gu (by rfl) (by rfl) (by rfl) ?_ | refine r_nil ?_); (repeat (first | ((first | refine r_none ?_ | refine r_gt (by rfl) (by rfl) (by first | rfl | assumption | omega | (simp only [*, Bool.not_false, Bool.not_true]; first | done | fail) | (simp [*]; first | done | fail)) (by rfl) ?_ | refine r_gf (by rfl) (by rfl) (by first | rfl | assumption | omega | (simp only [*, Bool.not_false, Bool.not_true]; first | done | fail) | (simp [*]; first | done | fail)) (by rfl) ?_); (first | fail | ((first | (refine z_op (by rfl) ?_; first | refine z_ok ?_ ?_ | refine z_ex ?_ (by first | exact ft_raw rfl rfl | ((first | refine ft_rp rfl rfl rfl ?_ | refine ft_row rfl rfl rfl ?_ | refine ft_rpF rfl rfl rfl ?_ | refine ft_rowF rfl rfl rfl ?_ | refine up_row rfl rfl ?_ | refine up_rowF rfl rfl rfl ?_ | refine ct_0 rfl ?_ | refine ct_r rfl rfl ?_ | refine ct_c rfl rfl rfl ?_ | refine cu_all rfl ?_ | refine cu_to rfl ?_ | refine cu_from rfl ?_ | refine cu_p rfl ?_ | fail); (first | omega | (simp only [List.length_append, List.length_replicate, List.length_cons, List.length_nil, List.length_set, List.length_take, List.length_drop, true_and]; omega))) | exact up_raw rfl | exact pk_t (by first | rfl | assumption | omega | (simp only [*, Bool.not_false, Bool.not_true]; first | done | fail) | (simp [*]; first | done | fail)) rfl | exact pk_f (by first | rfl | assumption | omega | (simp only [*, Bool.not_false, Bool.not_true]; first | done | fail) | (simp [*]; first | done | fail)) rfl | fail | exact rw_raw | exact pu_cv (fun w => rfl) (by omega) | exact pu_of (fun w => rfl) rfl | exact be_of (fun w => rfl) | exact nc_of (fun _ _ _ _ => rfl) rfl | exact bu_of (fun w => rfl) rfl | fail) ?_) | ((first | refine q_callE wsTM wsZ (by rfl) ?_ | refine q_callVE wsTM (by rfl) (by rfl) ?_); refine ⟨_, _, _, (by first | assumption | exact k_clone _ (by omega) | exact k_clipR _), _, by rfl, ?_, ?_⟩)); focus (first | exact trivial | fail | exact rfl | (first | omega | (simp only [List.length_append, List.length_replicate, List.length_cons, List.length_nil, List.length_set, List.length_take, List.length_drop, true_and]; omega)) | exact cvB (fun w => rfl) | ((repeat' (first | exact rfl | exact cV_len _ | exact cV_ln rfl (by omega) | exact Cel.pos | omega | exact trivial | refine And.intro ?_ ?_)); done) | (simp [*]; done) | (simp; omega))) | refine q_delC (α := Gt) (by rfl) (by rfl) (by rfl) delG (by first | exact trivial | omega | exact cvB (fun w => rfl) | ((repeat (any_goals (first | exact rfl | exact cV_len _ | exact cV_ln rfl (by omega) | exact Cel.pos | omega | exact trivial | refine And.intro ?_ ?_))); first | done | fail) | (simp [*]; first | done | fail)) ?_)) | refine r_nt (by rfl) (by rfl) (by first | rfl | assumption | omega | (simp only [*, Bool.not_false, Bool.not_true]; first | done | fail) | (simp [*]; first | done | fail)) (by rfl) ?_ | refine r_nf (by rfl) (by rfl) (by first | rfl | assumption | omega | (simp only [*, Bool.not_false, Bool.not_true]; first | done | fail) | (simp [*]; first | done | fail)) (by rfl) ?_ | refine r_gu (by rfl) (by rfl) (by rfl) ?_ | refine r_nil ?_)); exact hh.out)) : G := h ⟨k⟩
theorem gc_KME {H G : Prop} (k : H) (h : Hid H → G := by (intro hh; (first | refine aw_seq ?_ | refine aw_ct (by rfl) (by first | rfl | assumption | omega | (simp only [*, Bool.not_false, Bool.not_true]; first | done | fail) | (simp [*]; first | done | fail)) ?_ | refine aw_cf (by rfl) (by first | rfl | assumption | omega | (simp only [*, Bool.not_false, Bool.not_true]; first | done | fail) | (simp [*]; first | done | fail)) ?_ | refine aw_block ?_ | refine aw_region T0ok cfU_ok (by rfl) ?_ | refine aw_skip ?_ | refine aw_exit ?_ | refine ra_step ?_); (repeat (first | refine aw_seq ?_ | refine aw_ct (by rfl) (by first | rfl | assumption | omega | (simp only [*, Bool.not_false, Bool.not_true]; first | done | fail) | (simp [*]; first | done | fail)) ?_ | refine aw_cf (by rfl) (by first | rfl | assumption | omega | (simp only [*, Bool.not_false, Bool.not_true]; first | done | fail) | (simp [*]; first | done | fail)) ?_ | refine aw_block ?_ | refine aw_region T0ok cfU_ok (by rfl) ?_ | refine aw_skip ?_ | refine aw_exit ?_ | refine ra_step ?_)); exact hh.out)) : G := h ⟨k⟩
theorem gd_KME {H G : Prop} (k : H) (h : Hid H → G := by (intro hh; (refine aw_draw mixed T0ok cfU_ok [] (by rfl) (by kernel_rfl) ?_); exact hh.out)) : G := h ⟨k⟩
theorem k_clipR (l : List Gt) : Kon Try.prog 94 [roA l] [] (roA l) [] [] := by
  (refine kon_mk T0ok (fn := Try.f94) (c := Try.f94.body.get rfl) Try.func94 rfl (by rfl) (by rfl) (by rfl) ?_; intro hfit hfe)
  (repeat (first | refine gq_KME ?_ | (refine ga_KME ?_; intro _q ⟨_he, _hq⟩)))
  ((try refine aw_ret ?_); refine ret_auto2 (by rfl) (by rfl) (by rfl) (by repeat (first | exact trivial | refine ⟨by first | rfl | omega, ?_⟩)) ?_ (by repeat (first | exact trivial | refine ⟨by rfl, by rfl, ?_⟩)) (by repeat (first | exact trivial | refine ⟨by rfl, by rfl, ?_⟩)); try rfl)
/-- Dropped: three parts. -/
theorem drp_lt (l : List Gt) (a b : Nat) : ∀ i : Nat, i ≤ l.length → i ≤ a → a < b → drp l a b i = l.take i
  | 0, _, _, _ => by simp [drp]
  | i + 1, hi, h, hab => by
    have e : l.getD i Cel.no = l[i] := by simp [List.getD_eq_getElem?_getD, show i < l.length by omega]
    rw [drp, if_pos (by simp only [Bool.and_eq_true, bne_iff_ne]; omega), drp_lt l a b i (by omega) (by omega) hab, e, List.take_append_getElem]
theorem drp_mid (l : List Gt) (a b : Nat) : ∀ i : Nat, i ≤ l.length → a < i → i ≤ b → drp l a b i = l.take a ++ (l.take i).drop (a + 1)
  | 0, _, h, _ => by omega
  | i + 1, hi, h, hb => by
    have e : l.getD i Cel.no = l[i] := by simp [List.getD_eq_getElem?_getD, show i < l.length by omega]
    rcases Nat.lt_or_ge a i with h1 | h1
    · rw [drp, if_pos (by simp only [Bool.and_eq_true, bne_iff_ne]; omega), drp_mid l a b i (by omega) h1 (by omega), e, List.append_assoc, ← List.take_append_getElem (show i < l.length by omega), List.drop_append_of_le_length (by rw [List.length_take]; omega)]
    · obtain rfl : a = i := by omega
      rw [drp, if_neg (by simp), drp_lt l a b a (by omega) (Nat.le_refl _) (by omega)]
      simp
theorem drp_del (l : List Gt) (a b : Nat) (hab : a < b) : ∀ i : Nat, i ≤ l.length → b < i → drp l a b i = l.take a ++ ((l.take b).drop (a + 1) ++ (l.take i).drop (b + 1))
  | 0, _, h => by omega
  | i + 1, hi, h => by
    have e : l.getD i Cel.no = l[i] := by simp [List.getD_eq_getElem?_getD, show i < l.length by omega]
    rcases Nat.lt_or_ge b i with h1 | h1
    · rw [drp, if_pos (by simp only [Bool.and_eq_true, bne_iff_ne]; omega), drp_del l a b hab i (by omega) h1, e, List.append_assoc, List.append_assoc, ← List.take_append_getElem (show i < l.length by omega), List.drop_append_of_le_length (by rw [List.length_take]; omega)]
    · obtain rfl : b = i := by omega
      rw [drp, if_neg (by simp), drp_mid l a b b (by omega) hab (Nat.le_refl _)]
      simp
theorem del_drp (l : List Gt) (a b : Nat) (hab : a < b) (hb : b < l.length) : (l.take (b : Int).toNat ++ l.drop ((b : Int) + 1).toNat).take (a : Int).toNat ++ (l.take (b : Int).toNat ++ l.drop ((b : Int) + 1).toNat).drop ((a : Int) + 1).toNat = drp l a b l.length := by
  have e1 : (a : Int).toNat = a := by omega
  have e2 : (b : Int).toNat = b := by omega
  have e3 : ((a : Int) + 1).toNat = a + 1 := by omega
  have e4 : ((b : Int) + 1).toNat = b + 1 := by omega
  rw [e1, e2, e3, e4, drp_del l a b hab l.length (Nat.le_refl _) hb, List.take_length, List.take_append_of_le_length (by rw [List.length_take]; omega), List.take_take, Nat.min_eq_left (by omega), List.drop_append_of_le_length (by rw [List.length_take]; omega)]
theorem k_shI (n : Int) (l : List Gt) (ha : l.all (gok n) = true) (hl : l.length ≤ 1000) : Kon Try.prog 87 [roA l] [] (roA (shr l l.length)) [] [] := by
  (refine kon_mk T0ok (fn := Try.f87) (c := Try.f87.body.get rfl) Try.func87 rfl (by rfl) (by rfl) (by rfl) ?_; intro hfit hfe)
  (repeat (first | refine gq_KME ?_ | (refine ga_KME ?_; intro _q ⟨_he, _hq⟩)))
  (refine aw_rd [2] [] (fun g : Nat × List Gt => [(3, .g (.one (.sl 112 g.1 g.2.length)))]) (fun g => [(112, (g.1, gRow g.2))]) (fun g => g.2.all (gok n) = true ∧ g.2.length ≤ 1000 ∧ shr g.2 g.2.length = shr l l.length) (fun g => g.2.length) (0, l) (by rfl) (by rfl) ?_ (by rfl) (by repeat (first | exact trivial | refine ⟨by rfl, ?_⟩ | refine ⟨vI_of (by rfl) (by omega), ?_⟩)) (by repeat (first | exact trivial | refine ⟨by rfl, ?_⟩ | refine ⟨vI_of (by rfl) (by omega), ?_⟩)) ?_)
  · exact ⟨ha, hl, rfl⟩
  rintro ⟨r, o⟩ ⟨ho, hol, hs⟩
  dsimp only at ho hol hs ⊢
  have hU := k_usl n o ho hol
  cases hd : decide ((usl o 0).1 < 0) with
  | true =>
    have e : shr o o.length = o := by
      cases hm : o.length with
      | zero => rfl
      | succ m => rw [shr, if_pos (of_decide_eq_true hd)]
    rw [← hs, e]
    clear hs e
    (repeat refine gc_KME ?_)
    (repeat (first | refine gs_KME ?_ | (refine ga_KME ?_; intro _q ⟨_he, _hq⟩)))
    (repeat refine gc_KME ?_)
    (repeat (first | refine gs_KME ?_ | (refine ga_KME ?_; intro _q ⟨_he, _hq⟩)))
    (refine aw_freeze 112 (by rfl) (by rfl) ?_; refine aw_slot 3 4 (by rfl) (by rfl) (by first | exact trivial | omega | exact cvB (fun w => rfl) | ((repeat (any_goals (first | exact rfl | exact cV_len _ | exact cV_ln rfl (by omega) | exact Cel.pos | omega | exact trivial | refine And.intro ?_ ?_))); first | done | fail) | (simp [*]; first | done | fail)) ?_)
    (repeat (first | refine gq_KME ?_ | (refine ga_KME ?_; intro _q ⟨_he, _hq⟩)))
    ((try refine aw_ret ?_); refine ret_auto2 (by rfl) (by rfl) (by rfl) (by repeat (first | exact trivial | refine ⟨by first | rfl | omega, ?_⟩)) ?_ (by repeat (first | exact trivial | refine ⟨by rfl, by rfl, ?_⟩)) (by repeat (first | exact trivial | refine ⟨by rfl, by rfl, ?_⟩)); try rfl)
  | false =>
    have hnn := of_decide_eq_false hd
    rcases usl_spec o 0 with hu | ⟨a, b, hu, hab, hbl, _⟩
    · rw [hu] at hnn; simp at hnn
    · rw [Nat.zero_add, Nat.zero_add] at hu
      have hE := del_drp o a b hab hbl
      have hless := usl_less o hnn
      have hst := (shr_step o hnn).trans hs
      have hall : (drp o (usl o 0).1 (usl o 0).2 o.length).all (gok n) = true := by
        rw [List.all_eq_true] at ho ⊢
        exact fun g hg => ho g (drp_mem o _ _ o.length (Nat.le_refl _) g hg)
      rw [hu] at hU hd hless hst hall
      dsimp only at hU hd hless hst hall
      rw [← hE] at hless hst hall
      clear hs hE hu hnn
      have hless2 := hless
      simp only [List.length_append, List.length_take, List.length_drop] at hless2
      have hX : (o.take (b : Int).toNat ++ o.drop ((b : Int) + 1).toNat).length = o.length - 1 := by
        rw [List.length_append, List.length_take, List.length_drop]; omega
      clear hless2
      obtain ⟨X, hXe⟩ : ∃ X, (o.take (b : Int).toNat ++ o.drop ((b : Int) + 1).toNat).take (a : Int).toNat ++ (o.take (b : Int).toNat ++ o.drop ((b : Int) + 1).toNat).drop ((a : Int) + 1).toNat = X := ⟨_, rfl⟩
      rw [hXe] at hless hst hall
      have hinv : X.all (gok n) = true ∧ X.length ≤ 1000 ∧ shr X X.length = shr l l.length := ⟨hall, by omega, hst⟩
      clear hst hall
      rw [← hXe] at hinv hless
      clear hXe
      (repeat (first | refine gq_KME ?_ | (refine ga_KME ?_; intro _q ⟨_he, _hq⟩)))
      exact ⟨(r + 1 + 1, _), hinv, ⟨by rfl, (by repeat (first | exact trivial | refine ⟨by rfl, ?_⟩ | refine ⟨vI_of (by rfl) (by omega), ?_⟩)), (by repeat (first | exact trivial | refine ⟨by rfl, ?_⟩ | refine ⟨vI_of (by rfl) (by omega), ?_⟩))⟩, (by first | omega | (dsimp only; omega))⟩
theorem k_shI0 : Kon Try.prog 87 [roA ([] : List Gt)] [] (roA ([] : List Gt)) [] [] := by
  have h := k_shI 1 [] rfl (by decide)
  exact h
theorem k_csI0 (n : Int) (l : List Gt) (hl : l.length ≤ 1000) (h : cokB n l = false) : Kon Try.prog 45 [vI n, roA l] [] vN [] [] := by
  have hC := k_cv n l (by omega)
  rw [h] at hC
  (refine kon_mk T0ok (fn := Try.f45) (c := Try.f45.body.get rfl) Try.func45 rfl (by rfl) (by rfl) (by rfl) ?_; intro hfit hfe)
  (repeat (first | refine gq_KME ?_ | (refine ga_KME ?_; intro _q ⟨_he, _hq⟩)))
  ((try refine aw_ret ?_); refine ret_auto2 (by rfl) (by rfl) (by rfl) (by repeat (first | exact trivial | refine ⟨by first | rfl | omega, ?_⟩)) ?_ (by repeat (first | exact trivial | refine ⟨by rfl, by rfl, ?_⟩)) (by repeat (first | exact trivial | refine ⟨by rfl, by rfl, ?_⟩)); try rfl)
theorem k_csI (n : Int) (l : List Gt) (h : cokB n l = true) : Kon Try.prog 45 [vI n, roA l] [] (roA (shr l l.length)) [] [] := by
  have hl := (cokB_t h).2.1
  have hC := k_cv n l (by omega)
  rw [h] at hC
  have hS := k_shI n l (cokB_t h).2.2 (by omega)
  (refine kon_mk T0ok (fn := Try.f45) (c := Try.f45.body.get rfl) Try.func45 rfl (by rfl) (by rfl) (by rfl) ?_; intro hfit hfe)
  (repeat (first | refine gq_KME ?_ | (refine ga_KME ?_; intro _q ⟨_he, _hq⟩)))
  ((try refine aw_ret ?_); refine ret_auto2 (by rfl) (by rfl) (by rfl) (by repeat (first | exact trivial | refine ⟨by first | rfl | omega, ?_⟩)) ?_ (by repeat (first | exact trivial | refine ⟨by rfl, by rfl, ?_⟩)) (by repeat (first | exact trivial | refine ⟨by rfl, by rfl, ?_⟩)); try rfl)
end Go.Proofs.Yteagoafamjbpbaa
