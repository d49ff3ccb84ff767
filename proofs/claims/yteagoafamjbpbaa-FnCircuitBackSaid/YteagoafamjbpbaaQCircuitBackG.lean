/- KGR, KGP, KDL, KGQ, KBM, KGV, PJ, PK, KCC, KBP, KNA, RowD: laid into one text. -/
import Derived.Test.YteagoafamjbpbaaQCircuitBackF
import Derived.ChangeKeysEq
import Derived.ProofKit
import Derived.OpenShut
import Derived.ShutString
import Derived.ChangeOld
import Derived.Below
import Derived.Lib.SmallJoins
import Derived.Deep.Slices
import Derived.Deep.Strs

/- Gates compared; circuits compared; Clip; what all words become; what circuits cost. -/
namespace Go.Proofs.Yteagoafamjbpbaa
set_option linter.unusedVariables false
set_option linter.unusedSimpArgs false
set_option maxRecDepth 20000
open Go.RowKit
def chk4 (ti : TypeId) : List Field → Bool
  | [f, f', f'', f3] => (f.name != "_") && (f.type == ti) && (f.offset == 0) && ((f'.name != "_") && (f'.type == ti) && (f'.offset == 1)) && ((f''.name != "_") && (f''.type == ti) && (f''.offset == 2)) && ((f3.name != "_") && (f3.type == ti) && (f3.offset == 3))
  | _ => false
theorem equal_gate (k a b c k' a' b' c' : Int) (w : World) : (Op.equalIn 10000 34 (.agg #[.int .i64 k, .int .i64 a, .int .i64 b, .int .i64 c]) (.agg #[.int .i64 k', .int .i64 a', .int .i64 b', .int .i64 c'])).run Try.prog w = .ok (k == k' && (a == a' && (b == b' && c == c'))) w := by
  rw [run_equalIn_agg (ht := by kernel_rfl) (hp := by kernel_rfl)]
  have hc : chk4 3 (Try.prog.fieldsOf 34).toList = true := by kernel_rfl
  have hi : Try.prog.underlying 3 = some (.int .i64) := by kernel_rfl
  have hz : ∀ (xs : Array Value) (k : Nat) (v : Value) (w : World), xs[k]? = some v → (part 3 xs k).run Try.prog w = .ok v w := fun xs k v w h => run_part_plain w (by kernel_rfl) h
  have z0 := fun w => hz #[.int .i64 k, .int .i64 a, .int .i64 b, .int .i64 c] 0 _ w rfl
  have y0 := fun w => hz #[.int .i64 k', .int .i64 a', .int .i64 b', .int .i64 c'] 0 _ w rfl
  have z1 := fun w => hz #[.int .i64 k, .int .i64 a, .int .i64 b, .int .i64 c] 1 _ w rfl
  have y1 := fun w => hz #[.int .i64 k', .int .i64 a', .int .i64 b', .int .i64 c'] 1 _ w rfl
  have z2 := fun w => hz #[.int .i64 k, .int .i64 a, .int .i64 b, .int .i64 c] 2 _ w rfl
  have y2 := fun w => hz #[.int .i64 k', .int .i64 a', .int .i64 b', .int .i64 c'] 2 _ w rfl
  have z3 := fun w => hz #[.int .i64 k, .int .i64 a, .int .i64 b, .int .i64 c] 3 _ w rfl
  have y3 := fun w => hz #[.int .i64 k', .int .i64 a', .int .i64 b', .int .i64 c'] 3 _ w rfl
  have e : ∀ (x y : Int) w, (Op.equalIn 9999 3 (.int .i64 x) (.int .i64 y)).run Try.prog w = .ok (x == y) w := fun x y w => run_equalIn_int (P := Try.prog) w 9998 3 .i64 .i64 x y hi
  clear hz
  generalize (Try.prog.fieldsOf 34).toList = fs at hc ⊢
  unfold chk4 at hc
  split at hc
  · rename_i f f' f'' f3
    simp only [Bool.and_eq_true, bne_iff_ne, beq_iff_eq] at hc
    obtain ⟨⟨⟨⟨⟨h1, h2⟩, h3⟩, ⟨⟨h4, h5⟩, h6⟩⟩, ⟨⟨h7, h8⟩, h9⟩⟩, ⟨⟨g1, g2⟩, g3⟩⟩ := hc
    simp only [Op.eqFields, h1, h2, h3, h4, h5, h6, h7, h8, h9, g1, g2, g3, if_true, ne_eq, not_false_eq_true, Sem.run_bind, z0, y0, Result.andThen_ok]
    erw [e k k' w]
    cases (k == k')
    · rfl
    simp only [Result.andThen_ok, Bool.not_true, Bool.false_eq_true, if_false, Sem.run_bind, z1, y1]
    erw [e a a' w]
    cases (a == a')
    · rfl
    simp only [Result.andThen_ok, Bool.not_true, Bool.false_eq_true, if_false, Sem.run_bind, z2, y2]
    erw [e b b' w]
    cases (b == b')
    · rfl
    simp only [Result.andThen_ok, Bool.not_true, Bool.false_eq_true, if_false, Sem.run_bind, z3, y3]
    erw [e c c' w]
    cases (c == c') <;> rfl
  · cases hc
theorem eq_gate (x y : Operand) (k a b c k' a' b' c' : Int) (w : World) : (do eqGuard .eql 34 x y (.agg #[.int .i64 k, .int .i64 a, .int .i64 b, .int .i64 c]) (.agg #[.int .i64 k', .int .i64 a', .int .i64 b', .int .i64 c']); binOp .eql 34 (.agg #[.int .i64 k, .int .i64 a, .int .i64 b, .int .i64 c]) (.agg #[.int .i64 k', .int .i64 a', .int .i64 b', .int .i64 c']) : Sem Value).run Try.prog w = .ok (.bool (k == k' && (a == a' && (b == b' && c == c')))) w := by
  rw [Sem.run_bind, run_eqGuard_agg (hm := by kernel_rfl)]
  simp only [Result.andThen_ok]
  rw [run_eql_struct, equal_gate]; rfl
theorem neq_gate (x y : Operand) (k a b c k' a' b' c' : Int) (w : World) : (do eqGuard .neq 34 x y (.agg #[.int .i64 k, .int .i64 a, .int .i64 b, .int .i64 c]) (.agg #[.int .i64 k', .int .i64 a', .int .i64 b', .int .i64 c']); binOp .neq 34 (.agg #[.int .i64 k, .int .i64 a, .int .i64 b, .int .i64 c]) (.agg #[.int .i64 k', .int .i64 a', .int .i64 b', .int .i64 c']) : Sem Value).run Try.prog w = .ok (.bool (!(k == k' && (a == a' && (b == b' && c == c'))))) w := by
  rw [Sem.run_bind, run_eqGuard_agg (hm := by kernel_rfl)]
  simp only [Result.andThen_ok]
  rw [run_neq_struct, equal_gate]; rfl
set_option maxHeartbeats 400000 in
theorem clipG : IsClip Try.prog 94 := by
  refine isClip_mk Try.func94 rfl (by rfl) fun A n c w hn hm => ?_
  go_enter Try.func94, Try.ntmps94
  go_wp2
  go_ret
  exact ⟨rfl, rfl⟩
attribute [local irreducible] runA runX AW
theorem gq_KGR {H G : Prop} (k : H) (h : Hid H → G := by (intro hh; (first | (first | ((first | refine r_none ?_ | refine r_gt (by rfl) (by rfl) (by first | rfl | assumption | omega | (simp only [*, Bool.not_false, Bool.not_true]; first | done | fail) | (simp [*]; first | done | fail)) (by rfl) ?_ | refine r_gf (by rfl) (by rfl) (by first | rfl | assumption | omega | (simp only [*, Bool.not_false, Bool.not_true]; first | done | fail) | (simp [*]; first | done | fail)) (by rfl) ?_); (first | fail | ((first | (refine z_op (by rfl) ?_; first | refine z_ok ?_ ?_ | refine z_ex ?_ (by first | exact ft_raw rfl rfl | ((first | refine ft_rp rfl rfl rfl ?_ | refine ft_row rfl rfl rfl ?_ | refine ft_rpF rfl rfl rfl ?_ | refine ft_rowF rfl rfl rfl ?_ | refine up_row rfl rfl ?_ | refine up_rowF rfl rfl rfl ?_ | refine ct_0 rfl ?_ | refine ct_r rfl rfl ?_ | refine ct_c rfl rfl rfl ?_ | refine cu_all rfl ?_ | refine cu_to rfl ?_ | refine cu_from rfl ?_ | refine cu_p rfl ?_ | (first | refine mk_0 Int rfl rfl ?_ | refine mk_0 Gt rfl rfl ?_)); (first | omega | (simp only [List.length_append, List.length_replicate, List.length_cons, List.length_nil, List.length_set, List.length_take, List.length_drop, true_and]; omega))) | exact up_raw rfl | exact pk_t (by first | rfl | assumption | omega | (simp only [*, Bool.not_false, Bool.not_true]; first | done | fail) | (simp [*]; first | done | fail)) rfl | exact pk_f (by first | rfl | assumption | omega | (simp only [*, Bool.not_false, Bool.not_true]; first | done | fail) | (simp [*]; first | done | fail)) rfl | exact rw_c Int rfl | exact rw_raw | exact pu_cv (fun w => rfl) (by omega) | exact pu_of (fun w => rfl) rfl | exact be_of (fun w => rfl) | exact nc_of (fun _ _ _ _ => rfl) rfl | exact bu_of (fun w => rfl) rfl | (first | exact pu_of (fun w => neq_gate _ _ _ _ _ _ _ _ _ _ w) rfl | exact pu_of (fun w => eq_gate _ _ _ _ _ _ _ _ _ _ w) rfl)) ?_) | ((first | refine q_callE wsT wsZ (by rfl) ?_ | refine q_callVE wsT (by rfl) (by rfl) ?_); refine ⟨_, _, _, (by first | assumption | exact k_gv _ _ | exact k_cv _ _ (by omega)), _, by rfl, ?_, ?_⟩)); focus (first | exact trivial | fail | exact rfl | (first | omega | (simp only [List.length_append, List.length_replicate, List.length_cons, List.length_nil, List.length_set, List.length_take, List.length_drop, true_and]; omega)) | exact cvB (fun w => rfl) | ((repeat' (first | exact rfl | exact cV_len _ | exact cV_ln rfl (by omega) | exact Cel.pos | omega | exact trivial | refine And.intro ?_ ?_)); done) | (simp [*]; done) | (simp; omega))) | fail)) | refine r_nt (by rfl) (by rfl) (by first | rfl | assumption | omega | (simp only [*, Bool.not_false, Bool.not_true]; first | done | fail) | (simp [*]; first | done | fail)) (by rfl) ?_ | refine r_nf (by rfl) (by rfl) (by first | rfl | assumption | omega | (simp only [*, Bool.not_false, Bool.not_true]; first | done | fail) | (simp [*]; first | done | fail)) (by rfl) ?_ | refine r_gu (by rfl) (by rfl) (by rfl) ?_ | refine r_nil ?_) | (first | refine aw_seq ?_ | refine aw_ct (by rfl) (by first | rfl | assumption | omega | (simp only [*, Bool.not_false, Bool.not_true]; first | done | fail) | (simp [*]; first | done | fail)) ?_ | refine aw_cf (by rfl) (by first | rfl | assumption | omega | (simp only [*, Bool.not_false, Bool.not_true]; first | done | fail) | (simp [*]; first | done | fail)) ?_ | refine aw_block ?_ | refine aw_region T0ok cfU_ok (by rfl) ?_ | refine aw_skip ?_ | refine aw_exit ?_ | refine ra_step ?_)); (repeat (first | (first | ((first | refine r_none ?_ | refine r_gt (by rfl) (by rfl) (by first | rfl | assumption | omega | (simp only [*, Bool.not_false, Bool.not_true]; first | done | fail) | (simp [*]; first | done | fail)) (by rfl) ?_ | refine r_gf (by rfl) (by rfl) (by first | rfl | assumption | omega | (simp only [*, Bool.not_false, Bool.not_true]; first | done | fail) | (simp [*]; first | done | fail)) (by rfl) ?_); (first | fail | ((first | (refine z_op (by rfl) ?_; first | refine z_ok ?_ ?_ | refine z_ex ?_ (by first | exact ft_raw rfl rfl | ((first | refine ft_rp rfl rfl rfl ?_ | refine ft_row rfl rfl rfl ?_ | refine ft_rpF rfl rfl rfl ?_ | refine ft_rowF rfl rfl rfl ?_ | refine up_row rfl rfl ?_ | refine up_rowF rfl rfl rfl ?_ | refine ct_0 rfl ?_ | refine ct_r rfl rfl ?_ | refine ct_c rfl rfl rfl ?_ | refine cu_all rfl ?_ | refine cu_to rfl ?_ | refine cu_from rfl ?_ | refine cu_p rfl ?_ | (first | refine mk_0 Int rfl rfl ?_ | refine mk_0 Gt rfl rfl ?_)); (first | omega | (simp only [List.length_append, List.length_replicate, List.length_cons, List.length_nil, List.length_set, List.length_take, List.length_drop, true_and]; omega))) | exact up_raw rfl | exact pk_t (by first | rfl | assumption | omega | (simp only [*, Bool.not_false, Bool.not_true]; first | done | fail) | (simp [*]; first | done | fail)) rfl | exact pk_f (by first | rfl | assumption | omega | (simp only [*, Bool.not_false, Bool.not_true]; first | done | fail) | (simp [*]; first | done | fail)) rfl | exact rw_c Int rfl | exact rw_raw | exact pu_cv (fun w => rfl) (by omega) | exact pu_of (fun w => rfl) rfl | exact be_of (fun w => rfl) | exact nc_of (fun _ _ _ _ => rfl) rfl | exact bu_of (fun w => rfl) rfl | (first | exact pu_of (fun w => neq_gate _ _ _ _ _ _ _ _ _ _ w) rfl | exact pu_of (fun w => eq_gate _ _ _ _ _ _ _ _ _ _ w) rfl)) ?_) | ((first | refine q_callE wsT wsZ (by rfl) ?_ | refine q_callVE wsT (by rfl) (by rfl) ?_); refine ⟨_, _, _, (by first | assumption | exact k_gv _ _ | exact k_cv _ _ (by omega)), _, by rfl, ?_, ?_⟩)); focus (first | exact trivial | fail | exact rfl | (first | omega | (simp only [List.length_append, List.length_replicate, List.length_cons, List.length_nil, List.length_set, List.length_take, List.length_drop, true_and]; omega)) | exact cvB (fun w => rfl) | ((repeat' (first | exact rfl | exact cV_len _ | exact cV_ln rfl (by omega) | exact Cel.pos | omega | exact trivial | refine And.intro ?_ ?_)); done) | (simp [*]; done) | (simp; omega))) | fail)) | refine r_nt (by rfl) (by rfl) (by first | rfl | assumption | omega | (simp only [*, Bool.not_false, Bool.not_true]; first | done | fail) | (simp [*]; first | done | fail)) (by rfl) ?_ | refine r_nf (by rfl) (by rfl) (by first | rfl | assumption | omega | (simp only [*, Bool.not_false, Bool.not_true]; first | done | fail) | (simp [*]; first | done | fail)) (by rfl) ?_ | refine r_gu (by rfl) (by rfl) (by rfl) ?_ | refine r_nil ?_) | (first | refine aw_seq ?_ | refine aw_ct (by rfl) (by first | rfl | assumption | omega | (simp only [*, Bool.not_false, Bool.not_true]; first | done | fail) | (simp [*]; first | done | fail)) ?_ | refine aw_cf (by rfl) (by first | rfl | assumption | omega | (simp only [*, Bool.not_false, Bool.not_true]; first | done | fail) | (simp [*]; first | done | fail)) ?_ | refine aw_block ?_ | refine aw_region T0ok cfU_ok (by rfl) ?_ | refine aw_skip ?_ | refine aw_exit ?_ | refine ra_step ?_))); exact hh.out)) : G := h ⟨k⟩
theorem ga_KGR {H G : Prop} (k : H) (h : Hid H → G := by (intro hh; (first | refine r_none ?_ | refine r_gt (by rfl) (by rfl) (by first | rfl | assumption | omega | (simp only [*, Bool.not_false, Bool.not_true]; first | done | fail) | (simp [*]; first | done | fail)) (by rfl) ?_ | refine r_gf (by rfl) (by rfl) (by first | rfl | assumption | omega | (simp only [*, Bool.not_false, Bool.not_true]; first | done | fail) | (simp [*]; first | done | fail)) (by rfl) ?_); refine z_op (by rfl) ?_; refine z_alV ?_ hh.out; focus (first | exact trivial | fail | exact rfl | (first | omega | (simp only [List.length_append, List.length_replicate, List.length_cons, List.length_nil, List.length_set, List.length_take, List.length_drop, true_and]; omega)) | exact cvB (fun w => rfl) | ((repeat' (first | exact rfl | exact cV_len _ | exact cV_ln rfl (by omega) | exact Cel.pos | omega | exact trivial | refine And.intro ?_ ?_)); done) | (simp [*]; done) | (simp; omega)))) : G := h ⟨k⟩
theorem gd_KGR {H G : Prop} (k : H) (h : Hid H → G := by (intro hh; (refine aw_draw mixed T0ok cfU_ok [] (by rfl) (by kernel_rfl) ?_); exact hh.out)) : G := h ⟨k⟩
def geq (g h : Gt) : Bool := g.k == h.k && (g.a == h.a && (g.b == h.b && g.c == h.c))
theorem geq_refl (g : Gt) : geq g g = true := by simp [geq]
theorem k_sg (l : List Gt) (h : l.length ≤ 10000000) : Kon Try.prog 26 [roA l, roA l] [] (vB true) [] [] := by
  have h1 : ((l.length : Int) != (l.length : Int)) = false := by simp
  (refine kon_mk T0ok (fn := Try.f26) (c := Try.f26.body.get rfl) Try.func26 rfl (by rfl) (by rfl) (by rfl) ?_; intro hfit hfe)
  (repeat (first | refine gq_KGR ?_ | (refine ga_KGR ?_; intro _hq)))
  (refine aw_rd [0, 1] [] (fun i : Nat => [(5, vI i)]) (fun _ => []) (fun i => i ≤ l.length) (fun i => l.length - i) 0 (by rfl) (by rfl) ?_ (by rfl) (by repeat (first | exact trivial | refine ⟨by rfl, ?_⟩ | refine ⟨vI_of (by rfl) (by omega), ?_⟩)) (by repeat (first | exact trivial | refine ⟨by rfl, ?_⟩ | refine ⟨vI_of (by rfl) (by omega), ?_⟩)) ?_)
  · exact Nat.zero_le _
  rintro i hi
  rcases Nat.lt_or_ge i l.length with h5 | h5
  · have hd : decide ((i : Int) < (l.length : Int)) = true := decide_eq_true (by omega)
    have hg : (!(geq (l.getD (i : Int).toNat Cel.no) (l.getD (i : Int).toNat Cel.no))) = false := by rw [geq_refl]; rfl
    unfold geq at hg
    (repeat (first | refine gq_KGR ?_ | (refine ga_KGR ?_; intro _hq) | refine gd_KGR ?_))
    exact ⟨i + 1, h5, ⟨by rfl, (by repeat (first | exact trivial | refine ⟨by rfl, ?_⟩ | refine ⟨vI_of (by rfl) (by omega), ?_⟩)), (by repeat (first | exact trivial | refine ⟨by rfl, ?_⟩ | refine ⟨vI_of (by rfl) (by omega), ?_⟩))⟩, (by first | omega | (dsimp only; omega))⟩
  · have hd : decide ((i : Int) < (l.length : Int)) = false := decide_eq_false (by omega)
    (repeat (first | refine gq_KGR ?_ | (refine ga_KGR ?_; intro _hq) | refine gd_KGR ?_))
    ((try refine aw_ret ?_); refine ret_auto2 (by rfl) (by rfl) (by rfl) (by repeat (first | exact trivial | refine ⟨by first | rfl | omega, ?_⟩)) ?_ (by repeat (first | exact trivial | refine ⟨by rfl, by rfl, ?_⟩)) (by repeat (first | exact trivial | refine ⟨by rfl, by rfl, ?_⟩)); try rfl)

theorem k_eqI (l : List Int) (h : l.length ≤ 10000000) : Kon Try.prog 91 [roA l, roA l] [] (vB true) [] [] := by
  have h1 : ((l.length : Int) != (l.length : Int)) = false := by simp
  have hg : ∀ x : Int, (x != x) = false := fun x => by simp
  (refine kon_mk T0ok (fn := Try.f91) (c := Try.f91.body.get rfl) Try.func91 rfl (by rfl) (by rfl) (by rfl) ?_; intro hfit hfe)
  (repeat (first | refine gq_KGR ?_ | (refine ga_KGR ?_; intro _hq)))
  (refine aw_rd [0, 1, 12] [] (fun i : Nat => [(13, vI i)]) (fun _ => []) (fun i => i ≤ l.length) (fun i => l.length - i) 0 (by rfl) (by rfl) ?_ (by rfl) (by repeat (first | exact trivial | refine ⟨by rfl, ?_⟩ | refine ⟨vI_of (by rfl) (by omega), ?_⟩)) (by repeat (first | exact trivial | refine ⟨by rfl, ?_⟩ | refine ⟨vI_of (by rfl) (by omega), ?_⟩)) ?_)
  · exact Nat.zero_le _
  rintro i hi
  rcases Nat.lt_or_ge i l.length with h5 | h5
  · have hd : decide ((i : Int) < (l.length : Int)) = true := decide_eq_true (by omega)
    have hg := hg (l.getD (i : Int).toNat Cel.no)
    (repeat (first | refine gq_KGR ?_ | (refine ga_KGR ?_; intro _hq) | refine gd_KGR ?_))
    exact ⟨i + 1, h5, ⟨by rfl, (by repeat (first | exact trivial | refine ⟨by rfl, ?_⟩ | refine ⟨vI_of (by rfl) (by omega), ?_⟩)), (by repeat (first | exact trivial | refine ⟨by rfl, ?_⟩ | refine ⟨vI_of (by rfl) (by omega), ?_⟩))⟩, (by first | omega | (dsimp only; omega))⟩
  · have hd : decide ((i : Int) < (l.length : Int)) = false := decide_eq_false (by omega)
    (repeat (first | refine gq_KGR ?_ | (refine ga_KGR ?_; intro _hq) | refine gd_KGR ?_))
    ((try refine aw_ret ?_); refine ret_auto2 (by rfl) (by rfl) (by rfl) (by repeat (first | exact trivial | refine ⟨by first | rfl | omega, ?_⟩)) ?_ (by repeat (first | exact trivial | refine ⟨by rfl, by rfl, ?_⟩)) (by repeat (first | exact trivial | refine ⟨by rfl, by rfl, ?_⟩)); try rfl)



















/-- What becomes of all words. -/
def tabN (l : List Gt) : Nat → List Int
  | 0 => []
  | i + 1 => tabN l i ++ [cr l (i : Int)]
theorem tabN_len (l : List Gt) : ∀ i, (tabN l i).length = i
  | 0 => rfl
  | i + 1 => by rw [tabN, List.length_append, tabN_len l i]; rfl
theorem tabN_ext {l l' : List Gt} : ∀ {m : Nat}, (∀ i : Nat, i < m → cr l (i : Int) = cr l' (i : Int)) → tabN l m = tabN l' m
  | 0, _ => rfl
  | m + 1, h => by rw [tabN, tabN, tabN_ext (fun i hi => h i (by omega)), h m (by omega)]
theorem wv_of {n w : Int} (h1 : 1 ≤ n ∧ n ≤ 8) (h2 : 0 ≤ w ∧ w < 2 ^ n.toNat) : wvB n w = true := by
  unfold wvB btw
  rw [decide_eq_true h1.1, decide_eq_true h1.2, decide_eq_true h2.1, decide_eq_true (by omega)]; rfl

set_option maxHeartbeats 1000000 in
theorem k_tab (n : Int) (l : List Gt) (h : cokB n l = true) (N : Nat) (hN : (1 * 2 ^ n.toNat : Int) = (N : Int)) : Kon Try.prog 92 [vI n, roA l] [] (slA 0 0 (tabN l N)) [iRow (tabN l N)] [] := by
  obtain ⟨hn, hl, ha⟩ := cokB_t h
  have h8 := pow_8 hn
  have hN2 : (2 : Int) ^ n.toNat = (N : Int) := by rw [← hN, Int.one_mul]
  (refine kon_mk T0ok (fn := Try.f92) (c := Try.f92.body.get rfl) Try.func92 rfl (by rfl) (by rfl) (by rfl) ?_; intro hfit hfe)
  (repeat (first | refine gq_KGR ?_ | (refine ga_KGR ?_; intro _hq)))
  rw [hN]
  (refine aw_rd [1, 11] [] (fun i : Nat => [(5, .g (.one (.sl 144 i i))), (12, vI i)]) (fun i => [(144, (i, iRow (tabN l i)))]) (fun i => i ≤ N) (fun i => N - i) 0 (by rfl) (by rfl) ?_ (by rfl) (by repeat (first | exact trivial | refine ⟨by rfl, ?_⟩ | refine ⟨vI_of (by rfl) (by omega), ?_⟩)) (by repeat (first | exact trivial | refine ⟨by rfl, ?_⟩ | refine ⟨vI_of (by rfl) (by omega), ?_⟩)) ?_)
  · exact Nat.zero_le _
  rintro i hi
  have hil := tabN_len l i
  rcases Nat.lt_or_ge i N with h5 | h5
  · have hd : decide ((i : Int) < (N : Int)) = true := decide_eq_true (by omega)
    have hR := k_runAll n l (i : Int) ha (by omega) (wv_of hn (by omega))
    (repeat (first | refine gq_KGR ?_ | (refine ga_KGR ?_; intro _hq)))
    exact ⟨i + 1, h5, ⟨by rfl, ⟨Eq.trans (b := some (.g (.one (.sl 144 (i + 1) (tabN l (i + 1)).length)))) (by rfl) (by rw [tabN_len]), (by repeat (first | exact trivial | refine ⟨by rfl, ?_⟩ | refine ⟨vI_of (by rfl) (by omega), ?_⟩))⟩, (by repeat (first | exact trivial | refine ⟨by rfl, ?_⟩ | refine ⟨vI_of (by rfl) (by omega), ?_⟩))⟩, (by first | omega | (dsimp only; omega))⟩
  · obtain rfl : i = N := by omega
    have hd : decide ((i : Int) < (i : Int)) = false := decide_eq_false (by omega)
    (repeat (first | refine gq_KGR ?_ | (refine ga_KGR ?_; intro _hq)))
    ((try refine aw_ret ?_); refine ret_auto2 (by rfl) (by rfl) (by rfl) (by repeat (first | exact trivial | refine ⟨by first | rfl | omega, ?_⟩)) ?_ (by repeat (first | exact trivial | refine ⟨by rfl, by rfl, ?_⟩)) (by repeat (first | exact trivial | refine ⟨by rfl, by rfl, ?_⟩)); try rfl)
    exact congrArg (fun m => AV.g (.one (.sl 0 0 m))) hil.symm


/-- Circuits that make the same are the same. -/
theorem k_same (n : Int) (l l' : List Gt) (h : cokB n l = true) (h' : cokB n l' = true) (hs : ∀ w : Int, 0 ≤ w ∧ w < 2 ^ n.toNat → cr l w = cr l' w) : Kon Try.prog 49 [vI n, roA l, roA l'] [] (vB true) [] [] := by
  obtain ⟨hn, hl, _⟩ := cokB_t h
  obtain ⟨_, hl', _⟩ := cokB_t h'
  obtain ⟨N, hN, hN8⟩ : ∃ N : Nat, (1 * 2 ^ n.toNat : Int) = (N : Int) ∧ N ≤ 256 := ⟨2 ^ n.toNat, by simp, by
    have := (pow_8 hn).2
    have e : ((2 ^ n.toNat : Nat) : Int) = 2 ^ n.toNat := by simp
    omega⟩
  have hT := k_tab n l h N hN
  have hT' := k_tab n l' h' N hN
  have e : tabN l' N = tabN l N := (tabN_ext fun i hi => hs (i : Int) (by rw [Int.one_mul] at hN; omega)).symm
  rw [e] at hT'
  have hC := k_cv n l (by omega)
  have hC' := k_cv n l' (by omega)
  rw [h] at hC
  rw [h'] at hC'
  have hE := k_eqI (tabN l N) (by rw [tabN_len]; omega)
  (refine kon_mk T0ok (fn := Try.f49) (c := Try.f49.body.get rfl) Try.func49 rfl (by rfl) (by rfl) (by rfl) ?_; intro hfit hfe)
  (repeat (first | refine gq_KGR ?_ | (refine ga_KGR ?_; intro _hq)))
  ((try refine aw_ret ?_); refine ret_auto2 (by rfl) (by rfl) (by rfl) (by repeat (first | exact trivial | refine ⟨by first | rfl | omega, ?_⟩)) ?_ (by repeat (first | exact trivial | refine ⟨by rfl, by rfl, ?_⟩)) (by repeat (first | exact trivial | refine ⟨by rfl, by rfl, ?_⟩)); try rfl)

end Go.Proofs.Yteagoafamjbpbaa

/- Drawn gates: the order of lines, a gate. -/
namespace Go.Proofs.Yteagoafamjbpbaa
set_option linter.unusedVariables false
set_option linter.unusedSimpArgs false
set_option maxRecDepth 20000
open Go.RowKit
attribute [local irreducible] runA runX AW
theorem gq_KGP {H G : Prop} (k : H) (h : Hid H → G := by (intro hh; (first | (first | ((first | refine r_none ?_ | refine r_gt (by rfl) (by rfl) (by first | rfl | assumption | omega | (simp only [*, Bool.not_false, Bool.not_true]; first | done | fail) | (simp [*]; first | done | fail)) (by rfl) ?_ | refine r_gf (by rfl) (by rfl) (by first | rfl | assumption | omega | (simp only [*, Bool.not_false, Bool.not_true]; first | done | fail) | (simp [*]; first | done | fail)) (by rfl) ?_); (first | fail | ((first | (refine z_op (by rfl) ?_; first | refine z_ok ?_ ?_ | refine z_ex ?_ (by first | exact ft_raw rfl rfl | ((first | refine ft_rp rfl rfl rfl ?_ | refine ft_row rfl rfl rfl ?_ | refine ft_rpF rfl rfl rfl ?_ | refine ft_rowF rfl rfl rfl ?_ | refine up_row rfl rfl ?_ | refine up_rowF rfl rfl rfl ?_ | refine ct_0 rfl ?_ | refine ct_r rfl rfl ?_ | refine ct_c rfl rfl rfl ?_ | refine cu_all rfl ?_ | refine cu_to rfl ?_ | refine cu_from rfl ?_ | refine cu_p rfl ?_ | fail); (first | omega | (simp only [List.length_append, List.length_replicate, List.length_cons, List.length_nil, List.length_set, List.length_take, List.length_drop, true_and]; omega))) | exact up_raw rfl | exact pk_t (by first | rfl | assumption | omega | (simp only [*, Bool.not_false, Bool.not_true]; first | done | fail) | (simp [*]; first | done | fail)) rfl | exact pk_f (by first | rfl | assumption | omega | (simp only [*, Bool.not_false, Bool.not_true]; first | done | fail) | (simp [*]; first | done | fail)) rfl | exact rw_c Int rfl | exact rw_raw | exact pu_cv (fun w => rfl) (by omega) | exact pu_of (fun w => rfl) rfl | exact be_of (fun w => rfl) | exact nc_of (fun _ _ _ _ => rfl) rfl | exact bu_of (fun w => rfl) rfl | exact ct_t (l := ordN l c k) rfl rfl rfl (by omega) (by rw [hl]; simp; omega)) ?_) | ((first | refine q_callE wsT wsZ (by rfl) ?_ | refine q_callVE wsT (by rfl) (by rfl) ?_); refine ⟨_, _, _, (by first | assumption | exact k_pick _ _ _ (by omega) | exact k_odd0 _ _ _ (by omega) | exact k_odd _ _ _ (by omega)), _, by rfl, ?_, ?_⟩)); focus (first | exact trivial | fail | exact rfl | (first | omega | (simp only [List.length_append, List.length_replicate, List.length_cons, List.length_nil, List.length_set, List.length_take, List.length_drop, true_and]; omega)) | exact cvB (fun w => rfl) | ((repeat' (first | exact rfl | exact cV_len _ | exact cV_ln rfl (by omega) | exact Cel.pos | omega | exact trivial | refine And.intro ?_ ?_)); done) | (simp [*]; done) | (simp; omega))) | fail)) | refine r_nt (by rfl) (by rfl) (by first | rfl | assumption | omega | (simp only [*, Bool.not_false, Bool.not_true]; first | done | fail) | (simp [*]; first | done | fail)) (by rfl) ?_ | refine r_nf (by rfl) (by rfl) (by first | rfl | assumption | omega | (simp only [*, Bool.not_false, Bool.not_true]; first | done | fail) | (simp [*]; first | done | fail)) (by rfl) ?_ | refine r_gu (by rfl) (by rfl) (by rfl) ?_ | refine r_nil ?_) | (first | refine aw_seq ?_ | refine aw_ct (by rfl) (by first | rfl | assumption | omega | (simp only [*, Bool.not_false, Bool.not_true]; first | done | fail) | (simp [*]; first | done | fail)) ?_ | refine aw_cf (by rfl) (by first | rfl | assumption | omega | (simp only [*, Bool.not_false, Bool.not_true]; first | done | fail) | (simp [*]; first | done | fail)) ?_ | refine aw_block ?_ | refine aw_region T0ok cfU_ok (by rfl) ?_ | refine aw_skip ?_ | refine aw_exit ?_ | refine ra_step ?_)); (repeat (first | (first | ((first | refine r_none ?_ | refine r_gt (by rfl) (by rfl) (by first | rfl | assumption | omega | (simp only [*, Bool.not_false, Bool.not_true]; first | done | fail) | (simp [*]; first | done | fail)) (by rfl) ?_ | refine r_gf (by rfl) (by rfl) (by first | rfl | assumption | omega | (simp only [*, Bool.not_false, Bool.not_true]; first | done | fail) | (simp [*]; first | done | fail)) (by rfl) ?_); (first | fail | ((first | (refine z_op (by rfl) ?_; first | refine z_ok ?_ ?_ | refine z_ex ?_ (by first | exact ft_raw rfl rfl | ((first | refine ft_rp rfl rfl rfl ?_ | refine ft_row rfl rfl rfl ?_ | refine ft_rpF rfl rfl rfl ?_ | refine ft_rowF rfl rfl rfl ?_ | refine up_row rfl rfl ?_ | refine up_rowF rfl rfl rfl ?_ | refine ct_0 rfl ?_ | refine ct_r rfl rfl ?_ | refine ct_c rfl rfl rfl ?_ | refine cu_all rfl ?_ | refine cu_to rfl ?_ | refine cu_from rfl ?_ | refine cu_p rfl ?_ | fail); (first | omega | (simp only [List.length_append, List.length_replicate, List.length_cons, List.length_nil, List.length_set, List.length_take, List.length_drop, true_and]; omega))) | exact up_raw rfl | exact pk_t (by first | rfl | assumption | omega | (simp only [*, Bool.not_false, Bool.not_true]; first | done | fail) | (simp [*]; first | done | fail)) rfl | exact pk_f (by first | rfl | assumption | omega | (simp only [*, Bool.not_false, Bool.not_true]; first | done | fail) | (simp [*]; first | done | fail)) rfl | exact rw_c Int rfl | exact rw_raw | exact pu_cv (fun w => rfl) (by omega) | exact pu_of (fun w => rfl) rfl | exact be_of (fun w => rfl) | exact nc_of (fun _ _ _ _ => rfl) rfl | exact bu_of (fun w => rfl) rfl | exact ct_t (l := ordN l c k) rfl rfl rfl (by omega) (by rw [hl]; simp; omega)) ?_) | ((first | refine q_callE wsT wsZ (by rfl) ?_ | refine q_callVE wsT (by rfl) (by rfl) ?_); refine ⟨_, _, _, (by first | assumption | exact k_pick _ _ _ (by omega) | exact k_odd0 _ _ _ (by omega) | exact k_odd _ _ _ (by omega)), _, by rfl, ?_, ?_⟩)); focus (first | exact trivial | fail | exact rfl | (first | omega | (simp only [List.length_append, List.length_replicate, List.length_cons, List.length_nil, List.length_set, List.length_take, List.length_drop, true_and]; omega)) | exact cvB (fun w => rfl) | ((repeat' (first | exact rfl | exact cV_len _ | exact cV_ln rfl (by omega) | exact Cel.pos | omega | exact trivial | refine And.intro ?_ ?_)); done) | (simp [*]; done) | (simp; omega))) | fail)) | refine r_nt (by rfl) (by rfl) (by first | rfl | assumption | omega | (simp only [*, Bool.not_false, Bool.not_true]; first | done | fail) | (simp [*]; first | done | fail)) (by rfl) ?_ | refine r_nf (by rfl) (by rfl) (by first | rfl | assumption | omega | (simp only [*, Bool.not_false, Bool.not_true]; first | done | fail) | (simp [*]; first | done | fail)) (by rfl) ?_ | refine r_gu (by rfl) (by rfl) (by rfl) ?_ | refine r_nil ?_) | (first | refine aw_seq ?_ | refine aw_ct (by rfl) (by first | rfl | assumption | omega | (simp only [*, Bool.not_false, Bool.not_true]; first | done | fail) | (simp [*]; first | done | fail)) ?_ | refine aw_cf (by rfl) (by first | rfl | assumption | omega | (simp only [*, Bool.not_false, Bool.not_true]; first | done | fail) | (simp [*]; first | done | fail)) ?_ | refine aw_block ?_ | refine aw_region T0ok cfU_ok (by rfl) ?_ | refine aw_skip ?_ | refine aw_exit ?_ | refine ra_step ?_))); exact hh.out)) : G := h ⟨k⟩
theorem ga_KGP {H G : Prop} (k : H) (h : Hid H → G := by (intro hh; (first | refine r_none ?_ | refine r_gt (by rfl) (by rfl) (by first | rfl | assumption | omega | (simp only [*, Bool.not_false, Bool.not_true]; first | done | fail) | (simp [*]; first | done | fail)) (by rfl) ?_ | refine r_gf (by rfl) (by rfl) (by first | rfl | assumption | omega | (simp only [*, Bool.not_false, Bool.not_true]; first | done | fail) | (simp [*]; first | done | fail)) (by rfl) ?_); refine z_op (by rfl) ?_; refine z_alV ?_ hh.out; focus (first | exact trivial | fail | exact rfl | (first | omega | (simp only [List.length_append, List.length_replicate, List.length_cons, List.length_nil, List.length_set, List.length_take, List.length_drop, true_and]; omega)) | exact cvB (fun w => rfl) | ((repeat' (first | exact rfl | exact cV_len _ | exact cV_ln rfl (by omega) | exact Cel.pos | omega | exact trivial | refine And.intro ?_ ?_)); done) | (simp [*]; done) | (simp; omega)))) : G := h ⟨k⟩
theorem gs_KGP {H G : Prop} (k : H) (h : Hid H → G := by (intro hh; (first | ((first | refine r_none ?_ | refine r_gt (by rfl) (by rfl) (by first | rfl | assumption | omega | (simp only [*, Bool.not_false, Bool.not_true]; first | done | fail) | (simp [*]; first | done | fail)) (by rfl) ?_ | refine r_gf (by rfl) (by rfl) (by first | rfl | assumption | omega | (simp only [*, Bool.not_false, Bool.not_true]; first | done | fail) | (simp [*]; first | done | fail)) (by rfl) ?_); (first | fail | ((first | (refine z_op (by rfl) ?_; first | refine z_ok ?_ ?_ | refine z_ex ?_ (by first | exact ft_raw rfl rfl | ((first | refine ft_rp rfl rfl rfl ?_ | refine ft_row rfl rfl rfl ?_ | refine ft_rpF rfl rfl rfl ?_ | refine ft_rowF rfl rfl rfl ?_ | refine up_row rfl rfl ?_ | refine up_rowF rfl rfl rfl ?_ | refine ct_0 rfl ?_ | refine ct_r rfl rfl ?_ | refine ct_c rfl rfl rfl ?_ | refine cu_all rfl ?_ | refine cu_to rfl ?_ | refine cu_from rfl ?_ | refine cu_p rfl ?_ | fail); (first | omega | (simp only [List.length_append, List.length_replicate, List.length_cons, List.length_nil, List.length_set, List.length_take, List.length_drop, true_and]; omega))) | exact up_raw rfl | exact pk_t (by first | rfl | assumption | omega | (simp only [*, Bool.not_false, Bool.not_true]; first | done | fail) | (simp [*]; first | done | fail)) rfl | exact pk_f (by first | rfl | assumption | omega | (simp only [*, Bool.not_false, Bool.not_true]; first | done | fail) | (simp [*]; first | done | fail)) rfl | exact rw_c Int rfl | exact rw_raw | exact pu_cv (fun w => rfl) (by omega) | exact pu_of (fun w => rfl) rfl | exact be_of (fun w => rfl) | exact nc_of (fun _ _ _ _ => rfl) rfl | exact bu_of (fun w => rfl) rfl | exact ct_t (l := ordN l c k) rfl rfl rfl (by omega) (by rw [hl]; simp; omega)) ?_) | ((first | refine q_callE wsT wsZ (by rfl) ?_ | refine q_callVE wsT (by rfl) (by rfl) ?_); refine ⟨_, _, _, (by first | assumption | exact k_pick _ _ _ (by omega) | exact k_odd0 _ _ _ (by omega) | exact k_odd _ _ _ (by omega)), _, by rfl, ?_, ?_⟩)); focus (first | exact trivial | fail | exact rfl | (first | omega | (simp only [List.length_append, List.length_replicate, List.length_cons, List.length_nil, List.length_set, List.length_take, List.length_drop, true_and]; omega)) | exact cvB (fun w => rfl) | ((repeat' (first | exact rfl | exact cV_len _ | exact cV_ln rfl (by omega) | exact Cel.pos | omega | exact trivial | refine And.intro ?_ ?_)); done) | (simp [*]; done) | (simp; omega))) | fail)) | refine r_nt (by rfl) (by rfl) (by first | rfl | assumption | omega | (simp only [*, Bool.not_false, Bool.not_true]; first | done | fail) | (simp [*]; first | done | fail)) (by rfl) ?_ | refine r_nf (by rfl) (by rfl) (by first | rfl | assumption | omega | (simp only [*, Bool.not_false, Bool.not_true]; first | done | fail) | (simp [*]; first | done | fail)) (by rfl) ?_ | refine r_gu (by rfl) (by rfl) (by rfl) ?_ | refine r_nil ?_); (repeat (first | ((first | refine r_none ?_ | refine r_gt (by rfl) (by rfl) (by first | rfl | assumption | omega | (simp only [*, Bool.not_false, Bool.not_true]; first | done | fail) | (simp [*]; first | done | fail)) (by rfl) ?_ | refine r_gf (by rfl) (by rfl) (by first | rfl | assumption | omega | (simp only [*, Bool.not_false, Bool.not_true]; first | done | fail) | (simp [*]; first | done | fail)) (by rfl) ?_); (first | fail | ((first | (refine z_op (by rfl) ?_; first | refine z_ok ?_ ?_ | refine z_ex ?_ (by first | exact ft_raw rfl rfl | ((first | refine ft_rp rfl rfl rfl ?_ | refine ft_row rfl rfl rfl ?_ | refine ft_rpF rfl rfl rfl ?_ | refine ft_rowF rfl rfl rfl ?_ | refine up_row rfl rfl ?_ | refine up_rowF rfl rfl rfl ?_ | refine ct_0 rfl ?_ | refine ct_r rfl rfl ?_ | refine ct_c rfl rfl rfl ?_ | refine cu_all rfl ?_ | refine cu_to rfl ?_ | refine cu_from rfl ?_ | refine cu_p rfl ?_ | fail); (first | omega | (simp only [List.length_append, List.length_replicate, List.length_cons, List.length_nil, List.length_set, List.length_take, List.length_drop, true_and]; omega))) | exact up_raw rfl | exact pk_t (by first | rfl | assumption | omega | (simp only [*, Bool.not_false, Bool.not_true]; first | done | fail) | (simp [*]; first | done | fail)) rfl | exact pk_f (by first | rfl | assumption | omega | (simp only [*, Bool.not_false, Bool.not_true]; first | done | fail) | (simp [*]; first | done | fail)) rfl | exact rw_c Int rfl | exact rw_raw | exact pu_cv (fun w => rfl) (by omega) | exact pu_of (fun w => rfl) rfl | exact be_of (fun w => rfl) | exact nc_of (fun _ _ _ _ => rfl) rfl | exact bu_of (fun w => rfl) rfl | exact ct_t (l := ordN l c k) rfl rfl rfl (by omega) (by rw [hl]; simp; omega)) ?_) | ((first | refine q_callE wsT wsZ (by rfl) ?_ | refine q_callVE wsT (by rfl) (by rfl) ?_); refine ⟨_, _, _, (by first | assumption | exact k_pick _ _ _ (by omega) | exact k_odd0 _ _ _ (by omega) | exact k_odd _ _ _ (by omega)), _, by rfl, ?_, ?_⟩)); focus (first | exact trivial | fail | exact rfl | (first | omega | (simp only [List.length_append, List.length_replicate, List.length_cons, List.length_nil, List.length_set, List.length_take, List.length_drop, true_and]; omega)) | exact cvB (fun w => rfl) | ((repeat' (first | exact rfl | exact cV_len _ | exact cV_ln rfl (by omega) | exact Cel.pos | omega | exact trivial | refine And.intro ?_ ?_)); done) | (simp [*]; done) | (simp; omega))) | fail)) | refine r_nt (by rfl) (by rfl) (by first | rfl | assumption | omega | (simp only [*, Bool.not_false, Bool.not_true]; first | done | fail) | (simp [*]; first | done | fail)) (by rfl) ?_ | refine r_nf (by rfl) (by rfl) (by first | rfl | assumption | omega | (simp only [*, Bool.not_false, Bool.not_true]; first | done | fail) | (simp [*]; first | done | fail)) (by rfl) ?_ | refine r_gu (by rfl) (by rfl) (by rfl) ?_ | refine r_nil ?_)); exact hh.out)) : G := h ⟨k⟩
theorem put_far (S : St) (i : Nat) (x : Option AV) : (S.put i x).G 100000 = S.G 100000 := rfl
theorem lay_far (S : St) {i : Nat} (x : Option (Nat × Ent)) (h : Nat.blt i 100000 = true) : (S.lay i x).G 100000 = S.G 100000 := upd_ne S.G x (by have := blt_lt h; omega)
theorem gin0 (e : Ent) (es : List Ent) : Gin (e :: es) 100000 = some (0, e) := by simp [Gin]
theorem wx_pieceC {P : Program} {T : Tab} {S : St} {nt : Nat} {K : St → Prop} {α : Type} [Cel α] (hT : TabOk P T) {t e sz by' j r n i r2 n2 d1 d2 tx tl ty ty1 ty2 : Nat} {p : Int} {pos pos2 : String} {af af2 : Array Edge} {agg : Bool} {z : List Value} {l l2 : List α} {ops : Array Oper} {rest : List Oper}
    (hd : (Nat.blt d1 nt && Nat.blt d2 nt && !(Nat.beq d1 ty)) = true) (hl : find1 T.elt t = some (none, e, agg, sz, by')) (hz : find1 T.zer e = some z) (hzl : z.length = sz) (hx : S.E tx = some (.g (.one (.sl j r n)))) (hp : S.E tl = some (vI p)) (hG : S.G j = some (r, .row (some e) sz (cV l))) (hy : S.E ty = some (.g (.one (.sl i r2 n2)))) (hG2 : S.G i = some (r2, .row (some e) sz (cV l2)))
    (hb : Nat.ble by' 1000 = true) (hs : sz = Cel.sz α) (h3 : n = l.length ∧ n2 = l2.length ∧ 0 ≤ p ∧ p ≤ n ∧ n ≤ 1000000 ∧ n2 ≤ 1000000)
    (hk : WX P nt ops rest (((S.put d1 none).lay i (some (r2 + 1, .row (some e) sz (cV (l2 ++ l.drop p.toNat))))).put d2 (some (.g (.one (.sl i (r2 + 1) ((l2 ++ l.drop p.toNat).length)))))) K) :
    WX P nt ops (⟨some d1, .slice t (.tmp tx) (some (.tmp tl)) none none, ty1, pos, af, none⟩ :: ⟨some d2, .call { callee := .builtin .append, args := #[.tmp ty, .tmp d1], argTypes := #[t, t] }, ty2, pos2, af2, none⟩ :: rest) S K := by
  obtain ⟨rfl, rfl, h3⟩ := h3
  subst hs
  refine wx_piece hT hd hl hz hzl hx hp hG hy hG2 hb (cV_len l) (cV_len l2) h3 ?_
  have ec : cV l2 ++ cV (l.drop p.toNat) = cV (l2 ++ l.drop p.toNat) := cV_append _ _
  rw [cV_drop, ec]
  have e : l2.length + ((l.length : Int) - p).toNat = (l2 ++ l.drop p.toNat).length := by rw [List.length_append, List.length_drop]; omega
  rw [e]
  exact hk
/-- Lines in some order. -/
def ordN (l : List UInt8) (c : Int) : Nat → List Int
  | 0 => []
  | k + 1 => ((ordN l c k).take (pickI l (c + (k : Int)) ((k : Int) + 1)).toNat ++ [(k : Int)]) ++ (ordN l c k).drop (pickI l (c + (k : Int)) ((k : Int) + 1)).toNat
theorem ordN_len (l : List UInt8) (c : Int) : ∀ k, (ordN l c k).length = k
  | 0 => rfl
  | k + 1 => by
    have h := pickI_lt (l := l) (c := c + (k : Int)) (n := (k : Int) + 1) (by omega)
    simp only [ordN, List.length_append, List.length_take, List.length_drop, List.length_cons, List.length_nil, ordN_len l c k]
    omega
theorem ordN_bd (l : List UInt8) (c : Int) : ∀ k, ∀ x ∈ ordN l c k, 0 ≤ x ∧ x < (k : Int)
  | 0 => fun x hx => by cases hx
  | k + 1 => fun x hx => by
    simp only [ordN, List.mem_append, List.mem_cons, List.not_mem_nil, or_false] at hx
    rcases hx with (hx | hx) | hx
    · have := ordN_bd l c k x (List.mem_of_mem_take hx); omega
    · omega
    · have := ordN_bd l c k x (List.mem_of_mem_drop hx); omega
theorem ordN_at (l : List UInt8) (c : Int) (k i : Nat) (h : i < k) : 0 ≤ (ordN l c k).getD i 0 ∧ (ordN l c k).getD i 0 < (k : Int) := by
  have hi : i < (ordN l c k).length := by rw [ordN_len]; exact h
  have e : (ordN l c k).getD i 0 = (ordN l c k)[i] := by simp [List.getD_eq_getElem?_getD, hi]
  rw [e]
  exact ordN_bd l c k _ (List.getElem_mem hi)
/-- A drawn gate, step by step; with each the place of the reader. -/
def gtA (l : List UInt8) (c : Int) (M : Nat) : Gt × Int := (⟨pickI l (c + (M : Int)) 5, (ordN l c M).getD 0 0, (ordN l c M).getD 1 0, (ordN l c M).getD 2 0⟩, c + (M : Int) + 1)
def gtB (n : Int) (x : Gt × Int) : Gt × Int := bif n == 1 then (⟨0, 0, 0, 0⟩, x.2) else x
def gtC (l : List UInt8) (n : Int) (x : Gt × Int) : Gt × Int := bif n == 2 then (⟨([0, 1, 3] : List Int).getD (pickI l x.2 3).toNat 0, pickI l (x.2 + 1) 2, 1 - pickI l (x.2 + 1) 2, 0⟩, x.2 + 1 + 1) else x
def gtD (x : Gt × Int) : Gt × Int := bif x.1.k == 0 then (⟨x.1.k, x.1.a, 0, x.1.c⟩, x.2) else x
def gtE (x : Gt × Int) : Gt × Int := bif (x.1.k == 0) || ((x.1.k == 1) || (x.1.k == 3)) then (⟨x.1.k, x.1.a, x.1.b, 0⟩, x.2) else x
/-- A fault put in. -/
def gtF (l : List UInt8) (n : Int) (x : Gt × Int) : Gt × Int :=
  bif pickI l x.2 4 == 0 then (⟨([-1, 5] : List Int).getD (pickI l (x.2 + 1) 2).toNat 0, x.1.a, x.1.b, x.1.c⟩, x.2 + 1 + 1)
  else bif pickI l x.2 4 == 1 then (⟨x.1.k, n, x.1.b, x.1.c⟩, x.2 + 1)
  else bif pickI l x.2 4 == 2 then (⟨x.1.k, x.1.a, x.1.a, x.1.c⟩, x.2 + 1)
  else (⟨x.1.k, x.1.a, x.1.b, -1⟩, x.2 + 1)
def gtG (l : List UInt8) (n q : Int) (x : Gt × Int) : Gt × Int := bif decide (q > 0) then (bif pickI l x.2 q == q - 1 then gtF l n (x.1, x.2 + 1) else (x.1, x.2 + 1)) else x
def gtN (l : List UInt8) (c n q : Int) (M : Nat) : Gt × Int := gtG l n q (gtE (gtD (gtC l n (gtB n (gtA l c M)))))
theorem k_odd0 (l : List UInt8) (c n : Int) (h : n ≤ 0) : Kon Try.prog 83 [p0, vI n] [rdE l c] (vB false) [] [rdE l c] := by
  have hd : decide (n > 0) = false := decide_eq_false (by omega)
  (refine kon_mk T0ok (fn := Try.f83) (c := Try.f83.body.get rfl) Try.func83 rfl (by rfl) (by rfl) (by rfl) ?_; intro hfit hfe)
  (repeat (first | refine gq_KGP ?_ | (refine ga_KGP ?_; intro _hq)))
  ((try refine aw_ret ?_); refine ret_auto2 (by rfl) (by rfl) (by rfl) (by repeat (first | exact trivial | refine ⟨by first | rfl | omega, ?_⟩)) ?_ (by repeat (first | exact trivial | refine ⟨by rfl, by rfl, ?_⟩)) (by repeat (first | exact trivial | refine ⟨by rfl, by rfl, ?_⟩)); try rfl)
set_option maxHeartbeats 4000000 in
theorem k_gate (l : List UInt8) (c n q : Int) (M : Nat) (hM : (if (3 : Int) > n then 3 else n) = (M : Int)) (hn : 1 ≤ n ∧ n ≤ 8) (h : 0 ≤ c ∧ c ≤ 100000 ∧ l.length ≤ 2000) (hq : q ≤ 1000) : Kon Try.prog 112 [p0, vI n, vI q] [rdE l c] (gV (gtN l c n q M).1) [] [rdE l (gtN l c n q M).2] := by
  (refine kon_mk T0ok (fn := Try.f112) (c := Try.f112.body.get rfl) Try.func112 rfl (by rfl) (by rfl) (by rfl) ?_; intro hfit hfe)
  (repeat (first | refine gq_KGP ?_ | (refine ga_KGP ?_; intro _hq)))
  have hc0 : c + ((0 : Nat) : Int) = c := by omega
  refine aw_rd [0, 1, 2, 6] [96] (fun k : Nat => [(7, .g (.one (.sl 192 (2 * k) k))), (8, vI k)]) (fun k => [(192, (2 * k, iRow (ordN l c k))), (100000, (0, rdE l (c + k)))]) (fun k => k ≤ M) (fun k => M - k) 0 (by rfl) (by rfl) ?_ (by rfl) (by repeat (first | exact trivial | refine ⟨by rfl, ?_⟩ | refine ⟨vI_of (by rfl) (by omega), ?_⟩)) ⟨by rfl, by rw [hc0]; (repeat (first | rw [put_far] | rw [lay_far _ _ (by rfl)])); exact gin0 (rdE l c) [], trivial⟩ ?_
  · exact Nat.zero_le _
  rintro k hk
  rcases Nat.lt_or_ge k M with h5 | h5
  · have hd : decide ((k : Int) < if (3 : Int) > n then 3 else n) = true := decide_eq_true (by omega)
    have hM8 : M ≤ 8 := by omega
    have hp := pickI_lt (l := l) (c := c + (k : Int)) (n := (k : Int) + 1) (by omega)
    have hl := ordN_len l c k
    have hcl : (cV (ordN l c k)).length = k := by rw [cV_len, hl]; exact Nat.mul_one k
    have hz1 : k * Cel.sz Int = k := Nat.mul_one k
    repeat (first | refine aw_seq ?_ | refine aw_ct (by rfl) (by first | rfl | assumption | omega | (simp only [*, Bool.not_false, Bool.not_true]; first | done | fail) | (simp [*]; first | done | fail)) ?_ | refine aw_cf (by rfl) (by first | rfl | assumption | omega | (simp only [*, Bool.not_false, Bool.not_true]; first | done | fail) | (simp [*]; first | done | fail)) ?_ | refine aw_block ?_ | refine aw_region T0ok cfU_ok (by rfl) ?_ | refine aw_skip ?_ | refine aw_exit ?_ | refine ra_step ?_)
    (repeat (first | refine gs_KGP ?_ | (refine ga_KGP ?_; intro _hq)))
    repeat (first | refine aw_seq ?_ | refine aw_ct (by rfl) (by first | rfl | assumption | omega | (simp only [*, Bool.not_false, Bool.not_true]; first | done | fail) | (simp [*]; first | done | fail)) ?_ | refine aw_cf (by rfl) (by first | rfl | assumption | omega | (simp only [*, Bool.not_false, Bool.not_true]; first | done | fail) | (simp [*]; first | done | fail)) ?_ | refine aw_block ?_ | refine aw_region T0ok cfU_ok (by rfl) ?_ | refine aw_skip ?_ | refine aw_exit ?_ | refine ra_step ?_)
    (repeat (first | refine gs_KGP ?_ | (refine ga_KGP ?_; intro _hq)))
    refine aw_seq ?_
    refine wx_region ?_
    refine wx_run 3 T0ok cfU_ok (by rfl) ?_
    (repeat (first | refine gs_KGP ?_ | (refine ga_KGP ?_; intro _hq)))
    refine wx_pieceC (α := Int) (l := ordN l c k) (l2 := []) T0ok (by rfl) (by rfl) (by rfl) (by rfl) (by rfl) (by rfl) (by rfl) (by rfl) (by rfl) (by rfl) (by rfl) ⟨hl.symm, rfl, by omega, by omega, by omega, by simp⟩ ?_
    refine wx_end T0ok cfU_ok (i := 5) (by rfl) ?_
    (repeat (first | refine gq_KGP ?_ | (refine ga_KGP ?_; intro _hq)))
    have hc1 : c + (k : Int) + 1 = c + ((k + 1 : Nat) : Int) := by omega
    exact ⟨k + 1, h5, ⟨by rfl, ⟨Eq.trans (b := some (.g (.one (.sl 192 (2 * (k + 1)) (ordN l c (k + 1)).length)))) (by rfl) (by rw [ordN_len]), (by repeat (first | exact trivial | refine ⟨by rfl, ?_⟩ | refine ⟨vI_of (by rfl) (by omega), ?_⟩))⟩, ⟨by rfl, Eq.trans (b := some (0, rdE l (c + (k : Int) + 1))) (by rfl) (by rw [hc1]), (by repeat (first | exact trivial | refine ⟨by rfl, ?_⟩ | refine ⟨vI_of (by rfl) (by omega), ?_⟩))⟩⟩, (by first | omega | (dsimp only; omega))⟩
  · have hd : decide ((k : Int) < if (3 : Int) > n then 3 else n) = false := decide_eq_false (by omega)
    obtain rfl : k = M := by omega
    have hl := ordN_len l c k
    have hk8 : 3 ≤ k ∧ k ≤ 8 := by omega
    (repeat (first | refine gq_KGP ?_ | (refine ga_KGP ?_; intro _hq)))
    (refine aw_draw mixed T0ok cfU_ok [(100000, [1]), (176, [12, 13])] (by rfl) (by kernel_rfl) ?_)
    (repeat (first | refine gs_KGP ?_ | (refine ga_KGP ?_; intro _hq)))
    change AW _ _ (Code.seq _ _) _ _
    refine aw_cutg [0, 1, 2, 6, 11] [96] (fun g : Gt × Int => []) (fun g => [(176, (0, .box (gCs g.1))), (100000, (0, rdE l g.2))]) (fun g => g = gtB n (gtA l c k)) (by rfl) (by rfl) ?_ ?_
    · cases h1 : (n == 1)
      all_goals (repeat (first | refine gq_KGP ?_ | (refine ga_KGP ?_; intro _hq)))
      · exact ⟨gtA l c k, by rw [gtB, h1]; rfl, ⟨by rfl, (by repeat (first | exact trivial | refine ⟨by rfl, ?_⟩ | refine ⟨vI_of (by rfl) (by omega), ?_⟩)), (by repeat (first | exact trivial | refine ⟨by rfl, ?_⟩ | refine ⟨vI_of (by rfl) (by omega), ?_⟩))⟩⟩
      · exact ⟨(⟨0, 0, 0, 0⟩, (gtA l c k).2), by rw [gtB, h1]; rfl, ⟨by rfl, (by repeat (first | exact trivial | refine ⟨by rfl, ?_⟩ | refine ⟨vI_of (by rfl) (by omega), ?_⟩)), (by repeat (first | exact trivial | refine ⟨by rfl, ?_⟩ | refine ⟨vI_of (by rfl) (by omega), ?_⟩))⟩⟩
    rintro ⟨g, c1⟩ he
    have hc1 : c ≤ c1 ∧ c1 ≤ c + 9 := by
      have : c1 = c + (k : Int) + 1 := by
        have h2 := congrArg Prod.snd he
        unfold gtB at h2
        cases h1 : (n == 1) <;> rw [h1] at h2 <;> exact h2
      omega
    rw [gtN, ← he]
    clear he
    dsimp only
    refine aw_cutg [0, 1, 2, 6, 11] [96] (fun g : Gt × Int => []) (fun g => [(176, (0, .box (gCs g.1))), (100000, (0, rdE l g.2))]) (fun x => x = gtC l n (g, c1)) (by rfl) (by rfl) ?_ ?_
    · have hp3 := pickI_lt (l := l) (c := c1) (n := 3) (by omega)
      have hp2 := pickI_lt (l := l) (c := c1 + 1) (n := 2) (by omega)
      cases h1 : (n == 2)
      · (repeat (first | refine gq_KGP ?_ | (refine ga_KGP ?_; intro _hq)))
        exact ⟨(g, c1), by rw [gtC, h1]; rfl, ⟨by rfl, (by repeat (first | exact trivial | refine ⟨by rfl, ?_⟩ | refine ⟨vI_of (by rfl) (by omega), ?_⟩)), (by repeat (first | exact trivial | refine ⟨by rfl, ?_⟩ | refine ⟨vI_of (by rfl) (by omega), ?_⟩))⟩⟩
      · (repeat (first | refine gq_KGP ?_ | (refine ga_KGP ?_; intro _hq)))
        (refine aw_draw mixed T0ok cfU_ok [(100000, [2, 6]), (176, [8])] (by rfl) (by kernel_rfl) ?_)
        (repeat (first | refine gq_KGP ?_ | (refine ga_KGP ?_; intro _hq)))
        exact ⟨(⟨([0, 1, 3] : List Int).getD (pickI l c1 3).toNat 0, pickI l (c1 + 1) 2, 1 - pickI l (c1 + 1) 2, 0⟩, c1 + 1 + 1), by rw [gtC, h1]; rfl, ⟨by rfl, (by repeat (first | exact trivial | refine ⟨by rfl, ?_⟩ | refine ⟨vI_of (by rfl) (by omega), ?_⟩)), (by repeat (first | exact trivial | refine ⟨by rfl, ?_⟩ | refine ⟨vI_of (by rfl) (by omega), ?_⟩))⟩⟩
    rintro ⟨g2, c2⟩ he
    have hc2 : c ≤ c2 ∧ c2 ≤ c + 11 := by
      have h2 := congrArg Prod.snd he
      unfold gtC at h2
      cases h1 : (n == 2) <;> rw [h1] at h2 <;> (dsimp only [cond_true, cond_false] at h2; omega)
    rw [← he]
    clear he
    dsimp only
    refine aw_cutg [0, 1, 2, 6, 11] [96] (fun g : Gt × Int => []) (fun g => [(176, (0, .box (gCs g.1))), (100000, (0, rdE l g.2))]) (fun x => x = gtD (g2, c2)) (by rfl) (by rfl) ?_ ?_
    · cases h1 : (g2.k == 0)
      all_goals (repeat (first | refine gq_KGP ?_ | (refine ga_KGP ?_; intro _hq)))
      · exact ⟨(g2, c2), by rw [gtD]; dsimp only; rw [h1]; rfl, ⟨by rfl, (by repeat (first | exact trivial | refine ⟨by rfl, ?_⟩ | refine ⟨vI_of (by rfl) (by omega), ?_⟩)), (by repeat (first | exact trivial | refine ⟨by rfl, ?_⟩ | refine ⟨vI_of (by rfl) (by omega), ?_⟩))⟩⟩
      · exact ⟨(⟨g2.k, g2.a, 0, g2.c⟩, c2), by rw [gtD]; dsimp only; rw [h1]; rfl, ⟨by rfl, (by repeat (first | exact trivial | refine ⟨by rfl, ?_⟩ | refine ⟨vI_of (by rfl) (by omega), ?_⟩)), (by repeat (first | exact trivial | refine ⟨by rfl, ?_⟩ | refine ⟨vI_of (by rfl) (by omega), ?_⟩))⟩⟩
    rintro ⟨g3, c3⟩ he
    have hc3 : c3 = c2 := by
      have h2 := congrArg Prod.snd he
      unfold gtD at h2
      cases h1 : (g2.k == 0) <;> rw [h1] at h2 <;> exact h2
    subst hc3
    rw [← he]
    clear he
    dsimp only
    refine aw_cutg [0, 1, 2, 6, 11] [96] (fun g : Gt × Int => []) (fun g => [(176, (0, .box (gCs g.1))), (100000, (0, rdE l g.2))]) (fun x => x = gtE (g3, c3)) (by rfl) (by rfl) ?_ ?_
    · cases h1 : (g3.k == 0) <;> cases h2 : (g3.k == 1) <;> cases h3 : (g3.k == 3)
      all_goals (repeat (first | refine gq_KGP ?_ | (refine ga_KGP ?_; intro _hq)))
      all_goals first | exact ⟨(g3, c3), by rw [gtE]; dsimp only; rw [h1, h2, h3]; rfl, ⟨by rfl, (by repeat (first | exact trivial | refine ⟨by rfl, ?_⟩ | refine ⟨vI_of (by rfl) (by omega), ?_⟩)), (by repeat (first | exact trivial | refine ⟨by rfl, ?_⟩ | refine ⟨vI_of (by rfl) (by omega), ?_⟩))⟩⟩ | exact ⟨(⟨g3.k, g3.a, g3.b, 0⟩, c3), by rw [gtE]; dsimp only; rw [h1]; (try rw [h2]); (try rw [h3]); rfl, ⟨by rfl, (by repeat (first | exact trivial | refine ⟨by rfl, ?_⟩ | refine ⟨vI_of (by rfl) (by omega), ?_⟩)), (by repeat (first | exact trivial | refine ⟨by rfl, ?_⟩ | refine ⟨vI_of (by rfl) (by omega), ?_⟩))⟩⟩
    rintro ⟨g4, c4⟩ he
    have hc4 : c4 = c3 := by
      have h2 := congrArg Prod.snd he
      unfold gtE at h2
      dsimp only at h2
      cases h1 : ((g3.k == 0) || ((g3.k == 1) || (g3.k == 3))) <;> rw [h1] at h2 <;> exact h2
    subst hc4
    rw [← he]
    clear he
    dsimp only
    cases hq0 : decide (q > 0) with
    | false =>
      have hq1 : q ≤ 0 := by have := of_decide_eq_false hq0; omega
      have e : gtG l n q (g4, c4) = (g4, c4) := by rw [gtG, hq0]; rfl
      rw [e]
      clear e
      (repeat (first | refine gq_KGP ?_ | (refine ga_KGP ?_; intro _hq)))
      ((try refine aw_ret ?_); refine ret_auto2 (by rfl) (by rfl) (by rfl) (by repeat (first | exact trivial | refine ⟨by first | rfl | omega, ?_⟩)) ?_ (by repeat (first | exact trivial | refine ⟨by rfl, by rfl, ?_⟩)) (by repeat (first | exact trivial | refine ⟨by rfl, by rfl, ?_⟩)); try rfl)
    | true =>
      have hq1 : 0 < q := of_decide_eq_true hq0
      cases hv : (pickI l c4 q == q - 1) with
      | false =>
        have e : gtG l n q (g4, c4) = (g4, c4 + 1) := by rw [gtG, hq0]; dsimp only [cond_true]; rw [hv]; rfl
        rw [e]
        clear e
        (repeat (first | refine gq_KGP ?_ | (refine ga_KGP ?_; intro _hq)))
        ((try refine aw_ret ?_); refine ret_auto2 (by rfl) (by rfl) (by rfl) (by repeat (first | exact trivial | refine ⟨by first | rfl | omega, ?_⟩)) ?_ (by repeat (first | exact trivial | refine ⟨by rfl, by rfl, ?_⟩)) (by repeat (first | exact trivial | refine ⟨by rfl, by rfl, ?_⟩)); try rfl)
      | true =>
        have e : gtG l n q (g4, c4) = gtF l n (g4, c4 + 1) := by rw [gtG, hq0]; dsimp only [cond_true]; rw [hv]; rfl
        rw [e]
        clear e
        have hp4 := pickI_lt (l := l) (c := c4 + 1) (n := 4) (by omega)
        have hp2 := pickI_lt (l := l) (c := c4 + 1 + 1) (n := 2) (by omega)
        cases f0 : (pickI l (c4 + 1) 4 == 0)
        rotate_left
        · have e : gtF l n (g4, c4 + 1) = (⟨([-1, 5] : List Int).getD (pickI l (c4 + 1 + 1) 2).toNat 0, g4.a, g4.b, g4.c⟩, c4 + 1 + 1 + 1) := by rw [gtF]; dsimp only; rw [f0]; rfl
          rw [e]
          clear e
          (repeat (first | refine gq_KGP ?_ | (refine ga_KGP ?_; intro _hq)))
          ((try refine aw_ret ?_); refine ret_auto2 (by rfl) (by rfl) (by rfl) (by repeat (first | exact trivial | refine ⟨by first | rfl | omega, ?_⟩)) ?_ (by repeat (first | exact trivial | refine ⟨by rfl, by rfl, ?_⟩)) (by repeat (first | exact trivial | refine ⟨by rfl, by rfl, ?_⟩)); try rfl)
        cases f1 : (pickI l (c4 + 1) 4 == 1)
        rotate_left
        · have e : gtF l n (g4, c4 + 1) = (⟨g4.k, n, g4.b, g4.c⟩, c4 + 1 + 1) := by rw [gtF]; dsimp only; rw [f0, f1]; rfl
          rw [e]
          clear e
          (repeat (first | refine gq_KGP ?_ | (refine ga_KGP ?_; intro _hq)))
          ((try refine aw_ret ?_); refine ret_auto2 (by rfl) (by rfl) (by rfl) (by repeat (first | exact trivial | refine ⟨by first | rfl | omega, ?_⟩)) ?_ (by repeat (first | exact trivial | refine ⟨by rfl, by rfl, ?_⟩)) (by repeat (first | exact trivial | refine ⟨by rfl, by rfl, ?_⟩)); try rfl)
        cases f2 : (pickI l (c4 + 1) 4 == 2)
        rotate_left
        · have e : gtF l n (g4, c4 + 1) = (⟨g4.k, g4.a, g4.a, g4.c⟩, c4 + 1 + 1) := by rw [gtF]; dsimp only; rw [f0, f1, f2]; rfl
          rw [e]
          clear e
          (repeat (first | refine gq_KGP ?_ | (refine ga_KGP ?_; intro _hq)))
          ((try refine aw_ret ?_); refine ret_auto2 (by rfl) (by rfl) (by rfl) (by repeat (first | exact trivial | refine ⟨by first | rfl | omega, ?_⟩)) ?_ (by repeat (first | exact trivial | refine ⟨by rfl, by rfl, ?_⟩)) (by repeat (first | exact trivial | refine ⟨by rfl, by rfl, ?_⟩)); try rfl)
        · have e : gtF l n (g4, c4 + 1) = (⟨g4.k, g4.a, g4.b, -1⟩, c4 + 1 + 1) := by rw [gtF]; dsimp only; rw [f0, f1, f2]; rfl
          rw [e]
          clear e
          (repeat (first | refine gq_KGP ?_ | (refine ga_KGP ?_; intro _hq)))
          ((try refine aw_ret ?_); refine ret_auto2 (by rfl) (by rfl) (by rfl) (by repeat (first | exact trivial | refine ⟨by first | rfl | omega, ?_⟩)) ?_ (by repeat (first | exact trivial | refine ⟨by rfl, by rfl, ?_⟩)) (by repeat (first | exact trivial | refine ⟨by rfl, by rfl, ?_⟩)); try rfl)
/-- What is known of drawn gates. -/
def gbd (x : Gt × Int) (c : Int) (d : Int) : Prop := (-1 ≤ x.1.k ∧ x.1.k ≤ 5) ∧ (-1 ≤ x.1.a ∧ x.1.a ≤ 8) ∧ (-1 ≤ x.1.b ∧ x.1.b ≤ 8) ∧ (-1 ≤ x.1.c ∧ x.1.c ≤ 8) ∧ c ≤ x.2 ∧ x.2 ≤ c + d
theorem gtN_bd (l : List UInt8) (c n q : Int) (M : Nat) (hn : 1 ≤ n ∧ n ≤ 8) (hM : 3 ≤ M ∧ M ≤ 8) : gbd (gtN l c n q M) c 20 := by
  have hA : gbd (gtA l c M) c 9 := by
    have h1 := pickI_lt (l := l) (c := c + (M : Int)) (n := 5) (by omega)
    have h2 := ordN_at l c M 0 (by omega)
    have h3 := ordN_at l c M 1 (by omega)
    have h4 := ordN_at l c M 2 (by omega)
    unfold gbd gtA
    dsimp only
    omega
  have hB : gbd (gtB n (gtA l c M)) c 9 := by
    unfold gtB
    cases (n == 1)
    · exact hA
    · unfold gbd at hA ⊢
      dsimp only [cond_true]
      omega
  have hC : gbd (gtC l n (gtB n (gtA l c M))) c 11 := by
    generalize gtB n (gtA l c M) = x at hB
    unfold gtC
    cases (n == 2)
    · unfold gbd at hB ⊢
      dsimp only [cond_false]
      omega
    · have h1 := pickI_lt (l := l) (c := x.2) (n := 3) (by omega)
      have h2 := pickI_lt (l := l) (c := x.2 + 1) (n := 2) (by omega)
      have h3 : 0 ≤ ([0, 1, 3] : List Int).getD (pickI l x.2 3).toNat 0 ∧ ([0, 1, 3] : List Int).getD (pickI l x.2 3).toNat 0 ≤ 3 := by
        obtain h | h | h : (pickI l x.2 3).toNat = 0 ∨ (pickI l x.2 3).toNat = 1 ∨ (pickI l x.2 3).toNat = 2 := by omega
        all_goals (rw [h]; decide)
      unfold gbd at hB ⊢
      dsimp only [cond_true]
      omega
  have hD : gbd (gtD (gtC l n (gtB n (gtA l c M)))) c 11 := by
    generalize gtC l n (gtB n (gtA l c M)) = x at hC
    unfold gtD
    cases (x.1.k == 0)
    · exact hC
    · unfold gbd at hC ⊢
      dsimp only [cond_true]
      omega
  have hE : gbd (gtE (gtD (gtC l n (gtB n (gtA l c M))))) c 11 := by
    generalize gtD (gtC l n (gtB n (gtA l c M))) = x at hD
    unfold gtE
    cases ((x.1.k == 0) || ((x.1.k == 1) || (x.1.k == 3)))
    · exact hD
    · unfold gbd at hD ⊢
      dsimp only [cond_true]
      omega
  unfold gtN
  generalize gtE (gtD (gtC l n (gtB n (gtA l c M)))) = x at hE
  unfold gtG
  cases decide (q > 0)
  · unfold gbd at hE ⊢
    dsimp only [cond_false]
    omega
  cases (pickI l x.2 q == q - 1)
  · unfold gbd at hE ⊢
    dsimp only [cond_true, cond_false]
    omega
  have h3 : -1 ≤ ([-1, 5] : List Int).getD (pickI l (x.2 + 1 + 1) 2).toNat 0 ∧ ([-1, 5] : List Int).getD (pickI l (x.2 + 1 + 1) 2).toNat 0 ≤ 5 := by
    have h1 := pickI_lt (l := l) (c := x.2 + 1 + 1) (n := 2) (by omega)
    obtain h | h : (pickI l (x.2 + 1 + 1) 2).toNat = 0 ∨ (pickI l (x.2 + 1 + 1) 2).toNat = 1 := by omega
    all_goals (rw [h]; decide)
  dsimp only [cond_true]
  unfold gtF
  unfold gbd at hE ⊢
  dsimp only
  cases (pickI l (x.2 + 1) 4 == 0) <;> cases (pickI l (x.2 + 1) 4 == 1) <;> cases (pickI l (x.2 + 1) 4 == 2) <;> dsimp only [cond_true, cond_false] <;> omega
end Go.Proofs.Yteagoafamjbpbaa

/- Drawn numbers of lines, drawn words. -/
namespace Go.Proofs.Yteagoafamjbpbaa
set_option linter.unusedVariables false
set_option linter.unusedSimpArgs false
set_option maxRecDepth 20000
open Go.RowKit
attribute [local irreducible] runA runX AW
theorem gq_KDL {H G : Prop} (k : H) (h : Hid H → G := by (intro hh; (first | (first | ((first | refine r_none ?_ | refine r_gt (by rfl) (by rfl) (by first | rfl | assumption | omega | (simp only [*, Bool.not_false, Bool.not_true]; first | done | fail) | (simp [*]; first | done | fail)) (by rfl) ?_ | refine r_gf (by rfl) (by rfl) (by first | rfl | assumption | omega | (simp only [*, Bool.not_false, Bool.not_true]; first | done | fail) | (simp [*]; first | done | fail)) (by rfl) ?_); (first | fail | ((first | (refine z_op (by rfl) ?_; first | refine z_ok ?_ ?_ | refine z_ex ?_ (by first | exact ft_raw rfl rfl | ((first | refine ft_rp rfl rfl rfl ?_ | refine ft_row rfl rfl rfl ?_ | refine ft_rpF rfl rfl rfl ?_ | refine ft_rowF rfl rfl rfl ?_ | refine up_row rfl rfl ?_ | refine up_rowF rfl rfl rfl ?_ | refine ct_0 rfl ?_ | refine ct_r rfl rfl ?_ | refine ct_c rfl rfl rfl ?_ | refine cu_all rfl ?_ | refine cu_to rfl ?_ | refine cu_from rfl ?_ | refine cu_p rfl ?_ | fail); (first | omega | (simp only [List.length_append, List.length_replicate, List.length_cons, List.length_nil, List.length_set, List.length_take, List.length_drop, true_and]; omega))) | exact up_raw rfl | exact pk_t (by first | rfl | assumption | omega | (simp only [*, Bool.not_false, Bool.not_true]; first | done | fail) | (simp [*]; first | done | fail)) rfl | exact pk_f (by first | rfl | assumption | omega | (simp only [*, Bool.not_false, Bool.not_true]; first | done | fail) | (simp [*]; first | done | fail)) rfl | exact rw_c Int rfl | exact rw_raw | exact pu_cv (fun w => rfl) (by omega) | exact pu_of (fun w => rfl) rfl | exact be_of (fun w => rfl) | exact nc_of (fun _ _ _ _ => rfl) rfl | exact bu_of (fun w => rfl) rfl | fail) ?_) | ((first | refine q_callE wsT wsZ (by rfl) ?_ | refine q_callVE wsT (by rfl) (by rfl) ?_); refine ⟨_, _, _, (by first | assumption), _, by rfl, ?_, ?_⟩)); focus (first | exact trivial | fail | exact rfl | (first | omega | (simp only [List.length_append, List.length_replicate, List.length_cons, List.length_nil, List.length_set, List.length_take, List.length_drop, true_and]; omega)) | exact cvB (fun w => rfl) | ((repeat' (first | exact rfl | exact cV_len _ | exact cV_ln rfl (by omega) | exact Cel.pos | omega | exact trivial | refine And.intro ?_ ?_)); done) | (simp [*]; done) | (simp; omega))) | fail)) | refine r_nt (by rfl) (by rfl) (by first | rfl | assumption | omega | (simp only [*, Bool.not_false, Bool.not_true]; first | done | fail) | (simp [*]; first | done | fail)) (by rfl) ?_ | refine r_nf (by rfl) (by rfl) (by first | rfl | assumption | omega | (simp only [*, Bool.not_false, Bool.not_true]; first | done | fail) | (simp [*]; first | done | fail)) (by rfl) ?_ | refine r_gu (by rfl) (by rfl) (by rfl) ?_ | refine r_nil ?_) | (first | refine aw_seq ?_ | refine aw_ct (by rfl) (by first | rfl | assumption | omega | (simp only [*, Bool.not_false, Bool.not_true]; first | done | fail) | (simp [*]; first | done | fail)) ?_ | refine aw_cf (by rfl) (by first | rfl | assumption | omega | (simp only [*, Bool.not_false, Bool.not_true]; first | done | fail) | (simp [*]; first | done | fail)) ?_ | refine aw_block ?_ | refine aw_region T0ok cfU_ok (by rfl) ?_ | refine aw_skip ?_ | refine aw_exit ?_ | refine ra_step ?_)); (repeat (first | (first | ((first | refine r_none ?_ | refine r_gt (by rfl) (by rfl) (by first | rfl | assumption | omega | (simp only [*, Bool.not_false, Bool.not_true]; first | done | fail) | (simp [*]; first | done | fail)) (by rfl) ?_ | refine r_gf (by rfl) (by rfl) (by first | rfl | assumption | omega | (simp only [*, Bool.not_false, Bool.not_true]; first | done | fail) | (simp [*]; first | done | fail)) (by rfl) ?_); (first | fail | ((first | (refine z_op (by rfl) ?_; first | refine z_ok ?_ ?_ | refine z_ex ?_ (by first | exact ft_raw rfl rfl | ((first | refine ft_rp rfl rfl rfl ?_ | refine ft_row rfl rfl rfl ?_ | refine ft_rpF rfl rfl rfl ?_ | refine ft_rowF rfl rfl rfl ?_ | refine up_row rfl rfl ?_ | refine up_rowF rfl rfl rfl ?_ | refine ct_0 rfl ?_ | refine ct_r rfl rfl ?_ | refine ct_c rfl rfl rfl ?_ | refine cu_all rfl ?_ | refine cu_to rfl ?_ | refine cu_from rfl ?_ | refine cu_p rfl ?_ | fail); (first | omega | (simp only [List.length_append, List.length_replicate, List.length_cons, List.length_nil, List.length_set, List.length_take, List.length_drop, true_and]; omega))) | exact up_raw rfl | exact pk_t (by first | rfl | assumption | omega | (simp only [*, Bool.not_false, Bool.not_true]; first | done | fail) | (simp [*]; first | done | fail)) rfl | exact pk_f (by first | rfl | assumption | omega | (simp only [*, Bool.not_false, Bool.not_true]; first | done | fail) | (simp [*]; first | done | fail)) rfl | exact rw_c Int rfl | exact rw_raw | exact pu_cv (fun w => rfl) (by omega) | exact pu_of (fun w => rfl) rfl | exact be_of (fun w => rfl) | exact nc_of (fun _ _ _ _ => rfl) rfl | exact bu_of (fun w => rfl) rfl | fail) ?_) | ((first | refine q_callE wsT wsZ (by rfl) ?_ | refine q_callVE wsT (by rfl) (by rfl) ?_); refine ⟨_, _, _, (by first | assumption), _, by rfl, ?_, ?_⟩)); focus (first | exact trivial | fail | exact rfl | (first | omega | (simp only [List.length_append, List.length_replicate, List.length_cons, List.length_nil, List.length_set, List.length_take, List.length_drop, true_and]; omega)) | exact cvB (fun w => rfl) | ((repeat' (first | exact rfl | exact cV_len _ | exact cV_ln rfl (by omega) | exact Cel.pos | omega | exact trivial | refine And.intro ?_ ?_)); done) | (simp [*]; done) | (simp; omega))) | fail)) | refine r_nt (by rfl) (by rfl) (by first | rfl | assumption | omega | (simp only [*, Bool.not_false, Bool.not_true]; first | done | fail) | (simp [*]; first | done | fail)) (by rfl) ?_ | refine r_nf (by rfl) (by rfl) (by first | rfl | assumption | omega | (simp only [*, Bool.not_false, Bool.not_true]; first | done | fail) | (simp [*]; first | done | fail)) (by rfl) ?_ | refine r_gu (by rfl) (by rfl) (by rfl) ?_ | refine r_nil ?_) | (first | refine aw_seq ?_ | refine aw_ct (by rfl) (by first | rfl | assumption | omega | (simp only [*, Bool.not_false, Bool.not_true]; first | done | fail) | (simp [*]; first | done | fail)) ?_ | refine aw_cf (by rfl) (by first | rfl | assumption | omega | (simp only [*, Bool.not_false, Bool.not_true]; first | done | fail) | (simp [*]; first | done | fail)) ?_ | refine aw_block ?_ | refine aw_region T0ok cfU_ok (by rfl) ?_ | refine aw_skip ?_ | refine aw_exit ?_ | refine ra_step ?_))); exact hh.out)) : G := h ⟨k⟩
theorem ga_KDL {H G : Prop} (k : H) (h : Hid H → G := by (intro hh; (first | refine r_none ?_ | refine r_gt (by rfl) (by rfl) (by first | rfl | assumption | omega | (simp only [*, Bool.not_false, Bool.not_true]; first | done | fail) | (simp [*]; first | done | fail)) (by rfl) ?_ | refine r_gf (by rfl) (by rfl) (by first | rfl | assumption | omega | (simp only [*, Bool.not_false, Bool.not_true]; first | done | fail) | (simp [*]; first | done | fail)) (by rfl) ?_); refine z_op (by rfl) ?_; refine z_al ?_ hh.out; focus (first | exact trivial | fail | exact rfl | (first | omega | (simp only [List.length_append, List.length_replicate, List.length_cons, List.length_nil, List.length_set, List.length_take, List.length_drop, true_and]; omega)) | exact cvB (fun w => rfl) | ((repeat' (first | exact rfl | exact cV_len _ | exact cV_ln rfl (by omega) | exact Cel.pos | omega | exact trivial | refine And.intro ?_ ?_)); done) | (simp [*]; done) | (simp; omega)))) : G := h ⟨k⟩
theorem ex_lines (l : List UInt8) (c n : Int) (h : 0 ≤ c ∧ c ≤ 100000 ∧ l.length ≤ 2000 ∧ 0 < n ∧ n ≤ 1000) : ∃ v : Int, (-1 ≤ v ∧ v ≤ 9) ∧ Kon Try.prog 116 [p0, vI n] [rdE l c] (vI v) [] [rdE l (c + 1 + 1)] := by
  obtain ⟨v, hK1⟩ := ex_odd l c n (by omega)
  cases v with
  | true =>
    obtain ⟨a, _, ha, hK2⟩ := ex_pick l (c + 1) 3 (by omega)
    replace ha := ha (by omega)
    obtain rfl | rfl | rfl : a = 0 ∨ a = 1 ∨ a = 2 := by omega
    · refine ⟨0, by omega, ?_⟩; (refine kon_mk T0ok (fn := Try.f116) (c := Try.f116.body.get rfl) Try.func116 rfl (by rfl) (by rfl) (by rfl) ?_; intro hfit hfe); (repeat (first | refine gq_KDL ?_ | (refine ga_KDL ?_; intro _q ⟨_he, _hq⟩))); ((try refine aw_ret ?_); refine ret_auto2 (by rfl) (by rfl) (by rfl) (by repeat (first | exact trivial | refine ⟨by first | rfl | omega, ?_⟩)) ?_ (by repeat (first | exact trivial | refine ⟨by rfl, by rfl, ?_⟩)) (by repeat (first | exact trivial | refine ⟨by rfl, by rfl, ?_⟩)); try rfl)
    · refine ⟨-1, by omega, ?_⟩; (refine kon_mk T0ok (fn := Try.f116) (c := Try.f116.body.get rfl) Try.func116 rfl (by rfl) (by rfl) (by rfl) ?_; intro hfit hfe); (repeat (first | refine gq_KDL ?_ | (refine ga_KDL ?_; intro _q ⟨_he, _hq⟩))); ((try refine aw_ret ?_); refine ret_auto2 (by rfl) (by rfl) (by rfl) (by repeat (first | exact trivial | refine ⟨by first | rfl | omega, ?_⟩)) ?_ (by repeat (first | exact trivial | refine ⟨by rfl, by rfl, ?_⟩)) (by repeat (first | exact trivial | refine ⟨by rfl, by rfl, ?_⟩)); try rfl)
    · refine ⟨9, by omega, ?_⟩; (refine kon_mk T0ok (fn := Try.f116) (c := Try.f116.body.get rfl) Try.func116 rfl (by rfl) (by rfl) (by rfl) ?_; intro hfit hfe); (repeat (first | refine gq_KDL ?_ | (refine ga_KDL ?_; intro _q ⟨_he, _hq⟩))); ((try refine aw_ret ?_); refine ret_auto2 (by rfl) (by rfl) (by rfl) (by repeat (first | exact trivial | refine ⟨by first | rfl | omega, ?_⟩)) ?_ (by repeat (first | exact trivial | refine ⟨by rfl, by rfl, ?_⟩)) (by repeat (first | exact trivial | refine ⟨by rfl, by rfl, ?_⟩)); try rfl)
  | false =>
    obtain ⟨a, _, ha, hK2⟩ := ex_pick l (c + 1) 10 (by omega)
    replace ha := ha (by omega)
    obtain ⟨r, hr, hb⟩ : ∃ r : Int, r = ([1, 2, 3, 3, 4, 4, 5, 6, 7, 8] : List Int).getD a.toNat 0 ∧ (-1 ≤ r ∧ r ≤ 9) := by
      refine ⟨_, rfl, ?_⟩
      obtain rfl | rfl | rfl | rfl | rfl | rfl | rfl | rfl | rfl | rfl : a = 0 ∨ a = 1 ∨ a = 2 ∨ a = 3 ∨ a = 4 ∨ a = 5 ∨ a = 6 ∨ a = 7 ∨ a = 8 ∨ a = 9 := by omega
      all_goals decide
    refine ⟨r, hb, ?_⟩
    obtain rfl | rfl | rfl | rfl | rfl | rfl | rfl | rfl | rfl | rfl : a = 0 ∨ a = 1 ∨ a = 2 ∨ a = 3 ∨ a = 4 ∨ a = 5 ∨ a = 6 ∨ a = 7 ∨ a = 8 ∨ a = 9 := by omega
    all_goals
      subst hr
      (refine kon_mk T0ok (fn := Try.f116) (c := Try.f116.body.get rfl) Try.func116 rfl (by rfl) (by rfl) (by rfl) ?_; intro hfit hfe)
      (repeat (first | refine gq_KDL ?_ | (refine ga_KDL ?_; intro _q ⟨_he, _hq⟩)))
      ((try refine aw_ret ?_); refine ret_auto2 (by rfl) (by rfl) (by rfl) (by repeat (first | exact trivial | refine ⟨by first | rfl | omega, ?_⟩)) ?_ (by repeat (first | exact trivial | refine ⟨by rfl, by rfl, ?_⟩)) (by repeat (first | exact trivial | refine ⟨by rfl, by rfl, ?_⟩)); try rfl)



































end Go.Proofs.Yteagoafamjbpbaa

/- Drawn circuits. -/
namespace Go.Proofs.Yteagoafamjbpbaa
set_option linter.unusedVariables false
set_option linter.unusedSimpArgs false
set_option maxRecDepth 20000
open Go.RowKit
attribute [local irreducible] runA runX AW
theorem gq_KGQ {H G : Prop} (k : H) (h : Hid H → G := by (intro hh; (first | (first | ((first | refine r_none ?_ | refine r_gt (by rfl) (by rfl) (by first | rfl | assumption | omega | (simp only [*, Bool.not_false, Bool.not_true]; first | done | fail) | (simp [*]; first | done | fail)) (by rfl) ?_ | refine r_gf (by rfl) (by rfl) (by first | rfl | assumption | omega | (simp only [*, Bool.not_false, Bool.not_true]; first | done | fail) | (simp [*]; first | done | fail)) (by rfl) ?_); (first | fail | ((first | (refine z_op (by rfl) ?_; first | refine z_ok ?_ ?_ | refine z_ex ?_ (by first | exact ft_raw rfl rfl | ((first | refine ft_rp rfl rfl rfl ?_ | refine ft_row rfl rfl rfl ?_ | refine ft_rpF rfl rfl rfl ?_ | refine ft_rowF rfl rfl rfl ?_ | refine up_row rfl rfl ?_ | refine up_rowF rfl rfl rfl ?_ | refine ct_0 rfl ?_ | refine ct_r rfl rfl ?_ | refine ct_c rfl rfl rfl ?_ | refine cu_all rfl ?_ | refine cu_to rfl ?_ | refine cu_from rfl ?_ | refine cu_p rfl ?_ | fail); (first | omega | (simp only [List.length_append, List.length_replicate, List.length_cons, List.length_nil, List.length_set, List.length_take, List.length_drop, true_and]; omega))) | exact up_raw rfl | exact pk_t (by first | rfl | assumption | omega | (simp only [*, Bool.not_false, Bool.not_true]; first | done | fail) | (simp [*]; first | done | fail)) rfl | exact pk_f (by first | rfl | assumption | omega | (simp only [*, Bool.not_false, Bool.not_true]; first | done | fail) | (simp [*]; first | done | fail)) rfl | exact rw_c Gt rfl | exact rw_raw | exact pu_cv (fun w => rfl) (by omega) | exact pu_of (fun w => rfl) rfl | exact be_of (fun w => rfl) | exact nc_of (fun _ _ _ _ => rfl) rfl | exact bu_of (fun w => rfl) rfl | fail) ?_) | ((first | refine q_callE wsT wsZ (by rfl) ?_ | refine q_callVE wsT (by rfl) (by rfl) ?_); refine ⟨_, _, _, (by first | assumption | exact k_pick _ _ _ (by omega) | exact k_odd0 _ _ _ (by omega) | exact k_odd _ _ _ (by omega)), _, by rfl, ?_, ?_⟩)); focus (first | exact trivial | fail | exact rfl | (first | omega | (simp only [List.length_append, List.length_replicate, List.length_cons, List.length_nil, List.length_set, List.length_take, List.length_drop, true_and]; omega)) | exact cvB (fun w => rfl) | ((repeat' (first | exact rfl | exact cV_len _ | exact cV_ln rfl (by omega) | exact Cel.pos | omega | exact trivial | refine And.intro ?_ ?_)); done) | (simp [*]; done) | (simp; omega))) | fail)) | refine r_nt (by rfl) (by rfl) (by first | rfl | assumption | omega | (simp only [*, Bool.not_false, Bool.not_true]; first | done | fail) | (simp [*]; first | done | fail)) (by rfl) ?_ | refine r_nf (by rfl) (by rfl) (by first | rfl | assumption | omega | (simp only [*, Bool.not_false, Bool.not_true]; first | done | fail) | (simp [*]; first | done | fail)) (by rfl) ?_ | refine r_gu (by rfl) (by rfl) (by rfl) ?_ | refine r_nil ?_) | (first | refine aw_seq ?_ | refine aw_ct (by rfl) (by first | rfl | assumption | omega | (simp only [*, Bool.not_false, Bool.not_true]; first | done | fail) | (simp [*]; first | done | fail)) ?_ | refine aw_cf (by rfl) (by first | rfl | assumption | omega | (simp only [*, Bool.not_false, Bool.not_true]; first | done | fail) | (simp [*]; first | done | fail)) ?_ | refine aw_block ?_ | refine aw_region T0ok cfU_ok (by rfl) ?_ | refine aw_skip ?_ | refine aw_exit ?_ | refine ra_step ?_)); (repeat (first | (first | ((first | refine r_none ?_ | refine r_gt (by rfl) (by rfl) (by first | rfl | assumption | omega | (simp only [*, Bool.not_false, Bool.not_true]; first | done | fail) | (simp [*]; first | done | fail)) (by rfl) ?_ | refine r_gf (by rfl) (by rfl) (by first | rfl | assumption | omega | (simp only [*, Bool.not_false, Bool.not_true]; first | done | fail) | (simp [*]; first | done | fail)) (by rfl) ?_); (first | fail | ((first | (refine z_op (by rfl) ?_; first | refine z_ok ?_ ?_ | refine z_ex ?_ (by first | exact ft_raw rfl rfl | ((first | refine ft_rp rfl rfl rfl ?_ | refine ft_row rfl rfl rfl ?_ | refine ft_rpF rfl rfl rfl ?_ | refine ft_rowF rfl rfl rfl ?_ | refine up_row rfl rfl ?_ | refine up_rowF rfl rfl rfl ?_ | refine ct_0 rfl ?_ | refine ct_r rfl rfl ?_ | refine ct_c rfl rfl rfl ?_ | refine cu_all rfl ?_ | refine cu_to rfl ?_ | refine cu_from rfl ?_ | refine cu_p rfl ?_ | fail); (first | omega | (simp only [List.length_append, List.length_replicate, List.length_cons, List.length_nil, List.length_set, List.length_take, List.length_drop, true_and]; omega))) | exact up_raw rfl | exact pk_t (by first | rfl | assumption | omega | (simp only [*, Bool.not_false, Bool.not_true]; first | done | fail) | (simp [*]; first | done | fail)) rfl | exact pk_f (by first | rfl | assumption | omega | (simp only [*, Bool.not_false, Bool.not_true]; first | done | fail) | (simp [*]; first | done | fail)) rfl | exact rw_c Gt rfl | exact rw_raw | exact pu_cv (fun w => rfl) (by omega) | exact pu_of (fun w => rfl) rfl | exact be_of (fun w => rfl) | exact nc_of (fun _ _ _ _ => rfl) rfl | exact bu_of (fun w => rfl) rfl | fail) ?_) | ((first | refine q_callE wsT wsZ (by rfl) ?_ | refine q_callVE wsT (by rfl) (by rfl) ?_); refine ⟨_, _, _, (by first | assumption | exact k_pick _ _ _ (by omega) | exact k_odd0 _ _ _ (by omega) | exact k_odd _ _ _ (by omega)), _, by rfl, ?_, ?_⟩)); focus (first | exact trivial | fail | exact rfl | (first | omega | (simp only [List.length_append, List.length_replicate, List.length_cons, List.length_nil, List.length_set, List.length_take, List.length_drop, true_and]; omega)) | exact cvB (fun w => rfl) | ((repeat' (first | exact rfl | exact cV_len _ | exact cV_ln rfl (by omega) | exact Cel.pos | omega | exact trivial | refine And.intro ?_ ?_)); done) | (simp [*]; done) | (simp; omega))) | fail)) | refine r_nt (by rfl) (by rfl) (by first | rfl | assumption | omega | (simp only [*, Bool.not_false, Bool.not_true]; first | done | fail) | (simp [*]; first | done | fail)) (by rfl) ?_ | refine r_nf (by rfl) (by rfl) (by first | rfl | assumption | omega | (simp only [*, Bool.not_false, Bool.not_true]; first | done | fail) | (simp [*]; first | done | fail)) (by rfl) ?_ | refine r_gu (by rfl) (by rfl) (by rfl) ?_ | refine r_nil ?_) | (first | refine aw_seq ?_ | refine aw_ct (by rfl) (by first | rfl | assumption | omega | (simp only [*, Bool.not_false, Bool.not_true]; first | done | fail) | (simp [*]; first | done | fail)) ?_ | refine aw_cf (by rfl) (by first | rfl | assumption | omega | (simp only [*, Bool.not_false, Bool.not_true]; first | done | fail) | (simp [*]; first | done | fail)) ?_ | refine aw_block ?_ | refine aw_region T0ok cfU_ok (by rfl) ?_ | refine aw_skip ?_ | refine aw_exit ?_ | refine ra_step ?_))); exact hh.out)) : G := h ⟨k⟩
theorem ga_KGQ {H G : Prop} (k : H) (h : Hid H → G := by (intro hh; (first | refine r_none ?_ | refine r_gt (by rfl) (by rfl) (by first | rfl | assumption | omega | (simp only [*, Bool.not_false, Bool.not_true]; first | done | fail) | (simp [*]; first | done | fail)) (by rfl) ?_ | refine r_gf (by rfl) (by rfl) (by first | rfl | assumption | omega | (simp only [*, Bool.not_false, Bool.not_true]; first | done | fail) | (simp [*]; first | done | fail)) (by rfl) ?_); refine z_op (by rfl) ?_; refine z_alV ?_ hh.out; focus (first | exact trivial | fail | exact rfl | (first | omega | (simp only [List.length_append, List.length_replicate, List.length_cons, List.length_nil, List.length_set, List.length_take, List.length_drop, true_and]; omega)) | exact cvB (fun w => rfl) | ((repeat' (first | exact rfl | exact cV_len _ | exact cV_ln rfl (by omega) | exact Cel.pos | omega | exact trivial | refine And.intro ?_ ?_)); done) | (simp [*]; done) | (simp; omega)))) : G := h ⟨k⟩
def nE (n : Int) : Int := if 8 < (if 1 > n then 1 else n) then 8 else (if 1 > n then 1 else n)
theorem nE_bd (n : Int) : 1 ≤ nE n ∧ nE n ≤ 8 := by unfold nE; omega
def gnM (n : Int) : Nat := if (3 : Int) > nE n then 3 else (nE n).toNat
theorem gnM_eq (n : Int) : (if (3 : Int) > nE n then 3 else nE n) = (gnM n : Int) := by
  have h := nE_bd n
  unfold gnM
  split <;> omega
theorem gnM_bd (n : Int) : 3 ≤ gnM n ∧ gnM n ≤ 8 := by
  have h := nE_bd n
  unfold gnM
  split <;> omega
def gN (l : List UInt8) (n : Int) (c : Int) : Gt × Int := gtN l c (nE n) 0 (gnM n)
theorem k_gN (l : List UInt8) (n c : Int) (h : 0 ≤ c ∧ c ≤ 100000 ∧ l.length ≤ 2000) : Kon Try.prog 112 [p0, vI (nE n), vI 0] [rdE l c] (gV (gN l n c).1) [] [rdE l (gN l n c).2] :=
  k_gate l c (nE n) 0 (gnM n) (gnM_eq n) (nE_bd n) h (by omega)
theorem gN_bd (l : List UInt8) (n c : Int) : gbd (gN l n c) c 20 := gtN_bd l c (nE n) 0 (gnM n) (nE_bd n) (gnM_bd n)
/-- One gate more. -/
def ciS (l : List UInt8) (n : Int) (x : List Gt × Int) : List Gt × Int :=
  bif decide ((x.1.length : Int) > 0) then (bif pickI l (gN l n x.2).2 4 == 0 then (x.1 ++ [x.1.getD (pickI l ((gN l n x.2).2 + 1) x.1.length).toNat Cel.no], (gN l n x.2).2 + 1 + 1) else (x.1 ++ [(gN l n x.2).1], (gN l n x.2).2 + 1))
  else (x.1 ++ [(gN l n x.2).1], (gN l n x.2).2)
def ciN (l : List UInt8) (n c : Int) : Nat → List Gt × Int
  | 0 => ([], c)
  | i + 1 => ciS l n (ciN l n c i)
def gtb (g : Gt) : Prop := (-1 ≤ g.k ∧ g.k ≤ 9) ∧ (-1 ≤ g.a ∧ g.a ≤ 8) ∧ (-1 ≤ g.b ∧ g.b ≤ 8) ∧ (-1 ≤ g.c ∧ g.c ≤ 8)
theorem ciS_bd (l : List UInt8) (n : Int) (x : List Gt × Int) (h : ∀ g ∈ x.1, gtb g) : (ciS l n x).1.length = x.1.length + 1 ∧ (∀ g ∈ (ciS l n x).1, gtb g) ∧ x.2 ≤ (ciS l n x).2 ∧ (ciS l n x).2 ≤ x.2 + 22 := by
  have hg := gN_bd l n x.2
  unfold gbd at hg
  have hgb : gtb (gN l n x.2).1 := by unfold gtb; omega
  have one : ∀ y : Gt, gtb y → ∀ g ∈ x.1 ++ [y], gtb g := fun y hy g hm => by
    rcases List.mem_append.1 hm with hm | hm
    · exact h g hm
    · rw [List.mem_singleton.1 hm]; exact hy
  unfold ciS
  cases hd : decide ((x.1.length : Int) > 0)
  · dsimp only [cond_false]
    refine ⟨by simp, one _ hgb, by omega, by omega⟩
  · dsimp only [cond_true]
    have hl : (x.1.length : Int) > 0 := of_decide_eq_true hd
    cases hp : (pickI l (gN l n x.2).2 4 == 0)
    · dsimp only [cond_false]
      refine ⟨by simp, one _ hgb, by omega, by omega⟩
    · dsimp only [cond_true]
      refine ⟨by simp, one _ ?_, by omega, by omega⟩
      have hq := pickI_lt (l := l) (c := (gN l n x.2).2 + 1) (n := (x.1.length : Int)) (by omega)
      have hi : (pickI l ((gN l n x.2).2 + 1) x.1.length).toNat < x.1.length := by omega
      have e : x.1.getD (pickI l ((gN l n x.2).2 + 1) x.1.length).toNat Cel.no = x.1[(pickI l ((gN l n x.2).2 + 1) x.1.length).toNat] := by simp [List.getD_eq_getElem?_getD, hi]
      rw [e]
      exact h _ (List.getElem_mem hi)
theorem ciN_bd (l : List UInt8) (n c : Int) : ∀ i, (ciN l n c i).1.length = i ∧ (∀ g ∈ (ciN l n c i).1, gtb g) ∧ c ≤ (ciN l n c i).2 ∧ (ciN l n c i).2 ≤ c + 22 * (i : Int)
  | 0 => by
    refine ⟨rfl, fun g hg => ?_, ?_, ?_⟩
    · cases hg
    · exact Int.le_refl c
    · show c ≤ c + 22 * ((0 : Nat) : Int); omega
  | i + 1 => by
    obtain ⟨h1, h2, h3, h4⟩ := ciN_bd l n c i
    obtain ⟨q1, q2, q3, q4⟩ := ciS_bd l n _ h2
    exact ⟨by rw [ciN, q1, h1], q2, by rw [ciN]; omega, by rw [ciN]; omega⟩
/-- A fault put into a circuit. -/
def coN (l : List UInt8) (q : Int) (x : List Gt × Int) : List Gt × Int :=
  bif decide (q > 0) then (bif pickI l x.2 q == q - 1 then (bif pickI l (x.2 + 1) 2 == 0 then (x.1 ++ [⟨9, 0, 0, 0⟩], x.2 + 1 + 1) else (x.1 ++ List.replicate (25 - x.1.length) ⟨0, 0, 0, 0⟩, x.2 + 1 + 1)) else (x.1, x.2 + 1)) else x
theorem coN_bd (l : List UInt8) (q : Int) (x : List Gt × Int) (hl : x.1.length ≤ 30) (h : ∀ g ∈ x.1, gtb g) : (coN l q x).1.length ≤ 31 ∧ (∀ g ∈ (coN l q x).1, gtb g) ∧ x.2 ≤ (coN l q x).2 ∧ (coN l q x).2 ≤ x.2 + 2 := by
  have more : ∀ L : List Gt, (∀ y ∈ L, gtb y) → ∀ g ∈ x.1 ++ L, gtb g := fun L hL g hm => by
    rcases List.mem_append.1 hm with hm | hm
    · exact h g hm
    · exact hL g hm
  unfold coN
  cases decide (q > 0)
  · exact ⟨by dsimp only [cond_false]; omega, h, Int.le_refl _, by dsimp only [cond_false]; omega⟩
  cases (pickI l x.2 q == q - 1)
  · exact ⟨by dsimp only [cond_true, cond_false]; omega, h, by dsimp only [cond_true, cond_false]; omega, by dsimp only [cond_true, cond_false]; omega⟩
  cases (pickI l (x.2 + 1) 2 == 0)
  · dsimp only [cond_true, cond_false]
    refine ⟨by rw [List.length_append, List.length_replicate]; omega, more _ fun y hy => ?_, by omega, by omega⟩
    rw [List.eq_of_mem_replicate hy]; unfold gtb; decide
  · dsimp only [cond_true, cond_false]
    refine ⟨by simp; omega, more _ fun y hy => ?_, by omega, by omega⟩
    rw [List.mem_singleton.1 hy]; unfold gtb; decide
set_option maxHeartbeats 4000000 in
theorem ex_circ (l : List UInt8) (c n most q : Int) (h : 0 ≤ c ∧ c ≤ 90000 ∧ l.length ≤ 2000) (hm : 0 ≤ most ∧ most ≤ 30) (hq : q ≤ 1000) : ∃ (cs : List Gt) (c' : Int), cs.length ≤ 31 ∧ (∀ g ∈ cs, gtb g) ∧ (c ≤ c' ∧ c' ≤ c + 700) ∧ Kon Try.prog 117 [p0, vI n, vI most, vI q] [rdE l c] (slA 0 0 cs) [gRow cs] [rdE l c'] := by
  obtain ⟨m, hmm⟩ : ∃ m : Nat, pickI l c (most + 1) = (m : Int) := ⟨(pickI l c (most + 1)).toNat, by have := pickI_lt (l := l) (c := c) (n := most + 1) (by omega); omega⟩
  obtain ⟨d1, d2, d3, d4⟩ := ciN_bd l n (c + 1) m
  have hpm0 := pickI_lt (l := l) (c := c) (n := most + 1) (by omega)
  obtain ⟨cs', c', hr, x1, x2, x3⟩ : ∃ cs' c', coN l q (ciN l n (c + 1) m) = (cs', c') ∧ cs'.length ≤ 31 ∧ (∀ g ∈ cs', gtb g) ∧ (c ≤ c' ∧ c' ≤ c + 700) := by
    have := coN_bd l q (ciN l n (c + 1) m) (by omega) d2
    have t3 := this.2.2.1
    have t4 := this.2.2.2
    exact ⟨(coN l q (ciN l n (c + 1) m)).1, (coN l q (ciN l n (c + 1) m)).2, rfl, this.1, this.2.1, by omega⟩
  refine ⟨cs', c', x1, x2, x3, ?_⟩
  have hpm := pickI_lt (l := l) (c := c) (n := most + 1) (by omega)
  (refine kon_mk T0ok (fn := Try.f117) (c := Try.f117.body.get rfl) Try.func117 rfl (by rfl) (by rfl) (by rfl) ?_; intro hfit hfe)
  (repeat (first | refine gq_KGQ ?_ | (refine ga_KGQ ?_; intro _hq)))
  rw [hmm]
  have e0 : (ciN l n (c + 1) 0).2 = c + 1 := rfl
  refine aw_rd [0, 1, 2, 3] [] (fun i : Nat => [(9, .g (.one (.sl 192 i i))), (10, vI ((m : Int) - i))]) (fun i => [(192, (i, gRow (ciN l n (c + 1) i).1)), (100000, (0, rdE l (ciN l n (c + 1) i).2))]) (fun i => i ≤ m) (fun i => m - i) 0 (by rfl) (by rfl) ?_ (by rfl) ⟨by rfl, vI_of (by rfl) (by omega), (by repeat (first | exact trivial | refine ⟨by rfl, ?_⟩ | refine ⟨vI_of (by rfl) (by omega), ?_⟩))⟩ ⟨by rfl, by rfl, trivial⟩ ?_
  · exact Nat.zero_le _
  rintro i hi
  obtain ⟨b1, b2, b3, b4⟩ := ciN_bd l n (c + 1) i
  rcases hx : ciN l n (c + 1) i with ⟨cs, c1⟩
  rw [hx] at b1 b2 b3 b4
  dsimp only at b1 b2 b3 b4 ⊢
  rcases Nat.lt_or_ge i m with h5 | h5
  · have hd : decide ((m : Int) - (i : Int) > 0) = true := decide_eq_true (by omega)
    have hG := k_gN l n c1 (by omega)
    subst b1
    have hpos : ∀ w : Int, (cs.length : Int) > 0 → 0 ≤ pickI l w cs.length ∧ pickI l w cs.length < cs.length := fun w hw => pickI_lt (by omega)
    have hgb := gN_bd l n c1
    unfold gbd at hgb
    cases d0 : decide ((cs.length : Int) > 0) with
    | false =>
      have hn : ciN l n (c + 1) (cs.length + 1) = (cs ++ [(gN l n c1).1], (gN l n c1).2) := by rw [ciN, hx, ciS]; dsimp only; rw [d0]; rfl
      (repeat (first | refine gq_KGQ ?_ | (refine ga_KGQ ?_; intro _hq)))
      exact ⟨cs.length + 1, h5, ⟨by rfl, ⟨Eq.trans (b := some (.g (.one (.sl 192 (cs.length + 1) (cs ++ [(gN l n c1).1]).length)))) (by rfl) (by rw [List.length_append]; rfl), vI_of (by rfl) (by omega), (by repeat (first | exact trivial | refine ⟨by rfl, ?_⟩ | refine ⟨vI_of (by rfl) (by omega), ?_⟩))⟩, ⟨Eq.trans (b := some (cs.length + 1, gRow (cs ++ [(gN l n c1).1]))) (by rfl) (by rw [hn]), Eq.trans (b := some (0, rdE l (gN l n c1).2)) (by rfl) (by rw [hn]), trivial⟩⟩, (by first | omega | (dsimp only; omega))⟩
    | true =>
      have hq4 := pickI_lt (l := l) (c := (gN l n c1).2) (n := 4) (by omega)
      cases d1 : (pickI l (gN l n c1).2 4 == 0) with
      | false =>
        have hn : ciN l n (c + 1) (cs.length + 1) = (cs ++ [(gN l n c1).1], (gN l n c1).2 + 1) := by rw [ciN, hx, ciS]; dsimp only; rw [d0]; dsimp only [cond_true]; rw [d1]; rfl
        (repeat (first | refine gq_KGQ ?_ | (refine ga_KGQ ?_; intro _hq)))
        exact ⟨cs.length + 1, h5, ⟨by rfl, ⟨Eq.trans (b := some (.g (.one (.sl 192 (cs.length + 1) (cs ++ [(gN l n c1).1]).length)))) (by rfl) (by rw [List.length_append]; rfl), vI_of (by rfl) (by omega), (by repeat (first | exact trivial | refine ⟨by rfl, ?_⟩ | refine ⟨vI_of (by rfl) (by omega), ?_⟩))⟩, ⟨Eq.trans (b := some (cs.length + 1, gRow (cs ++ [(gN l n c1).1]))) (by rfl) (by rw [hn]), Eq.trans (b := some (0, rdE l ((gN l n c1).2 + 1))) (by rfl) (by rw [hn]), trivial⟩⟩, (by first | omega | (dsimp only; omega))⟩
      | true =>
        have hn : ciN l n (c + 1) (cs.length + 1) = (cs ++ [cs.getD (pickI l ((gN l n c1).2 + 1) cs.length).toNat Cel.no], (gN l n c1).2 + 1 + 1) := by rw [ciN, hx, ciS]; dsimp only; rw [d0]; dsimp only [cond_true]; rw [d1]; rfl
        have hp1 := hpos ((gN l n c1).2 + 1) (of_decide_eq_true d0)
        (repeat (first | refine gq_KGQ ?_ | (refine ga_KGQ ?_; intro _hq)))
        exact ⟨cs.length + 1, h5, ⟨by rfl, ⟨Eq.trans (b := some (.g (.one (.sl 192 (cs.length + 1) (cs ++ [(cs.getD (pickI l ((gN l n c1).2 + 1) cs.length).toNat Cel.no)]).length)))) (by rfl) (by rw [List.length_append]; rfl), vI_of (by rfl) (by omega), (by repeat (first | exact trivial | refine ⟨by rfl, ?_⟩ | refine ⟨vI_of (by rfl) (by omega), ?_⟩))⟩, ⟨Eq.trans (b := some (cs.length + 1, gRow (cs ++ [(cs.getD (pickI l ((gN l n c1).2 + 1) cs.length).toNat Cel.no)]))) (by rfl) (by rw [hn]), Eq.trans (b := some (0, rdE l ((gN l n c1).2 + 1 + 1))) (by rfl) (by rw [hn]), trivial⟩⟩, (by first | omega | (dsimp only; omega))⟩
  · have hd : decide ((m : Int) - (i : Int) > 0) = false := decide_eq_false (by omega)
    obtain rfl : i = m := by omega
    rw [hx] at hr
    subst b1
    have hcl : (cV cs).length = cs.length * Cel.sz Gt := cV_len cs
    cases q0 : decide (q > 0) with
    | false =>
      have hq1 : q ≤ 0 := by have := of_decide_eq_false q0; omega
      rw [coN, q0] at hr
      obtain ⟨rfl, rfl⟩ := Prod.mk.inj hr
      clear hr
      (repeat (first | refine gq_KGQ ?_ | (refine ga_KGQ ?_; intro _hq)))
      ((try refine aw_ret ?_); refine ret_auto2 (by rfl) (by rfl) (by rfl) (by repeat (first | exact trivial | refine ⟨by first | rfl | omega, ?_⟩)) ?_ (by repeat (first | exact trivial | refine ⟨by rfl, by rfl, ?_⟩)) (by repeat (first | exact trivial | refine ⟨by rfl, by rfl, ?_⟩)); try rfl)
    | true =>
      have hq1 : 0 < q := of_decide_eq_true q0
      rw [coN, q0] at hr
      dsimp only [cond_true] at hr
      cases hv : (pickI l c1 q == q - 1) with
      | false =>
        rw [hv] at hr
        obtain ⟨rfl, rfl⟩ := Prod.mk.inj hr
        clear hr
        (repeat (first | refine gq_KGQ ?_ | (refine ga_KGQ ?_; intro _hq)))
        ((try refine aw_ret ?_); refine ret_auto2 (by rfl) (by rfl) (by rfl) (by repeat (first | exact trivial | refine ⟨by first | rfl | omega, ?_⟩)) ?_ (by repeat (first | exact trivial | refine ⟨by rfl, by rfl, ?_⟩)) (by repeat (first | exact trivial | refine ⟨by rfl, by rfl, ?_⟩)); try rfl)
      | true =>
        rw [hv] at hr
        dsimp only [cond_true] at hr
        have hp2 := pickI_lt (l := l) (c := c1 + 1) (n := 2) (by omega)
        cases h0 : (pickI l (c1 + 1) 2 == 0) with
        | true =>
          rw [h0] at hr
          obtain ⟨rfl, rfl⟩ := Prod.mk.inj hr
          clear hr
          (repeat (first | refine gq_KGQ ?_ | (refine ga_KGQ ?_; intro _hq)))
          ((try refine aw_ret ?_); refine ret_auto2 (by rfl) (by rfl) (by rfl) (by repeat (first | exact trivial | refine ⟨by first | rfl | omega, ?_⟩)) ?_ (by repeat (first | exact trivial | refine ⟨by rfl, by rfl, ?_⟩)) (by repeat (first | exact trivial | refine ⟨by rfl, by rfl, ?_⟩)); try rfl)
        | false =>
          rw [h0] at hr
          obtain ⟨rfl, rfl⟩ := Prod.mk.inj hr
          clear hr
          (repeat (first | refine gq_KGQ ?_ | (refine ga_KGQ ?_; intro _hq)))
          refine aw_rd [] [] (fun j : Nat => [(9, .g (.one (.sl 192 (cs.length + j) (cs.length + j))))]) (fun j => [(192, (cs.length + j, gRow (cs ++ List.replicate j ⟨0, 0, 0, 0⟩))), (100000, (0, rdE l (c1 + 1 + 1)))]) (fun j => j ≤ 25 - cs.length) (fun j => 25 - cs.length - j) 0 (by rfl) (by rfl) ?_ (by rfl) ⟨by rfl, trivial⟩ ⟨Eq.trans (b := some (cs.length, gRow cs)) (by rfl) (by rw [List.replicate_zero, List.append_nil]; rfl), by rfl, trivial⟩ ?_
          · exact Nat.zero_le _
          rintro j hj
          have hlj : (cs ++ List.replicate j (⟨0, 0, 0, 0⟩ : Gt)).length = cs.length + j := by rw [List.length_append, List.length_replicate]
          have hcj : (cV (cs ++ List.replicate j (⟨0, 0, 0, 0⟩ : Gt))).length = (cs.length + j) * Cel.sz Gt := by rw [cV_len, hlj]
          rcases Nat.lt_or_ge j (25 - cs.length) with h7 | h7
          · have hd7 : decide (((cs.length + j : Nat) : Int) ≤ 24) = true := decide_eq_true (by omega)
            have hn : cs ++ List.replicate j (⟨0, 0, 0, 0⟩ : Gt) ++ [(⟨0, 0, 0, 0⟩ : Gt)] = cs ++ List.replicate (j + 1) (⟨0, 0, 0, 0⟩ : Gt) := by rw [List.append_assoc, List.replicate_succ']
            (repeat (first | refine gq_KGQ ?_ | (refine ga_KGQ ?_; intro _hq)))
            exact ⟨j + 1, h7, ⟨by rfl, ⟨Eq.trans (b := some (.g (.one (.sl 192 (cs.length + j + 1) (cs ++ List.replicate j (⟨0, 0, 0, 0⟩ : Gt) ++ [(⟨0, 0, 0, 0⟩ : Gt)]).length)))) (by rfl) (by rw [List.length_append, hlj]; rfl), trivial⟩, ⟨Eq.trans (b := some (cs.length + j + 1, gRow (cs ++ List.replicate j (⟨0, 0, 0, 0⟩ : Gt) ++ [(⟨0, 0, 0, 0⟩ : Gt)]))) (by rfl) (by rw [hn]; rfl), by rfl, trivial⟩⟩, (by first | omega | (dsimp only; omega))⟩
          · obtain rfl : j = 25 - cs.length := by omega
            have hd7 : decide (((cs.length + (25 - cs.length) : Nat) : Int) ≤ 24) = false := decide_eq_false (by omega)
            (repeat (first | refine gq_KGQ ?_ | (refine ga_KGQ ?_; intro _hq)))
            ((try refine aw_ret ?_); refine ret_auto2 (by rfl) (by rfl) (by rfl) (by repeat (first | exact trivial | refine ⟨by first | rfl | omega, ?_⟩)) ?_ (by repeat (first | exact trivial | refine ⟨by rfl, by rfl, ?_⟩)) (by repeat (first | exact trivial | refine ⟨by rfl, by rfl, ?_⟩)); try rfl)
            exact congrArg (fun n => AV.g (.one (.sl 0 0 n))) hlj.symm
/-- Lines and a circuit are drawn. -/
theorem ex_lined (l : List UInt8) (c n : Int) (h : 0 ≤ c ∧ c ≤ 80000 ∧ l.length ≤ 2000) (hn : 0 < n ∧ n ≤ 400) : ∃ (L : Int) (cs : List Gt) (c' : Int), (-1 ≤ L ∧ L ≤ 9) ∧ cs.length ≤ 31 ∧ (∀ g ∈ cs, gtb g) ∧ (c ≤ c' ∧ c' ≤ c + 710) ∧ Kon Try.prog 86 [p0, vI n] [rdE l c] (.tup [.one (.v (.int .i64 L)), .one (.sl 0 0 cs.length)]) [gRow cs] [rdE l c'] := by
  obtain ⟨L, hL, hK1⟩ := ex_lines l c (2 * n) (by omega)
  obtain ⟨cs, c', h1, h2, h3, hK2⟩ := ex_circ l (c + 1 + 1) L 10 (2 * n) (by omega) (by omega) (by omega)
  refine ⟨L, cs, c', hL, h1, h2, by omega, ?_⟩
  (refine kon_mk T0ok (fn := Try.f86) (c := Try.f86.body.get rfl) Try.func86 rfl (by rfl) (by rfl) (by rfl) ?_; intro hfit hfe)
  (repeat (first | refine gq_KGQ ?_ | (refine ga_KGQ ?_; intro _hq)))
  ((try refine aw_ret ?_); refine ret_auto2 (by rfl) (by rfl) (by rfl) (by repeat (first | exact trivial | refine ⟨by first | rfl | omega, ?_⟩)) ?_ (by repeat (first | exact trivial | refine ⟨by rfl, by rfl, ?_⟩)) (by repeat (first | exact trivial | refine ⟨by rfl, by rfl, ?_⟩)); try rfl)
end Go.Proofs.Yteagoafamjbpbaa

/- impl.CircuitBack; the draw and the law of FnCircuitRun. -/
namespace Go.Proofs.Yteagoafamjbpbaa
set_option linter.unusedVariables false
set_option linter.unusedSimpArgs false
set_option maxRecDepth 20000
open Go.RowKit
attribute [local irreducible] runA runX AW
theorem gq_KBM {H G : Prop} (k : H) (h : Hid H → G := by (intro hh; (first | (first | ((first | refine r_none ?_ | refine r_gt (by rfl) (by rfl) (by first | rfl | assumption | omega | (simp only [*, Bool.not_false, Bool.not_true]; first | done | fail) | (simp [*]; first | done | fail)) (by rfl) ?_ | refine r_gf (by rfl) (by rfl) (by first | rfl | assumption | omega | (simp only [*, Bool.not_false, Bool.not_true]; first | done | fail) | (simp [*]; first | done | fail)) (by rfl) ?_); (first | fail | ((first | (refine z_op (by rfl) ?_; first | refine z_ok ?_ ?_ | refine z_ex ?_ (by first | exact ft_raw rfl rfl | ((first | refine ft_rp rfl rfl rfl ?_ | refine ft_row rfl rfl rfl ?_ | refine ft_rpF rfl rfl rfl ?_ | refine ft_rowF rfl rfl rfl ?_ | refine up_row rfl rfl ?_ | refine up_rowF rfl rfl rfl ?_ | refine ct_0 rfl ?_ | refine ct_r rfl rfl ?_ | refine ct_c rfl rfl rfl ?_ | refine cu_all rfl ?_ | refine cu_to rfl ?_ | refine cu_from rfl ?_ | refine cu_p rfl ?_ | fail); (first | omega | (simp only [List.length_append, List.length_replicate, List.length_cons, List.length_nil, List.length_set, List.length_take, List.length_drop, true_and]; omega))) | exact up_raw rfl | exact pk_t (by first | rfl | assumption | omega | (simp only [*, Bool.not_false, Bool.not_true]; first | done | fail) | (simp [*]; first | done | fail)) rfl | exact pk_f (by first | rfl | assumption | omega | (simp only [*, Bool.not_false, Bool.not_true]; first | done | fail) | (simp [*]; first | done | fail)) rfl | fail | exact rw_raw | exact pu_cv (fun w => rfl) (by omega) | exact pu_of (fun w => rfl) rfl | exact be_of (fun w => rfl) | exact nc_of (fun _ _ _ _ => rfl) rfl | exact bu_of (fun w => rfl) rfl | fail) ?_) | ((first | refine q_callE wsT wsZ (by rfl) ?_ | refine q_callVE wsT (by rfl) (by rfl) ?_); refine ⟨_, _, _, (by first | assumption | exact k_alive | exact k_open _ (by omega) | exact k_keeps _ _ | exact k_backwards _ (by omega) | exact k_cv _ _ (by omega)), _, by rfl, ?_, ?_⟩)); focus (first | exact trivial | fail | exact rfl | (first | omega | (simp only [List.length_append, List.length_replicate, List.length_cons, List.length_nil, List.length_set, List.length_take, List.length_drop, true_and]; omega)) | exact cvB (fun w => rfl) | ((repeat' (first | exact rfl | exact cV_len _ | exact cV_ln rfl (by omega) | exact Cel.pos | omega | exact trivial | refine And.intro ?_ ?_)); done) | (simp [*]; done) | (simp; omega))) | fail)) | refine r_nt (by rfl) (by rfl) (by first | rfl | assumption | omega | (simp only [*, Bool.not_false, Bool.not_true]; first | done | fail) | (simp [*]; first | done | fail)) (by rfl) ?_ | refine r_nf (by rfl) (by rfl) (by first | rfl | assumption | omega | (simp only [*, Bool.not_false, Bool.not_true]; first | done | fail) | (simp [*]; first | done | fail)) (by rfl) ?_ | refine r_gu (by rfl) (by rfl) (by rfl) ?_ | refine r_nil ?_) | (first | refine aw_seq ?_ | refine aw_ct (by rfl) (by first | rfl | assumption | omega | (simp only [*, Bool.not_false, Bool.not_true]; first | done | fail) | (simp [*]; first | done | fail)) ?_ | refine aw_cf (by rfl) (by first | rfl | assumption | omega | (simp only [*, Bool.not_false, Bool.not_true]; first | done | fail) | (simp [*]; first | done | fail)) ?_ | refine aw_block ?_ | refine aw_region T0ok cfU_ok (by rfl) ?_ | refine aw_skip ?_ | refine aw_exit ?_ | refine ra_step ?_)); (repeat (first | (first | ((first | refine r_none ?_ | refine r_gt (by rfl) (by rfl) (by first | rfl | assumption | omega | (simp only [*, Bool.not_false, Bool.not_true]; first | done | fail) | (simp [*]; first | done | fail)) (by rfl) ?_ | refine r_gf (by rfl) (by rfl) (by first | rfl | assumption | omega | (simp only [*, Bool.not_false, Bool.not_true]; first | done | fail) | (simp [*]; first | done | fail)) (by rfl) ?_); (first | fail | ((first | (refine z_op (by rfl) ?_; first | refine z_ok ?_ ?_ | refine z_ex ?_ (by first | exact ft_raw rfl rfl | ((first | refine ft_rp rfl rfl rfl ?_ | refine ft_row rfl rfl rfl ?_ | refine ft_rpF rfl rfl rfl ?_ | refine ft_rowF rfl rfl rfl ?_ | refine up_row rfl rfl ?_ | refine up_rowF rfl rfl rfl ?_ | refine ct_0 rfl ?_ | refine ct_r rfl rfl ?_ | refine ct_c rfl rfl rfl ?_ | refine cu_all rfl ?_ | refine cu_to rfl ?_ | refine cu_from rfl ?_ | refine cu_p rfl ?_ | fail); (first | omega | (simp only [List.length_append, List.length_replicate, List.length_cons, List.length_nil, List.length_set, List.length_take, List.length_drop, true_and]; omega))) | exact up_raw rfl | exact pk_t (by first | rfl | assumption | omega | (simp only [*, Bool.not_false, Bool.not_true]; first | done | fail) | (simp [*]; first | done | fail)) rfl | exact pk_f (by first | rfl | assumption | omega | (simp only [*, Bool.not_false, Bool.not_true]; first | done | fail) | (simp [*]; first | done | fail)) rfl | fail | exact rw_raw | exact pu_cv (fun w => rfl) (by omega) | exact pu_of (fun w => rfl) rfl | exact be_of (fun w => rfl) | exact nc_of (fun _ _ _ _ => rfl) rfl | exact bu_of (fun w => rfl) rfl | fail) ?_) | ((first | refine q_callE wsT wsZ (by rfl) ?_ | refine q_callVE wsT (by rfl) (by rfl) ?_); refine ⟨_, _, _, (by first | assumption | exact k_alive | exact k_open _ (by omega) | exact k_keeps _ _ | exact k_backwards _ (by omega) | exact k_cv _ _ (by omega)), _, by rfl, ?_, ?_⟩)); focus (first | exact trivial | fail | exact rfl | (first | omega | (simp only [List.length_append, List.length_replicate, List.length_cons, List.length_nil, List.length_set, List.length_take, List.length_drop, true_and]; omega)) | exact cvB (fun w => rfl) | ((repeat' (first | exact rfl | exact cV_len _ | exact cV_ln rfl (by omega) | exact Cel.pos | omega | exact trivial | refine And.intro ?_ ?_)); done) | (simp [*]; done) | (simp; omega))) | fail)) | refine r_nt (by rfl) (by rfl) (by first | rfl | assumption | omega | (simp only [*, Bool.not_false, Bool.not_true]; first | done | fail) | (simp [*]; first | done | fail)) (by rfl) ?_ | refine r_nf (by rfl) (by rfl) (by first | rfl | assumption | omega | (simp only [*, Bool.not_false, Bool.not_true]; first | done | fail) | (simp [*]; first | done | fail)) (by rfl) ?_ | refine r_gu (by rfl) (by rfl) (by rfl) ?_ | refine r_nil ?_) | (first | refine aw_seq ?_ | refine aw_ct (by rfl) (by first | rfl | assumption | omega | (simp only [*, Bool.not_false, Bool.not_true]; first | done | fail) | (simp [*]; first | done | fail)) ?_ | refine aw_cf (by rfl) (by first | rfl | assumption | omega | (simp only [*, Bool.not_false, Bool.not_true]; first | done | fail) | (simp [*]; first | done | fail)) ?_ | refine aw_block ?_ | refine aw_region T0ok cfU_ok (by rfl) ?_ | refine aw_skip ?_ | refine aw_exit ?_ | refine ra_step ?_))); exact hh.out)) : G := h ⟨k⟩
theorem ga_KBM {H G : Prop} (k : H) (h : Hid H → G := by (intro hh; (first | refine r_none ?_ | refine r_gt (by rfl) (by rfl) (by first | rfl | assumption | omega | (simp only [*, Bool.not_false, Bool.not_true]; first | done | fail) | (simp [*]; first | done | fail)) (by rfl) ?_ | refine r_gf (by rfl) (by rfl) (by first | rfl | assumption | omega | (simp only [*, Bool.not_false, Bool.not_true]; first | done | fail) | (simp [*]; first | done | fail)) (by rfl) ?_); refine z_op (by rfl) ?_; refine z_al ?_ hh.out; focus (first | exact trivial | fail | exact rfl | (first | omega | (simp only [List.length_append, List.length_replicate, List.length_cons, List.length_nil, List.length_set, List.length_take, List.length_drop, true_and]; omega)) | exact cvB (fun w => rfl) | ((repeat' (first | exact rfl | exact cV_len _ | exact cV_ln rfl (by omega) | exact Cel.pos | omega | exact trivial | refine And.intro ?_ ?_)); done) | (simp [*]; done) | (simp; omega)))) : G := h ⟨k⟩
theorem k_back (n : Int) (l : List Gt) (h : l.length ≤ 1000) (hc : cokB n l = true) : Kon Try.prog 51 [vI n, roA l] [] (slA 0 0 l.reverse) [gRow l.reverse] [] := by
  (refine kon_mk T0ok (fn := Try.f51) (c := Try.f51.body.get rfl) Try.func51 rfl (by rfl) (by rfl) (by rfl) ?_; intro hfit hfe)
  (repeat (first | refine gq_KBM ?_ | (refine ga_KBM ?_; intro _q ⟨_he, _hq⟩)))
  ((try refine aw_ret ?_); refine ret_auto2 (by rfl) (by rfl) (by rfl) (by repeat (first | exact trivial | refine ⟨by first | rfl | omega, ?_⟩)) ?_ (by repeat (first | exact trivial | refine ⟨by rfl, by rfl, ?_⟩)) (by repeat (first | exact trivial | refine ⟨by rfl, by rfl, ?_⟩)); try rfl)
theorem k_back0 (n : Int) (l : List Gt) (h : l.length ≤ 1000) (hc : cokB n l = false) : Kon Try.prog 51 [vI n, roA l] [] vN [] [] := by
  (refine kon_mk T0ok (fn := Try.f51) (c := Try.f51.body.get rfl) Try.func51 rfl (by rfl) (by rfl) (by rfl) ?_; intro hfit hfe)
  (repeat (first | refine gq_KBM ?_ | (refine ga_KBM ?_; intro _q ⟨_he, _hq⟩)))
  ((try refine aw_ret ?_); refine ret_auto2 (by rfl) (by rfl) (by rfl) (by repeat (first | exact trivial | refine ⟨by first | rfl | omega, ?_⟩)) ?_ (by repeat (first | exact trivial | refine ⟨by rfl, by rfl, ?_⟩)) (by repeat (first | exact trivial | refine ⟨by rfl, by rfl, ?_⟩)); try rfl)
end Go.Proofs.Yteagoafamjbpbaa

/- The reference's Changes and Apart. -/
namespace Go.Proofs.Yteagoafamjbpbaa
set_option linter.unusedVariables false
set_option linter.unusedSimpArgs false
set_option maxRecDepth 20000
open Go.RowKit
attribute [local irreducible] runA runX AW
def mn (a b : Int) : Int := if b < a then b else a
def mx (a b : Int) : Int := if b > a then b else a
/-- The lines that a gate changes. -/
def chgL (g : Gt) : List Int := if g.k = 0 then [g.a] else if g.k = 1 then [g.b] else if g.k = 2 then [g.c] else if g.k = 3 then [mn g.a g.b, mx g.a g.b] else [mn g.b g.c, mx g.b g.c]
def anyB (l m : List Int) : Bool := l.any (fun x => hasB m x)
def touB (g h : Gt) : Bool := anyB (chgL g) (lns h)
def apaB (g h : Gt) : Bool := !(touB g h) && !(touB h g)
end Go.Proofs.Yteagoafamjbpbaa

/- Plain law: gates that are apart commute. -/
namespace Go.Proofs.Yteagoafamjbpbaa
set_option linter.unusedVariables false
set_option linter.unusedSimpArgs false
end Go.Proofs.Yteagoafamjbpbaa

/- Plain: the first useless pair. -/
namespace Go.Proofs.Yteagoafamjbpbaa
set_option linter.unusedVariables false
set_option linter.unusedSimpArgs false
/-- The place of the same gate behind gates that are apart. -/
def uI (g : Gt) : List Gt → Nat → Int
  | [], _ => -1
  | x :: l, k => bif geq x g then (k : Int) else bif apaB x g then uI g l (k + 1) else -1
def usl : List Gt → Nat → Int × Int
  | [], _ => (-1, -1)
  | g :: l, i => bif decide (uI g l (i + 1) ≥ 0) then ((i : Int), uI g l (i + 1)) else usl l (i + 1)
end Go.Proofs.Yteagoafamjbpbaa

/- The first useless pair: the reference. -/
namespace Go.Proofs.Yteagoafamjbpbaa
set_option linter.unusedVariables false
set_option linter.unusedSimpArgs false
set_option maxRecDepth 20000
open Go.RowKit
attribute [local irreducible] runA runX AW
end Go.Proofs.Yteagoafamjbpbaa

/- spec.l2Drop, spec.CircuitShort (some circuit), the draw of FnSameCircuit. -/



namespace Go.Proofs.Yteagoafamjbpbaa
set_option linter.unusedVariables false
set_option linter.unusedSimpArgs false
set_option maxRecDepth 20000
open Go.RowKit
attribute [local irreducible] runA runX AW
theorem cokB_mk3 {n : Int} {l : List Gt} (h1 : 1 ≤ n ∧ n ≤ 8) (h2 : l.length ≤ 24) (h3 : l.all (gok n) = true) : cokB n l = true := by
  unfold cokB btw
  rw [decide_eq_true h1.1, decide_eq_true h1.2, decide_eq_true (by omega), h3]; rfl
/-- Without the gates at a and b. -/
def drp (l : List Gt) (a b : Int) : Nat → List Gt
  | 0 => []
  | i + 1 => if ((i : Int) != a && (i : Int) != b) = true then drp l a b i ++ [l.getD i Cel.no] else drp l a b i
/-- Dropped as long as there is a pair. -/
def shr (l : List Gt) : Nat → List Gt
  | 0 => l
  | f + 1 => if (usl l 0).1 < 0 then l else shr (drp l (usl l 0).1 (usl l 0).2 l.length) f
end Go.Proofs.Yteagoafamjbpbaa

/- spec.CircuitBack, impl.CircuitJoin; the law FnCircuitBack. -/
namespace Go.Proofs.Yteagoafamjbpbaa
set_option linter.unusedVariables false
set_option linter.unusedSimpArgs false
set_option maxRecDepth 20000
open Go.RowKit
attribute [local irreducible] runA runX AW
def wsTA : WsT := [(52, ([], true))] ++ wsT
def wsZA : List (Nat × Nat) := [(49, 4), (26, 4), (999999, 0)]
theorem gq_KNA {H G : Prop} (k : H) (h : Hid H → G := by (intro hh; (first | (first | ((first | refine r_none ?_ | refine r_gt (by rfl) (by rfl) (by first | rfl | assumption | omega | (simp only [*, Bool.not_false, Bool.not_true]; first | done | fail) | (simp [*]; first | done | fail)) (by rfl) ?_ | refine r_gf (by rfl) (by rfl) (by first | rfl | assumption | omega | (simp only [*, Bool.not_false, Bool.not_true]; first | done | fail) | (simp [*]; first | done | fail)) (by rfl) ?_); (first | fail | ((first | (refine z_op (by rfl) ?_; first | refine z_ok ?_ ?_ | refine z_ex ?_ (by first | exact ft_raw rfl rfl | ((first | refine ft_rp rfl rfl rfl ?_ | refine ft_row rfl rfl rfl ?_ | refine ft_rpF rfl rfl rfl ?_ | refine ft_rowF rfl rfl rfl ?_ | refine up_row rfl rfl ?_ | refine up_rowF rfl rfl rfl ?_ | refine ct_0 rfl ?_ | refine ct_r rfl rfl ?_ | refine ct_c rfl rfl rfl ?_ | refine cu_all rfl ?_ | refine cu_to rfl ?_ | refine cu_from rfl ?_ | refine cu_p rfl ?_ | fail); (first | omega | (simp only [List.length_append, List.length_replicate, List.length_cons, List.length_nil, List.length_set, List.length_take, List.length_drop, true_and]; omega))) | exact up_raw rfl | exact pk_t (by first | rfl | assumption | omega | (simp only [*, Bool.not_false, Bool.not_true]; first | done | fail) | (simp [*]; first | done | fail)) rfl | exact pk_f (by first | rfl | assumption | omega | (simp only [*, Bool.not_false, Bool.not_true]; first | done | fail) | (simp [*]; first | done | fail)) rfl | exact rw_c Gt rfl | exact rw_raw | exact pu_cv (fun w => rfl) (by omega) | exact pu_of (fun w => rfl) rfl | exact be_of (fun w => rfl) | exact nc_of (fun _ _ _ _ => rfl) rfl | exact bu_of (fun w => rfl) rfl | fail) ?_) | ((first | refine q_callE wsTA wsZA (by rfl) ?_ | refine q_callVE wsTA (by rfl) (by rfl) ?_); refine ⟨_, _, _, (by first | assumption | exact k_alive | exact k_open _ (by omega)), _, by rfl, ?_, ?_⟩)); focus (first | exact trivial | fail | exact rfl | (first | omega | (simp only [List.length_append, List.length_replicate, List.length_cons, List.length_nil, List.length_set, List.length_take, List.length_drop, true_and]; omega)) | exact cvB (fun w => rfl) | ((repeat' (first | exact rfl | exact cV_len _ | exact cV_ln rfl (by omega) | exact Cel.pos | omega | exact trivial | refine And.intro ?_ ?_)); done) | (simp [*]; done) | (simp; omega))) | refine q_clip (by rfl) clipG (by first | exact trivial | omega | exact cvB (fun w => rfl) | ((repeat (any_goals (first | exact rfl | exact cV_len _ | exact cV_ln rfl (by omega) | exact Cel.pos | omega | exact trivial | refine And.intro ?_ ?_))); first | done | fail) | (simp [*]; first | done | fail)) ?_)) | refine r_nt (by rfl) (by rfl) (by first | rfl | assumption | omega | (simp only [*, Bool.not_false, Bool.not_true]; first | done | fail) | (simp [*]; first | done | fail)) (by rfl) ?_ | refine r_nf (by rfl) (by rfl) (by first | rfl | assumption | omega | (simp only [*, Bool.not_false, Bool.not_true]; first | done | fail) | (simp [*]; first | done | fail)) (by rfl) ?_ | refine r_gu (by rfl) (by rfl) (by rfl) ?_ | refine r_nil ?_) | (first | refine aw_seq ?_ | refine aw_ct (by rfl) (by first | rfl | assumption | omega | (simp only [*, Bool.not_false, Bool.not_true]; first | done | fail) | (simp [*]; first | done | fail)) ?_ | refine aw_cf (by rfl) (by first | rfl | assumption | omega | (simp only [*, Bool.not_false, Bool.not_true]; first | done | fail) | (simp [*]; first | done | fail)) ?_ | refine aw_block ?_ | refine aw_region T0ok cfU_ok (by rfl) ?_ | refine aw_skip ?_ | refine aw_exit ?_ | refine ra_step ?_)); (repeat (first | (first | ((first | refine r_none ?_ | refine r_gt (by rfl) (by rfl) (by first | rfl | assumption | omega | (simp only [*, Bool.not_false, Bool.not_true]; first | done | fail) | (simp [*]; first | done | fail)) (by rfl) ?_ | refine r_gf (by rfl) (by rfl) (by first | rfl | assumption | omega | (simp only [*, Bool.not_false, Bool.not_true]; first | done | fail) | (simp [*]; first | done | fail)) (by rfl) ?_); (first | fail | ((first | (refine z_op (by rfl) ?_; first | refine z_ok ?_ ?_ | refine z_ex ?_ (by first | exact ft_raw rfl rfl | ((first | refine ft_rp rfl rfl rfl ?_ | refine ft_row rfl rfl rfl ?_ | refine ft_rpF rfl rfl rfl ?_ | refine ft_rowF rfl rfl rfl ?_ | refine up_row rfl rfl ?_ | refine up_rowF rfl rfl rfl ?_ | refine ct_0 rfl ?_ | refine ct_r rfl rfl ?_ | refine ct_c rfl rfl rfl ?_ | refine cu_all rfl ?_ | refine cu_to rfl ?_ | refine cu_from rfl ?_ | refine cu_p rfl ?_ | fail); (first | omega | (simp only [List.length_append, List.length_replicate, List.length_cons, List.length_nil, List.length_set, List.length_take, List.length_drop, true_and]; omega))) | exact up_raw rfl | exact pk_t (by first | rfl | assumption | omega | (simp only [*, Bool.not_false, Bool.not_true]; first | done | fail) | (simp [*]; first | done | fail)) rfl | exact pk_f (by first | rfl | assumption | omega | (simp only [*, Bool.not_false, Bool.not_true]; first | done | fail) | (simp [*]; first | done | fail)) rfl | exact rw_c Gt rfl | exact rw_raw | exact pu_cv (fun w => rfl) (by omega) | exact pu_of (fun w => rfl) rfl | exact be_of (fun w => rfl) | exact nc_of (fun _ _ _ _ => rfl) rfl | exact bu_of (fun w => rfl) rfl | fail) ?_) | ((first | refine q_callE wsTA wsZA (by rfl) ?_ | refine q_callVE wsTA (by rfl) (by rfl) ?_); refine ⟨_, _, _, (by first | assumption | exact k_alive | exact k_open _ (by omega)), _, by rfl, ?_, ?_⟩)); focus (first | exact trivial | fail | exact rfl | (first | omega | (simp only [List.length_append, List.length_replicate, List.length_cons, List.length_nil, List.length_set, List.length_take, List.length_drop, true_and]; omega)) | exact cvB (fun w => rfl) | ((repeat' (first | exact rfl | exact cV_len _ | exact cV_ln rfl (by omega) | exact Cel.pos | omega | exact trivial | refine And.intro ?_ ?_)); done) | (simp [*]; done) | (simp; omega))) | refine q_clip (by rfl) clipG (by first | exact trivial | omega | exact cvB (fun w => rfl) | ((repeat (any_goals (first | exact rfl | exact cV_len _ | exact cV_ln rfl (by omega) | exact Cel.pos | omega | exact trivial | refine And.intro ?_ ?_))); first | done | fail) | (simp [*]; first | done | fail)) ?_)) | refine r_nt (by rfl) (by rfl) (by first | rfl | assumption | omega | (simp only [*, Bool.not_false, Bool.not_true]; first | done | fail) | (simp [*]; first | done | fail)) (by rfl) ?_ | refine r_nf (by rfl) (by rfl) (by first | rfl | assumption | omega | (simp only [*, Bool.not_false, Bool.not_true]; first | done | fail) | (simp [*]; first | done | fail)) (by rfl) ?_ | refine r_gu (by rfl) (by rfl) (by rfl) ?_ | refine r_nil ?_) | (first | refine aw_seq ?_ | refine aw_ct (by rfl) (by first | rfl | assumption | omega | (simp only [*, Bool.not_false, Bool.not_true]; first | done | fail) | (simp [*]; first | done | fail)) ?_ | refine aw_cf (by rfl) (by first | rfl | assumption | omega | (simp only [*, Bool.not_false, Bool.not_true]; first | done | fail) | (simp [*]; first | done | fail)) ?_ | refine aw_block ?_ | refine aw_region T0ok cfU_ok (by rfl) ?_ | refine aw_skip ?_ | refine aw_exit ?_ | refine ra_step ?_))); exact hh.out)) : G := h ⟨k⟩
theorem ga_KNA {H G : Prop} (k : H) (h : Hid H → G := by (intro hh; (first | refine r_none ?_ | refine r_gt (by rfl) (by rfl) (by first | rfl | assumption | omega | (simp only [*, Bool.not_false, Bool.not_true]; first | done | fail) | (simp [*]; first | done | fail)) (by rfl) ?_ | refine r_gf (by rfl) (by rfl) (by first | rfl | assumption | omega | (simp only [*, Bool.not_false, Bool.not_true]; first | done | fail) | (simp [*]; first | done | fail)) (by rfl) ?_); refine z_op (by rfl) ?_; refine z_al ?_ hh.out; focus (first | exact trivial | fail | exact rfl | (first | omega | (simp only [List.length_append, List.length_replicate, List.length_cons, List.length_nil, List.length_set, List.length_take, List.length_drop, true_and]; omega)) | exact cvB (fun w => rfl) | ((repeat' (first | exact rfl | exact cV_len _ | exact cV_ln rfl (by omega) | exact Cel.pos | omega | exact trivial | refine And.intro ?_ ?_)); done) | (simp [*]; done) | (simp; omega)))) : G := h ⟨k⟩
theorem gs_KNA {H G : Prop} (k : H) (h : Hid H → G := by (intro hh; (first | ((first | refine r_none ?_ | refine r_gt (by rfl) (by rfl) (by first | rfl | assumption | omega | (simp only [*, Bool.not_false, Bool.not_true]; first | done | fail) | (simp [*]; first | done | fail)) (by rfl) ?_ | refine r_gf (by rfl) (by rfl) (by first | rfl | assumption | omega | (simp only [*, Bool.not_false, Bool.not_true]; first | done | fail) | (simp [*]; first | done | fail)) (by rfl) ?_); (first | fail | ((first | (refine z_op (by rfl) ?_; first | refine z_ok ?_ ?_ | refine z_ex ?_ (by first | exact ft_raw rfl rfl | ((first | refine ft_rp rfl rfl rfl ?_ | refine ft_row rfl rfl rfl ?_ | refine ft_rpF rfl rfl rfl ?_ | refine ft_rowF rfl rfl rfl ?_ | refine up_row rfl rfl ?_ | refine up_rowF rfl rfl rfl ?_ | refine ct_0 rfl ?_ | refine ct_r rfl rfl ?_ | refine ct_c rfl rfl rfl ?_ | refine cu_all rfl ?_ | refine cu_to rfl ?_ | refine cu_from rfl ?_ | refine cu_p rfl ?_ | fail); (first | omega | (simp only [List.length_append, List.length_replicate, List.length_cons, List.length_nil, List.length_set, List.length_take, List.length_drop, true_and]; omega))) | exact up_raw rfl | exact pk_t (by first | rfl | assumption | omega | (simp only [*, Bool.not_false, Bool.not_true]; first | done | fail) | (simp [*]; first | done | fail)) rfl | exact pk_f (by first | rfl | assumption | omega | (simp only [*, Bool.not_false, Bool.not_true]; first | done | fail) | (simp [*]; first | done | fail)) rfl | exact rw_c Gt rfl | exact rw_raw | exact pu_cv (fun w => rfl) (by omega) | exact pu_of (fun w => rfl) rfl | exact be_of (fun w => rfl) | exact nc_of (fun _ _ _ _ => rfl) rfl | exact bu_of (fun w => rfl) rfl | fail) ?_) | ((first | refine q_callE wsTA wsZA (by rfl) ?_ | refine q_callVE wsTA (by rfl) (by rfl) ?_); refine ⟨_, _, _, (by first | assumption | exact k_alive | exact k_open _ (by omega)), _, by rfl, ?_, ?_⟩)); focus (first | exact trivial | fail | exact rfl | (first | omega | (simp only [List.length_append, List.length_replicate, List.length_cons, List.length_nil, List.length_set, List.length_take, List.length_drop, true_and]; omega)) | exact cvB (fun w => rfl) | ((repeat' (first | exact rfl | exact cV_len _ | exact cV_ln rfl (by omega) | exact Cel.pos | omega | exact trivial | refine And.intro ?_ ?_)); done) | (simp [*]; done) | (simp; omega))) | refine q_clip (by rfl) clipG (by first | exact trivial | omega | exact cvB (fun w => rfl) | ((repeat (any_goals (first | exact rfl | exact cV_len _ | exact cV_ln rfl (by omega) | exact Cel.pos | omega | exact trivial | refine And.intro ?_ ?_))); first | done | fail) | (simp [*]; first | done | fail)) ?_)) | refine r_nt (by rfl) (by rfl) (by first | rfl | assumption | omega | (simp only [*, Bool.not_false, Bool.not_true]; first | done | fail) | (simp [*]; first | done | fail)) (by rfl) ?_ | refine r_nf (by rfl) (by rfl) (by first | rfl | assumption | omega | (simp only [*, Bool.not_false, Bool.not_true]; first | done | fail) | (simp [*]; first | done | fail)) (by rfl) ?_ | refine r_gu (by rfl) (by rfl) (by rfl) ?_ | refine r_nil ?_); (repeat (first | ((first | refine r_none ?_ | refine r_gt (by rfl) (by rfl) (by first | rfl | assumption | omega | (simp only [*, Bool.not_false, Bool.not_true]; first | done | fail) | (simp [*]; first | done | fail)) (by rfl) ?_ | refine r_gf (by rfl) (by rfl) (by first | rfl | assumption | omega | (simp only [*, Bool.not_false, Bool.not_true]; first | done | fail) | (simp [*]; first | done | fail)) (by rfl) ?_); (first | fail | ((first | (refine z_op (by rfl) ?_; first | refine z_ok ?_ ?_ | refine z_ex ?_ (by first | exact ft_raw rfl rfl | ((first | refine ft_rp rfl rfl rfl ?_ | refine ft_row rfl rfl rfl ?_ | refine ft_rpF rfl rfl rfl ?_ | refine ft_rowF rfl rfl rfl ?_ | refine up_row rfl rfl ?_ | refine up_rowF rfl rfl rfl ?_ | refine ct_0 rfl ?_ | refine ct_r rfl rfl ?_ | refine ct_c rfl rfl rfl ?_ | refine cu_all rfl ?_ | refine cu_to rfl ?_ | refine cu_from rfl ?_ | refine cu_p rfl ?_ | fail); (first | omega | (simp only [List.length_append, List.length_replicate, List.length_cons, List.length_nil, List.length_set, List.length_take, List.length_drop, true_and]; omega))) | exact up_raw rfl | exact pk_t (by first | rfl | assumption | omega | (simp only [*, Bool.not_false, Bool.not_true]; first | done | fail) | (simp [*]; first | done | fail)) rfl | exact pk_f (by first | rfl | assumption | omega | (simp only [*, Bool.not_false, Bool.not_true]; first | done | fail) | (simp [*]; first | done | fail)) rfl | exact rw_c Gt rfl | exact rw_raw | exact pu_cv (fun w => rfl) (by omega) | exact pu_of (fun w => rfl) rfl | exact be_of (fun w => rfl) | exact nc_of (fun _ _ _ _ => rfl) rfl | exact bu_of (fun w => rfl) rfl | fail) ?_) | ((first | refine q_callE wsTA wsZA (by rfl) ?_ | refine q_callVE wsTA (by rfl) (by rfl) ?_); refine ⟨_, _, _, (by first | assumption | exact k_alive | exact k_open _ (by omega)), _, by rfl, ?_, ?_⟩)); focus (first | exact trivial | fail | exact rfl | (first | omega | (simp only [List.length_append, List.length_replicate, List.length_cons, List.length_nil, List.length_set, List.length_take, List.length_drop, true_and]; omega)) | exact cvB (fun w => rfl) | ((repeat' (first | exact rfl | exact cV_len _ | exact cV_ln rfl (by omega) | exact Cel.pos | omega | exact trivial | refine And.intro ?_ ?_)); done) | (simp [*]; done) | (simp; omega))) | refine q_clip (by rfl) clipG (by first | exact trivial | omega | exact cvB (fun w => rfl) | ((repeat (any_goals (first | exact rfl | exact cV_len _ | exact cV_ln rfl (by omega) | exact Cel.pos | omega | exact trivial | refine And.intro ?_ ?_))); first | done | fail) | (simp [*]; first | done | fail)) ?_)) | refine r_nt (by rfl) (by rfl) (by first | rfl | assumption | omega | (simp only [*, Bool.not_false, Bool.not_true]; first | done | fail) | (simp [*]; first | done | fail)) (by rfl) ?_ | refine r_nf (by rfl) (by rfl) (by first | rfl | assumption | omega | (simp only [*, Bool.not_false, Bool.not_true]; first | done | fail) | (simp [*]; first | done | fail)) (by rfl) ?_ | refine r_gu (by rfl) (by rfl) (by rfl) ?_ | refine r_nil ?_)); exact hh.out)) : G := h ⟨k⟩
theorem gc_KNA {H G : Prop} (k : H) (h : Hid H → G := by (intro hh; (first | refine aw_seq ?_ | refine aw_ct (by rfl) (by first | rfl | assumption | omega | (simp only [*, Bool.not_false, Bool.not_true]; first | done | fail) | (simp [*]; first | done | fail)) ?_ | refine aw_cf (by rfl) (by first | rfl | assumption | omega | (simp only [*, Bool.not_false, Bool.not_true]; first | done | fail) | (simp [*]; first | done | fail)) ?_ | refine aw_block ?_ | refine aw_region T0ok cfU_ok (by rfl) ?_ | refine aw_skip ?_ | refine aw_exit ?_ | refine ra_step ?_); (repeat (first | refine aw_seq ?_ | refine aw_ct (by rfl) (by first | rfl | assumption | omega | (simp only [*, Bool.not_false, Bool.not_true]; first | done | fail) | (simp [*]; first | done | fail)) ?_ | refine aw_cf (by rfl) (by first | rfl | assumption | omega | (simp only [*, Bool.not_false, Bool.not_true]; first | done | fail) | (simp [*]; first | done | fail)) ?_ | refine aw_block ?_ | refine aw_region T0ok cfU_ok (by rfl) ?_ | refine aw_skip ?_ | refine aw_exit ?_ | refine ra_step ?_)); exact hh.out)) : G := h ⟨k⟩
theorem gd_KNA {H G : Prop} (k : H) (h : Hid H → G := by (intro hh; (refine aw_draw mixed T0ok cfU_ok [] (by rfl) (by kernel_rfl) ?_); exact hh.out)) : G := h ⟨k⟩
/-- The first j gates of l from its end. -/
def bkN (l : List Gt) : Nat → List Gt
  | 0 => []
  | j + 1 => bkN l j ++ [l.getD (l.length - 1 - j) Cel.no]
theorem bkN_len (l : List Gt) : ∀ j, (bkN l j).length = j
  | 0 => rfl
  | j + 1 => by rw [bkN, List.length_append, bkN_len l j]; rfl
theorem bkN_take (l : List Gt) : ∀ j, j ≤ l.length → bkN l j = l.reverse.take j
  | 0, _ => by simp [bkN]
  | j + 1, h => by
    have hj : j < l.reverse.length := by rw [List.length_reverse]; omega
    rw [bkN, bkN_take l j (by omega), List.take_succ_eq_append_getElem hj, List.getElem_reverse]
    congr 2
    rw [List.getD_eq_getElem?_getD, List.getElem?_eq_getElem (by omega)]; rfl
theorem bkN_all (l : List Gt) : bkN l l.length = l.reverse := by
  rw [bkN_take l _ (Nat.le_refl _), List.take_of_length_le (by rw [List.length_reverse]; exact Nat.le_refl _)]
theorem k_backS0 (n : Int) (l : List Gt) (hl : l.length ≤ 1000) (hr : -9223372036854775808 ≤ n ∧ n ≤ 9223372036854775807) (h : cokB n l = false) : Kon Try.prog 52 [vI n, roA l] [] (roA ([] : List Gt)) [] [] := by
  have hC := k_cvS n l (by omega) hr
  rw [h] at hC
  (refine kon_mk T0ok (fn := Try.f52) (c := Try.f52.body.get rfl) Try.func52 rfl (by rfl) (by rfl) (by rfl) ?_; intro hfit hfe)
  (repeat (first | refine gq_KNA ?_ | (refine ga_KNA ?_; intro _q ⟨_he, _hq⟩)))
  (refine aw_freeze 112 (by rfl) (by rfl) ?_; refine aw_slot 5 4 (by rfl) (by rfl) (by first | exact trivial | omega | exact cvB (fun w => rfl) | ((repeat (any_goals (first | exact rfl | exact cV_len _ | exact cV_ln rfl (by omega) | exact Cel.pos | omega | exact trivial | refine And.intro ?_ ?_))); first | done | fail) | (simp [*]; first | done | fail)) ?_)
  refine aw_unroll 3 ?_
  cases hd : decide ((l.length : Int) - 1 ≥ 0) with
  | true =>
    (repeat (first | refine gq_KNA ?_ | (refine ga_KNA ?_; intro _q ⟨_he, _hq⟩)))
    ((try refine aw_ret ?_); refine ret_auto2 (by rfl) (by rfl) (by rfl) (by repeat (first | exact trivial | refine ⟨by first | rfl | omega, ?_⟩)) ?_ (by repeat (first | exact trivial | refine ⟨by rfl, by rfl, ?_⟩)) (by repeat (first | exact trivial | refine ⟨by rfl, by rfl, ?_⟩)); try rfl)
  | false =>
    (repeat (first | refine gq_KNA ?_ | (refine ga_KNA ?_; intro _q ⟨_he, _hq⟩)))
    ((try refine aw_ret ?_); refine ret_auto2 (by rfl) (by rfl) (by rfl) (by repeat (first | exact trivial | refine ⟨by first | rfl | omega, ?_⟩)) ?_ (by repeat (first | exact trivial | refine ⟨by rfl, by rfl, ?_⟩)) (by repeat (first | exact trivial | refine ⟨by rfl, by rfl, ?_⟩)); try rfl)
theorem k_backS (n : Int) (l : List Gt) (hl : l.length ≤ 1000) (hr : -9223372036854775808 ≤ n ∧ n ≤ 9223372036854775807) (h : cokB n l = true) : Kon Try.prog 52 [vI n, roA l] [] (roA l.reverse) [] [] := by
  have hC := k_cvS n l (by omega) hr
  rw [h] at hC
  (refine kon_mk T0ok (fn := Try.f52) (c := Try.f52.body.get rfl) Try.func52 rfl (by rfl) (by rfl) (by rfl) ?_; intro hfit hfe)
  (repeat (first | refine gq_KNA ?_ | (refine ga_KNA ?_; intro _q ⟨_he, _hq⟩)))
  (refine aw_rd [0, 1, 4] [] (fun g : Nat × Int => [(5, .g (.one (.sl 112 g.1 (bkN l g.1).length))), (6, vI g.2)]) (fun g => [(112, (g.1, gRow (bkN l g.1)))]) (fun g => g.1 ≤ l.length ∧ g.2 = (l.length : Int) - 1 - (g.1 : Int)) (fun g => l.length - g.1) (0, (l.length : Int) - 1) (by rfl) (by rfl) ?_ (by rfl) (by repeat (first | exact trivial | refine ⟨by rfl, ?_⟩ | refine ⟨vI_of (by rfl) (by omega), ?_⟩)) (by repeat (first | exact trivial | refine ⟨by rfl, ?_⟩ | refine ⟨vI_of (by rfl) (by omega), ?_⟩)) ?_)
  · exact ⟨Nat.zero_le _, by simp⟩
  rintro ⟨j, i⟩ ⟨hj, hi⟩
  dsimp only at hj hi
  have hlj := bkN_len l j
  rcases Nat.lt_or_ge j l.length with h5 | h5
  · have hd : decide (i ≥ 0) = true := decide_eq_true (by omega)
    have e1 : i.toNat = l.length - 1 - j := by omega
    have e : bkN l (j + 1) = bkN l j ++ [l.getD i.toNat Cel.no] := by rw [e1]; rfl
    (repeat (first | refine gq_KNA ?_ | (refine ga_KNA ?_; intro _q ⟨_he, _hq⟩)))
    refine ⟨(j + 1, i - 1), ⟨h5, (by dsimp only; omega)⟩, ?_, (by first | omega | (dsimp only; omega))⟩
    dsimp only
    rw [e]
    exact ⟨by rfl, ⟨by rfl, (by repeat (first | exact trivial | refine ⟨by rfl, ?_⟩ | refine ⟨vI_of (by rfl) (by omega), ?_⟩))⟩, (by repeat (first | exact trivial | refine ⟨by rfl, ?_⟩ | refine ⟨vI_of (by rfl) (by omega), ?_⟩))⟩
  · obtain rfl : j = l.length := by omega
    have hd : decide (i ≥ 0) = false := decide_eq_false (by omega)
    have eb := bkN_all l
    dsimp only
    rw [eb]
    (refine aw_freeze 112 (by rfl) (by rfl) ?_; refine aw_slot 5 4 (by rfl) (by rfl) (by first | exact trivial | omega | exact cvB (fun w => rfl) | ((repeat (any_goals (first | exact rfl | exact cV_len _ | exact cV_ln rfl (by omega) | exact Cel.pos | omega | exact trivial | refine And.intro ?_ ?_))); first | done | fail) | (simp [*]; first | done | fail)) ?_)
    (repeat (first | refine gq_KNA ?_ | (refine ga_KNA ?_; intro _q ⟨_he, _hq⟩)))
    ((try refine aw_ret ?_); refine ret_auto2 (by rfl) (by rfl) (by rfl) (by repeat (first | exact trivial | refine ⟨by first | rfl | omega, ?_⟩)) ?_ (by repeat (first | exact trivial | refine ⟨by rfl, by rfl, ?_⟩)) (by repeat (first | exact trivial | refine ⟨by rfl, by rfl, ?_⟩)); try rfl)
theorem k_join (n : Int) (x y : List Gt) (hx : cokB n x = true) (hy : cokB n y = true) (hl : x.length + y.length ≤ 24) : Kon Try.prog 53 [vI n, roA x, roA y] [] (.tup [.one (.sl 0 0 (x ++ y).length), .one (.v (.bool true))]) [gRow (x ++ y)] [] := by
  have hx24 := (cokB_t hx).2.1
  have hy24 := (cokB_t hy).2.1
  have hC := k_cv n x (by omega)
  have hD := k_cv n y (by omega)
  rw [hx] at hC
  rw [hy] at hD
  have hd : decide ((x.length : Int) + (y.length : Int) > 24) = false := decide_eq_false (by omega)
  (refine kon_mk T0ok (fn := Try.f53) (c := Try.f53.body.get rfl) Try.func53 rfl (by rfl) (by rfl) (by rfl) ?_; intro hfit hfe)
  (repeat refine gc_KNA ?_)
  (repeat (first | refine gs_KNA ?_ | (refine ga_KNA ?_; intro _q ⟨_he, _hq⟩)))
  (repeat refine gc_KNA ?_)
  (repeat (first | refine gs_KNA ?_ | (refine ga_KNA ?_; intro _q ⟨_he, _hq⟩)))
  repeat (first | refine wx_region ?_ | refine aw_seq ?_ | refine aw_cf (by rfl) (by first | rfl | assumption | omega | (simp only [*, Bool.not_false, Bool.not_true]; first | done | fail) | (simp [*]; first | done | fail)) ?_ | refine ra_step ?_ | refine aw_skip ?_ | refine aw_block ?_ | refine aw_exit ?_)
  refine wx_run 2 T0ok cfU_ok (by rfl) ?_
  (repeat (first | refine gs_KNA ?_ | (refine ga_KNA ?_; intro _q ⟨_he, _hq⟩)))
  refine wx_concat (x := x) (y := y) (by rfl) (by rfl) (by rfl) ⟨by omega, by omega⟩ (by rfl) ?_
  refine wx_end T0ok cfU_ok (i := 4) (by rfl) ?_
  (repeat (first | refine gq_KNA ?_ | (refine ga_KNA ?_; intro _q ⟨_he, _hq⟩)))
  ((try refine aw_ret ?_); refine ret_auto2 (by rfl) (by rfl) (by rfl) (by repeat (first | exact trivial | refine ⟨by first | rfl | omega, ?_⟩)) ?_ (by repeat (first | exact trivial | refine ⟨by rfl, by rfl, ?_⟩)) (by repeat (first | exact trivial | refine ⟨by rfl, by rfl, ?_⟩)); try rfl)
theorem k_join0 (n : Int) (x y : List Gt) (hx : cokB n x = true) (hy : cokB n y = true) (hl : 24 < x.length + y.length) : Kon Try.prog 53 [vI n, roA x, roA y] [] (.tup [.one (.v (.slice none 0 0)), .one (.v (.bool false))]) [] [] := by
  have hx24 := (cokB_t hx).2.1
  have hy24 := (cokB_t hy).2.1
  have hC := k_cv n x (by omega)
  have hD := k_cv n y (by omega)
  rw [hx] at hC
  rw [hy] at hD
  have hd : decide ((x.length : Int) + (y.length : Int) > 24) = true := decide_eq_true (by omega)
  (refine kon_mk T0ok (fn := Try.f53) (c := Try.f53.body.get rfl) Try.func53 rfl (by rfl) (by rfl) (by rfl) ?_; intro hfit hfe)
  (repeat (first | refine gq_KNA ?_ | (refine ga_KNA ?_; intro _q ⟨_he, _hq⟩)))
  ((try refine aw_ret ?_); refine ret_auto2 (by rfl) (by rfl) (by rfl) (by repeat (first | exact trivial | refine ⟨by first | rfl | omega, ?_⟩)) ?_ (by repeat (first | exact trivial | refine ⟨by rfl, by rfl, ?_⟩)) (by repeat (first | exact trivial | refine ⟨by rfl, by rfl, ?_⟩)); try rfl)
theorem ex_dCB (l : List UInt8) (hl : l.length ≤ 100000000) : ∃ (L : Int) (cs : List Gt), (-1 ≤ L ∧ L ≤ 9) ∧ cs.length ≤ 31 ∧ (∀ g ∈ cs, gtb g) ∧ Kon Try.prog 50 [roA l] [] (.tup [.one (.v (.int .i64 L)), .one (.sl 0 0 cs.length)]) [gRow cs] [] := by
  have h2 : (l.take 2000).length ≤ 2000 := by simp; omega
  obtain ⟨L, cs, c', h3, h4, h5, h6, hK⟩ := ex_lined (l.take 2000) 0 9 (by omega) (by omega)
  refine ⟨L, cs, h3, h4, h5, ?_⟩
  (refine kon_mk T0ok (fn := Try.f50) (c := Try.f50.body.get rfl) Try.func50 rfl (by rfl) (by rfl) (by rfl) ?_; intro hfit hfe)
  (repeat (first | refine gq_KNA ?_ | (refine ga_KNA ?_; intro _q ⟨_he, _hq⟩)))
  ((try refine aw_ret ?_); refine ret_auto2 (by rfl) (by rfl) (by rfl) (by repeat (first | exact trivial | refine ⟨by first | rfl | omega, ?_⟩)) ?_ (by repeat (first | exact trivial | refine ⟨by rfl, by rfl, ?_⟩)) (by repeat (first | exact trivial | refine ⟨by rfl, by rfl, ?_⟩)); try rfl)
set_option maxHeartbeats 4000000 in
theorem k_lawCB (l : List UInt8) : Kon Try.prog 11 [roA l] [] (vB true) [] [] := by
  rcases Nat.lt_or_ge 1048576 l.length with h0 | h0
  · have hd : decide ((l.length : Int) > 1048576) = true := decide_eq_true (by omega)
    (refine kon_mk T0ok (fn := Try.f11) (c := Try.f11.body.get rfl) Try.func11 rfl (by rfl) (by rfl) (by rfl) ?_; intro hfit hfe)
    (repeat (first | refine gq_KNA ?_ | (refine ga_KNA ?_; intro _q ⟨_he, _hq⟩)))
    ((try refine aw_ret ?_); refine ret_auto2 (by rfl) (by rfl) (by rfl) (by repeat (first | exact trivial | refine ⟨by first | rfl | omega, ?_⟩)) ?_ (by repeat (first | exact trivial | refine ⟨by rfl, by rfl, ?_⟩)) (by repeat (first | exact trivial | refine ⟨by rfl, by rfl, ?_⟩)); try rfl)
  have hd : decide ((l.length : Int) > 1048576) = false := decide_eq_false (by omega)
  obtain ⟨L, cs, hL, hcl, _, hD⟩ := ex_dCB l (by omega)
  have hC := k_cvS L cs (by omega) (by omega)
  cases hc : cokB L cs with
  | false =>
    have hI := k_back0 L cs (by omega) hc
    have hS := k_backS0 L cs (by omega) (by omega) hc
    have q0 : Kon Try.prog 26 [.g (.one (.ro 4 0 [])), .g (.one (.ro 4 0 []))] [] (vB true) [] [] := k_sg [] (by decide)
    rw [hc] at hC
    (refine kon_mk T0ok (fn := Try.f11) (c := Try.f11.body.get rfl) Try.func11 rfl (by rfl) (by rfl) (by rfl) ?_; intro hfit hfe)
    (repeat (first | refine gq_KNA ?_ | (refine ga_KNA ?_; intro _q ⟨_he, _hq⟩)))
    (repeat (first | refine gq_KNA ?_ | (refine ga_KNA ?_; intro _q ⟨_he, _hq⟩) | refine gd_KNA ?_))
    ((try refine aw_ret ?_); refine ret_auto2 (by rfl) (by rfl) (by rfl) (by repeat (first | exact trivial | refine ⟨by first | rfl | omega, ?_⟩)) ?_ (by repeat (first | exact trivial | refine ⟨by rfl, by rfl, ?_⟩)) (by repeat (first | exact trivial | refine ⟨by rfl, by rfl, ?_⟩)); try rfl)
  | true =>
    obtain ⟨hn, hl24, ha⟩ := cokB_t hc
    have har : cs.reverse.all (gok L) = true := by rw [List.all_reverse]; exact ha
    have hrl : cs.reverse.length = cs.length := List.length_reverse
    have hcr : cokB L cs.reverse = true := cokB_mk3 hn (by omega) har
    have hI := k_back L cs (by omega) hc
    have hB := k_back L cs.reverse (by omega) hcr
    rw [List.reverse_reverse] at hB
    have hS := k_backS L cs (by omega) (by omega) hc
    have hG := k_sg cs.reverse (by omega)
    have hG2 := k_sg cs (by omega)
    rw [hc] at hC
    rcases Nat.lt_or_ge 24 (cs.length + cs.reverse.length) with h7 | h7
    · have hJ := k_join0 L cs cs.reverse hc hcr h7
      generalize cs.reverse = X at *
      (refine kon_mk T0ok (fn := Try.f11) (c := Try.f11.body.get rfl) Try.func11 rfl (by rfl) (by rfl) (by rfl) ?_; intro hfit hfe)
      (repeat (first | refine gq_KNA ?_ | (refine ga_KNA ?_; intro _q ⟨_he, _hq⟩)))
      (repeat (first | refine gq_KNA ?_ | (refine ga_KNA ?_; intro _q ⟨_he, _hq⟩) | refine gd_KNA ?_))
      (repeat (first | refine gq_KNA ?_ | (refine ga_KNA ?_; intro _q ⟨_he, _hq⟩)))
      ((try refine aw_ret ?_); refine ret_auto2 (by rfl) (by rfl) (by rfl) (by repeat (first | exact trivial | refine ⟨by first | rfl | omega, ?_⟩)) ?_ (by repeat (first | exact trivial | refine ⟨by rfl, by rfl, ?_⟩)) (by repeat (first | exact trivial | refine ⟨by rfl, by rfl, ?_⟩)); try rfl)
    · have hJ := k_join L cs cs.reverse hc hcr h7
      have hja : (cs ++ cs.reverse).all (gok L) = true := by rw [List.all_append, ha, har]; rfl
      have hjc : cokB L (cs ++ cs.reverse) = true := cokB_mk3 hn (by rw [List.length_append]; omega) hja
      have hM := k_same L (cs ++ cs.reverse) [] hjc (cokB_mk3 hn (by decide) rfl) (fun w hw => by rw [cr_append, cr_back ha hw]; rfl)
      generalize cs ++ cs.reverse = Y at *
      generalize cs.reverse = X at *
      (refine kon_mk T0ok (fn := Try.f11) (c := Try.f11.body.get rfl) Try.func11 rfl (by rfl) (by rfl) (by rfl) ?_; intro hfit hfe)
      (repeat (first | refine gq_KNA ?_ | (refine ga_KNA ?_; intro _q ⟨_he, _hq⟩)))
      (repeat (first | refine gq_KNA ?_ | (refine ga_KNA ?_; intro _q ⟨_he, _hq⟩) | refine gd_KNA ?_))
      (repeat (first | refine gq_KNA ?_ | (refine ga_KNA ?_; intro _q ⟨_he, _hq⟩)))
      ((try refine aw_ret ?_); refine ret_auto2 (by rfl) (by rfl) (by rfl) (by repeat (first | exact trivial | refine ⟨by first | rfl | omega, ?_⟩)) ?_ (by repeat (first | exact trivial | refine ⟨by rfl, by rfl, ?_⟩)) (by repeat (first | exact trivial | refine ⟨by rfl, by rfl, ?_⟩)); try rfl)
end Go.Proofs.Yteagoafamjbpbaa

/- How arguments that came in read: slices of whatever elements. -/
namespace Go.Proofs.Yteagoafamjbpbaa
set_option linter.unusedVariables false
set_option linter.unusedSimpArgs false
open Go.ChangeShapes Go.WideShapes Go.ChangeAt Go.RowKit Go.Joins Go.Deep

theorem own : ownKnob Try.prog.godebug = none := by kernel_rfl
theorem laidOut : laidOutB Try.prog = true := by kernel_rfl
/-- The frame of a row's proof, from its walk: the arguments opened by the caller. -/
theorem row_end {H : Type} {enc : TypeId × Value → H} {W : World} {t : TypeId} {v : Value} {d : DataW H} {p : List MemPlace} (h : DataW.Trod enc Try.prog W 0 (fun _ => true) true t v d p) : ∀ x ∈ p, x.block < W.heap.size := by
  obtain ⟨m, hm⟩ := h; exact DataW.trod_lt m _ _ _ hm
theorem add_plain (b off j : Nat) : (⟨b, off, none⟩ : Addr).add j = ⟨b, off + j, none⟩ := by
  unfold Addr.add; split <;> simp_all
theorem list_of {α : Type} (p : Nat → α → Prop) (n : Nat) (h : ∀ j, j < n → ∃ v, p j v) : ∃ l : List α, l.length = n ∧ ∀ j (hj : j < l.length), p j l[j] := by
  induction n with
  | zero => exact ⟨[], rfl, fun j hj => by simp at hj⟩
  | succ n ih =>
    obtain ⟨l, hl, hp⟩ := ih fun j hj => h j (by omega)
    obtain ⟨v, hv⟩ := h n (by omega)
    refine ⟨l ++ [v], by simp [hl], fun j hj => ?_⟩
    by_cases hlt : j < l.length
    · rw [List.getElem_append_left hlt]; exact hp j hlt
    · have e : j = l.length := by simp at hj; omega
      subst e
      simp [hl, hv]
section
variable {H : Type} {enc : TypeId × Value → H} {P : Program} {w : World} {α : Type} [Cel α]
/-- Cells of a type are those of an element. -/
def OpensC (enc : TypeId × Value → H) (P : Program) (w : World) (e : TypeId) (α : Type) [Cel α] : Prop := ∀ n cs x, DataW.trod enc P w 0 (fun _ => true) true n e cs = some x → ∃ a : α, cs = Cel.f a
theorem mapM_get {α β : Type} {f : α → Option β} : ∀ {l : List α} {r : List β}, l.mapM f = some r → r.length = l.length ∧ ∀ (j : Nat) (x : α), l[j]? = some x → ∃ y, r[j]? = some y ∧ f x = some y
  | [], r, h => by
    simp at h; subst h; exact ⟨rfl, fun j x hj => by simp at hj⟩
  | a :: l, r, h => by
    rw [List.mapM_cons] at h
    cases ha : f a with
    | none => simp [ha] at h
    | some y =>
      cases hl : l.mapM f with
      | none => simp [ha, hl] at h
      | some r' =>
        simp [ha, hl] at h
        subst h
        obtain ⟨h1, h2⟩ := mapM_get hl
        refine ⟨by simp [h1], fun j x hj => ?_⟩
        cases j with
        | zero => simp at hj; subst hj; exact ⟨y, rfl, ha⟩
        | succ j => obtain ⟨z, hz, hf⟩ := h2 j x (by simpa using hj); exact ⟨z, by simpa using hz, hf⟩
theorem ro_of_trod {t e : TypeId} {fuel : Nat} {v : Value} {y : DataW H × List MemPlace} (ht : P.underlying t = some (.slice e)) (hc : P.cellsOf e = Cel.sz α) (ho : OpensC enc P w e α)
    (h : DataW.trod enc P w 0 (fun _ => true) true fuel t [v] = some y) : ∃ l : List α, Rep0 w (.g (.one (.ro (Cel.sz α) l.length (cV l)))) v := by
  rcases open_slice ht h with ⟨hcs, _⟩ | ⟨a, len, cap, m, n, D, Pl, hcs, _, hl, hm, hmm, rfl, hx⟩
  · simp at hcs
    subst hcs
    exact ⟨[], ⟨by simp, rfl⟩, none, 0, rfl, Nat.le_refl _, by unfold maxLen; omega, fun h => absurd h (Nat.lt_irrefl _)⟩
  · simp at hcs
    subst hcs
    simp at hmm
    subst hmm
    rw [hc] at hx
    obtain ⟨l, hll, hlp⟩ := list_of (fun j (u : α) => w.cells? 0 (a.add (j * Cel.sz α)) (Cel.sz α) = some (Cel.f u)) len fun j hj => by
      obtain ⟨cs', h1, h2⟩ := hx j (by omega)
      obtain ⟨u, rfl⟩ := ho _ _ _ h2
      exact ⟨u, h1⟩
    have hcell : ∀ (j o : Nat) (hj : j < l.length) (ho : o < Cel.sz α), ∃ x, (Cel.f l[j])[o]? = some x ∧ w.cell? ((a.add (j * Cel.sz α)).add o) = some x := by
      intro j o hj ho
      have h1 := hlp j hj
      unfold World.cells? at h1
      rw [if_pos (Nat.zero_le _)] at h1
      obtain ⟨_, h2⟩ := mapM_get h1
      obtain ⟨x, h3, h4⟩ := h2 o o (by simp [ho])
      exact ⟨x, h3, h4⟩
    refine ⟨l, ⟨by rw [cV_len], cV_one l⟩, some a, m, by rw [hll], by omega, hm, fun hn => ?_⟩
    obtain ⟨b, off, spot⟩ := a
    have hspot : spot = none := by
      obtain ⟨x, _, h2⟩ := hcell 0 0 hn Cel.pos
      have := World.cell?_spot h2
      simpa [Addr.add] using this
    subst hspot
    refine ⟨b, off, rfl, ?_, fun j x hj => ?_⟩
    · obtain ⟨x, _, h2⟩ := hcell 0 0 hn Cel.pos
      rw [add_plain, add_plain] at h2
      exact World.block_lt_of_cell? w _ h2
    · have hpos : 0 < Cel.sz α := Cel.pos
      have hlt : j < l.length * Cel.sz α := by rw [← cV_len]; exact (List.getElem?_eq_some_iff.1 hj).1
      have hdm := Nat.div_add_mod j (Cel.sz α)
      have hml := Nat.mod_lt j hpos
      have hdl : j / Cel.sz α < l.length := Nat.div_lt_of_lt_mul (by rw [Nat.mul_comm]; exact hlt)
      obtain ⟨y, h1, h2⟩ := hcell (j / Cel.sz α) (j % Cel.sz α) hdl hml
      rw [add_plain, add_plain] at h2
      have e1 : l.getD (j / Cel.sz α) Cel.no = l[j / Cel.sz α] := by simp [List.getD_eq_getElem?_getD, hdl]
      have h3 := cV_cell (l := l) (j := j / Cel.sz α) (o := j % Cel.sz α) (v := y) hdl (by rw [e1]; exact h1)
      have e2 : j / Cel.sz α * Cel.sz α + j % Cel.sz α = j := by rw [Nat.mul_comm]; exact hdm
      rw [e2, hj] at h3
      cases h3
      rw [show off + j = off + j / Cel.sz α * Cel.sz α + j % Cel.sz α by omega]
      exact h2
end
section
variable {H : Type} {enc : TypeId × Value → H} {P : Program} {w : World}
theorem opens_byte {e : TypeId} (he : P.underlying e = some (.int .u8)) : OpensC enc P w e UInt8 := by
  intro n cs x h
  obtain ⟨k, h1, _, hw⟩ := DataW.trod_int he h
  have h2 : 0 ≤ k ∧ k < 256 := by
    simp [Lit.wf, IntKind.min, IntKind.max, IntKind.signed, IntKind.bits] at hw
    omega
  refine ⟨UInt8.ofNat k.toNat, ?_⟩
  rw [h1]
  show [Value.int .u8 k] = [Value.int .u8 ((UInt8.ofNat k.toNat).toNat : Int)]
  simp only [UInt8.toNat_ofNat']
  rw [Nat.mod_eq_of_lt (by omega)]
  congr 2
  omega
theorem slice_shape {e t : TypeId} {v : Value} {d : DataW H} {ps : List MemPlace} {r : Reach} {b0 : Nat} (ht : P.underlying t = some (.slice e)) (hval : Value.okWide P w r b0 t v) (h : DataW.Trod enc P w 0 (fun _ => true) true t v d ps) : ∃ fuel y, DataW.trod enc P w 0 (fun _ => true) true fuel t [v] = some y := by
  obtain ⟨A, n, c, rfl⟩ := okWide_slice ht hval
  obtain ⟨fuel, hf⟩ := h
  exact ⟨fuel, _, hf⟩
/-- Bytes that came in. -/
theorem bytes_of_trod {e t : TypeId} {v : Value} {d : DataW H} {ps : List MemPlace} {r : Reach} {b0 : Nat} (ht : P.underlying t = some (.slice e)) (he : P.underlying e = some (.int .u8)) (hc : P.cellsOf e = 1) (hval : Value.okWide P w r b0 t v) (h : DataW.Trod enc P w 0 (fun _ => true) true t v d ps) :
    ∃ l : List UInt8, Rep0 w (roA l) v := by
  obtain ⟨fuel, y, hf⟩ := slice_shape ht hval h
  exact ro_of_trod (α := UInt8) ht hc (opens_byte he) hf
end
section
variable {H : Type} {enc : TypeId × Value → H} {P : Program} {w : World}
end
/-- A law answers true and leaves what was there, by its contract. -/
theorem law_of_kon {P : Program} {f : FuncId} {aa : List AV} (h : Kon P f aa [] (vB true) [] []) {vs : Array Value} {w : World} (hs : vs.size = aa.length) (hr : ∀ (j : Nat) (a : AV), aa[j]? = some a → ∃ z, vs[j]? = some z ∧ Rep0 w a z) :
    Calls P f vs w fun e w' => e = .returned (.bool true) ∧ Below w.heap.size w w' := by
  obtain ⟨C, hC, hCe⟩ := h
  exact law_run hC hCe hs hr
end Go.Proofs.Yteagoafamjbpbaa
