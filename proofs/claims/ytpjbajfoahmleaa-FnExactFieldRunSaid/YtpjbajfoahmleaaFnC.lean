/- Fields turned. -/
import Derived.Test.YtpjbajfoahmleaaFnB
namespace Go.Proofs.Ytpjbajfoahmleaa
set_option linter.unusedVariables false
set_option linter.unusedSimpArgs false
set_option maxRecDepth 20000
open Go.RowKit
attribute [local irreducible] runA runX AW
abbrev plV (x y : Int) : AV := .g (.agg [.v (.int .i64 x), .v (.int .i64 y)])
def inI (x y n : Int) : Int := (y + n) % n * n + (x + n) % n
structure InG where
  x : Int
  y : Int
  n : Int
  h : 1 ≤ n ∧ n ≤ 8 ∧ -n ≤ x ∧ x ≤ 100 ∧ -n ≤ y ∧ y ≤ 100
noncomputable def cIn : Fn3 := cOf (fun g : InG => ([plV g.x g.y, vI g.n], [])) (fun g => (vI (inI g.x g.y g.n), [], []))
theorem cIn_at (x y n : Int) (h : 1 ≤ n ∧ n ≤ 8 ∧ -n ≤ x ∧ x ≤ 100 ∧ -n ≤ y ∧ y ≤ 100) : cIn [.g (.agg [.v (.int .i64 x), .v (.int .i64 y)]), vI n] [] = some (vI (inI x y n), [], []) := cOf_at (fun g g' h => by simp at h; obtain ⟨⟨h1, h2⟩, h3⟩ := h; simp [h1, h2, h3]) (⟨x, y, n, h⟩ : InG)
theorem con_in : ConOk Try.prog 66 cIn := by
  (refine con_cOf T0ok (fn := Try.f66) (c := Try.f66.body.get rfl) Try.func66 rfl (by rfl) ?_)
  rintro ⟨x, y, n, h⟩ _ _
  refine ⟨by rfl, rfl, ?_⟩
  dsimp only
  have h1 : 0 ≤ (y + n) % n ∧ (y + n) % n < n := ⟨Int.emod_nonneg _ (by omega), Int.emod_lt_of_pos _ (by omega)⟩
  have h2 : 0 ≤ (x + n) % n ∧ (x + n) % n < n := ⟨Int.emod_nonneg _ (by omega), Int.emod_lt_of_pos _ (by omega)⟩
  have h3 : 0 ≤ (y + n) % n * n ∧ (y + n) % n * n ≤ 64 := ⟨Int.mul_nonneg h1.1 (by omega), Int.le_trans (Int.mul_le_mul (by omega : (y + n) % n ≤ 8) h.2.1 (by omega) (by omega)) (by omega)⟩
  (repeat (first | (first | ((first | refine r_none ?_ | refine r_gt (by rfl) (by rfl) (by first | rfl | assumption | omega | (simp [*]; first | done | fail)) (by rfl) ?_ | refine r_gf (by rfl) (by rfl) (by first | rfl | assumption | omega | (simp [*]; first | done | fail)) (by rfl) ?_); (first | (first | refine r_rem (by rfl) (by rfl) (by omega) (by omega) (by rfl) ?_ | refine r_quo (by rfl) (by rfl) (by omega) (by omega) (by rfl) ?_ | refine r_bit (by rfl) (by rfl) (by rfl) (by omega) (by omega) (by rfl) ?_ | refine r_shl (by rfl) (by rfl) (by omega) rfl (by first | omega | (simp; omega)) (by rfl) ?_ | refine r_pure2 (by rfl) (by rfl) (fun w => eq_place _ _ _ _ _ _ w) (by rfl) (by rfl) ?_) | ((first | (refine z_op (by rfl) ?_; first | refine z_ok ?_ ?_ | refine z_ex ?_ (by first | exact ft_raw rfl rfl | ((first | refine ft_rp rfl rfl rfl ?_ | refine ft_row rfl rfl rfl ?_ | refine ft_rpF rfl rfl rfl ?_ | refine ft_rowF rfl rfl rfl ?_ | refine up_row rfl rfl ?_ | refine up_rowF rfl rfl rfl ?_ | refine ct_0 rfl ?_ | refine ct_r rfl rfl ?_ | refine ct_c rfl rfl rfl ?_ | refine cu_all rfl ?_ | refine cu_to rfl ?_ | refine cu_from rfl ?_ | refine cu_p rfl ?_ | refine mk_0 Int rfl rfl ?_ | refine mk_c Int rfl rfl rfl ?_ | refine mk_c Bool rfl rfl rfl ?_); (first | omega | (simp only [List.length_append, List.length_replicate, List.length_cons, List.length_nil, List.length_set, List.length_take, List.length_drop, true_and]; omega))) | exact up_raw rfl | exact pk_t (by first | rfl | assumption | omega | (simp [*]; first | done | fail)) rfl | exact pk_f (by first | rfl | assumption | omega | (simp [*]; first | done | fail)) rfl | exact rw_c Int rfl | exact rw_c Bool rfl | exact rw_raw | exact pu_cv (fun w => rfl) (by omega) | exact pu_of (fun w => rfl) rfl | exact be_of (fun w => rfl) | exact nc_of (fun _ _ _ _ => rfl) rfl | exact bu_of (fun w => rfl) rfl | fail) ?_ | refine z_al ?_ (fun _q ⟨_he, _hq⟩ => ?_)) | ((first | refine q_callE wsT wsZ (by rfl) ?_ | refine q_callVE wsT (by rfl) (by rfl) ?_); refine ⟨_, _, _, (by first | exact Kon.of con_in (cIn_at _ _ _ (by omega)) | exact Kon.of con_turn1 (cTurn1_at _ _ _ _ _ ⟨by first | assumption | omega, by omega, by omega⟩)), _, by rfl, ?_, ?_⟩)); focus (first | exact trivial | exact rfl | (first | omega | (simp only [List.length_append, List.length_replicate, List.length_cons, List.length_nil, List.length_set, List.length_take, List.length_drop, true_and]; omega)) | exact cvB (fun w => rfl) | ((repeat' (first | exact rfl | exact cV_len _ | exact cV_ln rfl (by omega) | exact Cel.pos | omega | exact trivial | refine And.intro ?_ ?_)); done) | (simp [*]; done) | (simp; omega))) | fail)) | refine r_nt (by rfl) (by rfl) (by first | rfl | assumption | omega | (simp [*]; first | done | fail)) (by rfl) ?_ | refine r_nf (by rfl) (by rfl) (by first | rfl | assumption | omega | (simp [*]; first | done | fail)) (by rfl) ?_ | refine r_nil ?_) | (first | refine aw_seq ?_ | refine aw_ct (by rfl) (by first | rfl | assumption | omega | (simp [*]; first | done | fail)) ?_ | refine aw_cf (by rfl) (by first | rfl | assumption | omega | (simp [*]; first | done | fail)) ?_ | refine aw_block ?_ | refine aw_region T0ok cfU_ok (by rfl) ?_ | refine aw_skip ?_ | refine aw_exit ?_ | refine ra_step ?_)))
  (refine aw_draw mixed T0ok cfU_ok [] (by rfl) (by kernel_rfl) ?_)
  (repeat (first | (first | ((first | refine r_none ?_ | refine r_gt (by rfl) (by rfl) (by first | rfl | assumption | omega | (simp [*]; first | done | fail)) (by rfl) ?_ | refine r_gf (by rfl) (by rfl) (by first | rfl | assumption | omega | (simp [*]; first | done | fail)) (by rfl) ?_); (first | (first | refine r_rem (by rfl) (by rfl) (by omega) (by omega) (by rfl) ?_ | refine r_quo (by rfl) (by rfl) (by omega) (by omega) (by rfl) ?_ | refine r_bit (by rfl) (by rfl) (by rfl) (by omega) (by omega) (by rfl) ?_ | refine r_shl (by rfl) (by rfl) (by omega) rfl (by first | omega | (simp; omega)) (by rfl) ?_ | refine r_pure2 (by rfl) (by rfl) (fun w => eq_place _ _ _ _ _ _ w) (by rfl) (by rfl) ?_) | ((first | (refine z_op (by rfl) ?_; first | refine z_ok ?_ ?_ | refine z_ex ?_ (by first | exact ft_raw rfl rfl | ((first | refine ft_rp rfl rfl rfl ?_ | refine ft_row rfl rfl rfl ?_ | refine ft_rpF rfl rfl rfl ?_ | refine ft_rowF rfl rfl rfl ?_ | refine up_row rfl rfl ?_ | refine up_rowF rfl rfl rfl ?_ | refine ct_0 rfl ?_ | refine ct_r rfl rfl ?_ | refine ct_c rfl rfl rfl ?_ | refine cu_all rfl ?_ | refine cu_to rfl ?_ | refine cu_from rfl ?_ | refine cu_p rfl ?_ | refine mk_0 Int rfl rfl ?_ | refine mk_c Int rfl rfl rfl ?_ | refine mk_c Bool rfl rfl rfl ?_); (first | omega | (simp only [List.length_append, List.length_replicate, List.length_cons, List.length_nil, List.length_set, List.length_take, List.length_drop, true_and]; omega))) | exact up_raw rfl | exact pk_t (by first | rfl | assumption | omega | (simp [*]; first | done | fail)) rfl | exact pk_f (by first | rfl | assumption | omega | (simp [*]; first | done | fail)) rfl | exact rw_c Int rfl | exact rw_c Bool rfl | exact rw_raw | exact pu_cv (fun w => rfl) (by omega) | exact pu_of (fun w => rfl) rfl | exact be_of (fun w => rfl) | exact nc_of (fun _ _ _ _ => rfl) rfl | exact bu_of (fun w => rfl) rfl | fail) ?_ | refine z_al ?_ (fun _q ⟨_he, _hq⟩ => ?_)) | ((first | refine q_callE wsT wsZ (by rfl) ?_ | refine q_callVE wsT (by rfl) (by rfl) ?_); refine ⟨_, _, _, (by first | exact Kon.of con_in (cIn_at _ _ _ (by omega)) | exact Kon.of con_turn1 (cTurn1_at _ _ _ _ _ ⟨by first | assumption | omega, by omega, by omega⟩)), _, by rfl, ?_, ?_⟩)); focus (first | exact trivial | exact rfl | (first | omega | (simp only [List.length_append, List.length_replicate, List.length_cons, List.length_nil, List.length_set, List.length_take, List.length_drop, true_and]; omega)) | exact cvB (fun w => rfl) | ((repeat' (first | exact rfl | exact cV_len _ | exact cV_ln rfl (by omega) | exact Cel.pos | omega | exact trivial | refine And.intro ?_ ?_)); done) | (simp [*]; done) | (simp; omega))) | fail)) | refine r_nt (by rfl) (by rfl) (by first | rfl | assumption | omega | (simp [*]; first | done | fail)) (by rfl) ?_ | refine r_nf (by rfl) (by rfl) (by first | rfl | assumption | omega | (simp [*]; first | done | fail)) (by rfl) ?_ | refine r_nil ?_) | (first | refine aw_seq ?_ | refine aw_ct (by rfl) (by first | rfl | assumption | omega | (simp [*]; first | done | fail)) ?_ | refine aw_cf (by rfl) (by first | rfl | assumption | omega | (simp [*]; first | done | fail)) ?_ | refine aw_block ?_ | refine aw_region T0ok cfU_ok (by rfl) ?_ | refine aw_skip ?_ | refine aw_exit ?_ | refine ra_step ?_)))
  (refine aw_ret (ret_of [] (by rfl) (by rfl) ?_ trivial trivial))
  rfl
abbrev Fld.cs (f : Fld) : List AC := [.v (.int .i64 f.s), .ro 1 f.l.length (bV f.l), .v (.bool f.b)]
theorem Fld.cs_inj {f f' : Fld} (h : f.cs = f'.cs) : f = f' := Fld.v_inj (by show AV.g (.agg f.cs) = AV.g (.agg f'.cs); rw [h])
/-- Where a place goes when the field is turned. -/
def movT (s : Int) (i : Nat) : Nat := (inI (s - 1 - (i : Int) / s) ((i : Int) % s) s).toNat
def mvd (s : Int) (l : List Bool) : Nat → List Bool
  | 0 => List.replicate l.length false
  | i + 1 => if l.getD i false = true then (mvd s l i).set (movT s i) true else mvd s l i
theorem mvd_len (s : Int) (l : List Bool) : ∀ i, (mvd s l i).length = l.length
  | 0 => by simp [mvd]
  | i + 1 => by
    unfold mvd
    split
    · simp [mvd_len s l i]
    · exact mvd_len s l i
theorem Fld.ok_facts {s : Int} {l : List Bool} {b : Bool} (h : Fld.ok ⟨s, l, b⟩ = true) : (2 ≤ s ∧ s ≤ 8) ∧ s % 2 = 0 ∧ (l.length : Int) = s * s ∧ l.length ≤ 64 ∧ cntB l ≤ 12 := by
  simp only [Fld.ok, btw, Bool.and_eq_true, decide_eq_true_eq, beq_iff_eq] at h
  obtain ⟨⟨⟨h1, h2⟩, h3⟩, h4⟩ := h
  have h5 : s = 2 ∨ s = 4 ∨ s = 6 ∨ s = 8 := by omega
  refine ⟨by omega, h2, h3, ?_, h4⟩
  rcases h5 with rfl | rfl | rfl | rfl <;> omega
theorem inI_lt {x y n : Int} (h : 1 ≤ n) : 0 ≤ inI x y n ∧ inI x y n < n * n := by
  unfold inI
  have h1 : 0 ≤ (y + n) % n ∧ (y + n) % n < n := ⟨Int.emod_nonneg _ (by omega), Int.emod_lt_of_pos _ (by omega)⟩
  have h2 : 0 ≤ (x + n) % n ∧ (x + n) % n < n := ⟨Int.emod_nonneg _ (by omega), Int.emod_lt_of_pos _ (by omega)⟩
  have h3 : 0 ≤ (y + n) % n * n := Int.mul_nonneg h1.1 (by omega)
  have h4 : (y + n) % n * n ≤ (n - 1) * n := Int.mul_le_mul_of_nonneg_right (by omega) (by omega)
  have h5 : (n - 1) * n = n * n - n := by rw [Int.sub_mul, Int.one_mul]
  omega
end Go.Proofs.Ytpjbajfoahmleaa
