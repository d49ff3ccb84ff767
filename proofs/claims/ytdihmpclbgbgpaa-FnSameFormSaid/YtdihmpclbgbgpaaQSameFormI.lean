/- KNO, KNP, RowD: laid into one text. -/
import Derived.Test.YtdihmpclbgbgpaaQSameFormH
import Derived.ProofKit
import Derived.OpenShut
import Derived.ShutString
import Derived.ChangeOld
import Derived.Below
import Derived.Lib.SmallJoins
import Derived.Deep.Slices
import Derived.Deep.Strs

/- slices.Equal of numbers; SameForm of both sides. -/
namespace Go.Proofs.Ytdihmpclbgbgpaa
set_option linter.unusedVariables false
set_option linter.unusedSimpArgs false
set_option maxRecDepth 20000
open Go.RowKit
attribute [local irreducible] runA runX AW
theorem gq_KNO {H G : Prop} (k : H) (h : Hid H → G := by (intro hh; (first | (first | ((first | refine r_none ?_ | refine r_gt (by rfl) (by rfl) (by first | rfl | assumption | omega | (simp only [*, Bool.not_false, Bool.not_true]; first | done | fail) | (simp [*]; first | done | fail)) (by rfl) ?_ | refine r_gf (by rfl) (by rfl) (by first | rfl | assumption | omega | (simp only [*, Bool.not_false, Bool.not_true]; first | done | fail) | (simp [*]; first | done | fail)) (by rfl) ?_); (first | fail | ((first | (refine z_op (by rfl) ?_; first | refine z_ok ?_ ?_ | refine z_ex ?_ (by first | exact ft_raw rfl rfl | ((first | refine ft_rp rfl rfl rfl ?_ | refine ft_row rfl rfl rfl ?_ | refine ft_rpF rfl rfl rfl ?_ | refine ft_rowF rfl rfl rfl ?_ | refine up_row rfl rfl ?_ | refine up_rowF rfl rfl rfl ?_ | refine ct_0 rfl ?_ | refine ct_r rfl rfl ?_ | refine ct_c rfl rfl rfl ?_ | refine cu_all rfl ?_ | refine cu_to rfl ?_ | refine cu_from rfl ?_ | refine cu_p rfl ?_ | fail); (first | omega | (simp only [List.length_append, List.length_replicate, List.length_cons, List.length_nil, List.length_set, List.length_take, List.length_drop, true_and]; omega))) | exact up_raw rfl | exact pk_t (by first | rfl | assumption | omega | (simp only [*, Bool.not_false, Bool.not_true]; first | done | fail) | (simp [*]; first | done | fail)) rfl | exact pk_f (by first | rfl | assumption | omega | (simp only [*, Bool.not_false, Bool.not_true]; first | done | fail) | (simp [*]; first | done | fail)) rfl | fail | exact rw_raw | exact pu_cv (fun w => rfl) (by omega) | exact pu_of (fun w => rfl) rfl | exact be_of (fun w => rfl) | exact nc_of (fun _ _ _ _ => rfl) rfl | exact bu_of (fun w => rfl) rfl | fail) ?_) | ((first | refine q_callE wsTL4 wsZ (by rfl) ?_ | refine q_callVE wsTL4 (by rfl) (by rfl) ?_); refine ⟨_, _, _, (by first | assumption), _, by rfl, ?_, ?_⟩)); focus (first | exact trivial | fail | exact rfl | (first | omega | (simp only [List.length_append, List.length_replicate, List.length_cons, List.length_nil, List.length_set, List.length_take, List.length_drop, true_and]; omega)) | exact cvB (fun w => rfl) | ((repeat' (first | exact rfl | exact cV_len _ | exact cV_ln rfl (by omega) | exact Cel.pos | omega | exact trivial | refine And.intro ?_ ?_)); done) | (simp [*]; done) | (simp; omega))) | fail)) | refine r_nt (by rfl) (by rfl) (by first | rfl | assumption | omega | (simp only [*, Bool.not_false, Bool.not_true]; first | done | fail) | (simp [*]; first | done | fail)) (by rfl) ?_ | refine r_nf (by rfl) (by rfl) (by first | rfl | assumption | omega | (simp only [*, Bool.not_false, Bool.not_true]; first | done | fail) | (simp [*]; first | done | fail)) (by rfl) ?_ | refine r_gu (by rfl) (by rfl) (by rfl) ?_ | refine r_nil ?_) | (first | refine aw_seq ?_ | refine aw_ct (by rfl) (by first | rfl | assumption | omega | (simp only [*, Bool.not_false, Bool.not_true]; first | done | fail) | (simp [*]; first | done | fail)) ?_ | refine aw_cf (by rfl) (by first | rfl | assumption | omega | (simp only [*, Bool.not_false, Bool.not_true]; first | done | fail) | (simp [*]; first | done | fail)) ?_ | refine aw_block ?_ | refine aw_region T0ok cfU_ok (by rfl) ?_ | refine aw_skip ?_ | refine aw_exit ?_ | refine ra_step ?_)); (repeat (first | (first | ((first | refine r_none ?_ | refine r_gt (by rfl) (by rfl) (by first | rfl | assumption | omega | (simp only [*, Bool.not_false, Bool.not_true]; first | done | fail) | (simp [*]; first | done | fail)) (by rfl) ?_ | refine r_gf (by rfl) (by rfl) (by first | rfl | assumption | omega | (simp only [*, Bool.not_false, Bool.not_true]; first | done | fail) | (simp [*]; first | done | fail)) (by rfl) ?_); (first | fail | ((first | (refine z_op (by rfl) ?_; first | refine z_ok ?_ ?_ | refine z_ex ?_ (by first | exact ft_raw rfl rfl | ((first | refine ft_rp rfl rfl rfl ?_ | refine ft_row rfl rfl rfl ?_ | refine ft_rpF rfl rfl rfl ?_ | refine ft_rowF rfl rfl rfl ?_ | refine up_row rfl rfl ?_ | refine up_rowF rfl rfl rfl ?_ | refine ct_0 rfl ?_ | refine ct_r rfl rfl ?_ | refine ct_c rfl rfl rfl ?_ | refine cu_all rfl ?_ | refine cu_to rfl ?_ | refine cu_from rfl ?_ | refine cu_p rfl ?_ | fail); (first | omega | (simp only [List.length_append, List.length_replicate, List.length_cons, List.length_nil, List.length_set, List.length_take, List.length_drop, true_and]; omega))) | exact up_raw rfl | exact pk_t (by first | rfl | assumption | omega | (simp only [*, Bool.not_false, Bool.not_true]; first | done | fail) | (simp [*]; first | done | fail)) rfl | exact pk_f (by first | rfl | assumption | omega | (simp only [*, Bool.not_false, Bool.not_true]; first | done | fail) | (simp [*]; first | done | fail)) rfl | fail | exact rw_raw | exact pu_cv (fun w => rfl) (by omega) | exact pu_of (fun w => rfl) rfl | exact be_of (fun w => rfl) | exact nc_of (fun _ _ _ _ => rfl) rfl | exact bu_of (fun w => rfl) rfl | fail) ?_) | ((first | refine q_callE wsTL4 wsZ (by rfl) ?_ | refine q_callVE wsTL4 (by rfl) (by rfl) ?_); refine ⟨_, _, _, (by first | assumption), _, by rfl, ?_, ?_⟩)); focus (first | exact trivial | fail | exact rfl | (first | omega | (simp only [List.length_append, List.length_replicate, List.length_cons, List.length_nil, List.length_set, List.length_take, List.length_drop, true_and]; omega)) | exact cvB (fun w => rfl) | ((repeat' (first | exact rfl | exact cV_len _ | exact cV_ln rfl (by omega) | exact Cel.pos | omega | exact trivial | refine And.intro ?_ ?_)); done) | (simp [*]; done) | (simp; omega))) | fail)) | refine r_nt (by rfl) (by rfl) (by first | rfl | assumption | omega | (simp only [*, Bool.not_false, Bool.not_true]; first | done | fail) | (simp [*]; first | done | fail)) (by rfl) ?_ | refine r_nf (by rfl) (by rfl) (by first | rfl | assumption | omega | (simp only [*, Bool.not_false, Bool.not_true]; first | done | fail) | (simp [*]; first | done | fail)) (by rfl) ?_ | refine r_gu (by rfl) (by rfl) (by rfl) ?_ | refine r_nil ?_) | (first | refine aw_seq ?_ | refine aw_ct (by rfl) (by first | rfl | assumption | omega | (simp only [*, Bool.not_false, Bool.not_true]; first | done | fail) | (simp [*]; first | done | fail)) ?_ | refine aw_cf (by rfl) (by first | rfl | assumption | omega | (simp only [*, Bool.not_false, Bool.not_true]; first | done | fail) | (simp [*]; first | done | fail)) ?_ | refine aw_block ?_ | refine aw_region T0ok cfU_ok (by rfl) ?_ | refine aw_skip ?_ | refine aw_exit ?_ | refine ra_step ?_))); exact hh.out)) : G := h ⟨k⟩
theorem ga_KNO {H G : Prop} (k : H) (h : Hid H → G := by (intro hh; (first | refine r_none ?_ | refine r_gt (by rfl) (by rfl) (by first | rfl | assumption | omega | (simp only [*, Bool.not_false, Bool.not_true]; first | done | fail) | (simp [*]; first | done | fail)) (by rfl) ?_ | refine r_gf (by rfl) (by rfl) (by first | rfl | assumption | omega | (simp only [*, Bool.not_false, Bool.not_true]; first | done | fail) | (simp [*]; first | done | fail)) (by rfl) ?_); refine z_op (by rfl) ?_; refine z_alV ?_ hh.out; focus (first | exact trivial | fail | exact rfl | (first | omega | (simp only [List.length_append, List.length_replicate, List.length_cons, List.length_nil, List.length_set, List.length_take, List.length_drop, true_and]; omega)) | exact cvB (fun w => rfl) | ((repeat' (first | exact rfl | exact cV_len _ | exact cV_ln rfl (by omega) | exact Cel.pos | omega | exact trivial | refine And.intro ?_ ?_)); done) | (simp [*]; done) | (simp; omega)))) : G := h ⟨k⟩
theorem gd_KNO {H G : Prop} (k : H) (h : Hid H → G := by (intro hh; (refine aw_draw mixed T0ok cfU_ok [] (by rfl) (by kernel_rfl) ?_); exact hh.out)) : G := h ⟨k⟩
theorem eqd_step {l m : List Int} {i : Nat} (h1 : i < l.length) (h2 : i < m.length) : (l.drop i == m.drop i) = ((l.getD i 0 == m.getD i 0) && (l.drop (i + 1) == m.drop (i + 1))) := by
  have e1 : l.getD i 0 = l[i] := by simp [List.getD_eq_getElem?_getD, h1]
  have e2 : m.getD i 0 = m[i] := by simp [List.getD_eq_getElem?_getD, h2]
  rw [List.drop_eq_getElem_cons h1, List.drop_eq_getElem_cons h2, e1, e2]; rfl
theorem k_eqI2 (l m : List Int) (h : l.length ≤ 10000000) (hm : m.length = l.length) : Kon Try.prog 60 [roA l, roA m] [] (vB (l == m)) [] [] := by
  have h1 : ((l.length : Int) != (m.length : Int)) = false := by rw [hm]; simp
  (refine kon_mk T0ok (fn := Try.f60) (c := Try.f60.body.get rfl) Try.func60 rfl (by rfl) (by rfl) (by rfl) ?_; intro hfit hfe)
  (repeat (first | refine gq_KNO ?_ | (refine ga_KNO ?_; intro _hq)))
  (refine aw_rd [0, 1, 12] [] (fun i : Nat => [(13, vI i)]) (fun _ => []) (fun i => i ≤ l.length ∧ (l.drop i == m.drop i) = (l == m)) (fun i => l.length - i) 0 (by rfl) (by rfl) ?_ (by rfl) (by repeat (first | exact trivial | refine ⟨by rfl, ?_⟩ | refine ⟨vI_of (by rfl) (by omega), ?_⟩)) (by repeat (first | exact trivial | refine ⟨by rfl, ?_⟩ | refine ⟨vI_of (by rfl) (by omega), ?_⟩)) ?_)
  · exact ⟨Nat.zero_le _, by rw [List.drop_zero, List.drop_zero]⟩
  rintro i ⟨hi, hz⟩
  rcases Nat.lt_or_ge i l.length with h5 | h5
  · have hd : decide ((i : Int) < (l.length : Int)) = true := decide_eq_true (by omega)
    rw [eqd_step h5 (by omega)] at hz
    cases hx : (l.getD i 0 == m.getD i 0) with
    | true =>
      have hx' : (l.getD (i : Int).toNat Cel.no != m.getD (i : Int).toNat Cel.no) = false := by
        show (!(l.getD i 0 == m.getD i 0)) = false
        rw [hx]; rfl
      rw [hx, Bool.true_and] at hz
      have hinv : i + 1 ≤ l.length ∧ (l.drop (i + 1) == m.drop (i + 1)) = (l == m) := ⟨h5, hz⟩
      clear hz hx
      (repeat (first | refine gq_KNO ?_ | (refine ga_KNO ?_; intro _hq) | refine gd_KNO ?_))
      exact ⟨i + 1, hinv, ⟨by rfl, (by repeat (first | exact trivial | refine ⟨by rfl, ?_⟩ | refine ⟨vI_of (by rfl) (by omega), ?_⟩)), (by repeat (first | exact trivial | refine ⟨by rfl, ?_⟩ | refine ⟨vI_of (by rfl) (by omega), ?_⟩))⟩, (by first | omega | (dsimp only; omega))⟩
    | false =>
      have hx' : (l.getD (i : Int).toNat Cel.no != m.getD (i : Int).toNat Cel.no) = true := by
        show (!(l.getD i 0 == m.getD i 0)) = true
        rw [hx]; rfl
      rw [hx, Bool.false_and] at hz
      rw [← hz]
      clear hz hx
      (repeat (first | refine gq_KNO ?_ | (refine ga_KNO ?_; intro _hq) | refine gd_KNO ?_))
      ((try refine aw_ret ?_); refine ret_auto2 (by rfl) (by rfl) (by rfl) (by repeat (first | exact trivial | refine ⟨by first | rfl | omega, ?_⟩)) ?_ (by repeat (first | exact trivial | refine ⟨by rfl, by rfl, ?_⟩)) (by repeat (first | exact trivial | refine ⟨by rfl, by rfl, ?_⟩)); try rfl)
  · have hd : decide ((i : Int) < (l.length : Int)) = false := decide_eq_false (by omega)
    rw [List.drop_of_length_le h5, List.drop_of_length_le (by omega)] at hz
    rw [← hz]
    clear hz
    (repeat (first | refine gq_KNO ?_ | (refine ga_KNO ?_; intro _hq) | refine gd_KNO ?_))
    ((try refine aw_ret ?_); refine ret_auto2 (by rfl) (by rfl) (by rfl) (by repeat (first | exact trivial | refine ⟨by first | rfl | omega, ?_⟩)) ?_ (by repeat (first | exact trivial | refine ⟨by rfl, by rfl, ?_⟩)) (by repeat (first | exact trivial | refine ⟨by rfl, by rfl, ?_⟩)); try rfl)
/-- Are two formulas the same? -/
def sfB (n : Int) (a b : List Stp) : Bool := fok n a && fok n b && (foL n a (2 ^ n.toNat) == foL n b (2 ^ n.toNat))
theorem k_sfI (n : Int) (a b : List Stp) (ha : a.length ≤ 1000) (hb : b.length ≤ 1000) (hr : 0 ≤ n ∧ n ≤ 4) : Kon Try.prog 23 [vI n, roA a, roA b] [] (vB (sfB n a b)) [] [] := by
  have hA := k_fv n a ha (by omega)
  have hB := k_fv n b hb (by omega)
  unfold sfB
  cases h1 : fok n a with
  | false =>
    rw [h1] at hA
    (refine kon_mk T0ok (fn := Try.f23) (c := Try.f23.body.get rfl) Try.func23 rfl (by rfl) (by rfl) (by rfl) ?_; intro hfit hfe)
    (repeat (first | refine gq_KNO ?_ | (refine ga_KNO ?_; intro _hq)))
    ((try refine aw_ret ?_); refine ret_auto2 (by rfl) (by rfl) (by rfl) (by repeat (first | exact trivial | refine ⟨by first | rfl | omega, ?_⟩)) ?_ (by repeat (first | exact trivial | refine ⟨by rfl, by rfl, ?_⟩)) (by repeat (first | exact trivial | refine ⟨by rfl, by rfl, ?_⟩)); try rfl)
  | true =>
    rw [h1] at hA
    cases h2 : fok n b with
    | false =>
      rw [h2] at hB
      (refine kon_mk T0ok (fn := Try.f23) (c := Try.f23.body.get rfl) Try.func23 rfl (by rfl) (by rfl) (by rfl) ?_; intro hfit hfe)
      (repeat (first | refine gq_KNO ?_ | (refine ga_KNO ?_; intro _hq)))
      ((try refine aw_ret ?_); refine ret_auto2 (by rfl) (by rfl) (by rfl) (by repeat (first | exact trivial | refine ⟨by first | rfl | omega, ?_⟩)) ?_ (by repeat (first | exact trivial | refine ⟨by rfl, by rfl, ?_⟩)) (by repeat (first | exact trivial | refine ⟨by rfl, by rfl, ?_⟩)); try rfl)
    | true =>
      rw [h2] at hB
      obtain ⟨N, rfl⟩ : ∃ N : Nat, n = (N : Int) := ⟨n.toNat, by omega⟩
      have hN := (fok_t h1).1
      have h8 : 2 ^ N ≤ 2 ^ 3 := Nat.pow_le_pow_right (by omega) (by omega)
      have hI := k_fuI N a h1
      have hJ := k_fuI N b h2
      have l1 := foL_len (N : Int) a (2 ^ N)
      have l2 := foL_len (N : Int) b (2 ^ N)
      have hE := k_eqI2 (foL (N : Int) a (2 ^ N)) (foL (N : Int) b (2 ^ N)) (by omega) (by omega)
      rw [Int.toNat_natCast]
      generalize foL (N : Int) a (2 ^ N) = A at *
      generalize foL (N : Int) b (2 ^ N) = B at *
      (refine kon_mk T0ok (fn := Try.f23) (c := Try.f23.body.get rfl) Try.func23 rfl (by rfl) (by rfl) (by rfl) ?_; intro hfit hfe)
      (repeat (first | refine gq_KNO ?_ | (refine ga_KNO ?_; intro _hq)))
      ((try refine aw_ret ?_); refine ret_auto2 (by rfl) (by rfl) (by rfl) (by repeat (first | exact trivial | refine ⟨by first | rfl | omega, ?_⟩)) ?_ (by repeat (first | exact trivial | refine ⟨by rfl, by rfl, ?_⟩)) (by repeat (first | exact trivial | refine ⟨by rfl, by rfl, ?_⟩)); try rfl)
theorem foL_get (n : Int) (f : List Stp) : ∀ T i : Nat, i < T → (foL n f T).getD i 0 = b2i (clB n f (i : Int))
  | T + 1, i, h => by
    rw [foL]
    rcases Nat.lt_or_ge i T with h1 | h1
    · rw [List.getD_eq_getElem?_getD, List.getElem?_append_left (by rw [foL_len]; exact h1), ← List.getD_eq_getElem?_getD, foL_get n f T i h1]
    · obtain rfl : i = T := by omega
      rw [List.getD_eq_getElem?_getD, List.getElem?_append_right (by rw [foL_len]; exact Nat.le_refl _), foL_len, Nat.sub_self]; rfl
theorem foL_ext {n : Int} {a b : List Stp} : ∀ {T : Nat}, (∀ j : Nat, j < T → b2i (clB n a (j : Int)) = b2i (clB n b (j : Int))) → foL n a T = foL n b T
  | 0, _ => rfl
  | T + 1, h => by rw [foL, foL, foL_ext fun j hj => h j (by omega), h T (by omega)]
set_option maxHeartbeats 2000000 in
theorem k_sfS (n : Int) (a b : List Stp) (ha : a.length ≤ 1000) (hb : b.length ≤ 1000) (hr : 0 ≤ n ∧ n ≤ 4) : Kon Try.prog 24 [vI n, roA a, roA b] [] (vB (sfB n a b)) [] [] := by
  have hA := k_fvS n a ha (by omega)
  have hB := k_fvS n b hb (by omega)
  obtain ⟨m, hm, hm3, hmN⟩ : ∃ m : Int, (if (3 : Int) < (if (0 : Int) > n then (0 : Int) else n) then (3 : Int) else (if (0 : Int) > n then (0 : Int) else n)) = m ∧ (0 ≤ m ∧ m ≤ 3) ∧ (n ≤ 3 → m = n) := ⟨_, rfl, by split <;> split <;> omega, by intro h; split <;> split <;> omega⟩
  have hpos : (0 : Int) < 2 ^ m.toNat := Int.pow_pos (by decide)
  have hd0 : decide ((0 : Int) < 1 * 2 ^ m.toNat) = true := decide_eq_true (by omega)
  obtain ⟨T, hT, hTN⟩ : ∃ T : Nat, (1 * 2 ^ m.toNat : Int) = (T : Int) ∧ T = 2 ^ m.toNat := ⟨2 ^ m.toNat, by simp, rfl⟩
  have hT8 : T ≤ 8 := by
    have : 2 ^ m.toNat ≤ 2 ^ 3 := Nat.pow_le_pow_right (by omega) (by omega)
    omega
  unfold sfB
  cases h1 : fok n a with
  | false =>
    rw [h1] at hA
    cases h2 : fok n b with
    | false =>
      rw [h2] at hB
      have hF1 := fun w => k_foS0 n a w ha (by omega) h1
      have hF2 := fun w => k_foS0 n b w hb (by omega) h2
      (refine kon_mk T0ok (fn := Try.f24) (c := Try.f24.body.get rfl) Try.func24 rfl (by rfl) (by rfl) (by rfl) ?_; intro hfit hfe)
      (repeat (first | refine gq_KNO ?_ | (refine ga_KNO ?_; intro _hq)))
      (refine aw_rd [0, 1, 2, 6] [] (fun i : Nat => [(7, vI i)]) (fun i => []) (fun i => i ≤ T) (fun i => T - i) 0 (by rfl) (by rfl) ?_ (by rfl) (by repeat (first | exact trivial | refine ⟨by rfl, ?_⟩ | refine ⟨vI_of (by rfl) (by omega), ?_⟩)) (by repeat (first | exact trivial | refine ⟨by rfl, ?_⟩ | refine ⟨vI_of (by rfl) (by omega), ?_⟩)) ?_)
      · exact Nat.zero_le _
      rintro i hi
      rcases Nat.lt_or_ge i T with h5 | h5
      · have hd : decide ((i : Int) < 1 * 2 ^ m.toNat) = true := decide_eq_true (by omega)
        have hX := hF1 (i : Int)
        have hY := hF2 (i : Int)
        (repeat (first | refine gq_KNO ?_ | (refine ga_KNO ?_; intro _hq)))
        rw [hm]
        (repeat (first | refine gq_KNO ?_ | (refine ga_KNO ?_; intro _hq)))
        exact ⟨i + 1, h5, ⟨by rfl, (by repeat (first | exact trivial | refine ⟨by rfl, ?_⟩ | refine ⟨vI_of (by rfl) (by omega), ?_⟩)), (by repeat (first | exact trivial | refine ⟨by rfl, ?_⟩ | refine ⟨vI_of (by rfl) (by omega), ?_⟩))⟩, (by first | omega | (dsimp only; omega))⟩
      · have hd : decide ((i : Int) < 1 * 2 ^ m.toNat) = false := decide_eq_false (by omega)
        (repeat (first | refine gq_KNO ?_ | (refine ga_KNO ?_; intro _hq)))
        rw [hm]
        (repeat (first | refine gq_KNO ?_ | (refine ga_KNO ?_; intro _hq)))
        ((try refine aw_ret ?_); refine ret_auto2 (by rfl) (by rfl) (by rfl) (by repeat (first | exact trivial | refine ⟨by first | rfl | omega, ?_⟩)) ?_ (by repeat (first | exact trivial | refine ⟨by rfl, by rfl, ?_⟩)) (by repeat (first | exact trivial | refine ⟨by rfl, by rfl, ?_⟩)); try rfl)
    | true =>
      rw [h2] at hB
      obtain ⟨N, rfl⟩ : ∃ N : Nat, n = (N : Int) := ⟨n.toNat, by omega⟩
      have hF1 := k_foS0 (N : Int) a 0 ha (by omega) h1
      have hF2 := k_foS N b 0 h2 ⟨by omega, Int.pow_pos (by decide)⟩
      have hb1 := b2i_bd (clB (N : Int) b 0)
      generalize b2i (clB (N : Int) b 0) = v at *
      have hne : ((-1 : Int) != v) = true := by simp; omega
      (refine kon_mk T0ok (fn := Try.f24) (c := Try.f24.body.get rfl) Try.func24 rfl (by rfl) (by rfl) (by rfl) ?_; intro hfit hfe)
      (repeat (first | refine gq_KNO ?_ | (refine ga_KNO ?_; intro _hq)))
      refine aw_unroll 2 ?_
      (repeat (first | refine gq_KNO ?_ | (refine ga_KNO ?_; intro _hq)))
      rw [hm]
      (repeat (first | refine gq_KNO ?_ | (refine ga_KNO ?_; intro _hq)))
      ((try refine aw_ret ?_); refine ret_auto2 (by rfl) (by rfl) (by rfl) (by repeat (first | exact trivial | refine ⟨by first | rfl | omega, ?_⟩)) ?_ (by repeat (first | exact trivial | refine ⟨by rfl, by rfl, ?_⟩)) (by repeat (first | exact trivial | refine ⟨by rfl, by rfl, ?_⟩)); try rfl)
  | true =>
    rw [h1] at hA
    obtain ⟨N, rfl⟩ : ∃ N : Nat, n = (N : Int) := ⟨n.toNat, by omega⟩
    have hN := (fok_t h1).1
    cases h2 : fok (N : Int) b with
    | false =>
      rw [h2] at hB
      have hF1 := k_foS N a 0 h1 ⟨by omega, Int.pow_pos (by decide)⟩
      have hF2 := k_foS0 (N : Int) b 0 hb (by omega) h2
      have hb1 := b2i_bd (clB (N : Int) a 0)
      generalize b2i (clB (N : Int) a 0) = v at *
      have hne : (v != (-1 : Int)) = true := by simp; omega
      (refine kon_mk T0ok (fn := Try.f24) (c := Try.f24.body.get rfl) Try.func24 rfl (by rfl) (by rfl) (by rfl) ?_; intro hfit hfe)
      (repeat (first | refine gq_KNO ?_ | (refine ga_KNO ?_; intro _hq)))
      refine aw_unroll 2 ?_
      (repeat (first | refine gq_KNO ?_ | (refine ga_KNO ?_; intro _hq)))
      rw [hm]
      (repeat (first | refine gq_KNO ?_ | (refine ga_KNO ?_; intro _hq)))
      ((try refine aw_ret ?_); refine ret_auto2 (by rfl) (by rfl) (by rfl) (by repeat (first | exact trivial | refine ⟨by first | rfl | omega, ?_⟩)) ?_ (by repeat (first | exact trivial | refine ⟨by rfl, by rfl, ?_⟩)) (by repeat (first | exact trivial | refine ⟨by rfl, by rfl, ?_⟩)); try rfl)
    | true =>
      rw [h2] at hB
      obtain rfl : m = (N : Int) := hmN (by omega)
      rw [← hTN]
      have hF1 := fun w hw => k_foS N a w h1 hw
      have hF2 := fun w hw => k_foS N b w h2 hw
      have hext := @foL_ext (N : Int) a b T
      have hg1 := foL_get (N : Int) a T
      have hg2 := foL_get (N : Int) b T
      (refine kon_mk T0ok (fn := Try.f24) (c := Try.f24.body.get rfl) Try.func24 rfl (by rfl) (by rfl) (by rfl) ?_; intro hfit hfe)
      (repeat (first | refine gq_KNO ?_ | (refine ga_KNO ?_; intro _hq)))
      (refine aw_rd [0, 1, 2, 6] [] (fun i : Nat => [(7, vI i)]) (fun i => []) (fun i => i ≤ T ∧ ∀ j : Nat, j < i → b2i (clB (N : Int) a (j : Int)) = b2i (clB (N : Int) b (j : Int))) (fun i => T - i) 0 (by rfl) (by rfl) ?_ (by rfl) (by repeat (first | exact trivial | refine ⟨by rfl, ?_⟩ | refine ⟨vI_of (by rfl) (by omega), ?_⟩)) (by repeat (first | exact trivial | refine ⟨by rfl, ?_⟩ | refine ⟨vI_of (by rfl) (by omega), ?_⟩)) ?_)
      · exact ⟨Nat.zero_le _, fun j hj => by omega⟩
      rintro i ⟨hi, hinv⟩
      rcases Nat.lt_or_ge i T with h5 | h5
      · have hd : decide ((i : Int) < 1 * 2 ^ (N : Int).toNat) = true := decide_eq_true (by omega)
        have hX := hF1 (i : Int) (by omega)
        have hY := hF2 (i : Int) (by omega)
        cases hx : (b2i (clB (N : Int) a (i : Int)) != b2i (clB (N : Int) b (i : Int))) with
        | true =>
          have hq : (foL (N : Int) a T == foL (N : Int) b T) = false := by
            rw [beq_eq_false_iff_ne]
            intro he
            have e1 := hg1 i h5
            rw [he, hg2 i h5] at e1
            rw [e1] at hx
            simp at hx
          rw [hq]
          (repeat (first | refine gq_KNO ?_ | (refine ga_KNO ?_; intro _hq)))
          rw [hm]
          (repeat (first | refine gq_KNO ?_ | (refine ga_KNO ?_; intro _hq)))
          ((try refine aw_ret ?_); refine ret_auto2 (by rfl) (by rfl) (by rfl) (by repeat (first | exact trivial | refine ⟨by first | rfl | omega, ?_⟩)) ?_ (by repeat (first | exact trivial | refine ⟨by rfl, by rfl, ?_⟩)) (by repeat (first | exact trivial | refine ⟨by rfl, by rfl, ?_⟩)); try rfl)
        | false =>
          have hn : ∀ j : Nat, j < i + 1 → b2i (clB (N : Int) a (j : Int)) = b2i (clB (N : Int) b (j : Int)) := fun j hj => by
            rcases Nat.lt_or_ge j i with h6 | h6
            · exact hinv j h6
            · obtain rfl : j = i := by omega
              simpa using hx
          clear hinv hext hg1 hg2
          (repeat (first | refine gq_KNO ?_ | (refine ga_KNO ?_; intro _hq)))
          rw [hm]
          (repeat (first | refine gq_KNO ?_ | (refine ga_KNO ?_; intro _hq)))
          exact ⟨i + 1, ⟨h5, hn⟩, ⟨by rfl, (by repeat (first | exact trivial | refine ⟨by rfl, ?_⟩ | refine ⟨vI_of (by rfl) (by omega), ?_⟩)), (by repeat (first | exact trivial | refine ⟨by rfl, ?_⟩ | refine ⟨vI_of (by rfl) (by omega), ?_⟩))⟩, (by first | omega | (dsimp only; omega))⟩
      · obtain rfl : T = i := by omega
        have hd : decide ((T : Int) < 1 * 2 ^ (N : Int).toNat) = false := decide_eq_false (by omega)
        rw [hext hinv]
        have hq : (foL (N : Int) b T == foL (N : Int) b T) = true := beq_self_eq_true _
        rw [hq]
        clear hinv hext hg1 hg2 hF1 hF2
        (repeat (first | refine gq_KNO ?_ | (refine ga_KNO ?_; intro _hq)))
        rw [hm]
        (repeat (first | refine gq_KNO ?_ | (refine ga_KNO ?_; intro _hq)))
        ((try refine aw_ret ?_); refine ret_auto2 (by rfl) (by rfl) (by rfl) (by repeat (first | exact trivial | refine ⟨by first | rfl | omega, ?_⟩)) ?_ (by repeat (first | exact trivial | refine ⟨by rfl, by rfl, ?_⟩)) (by repeat (first | exact trivial | refine ⟨by rfl, by rfl, ?_⟩)); try rfl)
end Go.Proofs.Ytdihmpclbgbgpaa

/- The law FnSameForm. -/
namespace Go.Proofs.Ytdihmpclbgbgpaa
set_option linter.unusedVariables false
set_option linter.unusedSimpArgs false
set_option maxRecDepth 20000
open Go.RowKit
attribute [local irreducible] runA runX AW
theorem gq_KNP {H G : Prop} (k : H) (h : Hid H → G := by (intro hh; (first | (first | ((first | refine r_none ?_ | refine r_gt (by rfl) (by rfl) (by first | rfl | assumption | omega | (simp only [*, Bool.not_false, Bool.not_true]; first | done | fail) | (simp [*]; first | done | fail)) (by rfl) ?_ | refine r_gf (by rfl) (by rfl) (by first | rfl | assumption | omega | (simp only [*, Bool.not_false, Bool.not_true]; first | done | fail) | (simp [*]; first | done | fail)) (by rfl) ?_); (first | fail | ((first | (refine z_op (by rfl) ?_; first | refine z_ok ?_ ?_ | refine z_ex ?_ (by first | exact ft_raw rfl rfl | ((first | refine ft_rp rfl rfl rfl ?_ | refine ft_row rfl rfl rfl ?_ | refine ft_rpF rfl rfl rfl ?_ | refine ft_rowF rfl rfl rfl ?_ | refine up_row rfl rfl ?_ | refine up_rowF rfl rfl rfl ?_ | refine ct_0 rfl ?_ | refine ct_r rfl rfl ?_ | refine ct_c rfl rfl rfl ?_ | refine cu_all rfl ?_ | refine cu_to rfl ?_ | refine cu_from rfl ?_ | refine cu_p rfl ?_ | fail); (first | omega | (simp only [List.length_append, List.length_replicate, List.length_cons, List.length_nil, List.length_set, List.length_take, List.length_drop, true_and]; omega))) | exact up_raw rfl | exact pk_t (by first | rfl | assumption | omega | (simp only [*, Bool.not_false, Bool.not_true]; first | done | fail) | (simp [*]; first | done | fail)) rfl | exact pk_f (by first | rfl | assumption | omega | (simp only [*, Bool.not_false, Bool.not_true]; first | done | fail) | (simp [*]; first | done | fail)) rfl | fail | exact rw_raw | exact pu_cv (fun w => rfl) (by omega) | exact pu_of (fun w => rfl) rfl | exact be_of (fun w => rfl) | exact nc_of (fun _ _ _ _ => rfl) rfl | exact bu_of (fun w => rfl) rfl | fail) ?_) | ((first | refine q_callE wsT wsZ (by rfl) ?_ | refine q_callVE wsT (by rfl) (by rfl) ?_); refine ⟨_, _, _, (by first | assumption | exact k_alive | exact k_open _ (by omega)), _, by rfl, ?_, ?_⟩)); focus (first | exact trivial | fail | exact rfl | (first | omega | (simp only [List.length_append, List.length_replicate, List.length_cons, List.length_nil, List.length_set, List.length_take, List.length_drop, true_and]; omega)) | exact cvB (fun w => rfl) | ((repeat' (first | exact rfl | exact cV_len _ | exact cV_ln rfl (by omega) | exact Cel.pos | omega | exact trivial | refine And.intro ?_ ?_)); done) | (simp [*]; done) | (simp; omega))) | fail)) | refine r_nt (by rfl) (by rfl) (by first | rfl | assumption | omega | (simp only [*, Bool.not_false, Bool.not_true]; first | done | fail) | (simp [*]; first | done | fail)) (by rfl) ?_ | refine r_nf (by rfl) (by rfl) (by first | rfl | assumption | omega | (simp only [*, Bool.not_false, Bool.not_true]; first | done | fail) | (simp [*]; first | done | fail)) (by rfl) ?_ | refine r_gu (by rfl) (by rfl) (by rfl) ?_ | refine r_nil ?_) | (first | refine aw_seq ?_ | refine aw_ct (by rfl) (by first | rfl | assumption | omega | (simp only [*, Bool.not_false, Bool.not_true]; first | done | fail) | (simp [*]; first | done | fail)) ?_ | refine aw_cf (by rfl) (by first | rfl | assumption | omega | (simp only [*, Bool.not_false, Bool.not_true]; first | done | fail) | (simp [*]; first | done | fail)) ?_ | refine aw_block ?_ | refine aw_region T0ok cfU_ok (by rfl) ?_ | refine aw_skip ?_ | refine aw_exit ?_ | refine ra_step ?_)); (repeat (first | (first | ((first | refine r_none ?_ | refine r_gt (by rfl) (by rfl) (by first | rfl | assumption | omega | (simp only [*, Bool.not_false, Bool.not_true]; first | done | fail) | (simp [*]; first | done | fail)) (by rfl) ?_ | refine r_gf (by rfl) (by rfl) (by first | rfl | assumption | omega | (simp only [*, Bool.not_false, Bool.not_true]; first | done | fail) | (simp [*]; first | done | fail)) (by rfl) ?_); (first | fail | ((first | (refine z_op (by rfl) ?_; first | refine z_ok ?_ ?_ | refine z_ex ?_ (by first | exact ft_raw rfl rfl | ((first | refine ft_rp rfl rfl rfl ?_ | refine ft_row rfl rfl rfl ?_ | refine ft_rpF rfl rfl rfl ?_ | refine ft_rowF rfl rfl rfl ?_ | refine up_row rfl rfl ?_ | refine up_rowF rfl rfl rfl ?_ | refine ct_0 rfl ?_ | refine ct_r rfl rfl ?_ | refine ct_c rfl rfl rfl ?_ | refine cu_all rfl ?_ | refine cu_to rfl ?_ | refine cu_from rfl ?_ | refine cu_p rfl ?_ | fail); (first | omega | (simp only [List.length_append, List.length_replicate, List.length_cons, List.length_nil, List.length_set, List.length_take, List.length_drop, true_and]; omega))) | exact up_raw rfl | exact pk_t (by first | rfl | assumption | omega | (simp only [*, Bool.not_false, Bool.not_true]; first | done | fail) | (simp [*]; first | done | fail)) rfl | exact pk_f (by first | rfl | assumption | omega | (simp only [*, Bool.not_false, Bool.not_true]; first | done | fail) | (simp [*]; first | done | fail)) rfl | fail | exact rw_raw | exact pu_cv (fun w => rfl) (by omega) | exact pu_of (fun w => rfl) rfl | exact be_of (fun w => rfl) | exact nc_of (fun _ _ _ _ => rfl) rfl | exact bu_of (fun w => rfl) rfl | fail) ?_) | ((first | refine q_callE wsT wsZ (by rfl) ?_ | refine q_callVE wsT (by rfl) (by rfl) ?_); refine ⟨_, _, _, (by first | assumption | exact k_alive | exact k_open _ (by omega)), _, by rfl, ?_, ?_⟩)); focus (first | exact trivial | fail | exact rfl | (first | omega | (simp only [List.length_append, List.length_replicate, List.length_cons, List.length_nil, List.length_set, List.length_take, List.length_drop, true_and]; omega)) | exact cvB (fun w => rfl) | ((repeat' (first | exact rfl | exact cV_len _ | exact cV_ln rfl (by omega) | exact Cel.pos | omega | exact trivial | refine And.intro ?_ ?_)); done) | (simp [*]; done) | (simp; omega))) | fail)) | refine r_nt (by rfl) (by rfl) (by first | rfl | assumption | omega | (simp only [*, Bool.not_false, Bool.not_true]; first | done | fail) | (simp [*]; first | done | fail)) (by rfl) ?_ | refine r_nf (by rfl) (by rfl) (by first | rfl | assumption | omega | (simp only [*, Bool.not_false, Bool.not_true]; first | done | fail) | (simp [*]; first | done | fail)) (by rfl) ?_ | refine r_gu (by rfl) (by rfl) (by rfl) ?_ | refine r_nil ?_) | (first | refine aw_seq ?_ | refine aw_ct (by rfl) (by first | rfl | assumption | omega | (simp only [*, Bool.not_false, Bool.not_true]; first | done | fail) | (simp [*]; first | done | fail)) ?_ | refine aw_cf (by rfl) (by first | rfl | assumption | omega | (simp only [*, Bool.not_false, Bool.not_true]; first | done | fail) | (simp [*]; first | done | fail)) ?_ | refine aw_block ?_ | refine aw_region T0ok cfU_ok (by rfl) ?_ | refine aw_skip ?_ | refine aw_exit ?_ | refine ra_step ?_))); exact hh.out)) : G := h ⟨k⟩
theorem ga_KNP {H G : Prop} (k : H) (h : Hid H → G := by (intro hh; (first | refine r_none ?_ | refine r_gt (by rfl) (by rfl) (by first | rfl | assumption | omega | (simp only [*, Bool.not_false, Bool.not_true]; first | done | fail) | (simp [*]; first | done | fail)) (by rfl) ?_ | refine r_gf (by rfl) (by rfl) (by first | rfl | assumption | omega | (simp only [*, Bool.not_false, Bool.not_true]; first | done | fail) | (simp [*]; first | done | fail)) (by rfl) ?_); refine z_op (by rfl) ?_; refine z_alV ?_ hh.out; focus (first | exact trivial | fail | exact rfl | (first | omega | (simp only [List.length_append, List.length_replicate, List.length_cons, List.length_nil, List.length_set, List.length_take, List.length_drop, true_and]; omega)) | exact cvB (fun w => rfl) | ((repeat' (first | exact rfl | exact cV_len _ | exact cV_ln rfl (by omega) | exact Cel.pos | omega | exact trivial | refine And.intro ?_ ?_)); done) | (simp [*]; done) | (simp; omega)))) : G := h ⟨k⟩
theorem ex_dSF (l : List UInt8) (hl : l.length ≤ 100000000) : ∃ (v : Int) (a b : List Stp), (0 ≤ v ∧ v ≤ 4) ∧ a.length ≤ 3 ∧ b.length ≤ 3 ∧ Kon Try.prog 22 [roA l] [] (.tup [.one (.v (.int .i64 v)), .one (.sl 0 0 a.length), .one (.sl 1 0 b.length)]) [stRow a, stRow b] [] := by
  have h2 : (l.take 2000).length ≤ 2000 := by simp; omega
  obtain ⟨v, a, c', h3, h4, h5, hK⟩ := ex_form (l.take 2000) 0 9 (by omega) (by omega)
  obtain ⟨b, c2, h6, h7, hK2⟩ := ex_formOf (l.take 2000) c' v 12 (by omega) h3 (by omega)
  refine ⟨v, a, b, h3, h4, h6, ?_⟩
  (refine kon_mk T0ok (fn := Try.f22) (c := Try.f22.body.get rfl) Try.func22 rfl (by rfl) (by rfl) (by rfl) ?_; intro hfit hfe)
  (repeat (first | refine gq_KNP ?_ | (refine ga_KNP ?_; intro _hq)))
  ((try refine aw_ret ?_); refine ret_auto2 (by rfl) (by rfl) (by rfl) (by repeat (first | exact trivial | refine ⟨by first | rfl | omega, ?_⟩)) ?_ (by repeat (first | exact trivial | refine ⟨by rfl, by rfl, ?_⟩)) (by repeat (first | exact trivial | refine ⟨by rfl, by rfl, ?_⟩)); try rfl)
theorem sfB_comm (n : Int) (a b : List Stp) : sfB n b a = sfB n a b := by
  unfold sfB
  have e : (foL n b (2 ^ n.toNat) == foL n a (2 ^ n.toNat)) = (foL n a (2 ^ n.toNat) == foL n b (2 ^ n.toNat)) := by
    rw [Bool.eq_iff_iff, beq_iff_eq, beq_iff_eq]; exact ⟨Eq.symm, Eq.symm⟩
  rw [e]; cases fok n a <;> cases fok n b <;> rfl
theorem sfB_self (n : Int) (a : List Stp) : sfB n a a = fok n a := by
  unfold sfB; rw [beq_self_eq_true]; cases fok n a <;> rfl
theorem foC_ext {n : Int} {a b : List Stp} : ∀ {T : Nat}, (∀ j : Nat, j < T → b2i (clB n a (j : Int)) = b2i (clB n b (j : Int))) → foC n a T = foC n b T
  | 0, _ => rfl
  | T + 1, h => by rw [foC, foC, foC_ext fun j hj => h j (by omega), h T (by omega)]
set_option maxHeartbeats 4000000 in
theorem k_lawSF (l : List UInt8) : Kon Try.prog 5 [roA l] [] (vB true) [] [] := by
  rcases Nat.lt_or_ge 1048576 l.length with h0 | h0
  · have hd : decide ((l.length : Int) > 1048576) = true := decide_eq_true (by omega)
    (refine kon_mk T0ok (fn := Try.f5) (c := Try.f5.body.get rfl) Try.func5 rfl (by rfl) (by rfl) (by rfl) ?_; intro hfit hfe)
    (repeat (first | refine gq_KNP ?_ | (refine ga_KNP ?_; intro _hq)))
    ((try refine aw_ret ?_); refine ret_auto2 (by rfl) (by rfl) (by rfl) (by repeat (first | exact trivial | refine ⟨by first | rfl | omega, ?_⟩)) ?_ (by repeat (first | exact trivial | refine ⟨by rfl, by rfl, ?_⟩)) (by repeat (first | exact trivial | refine ⟨by rfl, by rfl, ?_⟩)); try rfl)
  have hd : decide ((l.length : Int) > 1048576) = false := decide_eq_false (by omega)
  obtain ⟨n, a, b, hn, ha, hb, hD⟩ := ex_dSF l (by omega)
  have hI := k_sfI n a b (by omega) (by omega) hn
  have hS := k_sfS n a b (by omega) (by omega) hn
  have hI2 := k_sfI n b a (by omega) (by omega) hn
  rw [sfB_comm] at hI2
  have hI3 := k_sfI n a a (by omega) (by omega) hn
  rw [sfB_self] at hI3
  have hF := k_fv n a (by omega) (by omega)
  have hx0 : (fok n a != fok n a) = false := by simp
  cases hc : sfB n a b with
  | false =>
    rw [hc] at hI hS hI2
    generalize fok n a = p at *
    (refine kon_mk T0ok (fn := Try.f5) (c := Try.f5.body.get rfl) Try.func5 rfl (by rfl) (by rfl) (by rfl) ?_; intro hfit hfe)
    (repeat (first | refine gq_KNP ?_ | (refine ga_KNP ?_; intro _hq)))
    ((try refine aw_ret ?_); refine ret_auto2 (by rfl) (by rfl) (by rfl) (by repeat (first | exact trivial | refine ⟨by first | rfl | omega, ?_⟩)) ?_ (by repeat (first | exact trivial | refine ⟨by rfl, by rfl, ?_⟩)) (by repeat (first | exact trivial | refine ⟨by rfl, by rfl, ?_⟩)); try rfl)
  | true =>
    rw [hc] at hI hS hI2
    have hc' := hc
    unfold sfB at hc'
    simp only [Bool.and_eq_true] at hc'
    obtain ⟨⟨hfa, hfb⟩, hfo⟩ := hc'
    have hfo' := eq_of_beq hfo
    rw [hfa] at hI3 hF hx0
    obtain ⟨hn3, hal, hsta⟩ := fok_t hfa
    obtain ⟨_, hbl, hstb⟩ := fok_t hfb
    obtain ⟨N, rfl⟩ : ∃ N : Nat, n = (N : Int) := ⟨n.toNat, by omega⟩
    have hAO := k_on N a hfa
    have hBO := k_on N b hfb
    rw [show (N : Int).toNat = N from Int.toNat_natCast N] at hfo'
    have heq : ∀ j : Nat, j < 2 ^ N → b2i (clB (N : Int) a (j : Int)) = b2i (clB (N : Int) b (j : Int)) := fun j hj => by
      rw [← foL_get (N : Int) a (2 ^ N) j hj, hfo', foL_get (N : Int) b (2 ^ N) j hj]
    have hCe : foC (N : Int) b (2 ^ N) = foC (N : Int) a (2 ^ N) := (foC_ext heq).symm
    rw [hCe] at hBO
    have hxo : (foC (N : Int) a (2 ^ N) == foC (N : Int) a (2 ^ N)) = true := by simp
    have hL := k_fl (N : Int) a hfa
    have hCA := k_clI (N : Int) a hfa
    have hCB := k_clI (N : Int) b hfb
    obtain ⟨T, hT, hTN⟩ : ∃ T : Nat, (1 * 2 ^ (N : Int).toNat : Int) = (T : Int) ∧ T = 2 ^ N := ⟨2 ^ N, by rw [Int.toNat_natCast]; simp, rfl⟩
    rw [← hTN] at heq
    have hT1 : 1 ≤ T := by rw [hTN]; exact Nat.one_le_two_pow
    generalize foC (N : Int) a (2 ^ N) = O at *
    rcases Nat.decEq a.length b.length with hab | hab
    · have hdl : ((a.length : Int) == (b.length : Int)) = false := by simp; omega
      clear hc hfo hfo' hsta hstb heq
      (refine kon_mk T0ok (fn := Try.f5) (c := Try.f5.body.get rfl) Try.func5 rfl (by rfl) (by rfl) (by rfl) ?_; intro hfit hfe)
      (repeat (first | refine gq_KNP ?_ | (refine ga_KNP ?_; intro _hq)))
      (refine aw_rd [0, 2, 3, 4, 5, 6, 7] [224, 225] (fun i : Nat => [(8, vI i)]) (fun _ => []) (fun i => i = 0) (fun i => 1) 0 (by rfl) (by rfl) ?_ (by rfl) (by repeat (first | exact trivial | refine ⟨by rfl, ?_⟩ | refine ⟨vI_of (by rfl) (by omega), ?_⟩)) (by repeat (first | exact trivial | refine ⟨by rfl, ?_⟩ | refine ⟨vI_of (by rfl) (by omega), ?_⟩)) ?_)
      · rfl
      rintro i rfl
      have hd0 : decide ((((0 : Nat) : Int)) < 1 * 2 ^ (N : Int).toNat) = true := decide_eq_true (by omega)
      (repeat (first | refine gq_KNP ?_ | (refine ga_KNP ?_; intro _hq)))
      ((try refine aw_ret ?_); refine ret_auto2 (by rfl) (by rfl) (by rfl) (by repeat (first | exact trivial | refine ⟨by first | rfl | omega, ?_⟩)) ?_ (by repeat (first | exact trivial | refine ⟨by rfl, by rfl, ?_⟩)) (by repeat (first | exact trivial | refine ⟨by rfl, by rfl, ?_⟩)); try rfl)
      rw [hxo]; rfl
    · have hdl : ((a.length : Int) == (b.length : Int)) = true := by simp; omega
      have hpw := fun w hw => cl_run (w := w) hfa hw
      have hpw2 := fun w hw => cl_run (w := w) hfb hw
      rw [← hab] at hpw2
      have hcoka := cl_ok hfa
      have hcokb := cl_ok hfb
      rw [← hab] at hcokb
      have hla := (cokB_t hcoka).2.1
      have hlb := (cokB_t hcokb).2.1
      generalize cl (N : Int) a = CA at *
      generalize cl (N : Int) b = CB at *
      obtain ⟨L, hLe⟩ : ∃ L : Int, (N : Int) + (a.length : Int) + 1 = L := ⟨_, rfl⟩
      have hL1 : (N : Int) + (a.length : Int) = L - 1 := by omega
      rw [hLe] at hcoka hcokb hL
      rw [hL1] at hpw hpw2
      have hp1 : (2 : Int) ^ (N : Int).toNat ≤ 2 ^ (L - 1).toNat := pow_le2 (by omega)
      have hp2 : (2 : Int) ^ L.toNat = 2 ^ (L - 1).toNat * 2 := by rw [show L.toNat = (L - 1).toNat + 1 by omega, Int.pow_succ]
      have hp3 : (2 : Int) ^ L.toNat ≤ 256 := pow_le2 (b := 8) (by omega)
      have hp4 : (0 : Int) < 2 ^ (L - 1).toNat := Int.pow_pos (by decide)
      clear hc hfo hfo' hsta hstb
      (refine kon_mk T0ok (fn := Try.f5) (c := Try.f5.body.get rfl) Try.func5 rfl (by rfl) (by rfl) (by rfl) ?_; intro hfit hfe)
      (repeat (first | refine gq_KNP ?_ | (refine ga_KNP ?_; intro _hq)))
      (refine aw_rd [0, 2, 3, 4, 5, 6, 7] [224, 225] (fun i : Nat => [(8, vI i)]) (fun _ => []) (fun i => i ≤ T) (fun i => T - i) 0 (by rfl) (by rfl) ?_ (by rfl) (by repeat (first | exact trivial | refine ⟨by rfl, ?_⟩ | refine ⟨vI_of (by rfl) (by omega), ?_⟩)) (by repeat (first | exact trivial | refine ⟨by rfl, ?_⟩ | refine ⟨vI_of (by rfl) (by omega), ?_⟩)) ?_)
      · exact Nat.zero_le _
      rintro i hi
      rcases Nat.lt_or_ge i T with h5 | h5
      · have hd0 : decide ((i : Int) < 1 * 2 ^ (N : Int).toNat) = true := decide_eq_true (by omega)
        have hw : 0 ≤ (i : Int) ∧ (i : Int) < 2 ^ L.toNat := by omega
        have hA := k_crun L CA (i : Int) (by omega) (by omega)
        rw [crM_t hcoka (wvB_mk (by omega) hw), hpw (i : Int) (by omega), heq i h5] at hA
        have hB := k_crun L CB (i : Int) (by omega) (by omega)
        rw [crM_t hcokb (wvB_mk (by omega) hw), hpw2 (i : Int) (by omega)] at hB
        generalize (i : Int) + b2i (clB (N : Int) b (i : Int)) * 2 ^ (L - 1).toNat = O2 at *
        have hx2 : (O2 != O2) = false := by simp
        clear heq hpw hpw2
        (repeat (first | refine gq_KNP ?_ | (refine ga_KNP ?_; intro _hq)))
        exact ⟨i + 1, h5, ⟨by rfl, (by repeat (first | exact trivial | refine ⟨by rfl, ?_⟩ | refine ⟨vI_of (by rfl) (by omega), ?_⟩)), (by repeat (first | exact trivial | refine ⟨by rfl, ?_⟩ | refine ⟨vI_of (by rfl) (by omega), ?_⟩))⟩, (by first | omega | (dsimp only; omega))⟩
      · obtain rfl : i = T := by omega
        have hd0 : decide ((i : Int) < 1 * 2 ^ (N : Int).toNat) = false := decide_eq_false (by omega)
        clear heq hpw hpw2
        (repeat (first | refine gq_KNP ?_ | (refine ga_KNP ?_; intro _hq)))
        ((try refine aw_ret ?_); refine ret_auto2 (by rfl) (by rfl) (by rfl) (by repeat (first | exact trivial | refine ⟨by first | rfl | omega, ?_⟩)) ?_ (by repeat (first | exact trivial | refine ⟨by rfl, by rfl, ?_⟩)) (by repeat (first | exact trivial | refine ⟨by rfl, by rfl, ?_⟩)); try rfl)
        rw [hxo]; rfl
end Go.Proofs.Ytdihmpclbgbgpaa

/- How arguments that came in read: slices of whatever elements. -/
namespace Go.Proofs.Ytdihmpclbgbgpaa
set_option linter.unusedVariables false
set_option linter.unusedSimpArgs false
open Go.ChangeShapes Go.WideShapes Go.ChangeAt Go.RowKit Go.Joins Go.Deep

theorem own : ownKnob Try.prog.godebug = none := by kernel_rfl
theorem laidOut : laidOutB Try.prog = true := by kernel_rfl
/-- The frame of a row's proof, from its walk: the arguments opened by the caller. -/
theorem row_end {H : Type} {enc : TypeId × Value → H} {W : World} {t : TypeId} {v : Value} {d : DataW H} {p : List MemPlace} (h : DataW.Trod enc Try.prog W 0 (fun _ => true) true t v d p) : ∀ x ∈ p, x.block < W.heap.size := by
  obtain ⟨m, hm⟩ := h; exact DataW.trod_lt m _ _ _ hm
theorem add_plain (b off j : Nat) : (⟨b, off, none⟩ : Addr).add j = ⟨b, off + j, none⟩ := by
  unfold Addr.add; split <;> simp_all
theorem list_of {α : Type} (p : Nat → α → Prop) (n : Nat) (h : ∀ j, j < n → ∃ v, p j v) : ∃ l : List α, l.length = n ∧ ∀ j (hj : j < l.length), p j l[j] := by
  induction n with
  | zero => exact ⟨[], rfl, fun j hj => by simp at hj⟩
  | succ n ih =>
    obtain ⟨l, hl, hp⟩ := ih fun j hj => h j (by omega)
    obtain ⟨v, hv⟩ := h n (by omega)
    refine ⟨l ++ [v], by simp [hl], fun j hj => ?_⟩
    by_cases hlt : j < l.length
    · rw [List.getElem_append_left hlt]; exact hp j hlt
    · have e : j = l.length := by simp at hj; omega
      subst e
      simp [hl, hv]
section
variable {H : Type} {enc : TypeId × Value → H} {P : Program} {w : World} {α : Type} [Cel α]
/-- Cells of a type are those of an element. -/
def OpensC (enc : TypeId × Value → H) (P : Program) (w : World) (e : TypeId) (α : Type) [Cel α] : Prop := ∀ n cs x, DataW.trod enc P w 0 (fun _ => true) true n e cs = some x → ∃ a : α, cs = Cel.f a
theorem mapM_get {α β : Type} {f : α → Option β} : ∀ {l : List α} {r : List β}, l.mapM f = some r → r.length = l.length ∧ ∀ (j : Nat) (x : α), l[j]? = some x → ∃ y, r[j]? = some y ∧ f x = some y
  | [], r, h => by
    simp at h; subst h; exact ⟨rfl, fun j x hj => by simp at hj⟩
  | a :: l, r, h => by
    rw [List.mapM_cons] at h
    cases ha : f a with
    | none => simp [ha] at h
    | some y =>
      cases hl : l.mapM f with
      | none => simp [ha, hl] at h
      | some r' =>
        simp [ha, hl] at h
        subst h
        obtain ⟨h1, h2⟩ := mapM_get hl
        refine ⟨by simp [h1], fun j x hj => ?_⟩
        cases j with
        | zero => simp at hj; subst hj; exact ⟨y, rfl, ha⟩
        | succ j => obtain ⟨z, hz, hf⟩ := h2 j x (by simpa using hj); exact ⟨z, by simpa using hz, hf⟩
theorem ro_of_trod {t e : TypeId} {fuel : Nat} {v : Value} {y : DataW H × List MemPlace} (ht : P.underlying t = some (.slice e)) (hc : P.cellsOf e = Cel.sz α) (ho : OpensC enc P w e α)
    (h : DataW.trod enc P w 0 (fun _ => true) true fuel t [v] = some y) : ∃ l : List α, Rep0 w (.g (.one (.ro (Cel.sz α) l.length (cV l)))) v := by
  rcases open_slice ht h with ⟨hcs, _⟩ | ⟨a, len, cap, m, n, D, Pl, hcs, _, hl, hm, hmm, rfl, hx⟩
  · simp at hcs
    subst hcs
    exact ⟨[], ⟨by simp, rfl⟩, none, 0, rfl, Nat.le_refl _, by unfold maxLen; omega, fun h => absurd h (Nat.lt_irrefl _)⟩
  · simp at hcs
    subst hcs
    simp at hmm
    subst hmm
    rw [hc] at hx
    obtain ⟨l, hll, hlp⟩ := list_of (fun j (u : α) => w.cells? 0 (a.add (j * Cel.sz α)) (Cel.sz α) = some (Cel.f u)) len fun j hj => by
      obtain ⟨cs', h1, h2⟩ := hx j (by omega)
      obtain ⟨u, rfl⟩ := ho _ _ _ h2
      exact ⟨u, h1⟩
    have hcell : ∀ (j o : Nat) (hj : j < l.length) (ho : o < Cel.sz α), ∃ x, (Cel.f l[j])[o]? = some x ∧ w.cell? ((a.add (j * Cel.sz α)).add o) = some x := by
      intro j o hj ho
      have h1 := hlp j hj
      unfold World.cells? at h1
      rw [if_pos (Nat.zero_le _)] at h1
      obtain ⟨_, h2⟩ := mapM_get h1
      obtain ⟨x, h3, h4⟩ := h2 o o (by simp [ho])
      exact ⟨x, h3, h4⟩
    refine ⟨l, ⟨by rw [cV_len], cV_one l⟩, some a, m, by rw [hll], by omega, hm, fun hn => ?_⟩
    obtain ⟨b, off, spot⟩ := a
    have hspot : spot = none := by
      obtain ⟨x, _, h2⟩ := hcell 0 0 hn Cel.pos
      have := World.cell?_spot h2
      simpa [Addr.add] using this
    subst hspot
    refine ⟨b, off, rfl, ?_, fun j x hj => ?_⟩
    · obtain ⟨x, _, h2⟩ := hcell 0 0 hn Cel.pos
      rw [add_plain, add_plain] at h2
      exact World.block_lt_of_cell? w _ h2
    · have hpos : 0 < Cel.sz α := Cel.pos
      have hlt : j < l.length * Cel.sz α := by rw [← cV_len]; exact (List.getElem?_eq_some_iff.1 hj).1
      have hdm := Nat.div_add_mod j (Cel.sz α)
      have hml := Nat.mod_lt j hpos
      have hdl : j / Cel.sz α < l.length := Nat.div_lt_of_lt_mul (by rw [Nat.mul_comm]; exact hlt)
      obtain ⟨y, h1, h2⟩ := hcell (j / Cel.sz α) (j % Cel.sz α) hdl hml
      rw [add_plain, add_plain] at h2
      have e1 : l.getD (j / Cel.sz α) Cel.no = l[j / Cel.sz α] := by simp [List.getD_eq_getElem?_getD, hdl]
      have h3 := cV_cell (l := l) (j := j / Cel.sz α) (o := j % Cel.sz α) (v := y) hdl (by rw [e1]; exact h1)
      have e2 : j / Cel.sz α * Cel.sz α + j % Cel.sz α = j := by rw [Nat.mul_comm]; exact hdm
      rw [e2, hj] at h3
      cases h3
      rw [show off + j = off + j / Cel.sz α * Cel.sz α + j % Cel.sz α by omega]
      exact h2
end
section
variable {H : Type} {enc : TypeId × Value → H} {P : Program} {w : World}
theorem opens_byte {e : TypeId} (he : P.underlying e = some (.int .u8)) : OpensC enc P w e UInt8 := by
  intro n cs x h
  obtain ⟨k, h1, _, hw⟩ := DataW.trod_int he h
  have h2 : 0 ≤ k ∧ k < 256 := by
    simp [Lit.wf, IntKind.min, IntKind.max, IntKind.signed, IntKind.bits] at hw
    omega
  refine ⟨UInt8.ofNat k.toNat, ?_⟩
  rw [h1]
  show [Value.int .u8 k] = [Value.int .u8 ((UInt8.ofNat k.toNat).toNat : Int)]
  simp only [UInt8.toNat_ofNat']
  rw [Nat.mod_eq_of_lt (by omega)]
  congr 2
  omega
theorem slice_shape {e t : TypeId} {v : Value} {d : DataW H} {ps : List MemPlace} {r : Reach} {b0 : Nat} (ht : P.underlying t = some (.slice e)) (hval : Value.okWide P w r b0 t v) (h : DataW.Trod enc P w 0 (fun _ => true) true t v d ps) : ∃ fuel y, DataW.trod enc P w 0 (fun _ => true) true fuel t [v] = some y := by
  obtain ⟨A, n, c, rfl⟩ := okWide_slice ht hval
  obtain ⟨fuel, hf⟩ := h
  exact ⟨fuel, _, hf⟩
/-- Bytes that came in. -/
theorem bytes_of_trod {e t : TypeId} {v : Value} {d : DataW H} {ps : List MemPlace} {r : Reach} {b0 : Nat} (ht : P.underlying t = some (.slice e)) (he : P.underlying e = some (.int .u8)) (hc : P.cellsOf e = 1) (hval : Value.okWide P w r b0 t v) (h : DataW.Trod enc P w 0 (fun _ => true) true t v d ps) :
    ∃ l : List UInt8, Rep0 w (roA l) v := by
  obtain ⟨fuel, y, hf⟩ := slice_shape ht hval h
  exact ro_of_trod (α := UInt8) ht hc (opens_byte he) hf
end
section
variable {H : Type} {enc : TypeId × Value → H} {P : Program} {w : World}
end
/-- A law answers true and leaves what was there, by its contract. -/
theorem law_of_kon {P : Program} {f : FuncId} {aa : List AV} (h : Kon P f aa [] (vB true) [] []) {vs : Array Value} {w : World} (hs : vs.size = aa.length) (hr : ∀ (j : Nat) (a : AV), aa[j]? = some a → ∃ z, vs[j]? = some z ∧ Rep0 w a z) :
    Calls P f vs w fun e w' => e = .returned (.bool true) ∧ Below w.heap.size w w' := by
  obtain ⟨C, hC, hCe⟩ := h
  exact law_run hC hCe hs hr
end Go.Proofs.Ytdihmpclbgbgpaa
