/- The first useless pair: the reference. -/
import Derived.Test.YtgifhhefcmmdfaaKGV
import Derived.Test.YtgifhhefcmmdfaaPK
namespace Go.Proofs.Ytgifhhefcmmdfaa
set_option linter.unusedVariables false
set_option linter.unusedSimpArgs false
set_option maxRecDepth 20000
open Go.RowKit
attribute [local irreducible] runA runX AW
theorem gq_KCC {H G : Prop} (k : H) (h : Hid H → G := by (intro hh; (first | (first | ((first | refine r_none ?_ | refine r_gt (by rfl) (by rfl) (by first | rfl | assumption | omega | (simp only [*, Bool.not_false, Bool.not_true]; first | done | fail) | (simp [*]; first | done | fail)) (by rfl) ?_ | refine r_gf (by rfl) (by rfl) (by first | rfl | assumption | omega | (simp only [*, Bool.not_false, Bool.not_true]; first | done | fail) | (simp [*]; first | done | fail)) (by rfl) ?_); (first | fail | ((first | (refine z_op (by rfl) ?_; first | refine z_ok ?_ ?_ | refine z_ex ?_ (by first | exact ft_raw rfl rfl | ((first | refine ft_rp rfl rfl rfl ?_ | refine ft_row rfl rfl rfl ?_ | refine ft_rpF rfl rfl rfl ?_ | refine ft_rowF rfl rfl rfl ?_ | refine up_row rfl rfl ?_ | refine up_rowF rfl rfl rfl ?_ | refine ct_0 rfl ?_ | refine ct_r rfl rfl ?_ | refine ct_c rfl rfl rfl ?_ | refine cu_all rfl ?_ | refine cu_to rfl ?_ | refine cu_from rfl ?_ | refine cu_p rfl ?_ | fail); (first | omega | (simp only [List.length_append, List.length_replicate, List.length_cons, List.length_nil, List.length_set, List.length_take, List.length_drop, true_and]; omega))) | exact up_raw rfl | exact pk_t (by first | rfl | assumption | omega | (simp only [*, Bool.not_false, Bool.not_true]; first | done | fail) | (simp [*]; first | done | fail)) rfl | exact pk_f (by first | rfl | assumption | omega | (simp only [*, Bool.not_false, Bool.not_true]; first | done | fail) | (simp [*]; first | done | fail)) rfl | fail | exact rw_raw | exact pu_cv (fun w => rfl) (by omega) | exact pu_of (fun w => rfl) rfl | exact be_of (fun w => rfl) | exact nc_of (fun _ _ _ _ => rfl) rfl | exact bu_of (fun w => rfl) rfl | (first | exact pu_of (fun w => eq_gate _ _ _ _ _ _ _ _ _ _ w) rfl)) ?_) | ((first | refine q_callE wsT wsZ (by rfl) ?_ | refine q_callVE wsT (by rfl) (by rfl) ?_); refine ⟨_, _, _, (by first | assumption), _, by rfl, ?_, ?_⟩)); focus (first | exact trivial | fail | exact rfl | (first | omega | (simp only [List.length_append, List.length_replicate, List.length_cons, List.length_nil, List.length_set, List.length_take, List.length_drop, true_and]; omega)) | exact cvB (fun w => rfl) | ((repeat' (first | exact rfl | exact cV_len _ | exact cV_ln rfl (by omega) | exact Cel.pos | omega | exact trivial | refine And.intro ?_ ?_)); done) | (simp [*]; done) | (simp; omega))) | fail)) | refine r_nt (by rfl) (by rfl) (by first | rfl | assumption | omega | (simp only [*, Bool.not_false, Bool.not_true]; first | done | fail) | (simp [*]; first | done | fail)) (by rfl) ?_ | refine r_nf (by rfl) (by rfl) (by first | rfl | assumption | omega | (simp only [*, Bool.not_false, Bool.not_true]; first | done | fail) | (simp [*]; first | done | fail)) (by rfl) ?_ | refine r_gu (by rfl) (by rfl) (by rfl) ?_ | refine r_nil ?_) | (first | refine aw_seq ?_ | refine aw_ct (by rfl) (by first | rfl | assumption | omega | (simp only [*, Bool.not_false, Bool.not_true]; first | done | fail) | (simp [*]; first | done | fail)) ?_ | refine aw_cf (by rfl) (by first | rfl | assumption | omega | (simp only [*, Bool.not_false, Bool.not_true]; first | done | fail) | (simp [*]; first | done | fail)) ?_ | refine aw_block ?_ | refine aw_region T0ok cfU_ok (by rfl) ?_ | refine aw_skip ?_ | refine aw_exit ?_ | refine ra_step ?_)); (repeat (first | (first | ((first | refine r_none ?_ | refine r_gt (by rfl) (by rfl) (by first | rfl | assumption | omega | (simp only [*, Bool.not_false, Bool.not_true]; first | done | fail) | (simp [*]; first | done | fail)) (by rfl) ?_ | refine r_gf (by rfl) (by rfl) (by first | rfl | assumption | omega | (simp only [*, Bool.not_false, Bool.not_true]; first | done | fail) | (simp [*]; first | done | fail)) (by rfl) ?_); (first | fail | ((first | (refine z_op (by rfl) ?_; first | refine z_ok ?_ ?_ | refine z_ex ?_ (by first | exact ft_raw rfl rfl | ((first | refine ft_rp rfl rfl rfl ?_ | refine ft_row rfl rfl rfl ?_ | refine ft_rpF rfl rfl rfl ?_ | refine ft_rowF rfl rfl rfl ?_ | refine up_row rfl rfl ?_ | refine up_rowF rfl rfl rfl ?_ | refine ct_0 rfl ?_ | refine ct_r rfl rfl ?_ | refine ct_c rfl rfl rfl ?_ | refine cu_all rfl ?_ | refine cu_to rfl ?_ | refine cu_from rfl ?_ | refine cu_p rfl ?_ | fail); (first | omega | (simp only [List.length_append, List.length_replicate, List.length_cons, List.length_nil, List.length_set, List.length_take, List.length_drop, true_and]; omega))) | exact up_raw rfl | exact pk_t (by first | rfl | assumption | omega | (simp only [*, Bool.not_false, Bool.not_true]; first | done | fail) | (simp [*]; first | done | fail)) rfl | exact pk_f (by first | rfl | assumption | omega | (simp only [*, Bool.not_false, Bool.not_true]; first | done | fail) | (simp [*]; first | done | fail)) rfl | fail | exact rw_raw | exact pu_cv (fun w => rfl) (by omega) | exact pu_of (fun w => rfl) rfl | exact be_of (fun w => rfl) | exact nc_of (fun _ _ _ _ => rfl) rfl | exact bu_of (fun w => rfl) rfl | (first | exact pu_of (fun w => eq_gate _ _ _ _ _ _ _ _ _ _ w) rfl)) ?_) | ((first | refine q_callE wsT wsZ (by rfl) ?_ | refine q_callVE wsT (by rfl) (by rfl) ?_); refine ⟨_, _, _, (by first | assumption), _, by rfl, ?_, ?_⟩)); focus (first | exact trivial | fail | exact rfl | (first | omega | (simp only [List.length_append, List.length_replicate, List.length_cons, List.length_nil, List.length_set, List.length_take, List.length_drop, true_and]; omega)) | exact cvB (fun w => rfl) | ((repeat' (first | exact rfl | exact cV_len _ | exact cV_ln rfl (by omega) | exact Cel.pos | omega | exact trivial | refine And.intro ?_ ?_)); done) | (simp [*]; done) | (simp; omega))) | fail)) | refine r_nt (by rfl) (by rfl) (by first | rfl | assumption | omega | (simp only [*, Bool.not_false, Bool.not_true]; first | done | fail) | (simp [*]; first | done | fail)) (by rfl) ?_ | refine r_nf (by rfl) (by rfl) (by first | rfl | assumption | omega | (simp only [*, Bool.not_false, Bool.not_true]; first | done | fail) | (simp [*]; first | done | fail)) (by rfl) ?_ | refine r_gu (by rfl) (by rfl) (by rfl) ?_ | refine r_nil ?_) | (first | refine aw_seq ?_ | refine aw_ct (by rfl) (by first | rfl | assumption | omega | (simp only [*, Bool.not_false, Bool.not_true]; first | done | fail) | (simp [*]; first | done | fail)) ?_ | refine aw_cf (by rfl) (by first | rfl | assumption | omega | (simp only [*, Bool.not_false, Bool.not_true]; first | done | fail) | (simp [*]; first | done | fail)) ?_ | refine aw_block ?_ | refine aw_region T0ok cfU_ok (by rfl) ?_ | refine aw_skip ?_ | refine aw_exit ?_ | refine ra_step ?_))); exact hh.out)) : G := h ⟨k⟩
theorem ga_KCC {H G : Prop} (k : H) (h : Hid H → G := by (intro hh; (first | refine r_none ?_ | refine r_gt (by rfl) (by rfl) (by first | rfl | assumption | omega | (simp only [*, Bool.not_false, Bool.not_true]; first | done | fail) | (simp [*]; first | done | fail)) (by rfl) ?_ | refine r_gf (by rfl) (by rfl) (by first | rfl | assumption | omega | (simp only [*, Bool.not_false, Bool.not_true]; first | done | fail) | (simp [*]; first | done | fail)) (by rfl) ?_); refine z_op (by rfl) ?_; refine z_al ?_ hh.out; focus (first | exact trivial | fail | exact rfl | (first | omega | (simp only [List.length_append, List.length_replicate, List.length_cons, List.length_nil, List.length_set, List.length_take, List.length_drop, true_and]; omega)) | exact cvB (fun w => rfl) | ((repeat' (first | exact rfl | exact cV_len _ | exact cV_ln rfl (by omega) | exact Cel.pos | omega | exact trivial | refine And.intro ?_ ?_)); done) | (simp [*]; done) | (simp; omega)))) : G := h ⟨k⟩
theorem gs_KCC {H G : Prop} (k : H) (h : Hid H → G := by (intro hh; (first | ((first | refine r_none ?_ | refine r_gt (by rfl) (by rfl) (by first | rfl | assumption | omega | (simp only [*, Bool.not_false, Bool.not_true]; first | done | fail) | (simp [*]; first | done | fail)) (by rfl) ?_ | refine r_gf (by rfl) (by rfl) (by first | rfl | assumption | omega | (simp only [*, Bool.not_false, Bool.not_true]; first | done | fail) | (simp [*]; first | done | fail)) (by rfl) ?_); (first | fail | ((first | (refine z_op (by rfl) ?_; first | refine z_ok ?_ ?_ | refine z_ex ?_ (by first | exact ft_raw rfl rfl | ((first | refine ft_rp rfl rfl rfl ?_ | refine ft_row rfl rfl rfl ?_ | refine ft_rpF rfl rfl rfl ?_ | refine ft_rowF rfl rfl rfl ?_ | refine up_row rfl rfl ?_ | refine up_rowF rfl rfl rfl ?_ | refine ct_0 rfl ?_ | refine ct_r rfl rfl ?_ | refine ct_c rfl rfl rfl ?_ | refine cu_all rfl ?_ | refine cu_to rfl ?_ | refine cu_from rfl ?_ | refine cu_p rfl ?_ | fail); (first | omega | (simp only [List.length_append, List.length_replicate, List.length_cons, List.length_nil, List.length_set, List.length_take, List.length_drop, true_and]; omega))) | exact up_raw rfl | exact pk_t (by first | rfl | assumption | omega | (simp only [*, Bool.not_false, Bool.not_true]; first | done | fail) | (simp [*]; first | done | fail)) rfl | exact pk_f (by first | rfl | assumption | omega | (simp only [*, Bool.not_false, Bool.not_true]; first | done | fail) | (simp [*]; first | done | fail)) rfl | fail | exact rw_raw | exact pu_cv (fun w => rfl) (by omega) | exact pu_of (fun w => rfl) rfl | exact be_of (fun w => rfl) | exact nc_of (fun _ _ _ _ => rfl) rfl | exact bu_of (fun w => rfl) rfl | (first | exact pu_of (fun w => eq_gate _ _ _ _ _ _ _ _ _ _ w) rfl)) ?_) | ((first | refine q_callE wsT wsZ (by rfl) ?_ | refine q_callVE wsT (by rfl) (by rfl) ?_); refine ⟨_, _, _, (by first | assumption), _, by rfl, ?_, ?_⟩)); focus (first | exact trivial | fail | exact rfl | (first | omega | (simp only [List.length_append, List.length_replicate, List.length_cons, List.length_nil, List.length_set, List.length_take, List.length_drop, true_and]; omega)) | exact cvB (fun w => rfl) | ((repeat' (first | exact rfl | exact cV_len _ | exact cV_ln rfl (by omega) | exact Cel.pos | omega | exact trivial | refine And.intro ?_ ?_)); done) | (simp [*]; done) | (simp; omega))) | fail)) | refine r_nt (by rfl) (by rfl) (by first | rfl | assumption | omega | (simp only [*, Bool.not_false, Bool.not_true]; first | done | fail) | (simp [*]; first | done | fail)) (by rfl) ?_ | refine r_nf (by rfl) (by rfl) (by first | rfl | assumption | omega | (simp only [*, Bool.not_false, Bool.not_true]; first | done | fail) | (simp [*]; first | done | fail)) (by rfl) ?_ | refine r_gu (by rfl) (by rfl) (by rfl) ?_ | refine r_nil ?_); (repeat (first | ((first | refine r_none ?_ | refine r_gt (by rfl) (by rfl) (by first | rfl | assumption | omega | (simp only [*, Bool.not_false, Bool.not_true]; first | done | fail) | (simp [*]; first | done | fail)) (by rfl) ?_ | refine r_gf (by rfl) (by rfl) (by first | rfl | assumption | omega | (simp only [*, Bool.not_false, Bool.not_true]; first | done | fail) | (simp [*]; first | done | fail)) (by rfl) ?_); (first | fail | ((first | (refine z_op (by rfl) ?_; first | refine z_ok ?_ ?_ | refine z_ex ?_ (by first | exact ft_raw rfl rfl | ((first | refine ft_rp rfl rfl rfl ?_ | refine ft_row rfl rfl rfl ?_ | refine ft_rpF rfl rfl rfl ?_ | refine ft_rowF rfl rfl rfl ?_ | refine up_row rfl rfl ?_ | refine up_rowF rfl rfl rfl ?_ | refine ct_0 rfl ?_ | refine ct_r rfl rfl ?_ | refine ct_c rfl rfl rfl ?_ | refine cu_all rfl ?_ | refine cu_to rfl ?_ | refine cu_from rfl ?_ | refine cu_p rfl ?_ | fail); (first | omega | (simp only [List.length_append, List.length_replicate, List.length_cons, List.length_nil, List.length_set, List.length_take, List.length_drop, true_and]; omega))) | exact up_raw rfl | exact pk_t (by first | rfl | assumption | omega | (simp only [*, Bool.not_false, Bool.not_true]; first | done | fail) | (simp [*]; first | done | fail)) rfl | exact pk_f (by first | rfl | assumption | omega | (simp only [*, Bool.not_false, Bool.not_true]; first | done | fail) | (simp [*]; first | done | fail)) rfl | fail | exact rw_raw | exact pu_cv (fun w => rfl) (by omega) | exact pu_of (fun w => rfl) rfl | exact be_of (fun w => rfl) | exact nc_of (fun _ _ _ _ => rfl) rfl | exact bu_of (fun w => rfl) rfl | (first | exact pu_of (fun w => eq_gate _ _ _ _ _ _ _ _ _ _ w) rfl)) ?_) | ((first | refine q_callE wsT wsZ (by rfl) ?_ | refine q_callVE wsT (by rfl) (by rfl) ?_); refine ⟨_, _, _, (by first | assumption), _, by rfl, ?_, ?_⟩)); focus (first | exact trivial | fail | exact rfl | (first | omega | (simp only [List.length_append, List.length_replicate, List.length_cons, List.length_nil, List.length_set, List.length_take, List.length_drop, true_and]; omega)) | exact cvB (fun w => rfl) | ((repeat' (first | exact rfl | exact cV_len _ | exact cV_ln rfl (by omega) | exact Cel.pos | omega | exact trivial | refine And.intro ?_ ?_)); done) | (simp [*]; done) | (simp; omega))) | fail)) | refine r_nt (by rfl) (by rfl) (by first | rfl | assumption | omega | (simp only [*, Bool.not_false, Bool.not_true]; first | done | fail) | (simp [*]; first | done | fail)) (by rfl) ?_ | refine r_nf (by rfl) (by rfl) (by first | rfl | assumption | omega | (simp only [*, Bool.not_false, Bool.not_true]; first | done | fail) | (simp [*]; first | done | fail)) (by rfl) ?_ | refine r_gu (by rfl) (by rfl) (by rfl) ?_ | refine r_nil ?_)); exact hh.out)) : G := h ⟨k⟩
theorem gc_KCC {H G : Prop} (k : H) (h : Hid H → G := by (intro hh; (first | refine aw_seq ?_ | refine aw_ct (by rfl) (by first | rfl | assumption | omega | (simp only [*, Bool.not_false, Bool.not_true]; first | done | fail) | (simp [*]; first | done | fail)) ?_ | refine aw_cf (by rfl) (by first | rfl | assumption | omega | (simp only [*, Bool.not_false, Bool.not_true]; first | done | fail) | (simp [*]; first | done | fail)) ?_ | refine aw_block ?_ | refine aw_region T0ok cfU_ok (by rfl) ?_ | refine aw_skip ?_ | refine aw_exit ?_ | refine ra_step ?_); (repeat (first | refine aw_seq ?_ | refine aw_ct (by rfl) (by first | rfl | assumption | omega | (simp only [*, Bool.not_false, Bool.not_true]; first | done | fail) | (simp [*]; first | done | fail)) ?_ | refine aw_cf (by rfl) (by first | rfl | assumption | omega | (simp only [*, Bool.not_false, Bool.not_true]; first | done | fail) | (simp [*]; first | done | fail)) ?_ | refine aw_block ?_ | refine aw_region T0ok cfU_ok (by rfl) ?_ | refine aw_skip ?_ | refine aw_exit ?_ | refine ra_step ?_)); exact hh.out)) : G := h ⟨k⟩
theorem gd_KCC {H G : Prop} (k : H) (h : Hid H → G := by (intro hh; (refine aw_draw mixed T0ok cfU_ok [] (by rfl) (by kernel_rfl) ?_); exact hh.out)) : G := h ⟨k⟩
abbrev prS (x y : Int) : AV := .tup [.one (.v (.int .i64 x)), .one (.v (.int .i64 y))]
/-- The gates between. -/
def seg (l : List Gt) (a b : Nat) : List Gt := (l.drop (a + 1)).take (b - (a + 1))
theorem seg_succ {l : List Gt} {a b : Nat} (h : a + 1 ≤ b) (hb : b < l.length) : seg l a (b + 1) = seg l a b ++ [l.getD b Cel.no] := by
  have e : l.getD b Cel.no = l[b] := by simp [List.getD_eq_getElem?_getD, hb]
  unfold seg
  rw [show b + 1 - (a + 1) = (b - (a + 1)) + 1 by omega]
  have hlt : b - (a + 1) < (l.drop (a + 1)).length := by rw [List.length_drop]; omega
  rw [List.take_succ_eq_append_getElem hlt, List.getElem_drop, e]
  congr 3; omega
def frB (n : Int) (l : List Gt) (a b k : Nat) : Bool := geq (l.getD a Cel.no) (l.getD b Cel.no) && (seg l a k).all (fun x => geq x (l.getD b Cel.no) || apM n x (l.getD b Cel.no))
theorem frB_start (n : Int) (l : List Gt) (a b : Nat) : frB n l a b (a + 1) = geq (l.getD a Cel.no) (l.getD b Cel.no) := by
  unfold frB seg; simp
theorem frB_succ {n : Int} {l : List Gt} {a b k : Nat} (h : a + 1 ≤ k) (hk : k < l.length) : frB n l a b (k + 1) = (frB n l a b k && (geq (l.getD k Cel.no) (l.getD b Cel.no) || apM n (l.getD k Cel.no) (l.getD b Cel.no))) := by
  unfold frB
  rw [seg_succ h hk, List.all_append]
  simp [Bool.and_assoc]
theorem frB_false {n : Int} {l : List Gt} {a b : Nat} : ∀ (d k : Nat), a + 1 ≤ k → k + d ≤ l.length → frB n l a b k = false → frB n l a b (k + d) = false
  | 0, k, _, _, h => h
  | d + 1, k, h1, h2, h => by
    have := frB_false (n := n) (l := l) (a := a) (b := b) d (k + 1) (by omega) (by omega) (by rw [frB_succ h1 (by omega), h]; rfl)
    rwa [show k + (d + 1) = k + 1 + d by omega]
/-- What is known in the middle loop. -/
def Mid (l : List Gt) (a b : Nat) : Prop := ((∀ x ∈ seg l a b, geq x (l.getD a Cel.no) = false ∧ apaB x (l.getD a Cel.no) = true) ∧ uI (l.getD a Cel.no) (l.drop b) b = uI (l.getD a Cel.no) (l.drop (a + 1)) (a + 1)) ∨
  ((∃ x ∈ seg l a b, geq x (l.getD a Cel.no) = false ∧ apaB x (l.getD a Cel.no) = false) ∧ uI (l.getD a Cel.no) (l.drop (a + 1)) (a + 1) = -1)
theorem mid_start (l : List Gt) (a : Nat) : Mid l a (a + 1) := .inl ⟨fun x hx => by unfold seg at hx; simp at hx, rfl⟩
theorem apM_ok {n : Int} {x y : Gt} (hx : gok n x = true) (hy : gok n y = true) : apM n x y = apaB x y := by unfold apM; rw [hx, hy]; rfl
theorem seg_ok {n : Int} {l : List Gt} (h : l.all (gok n) = true) {a b : Nat} : ∀ x ∈ seg l a b, gok n x = true := by
  intro x hx
  rw [List.all_eq_true] at h
  exact h x (List.mem_of_mem_drop (List.mem_of_mem_take hx))
theorem mid_found {n : Int} {l : List Gt} (h : l.all (gok n) = true) {a b : Nat} (ha : a + 1 ≤ b) (hb : b < l.length) (hm : Mid l a b) (hf : frB n l a b b = true) : usl (l.drop a) a = ((a : Int), (b : Int)) := by
  unfold frB at hf
  rw [Bool.and_eq_true] at hf
  obtain ⟨h1, h2⟩ := hf
  have e : l.getD a Cel.no = l.getD b Cel.no := geq_iff.1 h1
  rcases hm with ⟨m1, m2⟩ | ⟨⟨x, hx, m1, m2⟩, _⟩
  · have hu : uI (l.getD a Cel.no) (l.drop b) b = (b : Int) := by
      rw [uI_drop hb, ← e, geq_refl]; rfl
    rw [usl_drop (by omega), ← m2, hu, decide_eq_true (by omega)]; rfl
  · have := List.all_eq_true.1 h2 x hx
    rw [← e, m1, Bool.false_or, apM_ok (seg_ok h x hx) (all_at h (by omega)), m2] at this
    cases this
theorem mid_next {n : Int} {l : List Gt} (h : l.all (gok n) = true) {a b : Nat} (ha : a + 1 ≤ b) (hb : b < l.length) (hm : Mid l a b) (hf : frB n l a b b = false) : Mid l a (b + 1) := by
  unfold Mid
  rw [seg_succ ha hb]
  rcases hm with ⟨m1, m2⟩ | ⟨⟨x, hx, m1, m2⟩, m3⟩
  · have hne : geq (l.getD b Cel.no) (l.getD a Cel.no) = false := by
      cases hq : geq (l.getD b Cel.no) (l.getD a Cel.no) with
      | false => rfl
      | true =>
        have e : l.getD b Cel.no = l.getD a Cel.no := geq_iff.1 hq
        have : frB n l a b b = true := by
          unfold frB
          rw [e, geq_refl, Bool.true_and, List.all_eq_true]
          intro x hx
          rw [apM_ok (seg_ok h x hx) (all_at h (by omega)), (m1 x hx).2, Bool.or_true]
        rw [this] at hf; cases hf
    rw [uI_drop hb, hne] at m2
    dsimp only [cond_false] at m2
    cases hap : apaB (l.getD b Cel.no) (l.getD a Cel.no) with
    | true =>
      rw [hap] at m2
      left
      refine ⟨fun x hx => ?_, m2⟩
      rcases List.mem_append.1 hx with hx | hx
      · exact m1 x hx
      · rw [List.mem_singleton.1 hx]; exact ⟨hne, hap⟩
    | false =>
      rw [hap] at m2
      right
      exact ⟨⟨_, List.mem_append_right _ (List.mem_singleton.2 rfl), hne, hap⟩, m2.symm⟩
  · exact .inr ⟨⟨x, List.mem_append_left _ hx, m1, m2⟩, m3⟩
theorem mid_end {l : List Gt} {a : Nat} (ha : a < l.length) (hm : Mid l a l.length) : usl (l.drop a) a = usl (l.drop (a + 1)) (a + 1) := by
  have hu : uI (l.getD a Cel.no) (l.drop (a + 1)) (a + 1) = -1 := by
    rcases hm with ⟨_, m2⟩ | ⟨_, m2⟩
    · rw [List.drop_of_length_le (Nat.le_refl _), uI] at m2; exact m2.symm
    · exact m2
  rw [usl_drop ha, hu]; rfl
theorem k_uspS0 (n : Int) (l : List Gt) (hl : l.length ≤ 1000) (hr : -9223372036854775808 ≤ n ∧ n ≤ 9223372036854775807) (h : cokB n l = false) : Kon Try.prog 57 [vI n, roA l] [] (prS (-1) (-1)) [] [] := by
  have hC := k_cvS n l (by omega) hr
  rw [h] at hC
  cases hd : decide (((0 : Nat) : Int) < (l.length : Int)) with
  | true =>
    have hd2 : decide (0 < (l.length : Int)) = true := hd
    (refine kon_mk T0ok (fn := Try.f57) (c := Try.f57.body.get rfl) Try.func57 rfl (by rfl) (by rfl) (by rfl) ?_; intro hfit hfe)
    (repeat (first | refine gq_KCC ?_ | (refine ga_KCC ?_; intro _q ⟨_he, _hq⟩)))
    refine aw_unroll 1 ?_
    (repeat (first | refine gq_KCC ?_ | (refine ga_KCC ?_; intro _q ⟨_he, _hq⟩)))
    ((try refine aw_ret ?_); refine ret_auto2 (by rfl) (by rfl) (by rfl) (by repeat (first | exact trivial | refine ⟨by first | rfl | omega, ?_⟩)) ?_ (by repeat (first | exact trivial | refine ⟨by rfl, by rfl, ?_⟩)) (by repeat (first | exact trivial | refine ⟨by rfl, by rfl, ?_⟩)); try rfl)
  | false =>
    have hd2 : decide (0 < (l.length : Int)) = false := hd
    (refine kon_mk T0ok (fn := Try.f57) (c := Try.f57.body.get rfl) Try.func57 rfl (by rfl) (by rfl) (by rfl) ?_; intro hfit hfe)
    (repeat (first | refine gq_KCC ?_ | (refine ga_KCC ?_; intro _q ⟨_he, _hq⟩)))
    refine aw_unroll 1 ?_
    (repeat (first | refine gq_KCC ?_ | (refine ga_KCC ?_; intro _q ⟨_he, _hq⟩)))
    ((try refine aw_ret ?_); refine ret_auto2 (by rfl) (by rfl) (by rfl) (by repeat (first | exact trivial | refine ⟨by first | rfl | omega, ?_⟩)) ?_ (by repeat (first | exact trivial | refine ⟨by rfl, by rfl, ?_⟩)) (by repeat (first | exact trivial | refine ⟨by rfl, by rfl, ?_⟩)); try rfl)
set_option maxHeartbeats 4000000 in
theorem k_uspS (n : Int) (l : List Gt) (h : cokB n l = true) : Kon Try.prog 57 [vI n, roA l] [] (prS (usl l 0).1 (usl l 0).2) [] [] := by
  obtain ⟨hn, hl, ha⟩ := cokB_t h
  have hC := k_cvS n l (by omega) (by omega)
  rw [h] at hC
  (refine kon_mk T0ok (fn := Try.f57) (c := Try.f57.body.get rfl) Try.func57 rfl (by rfl) (by rfl) (by rfl) ?_; intro hfit hfe)
  (repeat (first | refine gq_KCC ?_ | (refine ga_KCC ?_; intro _q ⟨_he, _hq⟩)))
  (refine aw_rd [0, 1, 4, 5] [] (fun i : Nat => [(6, vI i)]) (fun _ => []) (fun i => i ≤ l.length ∧ usl (l.drop i) i = usl l 0) (fun i => l.length - i) 0 (by rfl) (by rfl) ?_ (by rfl) (by repeat (first | exact trivial | refine ⟨by rfl, ?_⟩ | refine ⟨vI_of (by rfl) (by omega), ?_⟩)) (by repeat (first | exact trivial | refine ⟨by rfl, ?_⟩ | refine ⟨vI_of (by rfl) (by omega), ?_⟩)) ?_)
  · exact ⟨Nat.zero_le _, by rw [List.drop_zero]⟩
  rintro i ⟨hi, hz⟩
  rcases Nat.lt_or_ge i l.length with h5 | h5
  · have hd : decide ((i : Int) < (l.length : Int)) = true := decide_eq_true (by omega)
    (repeat (first | refine gq_KCC ?_ | (refine ga_KCC ?_; intro _q ⟨_he, _hq⟩)))
    (refine aw_rd [0, 1, 4, 5, 6] [] (fun b : Nat => [(7, vI b)]) (fun _ => []) (fun b => i + 1 ≤ b ∧ b ≤ l.length ∧ Mid l i b) (fun b => l.length - b) (i + 1) (by rfl) (by rfl) ?_ (by rfl) (by repeat (first | exact trivial | refine ⟨by rfl, ?_⟩ | refine ⟨vI_of (by rfl) (by omega), ?_⟩)) (by repeat (first | exact trivial | refine ⟨by rfl, ?_⟩ | refine ⟨vI_of (by rfl) (by omega), ?_⟩)) ?_)
    · exact ⟨Nat.le_refl _, h5, mid_start l i⟩
    rintro b ⟨hb1, hb2, hm⟩
    rcases Nat.lt_or_ge b l.length with h6 | h6
    · have hd2 : decide ((b : Int) < (l.length : Int)) = true := decide_eq_true (by omega)
      (repeat (first | refine gq_KCC ?_ | (refine ga_KCC ?_; intro _q ⟨_he, _hq⟩)))
      (refine aw_draw mixed T0ok cfU_ok [] (by rfl) (by kernel_rfl) ?_)
      (repeat (first | refine gq_KCC ?_ | (refine ga_KCC ?_; intro _q ⟨_he, _hq⟩)))
      refine aw_rd [0, 1, 4, 5, 6, 7] [] (fun g : Nat × Bool => [(8, vB g.2), (9, vI g.1)]) (fun _ => []) (fun g => (i + 1 ≤ g.1 ∧ g.1 ≤ b) ∧ g.2 = frB n l i b g.1) (fun g => b - g.1) (i + 1, geq (l.getD i Cel.no) (l.getD b Cel.no)) (by rfl) (by rfl) ?_ (by rfl) (by repeat (first | exact trivial | refine ⟨by rfl, ?_⟩ | refine ⟨vI_of (by rfl) (by omega), ?_⟩)) (by repeat (first | exact trivial | refine ⟨by rfl, ?_⟩ | refine ⟨vI_of (by rfl) (by omega), ?_⟩)) ?_
      · exact ⟨⟨Nat.le_refl _, hb1⟩, (frB_start n l i b).symm⟩
      rintro ⟨k, f⟩ ⟨⟨hk1, hk2⟩, hf⟩
      dsimp only at hk1 hk2 hf ⊢
      have fin : (k = b ∨ f = false) → f = frB n l i b b := by
        rintro (rfl | rfl)
        · exact hf
        · have := frB_false (n := n) (l := l) (a := i) (b := b) (b - k) k hk1 (by omega) hf.symm
          rw [show k + (b - k) = b by omega] at this
          exact this.symm
      cases hkb : decide ((k : Int) < (b : Int)) with
      | false =>
        have hk3 : k = b := by have := of_decide_eq_false hkb; omega
        have hff := fin (.inl hk3)
        clear fin
        cases f with
        | true =>
          have hu := mid_found ha hb1 h6 hm hff.symm
          rw [← hz, hu]
          clear hz hu hm hff hf
          (repeat (first | refine gq_KCC ?_ | (refine ga_KCC ?_; intro _q ⟨_he, _hq⟩)))
          ((try refine aw_ret ?_); refine ret_auto2 (by rfl) (by rfl) (by rfl) (by repeat (first | exact trivial | refine ⟨by first | rfl | omega, ?_⟩)) ?_ (by repeat (first | exact trivial | refine ⟨by rfl, by rfl, ?_⟩)) (by repeat (first | exact trivial | refine ⟨by rfl, by rfl, ?_⟩)); try rfl)
        | false =>
          have hm2 := mid_next ha hb1 h6 hm hff.symm
          have hinv : i + 1 ≤ b + 1 ∧ b + 1 ≤ l.length ∧ Mid l i (b + 1) := ⟨by omega, h6, hm2⟩
          clear hz hm hff hf hm2
          (repeat (first | refine gq_KCC ?_ | (refine ga_KCC ?_; intro _q ⟨_he, _hq⟩)))
          exact ⟨b + 1, hinv, ⟨by rfl, (by repeat (first | exact trivial | refine ⟨by rfl, ?_⟩ | refine ⟨vI_of (by rfl) (by omega), ?_⟩)), (by repeat (first | exact trivial | refine ⟨by rfl, ?_⟩ | refine ⟨vI_of (by rfl) (by omega), ?_⟩))⟩, (by first | omega | (dsimp only; omega))⟩
      | true =>
        have hk3 : k < b := by have := of_decide_eq_true hkb; omega
        cases f with
        | false =>
          have hff := fin (.inr rfl)
          clear fin
          have hm2 := mid_next ha hb1 h6 hm hff.symm
          have hinv : i + 1 ≤ b + 1 ∧ b + 1 ≤ l.length ∧ Mid l i (b + 1) := ⟨by omega, h6, hm2⟩
          clear hz hm hff hf hm2
          (repeat (first | refine gq_KCC ?_ | (refine ga_KCC ?_; intro _q ⟨_he, _hq⟩)))
          exact ⟨b + 1, hinv, ⟨by rfl, (by repeat (first | exact trivial | refine ⟨by rfl, ?_⟩ | refine ⟨vI_of (by rfl) (by omega), ?_⟩)), (by repeat (first | exact trivial | refine ⟨by rfl, ?_⟩ | refine ⟨vI_of (by rfl) (by omega), ?_⟩))⟩, (by first | omega | (dsimp only; omega))⟩
        | true =>
          clear fin
          have hs := frB_succ (n := n) (l := l) (a := i) (b := b) hk1 (show k < l.length by omega)
          rw [← hf, Bool.true_and] at hs
          have hA := k_apS n (l.getD k Cel.no) (l.getD b Cel.no) (by omega)
          cases hge : geq (l.getD k Cel.no) (l.getD b Cel.no) with
          | true =>
            have hge' : ((l.getD (k : Int).toNat Cel.no : Gt).k == (l.getD (b : Int).toNat Cel.no : Gt).k && ((l.getD (k : Int).toNat Cel.no : Gt).a == (l.getD (b : Int).toNat Cel.no : Gt).a && ((l.getD (k : Int).toNat Cel.no : Gt).b == (l.getD (b : Int).toNat Cel.no : Gt).b && (l.getD (k : Int).toNat Cel.no : Gt).c == (l.getD (b : Int).toNat Cel.no : Gt).c))) = true := hge
            rw [hge, Bool.true_or] at hs
            have hinv : (i + 1 ≤ k + 1 ∧ k + 1 ≤ b) ∧ true = frB n l i b (k + 1) := ⟨by omega, hs.symm⟩
            clear hz hm hf hge hs
            (repeat (first | refine gq_KCC ?_ | (refine ga_KCC ?_; intro _q ⟨_he, _hq⟩) | refine gd_KCC ?_))
            exact ⟨(k + 1, true), hinv, ⟨by rfl, (by repeat (first | exact trivial | refine ⟨by rfl, ?_⟩ | refine ⟨vI_of (by rfl) (by omega), ?_⟩)), (by repeat (first | exact trivial | refine ⟨by rfl, ?_⟩ | refine ⟨vI_of (by rfl) (by omega), ?_⟩))⟩, (by first | omega | (dsimp only; omega))⟩
          | false =>
            have hge' : ((l.getD (k : Int).toNat Cel.no : Gt).k == (l.getD (b : Int).toNat Cel.no : Gt).k && ((l.getD (k : Int).toNat Cel.no : Gt).a == (l.getD (b : Int).toNat Cel.no : Gt).a && ((l.getD (k : Int).toNat Cel.no : Gt).b == (l.getD (b : Int).toNat Cel.no : Gt).b && (l.getD (k : Int).toNat Cel.no : Gt).c == (l.getD (b : Int).toNat Cel.no : Gt).c))) = false := hge
            rw [hge, Bool.false_or] at hs
            have hinv : (i + 1 ≤ k + 1 ∧ k + 1 ≤ b) ∧ apM n (l.getD k Cel.no) (l.getD b Cel.no) = frB n l i b (k + 1) := ⟨by omega, hs.symm⟩
            clear hz hm hf hge hs
            (repeat (first | refine gq_KCC ?_ | (refine ga_KCC ?_; intro _q ⟨_he, _hq⟩) | refine gd_KCC ?_))
            exact ⟨(k + 1, apM n (l.getD k Cel.no) (l.getD b Cel.no)), hinv, ⟨by rfl, (by repeat (first | exact trivial | refine ⟨by rfl, ?_⟩ | refine ⟨vI_of (by rfl) (by omega), ?_⟩)), (by repeat (first | exact trivial | refine ⟨by rfl, ?_⟩ | refine ⟨vI_of (by rfl) (by omega), ?_⟩))⟩, (by first | omega | (dsimp only; omega))⟩
    · have hd2 : decide ((b : Int) < (l.length : Int)) = false := decide_eq_false (by omega)
      have hbl : b = l.length := by omega
      subst hbl
      have he := mid_end h5 hm
      have hinv : i + 1 ≤ l.length ∧ usl (l.drop (i + 1)) (i + 1) = usl l 0 := ⟨h5, he.symm.trans hz⟩
      clear hz hm he
      (repeat (first | refine gq_KCC ?_ | (refine ga_KCC ?_; intro _q ⟨_he, _hq⟩)))
      exact ⟨i + 1, hinv, ⟨by rfl, (by repeat (first | exact trivial | refine ⟨by rfl, ?_⟩ | refine ⟨vI_of (by rfl) (by omega), ?_⟩)), (by repeat (first | exact trivial | refine ⟨by rfl, ?_⟩ | refine ⟨vI_of (by rfl) (by omega), ?_⟩))⟩, (by first | omega | (dsimp only; omega))⟩
  · have hd : decide ((i : Int) < (l.length : Int)) = false := decide_eq_false (by omega)
    rw [List.drop_of_length_le h5, usl] at hz
    rw [← hz]
    clear hz
    (repeat (first | refine gq_KCC ?_ | (refine ga_KCC ?_; intro _q ⟨_he, _hq⟩)))
    ((try refine aw_ret ?_); refine ret_auto2 (by rfl) (by rfl) (by rfl) (by repeat (first | exact trivial | refine ⟨by first | rfl | omega, ?_⟩)) ?_ (by repeat (first | exact trivial | refine ⟨by rfl, by rfl, ?_⟩)) (by repeat (first | exact trivial | refine ⟨by rfl, by rfl, ?_⟩)); try rfl)
end Go.Proofs.Ytgifhhefcmmdfaa
