/- KCC, KBP, KME, KGK, KGL, KEA, KEB, KEC, KED, KEF: laid into one text. -/
import Derived.Test.YteagoafamjbpbaaQBenchRunG

/- The first useless pair: the reference. -/
namespace Go.Proofs.Yteagoafamjbpbaa
set_option linter.unusedVariables false
set_option linter.unusedSimpArgs false
set_option maxRecDepth 20000
open Go.RowKit
attribute [local irreducible] runA runX AW
theorem gq_KCC {H G : Prop} (k : H) (h : Hid H → G := by (intro hh; (first | (first | ((first | refine r_none ?_ | refine r_gt (by rfl) (by rfl) (by first | rfl | assumption | omega | (simp only [*, Bool.not_false, Bool.not_true]; first | done | fail) | (simp [*]; first | done | fail)) (by rfl) ?_ | refine r_gf (by rfl) (by rfl) (by first | rfl | assumption | omega | (simp only [*, Bool.not_false, Bool.not_true]; first | done | fail) | (simp [*]; first | done | fail)) (by rfl) ?_); (first | fail | ((first | (refine z_op (by rfl) ?_; first | refine z_ok ?_ ?_ | refine z_ex ?_ (by first | exact ft_raw rfl rfl | ((first | refine ft_rp rfl rfl rfl ?_ | refine ft_row rfl rfl rfl ?_ | refine ft_rpF rfl rfl rfl ?_ | refine ft_rowF rfl rfl rfl ?_ | refine up_row rfl rfl ?_ | refine up_rowF rfl rfl rfl ?_ | refine ct_0 rfl ?_ | refine ct_r rfl rfl ?_ | refine ct_c rfl rfl rfl ?_ | refine cu_all rfl ?_ | refine cu_to rfl ?_ | refine cu_from rfl ?_ | refine cu_p rfl ?_ | fail); (first | omega | (simp only [List.length_append, List.length_replicate, List.length_cons, List.length_nil, List.length_set, List.length_take, List.length_drop, true_and]; omega))) | exact up_raw rfl | exact pk_t (by first | rfl | assumption | omega | (simp only [*, Bool.not_false, Bool.not_true]; first | done | fail) | (simp [*]; first | done | fail)) rfl | exact pk_f (by first | rfl | assumption | omega | (simp only [*, Bool.not_false, Bool.not_true]; first | done | fail) | (simp [*]; first | done | fail)) rfl | fail | exact rw_raw | exact pu_cv (fun w => rfl) (by omega) | exact pu_of (fun w => rfl) rfl | exact be_of (fun w => rfl) | exact nc_of (fun _ _ _ _ => rfl) rfl | exact bu_of (fun w => rfl) rfl | (first | exact pu_of (fun w => eq_gate _ _ _ _ _ _ _ _ _ _ w) rfl)) ?_) | ((first | refine q_callE wsT wsZ (by rfl) ?_ | refine q_callVE wsT (by rfl) (by rfl) ?_); refine ⟨_, _, _, (by first | assumption), _, by rfl, ?_, ?_⟩)); focus (first | exact trivial | fail | exact rfl | (first | omega | (simp only [List.length_append, List.length_replicate, List.length_cons, List.length_nil, List.length_set, List.length_take, List.length_drop, true_and]; omega)) | exact cvB (fun w => rfl) | ((repeat' (first | exact rfl | exact cV_len _ | exact cV_ln rfl (by omega) | exact Cel.pos | omega | exact trivial | refine And.intro ?_ ?_)); done) | (simp [*]; done) | (simp; omega))) | fail)) | refine r_nt (by rfl) (by rfl) (by first | rfl | assumption | omega | (simp only [*, Bool.not_false, Bool.not_true]; first | done | fail) | (simp [*]; first | done | fail)) (by rfl) ?_ | refine r_nf (by rfl) (by rfl) (by first | rfl | assumption | omega | (simp only [*, Bool.not_false, Bool.not_true]; first | done | fail) | (simp [*]; first | done | fail)) (by rfl) ?_ | refine r_gu (by rfl) (by rfl) (by rfl) ?_ | refine r_nil ?_) | (first | refine aw_seq ?_ | refine aw_ct (by rfl) (by first | rfl | assumption | omega | (simp only [*, Bool.not_false, Bool.not_true]; first | done | fail) | (simp [*]; first | done | fail)) ?_ | refine aw_cf (by rfl) (by first | rfl | assumption | omega | (simp only [*, Bool.not_false, Bool.not_true]; first | done | fail) | (simp [*]; first | done | fail)) ?_ | refine aw_block ?_ | refine aw_region T0ok cfU_ok (by rfl) ?_ | refine aw_skip ?_ | refine aw_exit ?_ | refine ra_step ?_)); (repeat (first | (first | ((first | refine r_none ?_ | refine r_gt (by rfl) (by rfl) (by first | rfl | assumption | omega | (simp only [*, Bool.not_false, Bool.not_true]; first | done | fail) | (simp [*]; first | done | fail)) (by rfl) ?_ | refine r_gf (by rfl) (by rfl) (by first | rfl | assumption | omega | (simp only [*, Bool.not_false, Bool.not_true]; first | done | fail) | (simp [*]; first | done | fail)) (by rfl) ?_); (first | fail | ((first | (refine z_op (by rfl) ?_; first | refine z_ok ?_ ?_ | refine z_ex ?_ (by first | exact ft_raw rfl rfl | ((first | refine ft_rp rfl rfl rfl ?_ | refine ft_row rfl rfl rfl ?_ | refine ft_rpF rfl rfl rfl ?_ | refine ft_rowF rfl rfl rfl ?_ | refine up_row rfl rfl ?_ | refine up_rowF rfl rfl rfl ?_ | refine ct_0 rfl ?_ | refine ct_r rfl rfl ?_ | refine ct_c rfl rfl rfl ?_ | refine cu_all rfl ?_ | refine cu_to rfl ?_ | refine cu_from rfl ?_ | refine cu_p rfl ?_ | fail); (first | omega | (simp only [List.length_append, List.length_replicate, List.length_cons, List.length_nil, List.length_set, List.length_take, List.length_drop, true_and]; omega))) | exact up_raw rfl | exact pk_t (by first | rfl | assumption | omega | (simp only [*, Bool.not_false, Bool.not_true]; first | done | fail) | (simp [*]; first | done | fail)) rfl | exact pk_f (by first | rfl | assumption | omega | (simp only [*, Bool.not_false, Bool.not_true]; first | done | fail) | (simp [*]; first | done | fail)) rfl | fail | exact rw_raw | exact pu_cv (fun w => rfl) (by omega) | exact pu_of (fun w => rfl) rfl | exact be_of (fun w => rfl) | exact nc_of (fun _ _ _ _ => rfl) rfl | exact bu_of (fun w => rfl) rfl | (first | exact pu_of (fun w => eq_gate _ _ _ _ _ _ _ _ _ _ w) rfl)) ?_) | ((first | refine q_callE wsT wsZ (by rfl) ?_ | refine q_callVE wsT (by rfl) (by rfl) ?_); refine ⟨_, _, _, (by first | assumption), _, by rfl, ?_, ?_⟩)); focus (first | exact trivial | fail | exact rfl | (first | omega | (simp only [List.length_append, List.length_replicate, List.length_cons, List.length_nil, List.length_set, List.length_take, List.length_drop, true_and]; omega)) | exact cvB (fun w => rfl) | ((repeat' (first | exact rfl | exact cV_len _ | exact cV_ln rfl (by omega) | exact Cel.pos | omega | exact trivial | refine And.intro ?_ ?_)); done) | (simp [*]; done) | (simp; omega))) | fail)) | refine r_nt (by rfl) (by rfl) (by first | rfl | assumption | omega | (simp only [*, Bool.not_false, Bool.not_true]; first | done | fail) | (simp [*]; first | done | fail)) (by rfl) ?_ | refine r_nf (by rfl) (by rfl) (by first | rfl | assumption | omega | (simp only [*, Bool.not_false, Bool.not_true]; first | done | fail) | (simp [*]; first | done | fail)) (by rfl) ?_ | refine r_gu (by rfl) (by rfl) (by rfl) ?_ | refine r_nil ?_) | (first | refine aw_seq ?_ | refine aw_ct (by rfl) (by first | rfl | assumption | omega | (simp only [*, Bool.not_false, Bool.not_true]; first | done | fail) | (simp [*]; first | done | fail)) ?_ | refine aw_cf (by rfl) (by first | rfl | assumption | omega | (simp only [*, Bool.not_false, Bool.not_true]; first | done | fail) | (simp [*]; first | done | fail)) ?_ | refine aw_block ?_ | refine aw_region T0ok cfU_ok (by rfl) ?_ | refine aw_skip ?_ | refine aw_exit ?_ | refine ra_step ?_))); exact hh.out)) : G := h ⟨k⟩
theorem ga_KCC {H G : Prop} (k : H) (h : Hid H → G := by (intro hh; (first | refine r_none ?_ | refine r_gt (by rfl) (by rfl) (by first | rfl | assumption | omega | (simp only [*, Bool.not_false, Bool.not_true]; first | done | fail) | (simp [*]; first | done | fail)) (by rfl) ?_ | refine r_gf (by rfl) (by rfl) (by first | rfl | assumption | omega | (simp only [*, Bool.not_false, Bool.not_true]; first | done | fail) | (simp [*]; first | done | fail)) (by rfl) ?_); refine z_op (by rfl) ?_; refine z_al ?_ hh.out; focus (first | exact trivial | fail | exact rfl | (first | omega | (simp only [List.length_append, List.length_replicate, List.length_cons, List.length_nil, List.length_set, List.length_take, List.length_drop, true_and]; omega)) | exact cvB (fun w => rfl) | ((repeat' (first | exact rfl | exact cV_len _ | exact cV_ln rfl (by omega) | exact Cel.pos | omega | exact trivial | refine And.intro ?_ ?_)); done) | (simp [*]; done) | (simp; omega)))) : G := h ⟨k⟩
theorem gd_KCC {H G : Prop} (k : H) (h : Hid H → G := by (intro hh; (refine aw_draw mixed T0ok cfU_ok [] (by rfl) (by kernel_rfl) ?_); exact hh.out)) : G := h ⟨k⟩
abbrev prS (x y : Int) : AV := .tup [.one (.v (.int .i64 x)), .one (.v (.int .i64 y))]
/-- The gates between. -/
def seg (l : List Gt) (a b : Nat) : List Gt := (l.drop (a + 1)).take (b - (a + 1))
theorem seg_succ {l : List Gt} {a b : Nat} (h : a + 1 ≤ b) (hb : b < l.length) : seg l a (b + 1) = seg l a b ++ [l.getD b Cel.no] := by
  have e : l.getD b Cel.no = l[b] := by simp [List.getD_eq_getElem?_getD, hb]
  unfold seg
  rw [show b + 1 - (a + 1) = (b - (a + 1)) + 1 by omega]
  have hlt : b - (a + 1) < (l.drop (a + 1)).length := by rw [List.length_drop]; omega
  rw [List.take_succ_eq_append_getElem hlt, List.getElem_drop, e]
  congr 3; omega
def frB (n : Int) (l : List Gt) (a b k : Nat) : Bool := geq (l.getD a Cel.no) (l.getD b Cel.no) && (seg l a k).all (fun x => geq x (l.getD b Cel.no) || apM n x (l.getD b Cel.no))
theorem frB_start (n : Int) (l : List Gt) (a b : Nat) : frB n l a b (a + 1) = geq (l.getD a Cel.no) (l.getD b Cel.no) := by
  unfold frB seg; simp
theorem frB_succ {n : Int} {l : List Gt} {a b k : Nat} (h : a + 1 ≤ k) (hk : k < l.length) : frB n l a b (k + 1) = (frB n l a b k && (geq (l.getD k Cel.no) (l.getD b Cel.no) || apM n (l.getD k Cel.no) (l.getD b Cel.no))) := by
  unfold frB
  rw [seg_succ h hk, List.all_append]
  simp [Bool.and_assoc]
theorem frB_false {n : Int} {l : List Gt} {a b : Nat} : ∀ (d k : Nat), a + 1 ≤ k → k + d ≤ l.length → frB n l a b k = false → frB n l a b (k + d) = false
  | 0, k, _, _, h => h
  | d + 1, k, h1, h2, h => by
    have := frB_false (n := n) (l := l) (a := a) (b := b) d (k + 1) (by omega) (by omega) (by rw [frB_succ h1 (by omega), h]; rfl)
    rwa [show k + (d + 1) = k + 1 + d by omega]
/-- What is known in the middle loop. -/
def Mid (l : List Gt) (a b : Nat) : Prop := ((∀ x ∈ seg l a b, geq x (l.getD a Cel.no) = false ∧ apaB x (l.getD a Cel.no) = true) ∧ uI (l.getD a Cel.no) (l.drop b) b = uI (l.getD a Cel.no) (l.drop (a + 1)) (a + 1)) ∨
  ((∃ x ∈ seg l a b, geq x (l.getD a Cel.no) = false ∧ apaB x (l.getD a Cel.no) = false) ∧ uI (l.getD a Cel.no) (l.drop (a + 1)) (a + 1) = -1)
theorem mid_start (l : List Gt) (a : Nat) : Mid l a (a + 1) := .inl ⟨fun x hx => by unfold seg at hx; simp at hx, rfl⟩
theorem apM_ok {n : Int} {x y : Gt} (hx : gok n x = true) (hy : gok n y = true) : apM n x y = apaB x y := by unfold apM; rw [hx, hy]; rfl
theorem seg_ok {n : Int} {l : List Gt} (h : l.all (gok n) = true) {a b : Nat} : ∀ x ∈ seg l a b, gok n x = true := by
  intro x hx
  rw [List.all_eq_true] at h
  exact h x (List.mem_of_mem_drop (List.mem_of_mem_take hx))
theorem mid_found {n : Int} {l : List Gt} (h : l.all (gok n) = true) {a b : Nat} (ha : a + 1 ≤ b) (hb : b < l.length) (hm : Mid l a b) (hf : frB n l a b b = true) : usl (l.drop a) a = ((a : Int), (b : Int)) := by
  unfold frB at hf
  rw [Bool.and_eq_true] at hf
  obtain ⟨h1, h2⟩ := hf
  have e : l.getD a Cel.no = l.getD b Cel.no := geq_iff.1 h1
  rcases hm with ⟨m1, m2⟩ | ⟨⟨x, hx, m1, m2⟩, _⟩
  · have hu : uI (l.getD a Cel.no) (l.drop b) b = (b : Int) := by
      rw [uI_drop hb, ← e, geq_refl]; rfl
    rw [usl_drop (by omega), ← m2, hu, decide_eq_true (by omega)]; rfl
  · have := List.all_eq_true.1 h2 x hx
    rw [← e, m1, Bool.false_or, apM_ok (seg_ok h x hx) (all_at h (by omega)), m2] at this
    cases this
theorem mid_next {n : Int} {l : List Gt} (h : l.all (gok n) = true) {a b : Nat} (ha : a + 1 ≤ b) (hb : b < l.length) (hm : Mid l a b) (hf : frB n l a b b = false) : Mid l a (b + 1) := by
  unfold Mid
  rw [seg_succ ha hb]
  rcases hm with ⟨m1, m2⟩ | ⟨⟨x, hx, m1, m2⟩, m3⟩
  · have hne : geq (l.getD b Cel.no) (l.getD a Cel.no) = false := by
      cases hq : geq (l.getD b Cel.no) (l.getD a Cel.no) with
      | false => rfl
      | true =>
        have e : l.getD b Cel.no = l.getD a Cel.no := geq_iff.1 hq
        have : frB n l a b b = true := by
          unfold frB
          rw [e, geq_refl, Bool.true_and, List.all_eq_true]
          intro x hx
          rw [apM_ok (seg_ok h x hx) (all_at h (by omega)), (m1 x hx).2, Bool.or_true]
        rw [this] at hf; cases hf
    rw [uI_drop hb, hne] at m2
    dsimp only [cond_false] at m2
    cases hap : apaB (l.getD b Cel.no) (l.getD a Cel.no) with
    | true =>
      rw [hap] at m2
      left
      refine ⟨fun x hx => ?_, m2⟩
      rcases List.mem_append.1 hx with hx | hx
      · exact m1 x hx
      · rw [List.mem_singleton.1 hx]; exact ⟨hne, hap⟩
    | false =>
      rw [hap] at m2
      right
      exact ⟨⟨_, List.mem_append_right _ (List.mem_singleton.2 rfl), hne, hap⟩, m2.symm⟩
  · exact .inr ⟨⟨x, List.mem_append_left _ hx, m1, m2⟩, m3⟩
theorem mid_end {l : List Gt} {a : Nat} (ha : a < l.length) (hm : Mid l a l.length) : usl (l.drop a) a = usl (l.drop (a + 1)) (a + 1) := by
  have hu : uI (l.getD a Cel.no) (l.drop (a + 1)) (a + 1) = -1 := by
    rcases hm with ⟨_, m2⟩ | ⟨_, m2⟩
    · rw [List.drop_of_length_le (Nat.le_refl _), uI] at m2; exact m2.symm
    · exact m2
  rw [usl_drop ha, hu]; rfl
set_option maxHeartbeats 4000000 in
theorem k_uspS (n : Int) (l : List Gt) (h : cokB n l = true) : Kon Try.prog 88 [vI n, roA l] [] (prS (usl l 0).1 (usl l 0).2) [] [] := by
  obtain ⟨hn, hl, ha⟩ := cokB_t h
  have hC := k_cvS n l (by omega) (by omega)
  rw [h] at hC
  (refine kon_mk T0ok (fn := Try.f88) (c := Try.f88.body.get rfl) Try.func88 rfl (by rfl) (by rfl) (by rfl) ?_; intro hfit hfe)
  (repeat (first | refine gq_KCC ?_ | (refine ga_KCC ?_; intro _q ⟨_he, _hq⟩)))
  (refine aw_rd [0, 1, 4, 5] [] (fun i : Nat => [(6, vI i)]) (fun _ => []) (fun i => i ≤ l.length ∧ usl (l.drop i) i = usl l 0) (fun i => l.length - i) 0 (by rfl) (by rfl) ?_ (by rfl) (by repeat (first | exact trivial | refine ⟨by rfl, ?_⟩ | refine ⟨vI_of (by rfl) (by omega), ?_⟩)) (by repeat (first | exact trivial | refine ⟨by rfl, ?_⟩ | refine ⟨vI_of (by rfl) (by omega), ?_⟩)) ?_)
  · exact ⟨Nat.zero_le _, by rw [List.drop_zero]⟩
  rintro i ⟨hi, hz⟩
  rcases Nat.lt_or_ge i l.length with h5 | h5
  · have hd : decide ((i : Int) < (l.length : Int)) = true := decide_eq_true (by omega)
    (repeat (first | refine gq_KCC ?_ | (refine ga_KCC ?_; intro _q ⟨_he, _hq⟩)))
    (refine aw_rd [0, 1, 4, 5, 6] [] (fun b : Nat => [(7, vI b)]) (fun _ => []) (fun b => i + 1 ≤ b ∧ b ≤ l.length ∧ Mid l i b) (fun b => l.length - b) (i + 1) (by rfl) (by rfl) ?_ (by rfl) (by repeat (first | exact trivial | refine ⟨by rfl, ?_⟩ | refine ⟨vI_of (by rfl) (by omega), ?_⟩)) (by repeat (first | exact trivial | refine ⟨by rfl, ?_⟩ | refine ⟨vI_of (by rfl) (by omega), ?_⟩)) ?_)
    · exact ⟨Nat.le_refl _, h5, mid_start l i⟩
    rintro b ⟨hb1, hb2, hm⟩
    rcases Nat.lt_or_ge b l.length with h6 | h6
    · have hd2 : decide ((b : Int) < (l.length : Int)) = true := decide_eq_true (by omega)
      (repeat (first | refine gq_KCC ?_ | (refine ga_KCC ?_; intro _q ⟨_he, _hq⟩)))
      (refine aw_draw mixed T0ok cfU_ok [] (by rfl) (by kernel_rfl) ?_)
      (repeat (first | refine gq_KCC ?_ | (refine ga_KCC ?_; intro _q ⟨_he, _hq⟩)))
      refine aw_rd [0, 1, 4, 5, 6, 7] [] (fun g : Nat × Bool => [(8, vB g.2), (9, vI g.1)]) (fun _ => []) (fun g => (i + 1 ≤ g.1 ∧ g.1 ≤ b) ∧ g.2 = frB n l i b g.1) (fun g => b - g.1) (i + 1, geq (l.getD i Cel.no) (l.getD b Cel.no)) (by rfl) (by rfl) ?_ (by rfl) (by repeat (first | exact trivial | refine ⟨by rfl, ?_⟩ | refine ⟨vI_of (by rfl) (by omega), ?_⟩)) (by repeat (first | exact trivial | refine ⟨by rfl, ?_⟩ | refine ⟨vI_of (by rfl) (by omega), ?_⟩)) ?_
      · exact ⟨⟨Nat.le_refl _, hb1⟩, (frB_start n l i b).symm⟩
      rintro ⟨k, f⟩ ⟨⟨hk1, hk2⟩, hf⟩
      dsimp only at hk1 hk2 hf ⊢
      have fin : (k = b ∨ f = false) → f = frB n l i b b := by
        rintro (rfl | rfl)
        · exact hf
        · have := frB_false (n := n) (l := l) (a := i) (b := b) (b - k) k hk1 (by omega) hf.symm
          rw [show k + (b - k) = b by omega] at this
          exact this.symm
      cases hkb : decide ((k : Int) < (b : Int)) with
      | false =>
        have hk3 : k = b := by have := of_decide_eq_false hkb; omega
        have hff := fin (.inl hk3)
        clear fin
        cases f with
        | true =>
          have hu := mid_found ha hb1 h6 hm hff.symm
          rw [← hz, hu]
          clear hz hu hm hff hf
          (repeat (first | refine gq_KCC ?_ | (refine ga_KCC ?_; intro _q ⟨_he, _hq⟩)))
          ((try refine aw_ret ?_); refine ret_auto2 (by rfl) (by rfl) (by rfl) (by repeat (first | exact trivial | refine ⟨by first | rfl | omega, ?_⟩)) ?_ (by repeat (first | exact trivial | refine ⟨by rfl, by rfl, ?_⟩)) (by repeat (first | exact trivial | refine ⟨by rfl, by rfl, ?_⟩)); try rfl)
        | false =>
          have hm2 := mid_next ha hb1 h6 hm hff.symm
          have hinv : i + 1 ≤ b + 1 ∧ b + 1 ≤ l.length ∧ Mid l i (b + 1) := ⟨by omega, h6, hm2⟩
          clear hz hm hff hf hm2
          (repeat (first | refine gq_KCC ?_ | (refine ga_KCC ?_; intro _q ⟨_he, _hq⟩)))
          exact ⟨b + 1, hinv, ⟨by rfl, (by repeat (first | exact trivial | refine ⟨by rfl, ?_⟩ | refine ⟨vI_of (by rfl) (by omega), ?_⟩)), (by repeat (first | exact trivial | refine ⟨by rfl, ?_⟩ | refine ⟨vI_of (by rfl) (by omega), ?_⟩))⟩, (by first | omega | (dsimp only; omega))⟩
      | true =>
        have hk3 : k < b := by have := of_decide_eq_true hkb; omega
        cases f with
        | false =>
          have hff := fin (.inr rfl)
          clear fin
          have hm2 := mid_next ha hb1 h6 hm hff.symm
          have hinv : i + 1 ≤ b + 1 ∧ b + 1 ≤ l.length ∧ Mid l i (b + 1) := ⟨by omega, h6, hm2⟩
          clear hz hm hff hf hm2
          (repeat (first | refine gq_KCC ?_ | (refine ga_KCC ?_; intro _q ⟨_he, _hq⟩)))
          exact ⟨b + 1, hinv, ⟨by rfl, (by repeat (first | exact trivial | refine ⟨by rfl, ?_⟩ | refine ⟨vI_of (by rfl) (by omega), ?_⟩)), (by repeat (first | exact trivial | refine ⟨by rfl, ?_⟩ | refine ⟨vI_of (by rfl) (by omega), ?_⟩))⟩, (by first | omega | (dsimp only; omega))⟩
        | true =>
          clear fin
          have hs := frB_succ (n := n) (l := l) (a := i) (b := b) hk1 (show k < l.length by omega)
          rw [← hf, Bool.true_and] at hs
          have hA := k_apS n (l.getD k Cel.no) (l.getD b Cel.no) (by omega)
          cases hge : geq (l.getD k Cel.no) (l.getD b Cel.no) with
          | true =>
            have hge' : ((l.getD (k : Int).toNat Cel.no : Gt).k == (l.getD (b : Int).toNat Cel.no : Gt).k && ((l.getD (k : Int).toNat Cel.no : Gt).a == (l.getD (b : Int).toNat Cel.no : Gt).a && ((l.getD (k : Int).toNat Cel.no : Gt).b == (l.getD (b : Int).toNat Cel.no : Gt).b && (l.getD (k : Int).toNat Cel.no : Gt).c == (l.getD (b : Int).toNat Cel.no : Gt).c))) = true := hge
            rw [hge, Bool.true_or] at hs
            have hinv : (i + 1 ≤ k + 1 ∧ k + 1 ≤ b) ∧ true = frB n l i b (k + 1) := ⟨by omega, hs.symm⟩
            clear hz hm hf hge hs
            (repeat (first | refine gq_KCC ?_ | (refine ga_KCC ?_; intro _q ⟨_he, _hq⟩) | refine gd_KCC ?_))
            exact ⟨(k + 1, true), hinv, ⟨by rfl, (by repeat (first | exact trivial | refine ⟨by rfl, ?_⟩ | refine ⟨vI_of (by rfl) (by omega), ?_⟩)), (by repeat (first | exact trivial | refine ⟨by rfl, ?_⟩ | refine ⟨vI_of (by rfl) (by omega), ?_⟩))⟩, (by first | omega | (dsimp only; omega))⟩
          | false =>
            have hge' : ((l.getD (k : Int).toNat Cel.no : Gt).k == (l.getD (b : Int).toNat Cel.no : Gt).k && ((l.getD (k : Int).toNat Cel.no : Gt).a == (l.getD (b : Int).toNat Cel.no : Gt).a && ((l.getD (k : Int).toNat Cel.no : Gt).b == (l.getD (b : Int).toNat Cel.no : Gt).b && (l.getD (k : Int).toNat Cel.no : Gt).c == (l.getD (b : Int).toNat Cel.no : Gt).c))) = false := hge
            rw [hge, Bool.false_or] at hs
            have hinv : (i + 1 ≤ k + 1 ∧ k + 1 ≤ b) ∧ apM n (l.getD k Cel.no) (l.getD b Cel.no) = frB n l i b (k + 1) := ⟨by omega, hs.symm⟩
            clear hz hm hf hge hs
            (repeat (first | refine gq_KCC ?_ | (refine ga_KCC ?_; intro _q ⟨_he, _hq⟩) | refine gd_KCC ?_))
            exact ⟨(k + 1, apM n (l.getD k Cel.no) (l.getD b Cel.no)), hinv, ⟨by rfl, (by repeat (first | exact trivial | refine ⟨by rfl, ?_⟩ | refine ⟨vI_of (by rfl) (by omega), ?_⟩)), (by repeat (first | exact trivial | refine ⟨by rfl, ?_⟩ | refine ⟨vI_of (by rfl) (by omega), ?_⟩))⟩, (by first | omega | (dsimp only; omega))⟩
    · have hd2 : decide ((b : Int) < (l.length : Int)) = false := decide_eq_false (by omega)
      have hbl : b = l.length := by omega
      subst hbl
      have he := mid_end h5 hm
      have hinv : i + 1 ≤ l.length ∧ usl (l.drop (i + 1)) (i + 1) = usl l 0 := ⟨h5, he.symm.trans hz⟩
      clear hz hm he
      (repeat (first | refine gq_KCC ?_ | (refine ga_KCC ?_; intro _q ⟨_he, _hq⟩)))
      exact ⟨i + 1, hinv, ⟨by rfl, (by repeat (first | exact trivial | refine ⟨by rfl, ?_⟩ | refine ⟨vI_of (by rfl) (by omega), ?_⟩)), (by repeat (first | exact trivial | refine ⟨by rfl, ?_⟩ | refine ⟨vI_of (by rfl) (by omega), ?_⟩))⟩, (by first | omega | (dsimp only; omega))⟩
  · have hd : decide ((i : Int) < (l.length : Int)) = false := decide_eq_false (by omega)
    rw [List.drop_of_length_le h5, usl] at hz
    rw [← hz]
    clear hz
    (repeat (first | refine gq_KCC ?_ | (refine ga_KCC ?_; intro _q ⟨_he, _hq⟩)))
    ((try refine aw_ret ?_); refine ret_auto2 (by rfl) (by rfl) (by rfl) (by repeat (first | exact trivial | refine ⟨by first | rfl | omega, ?_⟩)) ?_ (by repeat (first | exact trivial | refine ⟨by rfl, by rfl, ?_⟩)) (by repeat (first | exact trivial | refine ⟨by rfl, by rfl, ?_⟩)); try rfl)
end Go.Proofs.Yteagoafamjbpbaa

/- spec.l2Drop, spec.CircuitShort (some circuit), the draw of FnSameCircuit. -/



namespace Go.Proofs.Yteagoafamjbpbaa
set_option linter.unusedVariables false
set_option linter.unusedSimpArgs false
set_option maxRecDepth 20000
open Go.RowKit
attribute [local irreducible] runA runX AW
theorem cokB_mk3 {n : Int} {l : List Gt} (h1 : 1 ≤ n ∧ n ≤ 8) (h2 : l.length ≤ 24) (h3 : l.all (gok n) = true) : cokB n l = true := by
  unfold cokB btw
  rw [decide_eq_true h1.1, decide_eq_true h1.2, decide_eq_true (by omega), h3]; rfl
/-- Without the gates at a and b. -/
def drp (l : List Gt) (a b : Int) : Nat → List Gt
  | 0 => []
  | i + 1 => if ((i : Int) != a && (i : Int) != b) = true then drp l a b i ++ [l.getD i Cel.no] else drp l a b i
theorem drp_len (l : List Gt) (a b : Int) : ∀ i : Nat, (drp l a b i).length ≤ i
  | 0 => Nat.le_refl _
  | i + 1 => by
    have := drp_len l a b i
    rw [drp]; split
    · rw [List.length_append]; simp; omega
    · omega
theorem drp_less (l : List Gt) (a : Nat) (b : Int) : ∀ i : Nat, a < i → (drp l a b i).length < i
  | 0, h => by omega
  | i + 1, h => by
    rw [drp]; split
    · rename_i hc
      have : a < i := by
        rcases Nat.lt_or_ge a i with h1 | h1
        · exact h1
        · obtain rfl : a = i := by omega
          simp at hc
      have := drp_less l a b i this
      rw [List.length_append]; simp; omega
    · have := drp_len l a b i
      omega
theorem drp_mem (l : List Gt) (a b : Int) : ∀ i : Nat, i ≤ l.length → ∀ g ∈ drp l a b i, g ∈ l
  | 0, _, g, h => by cases h
  | i + 1, hi, g, h => by
    rw [drp] at h; split at h
    · rcases List.mem_append.1 h with h | h
      · exact drp_mem l a b i (by omega) g h
      · have e : l.getD i Cel.no = l[i] := by simp [List.getD_eq_getElem?_getD, show i < l.length by omega]
        rw [List.mem_singleton.1 h, e]
        exact List.getElem_mem _
    · exact drp_mem l a b i (by omega) g h
theorem drp_ok {n : Int} {l : List Gt} {a b : Int} (h : cokB n l = true) : cokB n (drp l a b l.length) = true := by
  obtain ⟨hn, hl, ha⟩ := cokB_t h
  refine cokB_mk3 hn (by have := drp_len l a b l.length; omega) ?_
  rw [List.all_eq_true] at ha ⊢
  exact fun g hg => ha g (drp_mem l a b l.length (Nat.le_refl _) g hg)
/-- Dropped as long as there is a pair. -/
def shr (l : List Gt) : Nat → List Gt
  | 0 => l
  | f + 1 => if (usl l 0).1 < 0 then l else shr (drp l (usl l 0).1 (usl l 0).2 l.length) f
theorem shr_len : ∀ (f : Nat) (l : List Gt), (shr l f).length ≤ l.length
  | 0, l => Nat.le_refl _
  | f + 1, l => by
    rw [shr]; split
    · exact Nat.le_refl _
    · exact Nat.le_trans (shr_len f _) (drp_len _ _ _ _)
theorem usl_less (l : List Gt) (h : ¬ (usl l 0).1 < 0) : (drp l (usl l 0).1 (usl l 0).2 l.length).length < l.length := by
  rcases usl_spec l 0 with hu | ⟨a, b, hu, hab, hbl, _⟩
  · rw [hu] at h; simp at h
  · rw [hu, Nat.zero_add]
    exact drp_less l a _ l.length (by omega)
theorem shr_step (l : List Gt) (h : ¬ (usl l 0).1 < 0) : shr (drp l (usl l 0).1 (usl l 0).2 l.length) (drp l (usl l 0).1 (usl l 0).2 l.length).length = shr l l.length := by
  have key : ∀ (f f' : Nat) (o : List Gt), o.length ≤ f → o.length ≤ f' → shr o f = shr o f' := by
    intro f
    induction f with
    | zero =>
      intro f' o h1 h2
      have e : o = [] := List.eq_nil_of_length_eq_zero (by omega)
      subst e
      cases f' with
      | zero => rfl
      | succ f' => rw [shr, shr]; rfl
    | succ f ih =>
      intro f' o h1 h2
      cases f' with
      | zero =>
        have e : o = [] := List.eq_nil_of_length_eq_zero (by omega)
        subst e
        rw [shr, shr]; rfl
      | succ f' =>
        rw [shr, shr]
        split
        · rfl
        · rename_i hn
          have := usl_less o hn
          exact ih f' _ (by omega) (by omega)
  have hl := usl_less l h
  obtain ⟨m, hm⟩ : ∃ m, l.length = m + 1 := ⟨l.length - 1, by omega⟩
  conv => rhs; rw [hm, shr, if_neg h]
  exact key _ _ _ (Nat.le_refl _) (by omega)
end Go.Proofs.Yteagoafamjbpbaa

/- impl.short: circuits made shorter, by the program. -/
namespace Go.Proofs.Yteagoafamjbpbaa
set_option linter.unusedVariables false
set_option linter.unusedSimpArgs false
set_option maxRecDepth 20000
open Go.RowKit
attribute [local irreducible] runA runX AW
def wsTM : WsT := [(94, ([], true)), (87, ([], true))]
theorem gq_KME {H G : Prop} (k : H) (h : Hid H → G := by (intro hh; (first | (first | ((first | refine r_none ?_ | refine r_gt (by rfl) (by rfl) (by first | rfl | assumption | omega | (simp only [*, Bool.not_false, Bool.not_true]; first | done | fail) | (simp [*]; first | done | fail)) (by rfl) ?_ | refine r_gf (by rfl) (by rfl) (by first | rfl | assumption | omega | (simp only [*, Bool.not_false, Bool.not_true]; first | done | fail) | (simp [*]; first | done | fail)) (by rfl) ?_); (first | fail | ((first | (refine z_op (by rfl) ?_; first | refine z_ok ?_ ?_ | refine z_ex ?_ (by first | exact ft_raw rfl rfl | ((first | refine ft_rp rfl rfl rfl ?_ | refine ft_row rfl rfl rfl ?_ | refine ft_rpF rfl rfl rfl ?_ | refine ft_rowF rfl rfl rfl ?_ | refine up_row rfl rfl ?_ | refine up_rowF rfl rfl rfl ?_ | refine ct_0 rfl ?_ | refine ct_r rfl rfl ?_ | refine ct_c rfl rfl rfl ?_ | refine cu_all rfl ?_ | refine cu_to rfl ?_ | refine cu_from rfl ?_ | refine cu_p rfl ?_ | fail); (first | omega | (simp only [List.length_append, List.length_replicate, List.length_cons, List.length_nil, List.length_set, List.length_take, List.length_drop, true_and]; omega))) | exact up_raw rfl | exact pk_t (by first | rfl | assumption | omega | (simp only [*, Bool.not_false, Bool.not_true]; first | done | fail) | (simp [*]; first | done | fail)) rfl | exact pk_f (by first | rfl | assumption | omega | (simp only [*, Bool.not_false, Bool.not_true]; first | done | fail) | (simp [*]; first | done | fail)) rfl | fail | exact rw_raw | exact pu_cv (fun w => rfl) (by omega) | exact pu_of (fun w => rfl) rfl | exact be_of (fun w => rfl) | exact nc_of (fun _ _ _ _ => rfl) rfl | exact bu_of (fun w => rfl) rfl | fail) ?_) | ((first | refine q_callE wsTM wsZ (by rfl) ?_ | refine q_callVE wsTM (by rfl) (by rfl) ?_); refine ⟨_, _, _, (by first | assumption | exact k_clone _ (by omega) | exact k_clipR _), _, by rfl, ?_, ?_⟩)); focus (first | exact trivial | fail | exact rfl | (first | omega | (simp only [List.length_append, List.length_replicate, List.length_cons, List.length_nil, List.length_set, List.length_take, List.length_drop, true_and]; omega)) | exact cvB (fun w => rfl) | ((repeat' (first | exact rfl | exact cV_len _ | exact cV_ln rfl (by omega) | exact Cel.pos | omega | exact trivial | refine And.intro ?_ ?_)); done) | (simp [*]; done) | (simp; omega))) | refine q_delC (α := Gt) (by rfl) (by rfl) (by rfl) delG (by first | exact trivial | omega | exact cvB (fun w => rfl) | ((repeat (any_goals (first | exact rfl | exact cV_len _ | exact cV_ln rfl (by omega) | exact Cel.pos | omega | exact trivial | refine And.intro ?_ ?_))); first | done | fail) | (simp [*]; first | done | fail)) ?_)) | refine r_nt (by rfl) (by rfl) (by first | rfl | assumption | omega | (simp only [*, Bool.not_false, Bool.not_true]; first | done | fail) | (simp [*]; first | done | fail)) (by rfl) ?_ | refine r_nf (by rfl) (by rfl) (by first | rfl | assumption | omega | (simp only [*, Bool.not_false, Bool.not_true]; first | done | fail) | (simp [*]; first | done | fail)) (by rfl) ?_ | refine r_gu (by rfl) (by rfl) (by rfl) ?_ | refine r_nil ?_) | (first | refine aw_seq ?_ | refine aw_ct (by rfl) (by first | rfl | assumption | omega | (simp only [*, Bool.not_false, Bool.not_true]; first | done | fail) | (simp [*]; first | done | fail)) ?_ | refine aw_cf (by rfl) (by first | rfl | assumption | omega | (simp only [*, Bool.not_false, Bool.not_true]; first | done | fail) | (simp [*]; first | done | fail)) ?_ | refine aw_block ?_ | refine aw_region T0ok cfU_ok (by rfl) ?_ | refine aw_skip ?_ | refine aw_exit ?_ | refine ra_step ?_)); (repeat (first | (first | ((first | refine r_none ?_ | refine r_gt (by rfl) (by rfl) (by first | rfl | assumption | omega | (simp only [*, Bool.not_false, Bool.not_true]; first | done | fail) | (simp [*]; first | done | fail)) (by rfl) ?_ | refine r_gf (by rfl) (by rfl) (by first | rfl | assumption | omega | (simp only [*, Bool.not_false, Bool.not_true]; first | done | fail) | (simp [*]; first | done | fail)) (by rfl) ?_); (first | fail | ((first | (refine z_op (by rfl) ?_; first | refine z_ok ?_ ?_ | refine z_ex ?_ (by first | exact ft_raw rfl rfl | ((first | refine ft_rp rfl rfl rfl ?_ | refine ft_row rfl rfl rfl ?_ | refine ft_rpF rfl rfl rfl ?_ | refine ft_rowF rfl rfl rfl ?_ | refine up_row rfl rfl ?_ | refine up_rowF rfl rfl rfl ?_ | refine ct_0 rfl ?_ | refine ct_r rfl rfl ?_ | refine ct_c rfl rfl rfl ?_ | refine cu_all rfl ?_ | refine cu_to rfl ?_ | refine cu_from rfl ?_ | refine cu_p rfl ?_ | fail); (first | omega | (simp only [List.length_append, List.length_replicate, List.length_cons, List.length_nil, List.length_set, List.length_take, List.length_drop, true_and]; omega))) | exact up_raw rfl | exact pk_t (by first | rfl | assumption | omega | (simp only [*, Bool.not_false, Bool.not_true]; first | done | fail) | (simp [*]; first | done | fail)) rfl | exact pk_f (by first | rfl | assumption | omega | (simp only [*, Bool.not_false, Bool.not_true]; first | done | fail) | (simp [*]; first | done | fail)) rfl | fail | exact rw_raw | exact pu_cv (fun w => rfl) (by omega) | exact pu_of (fun w => rfl) rfl | exact be_of (fun w => rfl) | exact nc_of (fun _ _ _ _ => rfl) rfl | exact bu_of (fun w => rfl) rfl | fail) ?_) | ((first | refine q_callE wsTM wsZ (by rfl) ?_ | refine q_callVE wsTM (by rfl) (by rfl) ?_); refine ⟨_, _, _, (by first | assumption | exact k_clone _ (by omega) | exact k_clipR _), _, by rfl, ?_, ?_⟩)); focus (first | exact trivial | fail | exact rfl | (first | omega | (simp only [List.length_append, List.length_replicate, List.length_cons, List.length_nil, List.length_set, List.length_take, List.length_drop, true_and]; omega)) | exact cvB (fun w => rfl) | ((repeat' (first | exact rfl | exact cV_len _ | exact cV_ln rfl (by omega) | exact Cel.pos | omega | exact trivial | refine And.intro ?_ ?_)); done) | (simp [*]; done) | (simp; omega))) | refine q_delC (α := Gt) (by rfl) (by rfl) (by rfl) delG (by first | exact trivial | omega | exact cvB (fun w => rfl) | ((repeat (any_goals (first | exact rfl | exact cV_len _ | exact cV_ln rfl (by omega) | exact Cel.pos | omega | exact trivial | refine And.intro ?_ ?_))); first | done | fail) | (simp [*]; first | done | fail)) ?_)) | refine r_nt (by rfl) (by rfl) (by first | rfl | assumption | omega | (simp only [*, Bool.not_false, Bool.not_true]; first | done | fail) | (simp [*]; first | done | fail)) (by rfl) ?_ | refine r_nf (by rfl) (by rfl) (by first | rfl | assumption | omega | (simp only [*, Bool.not_false, Bool.not_true]; first | done | fail) | (simp [*]; first | done | fail)) (by rfl) ?_ | refine r_gu (by rfl) (by rfl) (by rfl) ?_ | refine r_nil ?_) | (first | refine aw_seq ?_ | refine aw_ct (by rfl) (by first | rfl | assumption | omega | (simp only [*, Bool.not_false, Bool.not_true]; first | done | fail) | (simp [*]; first | done | fail)) ?_ | refine aw_cf (by rfl) (by first | rfl | assumption | omega | (simp only [*, Bool.not_false, Bool.not_true]; first | done | fail) | (simp [*]; first | done | fail)) ?_ | refine aw_block ?_ | refine aw_region T0ok cfU_ok (by rfl) ?_ | refine aw_skip ?_ | refine aw_exit ?_ | refine ra_step ?_))); exact hh.out)) : G := h ⟨k⟩
theorem ga_KME {H G : Prop} (k : H) (h : Hid H → G := by (intro hh; (first | refine r_none ?_ | refine r_gt (by rfl) (by rfl) (by first | rfl | assumption | omega | (simp only [*, Bool.not_false, Bool.not_true]; first | done | fail) | (simp [*]; first | done | fail)) (by rfl) ?_ | refine r_gf (by rfl) (by rfl) (by first | rfl | assumption | omega | (simp only [*, Bool.not_false, Bool.not_true]; first | done | fail) | (simp [*]; first | done | fail)) (by rfl) ?_); refine z_op (by rfl) ?_; refine z_al ?_ hh.out; focus (first | exact trivial | fail | exact rfl | (first | omega | (simp only [List.length_append, List.length_replicate, List.length_cons, List.length_nil, List.length_set, List.length_take, List.length_drop, true_and]; omega)) | exact cvB (fun w => rfl) | ((repeat' (first | exact rfl | exact cV_len _ | exact cV_ln rfl (by omega) | exact Cel.pos | omega | exact trivial | refine And.intro ?_ ?_)); done) | (simp [*]; done) | (simp; omega)))) : G := h ⟨k⟩
theorem gs_KME {H G : Prop} (k : H) (h : Hid H → G := by (intro hh; (first | ((first | refine r_none ?_ | refine r_gt (by rfl) (by rfl) (by first | rfl | assumption | omega | (simp only [*, Bool.not_false, Bool.not_true]; first | done | fail) | (simp [*]; first | done | fail)) (by rfl) ?_ | refine r_gf (by rfl) (by rfl) (by first | rfl | assumption | omega | (simp only [*, Bool.not_false, Bool.not_true]; first | done | fail) | (simp [*]; first | done | fail)) (by rfl) ?_); (first | fail | ((first | (refine z_op (by rfl) ?_; first | refine z_ok ?_ ?_ | refine z_ex ?_ (by first | exact ft_raw rfl rfl | ((first | refine ft_rp rfl rfl rfl ?_ | refine ft_row rfl rfl rfl ?_ | refine ft_rpF rfl rfl rfl ?_ | refine ft_rowF rfl rfl rfl ?_ | refine up_row rfl rfl ?_ | refine up_rowF rfl rfl rfl ?_ | refine ct_0 rfl ?_ | refine ct_r rfl rfl ?_ | refine ct_c rfl rfl rfl ?_ | refine cu_all rfl ?_ | refine cu_to rfl ?_ | refine cu_from rfl ?_ | refine cu_p rfl ?_ | fail); (first | omega | (simp only [List.length_append, List.length_replicate, List.length_cons, List.length_nil, List.length_set, List.length_take, List.length_drop, true_and]; omega))) | exact up_raw rfl | exact pk_t (by first | rfl | assumption | omega | (simp only [*, Bool.not_false, Bool.not_true]; first | done | fail) | (simp [*]; first | done | fail)) rfl | exact pk_f (by first | rfl | assumption | omega | (simp only [*, Bool.not_false, Bool.not_true]; first | done | fail) | (simp [*]; first | done | fail)) rfl | fail | exact rw_raw | exact pu_cv (fun w => rfl) (by omega) | exact pu_of (fun w => rfl) rfl | exact be_of (fun w => rfl) | exact nc_of (fun _ _ _ _ => rfl) rfl | exact bu_of (fun w => rfl) rfl | fail) ?_) | ((first | refine q_callE wsTM wsZ (by rfl) ?_ | refine q_callVE wsTM (by rfl) (by rfl) ?_); refine ⟨_, _, _, (by first | assumption | exact k_clone _ (by omega) | exact k_clipR _), _, by rfl, ?_, ?_⟩)); focus (first | exact trivial | fail | exact rfl | (first | omega | (simp only [List.length_append, List.length_replicate, List.length_cons, List.length_nil, List.length_set, List.length_take, List.length_drop, true_and]; omega)) | exact cvB (fun w => rfl) | ((repeat' (first | exact rfl | exact cV_len _ | exact cV_ln rfl (by omega) | exact Cel.pos | omega | exact trivial | refine And.intro ?_ ?_)); done) | (simp [*]; done) | (simp; omega))) | refine q_delC (α := Gt) (by rfl) (by rfl) (by rfl) delG (by first | exact trivial | omega | exact cvB (fun w => rfl) | ((repeat (any_goals (first | exact rfl | exact cV_len _ | exact cV_ln rfl (by omega) | exact Cel.pos | omega | exact trivial | refine And.intro ?_ ?_))); first | done | fail) | (simp [*]; first | done | fail)) ?_)) | refine r_nt (by rfl) (by rfl) (by first | rfl | assumption | omega | (simp only [*, Bool.not_false, Bool.not_true]; first | done | fail) | (simp [*]; first | done | fail)) (by rfl) ?_ | refine r_nf (by rfl) (by rfl) (by first | rfl | assumption | omega | (simp only [*, Bool.not_false, Bool.not_true]; first | done | fail) | (simp [*]; first | done | fail)) (by rfl) ?_ | refine r_gu (by rfl) (by rfl) (by rfl) ?_ | refine r_nil ?_); (repeat (first | ((first | refine r_none ?_ | refine r_gt (by rfl) (by rfl) (by first | rfl | assumption | omega | (simp only [*, Bool.not_false, Bool.not_true]; first | done | fail) | (simp [*]; first | done | fail)) (by rfl) ?_ | refine r_gf (by rfl) (by rfl) (by first | rfl | assumption | omega | (simp only [*, Bool.not_false, Bool.not_true]; first | done | fail) | (simp [*]; first | done | fail)) (by rfl) ?_); (first | fail | ((first | (refine z_op (by rfl) ?_; first | refine z_ok ?_ ?_ | refine z_ex ?_ (by first | exact ft_raw rfl rfl | ((first | refine ft_rp rfl rfl rfl ?_ | refine ft_row rfl rfl rfl ?_ | refine ft_rpF rfl rfl rfl ?_ | refine ft_rowF rfl rfl rfl ?_ | refine up_row rfl rfl ?_ | refine up_rowF rfl rfl rfl ?_ | refine ct_0 rfl ?_ | refine ct_r rfl rfl ?_ | refine ct_c rfl rfl rfl ?_ | refine cu_all rfl ?_ | refine cu_to rfl ?_ | refine cu_from rfl ?_ | refine cu_p rfl ?_ | fail); (first | omega | (simp only [List.length_append, List.length_replicate, List.length_cons, List.length_nil, List.length_set, List.length_take, List.length_drop, true_and]; omega))) | exact up_raw rfl | exact pk_t (by first | rfl | assumption | omega | (simp only [*, Bool.not_false, Bool.not_true]; first | done | fail) | (simp [*]; first | done | fail)) rfl | exact pk_f (by first | rfl | assumption | omega | (simp only [*, Bool.not_false, Bool.not_true]; first | done | fail) | (simp [*]; first | done | fail)) rfl | fail | exact rw_raw | exact pu_cv (fun w => rfl) (by omega) | exact pu_of (fun w => rfl) rfl | exact be_of (fun w => rfl) | exact nc_of (fun _ _ _ _ => rfl) rfl | exact bu_of (fun w => rfl) rfl | fail) ?_) | ((first | refine q_callE wsTM wsZ (by rfl) ?_ | refine q_callVE wsTM (by rfl) (by rfl) ?_); refine ⟨_, _, _, (by first | assumption | exact k_clone _ (by omega) | exact k_clipR _), _, by rfl, ?_, ?_⟩)); focus (first | exact trivial | fail | exact rfl | (first | omega | (simp only [List.length_append, List.length_replicate, List.length_cons, List.length_nil, List.length_set, List.length_take, List.length_drop, true_and]; omega)) | exact cvB (fun w => rfl) | ((repeat' (first | exact rfl | exact cV_len _ | exact cV_ln rfl (by omega) | exact Cel.pos | omega | exact trivial | refine And.intro ?_ ?_)); done) | (simp [*]; done) | (simp; omega))) | refine q_delC (α := Gt) (by rfl) (by rfl) (by rfl) delG (by first | exact trivial | omega | exact cvB (fun w => rfl) | ((repeat (any_goals (first | exact rfl | exact cV_len _ | exact cV_ln rfl (by omega) | exact Cel.pos | omega | exact trivial | refine And.intro ?_ ?_))); first | done | fail) | (simp [*]; first | done | fail)) ?_)) | refine r_nt (by rfl) (by rfl) (by first | rfl | assumption | omega | (simp only [*, Bool.not_false, Bool.not_true]; first | done | fail) | (simp [*]; first | done | fail)) (by rfl) ?_ | refine r_nf (by rfl) (by rfl) (by first | rfl | assumption | omega | (simp only [*, Bool.not_false, Bool.not_true]; first | done | fail) | (simp [*]; first | done | fail)) (by rfl) ?_ | refine r_gu (by rfl) (by rfl) (by rfl) ?_ | refine r_nil ?_)); exact hh.out)) : G := h ⟨k⟩
theorem gc_KME {H G : Prop} (k : H) (h : Hid H → G := by (intro hh; (first | refine aw_seq ?_ | refine aw_ct (by rfl) (by first | rfl | assumption | omega | (simp only [*, Bool.not_false, Bool.not_true]; first | done | fail) | (simp [*]; first | done | fail)) ?_ | refine aw_cf (by rfl) (by first | rfl | assumption | omega | (simp only [*, Bool.not_false, Bool.not_true]; first | done | fail) | (simp [*]; first | done | fail)) ?_ | refine aw_block ?_ | refine aw_region T0ok cfU_ok (by rfl) ?_ | refine aw_skip ?_ | refine aw_exit ?_ | refine ra_step ?_); (repeat (first | refine aw_seq ?_ | refine aw_ct (by rfl) (by first | rfl | assumption | omega | (simp only [*, Bool.not_false, Bool.not_true]; first | done | fail) | (simp [*]; first | done | fail)) ?_ | refine aw_cf (by rfl) (by first | rfl | assumption | omega | (simp only [*, Bool.not_false, Bool.not_true]; first | done | fail) | (simp [*]; first | done | fail)) ?_ | refine aw_block ?_ | refine aw_region T0ok cfU_ok (by rfl) ?_ | refine aw_skip ?_ | refine aw_exit ?_ | refine ra_step ?_)); exact hh.out)) : G := h ⟨k⟩
theorem k_clipR (l : List Gt) : Kon Try.prog 94 [roA l] [] (roA l) [] [] := by
  (refine kon_mk T0ok (fn := Try.f94) (c := Try.f94.body.get rfl) Try.func94 rfl (by rfl) (by rfl) (by rfl) ?_; intro hfit hfe)
  (repeat (first | refine gq_KME ?_ | (refine ga_KME ?_; intro _q ⟨_he, _hq⟩)))
  ((try refine aw_ret ?_); refine ret_auto2 (by rfl) (by rfl) (by rfl) (by repeat (first | exact trivial | refine ⟨by first | rfl | omega, ?_⟩)) ?_ (by repeat (first | exact trivial | refine ⟨by rfl, by rfl, ?_⟩)) (by repeat (first | exact trivial | refine ⟨by rfl, by rfl, ?_⟩)); try rfl)
/-- Dropped: three parts. -/
theorem drp_lt (l : List Gt) (a b : Nat) : ∀ i : Nat, i ≤ l.length → i ≤ a → a < b → drp l a b i = l.take i
  | 0, _, _, _ => by simp [drp]
  | i + 1, hi, h, hab => by
    have e : l.getD i Cel.no = l[i] := by simp [List.getD_eq_getElem?_getD, show i < l.length by omega]
    rw [drp, if_pos (by simp only [Bool.and_eq_true, bne_iff_ne]; omega), drp_lt l a b i (by omega) (by omega) hab, e, List.take_append_getElem]
theorem drp_mid (l : List Gt) (a b : Nat) : ∀ i : Nat, i ≤ l.length → a < i → i ≤ b → drp l a b i = l.take a ++ (l.take i).drop (a + 1)
  | 0, _, h, _ => by omega
  | i + 1, hi, h, hb => by
    have e : l.getD i Cel.no = l[i] := by simp [List.getD_eq_getElem?_getD, show i < l.length by omega]
    rcases Nat.lt_or_ge a i with h1 | h1
    · rw [drp, if_pos (by simp only [Bool.and_eq_true, bne_iff_ne]; omega), drp_mid l a b i (by omega) h1 (by omega), e, List.append_assoc, ← List.take_append_getElem (show i < l.length by omega), List.drop_append_of_le_length (by rw [List.length_take]; omega)]
    · obtain rfl : a = i := by omega
      rw [drp, if_neg (by simp), drp_lt l a b a (by omega) (Nat.le_refl _) (by omega)]
      simp
theorem drp_del (l : List Gt) (a b : Nat) (hab : a < b) : ∀ i : Nat, i ≤ l.length → b < i → drp l a b i = l.take a ++ ((l.take b).drop (a + 1) ++ (l.take i).drop (b + 1))
  | 0, _, h => by omega
  | i + 1, hi, h => by
    have e : l.getD i Cel.no = l[i] := by simp [List.getD_eq_getElem?_getD, show i < l.length by omega]
    rcases Nat.lt_or_ge b i with h1 | h1
    · rw [drp, if_pos (by simp only [Bool.and_eq_true, bne_iff_ne]; omega), drp_del l a b hab i (by omega) h1, e, List.append_assoc, List.append_assoc, ← List.take_append_getElem (show i < l.length by omega), List.drop_append_of_le_length (by rw [List.length_take]; omega)]
    · obtain rfl : b = i := by omega
      rw [drp, if_neg (by simp), drp_mid l a b b (by omega) hab (Nat.le_refl _)]
      simp
theorem del_drp (l : List Gt) (a b : Nat) (hab : a < b) (hb : b < l.length) : (l.take (b : Int).toNat ++ l.drop ((b : Int) + 1).toNat).take (a : Int).toNat ++ (l.take (b : Int).toNat ++ l.drop ((b : Int) + 1).toNat).drop ((a : Int) + 1).toNat = drp l a b l.length := by
  have e1 : (a : Int).toNat = a := by omega
  have e2 : (b : Int).toNat = b := by omega
  have e3 : ((a : Int) + 1).toNat = a + 1 := by omega
  have e4 : ((b : Int) + 1).toNat = b + 1 := by omega
  rw [e1, e2, e3, e4, drp_del l a b hab l.length (Nat.le_refl _) hb, List.take_length, List.take_append_of_le_length (by rw [List.length_take]; omega), List.take_take, Nat.min_eq_left (by omega), List.drop_append_of_le_length (by rw [List.length_take]; omega)]
theorem k_shI (n : Int) (l : List Gt) (ha : l.all (gok n) = true) (hl : l.length ≤ 1000) : Kon Try.prog 87 [roA l] [] (roA (shr l l.length)) [] [] := by
  (refine kon_mk T0ok (fn := Try.f87) (c := Try.f87.body.get rfl) Try.func87 rfl (by rfl) (by rfl) (by rfl) ?_; intro hfit hfe)
  (repeat (first | refine gq_KME ?_ | (refine ga_KME ?_; intro _q ⟨_he, _hq⟩)))
  (refine aw_rd [2] [] (fun g : Nat × List Gt => [(3, .g (.one (.sl 112 g.1 g.2.length)))]) (fun g => [(112, (g.1, gRow g.2))]) (fun g => g.2.all (gok n) = true ∧ g.2.length ≤ 1000 ∧ shr g.2 g.2.length = shr l l.length) (fun g => g.2.length) (0, l) (by rfl) (by rfl) ?_ (by rfl) (by repeat (first | exact trivial | refine ⟨by rfl, ?_⟩ | refine ⟨vI_of (by rfl) (by omega), ?_⟩)) (by repeat (first | exact trivial | refine ⟨by rfl, ?_⟩ | refine ⟨vI_of (by rfl) (by omega), ?_⟩)) ?_)
  · exact ⟨ha, hl, rfl⟩
  rintro ⟨r, o⟩ ⟨ho, hol, hs⟩
  dsimp only at ho hol hs ⊢
  have hU := k_usl n o ho hol
  cases hd : decide ((usl o 0).1 < 0) with
  | true =>
    have e : shr o o.length = o := by
      cases hm : o.length with
      | zero => rfl
      | succ m => rw [shr, if_pos (of_decide_eq_true hd)]
    rw [← hs, e]
    clear hs e
    (repeat refine gc_KME ?_)
    (repeat (first | refine gs_KME ?_ | (refine ga_KME ?_; intro _q ⟨_he, _hq⟩)))
    (repeat refine gc_KME ?_)
    (repeat (first | refine gs_KME ?_ | (refine ga_KME ?_; intro _q ⟨_he, _hq⟩)))
    (refine aw_freeze 112 (by rfl) (by rfl) ?_; refine aw_slot 3 4 (by rfl) (by rfl) (by first | exact trivial | omega | exact cvB (fun w => rfl) | ((repeat (any_goals (first | exact rfl | exact cV_len _ | exact cV_ln rfl (by omega) | exact Cel.pos | omega | exact trivial | refine And.intro ?_ ?_))); first | done | fail) | (simp [*]; first | done | fail)) ?_)
    (repeat (first | refine gq_KME ?_ | (refine ga_KME ?_; intro _q ⟨_he, _hq⟩)))
    ((try refine aw_ret ?_); refine ret_auto2 (by rfl) (by rfl) (by rfl) (by repeat (first | exact trivial | refine ⟨by first | rfl | omega, ?_⟩)) ?_ (by repeat (first | exact trivial | refine ⟨by rfl, by rfl, ?_⟩)) (by repeat (first | exact trivial | refine ⟨by rfl, by rfl, ?_⟩)); try rfl)
  | false =>
    have hnn := of_decide_eq_false hd
    rcases usl_spec o 0 with hu | ⟨a, b, hu, hab, hbl, _⟩
    · rw [hu] at hnn; simp at hnn
    · rw [Nat.zero_add, Nat.zero_add] at hu
      have hE := del_drp o a b hab hbl
      have hless := usl_less o hnn
      have hst := (shr_step o hnn).trans hs
      have hall : (drp o (usl o 0).1 (usl o 0).2 o.length).all (gok n) = true := by
        rw [List.all_eq_true] at ho ⊢
        exact fun g hg => ho g (drp_mem o _ _ o.length (Nat.le_refl _) g hg)
      rw [hu] at hU hd hless hst hall
      dsimp only at hU hd hless hst hall
      rw [← hE] at hless hst hall
      clear hs hE hu hnn
      have hless2 := hless
      simp only [List.length_append, List.length_take, List.length_drop] at hless2
      have hX : (o.take (b : Int).toNat ++ o.drop ((b : Int) + 1).toNat).length = o.length - 1 := by
        rw [List.length_append, List.length_take, List.length_drop]; omega
      clear hless2
      obtain ⟨X, hXe⟩ : ∃ X, (o.take (b : Int).toNat ++ o.drop ((b : Int) + 1).toNat).take (a : Int).toNat ++ (o.take (b : Int).toNat ++ o.drop ((b : Int) + 1).toNat).drop ((a : Int) + 1).toNat = X := ⟨_, rfl⟩
      rw [hXe] at hless hst hall
      have hinv : X.all (gok n) = true ∧ X.length ≤ 1000 ∧ shr X X.length = shr l l.length := ⟨hall, by omega, hst⟩
      clear hst hall
      rw [← hXe] at hinv hless
      clear hXe
      (repeat (first | refine gq_KME ?_ | (refine ga_KME ?_; intro _q ⟨_he, _hq⟩)))
      exact ⟨(r + 1 + 1, _), hinv, ⟨by rfl, (by repeat (first | exact trivial | refine ⟨by rfl, ?_⟩ | refine ⟨vI_of (by rfl) (by omega), ?_⟩)), (by repeat (first | exact trivial | refine ⟨by rfl, ?_⟩ | refine ⟨vI_of (by rfl) (by omega), ?_⟩))⟩, (by first | omega | (dsimp only; omega))⟩
end Go.Proofs.Yteagoafamjbpbaa

/- Valid benches, both sides; their copies in the exact laws. -/
namespace Go.Proofs.Yteagoafamjbpbaa
set_option linter.unusedVariables false
set_option linter.unusedSimpArgs false
set_option maxRecDepth 20000
open Go.RowKit
attribute [local irreducible] runA runX AW
theorem gq_KGK {H G : Prop} (k : H) (h : Hid H → G := by (intro hh; (first | (first | ((first | refine r_none ?_ | refine r_gt (by rfl) (by rfl) (by first | rfl | assumption | omega | (simp only [*, Bool.not_false, Bool.not_true]; first | done | fail) | (simp [*]; first | done | fail)) (by rfl) ?_ | refine r_gf (by rfl) (by rfl) (by first | rfl | assumption | omega | (simp only [*, Bool.not_false, Bool.not_true]; first | done | fail) | (simp [*]; first | done | fail)) (by rfl) ?_); (first | fail | ((first | (refine z_op (by rfl) ?_; first | refine z_ok ?_ ?_ | refine z_ex ?_ (by first | exact ft_raw rfl rfl | ((first | refine ft_rp rfl rfl rfl ?_ | refine ft_row rfl rfl rfl ?_ | refine ft_rpF rfl rfl rfl ?_ | refine ft_rowF rfl rfl rfl ?_ | refine up_row rfl rfl ?_ | refine up_rowF rfl rfl rfl ?_ | refine ct_0 rfl ?_ | refine ct_r rfl rfl ?_ | refine ct_c rfl rfl rfl ?_ | refine cu_all rfl ?_ | refine cu_to rfl ?_ | refine cu_from rfl ?_ | refine cu_p rfl ?_ | refine mk_c Gt rfl rfl rfl ?_); (first | omega | (simp only [List.length_append, List.length_replicate, List.length_cons, List.length_nil, List.length_set, List.length_take, List.length_drop, true_and]; omega))) | exact up_raw rfl | exact pk_t (by first | rfl | assumption | omega | (simp only [*, Bool.not_false, Bool.not_true]; first | done | fail) | (simp [*]; first | done | fail)) rfl | exact pk_f (by first | rfl | assumption | omega | (simp only [*, Bool.not_false, Bool.not_true]; first | done | fail) | (simp [*]; first | done | fail)) rfl | fail | exact rw_raw | exact pu_cv (fun w => rfl) (by omega) | exact pu_of (fun w => rfl) rfl | exact be_of (fun w => rfl) | exact nc_of (fun _ _ _ _ => rfl) rfl | exact bu_of (fun w => rfl) rfl | fail) ?_) | ((first | refine q_callE wsTB wsZ (by rfl) ?_ | refine q_callVE wsTB (by rfl) (by rfl) ?_); refine ⟨_, _, _, (by first | assumption | exact k_within _ _ _ | exact k_l1In _ _ _ | exact k_wvS2 _ _ | exact k_wv _ _ | exact k_ahead _ _ _ _ _ (by omega) (by omega)), _, by rfl, ?_, ?_⟩)); focus (first | exact trivial | fail | exact rfl | (first | omega | (simp only [List.length_append, List.length_replicate, List.length_cons, List.length_nil, List.length_set, List.length_take, List.length_drop, true_and]; omega)) | exact cvB (fun w => rfl) | ((repeat' (first | exact rfl | exact cV_len _ | exact cV_ln rfl (by omega) | exact Cel.pos | omega | exact trivial | refine And.intro ?_ ?_)); done) | (simp [*]; done) | (simp; omega))) | fail)) | refine r_nt (by rfl) (by rfl) (by first | rfl | assumption | omega | (simp only [*, Bool.not_false, Bool.not_true]; first | done | fail) | (simp [*]; first | done | fail)) (by rfl) ?_ | refine r_nf (by rfl) (by rfl) (by first | rfl | assumption | omega | (simp only [*, Bool.not_false, Bool.not_true]; first | done | fail) | (simp [*]; first | done | fail)) (by rfl) ?_ | refine r_gu (by rfl) (by rfl) (by rfl) ?_ | refine r_nil ?_) | (first | refine aw_seq ?_ | refine aw_ct (by rfl) (by first | rfl | assumption | omega | (simp only [*, Bool.not_false, Bool.not_true]; first | done | fail) | (simp [*]; first | done | fail)) ?_ | refine aw_cf (by rfl) (by first | rfl | assumption | omega | (simp only [*, Bool.not_false, Bool.not_true]; first | done | fail) | (simp [*]; first | done | fail)) ?_ | refine aw_block ?_ | refine aw_region T0ok cfU_ok (by rfl) ?_ | refine aw_skip ?_ | refine aw_exit ?_ | refine ra_step ?_)); (repeat (first | (first | ((first | refine r_none ?_ | refine r_gt (by rfl) (by rfl) (by first | rfl | assumption | omega | (simp only [*, Bool.not_false, Bool.not_true]; first | done | fail) | (simp [*]; first | done | fail)) (by rfl) ?_ | refine r_gf (by rfl) (by rfl) (by first | rfl | assumption | omega | (simp only [*, Bool.not_false, Bool.not_true]; first | done | fail) | (simp [*]; first | done | fail)) (by rfl) ?_); (first | fail | ((first | (refine z_op (by rfl) ?_; first | refine z_ok ?_ ?_ | refine z_ex ?_ (by first | exact ft_raw rfl rfl | ((first | refine ft_rp rfl rfl rfl ?_ | refine ft_row rfl rfl rfl ?_ | refine ft_rpF rfl rfl rfl ?_ | refine ft_rowF rfl rfl rfl ?_ | refine up_row rfl rfl ?_ | refine up_rowF rfl rfl rfl ?_ | refine ct_0 rfl ?_ | refine ct_r rfl rfl ?_ | refine ct_c rfl rfl rfl ?_ | refine cu_all rfl ?_ | refine cu_to rfl ?_ | refine cu_from rfl ?_ | refine cu_p rfl ?_ | refine mk_c Gt rfl rfl rfl ?_); (first | omega | (simp only [List.length_append, List.length_replicate, List.length_cons, List.length_nil, List.length_set, List.length_take, List.length_drop, true_and]; omega))) | exact up_raw rfl | exact pk_t (by first | rfl | assumption | omega | (simp only [*, Bool.not_false, Bool.not_true]; first | done | fail) | (simp [*]; first | done | fail)) rfl | exact pk_f (by first | rfl | assumption | omega | (simp only [*, Bool.not_false, Bool.not_true]; first | done | fail) | (simp [*]; first | done | fail)) rfl | fail | exact rw_raw | exact pu_cv (fun w => rfl) (by omega) | exact pu_of (fun w => rfl) rfl | exact be_of (fun w => rfl) | exact nc_of (fun _ _ _ _ => rfl) rfl | exact bu_of (fun w => rfl) rfl | fail) ?_) | ((first | refine q_callE wsTB wsZ (by rfl) ?_ | refine q_callVE wsTB (by rfl) (by rfl) ?_); refine ⟨_, _, _, (by first | assumption | exact k_within _ _ _ | exact k_l1In _ _ _ | exact k_wvS2 _ _ | exact k_wv _ _ | exact k_ahead _ _ _ _ _ (by omega) (by omega)), _, by rfl, ?_, ?_⟩)); focus (first | exact trivial | fail | exact rfl | (first | omega | (simp only [List.length_append, List.length_replicate, List.length_cons, List.length_nil, List.length_set, List.length_take, List.length_drop, true_and]; omega)) | exact cvB (fun w => rfl) | ((repeat' (first | exact rfl | exact cV_len _ | exact cV_ln rfl (by omega) | exact Cel.pos | omega | exact trivial | refine And.intro ?_ ?_)); done) | (simp [*]; done) | (simp; omega))) | fail)) | refine r_nt (by rfl) (by rfl) (by first | rfl | assumption | omega | (simp only [*, Bool.not_false, Bool.not_true]; first | done | fail) | (simp [*]; first | done | fail)) (by rfl) ?_ | refine r_nf (by rfl) (by rfl) (by first | rfl | assumption | omega | (simp only [*, Bool.not_false, Bool.not_true]; first | done | fail) | (simp [*]; first | done | fail)) (by rfl) ?_ | refine r_gu (by rfl) (by rfl) (by rfl) ?_ | refine r_nil ?_) | (first | refine aw_seq ?_ | refine aw_ct (by rfl) (by first | rfl | assumption | omega | (simp only [*, Bool.not_false, Bool.not_true]; first | done | fail) | (simp [*]; first | done | fail)) ?_ | refine aw_cf (by rfl) (by first | rfl | assumption | omega | (simp only [*, Bool.not_false, Bool.not_true]; first | done | fail) | (simp [*]; first | done | fail)) ?_ | refine aw_block ?_ | refine aw_region T0ok cfU_ok (by rfl) ?_ | refine aw_skip ?_ | refine aw_exit ?_ | refine ra_step ?_))); exact hh.out)) : G := h ⟨k⟩
theorem ga_KGK {H G : Prop} (k : H) (h : Hid H → G := by (intro hh; (first | refine r_none ?_ | refine r_gt (by rfl) (by rfl) (by first | rfl | assumption | omega | (simp only [*, Bool.not_false, Bool.not_true]; first | done | fail) | (simp [*]; first | done | fail)) (by rfl) ?_ | refine r_gf (by rfl) (by rfl) (by first | rfl | assumption | omega | (simp only [*, Bool.not_false, Bool.not_true]; first | done | fail) | (simp [*]; first | done | fail)) (by rfl) ?_); refine z_op (by rfl) ?_; refine z_alV ?_ hh.out; focus (first | exact trivial | fail | exact rfl | (first | omega | (simp only [List.length_append, List.length_replicate, List.length_cons, List.length_nil, List.length_set, List.length_take, List.length_drop, true_and]; omega)) | exact cvB (fun w => rfl) | ((repeat' (first | exact rfl | exact cV_len _ | exact cV_ln rfl (by omega) | exact Cel.pos | omega | exact trivial | refine And.intro ?_ ?_)); done) | (simp [*]; done) | (simp; omega)))) : G := h ⟨k⟩
theorem gd_KGK {H G : Prop} (k : H) (h : Hid H → G := by (intro hh; (refine aw_draw mixed T0ok cfU_ok [] (by rfl) (by kernel_rfl) ?_); exact hh.out)) : G := h ⟨k⟩
def wsTB : WsT := (66, ([], true)) :: wsT
abbrev roG (l : List Gt) : AC := .ro 4 l.length (cV l)
/-- A bench whose gates are only read. -/
abbrev bG (n : Int) (l : List Gt) (f w a : Int) : AV := .g (.agg [.v (.int .i64 n), roG l, .v (.int .i64 f), .v (.int .i64 w), .v (.int .i64 a)])
def bok (n : Int) (l : List Gt) (f w a : Int) : Bool := cokB n l && (wvB n f && (btw a 0 (l.length : Int) && (w == cr (l.take a.toNat) f)))
theorem k_ahead (n : Int) (l : List Gt) (f w a : Int) (hl : l.length ≤ 100000000) (ha : 0 ≤ a ∧ a ≤ l.length) : Kon Try.prog 66 [bG n l f w a] [] (.g (.one (roG (l.take a.toNat)))) [] [] := by
  (refine kon_mk T0ok (fn := Try.f66) (c := Try.f66.body.get rfl) Try.func66 rfl (by rfl) (by rfl) (by rfl) ?_; intro hfit hfe)
  (repeat (first | refine gq_KGK ?_ | (refine ga_KGK ?_; intro _hq)))
  ((try refine aw_ret ?_); refine ret_auto2 (by rfl) (by rfl) (by rfl) (by repeat (first | exact trivial | refine ⟨by first | rfl | omega, ?_⟩)) ?_ (by repeat (first | exact trivial | refine ⟨by rfl, by rfl, ?_⟩)) (by repeat (first | exact trivial | refine ⟨by rfl, by rfl, ?_⟩)); try rfl)
theorem all_take {p : Gt → Bool} {l : List Gt} (h : l.all p = true) (k : Nat) : (l.take k).all p = true := by
  rw [List.all_eq_true] at h ⊢
  exact fun x hx => h x (List.mem_of_mem_take hx)
theorem all_dropT {p : Gt → Bool} {l : List Gt} (h : l.all p = true) (k : Nat) : (l.drop k).all p = true := by
  rw [List.all_eq_true] at h ⊢
  exact fun x hx => h x (List.mem_of_mem_drop hx)
theorem cokB_of {n : Int} {l : List Gt} (h1 : 1 ≤ n ∧ n ≤ 8) (h2 : l.length ≤ 24) (h3 : l.all (gok n) = true) : cokB n l = true := by
  unfold cokB btw
  rw [decide_eq_true h1.1, decide_eq_true h1.2, decide_eq_true (by omega), h3]; rfl
theorem cokB_take {n : Int} {l : List Gt} (h : cokB n l = true) (k : Nat) : cokB n (l.take k) = true := by
  obtain ⟨h1, h2, h3⟩ := cokB_t h
  exact cokB_of h1 (by rw [List.length_take]; omega) (all_take h3 k)
set_option maxHeartbeats 1000000 in
theorem k_bv (n : Int) (l : List Gt) (f w a : Int) (hl : l.length ≤ 100000000) (hr : -9223372036854775808 ≤ n ∧ n ≤ 9223372036854775807) : Kon Try.prog 14 [bG n l f w a] [] (vB (bok n l f w a)) [] [] := by
  unfold bok
  have hC := k_cv n l hl
  cases h1 : cokB n l with
  | false =>
    rw [h1] at hC
    (refine kon_mk T0ok (fn := Try.f14) (c := Try.f14.body.get rfl) Try.func14 rfl (by rfl) (by rfl) (by rfl) ?_; intro hfit hfe)
    (repeat (first | refine gq_KGK ?_ | (refine ga_KGK ?_; intro _hq) | refine gd_KGK ?_))
    ((try refine aw_ret ?_); refine ret_auto2 (by rfl) (by rfl) (by rfl) (by repeat (first | exact trivial | refine ⟨by first | rfl | omega, ?_⟩)) ?_ (by repeat (first | exact trivial | refine ⟨by rfl, by rfl, ?_⟩)) (by repeat (first | exact trivial | refine ⟨by rfl, by rfl, ?_⟩)); try rfl)
  | true =>
    rw [h1] at hC
    have hc := cokB_t h1
    cases h2 : wvB n f with
    | false =>
      (refine kon_mk T0ok (fn := Try.f14) (c := Try.f14.body.get rfl) Try.func14 rfl (by rfl) (by rfl) (by rfl) ?_; intro hfit hfe)
      (repeat (first | refine gq_KGK ?_ | (refine ga_KGK ?_; intro _hq) | refine gd_KGK ?_))
      ((try refine aw_ret ?_); refine ret_auto2 (by rfl) (by rfl) (by rfl) (by repeat (first | exact trivial | refine ⟨by first | rfl | omega, ?_⟩)) ?_ (by repeat (first | exact trivial | refine ⟨by rfl, by rfl, ?_⟩)) (by repeat (first | exact trivial | refine ⟨by rfl, by rfl, ?_⟩)); try rfl)
    | true =>
      cases h3 : btw a 0 (l.length : Int) with
      | false =>
        (refine kon_mk T0ok (fn := Try.f14) (c := Try.f14.body.get rfl) Try.func14 rfl (by rfl) (by rfl) (by rfl) ?_; intro hfit hfe)
        (repeat (first | refine gq_KGK ?_ | (refine ga_KGK ?_; intro _hq) | refine gd_KGK ?_))
        ((try refine aw_ret ?_); refine ret_auto2 (by rfl) (by rfl) (by rfl) (by repeat (first | exact trivial | refine ⟨by first | rfl | omega, ?_⟩)) ?_ (by repeat (first | exact trivial | refine ⟨by rfl, by rfl, ?_⟩)) (by repeat (first | exact trivial | refine ⟨by rfl, by rfl, ?_⟩)); try rfl)
      | true =>
        have h3' := btw_t h3
        have hlt : (l.take a.toNat).length ≤ 100000000 := by rw [List.length_take]; omega
        (have hA := k_ahead n l f w a hl h3'; have hR := k_runAll n (l.take a.toNat) f (all_take hc.2.2 _) hlt h2)
        (refine kon_mk T0ok (fn := Try.f14) (c := Try.f14.body.get rfl) Try.func14 rfl (by rfl) (by rfl) (by rfl) ?_; intro hfit hfe)
        (repeat (first | refine gq_KGK ?_ | (refine ga_KGK ?_; intro _hq) | refine gd_KGK ?_))
        ((try refine aw_ret ?_); refine ret_auto2 (by rfl) (by rfl) (by rfl) (by repeat (first | exact trivial | refine ⟨by first | rfl | omega, ?_⟩)) ?_ (by repeat (first | exact trivial | refine ⟨by rfl, by rfl, ?_⟩)) (by repeat (first | exact trivial | refine ⟨by rfl, by rfl, ?_⟩)); try rfl)
set_option maxHeartbeats 1000000 in
theorem k_bvS (n : Int) (l : List Gt) (f w a : Int) (hl : l.length ≤ 100000000) (hr : -9223372036854775808 ≤ n ∧ n ≤ 9223372036854775807) : Kon Try.prog 15 [bG n l f w a] [] (vB (bok n l f w a)) [] [] := by
  unfold bok
  have hC := k_cvS n l hl hr
  cases h1 : cokB n l with
  | false =>
    rw [h1] at hC
    (refine kon_mk T0ok (fn := Try.f15) (c := Try.f15.body.get rfl) Try.func15 rfl (by rfl) (by rfl) (by rfl) ?_; intro hfit hfe)
    (repeat (first | refine gq_KGK ?_ | (refine ga_KGK ?_; intro _hq) | refine gd_KGK ?_))
    ((try refine aw_ret ?_); refine ret_auto2 (by rfl) (by rfl) (by rfl) (by repeat (first | exact trivial | refine ⟨by first | rfl | omega, ?_⟩)) ?_ (by repeat (first | exact trivial | refine ⟨by rfl, by rfl, ?_⟩)) (by repeat (first | exact trivial | refine ⟨by rfl, by rfl, ?_⟩)); try rfl)
  | true =>
    rw [h1] at hC
    have hc := cokB_t h1
    cases h2 : wvB n f with
    | false =>
      (refine kon_mk T0ok (fn := Try.f15) (c := Try.f15.body.get rfl) Try.func15 rfl (by rfl) (by rfl) (by rfl) ?_; intro hfit hfe)
      (repeat (first | refine gq_KGK ?_ | (refine ga_KGK ?_; intro _hq) | refine gd_KGK ?_))
      ((try refine aw_ret ?_); refine ret_auto2 (by rfl) (by rfl) (by rfl) (by repeat (first | exact trivial | refine ⟨by first | rfl | omega, ?_⟩)) ?_ (by repeat (first | exact trivial | refine ⟨by rfl, by rfl, ?_⟩)) (by repeat (first | exact trivial | refine ⟨by rfl, by rfl, ?_⟩)); try rfl)
    | true =>
      cases h3 : btw a 0 (l.length : Int) with
      | false =>
        (refine kon_mk T0ok (fn := Try.f15) (c := Try.f15.body.get rfl) Try.func15 rfl (by rfl) (by rfl) (by rfl) ?_; intro hfit hfe)
        (repeat (first | refine gq_KGK ?_ | (refine ga_KGK ?_; intro _hq) | refine gd_KGK ?_))
        ((try refine aw_ret ?_); refine ret_auto2 (by rfl) (by rfl) (by rfl) (by repeat (first | exact trivial | refine ⟨by first | rfl | omega, ?_⟩)) ?_ (by repeat (first | exact trivial | refine ⟨by rfl, by rfl, ?_⟩)) (by repeat (first | exact trivial | refine ⟨by rfl, by rfl, ?_⟩)); try rfl)
      | true =>
        have h3' := btw_t h3
        have hlt : (l.take a.toNat).length ≤ 100000000 := by rw [List.length_take]; omega
        (have hR := k_crunS n (l.take a.toNat) f hlt hr; have hk : cokB n (l.take a.toNat) = true := cokB_take h1 a.toNat; rw [crM, hk, h2, Bool.and_self, if_pos rfl] at hR)
        (refine kon_mk T0ok (fn := Try.f15) (c := Try.f15.body.get rfl) Try.func15 rfl (by rfl) (by rfl) (by rfl) ?_; intro hfit hfe)
        (repeat (first | refine gq_KGK ?_ | (refine ga_KGK ?_; intro _hq) | refine gd_KGK ?_))
        ((try refine aw_ret ?_); refine ret_auto2 (by rfl) (by rfl) (by rfl) (by repeat (first | exact trivial | refine ⟨by first | rfl | omega, ?_⟩)) ?_ (by repeat (first | exact trivial | refine ⟨by rfl, by rfl, ?_⟩)) (by repeat (first | exact trivial | refine ⟨by rfl, by rfl, ?_⟩)); try rfl)
end Go.Proofs.Yteagoafamjbpbaa

/- Benches in the exact laws: sizes, copies, comparison with themselves. -/
namespace Go.Proofs.Yteagoafamjbpbaa
set_option linter.unusedVariables false
set_option linter.unusedSimpArgs false
set_option maxRecDepth 20000
open Go.RowKit
attribute [local irreducible] runA runX AW
abbrev g0 : Gt := Cel.no
/-- A bench with an own row of gates. -/
abbrev bO (n : Int) (l : List Gt) (f w a : Int) : AV := .g (.agg [.v (.int .i64 n), .sl 0 0 l.length, .v (.int .i64 f), .v (.int .i64 w), .v (.int .i64 a)])
end Go.Proofs.Yteagoafamjbpbaa

/- The word behind all gates, both sides; the law FnExactBenchEnd. -/
namespace Go.Proofs.Yteagoafamjbpbaa
set_option linter.unusedVariables false
set_option linter.unusedSimpArgs false
set_option maxRecDepth 20000
open Go.RowKit
attribute [local irreducible] runA runX AW
theorem bok_t {n : Int} {l : List Gt} {f w a : Int} (h : bok n l f w a = true) : cokB n l = true ∧ wvB n f = true ∧ (0 ≤ a ∧ a ≤ l.length) ∧ w = cr (l.take a.toNat) f := by
  unfold bok at h
  simp only [Bool.and_eq_true, beq_iff_eq] at h
  exact ⟨h.1, h.2.1, btw_t h.2.2.1, h.2.2.2⟩
end Go.Proofs.Yteagoafamjbpbaa

/- The way home, both sides; marks; the law FnExactHomeDeeds. -/
namespace Go.Proofs.Yteagoafamjbpbaa
set_option linter.unusedVariables false
set_option linter.unusedSimpArgs false
set_option maxRecDepth 20000
open Go.RowKit
/-- A deed. -/
structure Dd where
  k : Int
  n : Int
  p : Gt
instance : Cel Dd where
  f d := [.int .i64 d.k, .int .i64 d.n, .int .i64 d.p.k, .int .i64 d.p.a, .int .i64 d.p.b, .int .i64 d.p.c]
  un vs := match vs with
    | [.int .i64 x, .int .i64 y, .int .i64 k, .int .i64 a, .int .i64 b, .int .i64 c] => some ⟨x, y, ⟨k, a, b, c⟩⟩
    | _ => none
  sz := 6
  no := ⟨0, 0, ⟨0, 0, 0, 0⟩⟩
  pos := by omega
  len _ := rfl
  one _ := rfl
  unf vs a h := by
    split at h
    · cases h; rfl
    · cases h
attribute [local irreducible] runA runX AW
abbrev dCs (d : Dd) : List AC := [.v (.int .i64 d.k), .v (.int .i64 d.n), .v (.int .i64 d.p.k), .v (.int .i64 d.p.a), .v (.int .i64 d.p.b), .v (.int .i64 d.p.c)]
abbrev dV (d : Dd) : AV := .g (.agg (dCs d))
abbrev dRow (l : List Dd) : Ent := rwE 36 l
abbrev hD (a : Int) : Dd := ⟨1, a, ⟨0, 0, 0, 0⟩⟩
section
variable (n : Int) (l : List Gt) (f w a : Int) (hl : l.length ≤ 100000000) (hr : -9223372036854775808 ≤ n ∧ n ≤ 9223372036854775807)
include hl hr
end





























end Go.Proofs.Yteagoafamjbpbaa

/- spec.l10Copy, spec.l10Named; towards spec.BenchDo with gates that are only read. -/
namespace Go.Proofs.Yteagoafamjbpbaa
set_option linter.unusedVariables false
set_option linter.unusedSimpArgs false
set_option maxRecDepth 20000
open Go.RowKit
attribute [local irreducible] runA runX AW
theorem gq_KEC {H G : Prop} (k : H) (h : Hid H → G := by (intro hh; (first | (first | ((first | refine r_none ?_ | refine r_gt (by rfl) (by rfl) (by first | rfl | assumption | omega | (simp only [*, Bool.not_false, Bool.not_true]; first | done | fail) | (simp [*]; first | done | fail)) (by rfl) ?_ | refine r_gf (by rfl) (by rfl) (by first | rfl | assumption | omega | (simp only [*, Bool.not_false, Bool.not_true]; first | done | fail) | (simp [*]; first | done | fail)) (by rfl) ?_); (first | fail | ((first | (refine z_op (by rfl) ?_; first | refine z_ok ?_ ?_ | refine z_ex ?_ (by first | exact ft_raw rfl rfl | ((first | refine ft_rp rfl rfl rfl ?_ | refine ft_row rfl rfl rfl ?_ | refine ft_rpF rfl rfl rfl ?_ | refine ft_rowF rfl rfl rfl ?_ | refine up_row rfl rfl ?_ | refine up_rowF rfl rfl rfl ?_ | refine ct_0 rfl ?_ | refine ct_r rfl rfl ?_ | refine ct_c rfl rfl rfl ?_ | refine cu_all rfl ?_ | refine cu_to rfl ?_ | refine cu_from rfl ?_ | refine cu_p rfl ?_ | (first | refine mk_0 Gt rfl rfl ?_)); (first | omega | (simp only [List.length_append, List.length_replicate, List.length_cons, List.length_nil, List.length_set, List.length_take, List.length_drop, true_and]; omega))) | exact up_raw rfl | exact pk_t (by first | rfl | assumption | omega | (simp only [*, Bool.not_false, Bool.not_true]; first | done | fail) | (simp [*]; first | done | fail)) rfl | exact pk_f (by first | rfl | assumption | omega | (simp only [*, Bool.not_false, Bool.not_true]; first | done | fail) | (simp [*]; first | done | fail)) rfl | exact rw_c Gt rfl | exact rw_raw | exact pu_cv (fun w => rfl) (by omega) | exact pu_of (fun w => rfl) rfl | exact be_of (fun w => rfl) | exact nc_of (fun _ _ _ _ => rfl) rfl | exact bu_of (fun w => rfl) rfl | (first | exact pu_of (fun w => eq_gate _ _ _ _ _ _ _ _ _ _ w) rfl)) ?_) | ((first | refine q_callE wsT wsZ (by rfl) ?_ | refine q_callVE wsT (by rfl) (by rfl) ?_); refine ⟨_, _, _, (by first | assumption), _, by rfl, ?_, ?_⟩)); focus (first | exact trivial | fail | exact rfl | (first | omega | (simp only [List.length_append, List.length_replicate, List.length_cons, List.length_nil, List.length_set, List.length_take, List.length_drop, true_and]; omega)) | exact cvB (fun w => rfl) | ((repeat' (first | exact rfl | exact cV_len _ | exact cV_ln rfl (by omega) | exact Cel.pos | omega | exact trivial | refine And.intro ?_ ?_)); done) | (simp [*]; done) | (simp; omega))) | fail)) | refine r_nt (by rfl) (by rfl) (by first | rfl | assumption | omega | (simp only [*, Bool.not_false, Bool.not_true]; first | done | fail) | (simp [*]; first | done | fail)) (by rfl) ?_ | refine r_nf (by rfl) (by rfl) (by first | rfl | assumption | omega | (simp only [*, Bool.not_false, Bool.not_true]; first | done | fail) | (simp [*]; first | done | fail)) (by rfl) ?_ | refine r_gu (by rfl) (by rfl) (by rfl) ?_ | refine r_nil ?_) | (first | refine aw_seq ?_ | refine aw_ct (by rfl) (by first | rfl | assumption | omega | (simp only [*, Bool.not_false, Bool.not_true]; first | done | fail) | (simp [*]; first | done | fail)) ?_ | refine aw_cf (by rfl) (by first | rfl | assumption | omega | (simp only [*, Bool.not_false, Bool.not_true]; first | done | fail) | (simp [*]; first | done | fail)) ?_ | refine aw_block ?_ | refine aw_region T0ok cfU_ok (by rfl) ?_ | refine aw_skip ?_ | refine aw_exit ?_ | refine ra_step ?_)); (repeat (first | (first | ((first | refine r_none ?_ | refine r_gt (by rfl) (by rfl) (by first | rfl | assumption | omega | (simp only [*, Bool.not_false, Bool.not_true]; first | done | fail) | (simp [*]; first | done | fail)) (by rfl) ?_ | refine r_gf (by rfl) (by rfl) (by first | rfl | assumption | omega | (simp only [*, Bool.not_false, Bool.not_true]; first | done | fail) | (simp [*]; first | done | fail)) (by rfl) ?_); (first | fail | ((first | (refine z_op (by rfl) ?_; first | refine z_ok ?_ ?_ | refine z_ex ?_ (by first | exact ft_raw rfl rfl | ((first | refine ft_rp rfl rfl rfl ?_ | refine ft_row rfl rfl rfl ?_ | refine ft_rpF rfl rfl rfl ?_ | refine ft_rowF rfl rfl rfl ?_ | refine up_row rfl rfl ?_ | refine up_rowF rfl rfl rfl ?_ | refine ct_0 rfl ?_ | refine ct_r rfl rfl ?_ | refine ct_c rfl rfl rfl ?_ | refine cu_all rfl ?_ | refine cu_to rfl ?_ | refine cu_from rfl ?_ | refine cu_p rfl ?_ | (first | refine mk_0 Gt rfl rfl ?_)); (first | omega | (simp only [List.length_append, List.length_replicate, List.length_cons, List.length_nil, List.length_set, List.length_take, List.length_drop, true_and]; omega))) | exact up_raw rfl | exact pk_t (by first | rfl | assumption | omega | (simp only [*, Bool.not_false, Bool.not_true]; first | done | fail) | (simp [*]; first | done | fail)) rfl | exact pk_f (by first | rfl | assumption | omega | (simp only [*, Bool.not_false, Bool.not_true]; first | done | fail) | (simp [*]; first | done | fail)) rfl | exact rw_c Gt rfl | exact rw_raw | exact pu_cv (fun w => rfl) (by omega) | exact pu_of (fun w => rfl) rfl | exact be_of (fun w => rfl) | exact nc_of (fun _ _ _ _ => rfl) rfl | exact bu_of (fun w => rfl) rfl | (first | exact pu_of (fun w => eq_gate _ _ _ _ _ _ _ _ _ _ w) rfl)) ?_) | ((first | refine q_callE wsT wsZ (by rfl) ?_ | refine q_callVE wsT (by rfl) (by rfl) ?_); refine ⟨_, _, _, (by first | assumption), _, by rfl, ?_, ?_⟩)); focus (first | exact trivial | fail | exact rfl | (first | omega | (simp only [List.length_append, List.length_replicate, List.length_cons, List.length_nil, List.length_set, List.length_take, List.length_drop, true_and]; omega)) | exact cvB (fun w => rfl) | ((repeat' (first | exact rfl | exact cV_len _ | exact cV_ln rfl (by omega) | exact Cel.pos | omega | exact trivial | refine And.intro ?_ ?_)); done) | (simp [*]; done) | (simp; omega))) | fail)) | refine r_nt (by rfl) (by rfl) (by first | rfl | assumption | omega | (simp only [*, Bool.not_false, Bool.not_true]; first | done | fail) | (simp [*]; first | done | fail)) (by rfl) ?_ | refine r_nf (by rfl) (by rfl) (by first | rfl | assumption | omega | (simp only [*, Bool.not_false, Bool.not_true]; first | done | fail) | (simp [*]; first | done | fail)) (by rfl) ?_ | refine r_gu (by rfl) (by rfl) (by rfl) ?_ | refine r_nil ?_) | (first | refine aw_seq ?_ | refine aw_ct (by rfl) (by first | rfl | assumption | omega | (simp only [*, Bool.not_false, Bool.not_true]; first | done | fail) | (simp [*]; first | done | fail)) ?_ | refine aw_cf (by rfl) (by first | rfl | assumption | omega | (simp only [*, Bool.not_false, Bool.not_true]; first | done | fail) | (simp [*]; first | done | fail)) ?_ | refine aw_block ?_ | refine aw_region T0ok cfU_ok (by rfl) ?_ | refine aw_skip ?_ | refine aw_exit ?_ | refine ra_step ?_))); exact hh.out)) : G := h ⟨k⟩
theorem ga_KEC {H G : Prop} (k : H) (h : Hid H → G := by (intro hh; (first | refine r_none ?_ | refine r_gt (by rfl) (by rfl) (by first | rfl | assumption | omega | (simp only [*, Bool.not_false, Bool.not_true]; first | done | fail) | (simp [*]; first | done | fail)) (by rfl) ?_ | refine r_gf (by rfl) (by rfl) (by first | rfl | assumption | omega | (simp only [*, Bool.not_false, Bool.not_true]; first | done | fail) | (simp [*]; first | done | fail)) (by rfl) ?_); refine z_op (by rfl) ?_; refine z_al ?_ hh.out; focus (first | exact trivial | fail | exact rfl | (first | omega | (simp only [List.length_append, List.length_replicate, List.length_cons, List.length_nil, List.length_set, List.length_take, List.length_drop, true_and]; omega)) | exact cvB (fun w => rfl) | ((repeat' (first | exact rfl | exact cV_len _ | exact cV_ln rfl (by omega) | exact Cel.pos | omega | exact trivial | refine And.intro ?_ ?_)); done) | (simp [*]; done) | (simp; omega)))) : G := h ⟨k⟩
abbrev bS (n : Int) (m : Nat) (f w a : Int) : AV := .g (.agg [.v (.int .i64 n), .sl 0 0 m, .v (.int .i64 f), .v (.int .i64 w), .v (.int .i64 a)])
theorem k_copyS (n : Int) (l : List Gt) (f w a : Int) (hl : l.length ≤ 10000000) : Kon Try.prog 73 [bG n l f w a] [] (bS n l.length f w a) [gRow l] [] := by
  (refine kon_mk T0ok (fn := Try.f73) (c := Try.f73.body.get rfl) Try.func73 rfl (by rfl) (by rfl) (by rfl) ?_; intro hfit hfe)
  (repeat (first | refine gq_KEC ?_ | (refine ga_KEC ?_; intro _q ⟨_he, _hq⟩)))
  ((try refine aw_ret ?_); refine ret_auto2 (by rfl) (by rfl) (by rfl) (by repeat (first | exact trivial | refine ⟨by first | rfl | omega, ?_⟩)) ?_ (by repeat (first | exact trivial | refine ⟨by rfl, by rfl, ?_⟩)) (by repeat (first | exact trivial | refine ⟨by rfl, by rfl, ?_⟩)); try rfl)
/-- What is said of a deed. -/
def nmD (d : Dd) : Bool :=
  if d.k = 0 ∨ d.k = 1 then (d.p.k == 0 && (d.p.a == 0 && (d.p.b == 0 && d.p.c == 0)))
  else if d.k = 2 then d.n == 0
  else if d.k = 3 ∨ d.k = 4 then d.n == 0 && (d.p.k == 0 && (d.p.a == 0 && (d.p.b == 0 && d.p.c == 0)))
  else false
theorem k_named0 (d : Dd) (h : d.k = 0) : Kon Try.prog 74 [dV d] [] (vB (nmD d)) [] [] := by
  obtain ⟨k, n, p⟩ := d
  obtain rfl : k = 0 := h
  (refine kon_mk T0ok (fn := Try.f74) (c := Try.f74.body.get rfl) Try.func74 rfl (by rfl) (by rfl) (by rfl) ?_; intro hfit hfe)
  (repeat (first | refine gq_KEC ?_ | (refine ga_KEC ?_; intro _q ⟨_he, _hq⟩)))
  ((try refine aw_ret ?_); refine ret_auto2 (by rfl) (by rfl) (by rfl) (by repeat (first | exact trivial | refine ⟨by first | rfl | omega, ?_⟩)) ?_ (by repeat (first | exact trivial | refine ⟨by rfl, by rfl, ?_⟩)) (by repeat (first | exact trivial | refine ⟨by rfl, by rfl, ?_⟩)); try rfl)
theorem k_named1 (d : Dd) (h : d.k = 1) : Kon Try.prog 74 [dV d] [] (vB (nmD d)) [] [] := by
  obtain ⟨k, n, p⟩ := d
  obtain rfl : k = 1 := h
  (refine kon_mk T0ok (fn := Try.f74) (c := Try.f74.body.get rfl) Try.func74 rfl (by rfl) (by rfl) (by rfl) ?_; intro hfit hfe)
  (repeat (first | refine gq_KEC ?_ | (refine ga_KEC ?_; intro _q ⟨_he, _hq⟩)))
  ((try refine aw_ret ?_); refine ret_auto2 (by rfl) (by rfl) (by rfl) (by repeat (first | exact trivial | refine ⟨by first | rfl | omega, ?_⟩)) ?_ (by repeat (first | exact trivial | refine ⟨by rfl, by rfl, ?_⟩)) (by repeat (first | exact trivial | refine ⟨by rfl, by rfl, ?_⟩)); try rfl)
theorem k_named2 (d : Dd) (h : d.k = 2) : Kon Try.prog 74 [dV d] [] (vB (nmD d)) [] [] := by
  obtain ⟨k, n, p⟩ := d
  obtain rfl : k = 2 := h
  (refine kon_mk T0ok (fn := Try.f74) (c := Try.f74.body.get rfl) Try.func74 rfl (by rfl) (by rfl) (by rfl) ?_; intro hfit hfe)
  (repeat (first | refine gq_KEC ?_ | (refine ga_KEC ?_; intro _q ⟨_he, _hq⟩)))
  ((try refine aw_ret ?_); refine ret_auto2 (by rfl) (by rfl) (by rfl) (by repeat (first | exact trivial | refine ⟨by first | rfl | omega, ?_⟩)) ?_ (by repeat (first | exact trivial | refine ⟨by rfl, by rfl, ?_⟩)) (by repeat (first | exact trivial | refine ⟨by rfl, by rfl, ?_⟩)); try rfl)
theorem k_named3 (d : Dd) (h : d.k = 3) : Kon Try.prog 74 [dV d] [] (vB (nmD d)) [] [] := by
  obtain ⟨k, n, p⟩ := d
  obtain rfl : k = 3 := h
  cases hx : (n == 0) with
  | true =>
    have e : nmD ⟨3, n, p⟩ = (p.k == 0 && (p.a == 0 && (p.b == 0 && p.c == 0))) := by simp [nmD, hx]
    rw [e]
    (refine kon_mk T0ok (fn := Try.f74) (c := Try.f74.body.get rfl) Try.func74 rfl (by rfl) (by rfl) (by rfl) ?_; intro hfit hfe)
    (repeat (first | refine gq_KEC ?_ | (refine ga_KEC ?_; intro _q ⟨_he, _hq⟩)))
    ((try refine aw_ret ?_); refine ret_auto2 (by rfl) (by rfl) (by rfl) (by repeat (first | exact trivial | refine ⟨by first | rfl | omega, ?_⟩)) ?_ (by repeat (first | exact trivial | refine ⟨by rfl, by rfl, ?_⟩)) (by repeat (first | exact trivial | refine ⟨by rfl, by rfl, ?_⟩)); try rfl)
  | false =>
    have e : nmD ⟨3, n, p⟩ = false := by simp [nmD, hx]
    rw [e]
    (refine kon_mk T0ok (fn := Try.f74) (c := Try.f74.body.get rfl) Try.func74 rfl (by rfl) (by rfl) (by rfl) ?_; intro hfit hfe)
    (repeat (first | refine gq_KEC ?_ | (refine ga_KEC ?_; intro _q ⟨_he, _hq⟩)))
    ((try refine aw_ret ?_); refine ret_auto2 (by rfl) (by rfl) (by rfl) (by repeat (first | exact trivial | refine ⟨by first | rfl | omega, ?_⟩)) ?_ (by repeat (first | exact trivial | refine ⟨by rfl, by rfl, ?_⟩)) (by repeat (first | exact trivial | refine ⟨by rfl, by rfl, ?_⟩)); try rfl)
theorem k_named4 (d : Dd) (h : d.k = 4) : Kon Try.prog 74 [dV d] [] (vB (nmD d)) [] [] := by
  obtain ⟨k, n, p⟩ := d
  obtain rfl : k = 4 := h
  cases hx : (n == 0) with
  | true =>
    have e : nmD ⟨4, n, p⟩ = (p.k == 0 && (p.a == 0 && (p.b == 0 && p.c == 0))) := by simp [nmD, hx]
    rw [e]
    (refine kon_mk T0ok (fn := Try.f74) (c := Try.f74.body.get rfl) Try.func74 rfl (by rfl) (by rfl) (by rfl) ?_; intro hfit hfe)
    (repeat (first | refine gq_KEC ?_ | (refine ga_KEC ?_; intro _q ⟨_he, _hq⟩)))
    ((try refine aw_ret ?_); refine ret_auto2 (by rfl) (by rfl) (by rfl) (by repeat (first | exact trivial | refine ⟨by first | rfl | omega, ?_⟩)) ?_ (by repeat (first | exact trivial | refine ⟨by rfl, by rfl, ?_⟩)) (by repeat (first | exact trivial | refine ⟨by rfl, by rfl, ?_⟩)); try rfl)
  | false =>
    have e : nmD ⟨4, n, p⟩ = false := by simp [nmD, hx]
    rw [e]
    (refine kon_mk T0ok (fn := Try.f74) (c := Try.f74.body.get rfl) Try.func74 rfl (by rfl) (by rfl) (by rfl) ?_; intro hfit hfe)
    (repeat (first | refine gq_KEC ?_ | (refine ga_KEC ?_; intro _q ⟨_he, _hq⟩)))
    ((try refine aw_ret ?_); refine ret_auto2 (by rfl) (by rfl) (by rfl) (by repeat (first | exact trivial | refine ⟨by first | rfl | omega, ?_⟩)) ?_ (by repeat (first | exact trivial | refine ⟨by rfl, by rfl, ?_⟩)) (by repeat (first | exact trivial | refine ⟨by rfl, by rfl, ?_⟩)); try rfl)
theorem k_namedX (d : Dd) (h : d.k < 0 ∨ 4 < d.k) : Kon Try.prog 74 [dV d] [] (vB false) [] [] := by
  obtain ⟨k, n, p⟩ := d
  dsimp only at h
  have h0 : (k == 0) = false := by rw [beq_eq_false_iff_ne]; omega
  have h1 : (k == 1) = false := by rw [beq_eq_false_iff_ne]; omega
  have h2 : (k == 2) = false := by rw [beq_eq_false_iff_ne]; omega
  have h3 : (k == 3) = false := by rw [beq_eq_false_iff_ne]; omega
  have h4 : (k == 4) = false := by rw [beq_eq_false_iff_ne]; omega
  (refine kon_mk T0ok (fn := Try.f74) (c := Try.f74.body.get rfl) Try.func74 rfl (by rfl) (by rfl) (by rfl) ?_; intro hfit hfe)
  (repeat (first | refine gq_KEC ?_ | (refine ga_KEC ?_; intro _q ⟨_he, _hq⟩)))
  ((try refine aw_ret ?_); refine ret_auto2 (by rfl) (by rfl) (by rfl) (by repeat (first | exact trivial | refine ⟨by first | rfl | omega, ?_⟩)) ?_ (by repeat (first | exact trivial | refine ⟨by rfl, by rfl, ?_⟩)) (by repeat (first | exact trivial | refine ⟨by rfl, by rfl, ?_⟩)); try rfl)
end Go.Proofs.Yteagoafamjbpbaa

/- spec.BenchDo, case by case. -/
namespace Go.Proofs.Yteagoafamjbpbaa
set_option linter.unusedVariables false
set_option linter.unusedSimpArgs false
set_option maxRecDepth 20000
open Go.RowKit
attribute [local irreducible] runA runX AW
def wsTD : WsT := wsT
theorem gq_KED {H G : Prop} (k : H) (h : Hid H → G := by (intro hh; (first | (first | ((first | refine r_none ?_ | refine r_gt (by rfl) (by rfl) (by first | rfl | assumption | omega | (simp only [*, Bool.not_false, Bool.not_true]; first | done | fail) | (simp [*]; first | done | fail)) (by rfl) ?_ | refine r_gf (by rfl) (by rfl) (by first | rfl | assumption | omega | (simp only [*, Bool.not_false, Bool.not_true]; first | done | fail) | (simp [*]; first | done | fail)) (by rfl) ?_); (first | fail | ((first | (refine z_op (by rfl) ?_; first | refine z_ok ?_ ?_ | refine z_ex ?_ (by first | exact ft_raw rfl rfl | ((first | refine ft_rp rfl rfl rfl ?_ | refine ft_row rfl rfl rfl ?_ | refine ft_rpF rfl rfl rfl ?_ | refine ft_rowF rfl rfl rfl ?_ | refine up_row rfl rfl ?_ | refine up_rowF rfl rfl rfl ?_ | refine ct_0 rfl ?_ | refine ct_r rfl rfl ?_ | refine ct_c rfl rfl rfl ?_ | refine cu_all rfl ?_ | refine cu_to rfl ?_ | refine cu_from rfl ?_ | refine cu_p rfl ?_ | (first | refine mk_0 Gt rfl rfl ?_)); (first | omega | (simp only [List.length_append, List.length_replicate, List.length_cons, List.length_nil, List.length_set, List.length_take, List.length_drop, true_and]; omega))) | exact up_raw rfl | exact pk_t (by first | rfl | assumption | omega | (simp only [*, Bool.not_false, Bool.not_true]; first | done | fail) | (simp [*]; first | done | fail)) rfl | exact pk_f (by first | rfl | assumption | omega | (simp only [*, Bool.not_false, Bool.not_true]; first | done | fail) | (simp [*]; first | done | fail)) rfl | exact rw_c Gt rfl | exact rw_raw | exact pu_cv (fun w => rfl) (by omega) | exact pu_of (fun w => rfl) rfl | exact be_of (fun w => rfl) | exact nc_of (fun _ _ _ _ => rfl) rfl | exact bu_of (fun w => rfl) rfl | fail) ?_) | ((first | refine q_callE wsTD wsZ (by rfl) ?_ | refine q_callVE wsTD (by rfl) (by rfl) ?_); refine ⟨_, _, _, (by first | assumption | exact k_copyS _ _ _ _ _ (by omega) | exact k_l1In _ _ _), _, by rfl, ?_, ?_⟩)); focus (first | exact trivial | fail | exact rfl | (first | omega | (simp only [List.length_append, List.length_replicate, List.length_cons, List.length_nil, List.length_set, List.length_take, List.length_drop, true_and]; omega)) | exact cvB (fun w => rfl) | ((repeat' (first | exact rfl | exact cV_len _ | exact cV_ln rfl (by omega) | exact Cel.pos | omega | exact trivial | refine And.intro ?_ ?_)); done) | (simp [*]; done) | (simp; omega))) | fail)) | refine r_nt (by rfl) (by rfl) (by first | rfl | assumption | omega | (simp only [*, Bool.not_false, Bool.not_true]; first | done | fail) | (simp [*]; first | done | fail)) (by rfl) ?_ | refine r_nf (by rfl) (by rfl) (by first | rfl | assumption | omega | (simp only [*, Bool.not_false, Bool.not_true]; first | done | fail) | (simp [*]; first | done | fail)) (by rfl) ?_ | refine r_gu (by rfl) (by rfl) (by rfl) ?_ | refine r_nil ?_) | (first | refine aw_seq ?_ | refine aw_ct (by rfl) (by first | rfl | assumption | omega | (simp only [*, Bool.not_false, Bool.not_true]; first | done | fail) | (simp [*]; first | done | fail)) ?_ | refine aw_cf (by rfl) (by first | rfl | assumption | omega | (simp only [*, Bool.not_false, Bool.not_true]; first | done | fail) | (simp [*]; first | done | fail)) ?_ | refine aw_block ?_ | refine aw_region T0ok cfU_ok (by rfl) ?_ | refine aw_skip ?_ | refine aw_exit ?_ | refine ra_step ?_)); (repeat (first | (first | ((first | refine r_none ?_ | refine r_gt (by rfl) (by rfl) (by first | rfl | assumption | omega | (simp only [*, Bool.not_false, Bool.not_true]; first | done | fail) | (simp [*]; first | done | fail)) (by rfl) ?_ | refine r_gf (by rfl) (by rfl) (by first | rfl | assumption | omega | (simp only [*, Bool.not_false, Bool.not_true]; first | done | fail) | (simp [*]; first | done | fail)) (by rfl) ?_); (first | fail | ((first | (refine z_op (by rfl) ?_; first | refine z_ok ?_ ?_ | refine z_ex ?_ (by first | exact ft_raw rfl rfl | ((first | refine ft_rp rfl rfl rfl ?_ | refine ft_row rfl rfl rfl ?_ | refine ft_rpF rfl rfl rfl ?_ | refine ft_rowF rfl rfl rfl ?_ | refine up_row rfl rfl ?_ | refine up_rowF rfl rfl rfl ?_ | refine ct_0 rfl ?_ | refine ct_r rfl rfl ?_ | refine ct_c rfl rfl rfl ?_ | refine cu_all rfl ?_ | refine cu_to rfl ?_ | refine cu_from rfl ?_ | refine cu_p rfl ?_ | (first | refine mk_0 Gt rfl rfl ?_)); (first | omega | (simp only [List.length_append, List.length_replicate, List.length_cons, List.length_nil, List.length_set, List.length_take, List.length_drop, true_and]; omega))) | exact up_raw rfl | exact pk_t (by first | rfl | assumption | omega | (simp only [*, Bool.not_false, Bool.not_true]; first | done | fail) | (simp [*]; first | done | fail)) rfl | exact pk_f (by first | rfl | assumption | omega | (simp only [*, Bool.not_false, Bool.not_true]; first | done | fail) | (simp [*]; first | done | fail)) rfl | exact rw_c Gt rfl | exact rw_raw | exact pu_cv (fun w => rfl) (by omega) | exact pu_of (fun w => rfl) rfl | exact be_of (fun w => rfl) | exact nc_of (fun _ _ _ _ => rfl) rfl | exact bu_of (fun w => rfl) rfl | fail) ?_) | ((first | refine q_callE wsTD wsZ (by rfl) ?_ | refine q_callVE wsTD (by rfl) (by rfl) ?_); refine ⟨_, _, _, (by first | assumption | exact k_copyS _ _ _ _ _ (by omega) | exact k_l1In _ _ _), _, by rfl, ?_, ?_⟩)); focus (first | exact trivial | fail | exact rfl | (first | omega | (simp only [List.length_append, List.length_replicate, List.length_cons, List.length_nil, List.length_set, List.length_take, List.length_drop, true_and]; omega)) | exact cvB (fun w => rfl) | ((repeat' (first | exact rfl | exact cV_len _ | exact cV_ln rfl (by omega) | exact Cel.pos | omega | exact trivial | refine And.intro ?_ ?_)); done) | (simp [*]; done) | (simp; omega))) | fail)) | refine r_nt (by rfl) (by rfl) (by first | rfl | assumption | omega | (simp only [*, Bool.not_false, Bool.not_true]; first | done | fail) | (simp [*]; first | done | fail)) (by rfl) ?_ | refine r_nf (by rfl) (by rfl) (by first | rfl | assumption | omega | (simp only [*, Bool.not_false, Bool.not_true]; first | done | fail) | (simp [*]; first | done | fail)) (by rfl) ?_ | refine r_gu (by rfl) (by rfl) (by rfl) ?_ | refine r_nil ?_) | (first | refine aw_seq ?_ | refine aw_ct (by rfl) (by first | rfl | assumption | omega | (simp only [*, Bool.not_false, Bool.not_true]; first | done | fail) | (simp [*]; first | done | fail)) ?_ | refine aw_cf (by rfl) (by first | rfl | assumption | omega | (simp only [*, Bool.not_false, Bool.not_true]; first | done | fail) | (simp [*]; first | done | fail)) ?_ | refine aw_block ?_ | refine aw_region T0ok cfU_ok (by rfl) ?_ | refine aw_skip ?_ | refine aw_exit ?_ | refine ra_step ?_))); exact hh.out)) : G := h ⟨k⟩
theorem ga_KED {H G : Prop} (k : H) (h : Hid H → G := by (intro hh; (first | refine r_none ?_ | refine r_gt (by rfl) (by rfl) (by first | rfl | assumption | omega | (simp only [*, Bool.not_false, Bool.not_true]; first | done | fail) | (simp [*]; first | done | fail)) (by rfl) ?_ | refine r_gf (by rfl) (by rfl) (by first | rfl | assumption | omega | (simp only [*, Bool.not_false, Bool.not_true]; first | done | fail) | (simp [*]; first | done | fail)) (by rfl) ?_); refine z_op (by rfl) ?_; refine z_al ?_ hh.out; focus (first | exact trivial | fail | exact rfl | (first | omega | (simp only [List.length_append, List.length_replicate, List.length_cons, List.length_nil, List.length_set, List.length_take, List.length_drop, true_and]; omega)) | exact cvB (fun w => rfl) | ((repeat' (first | exact rfl | exact cV_len _ | exact cV_ln rfl (by omega) | exact Cel.pos | omega | exact trivial | refine And.intro ?_ ?_)); done) | (simp [*]; done) | (simp; omega)))) : G := h ⟨k⟩
theorem gs_KED {H G : Prop} (k : H) (h : Hid H → G := by (intro hh; (first | ((first | refine r_none ?_ | refine r_gt (by rfl) (by rfl) (by first | rfl | assumption | omega | (simp only [*, Bool.not_false, Bool.not_true]; first | done | fail) | (simp [*]; first | done | fail)) (by rfl) ?_ | refine r_gf (by rfl) (by rfl) (by first | rfl | assumption | omega | (simp only [*, Bool.not_false, Bool.not_true]; first | done | fail) | (simp [*]; first | done | fail)) (by rfl) ?_); (first | fail | ((first | (refine z_op (by rfl) ?_; first | refine z_ok ?_ ?_ | refine z_ex ?_ (by first | exact ft_raw rfl rfl | ((first | refine ft_rp rfl rfl rfl ?_ | refine ft_row rfl rfl rfl ?_ | refine ft_rpF rfl rfl rfl ?_ | refine ft_rowF rfl rfl rfl ?_ | refine up_row rfl rfl ?_ | refine up_rowF rfl rfl rfl ?_ | refine ct_0 rfl ?_ | refine ct_r rfl rfl ?_ | refine ct_c rfl rfl rfl ?_ | refine cu_all rfl ?_ | refine cu_to rfl ?_ | refine cu_from rfl ?_ | refine cu_p rfl ?_ | (first | refine mk_0 Gt rfl rfl ?_)); (first | omega | (simp only [List.length_append, List.length_replicate, List.length_cons, List.length_nil, List.length_set, List.length_take, List.length_drop, true_and]; omega))) | exact up_raw rfl | exact pk_t (by first | rfl | assumption | omega | (simp only [*, Bool.not_false, Bool.not_true]; first | done | fail) | (simp [*]; first | done | fail)) rfl | exact pk_f (by first | rfl | assumption | omega | (simp only [*, Bool.not_false, Bool.not_true]; first | done | fail) | (simp [*]; first | done | fail)) rfl | exact rw_c Gt rfl | exact rw_raw | exact pu_cv (fun w => rfl) (by omega) | exact pu_of (fun w => rfl) rfl | exact be_of (fun w => rfl) | exact nc_of (fun _ _ _ _ => rfl) rfl | exact bu_of (fun w => rfl) rfl | fail) ?_) | ((first | refine q_callE wsTD wsZ (by rfl) ?_ | refine q_callVE wsTD (by rfl) (by rfl) ?_); refine ⟨_, _, _, (by first | assumption | exact k_copyS _ _ _ _ _ (by omega) | exact k_l1In _ _ _), _, by rfl, ?_, ?_⟩)); focus (first | exact trivial | fail | exact rfl | (first | omega | (simp only [List.length_append, List.length_replicate, List.length_cons, List.length_nil, List.length_set, List.length_take, List.length_drop, true_and]; omega)) | exact cvB (fun w => rfl) | ((repeat' (first | exact rfl | exact cV_len _ | exact cV_ln rfl (by omega) | exact Cel.pos | omega | exact trivial | refine And.intro ?_ ?_)); done) | (simp [*]; done) | (simp; omega))) | fail)) | refine r_nt (by rfl) (by rfl) (by first | rfl | assumption | omega | (simp only [*, Bool.not_false, Bool.not_true]; first | done | fail) | (simp [*]; first | done | fail)) (by rfl) ?_ | refine r_nf (by rfl) (by rfl) (by first | rfl | assumption | omega | (simp only [*, Bool.not_false, Bool.not_true]; first | done | fail) | (simp [*]; first | done | fail)) (by rfl) ?_ | refine r_gu (by rfl) (by rfl) (by rfl) ?_ | refine r_nil ?_); (repeat (first | ((first | refine r_none ?_ | refine r_gt (by rfl) (by rfl) (by first | rfl | assumption | omega | (simp only [*, Bool.not_false, Bool.not_true]; first | done | fail) | (simp [*]; first | done | fail)) (by rfl) ?_ | refine r_gf (by rfl) (by rfl) (by first | rfl | assumption | omega | (simp only [*, Bool.not_false, Bool.not_true]; first | done | fail) | (simp [*]; first | done | fail)) (by rfl) ?_); (first | fail | ((first | (refine z_op (by rfl) ?_; first | refine z_ok ?_ ?_ | refine z_ex ?_ (by first | exact ft_raw rfl rfl | ((first | refine ft_rp rfl rfl rfl ?_ | refine ft_row rfl rfl rfl ?_ | refine ft_rpF rfl rfl rfl ?_ | refine ft_rowF rfl rfl rfl ?_ | refine up_row rfl rfl ?_ | refine up_rowF rfl rfl rfl ?_ | refine ct_0 rfl ?_ | refine ct_r rfl rfl ?_ | refine ct_c rfl rfl rfl ?_ | refine cu_all rfl ?_ | refine cu_to rfl ?_ | refine cu_from rfl ?_ | refine cu_p rfl ?_ | (first | refine mk_0 Gt rfl rfl ?_)); (first | omega | (simp only [List.length_append, List.length_replicate, List.length_cons, List.length_nil, List.length_set, List.length_take, List.length_drop, true_and]; omega))) | exact up_raw rfl | exact pk_t (by first | rfl | assumption | omega | (simp only [*, Bool.not_false, Bool.not_true]; first | done | fail) | (simp [*]; first | done | fail)) rfl | exact pk_f (by first | rfl | assumption | omega | (simp only [*, Bool.not_false, Bool.not_true]; first | done | fail) | (simp [*]; first | done | fail)) rfl | exact rw_c Gt rfl | exact rw_raw | exact pu_cv (fun w => rfl) (by omega) | exact pu_of (fun w => rfl) rfl | exact be_of (fun w => rfl) | exact nc_of (fun _ _ _ _ => rfl) rfl | exact bu_of (fun w => rfl) rfl | fail) ?_) | ((first | refine q_callE wsTD wsZ (by rfl) ?_ | refine q_callVE wsTD (by rfl) (by rfl) ?_); refine ⟨_, _, _, (by first | assumption | exact k_copyS _ _ _ _ _ (by omega) | exact k_l1In _ _ _), _, by rfl, ?_, ?_⟩)); focus (first | exact trivial | fail | exact rfl | (first | omega | (simp only [List.length_append, List.length_replicate, List.length_cons, List.length_nil, List.length_set, List.length_take, List.length_drop, true_and]; omega)) | exact cvB (fun w => rfl) | ((repeat' (first | exact rfl | exact cV_len _ | exact cV_ln rfl (by omega) | exact Cel.pos | omega | exact trivial | refine And.intro ?_ ?_)); done) | (simp [*]; done) | (simp; omega))) | fail)) | refine r_nt (by rfl) (by rfl) (by first | rfl | assumption | omega | (simp only [*, Bool.not_false, Bool.not_true]; first | done | fail) | (simp [*]; first | done | fail)) (by rfl) ?_ | refine r_nf (by rfl) (by rfl) (by first | rfl | assumption | omega | (simp only [*, Bool.not_false, Bool.not_true]; first | done | fail) | (simp [*]; first | done | fail)) (by rfl) ?_ | refine r_gu (by rfl) (by rfl) (by rfl) ?_ | refine r_nil ?_)); exact hh.out)) : G := h ⟨k⟩
/-- A bench in a variable: its gates in the copy's row. -/
abbrev bC (n : Int) (l : List Gt) (f w a : Int) : List AC := [.v (.int .i64 n), .sl 256 0 l.length, .v (.int .i64 f), .v (.int .i64 w), .v (.int .i64 a)]
abbrev bT (n : Int) (l : List Gt) (f w a : Int) (ok : Bool) : AV := .tup [.agg [.v (.int .i64 n), .sl 0 0 l.length, .v (.int .i64 f), .v (.int .i64 w), .v (.int .i64 a)], .one (.v (.bool ok))]
theorem k_bdo0 (n : Int) (l : List Gt) (f w a : Int) (d : Dd) (hl : l.length ≤ 1000) (hr : -9223372036854775808 ≤ n ∧ n ≤ 9223372036854775807) (h : bok n l f w a = false) : Kon Try.prog 28 [bG n l f w a, dV d] [] (.tup [.agg [.v (.int .i64 0), .v (.slice none 0 0), .v (.int .i64 0), .v (.int .i64 0), .v (.int .i64 0)], .one (.v (.bool false))]) [] [] := by
  have hB := k_bvS n l f w a (by omega) hr
  rw [h] at hB
  (refine kon_mk T0ok (fn := Try.f28) (c := Try.f28.body.get rfl) Try.func28 rfl (by rfl) (by rfl) (by rfl) ?_; intro hfit hfe)
  (repeat (first | refine gq_KED ?_ | (refine ga_KED ?_; intro _q ⟨_he, _hq⟩)))
  ((try refine aw_ret ?_); refine ret_auto2 (by rfl) (by rfl) (by rfl) (by repeat (first | exact trivial | refine ⟨by first | rfl | omega, ?_⟩)) ?_ (by repeat (first | exact trivial | refine ⟨by rfl, by rfl, ?_⟩)) (by repeat (first | exact trivial | refine ⟨by rfl, by rfl, ?_⟩)); try rfl)
theorem k_bdoN (n : Int) (l : List Gt) (f w a : Int) (d : Dd) (hl : l.length ≤ 1000) (hr : -9223372036854775808 ≤ n ∧ n ≤ 9223372036854775807) (h : bok n l f w a = true) (hN : Kon Try.prog 74 [dV d] [] (vB false) [] []) : Kon Try.prog 28 [bG n l f w a, dV d] [] (bT n l f w a false) [gRow l] [] := by
  have hB := k_bvS n l f w a (by omega) hr
  rw [h] at hB
  (refine kon_mk T0ok (fn := Try.f28) (c := Try.f28.body.get rfl) Try.func28 rfl (by rfl) (by rfl) (by rfl) ?_; intro hfit hfe)
  (repeat (first | refine gq_KED ?_ | (refine ga_KED ?_; intro _q ⟨_he, _hq⟩)))
  ((try refine aw_ret ?_); refine ret_auto2 (by rfl) (by rfl) (by rfl) (by repeat (first | exact trivial | refine ⟨by first | rfl | omega, ?_⟩)) ?_ (by repeat (first | exact trivial | refine ⟨by rfl, by rfl, ?_⟩)) (by repeat (first | exact trivial | refine ⟨by rfl, by rfl, ?_⟩)); try rfl)
/-- The word behind i more gates. -/
def fw (l : List Gt) (A i : Nat) (w : Int) : Int := cr ((l.drop A).take i) w
theorem fw_succ {l : List Gt} {A i : Nat} (w : Int) (h : A + i < l.length) : fw l A (i + 1) w = gr (l.getD (A + i) Cel.no) (fw l A i w) := by
  unfold fw
  have h2 : i < (l.drop A).length := by rw [List.length_drop]; omega
  have e : (l.drop A)[i] = l.getD (A + i) Cel.no := by rw [List.getElem_drop, List.getD_eq_getElem?_getD, List.getElem?_eq_getElem h]; rfl
  rw [List.take_succ_eq_append_getElem h2, cr_append, e]; rfl
theorem fw_wv {n : Int} {l : List Gt} {A i : Nat} {w : Int} (hn : 1 ≤ n ∧ n ≤ 8) (ha : l.all (gok n) = true) (hw : 0 ≤ w ∧ w < 2 ^ n.toNat) : wvB n (fw l A i w) = true := by
  have : ((l.drop A).take i).all (gok n) = true := by
    rw [List.all_eq_true] at ha ⊢
    exact fun g hg => ha g (List.mem_of_mem_drop (List.mem_of_mem_take hg))
  have h2 := cr_lt this hw
  unfold wvB btw fw
  rw [decide_eq_true hn.1, decide_eq_true hn.2, decide_eq_true h2.1, decide_eq_true (by omega)]; rfl
set_option maxHeartbeats 2000000 in
theorem k_bdoF (n : Int) (l : List Gt) (f w : Int) (A m : Nat) (p : Gt) (hl : l.length ≤ 1000) (h : bok n l f w A = true) (hN : Kon Try.prog 74 [dV ⟨0, m, p⟩] [] (vB true) [] []) (hm : 1 ≤ m ∧ m + A ≤ l.length) : Kon Try.prog 28 [bG n l f w A, dV ⟨0, m, p⟩] [] (bT n l f (fw l A m w) ((A + m : Nat) : Int) true) [gRow l] [] := by
  have hB := k_bvS n l f w A (by omega) (by have := (cokB_t (bok_t h).1).1; omega)
  rw [h] at hB
  obtain ⟨hc, hf, _, hwe⟩ := bok_t h
  obtain ⟨hn, hl24, ha⟩ := cokB_t hc
  have hfv := wvB_t hf
  have hat : (l.take A).all (gok n) = true := all_take ha A
  have hwb : 0 ≤ w ∧ w < 2 ^ n.toNat := by rw [hwe]; exact cr_lt hat ⟨hfv.2.1, hfv.2.2.1⟩
  have hbt : btw (m : Int) 1 ((l.length : Int) - A) = true := by
    unfold btw; rw [decide_eq_true (by omega), decide_eq_true (by omega)]; rfl
  have hL := k_l1In (m : Int) 1 ((l.length : Int) - A)
  rw [hbt] at hL
  (refine kon_mk T0ok (fn := Try.f28) (c := Try.f28.body.get rfl) Try.func28 rfl (by rfl) (by rfl) (by rfl) ?_; intro hfit hfe)
  (repeat (first | refine gq_KED ?_ | (refine ga_KED ?_; intro _q ⟨_he, _hq⟩)))
  (refine aw_rd [2, 3, 4, 6] [32, 48, 64, 256] (fun i : Nat => [(7, vI i)]) (fun i => [(96, (0, .box (bC n l f (fw l A i w) ((A + i : Nat) : Int))))]) (fun i => i ≤ m) (fun i => m - i) 0 (by rfl) (by rfl) ?_ (by rfl) (by repeat (first | exact trivial | refine ⟨by rfl, ?_⟩ | refine ⟨vI_of (by rfl) (by omega), ?_⟩)) (by repeat (first | exact trivial | refine ⟨by rfl, ?_⟩ | refine ⟨vI_of (by rfl) (by omega), ?_⟩)) ?_)
  · exact Nat.zero_le _
  rintro i hi
  rcases Nat.lt_or_ge i m with h5 | h5
  · have hd : decide ((i : Int) < (m : Int)) = true := decide_eq_true (by omega)
    have hg : gok n (l.getD (A + i) Cel.no) = true := all_at ha (by omega)
    have hR := k_grS1 n (l.getD (A + i) Cel.no) (fw l A i w) hg (fw_wv hn ha hwb)
    rw [← fw_succ w (by omega)] at hR
    replace hR : Kon Try.prog 75 [vI n, gV (l.getD ((A + i : Nat) : Int).toNat Cel.no), vI (fw l A i w)] [] (vI (fw l A (i + 1) w)) [] [] := hR
    generalize fw l A i w = x at *
    (repeat (first | refine gq_KED ?_ | (refine ga_KED ?_; intro _q ⟨_he, _hq⟩)))
    (refine aw_draw2 mixed T0ok cfU_ok [(96, [1004, 1005, 1008, 1009, 1011, 12])] (by rfl) (by kernel_rfl) ?_)
    (repeat (first | refine gq_KED ?_ | (refine ga_KED ?_; intro _q ⟨_he, _hq⟩)))
    exact ⟨i + 1, h5, ⟨by rfl, (by repeat (first | exact trivial | refine ⟨by rfl, ?_⟩ | refine ⟨vI_of (by rfl) (by omega), ?_⟩)), (by repeat (first | exact trivial | refine ⟨by rfl, ?_⟩ | refine ⟨vI_of (by rfl) (by omega), ?_⟩))⟩, (by first | omega | (dsimp only; omega))⟩
  · obtain rfl : i = m := by omega
    have hd : decide ((i : Int) < (i : Int)) = false := decide_eq_false (by omega)
    generalize fw l A i w = x at *
    (repeat (first | refine gq_KED ?_ | (refine ga_KED ?_; intro _q ⟨_he, _hq⟩)))
    ((try refine aw_ret ?_); refine ret_auto2 (by rfl) (by rfl) (by rfl) (by repeat (first | exact trivial | refine ⟨by first | rfl | omega, ?_⟩)) ?_ (by repeat (first | exact trivial | refine ⟨by rfl, by rfl, ?_⟩)) (by repeat (first | exact trivial | refine ⟨by rfl, by rfl, ?_⟩)); try rfl)
/-- The word i gates back. -/
def bw (l : List Gt) (A i : Nat) (w : Int) : Int := cr ((l.take A).reverse.take i) w
theorem bw_succ {l : List Gt} {A i : Nat} (w : Int) (hA : A ≤ l.length) (h : i < A) : bw l A (i + 1) w = gr (l.getD (A - (i + 1)) Cel.no) (bw l A i w) := by
  unfold bw
  have h2 : i < (l.take A).reverse.length := by rw [List.length_reverse, List.length_take]; omega
  have h3 : A - (i + 1) < l.length := by omega
  have e : (l.take A).reverse[i] = l.getD (A - (i + 1)) Cel.no := by
    rw [List.getElem_reverse, List.getElem_take, List.getD_eq_getElem?_getD, List.getElem?_eq_getElem h3]
    simp only [List.length_take, Nat.min_eq_left hA, Option.getD_some]
    congr 1
    omega
  rw [List.take_succ_eq_append_getElem h2, cr_append, e]; rfl
theorem bw_wv {n : Int} {l : List Gt} {A i : Nat} {w : Int} (hn : 1 ≤ n ∧ n ≤ 8) (ha : l.all (gok n) = true) (hw : 0 ≤ w ∧ w < 2 ^ n.toNat) : wvB n (bw l A i w) = true := by
  have : ((l.take A).reverse.take i).all (gok n) = true := by
    rw [List.all_eq_true] at ha ⊢
    exact fun g hg => ha g (List.mem_of_mem_take (List.mem_reverse.1 (List.mem_of_mem_take hg)))
  have h2 := cr_lt this hw
  unfold wvB btw bw
  rw [decide_eq_true hn.1, decide_eq_true hn.2, decide_eq_true h2.1, decide_eq_true (by omega)]; rfl
set_option maxHeartbeats 2000000 in
theorem k_bdoB (n : Int) (l : List Gt) (f w : Int) (A m : Nat) (p : Gt) (hl : l.length ≤ 1000) (h : bok n l f w A = true) (hN : Kon Try.prog 74 [dV ⟨1, m, p⟩] [] (vB true) [] []) (hm : 1 ≤ m ∧ m ≤ A) : Kon Try.prog 28 [bG n l f w A, dV ⟨1, m, p⟩] [] (bT n l f (bw l A m w) ((A : Int) - (m : Int)) true) [gRow l] [] := by
  have hB := k_bvS n l f w A (by omega) (by have := (cokB_t (bok_t h).1).1; omega)
  rw [h] at hB
  obtain ⟨hc, hf, hAl, hwe⟩ := bok_t h
  obtain ⟨hn, hl24, ha⟩ := cokB_t hc
  have hfv := wvB_t hf
  have hat : (l.take A).all (gok n) = true := all_take ha A
  have hwb : 0 ≤ w ∧ w < 2 ^ n.toNat := by rw [hwe]; exact cr_lt hat ⟨hfv.2.1, hfv.2.2.1⟩
  have hbt : btw (m : Int) 1 (A : Int) = true := by
    unfold btw; rw [decide_eq_true (by omega), decide_eq_true (by omega)]; rfl
  have hL := k_l1In (m : Int) 1 (A : Int)
  rw [hbt] at hL
  (refine kon_mk T0ok (fn := Try.f28) (c := Try.f28.body.get rfl) Try.func28 rfl (by rfl) (by rfl) (by rfl) ?_; intro hfit hfe)
  (repeat (first | refine gq_KED ?_ | (refine ga_KED ?_; intro _q ⟨_he, _hq⟩)))
  (refine aw_rd [2, 3, 4, 6] [32, 48, 64, 256] (fun i : Nat => [(8, vI i)]) (fun i => [(96, (0, .box (bC n l f (bw l A i w) ((A : Int) - (i : Int)))))]) (fun i => i ≤ m) (fun i => m - i) 0 (by rfl) (by rfl) ?_ (by rfl) (by repeat (first | exact trivial | refine ⟨by rfl, ?_⟩ | refine ⟨vI_of (by rfl) (by omega), ?_⟩)) (by repeat (first | exact trivial | refine ⟨by rfl, ?_⟩ | refine ⟨vI_of (by rfl) (by omega), ?_⟩)) ?_)
  · exact Nat.zero_le _
  rintro i hi
  rcases Nat.lt_or_ge i m with h5 | h5
  · have hd : decide ((i : Int) < (m : Int)) = true := decide_eq_true (by omega)
    have hg : gok n (l.getD (A - (i + 1)) Cel.no) = true := all_at ha (by omega)
    have hR := k_grS1 n (l.getD (A - (i + 1)) Cel.no) (bw l A i w) hg (bw_wv hn ha hwb)
    rw [← bw_succ w (by omega) (by omega)] at hR
    have ei : ((A : Int) - (i : Int) - 1).toNat = A - (i + 1) := by omega
    rw [← ei] at hR
    clear ei
    generalize bw l A i w = x at *
    (repeat (first | refine gq_KED ?_ | (refine ga_KED ?_; intro _q ⟨_he, _hq⟩)))
    (refine aw_draw2 mixed T0ok cfU_ok [(96, [1004, 1005, 1008, 1009, 1011, 12])] (by rfl) (by kernel_rfl) ?_)
    (repeat (first | refine gq_KED ?_ | (refine ga_KED ?_; intro _q ⟨_he, _hq⟩)))
    rw [show (A : Int) - (i : Int) - 1 = (A : Int) - ((i + 1 : Nat) : Int) from by omega]
    exact ⟨i + 1, h5, ⟨by rfl, (by repeat (first | exact trivial | refine ⟨by rfl, ?_⟩ | refine ⟨vI_of (by rfl) (by omega), ?_⟩)), (by repeat (first | exact trivial | refine ⟨by rfl, ?_⟩ | refine ⟨vI_of (by rfl) (by omega), ?_⟩))⟩, (by first | omega | (dsimp only; omega))⟩
  · obtain rfl : i = m := by omega
    have hd : decide ((i : Int) < (i : Int)) = false := decide_eq_false (by omega)
    generalize bw l A i w = x at *
    (repeat (first | refine gq_KED ?_ | (refine ga_KED ?_; intro _q ⟨_he, _hq⟩)))
    ((try refine aw_ret ?_); refine ret_auto2 (by rfl) (by rfl) (by rfl) (by repeat (first | exact trivial | refine ⟨by first | rfl | omega, ?_⟩)) ?_ (by repeat (first | exact trivial | refine ⟨by rfl, by rfl, ?_⟩)) (by repeat (first | exact trivial | refine ⟨by rfl, by rfl, ?_⟩)); try rfl)
set_option maxHeartbeats 2000000 in
theorem k_bdoP (n : Int) (l : List Gt) (f w : Int) (A : Nat) (p : Gt) (hl : l.length < 24) (h : bok n l f w A = true) (hN : Kon Try.prog 74 [dV ⟨2, 0, p⟩] [] (vB true) [] []) (hp : gok n p = true) : Kon Try.prog 28 [bG n l f w A, dV ⟨2, 0, p⟩] [] (bT n (l.take A ++ [p] ++ l.drop A) f w A true) [gRow (l.take A ++ [p] ++ l.drop A)] [] := by
  have hB := k_bvS n l f w A (by omega) (by have := (cokB_t (bok_t h).1).1; omega)
  rw [h] at hB
  obtain ⟨hc, hf, hAl, hwe⟩ := bok_t h
  obtain ⟨hn, hl24, ha⟩ := cokB_t hc
  have hG := k_gvS n p (by omega)
  rw [hp] at hG
  have hd : decide ((l.length : Int) < 24) = true := decide_eq_true (by omega)
  have e : ([] : List Gt) ++ l.take (A : Int).toNat ++ [p] ++ l.drop (A : Int).toNat = l.take A ++ [p] ++ l.drop A := rfl
  (refine kon_mk T0ok (fn := Try.f28) (c := Try.f28.body.get rfl) Try.func28 rfl (by rfl) (by rfl) (by rfl) ?_; intro hfit hfe)
  (repeat (first | refine gq_KED ?_ | (refine ga_KED ?_; intro _q ⟨_he, _hq⟩)))
  (refine aw_draw mixed T0ok cfU_ok [(1760, [0, 6, 10, 16]), (1904, [9, 10]), (96, [17, 18])] (by rfl) (by kernel_rfl) ?_)
  (repeat (first | refine gs_KED ?_ | (refine ga_KED ?_; intro _q ⟨_he, _hq⟩)))
  (repeat (first | refine gq_KED ?_ | (refine ga_KED ?_; intro _q ⟨_he, _hq⟩)))
  ((try refine aw_ret ?_); refine ret_auto2 (by rfl) (by rfl) (by rfl) (by repeat (first | exact trivial | refine ⟨by first | rfl | omega, ?_⟩)) ?_ (by repeat (first | exact trivial | refine ⟨by rfl, by rfl, ?_⟩)) (by repeat (first | exact trivial | refine ⟨by rfl, by rfl, ?_⟩)); try rfl)
set_option maxHeartbeats 2000000 in
theorem k_bdoT (n : Int) (l : List Gt) (f w m : Int) (A : Nat) (p : Gt) (hA : A < l.length) (h : bok n l f w A = true) (hN : Kon Try.prog 74 [dV ⟨3, m, p⟩] [] (vB true) [] []) : Kon Try.prog 28 [bG n l f w A, dV ⟨3, m, p⟩] [] (bT n (l.take A ++ l.drop (A + 1)) f w A true) [gRow (l.take A ++ l.drop (A + 1))] [] := by
  obtain ⟨hc, hf, hAl, hwe⟩ := bok_t h
  obtain ⟨hn, hl24, ha⟩ := cokB_t hc
  have hB := k_bvS n l f w A (by omega) (by omega)
  rw [h] at hB
  have hd : decide ((A : Int) < (l.length : Int)) = true := decide_eq_true (by omega)
  have e1 : ((A : Int) + 1).toNat = A + 1 := by omega
  rw [← e1]
  clear e1
  (refine kon_mk T0ok (fn := Try.f28) (c := Try.f28.body.get rfl) Try.func28 rfl (by rfl) (by rfl) (by rfl) ?_; intro hfit hfe)
  (repeat (first | refine gq_KED ?_ | (refine ga_KED ?_; intro _q ⟨_he, _hq⟩)))
  (refine aw_draw mixed T0ok cfU_ok [(2240, [0, 6, 13]), (96, [14, 15])] (by rfl) (by kernel_rfl) ?_)
  (repeat (first | refine gs_KED ?_ | (refine ga_KED ?_; intro _q ⟨_he, _hq⟩)))
  (repeat (first | refine gq_KED ?_ | (refine ga_KED ?_; intro _q ⟨_he, _hq⟩)))
  ((try refine aw_ret ?_); refine ret_auto2 (by rfl) (by rfl) (by rfl) (by repeat (first | exact trivial | refine ⟨by first | rfl | omega, ?_⟩)) ?_ (by repeat (first | exact trivial | refine ⟨by rfl, by rfl, ?_⟩)) (by repeat (first | exact trivial | refine ⟨by rfl, by rfl, ?_⟩)); try rfl)
/-- No deed of the kinds that are done. -/
theorem k_bdo0f (n : Int) (l : List Gt) (f w a m : Int) (p : Gt) (h : bok n l f w a = true) (hN : Kon Try.prog 74 [dV ⟨0, m, p⟩] [] (vB true) [] []) (hb : btw m 1 ((l.length : Int) - a) = false) : Kon Try.prog 28 [bG n l f w a, dV ⟨0, m, p⟩] [] (bT n l f w a false) [gRow l] [] := by
  obtain ⟨hc, hf, hAl, hwe⟩ := bok_t h
  obtain ⟨hn, hl24, ha⟩ := cokB_t hc
  have hB := k_bvS n l f w a (by omega) (by omega)
  rw [h] at hB
  have hL := k_l1In m 1 ((l.length : Int) - a)
  rw [hb] at hL
  (refine kon_mk T0ok (fn := Try.f28) (c := Try.f28.body.get rfl) Try.func28 rfl (by rfl) (by rfl) (by rfl) ?_; intro hfit hfe)
  (repeat (first | refine gq_KED ?_ | (refine ga_KED ?_; intro _q ⟨_he, _hq⟩)))
  ((try refine aw_ret ?_); refine ret_auto2 (by rfl) (by rfl) (by rfl) (by repeat (first | exact trivial | refine ⟨by first | rfl | omega, ?_⟩)) ?_ (by repeat (first | exact trivial | refine ⟨by rfl, by rfl, ?_⟩)) (by repeat (first | exact trivial | refine ⟨by rfl, by rfl, ?_⟩)); try rfl)
theorem k_bdo1f (n : Int) (l : List Gt) (f w a m : Int) (p : Gt) (h : bok n l f w a = true) (hN : Kon Try.prog 74 [dV ⟨1, m, p⟩] [] (vB true) [] []) (hb : btw m 1 a = false) : Kon Try.prog 28 [bG n l f w a, dV ⟨1, m, p⟩] [] (bT n l f w a false) [gRow l] [] := by
  obtain ⟨hc, hf, hAl, hwe⟩ := bok_t h
  obtain ⟨hn, hl24, ha⟩ := cokB_t hc
  have hB := k_bvS n l f w a (by omega) (by omega)
  rw [h] at hB
  have hL := k_l1In m 1 a
  rw [hb] at hL
  (refine kon_mk T0ok (fn := Try.f28) (c := Try.f28.body.get rfl) Try.func28 rfl (by rfl) (by rfl) (by rfl) ?_; intro hfit hfe)
  (repeat (first | refine gq_KED ?_ | (refine ga_KED ?_; intro _q ⟨_he, _hq⟩)))
  ((try refine aw_ret ?_); refine ret_auto2 (by rfl) (by rfl) (by rfl) (by repeat (first | exact trivial | refine ⟨by first | rfl | omega, ?_⟩)) ?_ (by repeat (first | exact trivial | refine ⟨by rfl, by rfl, ?_⟩)) (by repeat (first | exact trivial | refine ⟨by rfl, by rfl, ?_⟩)); try rfl)
theorem k_bdo2f (n : Int) (l : List Gt) (f w a m : Int) (p : Gt) (h : bok n l f w a = true) (hN : Kon Try.prog 74 [dV ⟨2, m, p⟩] [] (vB true) [] []) (hb : gok n p = false ∨ 24 ≤ l.length) : Kon Try.prog 28 [bG n l f w a, dV ⟨2, m, p⟩] [] (bT n l f w a false) [gRow l] [] := by
  obtain ⟨hc, hf, hAl, hwe⟩ := bok_t h
  obtain ⟨hn, hl24, ha⟩ := cokB_t hc
  have hB := k_bvS n l f w a (by omega) (by omega)
  rw [h] at hB
  have hG := k_gvS n p (by omega)
  cases hg : gok n p with
  | false =>
    rw [hg] at hG
    (refine kon_mk T0ok (fn := Try.f28) (c := Try.f28.body.get rfl) Try.func28 rfl (by rfl) (by rfl) (by rfl) ?_; intro hfit hfe)
    (repeat (first | refine gq_KED ?_ | (refine ga_KED ?_; intro _q ⟨_he, _hq⟩)))
    ((try refine aw_ret ?_); refine ret_auto2 (by rfl) (by rfl) (by rfl) (by repeat (first | exact trivial | refine ⟨by first | rfl | omega, ?_⟩)) ?_ (by repeat (first | exact trivial | refine ⟨by rfl, by rfl, ?_⟩)) (by repeat (first | exact trivial | refine ⟨by rfl, by rfl, ?_⟩)); try rfl)
  | true =>
    rw [hg] at hG
    have hd : decide ((l.length : Int) < 24) = false := decide_eq_false (by
      rcases hb with hb | hb
      · rw [hg] at hb; cases hb
      · omega)
    (refine kon_mk T0ok (fn := Try.f28) (c := Try.f28.body.get rfl) Try.func28 rfl (by rfl) (by rfl) (by rfl) ?_; intro hfit hfe)
    (repeat (first | refine gq_KED ?_ | (refine ga_KED ?_; intro _q ⟨_he, _hq⟩)))
    ((try refine aw_ret ?_); refine ret_auto2 (by rfl) (by rfl) (by rfl) (by repeat (first | exact trivial | refine ⟨by first | rfl | omega, ?_⟩)) ?_ (by repeat (first | exact trivial | refine ⟨by rfl, by rfl, ?_⟩)) (by repeat (first | exact trivial | refine ⟨by rfl, by rfl, ?_⟩)); try rfl)
theorem k_bdo3f (n : Int) (l : List Gt) (f w a m : Int) (p : Gt) (h : bok n l f w a = true) (hN : Kon Try.prog 74 [dV ⟨3, m, p⟩] [] (vB true) [] []) (hb : (l.length : Int) ≤ a) : Kon Try.prog 28 [bG n l f w a, dV ⟨3, m, p⟩] [] (bT n l f w a false) [gRow l] [] := by
  obtain ⟨hc, hf, hAl, hwe⟩ := bok_t h
  obtain ⟨hn, hl24, ha⟩ := cokB_t hc
  have hB := k_bvS n l f w a (by omega) (by omega)
  rw [h] at hB
  have hd : decide (a < (l.length : Int)) = false := decide_eq_false (by omega)
  (refine kon_mk T0ok (fn := Try.f28) (c := Try.f28.body.get rfl) Try.func28 rfl (by rfl) (by rfl) (by rfl) ?_; intro hfit hfe)
  (repeat (first | refine gq_KED ?_ | (refine ga_KED ?_; intro _q ⟨_he, _hq⟩)))
  ((try refine aw_ret ?_); refine ret_auto2 (by rfl) (by rfl) (by rfl) (by repeat (first | exact trivial | refine ⟨by first | rfl | omega, ?_⟩)) ?_ (by repeat (first | exact trivial | refine ⟨by rfl, by rfl, ?_⟩)) (by repeat (first | exact trivial | refine ⟨by rfl, by rfl, ?_⟩)); try rfl)
end Go.Proofs.Yteagoafamjbpbaa

/- spec.CircuitShort whose result is a row of its own. -/
namespace Go.Proofs.Yteagoafamjbpbaa
set_option linter.unusedVariables false
set_option linter.unusedSimpArgs false
set_option maxRecDepth 20000
open Go.RowKit
attribute [local irreducible] runA runX AW
theorem gq_KEF {H G : Prop} (k : H) (h : Hid H → G := by (intro hh; (first | (first | ((first | refine r_none ?_ | refine r_gt (by rfl) (by rfl) (by first | rfl | assumption | omega | (simp only [*, Bool.not_false, Bool.not_true]; first | done | fail) | (simp [*]; first | done | fail)) (by rfl) ?_ | refine r_gf (by rfl) (by rfl) (by first | rfl | assumption | omega | (simp only [*, Bool.not_false, Bool.not_true]; first | done | fail) | (simp [*]; first | done | fail)) (by rfl) ?_); (first | fail | ((first | (refine z_op (by rfl) ?_; first | refine z_ok ?_ ?_ | refine z_ex ?_ (by first | exact ft_raw rfl rfl | ((first | refine ft_rp rfl rfl rfl ?_ | refine ft_row rfl rfl rfl ?_ | refine ft_rpF rfl rfl rfl ?_ | refine ft_rowF rfl rfl rfl ?_ | refine up_row rfl rfl ?_ | refine up_rowF rfl rfl rfl ?_ | refine ct_0 rfl ?_ | refine ct_r rfl rfl ?_ | refine ct_c rfl rfl rfl ?_ | refine cu_all rfl ?_ | refine cu_to rfl ?_ | refine cu_from rfl ?_ | refine cu_p rfl ?_ | (first | refine mk_0 Int rfl rfl ?_ | refine mk_0 Gt rfl rfl ?_)); (first | omega | (simp only [List.length_append, List.length_replicate, List.length_cons, List.length_nil, List.length_set, List.length_take, List.length_drop, true_and]; omega))) | exact up_raw rfl | exact pk_t (by first | rfl | assumption | omega | (simp only [*, Bool.not_false, Bool.not_true]; first | done | fail) | (simp [*]; first | done | fail)) rfl | exact pk_f (by first | rfl | assumption | omega | (simp only [*, Bool.not_false, Bool.not_true]; first | done | fail) | (simp [*]; first | done | fail)) rfl | exact rw_c Gt rfl | exact rw_raw | exact pu_cv (fun w => rfl) (by omega) | exact pu_of (fun w => rfl) rfl | exact be_of (fun w => rfl) | exact nc_of (fun _ _ _ _ => rfl) rfl | exact bu_of (fun w => rfl) rfl | fail) ?_) | ((first | refine q_callE wsT wsZ (by rfl) ?_ | refine q_callVE wsT (by rfl) (by rfl) ?_); refine ⟨_, _, _, (by first | assumption), _, by rfl, ?_, ?_⟩)); focus (first | exact trivial | fail | exact rfl | (first | omega | (simp only [List.length_append, List.length_replicate, List.length_cons, List.length_nil, List.length_set, List.length_take, List.length_drop, true_and]; omega)) | exact cvB (fun w => rfl) | ((repeat' (first | exact rfl | exact cV_len _ | exact cV_ln rfl (by omega) | exact Cel.pos | omega | exact trivial | refine And.intro ?_ ?_)); done) | (simp [*]; done) | (simp; omega))) | fail)) | refine r_nt (by rfl) (by rfl) (by first | rfl | assumption | omega | (simp only [*, Bool.not_false, Bool.not_true]; first | done | fail) | (simp [*]; first | done | fail)) (by rfl) ?_ | refine r_nf (by rfl) (by rfl) (by first | rfl | assumption | omega | (simp only [*, Bool.not_false, Bool.not_true]; first | done | fail) | (simp [*]; first | done | fail)) (by rfl) ?_ | refine r_gu (by rfl) (by rfl) (by rfl) ?_ | refine r_nil ?_) | (first | refine aw_seq ?_ | refine aw_ct (by rfl) (by first | rfl | assumption | omega | (simp only [*, Bool.not_false, Bool.not_true]; first | done | fail) | (simp [*]; first | done | fail)) ?_ | refine aw_cf (by rfl) (by first | rfl | assumption | omega | (simp only [*, Bool.not_false, Bool.not_true]; first | done | fail) | (simp [*]; first | done | fail)) ?_ | refine aw_block ?_ | refine aw_region T0ok cfU_ok (by rfl) ?_ | refine aw_skip ?_ | refine aw_exit ?_ | refine ra_step ?_)); (repeat (first | (first | ((first | refine r_none ?_ | refine r_gt (by rfl) (by rfl) (by first | rfl | assumption | omega | (simp only [*, Bool.not_false, Bool.not_true]; first | done | fail) | (simp [*]; first | done | fail)) (by rfl) ?_ | refine r_gf (by rfl) (by rfl) (by first | rfl | assumption | omega | (simp only [*, Bool.not_false, Bool.not_true]; first | done | fail) | (simp [*]; first | done | fail)) (by rfl) ?_); (first | fail | ((first | (refine z_op (by rfl) ?_; first | refine z_ok ?_ ?_ | refine z_ex ?_ (by first | exact ft_raw rfl rfl | ((first | refine ft_rp rfl rfl rfl ?_ | refine ft_row rfl rfl rfl ?_ | refine ft_rpF rfl rfl rfl ?_ | refine ft_rowF rfl rfl rfl ?_ | refine up_row rfl rfl ?_ | refine up_rowF rfl rfl rfl ?_ | refine ct_0 rfl ?_ | refine ct_r rfl rfl ?_ | refine ct_c rfl rfl rfl ?_ | refine cu_all rfl ?_ | refine cu_to rfl ?_ | refine cu_from rfl ?_ | refine cu_p rfl ?_ | (first | refine mk_0 Int rfl rfl ?_ | refine mk_0 Gt rfl rfl ?_)); (first | omega | (simp only [List.length_append, List.length_replicate, List.length_cons, List.length_nil, List.length_set, List.length_take, List.length_drop, true_and]; omega))) | exact up_raw rfl | exact pk_t (by first | rfl | assumption | omega | (simp only [*, Bool.not_false, Bool.not_true]; first | done | fail) | (simp [*]; first | done | fail)) rfl | exact pk_f (by first | rfl | assumption | omega | (simp only [*, Bool.not_false, Bool.not_true]; first | done | fail) | (simp [*]; first | done | fail)) rfl | exact rw_c Gt rfl | exact rw_raw | exact pu_cv (fun w => rfl) (by omega) | exact pu_of (fun w => rfl) rfl | exact be_of (fun w => rfl) | exact nc_of (fun _ _ _ _ => rfl) rfl | exact bu_of (fun w => rfl) rfl | fail) ?_) | ((first | refine q_callE wsT wsZ (by rfl) ?_ | refine q_callVE wsT (by rfl) (by rfl) ?_); refine ⟨_, _, _, (by first | assumption), _, by rfl, ?_, ?_⟩)); focus (first | exact trivial | fail | exact rfl | (first | omega | (simp only [List.length_append, List.length_replicate, List.length_cons, List.length_nil, List.length_set, List.length_take, List.length_drop, true_and]; omega)) | exact cvB (fun w => rfl) | ((repeat' (first | exact rfl | exact cV_len _ | exact cV_ln rfl (by omega) | exact Cel.pos | omega | exact trivial | refine And.intro ?_ ?_)); done) | (simp [*]; done) | (simp; omega))) | fail)) | refine r_nt (by rfl) (by rfl) (by first | rfl | assumption | omega | (simp only [*, Bool.not_false, Bool.not_true]; first | done | fail) | (simp [*]; first | done | fail)) (by rfl) ?_ | refine r_nf (by rfl) (by rfl) (by first | rfl | assumption | omega | (simp only [*, Bool.not_false, Bool.not_true]; first | done | fail) | (simp [*]; first | done | fail)) (by rfl) ?_ | refine r_gu (by rfl) (by rfl) (by rfl) ?_ | refine r_nil ?_) | (first | refine aw_seq ?_ | refine aw_ct (by rfl) (by first | rfl | assumption | omega | (simp only [*, Bool.not_false, Bool.not_true]; first | done | fail) | (simp [*]; first | done | fail)) ?_ | refine aw_cf (by rfl) (by first | rfl | assumption | omega | (simp only [*, Bool.not_false, Bool.not_true]; first | done | fail) | (simp [*]; first | done | fail)) ?_ | refine aw_block ?_ | refine aw_region T0ok cfU_ok (by rfl) ?_ | refine aw_skip ?_ | refine aw_exit ?_ | refine ra_step ?_))); exact hh.out)) : G := h ⟨k⟩
theorem ga_KEF {H G : Prop} (k : H) (h : Hid H → G := by (intro hh; (first | refine r_none ?_ | refine r_gt (by rfl) (by rfl) (by first | rfl | assumption | omega | (simp only [*, Bool.not_false, Bool.not_true]; first | done | fail) | (simp [*]; first | done | fail)) (by rfl) ?_ | refine r_gf (by rfl) (by rfl) (by first | rfl | assumption | omega | (simp only [*, Bool.not_false, Bool.not_true]; first | done | fail) | (simp [*]; first | done | fail)) (by rfl) ?_); refine z_op (by rfl) ?_; refine z_al ?_ hh.out; focus (first | exact trivial | fail | exact rfl | (first | omega | (simp only [List.length_append, List.length_replicate, List.length_cons, List.length_nil, List.length_set, List.length_take, List.length_drop, true_and]; omega)) | exact cvB (fun w => rfl) | ((repeat' (first | exact rfl | exact cV_len _ | exact cV_ln rfl (by omega) | exact Cel.pos | omega | exact trivial | refine And.intro ?_ ?_)); done) | (simp [*]; done) | (simp; omega)))) : G := h ⟨k⟩
theorem k_dropO (l : List Gt) (a b : Int) (h : l.length ≤ 1000) : Kon Try.prog 89 [roA l, vI a, vI b] [] (slA 0 0 (drp l a b l.length)) [gRow (drp l a b l.length)] [] := by
  (refine kon_mk T0ok (fn := Try.f89) (c := Try.f89.body.get rfl) Try.func89 rfl (by rfl) (by rfl) (by rfl) ?_; intro hfit hfe)
  (repeat (first | refine gq_KEF ?_ | (refine ga_KEF ?_; intro _q ⟨_he, _hq⟩)))
  (refine aw_rd [0, 1, 2] [] (fun i : Nat => [(7, .g (.one (.sl 144 (drp l a b i).length (drp l a b i).length))), (8, vI i)]) (fun i => [(144, ((drp l a b i).length, gRow (drp l a b i)))]) (fun i => i ≤ l.length) (fun i => l.length - i) 0 (by rfl) (by rfl) ?_ (by rfl) (by repeat (first | exact trivial | refine ⟨by rfl, ?_⟩ | refine ⟨vI_of (by rfl) (by omega), ?_⟩)) (by repeat (first | exact trivial | refine ⟨by rfl, ?_⟩ | refine ⟨vI_of (by rfl) (by omega), ?_⟩)) ?_)
  · exact Nat.zero_le _
  rintro i hi
  have hil := drp_len l a b i
  rcases Nat.lt_or_ge i l.length with h5 | h5
  · have hd : decide ((i : Int) < (l.length : Int)) = true := decide_eq_true (by omega)
    cases hk : ((i : Int) != a && (i : Int) != b) with
    | true =>
      have e : drp l a b (i + 1) = drp l a b i ++ [l.getD i Cel.no] := by rw [drp, if_pos hk]
      have hk' := hk
      rw [Bool.and_eq_true] at hk'
      obtain ⟨hk1, hk2⟩ := hk'
      have e2 : (drp l a b (i + 1)).length = (drp l a b i).length + 1 := by rw [e, List.length_append]; rfl
      (repeat (first | refine gq_KEF ?_ | (refine ga_KEF ?_; intro _q ⟨_he, _hq⟩)))
      refine ⟨i + 1, h5, ?_, (by first | omega | (dsimp only; omega))⟩
      dsimp only
      rw [e2, e]
      refine ⟨by rfl, ⟨?_, (by repeat (first | exact trivial | refine ⟨by rfl, ?_⟩ | refine ⟨vI_of (by rfl) (by omega), ?_⟩))⟩, (by repeat (first | exact trivial | refine ⟨by rfl, ?_⟩ | refine ⟨vI_of (by rfl) (by omega), ?_⟩))⟩
      simp [St.put, St.lay, upd]
      rfl
    | false =>
      have e : drp l a b (i + 1) = drp l a b i := by rw [drp, if_neg (by rw [hk]; decide)]
      cases hk1 : ((i : Int) != a) with
      | false =>
        (repeat (first | refine gq_KEF ?_ | (refine ga_KEF ?_; intro _q ⟨_he, _hq⟩)))
        refine ⟨i + 1, h5, ?_, (by first | omega | (dsimp only; omega))⟩
        dsimp only
        rw [e]
        exact ⟨by rfl, ⟨by rfl, (by repeat (first | exact trivial | refine ⟨by rfl, ?_⟩ | refine ⟨vI_of (by rfl) (by omega), ?_⟩))⟩, (by repeat (first | exact trivial | refine ⟨by rfl, ?_⟩ | refine ⟨vI_of (by rfl) (by omega), ?_⟩))⟩
      | true =>
        have hk2 : ((i : Int) != b) = false := by rw [hk1, Bool.true_and] at hk; exact hk
        (repeat (first | refine gq_KEF ?_ | (refine ga_KEF ?_; intro _q ⟨_he, _hq⟩)))
        refine ⟨i + 1, h5, ?_, (by first | omega | (dsimp only; omega))⟩
        dsimp only
        rw [e]
        exact ⟨by rfl, ⟨by rfl, (by repeat (first | exact trivial | refine ⟨by rfl, ?_⟩ | refine ⟨vI_of (by rfl) (by omega), ?_⟩))⟩, (by repeat (first | exact trivial | refine ⟨by rfl, ?_⟩ | refine ⟨vI_of (by rfl) (by omega), ?_⟩))⟩
  · obtain rfl : i = l.length := by omega
    have hd : decide ((l.length : Int) < (l.length : Int)) = false := decide_eq_false (by omega)
    (repeat (first | refine gq_KEF ?_ | (refine ga_KEF ?_; intro _q ⟨_he, _hq⟩)))
    ((try refine aw_ret ?_); refine ret_auto2 (by rfl) (by rfl) (by rfl) (by repeat (first | exact trivial | refine ⟨by first | rfl | omega, ?_⟩)) ?_ (by repeat (first | exact trivial | refine ⟨by rfl, by rfl, ?_⟩)) (by repeat (first | exact trivial | refine ⟨by rfl, by rfl, ?_⟩)); try rfl)
set_option maxHeartbeats 1000000 in
theorem k_shortO (n : Int) (l : List Gt) (hr : -9223372036854775808 ≤ n ∧ n ≤ 9223372036854775807) (h : cokB n l = true) : Kon Try.prog 46 [vI n, roA l] [] (slA 0 0 (shr l l.length)) [gRow (shr l l.length)] [] := by
  have hC := k_cvS n l (by have := (cokB_t h).2.1; omega) hr
  have hl24 := (cokB_t h).2.1
  rw [h] at hC
  (refine kon_mk T0ok (fn := Try.f46) (c := Try.f46.body.get rfl) Try.func46 rfl (by rfl) (by rfl) (by rfl) ?_; intro hfit hfe)
  (repeat (first | refine gq_KEF ?_ | (refine ga_KEF ?_; intro _q ⟨_he, _hq⟩)))
  (refine aw_rd [0, 1] [] (fun g : Option (List Gt × Nat) => match g with | none => [(5, .g (.one (.sl 128 1 l.length)))] | some g => [(5, .g (.one (.sl 464 g.2 g.1.length)))]) (fun g => match g with | none => [(128, (1, gRow l))] | some g => [(464, (g.2, gRow g.1))]) (fun g => match g with | none => True | some g => cokB n g.1 = true ∧ shr g.1 g.1.length = shr l l.length) (fun g => match g with | none => l.length + 1 | some g => g.1.length) none (by rfl) (by rfl) ?_ (by rfl) (by repeat (first | exact trivial | refine ⟨by rfl, ?_⟩ | refine ⟨vI_of (by rfl) (by omega), ?_⟩)) (by repeat (first | exact trivial | refine ⟨by rfl, ?_⟩ | refine ⟨vI_of (by rfl) (by omega), ?_⟩)) ?_)
  · exact trivial
  have hx : ∀ o : List Gt, (usl o 0).1 < 0 → shr o o.length = o := fun o hd => by
    cases hm : o.length with
    | zero => rfl
    | succ m => rw [shr, if_pos hd]
  rintro (_ | ⟨o, v⟩) ho
  · have hU := k_uspS n l h
    have hD := k_dropO l (usl l 0).1 (usl l 0).2 (by omega)
    cases hd : decide ((usl l 0).1 < 0) with
    | true =>
      rw [hx l (of_decide_eq_true hd)]
      (repeat (first | refine gq_KEF ?_ | (refine ga_KEF ?_; intro _q ⟨_he, _hq⟩)))
      ((try refine aw_ret ?_); refine ret_auto2 (by rfl) (by rfl) (by rfl) (by repeat (first | exact trivial | refine ⟨by first | rfl | omega, ?_⟩)) ?_ (by repeat (first | exact trivial | refine ⟨by rfl, by rfl, ?_⟩)) (by repeat (first | exact trivial | refine ⟨by rfl, by rfl, ?_⟩)); try rfl)
    | false =>
      have hnn := of_decide_eq_false hd
      have hless := usl_less l hnn
      have hinv : cokB n (drp l (usl l 0).1 (usl l 0).2 l.length) = true ∧ shr (drp l (usl l 0).1 (usl l 0).2 l.length) (drp l (usl l 0).1 (usl l 0).2 l.length).length = shr l l.length := ⟨drp_ok h, shr_step l hnn⟩
      generalize drp l (usl l 0).1 (usl l 0).2 l.length = o' at *
      (repeat (first | refine gq_KEF ?_ | (refine ga_KEF ?_; intro _q ⟨_he, _hq⟩)))
      exact ⟨some (o', 0), hinv, ⟨by rfl, (by repeat (first | exact trivial | refine ⟨by rfl, ?_⟩ | refine ⟨vI_of (by rfl) (by omega), ?_⟩)), (by repeat (first | exact trivial | refine ⟨by rfl, ?_⟩ | refine ⟨vI_of (by rfl) (by omega), ?_⟩))⟩, (by first | omega | (dsimp only; omega))⟩
  · obtain ⟨ho, hs⟩ : cokB n o = true ∧ shr o o.length = shr l l.length := ho
    have hU := k_uspS n o ho
    have ho24 := (cokB_t ho).2.1
    have hD := k_dropO o (usl o 0).1 (usl o 0).2 (by omega)
    cases hd : decide ((usl o 0).1 < 0) with
    | true =>
      rw [← hs, hx o (of_decide_eq_true hd)]
      clear hs
      (repeat (first | refine gq_KEF ?_ | (refine ga_KEF ?_; intro _q ⟨_he, _hq⟩)))
      ((try refine aw_ret ?_); refine ret_auto2 (by rfl) (by rfl) (by rfl) (by repeat (first | exact trivial | refine ⟨by first | rfl | omega, ?_⟩)) ?_ (by repeat (first | exact trivial | refine ⟨by rfl, by rfl, ?_⟩)) (by repeat (first | exact trivial | refine ⟨by rfl, by rfl, ?_⟩)); try rfl)
    | false =>
      have hnn := of_decide_eq_false hd
      have hless := usl_less o hnn
      have hinv : cokB n (drp o (usl o 0).1 (usl o 0).2 o.length) = true ∧ shr (drp o (usl o 0).1 (usl o 0).2 o.length) (drp o (usl o 0).1 (usl o 0).2 o.length).length = shr l l.length := ⟨drp_ok ho, (shr_step o hnn).trans hs⟩
      clear hs
      generalize drp o (usl o 0).1 (usl o 0).2 o.length = o' at *
      (repeat (first | refine gq_KEF ?_ | (refine ga_KEF ?_; intro _q ⟨_he, _hq⟩)))
      exact ⟨some (o', v + 1), hinv, ⟨by rfl, (by repeat (first | exact trivial | refine ⟨by rfl, ?_⟩ | refine ⟨vI_of (by rfl) (by omega), ?_⟩)), (by repeat (first | exact trivial | refine ⟨by rfl, ?_⟩ | refine ⟨vI_of (by rfl) (by omega), ?_⟩))⟩, (by first | omega | (dsimp only; omega))⟩
end Go.Proofs.Yteagoafamjbpbaa
