/- KRB: laid into one text. -/
import Derived.Test.YthdniogjiokekaaQRJ

/- Rename of the reference. -/
namespace Go.Proofs.Ythdniogjiokekaa
set_option linter.unusedVariables false
set_option linter.unusedSimpArgs false
set_option maxRecDepth 20000
open Go.RowKit
attribute [local irreducible] runA runX AW
theorem gq_KRB {H G : Prop} (k : H) (h : Hid H → G := by (intro hh; (first | (first | ((first | refine r_none ?_ | refine r_gt (by rfl) (by rfl) (by first | rfl | assumption | omega | (simp only [*, Bool.not_false, Bool.not_true]; first | done | fail) | (simp [*]; first | done | fail)) (by rfl) ?_ | refine r_gf (by rfl) (by rfl) (by first | rfl | assumption | omega | (simp only [*, Bool.not_false, Bool.not_true]; first | done | fail) | (simp [*]; first | done | fail)) (by rfl) ?_); (first | fail | ((first | (refine z_op (by rfl) ?_; first | refine z_ok ?_ ?_ | refine z_ex ?_ (by first | exact ft_raw rfl rfl | ((first | refine ft_rp rfl rfl rfl ?_ | refine ft_row rfl rfl rfl ?_ | refine ft_rpF rfl rfl rfl ?_ | refine ft_rowF rfl rfl rfl ?_ | refine up_row rfl rfl ?_ | refine up_rowF rfl rfl rfl ?_ | refine ct_0 rfl ?_ | refine ct_r rfl rfl ?_ | refine ct_c rfl rfl rfl ?_ | refine cu_all rfl ?_ | refine cu_to rfl ?_ | refine cu_from rfl ?_ | refine cu_p rfl ?_ | fail); (first | omega | (simp only [List.length_append, List.length_replicate, List.length_cons, List.length_nil, List.length_set, List.length_take, List.length_drop, true_and]; omega))) | exact up_raw rfl | exact pk_t (by first | rfl | assumption | omega | (simp only [*, Bool.not_false, Bool.not_true]; first | done | fail) | (simp [*]; first | done | fail)) rfl | exact pk_f (by first | rfl | assumption | omega | (simp only [*, Bool.not_false, Bool.not_true]; first | done | fail) | (simp [*]; first | done | fail)) rfl | (first | exact rw_c Gt rfl | exact rw_c Int rfl) | exact rw_raw | exact pu_cv (fun w => rfl) (by omega) | exact pu_of (fun w => rfl) rfl | exact be_of (fun w => rfl) | exact nc_of (fun _ _ _ _ => rfl) rfl | exact bu_of (fun w => rfl) rfl | fail) ?_) | ((first | refine q_callE wsT wsZ (by rfl) ?_ | refine q_callVE wsT (by rfl) (by rfl) ?_); refine ⟨_, _, _, (by first | assumption | exact k_l1In _ _ _ | exact k_linesS _ | exact k_has _ _ (by omega)), _, by rfl, ?_, ?_⟩)); focus (first | exact trivial | fail | exact rfl | (first | omega | (simp only [List.length_append, List.length_replicate, List.length_cons, List.length_nil, List.length_set, List.length_take, List.length_drop, true_and]; omega)) | exact cvB (fun w => rfl) | ((repeat' (first | exact rfl | exact cV_len _ | exact cV_ln rfl (by omega) | exact Cel.pos | omega | exact trivial | refine And.intro ?_ ?_)); done) | (simp [*]; done) | (simp; omega))) | fail)) | refine r_nt (by rfl) (by rfl) (by first | rfl | assumption | omega | (simp only [*, Bool.not_false, Bool.not_true]; first | done | fail) | (simp [*]; first | done | fail)) (by rfl) ?_ | refine r_nf (by rfl) (by rfl) (by first | rfl | assumption | omega | (simp only [*, Bool.not_false, Bool.not_true]; first | done | fail) | (simp [*]; first | done | fail)) (by rfl) ?_ | refine r_gu (by rfl) (by rfl) (by rfl) ?_ | refine r_nil ?_) | (first | refine aw_seq ?_ | refine aw_ct (by rfl) (by first | rfl | assumption | omega | (simp only [*, Bool.not_false, Bool.not_true]; first | done | fail) | (simp [*]; first | done | fail)) ?_ | refine aw_cf (by rfl) (by first | rfl | assumption | omega | (simp only [*, Bool.not_false, Bool.not_true]; first | done | fail) | (simp [*]; first | done | fail)) ?_ | refine aw_block ?_ | refine aw_region T0ok cfU_ok (by rfl) ?_ | refine aw_skip ?_ | refine aw_exit ?_ | refine ra_step ?_)); (repeat (first | (first | ((first | refine r_none ?_ | refine r_gt (by rfl) (by rfl) (by first | rfl | assumption | omega | (simp only [*, Bool.not_false, Bool.not_true]; first | done | fail) | (simp [*]; first | done | fail)) (by rfl) ?_ | refine r_gf (by rfl) (by rfl) (by first | rfl | assumption | omega | (simp only [*, Bool.not_false, Bool.not_true]; first | done | fail) | (simp [*]; first | done | fail)) (by rfl) ?_); (first | fail | ((first | (refine z_op (by rfl) ?_; first | refine z_ok ?_ ?_ | refine z_ex ?_ (by first | exact ft_raw rfl rfl | ((first | refine ft_rp rfl rfl rfl ?_ | refine ft_row rfl rfl rfl ?_ | refine ft_rpF rfl rfl rfl ?_ | refine ft_rowF rfl rfl rfl ?_ | refine up_row rfl rfl ?_ | refine up_rowF rfl rfl rfl ?_ | refine ct_0 rfl ?_ | refine ct_r rfl rfl ?_ | refine ct_c rfl rfl rfl ?_ | refine cu_all rfl ?_ | refine cu_to rfl ?_ | refine cu_from rfl ?_ | refine cu_p rfl ?_ | fail); (first | omega | (simp only [List.length_append, List.length_replicate, List.length_cons, List.length_nil, List.length_set, List.length_take, List.length_drop, true_and]; omega))) | exact up_raw rfl | exact pk_t (by first | rfl | assumption | omega | (simp only [*, Bool.not_false, Bool.not_true]; first | done | fail) | (simp [*]; first | done | fail)) rfl | exact pk_f (by first | rfl | assumption | omega | (simp only [*, Bool.not_false, Bool.not_true]; first | done | fail) | (simp [*]; first | done | fail)) rfl | (first | exact rw_c Gt rfl | exact rw_c Int rfl) | exact rw_raw | exact pu_cv (fun w => rfl) (by omega) | exact pu_of (fun w => rfl) rfl | exact be_of (fun w => rfl) | exact nc_of (fun _ _ _ _ => rfl) rfl | exact bu_of (fun w => rfl) rfl | fail) ?_) | ((first | refine q_callE wsT wsZ (by rfl) ?_ | refine q_callVE wsT (by rfl) (by rfl) ?_); refine ⟨_, _, _, (by first | assumption | exact k_l1In _ _ _ | exact k_linesS _ | exact k_has _ _ (by omega)), _, by rfl, ?_, ?_⟩)); focus (first | exact trivial | fail | exact rfl | (first | omega | (simp only [List.length_append, List.length_replicate, List.length_cons, List.length_nil, List.length_set, List.length_take, List.length_drop, true_and]; omega)) | exact cvB (fun w => rfl) | ((repeat' (first | exact rfl | exact cV_len _ | exact cV_ln rfl (by omega) | exact Cel.pos | omega | exact trivial | refine And.intro ?_ ?_)); done) | (simp [*]; done) | (simp; omega))) | fail)) | refine r_nt (by rfl) (by rfl) (by first | rfl | assumption | omega | (simp only [*, Bool.not_false, Bool.not_true]; first | done | fail) | (simp [*]; first | done | fail)) (by rfl) ?_ | refine r_nf (by rfl) (by rfl) (by first | rfl | assumption | omega | (simp only [*, Bool.not_false, Bool.not_true]; first | done | fail) | (simp [*]; first | done | fail)) (by rfl) ?_ | refine r_gu (by rfl) (by rfl) (by rfl) ?_ | refine r_nil ?_) | (first | refine aw_seq ?_ | refine aw_ct (by rfl) (by first | rfl | assumption | omega | (simp only [*, Bool.not_false, Bool.not_true]; first | done | fail) | (simp [*]; first | done | fail)) ?_ | refine aw_cf (by rfl) (by first | rfl | assumption | omega | (simp only [*, Bool.not_false, Bool.not_true]; first | done | fail) | (simp [*]; first | done | fail)) ?_ | refine aw_block ?_ | refine aw_region T0ok cfU_ok (by rfl) ?_ | refine aw_skip ?_ | refine aw_exit ?_ | refine ra_step ?_))); exact hh.out)) : G := h ⟨k⟩
theorem ga_KRB {H G : Prop} (k : H) (h : Hid H → G := by (intro hh; (first | refine r_none ?_ | refine r_gt (by rfl) (by rfl) (by first | rfl | assumption | omega | (simp only [*, Bool.not_false, Bool.not_true]; first | done | fail) | (simp [*]; first | done | fail)) (by rfl) ?_ | refine r_gf (by rfl) (by rfl) (by first | rfl | assumption | omega | (simp only [*, Bool.not_false, Bool.not_true]; first | done | fail) | (simp [*]; first | done | fail)) (by rfl) ?_); refine z_op (by rfl) ?_; refine z_alV ?_ hh.out; focus (first | exact trivial | fail | exact rfl | (first | omega | (simp only [List.length_append, List.length_replicate, List.length_cons, List.length_nil, List.length_set, List.length_take, List.length_drop, true_and]; omega)) | exact cvB (fun w => rfl) | ((repeat' (first | exact rfl | exact cV_len _ | exact cV_ln rfl (by omega) | exact Cel.pos | omega | exact trivial | refine And.intro ?_ ?_)); done) | (simp [*]; done) | (simp; omega)))) : G := h ⟨k⟩
/-- Which numbers were seen. -/
def sbL : Nat → List Int → Nat
  | s, [] => s
  | s, x :: l => sbL (s ||| 2 ^ x.toNat) l
theorem sbL_snoc : ∀ (l : List Int) (s : Nat) (x : Int), sbL s (l ++ [x]) = sbL s l ||| 2 ^ x.toNat
  | [], s, x => rfl
  | y :: l, s, x => sbL_snoc l _ x
theorem sbL_bit : ∀ (l : List Int) (s : Nat) (y : Int), (∀ x ∈ l, 0 ≤ x) → 0 ≤ y → (sbL s l).testBit y.toNat = (s.testBit y.toNat || hasB l y)
  | [], s, y, _, _ => by simp [sbL, hasB]
  | x :: l, s, y, hl, hy => by
    rw [sbL, sbL_bit l _ y (fun z hz => hl z (List.mem_cons_of_mem _ hz)) hy, or_bit]
    have hx := hl x List.mem_cons_self
    have e : decide (x.toNat = y.toNat) = (x == y) := by
      rw [Bool.eq_iff_iff, decide_eq_true_eq, beq_iff_eq]; omega
    rw [e, Bool.or_assoc]; rfl
theorem take_i {l : List Int} {k : Nat} (h : k < l.length) : l.take (k + 1) = l.take k ++ [l.getD k 0] := by
  rw [List.take_succ_eq_append_getElem h]
  simp [List.getD_eq_getElem?_getD, h]
/-- One name looked at by the reference, as by gvL. -/
theorem has_sb {n : Int} {ns : List Int} {i : Nat} (hi : i < ns.length) (hp : ∀ x ∈ ns.take i, 0 ≤ x) (hx : 0 ≤ ns.getD i 0) : hasB (ns.take i) (ns.getD i 0) = (sbL 0 (ns.take i)).testBit (ns.getD i 0).toNat := by
  rw [sbL_bit _ _ _ hp hx]; simp
set_option maxHeartbeats 4000000 in
theorem k_renS0 (n : Int) (c : List Gt) (ns : List Int) (hr : -9223372036854775808 ≤ n - 1 ∧ n ≤ 9223372036854775807) (hc : c.length ≤ 1000) (hn : ns.length ≤ 1000) (h : okR n c ns = false) : Kon Try.prog 7 [vI n, roA c, roA ns] [] (slA 0 0 ([] : List Gt)) [gRow []] [] := by
  have hK := k_cvS n c (by omega) (by omega)
  cases hcv : cokB n c with
  | false =>
    rw [hcv] at hK
    (refine kon_mk T0ok (fn := Try.f7) (c := Try.f7.body.get rfl) Try.func7 rfl (by rfl) (by rfl) (by rfl) ?_; intro hfit hfe)
    (repeat (first | refine gq_KRB ?_ | (refine ga_KRB ?_; intro _hq)))
    ((try refine aw_ret ?_); refine ret_auto2 (by rfl) (by rfl) (by rfl) (by repeat (first | exact trivial | refine ⟨by first | rfl | omega, ?_⟩)) ?_ (by repeat (first | exact trivial | refine ⟨by rfl, by rfl, ?_⟩)) (by repeat (first | exact trivial | refine ⟨by rfl, by rfl, ?_⟩)); try rfl)
  | true =>
  rw [hcv] at hK
  by_cases hl : (ns.length : Int) = n
  · have hl2 : ((ns.length : Int) != n) = false := by simp [hl]
    have hg : gvL n 0 ns = false := by
      unfold okR at h
      rw [hcv, Bool.true_and, beq_iff_eq.2 hl, Bool.true_and] at h
      exact h
    clear h hcv
    (refine kon_mk T0ok (fn := Try.f7) (c := Try.f7.body.get rfl) Try.func7 rfl (by rfl) (by rfl) (by rfl) ?_; intro hfit hfe)
    (repeat (first | refine gq_KRB ?_ | (refine ga_KRB ?_; intro _hq)))
    (refine aw_rd [0, 1, 2, 7] [208] (fun i : Nat => [(8, vI i)]) (fun _ => []) (fun i => i ≤ ns.length ∧ (∀ x ∈ ns.take i, 0 ≤ x) ∧ gvL n (sbL 0 (ns.take i)) (ns.drop i) = false) (fun i => ns.length - i) 0 (by rfl) (by rfl) ?_ (by rfl) (by repeat (first | exact trivial | refine ⟨by rfl, ?_⟩ | refine ⟨vI_of (by rfl) (by omega), ?_⟩)) (by repeat (first | exact trivial | refine ⟨by rfl, ?_⟩ | refine ⟨vI_of (by rfl) (by omega), ?_⟩)) ?_)
    · exact ⟨Nat.zero_le _, by simp, by rw [List.drop_zero]; exact hg⟩
    rintro i ⟨hi, hp, hz⟩
    rcases Nat.lt_or_ge i ns.length with h5 | h5
    · have hd : decide ((i : Int) < (ns.length : Int)) = true := by simpa using h5
      have hlt : (ns.take i).length ≤ 1000 := by rw [List.length_take]; omega
      have hH := k_has (ns.take i) (ns.getD (i : Int).toNat Cel.no) (by omega)
      have hti := take_i h5
      rw [gvL_drop h5] at hz
      cases hb1 : btw (ns.getD i 0) 0 (n - 1) with
      | false =>
        have hb2 : btw (ns.getD (i : Int).toNat Cel.no) 0 (n - 1) = false := hb1
        clear hz hp hti
        (repeat (first | refine gq_KRB ?_ | (refine ga_KRB ?_; intro _hq)))
        (refine aw_draw mixed T0ok cfU_ok [] (by rfl) (by kernel_rfl) ?_)
        (repeat (first | refine gq_KRB ?_ | (refine ga_KRB ?_; intro _hq)))
        ((try refine aw_ret ?_); refine ret_auto2 (by rfl) (by rfl) (by rfl) (by repeat (first | exact trivial | refine ⟨by first | rfl | omega, ?_⟩)) ?_ (by repeat (first | exact trivial | refine ⟨by rfl, by rfl, ?_⟩)) (by repeat (first | exact trivial | refine ⟨by rfl, by rfl, ?_⟩)); try rfl)
      | true =>
        have hb2 : btw (ns.getD (i : Int).toNat Cel.no) 0 (n - 1) = true := hb1
        have hb' := btw_t hb1
        have hhs := has_sb (n := n) h5 hp hb'.1
        rw [hb1, Bool.true_and] at hz
        cases hv : (sbL 0 (ns.take i)).testBit (ns.getD i 0).toNat with
        | true =>
          have hh2 : hasB (ns.take i) (ns.getD (i : Int).toNat Cel.no) = true := hhs.trans hv
          rw [hh2] at hH
          clear hz hp hti hhs
          (repeat (first | refine gq_KRB ?_ | (refine ga_KRB ?_; intro _hq)))
          (refine aw_draw mixed T0ok cfU_ok [] (by rfl) (by kernel_rfl) ?_)
          (repeat (first | refine gq_KRB ?_ | (refine ga_KRB ?_; intro _hq)))
          ((try refine aw_ret ?_); refine ret_auto2 (by rfl) (by rfl) (by rfl) (by repeat (first | exact trivial | refine ⟨by first | rfl | omega, ?_⟩)) ?_ (by repeat (first | exact trivial | refine ⟨by rfl, by rfl, ?_⟩)) (by repeat (first | exact trivial | refine ⟨by rfl, by rfl, ?_⟩)); try rfl)
        | false =>
          have hh2 : hasB (ns.take i) (ns.getD (i : Int).toNat Cel.no) = false := hhs.trans hv
          rw [hh2] at hH
          rw [hv, Bool.not_false, Bool.true_and, ← sbL_snoc, ← hti] at hz
          have hp2 : ∀ x ∈ ns.take (i + 1), 0 ≤ x := by
            intro x hx
            rw [hti] at hx
            rcases List.mem_append.1 hx with hx | hx
            · exact hp x hx
            · rw [List.mem_singleton] at hx; subst hx; exact hb'.1
          have hinv : i + 1 ≤ ns.length ∧ (∀ x ∈ ns.take (i + 1), 0 ≤ x) ∧ gvL n (sbL 0 (ns.take (i + 1))) (ns.drop (i + 1)) = false := ⟨h5, hp2, hz⟩
          clear hz hp hti hhs hp2
          (repeat (first | refine gq_KRB ?_ | (refine ga_KRB ?_; intro _hq)))
          (refine aw_draw mixed T0ok cfU_ok [] (by rfl) (by kernel_rfl) ?_)
          (repeat (first | refine gq_KRB ?_ | (refine ga_KRB ?_; intro _hq)))
          exact ⟨i + 1, hinv, ⟨by rfl, (by repeat (first | exact trivial | refine ⟨by rfl, ?_⟩ | refine ⟨vI_of (by rfl) (by omega), ?_⟩)), (by repeat (first | exact trivial | refine ⟨by rfl, ?_⟩ | refine ⟨vI_of (by rfl) (by omega), ?_⟩))⟩, (by first | omega | (dsimp only; omega))⟩
    · rw [List.drop_of_length_le h5] at hz
      obtain ⟨_, hz⟩ : True ∧ gvL n _ [] = false := ⟨trivial, hz⟩
      cases hz
  · have hl2 : ((ns.length : Int) != n) = true := by simp [hl]
    (refine kon_mk T0ok (fn := Try.f7) (c := Try.f7.body.get rfl) Try.func7 rfl (by rfl) (by rfl) (by rfl) ?_; intro hfit hfe)
    (repeat (first | refine gq_KRB ?_ | (refine ga_KRB ?_; intro _hq)))
    ((try refine aw_ret ?_); refine ret_auto2 (by rfl) (by rfl) (by rfl) (by repeat (first | exact trivial | refine ⟨by first | rfl | omega, ?_⟩)) ?_ (by repeat (first | exact trivial | refine ⟨by rfl, by rfl, ?_⟩)) (by repeat (first | exact trivial | refine ⟨by rfl, by rfl, ?_⟩)); try rfl)
set_option maxHeartbeats 8000000 in
theorem k_renS1 (n : Int) (c : List Gt) (ns : List Int) (h : okR n c ns = true) : Kon Try.prog 7 [vI n, roA c, roA ns] [] (slA 0 0 (c.map (rnG ns))) [gRow (c.map (rnG ns))] [] := by
  obtain ⟨hcv, hl, hg⟩ := okR_t h
  clear h
  have hb := cokB_t hcv
  have hK := k_cvS n c (by omega) (by omega)
  rw [hcv] at hK
  have hl2 : ((ns.length : Int) != n) = false := by simp [hl]
  clear hcv
  (refine kon_mk T0ok (fn := Try.f7) (c := Try.f7.body.get rfl) Try.func7 rfl (by rfl) (by rfl) (by rfl) ?_; intro hfit hfe)
  (repeat (first | refine gq_KRB ?_ | (refine ga_KRB ?_; intro _hq)))
  (refine aw_rd [0, 1, 2, 7] [208] (fun i : Nat => [(8, vI i)]) (fun _ => []) (fun i => i ≤ ns.length ∧ (∀ x ∈ ns.take i, 0 ≤ x) ∧ gvL n (sbL 0 (ns.take i)) (ns.drop i) = true) (fun i => ns.length - i) 0 (by rfl) (by rfl) ?_ (by rfl) (by repeat (first | exact trivial | refine ⟨by rfl, ?_⟩ | refine ⟨vI_of (by rfl) (by omega), ?_⟩)) (by repeat (first | exact trivial | refine ⟨by rfl, ?_⟩ | refine ⟨vI_of (by rfl) (by omega), ?_⟩)) ?_)
  · exact ⟨Nat.zero_le _, by simp, by rw [List.drop_zero]; exact hg⟩
  rintro i ⟨hi, hp, hz⟩
  rcases Nat.lt_or_ge i ns.length with h5 | h5
  · have hd : decide ((i : Int) < (ns.length : Int)) = true := by simpa using h5
    have hlt : (ns.take i).length ≤ 1000 := by rw [List.length_take]; omega
    have hH := k_has (ns.take i) (ns.getD (i : Int).toNat Cel.no) (by omega)
    have hti := take_i h5
    rw [gvL_drop h5, Bool.and_eq_true, Bool.and_eq_true, Bool.not_eq_true'] at hz
    obtain ⟨⟨hb1, hv⟩, hz⟩ := hz
    have hb2 : btw (ns.getD (i : Int).toNat Cel.no) 0 (n - 1) = true := hb1
    have hb' := btw_t hb1
    have hhs := has_sb (n := n) h5 hp hb'.1
    have hh2 : hasB (ns.take i) (ns.getD (i : Int).toNat Cel.no) = false := hhs.trans hv
    rw [hh2] at hH
    rw [← sbL_snoc, ← hti] at hz
    have hp2 : ∀ x ∈ ns.take (i + 1), 0 ≤ x := by
      intro x hx
      rw [hti] at hx
      rcases List.mem_append.1 hx with hx | hx
      · exact hp x hx
      · rw [List.mem_singleton] at hx; subst hx; exact hb'.1
    have hinv : i + 1 ≤ ns.length ∧ (∀ x ∈ ns.take (i + 1), 0 ≤ x) ∧ gvL n (sbL 0 (ns.take (i + 1))) (ns.drop (i + 1)) = true := ⟨h5, hp2, hz⟩
    clear hz hp hti hhs hp2 hg
    (repeat (first | refine gq_KRB ?_ | (refine ga_KRB ?_; intro _hq)))
    (refine aw_draw mixed T0ok cfU_ok [] (by rfl) (by kernel_rfl) ?_)
    (repeat (first | refine gq_KRB ?_ | (refine ga_KRB ?_; intro _hq)))
    exact ⟨i + 1, hinv, ⟨by rfl, (by repeat (first | exact trivial | refine ⟨by rfl, ?_⟩ | refine ⟨vI_of (by rfl) (by omega), ?_⟩)), (by repeat (first | exact trivial | refine ⟨by rfl, ?_⟩ | refine ⟨vI_of (by rfl) (by omega), ?_⟩))⟩, (by first | omega | (dsimp only; omega))⟩
  · have hd : decide ((i : Int) < (ns.length : Int)) = false := by simp; omega
    clear hz hg hp
    (repeat (first | refine gq_KRB ?_ | (refine ga_KRB ?_; intro _hq)))
    (refine aw_rd [0, 1, 2] [] (fun g : Nat × Nat × List Gt => [(7, .g (.one (.sl 208 g.2.1 g.2.2.length))), (9, vI g.1)]) (fun g => [(208, (g.2.1, gRow g.2.2))]) (fun g => g.1 ≤ c.length ∧ g.2.2 = (c.map (rnG ns)).take g.1) (fun g => c.length - g.1) (0, 0, []) (by rfl) (by rfl) ?_ (by rfl) (by repeat (first | exact trivial | refine ⟨by rfl, ?_⟩ | refine ⟨vI_of (by rfl) (by omega), ?_⟩)) (by repeat (first | exact trivial | refine ⟨by rfl, ?_⟩ | refine ⟨vI_of (by rfl) (by omega), ?_⟩)) ?_)
    · exact ⟨Nat.zero_le _, by simp⟩
    rintro ⟨j, u, o⟩ ⟨hj, ho⟩
    dsimp only at hj ho ⊢
    rcases Nat.lt_or_ge j c.length with h6 | h6
    · have hd2 : decide ((j : Int) < (c.length : Int)) = true := by simpa using h6
      have hol : o.length ≤ 24 := by rw [ho, List.length_take, List.length_map]; omega
      have hnth := rn_nth (ns := ns) h6
      have hgk := all_at hb.2.2 h6
      obtain ⟨g, hgd⟩ : ∃ g, c.getD (j : Int).toNat Cel.no = g := ⟨_, rfl⟩
      have hgd' : c.getD j Cel.no = g := hgd
      rw [hgd'] at hnth hgk
      obtain ⟨_, hkk⟩ := kinds_of hgk
      (repeat (first | refine gq_KRB ?_ | (refine ga_KRB ?_; intro _hq)))
      rw [hgd]
      rcases hkk with ⟨a, rfl, ha⟩ | ⟨a, b, rfl, ha, hb2⟩ | ⟨a, b, d, rfl, ha, hb2, hd3⟩ | ⟨a, b, rfl, ha, hb2⟩ | ⟨a, b, d, rfl, ha, hb2, hd3⟩
      · have hinv : j + 1 ≤ c.length ∧ o ++ [⟨0, nmX ns a, 0, 0⟩] = (c.map (rnG ns)).take (j + 1) := ⟨h6, by rw [hnth, ← ho]; rfl⟩
        clear hnth ho hgk hgd hgd'
        (refine aw_draw mixed T0ok cfU_ok [(192, [8, 9])] (by rfl) (by kernel_rfl) ?_)
        (repeat (first | refine gq_KRB ?_ | (refine ga_KRB ?_; intro _hq)))
        exact ⟨(j + 1, u + 1, o ++ [⟨0, nmX ns a, 0, 0⟩]), hinv, ⟨by rfl, (by repeat (first | exact trivial | refine ⟨by rfl, ?_⟩ | refine ⟨vI_of (by rfl) (by omega), ?_⟩)), (by repeat (first | exact trivial | refine ⟨by rfl, ?_⟩ | refine ⟨vI_of (by rfl) (by omega), ?_⟩))⟩, (by first | omega | (dsimp only; omega))⟩
      · have hinv : j + 1 ≤ c.length ∧ o ++ [⟨1, nmX ns a, nmX ns b, 0⟩] = (c.map (rnG ns)).take (j + 1) := ⟨h6, by rw [hnth, ← ho]; rfl⟩
        clear hnth ho hgk hgd hgd'
        (refine aw_draw mixed T0ok cfU_ok [(192, [8, 9])] (by rfl) (by kernel_rfl) ?_)
        (repeat (first | refine gq_KRB ?_ | (refine ga_KRB ?_; intro _hq)))
        exact ⟨(j + 1, u + 1, o ++ [⟨1, nmX ns a, nmX ns b, 0⟩]), hinv, ⟨by rfl, (by repeat (first | exact trivial | refine ⟨by rfl, ?_⟩ | refine ⟨vI_of (by rfl) (by omega), ?_⟩)), (by repeat (first | exact trivial | refine ⟨by rfl, ?_⟩ | refine ⟨vI_of (by rfl) (by omega), ?_⟩))⟩, (by first | omega | (dsimp only; omega))⟩
      · have hinv : j + 1 ≤ c.length ∧ o ++ [⟨2, nmX ns a, nmX ns b, nmX ns d⟩] = (c.map (rnG ns)).take (j + 1) := ⟨h6, by rw [hnth, ← ho]; rfl⟩
        clear hnth ho hgk hgd hgd'
        (refine aw_draw mixed T0ok cfU_ok [(192, [8, 9])] (by rfl) (by kernel_rfl) ?_)
        (repeat (first | refine gq_KRB ?_ | (refine ga_KRB ?_; intro _hq)))
        exact ⟨(j + 1, u + 1, o ++ [⟨2, nmX ns a, nmX ns b, nmX ns d⟩]), hinv, ⟨by rfl, (by repeat (first | exact trivial | refine ⟨by rfl, ?_⟩ | refine ⟨vI_of (by rfl) (by omega), ?_⟩)), (by repeat (first | exact trivial | refine ⟨by rfl, ?_⟩ | refine ⟨vI_of (by rfl) (by omega), ?_⟩))⟩, (by first | omega | (dsimp only; omega))⟩
      · have hinv : j + 1 ≤ c.length ∧ o ++ [⟨3, nmX ns a, nmX ns b, 0⟩] = (c.map (rnG ns)).take (j + 1) := ⟨h6, by rw [hnth, ← ho]; rfl⟩
        clear hnth ho hgk hgd hgd'
        (refine aw_draw mixed T0ok cfU_ok [(192, [8, 9])] (by rfl) (by kernel_rfl) ?_)
        (repeat (first | refine gq_KRB ?_ | (refine ga_KRB ?_; intro _hq)))
        exact ⟨(j + 1, u + 1, o ++ [⟨3, nmX ns a, nmX ns b, 0⟩]), hinv, ⟨by rfl, (by repeat (first | exact trivial | refine ⟨by rfl, ?_⟩ | refine ⟨vI_of (by rfl) (by omega), ?_⟩)), (by repeat (first | exact trivial | refine ⟨by rfl, ?_⟩ | refine ⟨vI_of (by rfl) (by omega), ?_⟩))⟩, (by first | omega | (dsimp only; omega))⟩
      · have hinv : j + 1 ≤ c.length ∧ o ++ [⟨4, nmX ns a, nmX ns b, nmX ns d⟩] = (c.map (rnG ns)).take (j + 1) := ⟨h6, by rw [hnth, ← ho]; rfl⟩
        clear hnth ho hgk hgd hgd'
        (refine aw_draw mixed T0ok cfU_ok [(192, [8, 9])] (by rfl) (by kernel_rfl) ?_)
        (repeat (first | refine gq_KRB ?_ | (refine ga_KRB ?_; intro _hq)))
        exact ⟨(j + 1, u + 1, o ++ [⟨4, nmX ns a, nmX ns b, nmX ns d⟩]), hinv, ⟨by rfl, (by repeat (first | exact trivial | refine ⟨by rfl, ?_⟩ | refine ⟨vI_of (by rfl) (by omega), ?_⟩)), (by repeat (first | exact trivial | refine ⟨by rfl, ?_⟩ | refine ⟨vI_of (by rfl) (by omega), ?_⟩))⟩, (by first | omega | (dsimp only; omega))⟩
    · have hd2 : decide ((j : Int) < (c.length : Int)) = false := by simp; omega
      have e : o = c.map (rnG ns) := by rw [ho, List.take_of_length_le (by rw [List.length_map]; omega)]
      subst e
      clear ho
      (repeat (first | refine gq_KRB ?_ | (refine ga_KRB ?_; intro _hq)))
      ((try refine aw_ret ?_); refine ret_auto2 (by rfl) (by rfl) (by rfl) (by repeat (first | exact trivial | refine ⟨by first | rfl | omega, ?_⟩)) ?_ (by repeat (first | exact trivial | refine ⟨by rfl, by rfl, ?_⟩)) (by repeat (first | exact trivial | refine ⟨by rfl, by rfl, ?_⟩)); try rfl)
end Go.Proofs.Ythdniogjiokekaa
