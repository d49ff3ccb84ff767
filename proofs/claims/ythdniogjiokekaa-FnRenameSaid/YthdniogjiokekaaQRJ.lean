/- KRA: laid into one text. -/
import Derived.Test.YthdniogjiokekaaQRI

/- Rename of both sides. -/
namespace Go.Proofs.Ythdniogjiokekaa
set_option linter.unusedVariables false
set_option linter.unusedSimpArgs false
set_option maxRecDepth 20000
open Go.RowKit
attribute [local irreducible] runA runX AW
theorem gq_KRA {H G : Prop} (k : H) (h : Hid H → G := by (intro hh; (first | (first | ((first | refine r_none ?_ | refine r_gt (by rfl) (by rfl) (by first | rfl | assumption | omega | (simp only [*, Bool.not_false, Bool.not_true]; first | done | fail) | (simp [*]; first | done | fail)) (by rfl) ?_ | refine r_gf (by rfl) (by rfl) (by first | rfl | assumption | omega | (simp only [*, Bool.not_false, Bool.not_true]; first | done | fail) | (simp [*]; first | done | fail)) (by rfl) ?_); (first | (first | refine r_buildSb (by rfl) (by rfl) (by rfl) (by rfl) (by rfl) (by rfl) (by rfl) (by rfl) (by rfl) (by rfl) (by rfl) (by rfl) (by rfl) ?_ | refine r_indexAddr_sb (by rfl) (by rfl) (by rfl) (by rfl) (by rfl) (by rfl) (by omega) ?_ | refine r_len_sb (by rfl) (by rfl) (by rfl) (by rfl) (by rfl) ?_) | ((first | (refine z_op (by rfl) ?_; first | refine z_ok ?_ ?_ | refine z_ex ?_ (by first | exact ft_raw rfl rfl | ((first | refine ft_rp rfl rfl rfl ?_ | refine ft_row rfl rfl rfl ?_ | refine ft_rpF rfl rfl rfl ?_ | refine ft_rowF rfl rfl rfl ?_ | refine up_row rfl rfl ?_ | refine up_rowF rfl rfl rfl ?_ | refine ct_0 rfl ?_ | refine ct_r rfl rfl ?_ | refine ct_c rfl rfl rfl ?_ | refine cu_all rfl ?_ | refine cu_to rfl ?_ | refine cu_from rfl ?_ | refine cu_p rfl ?_ | refine mk_c Gt rfl rfl rfl ?_); (first | omega | (simp only [List.length_append, List.length_replicate, List.length_cons, List.length_nil, List.length_set, List.length_take, List.length_drop, true_and]; omega))) | exact up_raw rfl | exact pk_t (by first | rfl | assumption | omega | (simp only [*, Bool.not_false, Bool.not_true]; first | done | fail) | (simp [*]; first | done | fail)) rfl | exact pk_f (by first | rfl | assumption | omega | (simp only [*, Bool.not_false, Bool.not_true]; first | done | fail) | (simp [*]; first | done | fail)) rfl | (first | exact rw_c Gt rfl | exact rw_c Int rfl) | exact rw_raw | exact pu_cv (fun w => rfl) (by omega) | exact pu_of (fun w => rfl) rfl | exact be_of (fun w => rfl) | exact nc_of (fun _ _ _ _ => rfl) rfl | exact bu_of (fun w => rfl) rfl | fail) ?_) | ((first | refine q_callE wsT wsZ (by rfl) ?_ | refine q_callVE wsT (by rfl) (by rfl) ?_); refine ⟨_, _, _, (by first | assumption | exact k_within _ _ _ | exact k_l1In _ _ _ | exact k_linesS _), _, by rfl, ?_, ?_⟩)); focus (first | exact trivial | fail | exact rfl | (first | omega | (simp only [List.length_append, List.length_replicate, List.length_cons, List.length_nil, List.length_set, List.length_take, List.length_drop, true_and]; omega)) | exact cvB (fun w => rfl) | ((repeat' (first | exact rfl | exact cV_len _ | exact cV_ln rfl (by omega) | exact Cel.pos | omega | exact trivial | refine And.intro ?_ ?_)); done) | (simp [*]; done) | (simp; omega))) | fail)) | refine r_nt (by rfl) (by rfl) (by first | rfl | assumption | omega | (simp only [*, Bool.not_false, Bool.not_true]; first | done | fail) | (simp [*]; first | done | fail)) (by rfl) ?_ | refine r_nf (by rfl) (by rfl) (by first | rfl | assumption | omega | (simp only [*, Bool.not_false, Bool.not_true]; first | done | fail) | (simp [*]; first | done | fail)) (by rfl) ?_ | refine r_gu (by rfl) (by rfl) (by rfl) ?_ | refine r_nil ?_) | (first | refine aw_seq ?_ | refine aw_ct (by rfl) (by first | rfl | assumption | omega | (simp only [*, Bool.not_false, Bool.not_true]; first | done | fail) | (simp [*]; first | done | fail)) ?_ | refine aw_cf (by rfl) (by first | rfl | assumption | omega | (simp only [*, Bool.not_false, Bool.not_true]; first | done | fail) | (simp [*]; first | done | fail)) ?_ | refine aw_block ?_ | refine aw_region T0ok cfU_ok (by rfl) ?_ | refine aw_skip ?_ | refine aw_exit ?_ | refine ra_step ?_)); (repeat (first | (first | ((first | refine r_none ?_ | refine r_gt (by rfl) (by rfl) (by first | rfl | assumption | omega | (simp only [*, Bool.not_false, Bool.not_true]; first | done | fail) | (simp [*]; first | done | fail)) (by rfl) ?_ | refine r_gf (by rfl) (by rfl) (by first | rfl | assumption | omega | (simp only [*, Bool.not_false, Bool.not_true]; first | done | fail) | (simp [*]; first | done | fail)) (by rfl) ?_); (first | (first | refine r_buildSb (by rfl) (by rfl) (by rfl) (by rfl) (by rfl) (by rfl) (by rfl) (by rfl) (by rfl) (by rfl) (by rfl) (by rfl) (by rfl) ?_ | refine r_indexAddr_sb (by rfl) (by rfl) (by rfl) (by rfl) (by rfl) (by rfl) (by omega) ?_ | refine r_len_sb (by rfl) (by rfl) (by rfl) (by rfl) (by rfl) ?_) | ((first | (refine z_op (by rfl) ?_; first | refine z_ok ?_ ?_ | refine z_ex ?_ (by first | exact ft_raw rfl rfl | ((first | refine ft_rp rfl rfl rfl ?_ | refine ft_row rfl rfl rfl ?_ | refine ft_rpF rfl rfl rfl ?_ | refine ft_rowF rfl rfl rfl ?_ | refine up_row rfl rfl ?_ | refine up_rowF rfl rfl rfl ?_ | refine ct_0 rfl ?_ | refine ct_r rfl rfl ?_ | refine ct_c rfl rfl rfl ?_ | refine cu_all rfl ?_ | refine cu_to rfl ?_ | refine cu_from rfl ?_ | refine cu_p rfl ?_ | refine mk_c Gt rfl rfl rfl ?_); (first | omega | (simp only [List.length_append, List.length_replicate, List.length_cons, List.length_nil, List.length_set, List.length_take, List.length_drop, true_and]; omega))) | exact up_raw rfl | exact pk_t (by first | rfl | assumption | omega | (simp only [*, Bool.not_false, Bool.not_true]; first | done | fail) | (simp [*]; first | done | fail)) rfl | exact pk_f (by first | rfl | assumption | omega | (simp only [*, Bool.not_false, Bool.not_true]; first | done | fail) | (simp [*]; first | done | fail)) rfl | (first | exact rw_c Gt rfl | exact rw_c Int rfl) | exact rw_raw | exact pu_cv (fun w => rfl) (by omega) | exact pu_of (fun w => rfl) rfl | exact be_of (fun w => rfl) | exact nc_of (fun _ _ _ _ => rfl) rfl | exact bu_of (fun w => rfl) rfl | fail) ?_) | ((first | refine q_callE wsT wsZ (by rfl) ?_ | refine q_callVE wsT (by rfl) (by rfl) ?_); refine ⟨_, _, _, (by first | assumption | exact k_within _ _ _ | exact k_l1In _ _ _ | exact k_linesS _), _, by rfl, ?_, ?_⟩)); focus (first | exact trivial | fail | exact rfl | (first | omega | (simp only [List.length_append, List.length_replicate, List.length_cons, List.length_nil, List.length_set, List.length_take, List.length_drop, true_and]; omega)) | exact cvB (fun w => rfl) | ((repeat' (first | exact rfl | exact cV_len _ | exact cV_ln rfl (by omega) | exact Cel.pos | omega | exact trivial | refine And.intro ?_ ?_)); done) | (simp [*]; done) | (simp; omega))) | fail)) | refine r_nt (by rfl) (by rfl) (by first | rfl | assumption | omega | (simp only [*, Bool.not_false, Bool.not_true]; first | done | fail) | (simp [*]; first | done | fail)) (by rfl) ?_ | refine r_nf (by rfl) (by rfl) (by first | rfl | assumption | omega | (simp only [*, Bool.not_false, Bool.not_true]; first | done | fail) | (simp [*]; first | done | fail)) (by rfl) ?_ | refine r_gu (by rfl) (by rfl) (by rfl) ?_ | refine r_nil ?_) | (first | refine aw_seq ?_ | refine aw_ct (by rfl) (by first | rfl | assumption | omega | (simp only [*, Bool.not_false, Bool.not_true]; first | done | fail) | (simp [*]; first | done | fail)) ?_ | refine aw_cf (by rfl) (by first | rfl | assumption | omega | (simp only [*, Bool.not_false, Bool.not_true]; first | done | fail) | (simp [*]; first | done | fail)) ?_ | refine aw_block ?_ | refine aw_region T0ok cfU_ok (by rfl) ?_ | refine aw_skip ?_ | refine aw_exit ?_ | refine ra_step ?_))); exact hh.out)) : G := h ⟨k⟩
theorem ga_KRA {H G : Prop} (k : H) (h : Hid H → G := by (intro hh; (first | refine r_none ?_ | refine r_gt (by rfl) (by rfl) (by first | rfl | assumption | omega | (simp only [*, Bool.not_false, Bool.not_true]; first | done | fail) | (simp [*]; first | done | fail)) (by rfl) ?_ | refine r_gf (by rfl) (by rfl) (by first | rfl | assumption | omega | (simp only [*, Bool.not_false, Bool.not_true]; first | done | fail) | (simp [*]; first | done | fail)) (by rfl) ?_); refine z_op (by rfl) ?_; refine z_alV ?_ hh.out; focus (first | exact trivial | fail | exact rfl | (first | omega | (simp only [List.length_append, List.length_replicate, List.length_cons, List.length_nil, List.length_set, List.length_take, List.length_drop, true_and]; omega)) | exact cvB (fun w => rfl) | ((repeat' (first | exact rfl | exact cV_len _ | exact cV_ln rfl (by omega) | exact Cel.pos | omega | exact trivial | refine And.intro ?_ ?_)); done) | (simp [*]; done) | (simp; omega)))) : G := h ⟨k⟩
/-- Whether names are told for all lines, each once. -/
theorem gvL_at {n : Int} : ∀ {L : List Int} {s : Nat}, gvL n s L = true → ∀ i, i < L.length → (0 ≤ L.getD i 0 ∧ L.getD i 0 < n) ∧ s.testBit (L.getD i 0).toNat = false
  | [], _, _, i, hi => absurd hi (Nat.not_lt_zero _)
  | x :: L, s, h, i, hi => by
    rw [gvL, Bool.and_eq_true, Bool.and_eq_true, Bool.not_eq_true'] at h
    have hb := btw_t h.1.1
    rcases i with _ | i
    · exact ⟨⟨hb.1, by have := hb.2; show x < n; omega⟩, h.1.2⟩
    · obtain ⟨h1, h2⟩ := gvL_at h.2 i (Nat.lt_of_succ_lt_succ hi)
      refine ⟨h1, ?_⟩
      rw [or_bit, Bool.or_eq_false_iff] at h2
      exact h2.1
theorem gvL_ne {n : Int} : ∀ {L : List Int} {s : Nat}, gvL n s L = true → ∀ i j, i < j → j < L.length → L.getD i 0 ≠ L.getD j 0
  | [], _, _, i, j, _, hj => absurd hj (Nat.not_lt_zero _)
  | x :: L, s, h, i, j, hij, hj => by
    rw [gvL, Bool.and_eq_true, Bool.and_eq_true, Bool.not_eq_true'] at h
    have hb := btw_t h.1.1
    rcases i with _ | i
    · rcases j with _ | j
      · omega
      · obtain ⟨h1, h2⟩ := gvL_at h.2 j (Nat.lt_of_succ_lt_succ hj)
        rw [or_bit, Bool.or_eq_false_iff, decide_eq_false_iff_not] at h2
        intro e
        exact h2.2 (congrArg Int.toNat e)
    · rcases j with _ | j
      · omega
      · exact gvL_ne h.2 i j (Nat.lt_of_succ_lt_succ hij) (Nat.lt_of_succ_lt_succ hj)
theorem gvL_perm {n : Int} {L : List Int} (h : gvL n 0 L = true) (hl : (L.length : Int) = n) : Perm n L := by
  refine ⟨hl, fun x hx => (gvL_at h x.toNat (by omega)).1, fun x y hx hy e => ?_⟩
  rcases Nat.lt_trichotomy x.toNat y.toNat with h1 | h1 | h1
  · exact absurd e (gvL_ne h _ _ h1 (by omega))
  · omega
  · exact absurd e.symm (gvL_ne h _ _ h1 (by omega))
def okR (n : Int) (c : List Gt) (ns : List Int) : Bool := cokB n c && ((ns.length : Int) == n && gvL n 0 ns)
theorem okR_t {n : Int} {c : List Gt} {ns : List Int} (h : okR n c ns = true) : cokB n c = true ∧ (ns.length : Int) = n ∧ gvL n 0 ns = true := by
  unfold okR at h
  rw [Bool.and_eq_true, Bool.and_eq_true, beq_iff_eq] at h
  exact ⟨h.1, h.2.1, h.2.2⟩
/-- The first loop of the program: the names are looked at. -/
theorem k_renI0 (n : Int) (c : List Gt) (ns : List Int) (hc : c.length ≤ 1000) (hn : ns.length ≤ 1000) (h : okR n c ns = false) : Kon Try.prog 5 [vI n, roA c, roA ns] [] vN [] [] := by
  have hK := k_cv n c (by omega)
  cases hcv : cokB n c with
  | false =>
    rw [hcv] at hK
    (refine kon_mk T0ok (fn := Try.f5) (c := Try.f5.body.get rfl) Try.func5 rfl (by rfl) (by rfl) (by rfl) ?_; intro hfit hfe)
    (repeat (first | refine gq_KRA ?_ | (refine ga_KRA ?_; intro _hq)))
    ((try refine aw_ret ?_); refine ret_auto2 (by rfl) (by rfl) (by rfl) (by repeat (first | exact trivial | refine ⟨by first | rfl | omega, ?_⟩)) ?_ (by repeat (first | exact trivial | refine ⟨by rfl, by rfl, ?_⟩)) (by repeat (first | exact trivial | refine ⟨by rfl, by rfl, ?_⟩)); try rfl)
  | true =>
  rw [hcv] at hK
  have hb := cokB_t hcv
  by_cases hl : (ns.length : Int) = n
  · have hl2 : ((ns.length : Int) != n) = false := by simp [hl]
    have hg : gvL n 0 ns = false := by
      unfold okR at h
      rw [hcv, Bool.true_and, beq_iff_eq.2 hl, Bool.true_and] at h
      exact h
    clear h hcv
    (refine kon_mk T0ok (fn := Try.f5) (c := Try.f5.body.get rfl) Try.func5 rfl (by rfl) (by rfl) (by rfl) ?_; intro hfit hfe)
    (repeat (first | refine gq_KRA ?_ | (refine ga_KRA ?_; intro _hq)))
    (refine aw_rd [0, 1, 2, 27, 28] [] (fun g : Nat × Nat => [(7, vI g.2), (29, vI g.1)]) (fun _ => []) (fun g => g.1 ≤ ns.length ∧ g.2 < 256 ∧ gvL n g.2 (ns.drop g.1) = false) (fun g => ns.length - g.1) (0, 0) (by rfl) (by rfl) ?_ (by rfl) (by repeat (first | exact trivial | refine ⟨by rfl, ?_⟩ | refine ⟨vI_of (by rfl) (by omega), ?_⟩)) (by repeat (first | exact trivial | refine ⟨by rfl, ?_⟩ | refine ⟨vI_of (by rfl) (by omega), ?_⟩)) ?_)
    · exact ⟨Nat.zero_le _, by decide, by rw [List.drop_zero]; exact hg⟩
    rintro ⟨i, s⟩ ⟨hi, hs, hz⟩
    dsimp only at hi hs hz ⊢
    rcases Nat.lt_or_ge i ns.length with h5 | h5
    · have hd : decide ((i : Int) < (ns.length : Int)) = true := by simpa using h5
      obtain ⟨x, hx⟩ : ∃ x, ns.getD (i : Int).toNat (Cel.no : Int) = x := ⟨_, rfl⟩
      have hx' : ns.getD i 0 = x := hx
      rw [gvL_drop h5, hx'] at hz
      (repeat (first | refine gq_KRA ?_ | (refine ga_KRA ?_; intro _hq)))
      rw [hx]
      cases hb1 : btw x 0 (n - 1) with
      | false =>
        (repeat (first | refine gq_KRA ?_ | (refine ga_KRA ?_; intro _hq)))
        ((try refine aw_ret ?_); refine ret_auto2 (by rfl) (by rfl) (by rfl) (by repeat (first | exact trivial | refine ⟨by first | rfl | omega, ?_⟩)) ?_ (by repeat (first | exact trivial | refine ⟨by rfl, by rfl, ?_⟩)) (by repeat (first | exact trivial | refine ⟨by rfl, by rfl, ?_⟩)); try rfl)
      | true =>
        have hb' := btw_t hb1
        have hp := pow_7 (n := x) (by omega)
        have hn1 := seen_nat s x
        have hs2 := or_lt8 (s := s) (x := x) hs (by omega)
        rw [hb1, Bool.true_and] at hz
        cases hv : s.testBit x.toNat with
        | true =>
          rw [hv] at hn1
          (repeat (first | refine gq_KRA ?_ | (refine ga_KRA ?_; intro _hq)))
          ((try refine aw_ret ?_); refine ret_auto2 (by rfl) (by rfl) (by rfl) (by repeat (first | exact trivial | refine ⟨by first | rfl | omega, ?_⟩)) ?_ (by repeat (first | exact trivial | refine ⟨by rfl, by rfl, ?_⟩)) (by repeat (first | exact trivial | refine ⟨by rfl, by rfl, ?_⟩)); try rfl)
        | false =>
          rw [hv, Bool.not_false, Bool.true_and] at hz
          rw [hv] at hn1
          have hinv : i + 1 ≤ ns.length ∧ s ||| 2 ^ x.toNat < 256 ∧ gvL n (s ||| 2 ^ x.toNat) (ns.drop (i + 1)) = false := ⟨h5, hs2, hz⟩
          have e := or_cast s x
          (repeat (first | refine gq_KRA ?_ | (refine ga_KRA ?_; intro _hq)))
          rw [e]
          exact ⟨(i + 1, s ||| 2 ^ x.toNat), hinv, ⟨by rfl, (by repeat (first | exact trivial | refine ⟨by rfl, ?_⟩ | refine ⟨vI_of (by rfl) (by omega), ?_⟩)), (by repeat (first | exact trivial | refine ⟨by rfl, ?_⟩ | refine ⟨vI_of (by rfl) (by omega), ?_⟩))⟩, (by first | omega | (dsimp only; omega))⟩
    · rw [List.drop_of_length_le h5] at hz
      cases hz
  · have hl2 : ((ns.length : Int) != n) = true := by simp [hl]
    (refine kon_mk T0ok (fn := Try.f5) (c := Try.f5.body.get rfl) Try.func5 rfl (by rfl) (by rfl) (by rfl) ?_; intro hfit hfe)
    (repeat (first | refine gq_KRA ?_ | (refine ga_KRA ?_; intro _hq)))
    ((try refine aw_ret ?_); refine ret_auto2 (by rfl) (by rfl) (by rfl) (by repeat (first | exact trivial | refine ⟨by first | rfl | omega, ?_⟩)) ?_ (by repeat (first | exact trivial | refine ⟨by rfl, by rfl, ?_⟩)) (by repeat (first | exact trivial | refine ⟨by rfl, by rfl, ?_⟩)); try rfl)
theorem rn_nth {c : List Gt} {ns : List Int} {i : Nat} (hi : i < c.length) : (c.map (rnG ns)).take (i + 1) = (c.map (rnG ns)).take i ++ [rnG ns (c.getD i Cel.no)] := by
  rw [List.take_succ_eq_append_getElem (by rw [List.length_map]; exact hi), List.getElem_map]
  simp [List.getD_eq_getElem?_getD, hi]
theorem kinds_of {n : Int} {g : Gt} (h : gok n g = true) : (1 ≤ n ∧ n ≤ 8) ∧ ((∃ a, g = ⟨0, a, 0, 0⟩ ∧ (0 ≤ a ∧ a < n)) ∨ (∃ a b, g = ⟨1, a, b, 0⟩ ∧ (0 ≤ a ∧ a < n) ∧ (0 ≤ b ∧ b < n)) ∨ (∃ a b c, g = ⟨2, a, b, c⟩ ∧ (0 ≤ a ∧ a < n) ∧ (0 ≤ b ∧ b < n) ∧ (0 ≤ c ∧ c < n)) ∨ (∃ a b, g = ⟨3, a, b, 0⟩ ∧ (0 ≤ a ∧ a < n) ∧ (0 ≤ b ∧ b < n)) ∨ (∃ a b c, g = ⟨4, a, b, c⟩ ∧ (0 ≤ a ∧ a < n) ∧ (0 ≤ b ∧ b < n) ∧ (0 ≤ c ∧ c < n))) := by
  obtain ⟨hn, hf⟩ := gok_facts h
  obtain ⟨k, a, b, c⟩ := g
  dsimp only at hf
  refine ⟨hn, ?_⟩
  rcases hf with ⟨rfl, ha, rfl, rfl⟩ | ⟨hk, ha, hb, _, rfl⟩ | ⟨hk, ha, hb, _, hc, _, _⟩
  · exact .inl ⟨a, rfl, ha⟩
  · rcases hk with rfl | rfl
    · exact .inr (.inl ⟨a, b, rfl, ha, hb⟩)
    · exact .inr (.inr (.inr (.inl ⟨a, b, rfl, ha, hb⟩)))
  · rcases hk with rfl | rfl
    · exact .inr (.inr (.inl ⟨a, b, c, rfl, ha, hb, hc⟩))
    · exact .inr (.inr (.inr (.inr ⟨a, b, c, rfl, ha, hb, hc⟩)))
theorem nature_at (k a b c : Int) (h : 0 ≤ k ∧ k ≤ 4) : Kon Try.prog 19 [gV ⟨k, a, b, c⟩] [] (.tup [.agg (ntC k), .one (.v (.bool true))]) [] [] := k_nat1 ⟨k, a, b, c⟩ h
set_option maxHeartbeats 8000000 in
theorem k_renI1 (n : Int) (c : List Gt) (ns : List Int) (h : okR n c ns = true) : Kon Try.prog 5 [vI n, roA c, roA ns] [] (slA 0 0 (c.map (rnG ns))) [gRow (c.map (rnG ns))] [] := by
  obtain ⟨hcv, hl, hg⟩ := okR_t h
  clear h
  have hb := cokB_t hcv
  have hK := k_cv n c (by omega)
  rw [hcv] at hK
  have hl2 : ((ns.length : Int) != n) = false := by simp [hl]
  clear hcv
  (refine kon_mk T0ok (fn := Try.f5) (c := Try.f5.body.get rfl) Try.func5 rfl (by rfl) (by rfl) (by rfl) ?_; intro hfit hfe)
  (repeat (first | refine gq_KRA ?_ | (refine ga_KRA ?_; intro _hq)))
  (refine aw_rd [0, 1, 2, 27, 28] [] (fun g : Nat × Nat => [(7, vI g.2), (29, vI g.1)]) (fun _ => []) (fun g => g.1 ≤ ns.length ∧ g.2 < 256 ∧ gvL n g.2 (ns.drop g.1) = true) (fun g => ns.length - g.1) (0, 0) (by rfl) (by rfl) ?_ (by rfl) (by repeat (first | exact trivial | refine ⟨by rfl, ?_⟩ | refine ⟨vI_of (by rfl) (by omega), ?_⟩)) (by repeat (first | exact trivial | refine ⟨by rfl, ?_⟩ | refine ⟨vI_of (by rfl) (by omega), ?_⟩)) ?_)
  · exact ⟨Nat.zero_le _, by decide, by rw [List.drop_zero]; exact hg⟩
  rintro ⟨i, s⟩ ⟨hi, hs, hz⟩
  dsimp only at hi hs hz ⊢
  rcases Nat.lt_or_ge i ns.length with h5 | h5
  · have hd : decide ((i : Int) < (ns.length : Int)) = true := by simpa using h5
    obtain ⟨x, hx⟩ : ∃ x, ns.getD (i : Int).toNat (Cel.no : Int) = x := ⟨_, rfl⟩
    have hx' : ns.getD i 0 = x := hx
    rw [gvL_drop h5, hx', Bool.and_eq_true, Bool.and_eq_true, Bool.not_eq_true'] at hz
    obtain ⟨⟨hb1, hv⟩, hz⟩ := hz
    (repeat (first | refine gq_KRA ?_ | (refine ga_KRA ?_; intro _hq)))
    rw [hx]
    have hb' := btw_t hb1
    have hp := pow_7 (n := x) (by omega)
    have hn1 := seen_nat s x
    have hs2 := or_lt8 (s := s) (x := x) hs (by omega)
    rw [hv] at hn1
    have hinv : i + 1 ≤ ns.length ∧ s ||| 2 ^ x.toNat < 256 ∧ gvL n (s ||| 2 ^ x.toNat) (ns.drop (i + 1)) = true := ⟨h5, hs2, hz⟩
    have e := or_cast s x
    (repeat (first | refine gq_KRA ?_ | (refine ga_KRA ?_; intro _hq)))
    rw [e]
    exact ⟨(i + 1, s ||| 2 ^ x.toNat), hinv, ⟨by rfl, (by repeat (first | exact trivial | refine ⟨by rfl, ?_⟩ | refine ⟨vI_of (by rfl) (by omega), ?_⟩)), (by repeat (first | exact trivial | refine ⟨by rfl, ?_⟩ | refine ⟨vI_of (by rfl) (by omega), ?_⟩))⟩, (by first | omega | (dsimp only; omega))⟩
  · have hd : decide ((i : Int) < (ns.length : Int)) = false := by simp; omega
    clear hz hg
    (repeat (first | refine gq_KRA ?_ | (refine ga_KRA ?_; intro _hq)))
    (refine aw_rd [0, 1, 2, 53, 54] [] (fun g : Nat × Nat × List Gt => [(10, .g (.one (.sl 832 g.2.1 g.2.2.length))), (55, vI g.1)]) (fun g => [(832, (g.2.1, gRow g.2.2))]) (fun g => g.1 ≤ c.length ∧ g.2.2 = (c.map (rnG ns)).take g.1) (fun g => c.length - g.1) (0, 0, []) (by rfl) (by rfl) ?_ (by rfl) (by repeat (first | exact trivial | refine ⟨by rfl, ?_⟩ | refine ⟨vI_of (by rfl) (by omega), ?_⟩)) (by repeat (first | exact trivial | refine ⟨by rfl, ?_⟩ | refine ⟨vI_of (by rfl) (by omega), ?_⟩)) ?_)
    · exact ⟨Nat.zero_le _, by simp⟩
    rintro ⟨j, u, o⟩ ⟨hj, ho⟩
    dsimp only at hj ho ⊢
    rcases Nat.lt_or_ge j c.length with h6 | h6
    · have hd2 : decide ((j : Int) < (c.length : Int)) = true := by simpa using h6
      have hol : o.length ≤ 24 := by rw [ho, List.length_take, List.length_map]; omega
      have hnth := rn_nth (ns := ns) h6
      have hgk := all_at hb.2.2 h6
      obtain ⟨g, hgd⟩ : ∃ g, c.getD (j : Int).toNat Cel.no = g := ⟨_, rfl⟩
      have hgd' : c.getD j Cel.no = g := hgd
      rw [hgd'] at hnth hgk
      obtain ⟨_, hkk⟩ := kinds_of hgk
      (repeat (first | refine gq_KRA ?_ | (refine ga_KRA ?_; intro _hq)))
      rw [hgd]
      rcases hkk with ⟨a, rfl, ha⟩ | ⟨a, b, rfl, ha, hb2⟩ | ⟨a, b, d, rfl, ha, hb2, hd3⟩ | ⟨a, b, rfl, ha, hb2⟩ | ⟨a, b, d, rfl, ha, hb2, hd3⟩
      · have hN := nature_at 0 a 0 0 (by decide)
        have hinv : j + 1 ≤ c.length ∧ o ++ [⟨0, nmX ns a, 0, 0⟩] = (c.map (rnG ns)).take (j + 1) := ⟨h6, by rw [hnth, ← ho]; rfl⟩
        clear hnth ho hgk hgd hgd'
        (repeat (first | refine gq_KRA ?_ | (refine ga_KRA ?_; intro _hq)))
        refine aw_unroll 4 ?_
        (repeat (first | refine gq_KRA ?_ | (refine ga_KRA ?_; intro _hq)))
        exact ⟨(j + 1, u + 1, o ++ [⟨0, nmX ns a, 0, 0⟩]), hinv, ⟨by rfl, (by repeat (first | exact trivial | refine ⟨by rfl, ?_⟩ | refine ⟨vI_of (by rfl) (by omega), ?_⟩)), (by repeat (first | exact trivial | refine ⟨by rfl, ?_⟩ | refine ⟨vI_of (by rfl) (by omega), ?_⟩))⟩, (by first | omega | (dsimp only; omega))⟩
      · have hN := nature_at 1 a b 0 (by decide)
        have hinv : j + 1 ≤ c.length ∧ o ++ [⟨1, nmX ns a, nmX ns b, 0⟩] = (c.map (rnG ns)).take (j + 1) := ⟨h6, by rw [hnth, ← ho]; rfl⟩
        clear hnth ho hgk hgd hgd'
        (repeat (first | refine gq_KRA ?_ | (refine ga_KRA ?_; intro _hq)))
        refine aw_unroll 4 ?_
        (repeat (first | refine gq_KRA ?_ | (refine ga_KRA ?_; intro _hq)))
        exact ⟨(j + 1, u + 1, o ++ [⟨1, nmX ns a, nmX ns b, 0⟩]), hinv, ⟨by rfl, (by repeat (first | exact trivial | refine ⟨by rfl, ?_⟩ | refine ⟨vI_of (by rfl) (by omega), ?_⟩)), (by repeat (first | exact trivial | refine ⟨by rfl, ?_⟩ | refine ⟨vI_of (by rfl) (by omega), ?_⟩))⟩, (by first | omega | (dsimp only; omega))⟩
      · have hN := nature_at 2 a b d (by decide)
        have hinv : j + 1 ≤ c.length ∧ o ++ [⟨2, nmX ns a, nmX ns b, nmX ns d⟩] = (c.map (rnG ns)).take (j + 1) := ⟨h6, by rw [hnth, ← ho]; rfl⟩
        clear hnth ho hgk hgd hgd'
        (repeat (first | refine gq_KRA ?_ | (refine ga_KRA ?_; intro _hq)))
        refine aw_unroll 4 ?_
        (repeat (first | refine gq_KRA ?_ | (refine ga_KRA ?_; intro _hq)))
        exact ⟨(j + 1, u + 1, o ++ [⟨2, nmX ns a, nmX ns b, nmX ns d⟩]), hinv, ⟨by rfl, (by repeat (first | exact trivial | refine ⟨by rfl, ?_⟩ | refine ⟨vI_of (by rfl) (by omega), ?_⟩)), (by repeat (first | exact trivial | refine ⟨by rfl, ?_⟩ | refine ⟨vI_of (by rfl) (by omega), ?_⟩))⟩, (by first | omega | (dsimp only; omega))⟩
      · have hN := nature_at 3 a b 0 (by decide)
        have hinv : j + 1 ≤ c.length ∧ o ++ [⟨3, nmX ns a, nmX ns b, 0⟩] = (c.map (rnG ns)).take (j + 1) := ⟨h6, by rw [hnth, ← ho]; rfl⟩
        clear hnth ho hgk hgd hgd'
        (repeat (first | refine gq_KRA ?_ | (refine ga_KRA ?_; intro _hq)))
        refine aw_unroll 4 ?_
        (repeat (first | refine gq_KRA ?_ | (refine ga_KRA ?_; intro _hq)))
        exact ⟨(j + 1, u + 1, o ++ [⟨3, nmX ns a, nmX ns b, 0⟩]), hinv, ⟨by rfl, (by repeat (first | exact trivial | refine ⟨by rfl, ?_⟩ | refine ⟨vI_of (by rfl) (by omega), ?_⟩)), (by repeat (first | exact trivial | refine ⟨by rfl, ?_⟩ | refine ⟨vI_of (by rfl) (by omega), ?_⟩))⟩, (by first | omega | (dsimp only; omega))⟩
      · have hN := nature_at 4 a b d (by decide)
        have hinv : j + 1 ≤ c.length ∧ o ++ [⟨4, nmX ns a, nmX ns b, nmX ns d⟩] = (c.map (rnG ns)).take (j + 1) := ⟨h6, by rw [hnth, ← ho]; rfl⟩
        clear hnth ho hgk hgd hgd'
        (repeat (first | refine gq_KRA ?_ | (refine ga_KRA ?_; intro _hq)))
        refine aw_unroll 4 ?_
        (repeat (first | refine gq_KRA ?_ | (refine ga_KRA ?_; intro _hq)))
        exact ⟨(j + 1, u + 1, o ++ [⟨4, nmX ns a, nmX ns b, nmX ns d⟩]), hinv, ⟨by rfl, (by repeat (first | exact trivial | refine ⟨by rfl, ?_⟩ | refine ⟨vI_of (by rfl) (by omega), ?_⟩)), (by repeat (first | exact trivial | refine ⟨by rfl, ?_⟩ | refine ⟨vI_of (by rfl) (by omega), ?_⟩))⟩, (by first | omega | (dsimp only; omega))⟩
    · have hd2 : decide ((j : Int) < (c.length : Int)) = false := by simp; omega
      have e : o = c.map (rnG ns) := by rw [ho, List.take_of_length_le (by rw [List.length_map]; omega)]
      subst e
      clear ho
      (repeat (first | refine gq_KRA ?_ | (refine ga_KRA ?_; intro _hq)))
      ((try refine aw_ret ?_); refine ret_auto2 (by rfl) (by rfl) (by rfl) (by repeat (first | exact trivial | refine ⟨by first | rfl | omega, ?_⟩)) ?_ (by repeat (first | exact trivial | refine ⟨by rfl, by rfl, ?_⟩)) (by repeat (first | exact trivial | refine ⟨by rfl, by rfl, ?_⟩)); try rfl)
end Go.Proofs.Ythdniogjiokekaa
