/- KTG: laid into one text. -/
import Derived.Test.YtalociocjjinlaaQAI
import Derived.Test.YtalociocjjinlaaQAO
import Derived.Test.YtalociocjjinlaaQAP

namespace Go.Proofs.Ytalociocjjinlaa
set_option linter.unusedVariables false
set_option linter.unusedSimpArgs false
set_option maxRecDepth 20000
open Go.RowKit
attribute [local irreducible] runA runX AW
def wsTG2 : WsT := (7, ([], true)) :: (4, ([], true)) :: (13, ([0], true)) :: (15, ([0], true)) :: wsT
theorem gq_KTG {H G : Prop} (k : H) (h : Hid H → G := by (intro hh; repeat1' (first | (first | (refine nxA ?_; (first | fail | ((first | (refine z_op (by rfl) ?_; first | refine z_ok ?_ ?_ | refine z_ex ?_ (by first | exact zL1 | ((first | refine mk_c Gt rfl rfl rfl ?_); exact zWW) | exact zL2 | (first | exact rw_c Gt rfl | exact rw_c Int rfl) | exact zL3 | fail) ?_) | ((first | refine q_callE wsTG2 wsZ (by rfl) ?_ | refine q_callVE wsTG2 (by rfl) (by rfl) ?_); refine ⟨_, _, _, (by first | assumption | exact k_alive | exact k_open _ (by omega) | exact k_keeps _ _ | exact k_kpS _ _ (by omega)), _, by rfl, ?_, ?_⟩)); focus (first | exact trivial | fail | exact zQZ)) | fail)) | refine swA ?_) | refine awA ?_); exact hh.out)) : G := h ⟨k⟩
theorem k_kpS (n : Int) (g : Gt) (hr : -9223372036854775808 ≤ n ∧ n ≤ 9223372036854775807) : Kon Try.prog 16 [vI n, gV g] [] (vB (kgt n g)) [] [] := by
  have hG := k_gvS n g hr
  unfold kgt
  cases h1 : gok n g with
  | false =>
    rw [h1] at hG
    (refine kM Try.func16 rfl ?_; intro hfit hfe)
    (repeat (first | refine gq_KTG ?_ | (refine ga0A ?_; intro _hq)))
    (refine rtA ?_; try rfl)
  | true =>
    rw [h1] at hG
    cases h2 : (g.k == 3) with
    | true =>
      (refine kM Try.func16 rfl ?_; intro hfit hfe)
      (repeat (first | refine gq_KTG ?_ | (refine ga0A ?_; intro _hq)))
      (refine rtA ?_; try rfl)
    | false =>
      (refine kM Try.func16 rfl ?_; intro hfit hfe)
      (repeat (first | refine gq_KTG ?_ | (refine ga0A ?_; intro _hq)))
      (refine rtA ?_; try rfl)
theorem kgf_snoc {n : Int} {l : List Gt} {k : Nat} (h : k < l.length) : (l.take (k + 1)).filter (kgt n) = if kgt n (l.getD k Cel.no) = true then (l.take k).filter (kgt n) ++ [l.getD k Cel.no] else (l.take k).filter (kgt n) := by
  have e : l.take (k + 1) = l.take k ++ [l.getD k Cel.no] := by
    rw [List.take_succ_eq_append_getElem h]
    simp [List.getD_eq_getElem?_getD, h]
  rw [e, List.filter_append]
  split
  · rename_i hk; rw [List.filter_cons_of_pos hk]; rfl
  · rename_i hk; rw [List.filter_cons_of_neg hk]; simp
theorem kgf_len (n : Int) (l : List Gt) (k : Nat) : ((l.take k).filter (kgt n)).length ≤ l.length := by
  have h1 : ((l.take k).filter (kgt n)).length ≤ (l.take k).length := List.length_filter_le _ _
  rw [List.length_take] at h1; omega
set_option maxHeartbeats 4000000 in
theorem ex_dTK (l : List UInt8) (hl : l.length ≤ 100000000) : ∃ (L : Int) (t : List Int), (0 ≤ L ∧ L ≤ 9) ∧ t.length ≤ 256 ∧ Kon Try.prog 4 [roA l] [] (.tup [.one (.v (.int .i64 L)), .one (.sl 0 0 t.length)]) [iRow t] [] := by
  have h2 : (l.take 2000).length ≤ 2000 := by simp; omega
  obtain ⟨L, t, c1, hL, ht, hc1, hT⟩ := ex_table (l.take 2000) 0 4 9 (by omega) (by omega) (by omega)
  obtain ⟨p, _, hp, hP⟩ := ex_pick (l.take 2000) c1 2 (by omega)
  have hp' := hp (by decide)
  by_cases hp0 : p = 0
  · subst hp0
    obtain ⟨cs, c2, hcl, _, hc2, hv, hC⟩ := ex_circ2 (l.take 2000) (c1 + 1) L 9 0 (by omega) (by omega) (by omega)
    have h9 := (hv (Int.le_refl _)).1
    have hkl := kgf_len L cs cs.length
    obtain ⟨T, hTl, hCT⟩ : ∃ T : List Int, T.length ≤ 256 ∧ Kon Try.prog 17 [vI L, roA ((cs.take cs.length).filter (kgt L))] [] (slA 0 0 T) [iRow T] [] := by
      cases hok : cokB L ((cs.take cs.length).filter (kgt L)) with
      | true =>
        have h8 := (cokB_t hok).1
        obtain ⟨N, hN, hN8⟩ : ∃ N : Nat, (1 * 2 ^ L.toNat : Int) = (N : Int) ∧ N ≤ 256 := ⟨2 ^ L.toNat, by simp, by
          have := (pow_8 h8).2
          have e : ((2 ^ L.toNat : Nat) : Int) = 2 ^ L.toNat := by simp
          omega⟩
        exact ⟨tabN _ N, by rw [tabN_len]; exact hN8, k_ctS L _ hok N hN⟩
      | false => exact ⟨[], by simp, k_ctS0 L _ (by omega) (by omega) hok⟩
    refine ⟨L, T, hL, hTl, ?_⟩
    clear hv hp
    (refine kM Try.func4 rfl ?_; intro hfit hfe)
    (repeat (first | refine gq_KTG ?_ | (refine ga0A ?_; intro _hq)))
    (refine aw_freeze 352 (by rfl) (by rfl) ?_; refine aw_slot 7 4 (by rfl) (by rfl) (by first | exact trivial | omega | exact cvB (fun w => rfl) | ((repeat (any_goals (first | exact rfl | exact cV_len _ | exact cV_ln rfl (by omega) | exact Cel.pos | omega | exact trivial | refine And.intro ?_ ?_))); first | done | fail) | (simp [*]; first | done | fail)) ?_)
    (refine aw_rd [5, 7] [] (fun g : Nat × Nat × List Gt => [(8, .g (.one (.sl 368 g.2.1 g.2.2.length))), (9, vI g.1)]) (fun g => [(368, (g.2.1, gRow g.2.2))]) (fun g => g.1 ≤ cs.length ∧ g.2.2 = (cs.take g.1).filter (kgt L)) (fun g => cs.length - g.1) (0, 0, []) (by rfl) (by rfl) ?_ (by rfl) zHE zHE ?_)
    · exact ⟨Nat.zero_le _, by rw [List.take_zero]; rfl⟩
    rintro ⟨k, u, o⟩ ⟨h1, h2⟩
    dsimp only at h1 h2 ⊢
    rcases Nat.lt_or_ge k cs.length with h5 | h5
    · have hd : decide ((k : Int) < (cs.length : Int)) = true := decide_eq_true (by omega)
      have hol := kgf_len L cs k
      rw [← h2] at hol
      have hsn := kgf_snoc (n := L) h5
      rw [← h2] at hsn
      cases hb : kgt L (cs.getD k Cel.no) with
      | false =>
        rw [hb, if_neg (by decide)] at hsn
        have hb2 : kgt L (cs.getD (k : Int).toNat Cel.no) = false := hb
        have hinv : k + 1 ≤ cs.length ∧ o = (cs.take (k + 1)).filter (kgt L) := ⟨h5, hsn.symm⟩
        clear h2 hsn hb
        (repeat (first | refine gq_KTG ?_ | (refine ga0A ?_; intro _hq)))
        exact ⟨(k + 1, u, o), hinv, ⟨by rfl, zHE, zHE⟩, (by first | omega | (dsimp only; omega))⟩
      | true =>
        rw [hb, if_pos rfl] at hsn
        have hb2 : kgt L (cs.getD (k : Int).toNat Cel.no) = true := hb
        have hinv : k + 1 ≤ cs.length ∧ o ++ [cs.getD (k : Int).toNat Cel.no] = (cs.take (k + 1)).filter (kgt L) := ⟨h5, hsn.symm⟩
        clear h2 hsn hb
        (repeat (first | refine gq_KTG ?_ | (refine ga0A ?_; intro _hq)))
        exact ⟨(k + 1, u + 1, o ++ [cs.getD (k : Int).toNat Cel.no]), hinv, ⟨by rfl, zHE, zHE⟩, (by first | omega | (dsimp only; omega))⟩
    · have hd : decide ((k : Int) < (cs.length : Int)) = false := decide_eq_false (by omega)
      obtain rfl : k = cs.length := by omega
      rw [← h2] at hCT hkl
      clear h2
      (repeat (first | refine gq_KTG ?_ | (refine ga0A ?_; intro _hq)))
      (refine rtA ?_; try rfl)
  · have hb : (p == 0) = false := by simp; omega
    refine ⟨L, t, hL, by omega, ?_⟩
    (refine kM Try.func4 rfl ?_; intro hfit hfe)
    (repeat (first | refine gq_KTG ?_ | (refine ga0A ?_; intro _hq)))
    (refine rtA ?_; try rfl)
set_option maxHeartbeats 4000000 in
theorem k_lawTK (l m : List UInt8) : Kon Try.prog 3 [roA l, roA m] [] (vB true) [] [] := by
  rcases Nat.lt_or_ge 1048576 l.length with h0 | h0
  · have hd : decide ((l.length : Int) > 1048576) = true := decide_eq_true (by omega)
    (refine kM Try.func3 rfl ?_; intro hfit hfe)
    (repeat (first | refine gq_KTG ?_ | (refine ga0A ?_; intro _hq)))
    (refine rtA ?_; try rfl)
  have hd : decide ((l.length : Int) > 1048576) = false := decide_eq_false (by omega)
  rcases Nat.lt_or_ge 1048576 m.length with h1 | h1
  · have hd1 : decide ((m.length : Int) > 1048576) = true := decide_eq_true (by omega)
    (refine kM Try.func3 rfl ?_; intro hfit hfe)
    (repeat (first | refine gq_KTG ?_ | (refine ga0A ?_; intro _hq)))
    (refine rtA ?_; try rfl)
  have hd1 : decide ((m.length : Int) > 1048576) = false := decide_eq_false (by omega)
  obtain ⟨L, t, hL, htl, hD⟩ := ex_dTK l (by omega)
  have hI := k_tkI L t (by omega)
  have hS := k_tkS L t (by omega) (by omega)
  have hne : (tkB L t != tkB L t) = false := by simp
  obtain ⟨n, cs, hn, hcl, _, hD2⟩ := ex_dTab m (by omega)
  have hC := k_cvS n cs (by omega) (by omega)
  (refine kM Try.func3 rfl ?_; intro hfit hfe)
  (repeat (first | refine gq_KTG ?_ | (refine ga0A ?_; intro _hq)))
  (refine aw_freeze 352 (by rfl) (by rfl) ?_; refine aw_slot 6 1 (by rfl) (by rfl) (by first | exact trivial | omega | exact cvB (fun w => rfl) | ((repeat (any_goals (first | exact rfl | exact cV_len _ | exact cV_ln rfl (by omega) | exact Cel.pos | omega | exact trivial | refine And.intro ?_ ?_))); first | done | fail) | (simp [*]; first | done | fail)) ?_)
  (refine aw_freeze 560 (by rfl) (by rfl) ?_; refine aw_slot 9 4 (by rfl) (by rfl) (by first | exact trivial | omega | exact cvB (fun w => rfl) | ((repeat (any_goals (first | exact rfl | exact cV_len _ | exact cV_ln rfl (by omega) | exact Cel.pos | omega | exact trivial | refine And.intro ?_ ?_))); first | done | fail) | (simp [*]; first | done | fail)) ?_)
  (refine aw_rd [6, 7, 8, 9] [] (fun g : Nat × Bool => [(10, vB g.2), (11, vI g.1)]) (fun _ => []) (fun g => g.1 ≤ cs.length ∧ g.2 = (cokB n cs && (cs.take g.1).all (kgt n))) (fun g => cs.length - g.1) (0, cokB n cs) (by rfl) (by rfl) ?_ (by rfl) zHE zHE ?_)
  · exact ⟨Nat.zero_le _, by rw [List.take_zero, List.all_nil, Bool.and_true]⟩
  rintro ⟨k, b⟩ ⟨hk, hb⟩
  dsimp only at hk hb ⊢
  by_cases h5 : k < cs.length ∧ b = true
  · obtain ⟨h5, rfl⟩ := h5
    have hdk : decide ((k : Int) < (cs.length : Int)) = true := decide_eq_true (by omega)
    have hinv : k + 1 ≤ cs.length ∧ (gok n (cs.getD (k : Int).toNat Cel.no) && ((cs.getD (k : Int).toNat Cel.no).k == 3 || (cs.getD (k : Int).toNat Cel.no).k == 4)) = (cokB n cs && (cs.take (k + 1)).all (kgt n)) := by
      refine ⟨h5, ?_⟩
      have e : cs.take (k + 1) = cs.take k ++ [cs.getD k Cel.no] := by
        rw [List.take_succ_eq_append_getElem h5]
        simp [List.getD_eq_getElem?_getD, h5]
      rw [e, List.all_append, ← Bool.and_assoc, ← hb, Bool.true_and, List.all_cons, List.all_nil, Bool.and_true]
      rfl
    clear hb hI hS hC hD hD2
    (repeat (first | refine gq_KTG ?_ | (refine ga0A ?_; intro _hq)))
    exact ⟨(k + 1, gok n (cs.getD (k : Int).toNat Cel.no) && ((cs.getD (k : Int).toNat Cel.no).k == 3 || (cs.getD (k : Int).toNat Cel.no).k == 4)), hinv, ⟨by rfl, zHE, zHE⟩, (by first | omega | (dsimp only; omega))⟩
  · rcases Nat.lt_or_ge k cs.length with h6 | h6
    · obtain rfl : b = false := by
        cases b with
        | false => rfl
        | true => exact absurd ⟨h6, rfl⟩ h5
      have hdk : decide ((k : Int) < (cs.length : Int)) = true := decide_eq_true (by omega)
      clear hb hI hS hC hD hD2 hne
      cases ho : tkB L t with
      | false =>
        (repeat (first | refine gq_KTG ?_ | (refine ga0A ?_; intro _hq)))
        (refine rtA ?_; try rfl)
      | true =>
        obtain ⟨e1, e2, e3⟩ := tk_ends ho
        have he1 : (t.getD (0 : Int).toNat Cel.no == 0) = true := by rw [beq_iff_eq]; exact e2
        have he2 : (t.getD ((t.length : Int) - 1).toNat Cel.no == (t.length : Int) - 1) = true := by
          rw [show ((t.length : Int) - 1).toNat = t.length - 1 by omega, beq_iff_eq]; exact e3
        clear ho e2 e3
        (repeat (first | refine gq_KTG ?_ | (refine ga0A ?_; intro _hq)))
        (refine rtA ?_; try rfl)
    · have hdk : decide ((k : Int) < (cs.length : Int)) = false := decide_eq_false (by omega)
      cases b with
      | false =>
        clear hb hI hS hC hD hD2 hne
        cases ho : tkB L t with
        | false =>
          (repeat (first | refine gq_KTG ?_ | (refine ga0A ?_; intro _hq)))
          (refine rtA ?_; try rfl)
        | true =>
          obtain ⟨e1, e2, e3⟩ := tk_ends ho
          have he1 : (t.getD (0 : Int).toNat Cel.no == 0) = true := by rw [beq_iff_eq]; exact e2
          have he2 : (t.getD ((t.length : Int) - 1).toNat Cel.no == (t.length : Int) - 1) = true := by
            rw [show ((t.length : Int) - 1).toNat = t.length - 1 by omega, beq_iff_eq]; exact e3
          clear ho e2 e3
          (repeat (first | refine gq_KTG ?_ | (refine ga0A ?_; intro _hq)))
          (refine rtA ?_; try rfl)
      | true =>
        obtain rfl : k = cs.length := by omega
        rw [List.take_length] at hb
        obtain ⟨hc, ha⟩ := Bool.and_eq_true _ _ |>.mp hb.symm
        have h8 := (cokB_t hc).1
        obtain ⟨N, hN, hN8⟩ : ∃ N : Nat, (1 * 2 ^ n.toNat : Int) = (N : Int) ∧ N ≤ 256 := ⟨2 ^ n.toNat, by simp, by
          have := (pow_8 h8).2
          have e : ((2 ^ n.toNat : Nat) : Int) = 2 ^ n.toNat := by simp
          omega⟩
        have hN2 : (2 : Int) ^ n.toNat = (N : Int) := by rw [← hN, Int.one_mul]
        have hCT := k_ct n cs hc N hN
        have hTl := tabN_len cs N
        have hTK := k_tkI n (tabN cs N) (by omega)
        rw [tk_circ hc ha hN2] at hTK
        generalize tabN cs N = T at *
        clear hb hI hS hC hD hD2 hne
        cases ho : tkB L t with
        | false =>
          (repeat (first | refine gq_KTG ?_ | (refine ga0A ?_; intro _hq)))
          (refine rtA ?_; try rfl)
        | true =>
          obtain ⟨e1, e2, e3⟩ := tk_ends ho
          have he1 : (t.getD (0 : Int).toNat Cel.no == 0) = true := by rw [beq_iff_eq]; exact e2
          have he2 : (t.getD ((t.length : Int) - 1).toNat Cel.no == (t.length : Int) - 1) = true := by
            rw [show ((t.length : Int) - 1).toNat = t.length - 1 by omega, beq_iff_eq]; exact e3
          clear ho e2 e3
          (repeat (first | refine gq_KTG ?_ | (refine ga0A ?_; intro _hq)))
          (refine rtA ?_; try rfl)
end Go.Proofs.Ytalociocjjinlaa
