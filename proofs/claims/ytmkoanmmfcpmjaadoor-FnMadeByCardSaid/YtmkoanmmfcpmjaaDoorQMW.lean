/- KTE: laid into one text. -/
import Derived.Test.YtmkoanmmfcpmjaaDoorQMQ
import Derived.Test.YtmkoanmmfcpmjaaDoorQMV

namespace Go.Proofs.YtmkoanmmfcpmjaaDoor
set_option linter.unusedVariables false
set_option linter.unusedSimpArgs false
set_option maxRecDepth 20000
open Go.RowKit
attribute [local irreducible] runA runX AW
theorem gq_KTE {H G : Prop} (k : H) (h : Hid H → G := by (intro hh; repeat1' (first | (first | (refine nxA ?_; (first | fail | ((first | (refine z_op (by rfl) ?_; first | refine z_ok ?_ ?_ | refine z_ex ?_ (by first | exact zL1 | ((first | fail); exact zWW) | exact zL2 | exact rw_c Int rfl | exact zL3 | exact ct_t (l := ordN l (c + 1) k) rfl rfl rfl (by omega) (by rw [hl]; simp; omega)) ?_) | ((first | refine q_callE wsT wsZ (by rfl) ?_ | refine q_callVE wsT (by rfl) (by rfl) ?_); refine ⟨_, _, _, (by first | assumption | exact k_pick _ _ _ (by omega) | exact k_odd _ _ _ (by omega) | exact k_open _ (by omega)), _, by rfl, ?_, ?_⟩)); focus (first | exact trivial | fail | exact zQZ)) | fail)) | refine swA ?_) | refine awA ?_); exact hh.out)) : G := h ⟨k⟩
theorem gs_KTE {H G : Prop} (k : H) (h : Hid H → G := by (intro hh; repeat1' (first | (refine nxA ?_; (first | fail | ((first | (refine z_op (by rfl) ?_; first | refine z_ok ?_ ?_ | refine z_ex ?_ (by first | exact zL1 | ((first | fail); exact zWW) | exact zL2 | exact rw_c Int rfl | exact zL3 | exact ct_t (l := ordN l (c + 1) k) rfl rfl rfl (by omega) (by rw [hl]; simp; omega)) ?_) | ((first | refine q_callE wsT wsZ (by rfl) ?_ | refine q_callVE wsT (by rfl) (by rfl) ?_); refine ⟨_, _, _, (by first | assumption | exact k_pick _ _ _ (by omega) | exact k_odd _ _ _ (by omega) | exact k_open _ (by omega)), _, by rfl, ?_, ?_⟩)); focus (first | exact trivial | fail | exact zQZ)) | fail)) | refine swA ?_); exact hh.out)) : G := h ⟨k⟩
def tbR (l : List UInt8) (L : Int) (T : List Int) (q c : Int) : Int × List Int × Int :=
  bif pickI l c q == q - 1 then (bif pickI l (c + 1) 3 == 0 then (L, T ++ [0], c + 1 + 1) else bif pickI l (c + 1) 3 == 1 then (L, T.set (0 : Int).toNat (T.getD ((T.length : Int) - 1).toNat Cel.no), c + 1 + 1) else (([0, 9] : List Int).getD (pickI l (c + 1 + 1) 2).toNat Cel.no, T, c + 1 + 1 + 1)) else (L, T, c + 1)
theorem tbR_bd (l : List UInt8) (L : Int) (T : List Int) (q c : Int) (hL : 1 ≤ L ∧ L ≤ 8) (hT : T.length ≤ 32) : (0 ≤ (tbR l L T q c).1 ∧ (tbR l L T q c).1 ≤ 9) ∧ (tbR l L T q c).2.1.length ≤ 33 ∧ c ≤ (tbR l L T q c).2.2 ∧ (tbR l L T q c).2.2 ≤ c + 3 := by
  have p2 := pickI_lt (l := l) (c := c + 1 + 1) (n := 2) (by omega)
  have h3 : 0 ≤ ([0, 9] : List Int).getD (pickI l (c + 1 + 1) 2).toNat Cel.no ∧ ([0, 9] : List Int).getD (pickI l (c + 1 + 1) 2).toNat Cel.no ≤ 9 := by
    obtain h | h : (pickI l (c + 1 + 1) 2).toNat = 0 ∨ (pickI l (c + 1 + 1) 2).toNat = 1 := by omega
    all_goals (rw [h]; decide)
  unfold tbR
  cases (pickI l c q == q - 1) <;> cases (pickI l (c + 1) 3 == 0) <;> cases (pickI l (c + 1) 3 == 1) <;> dsimp only [cond_true, cond_false] <;> refine ⟨by omega, ?_, by omega, by omega⟩ <;> (first | omega | (simp only [List.length_append, List.length_set, List.length_cons, List.length_nil]; omega))
set_option maxHeartbeats 8000000 in
theorem ex_table (l : List UInt8) (c most q : Int) (h : 0 ≤ c ∧ c ≤ 80000 ∧ l.length ≤ 2000) (hm : 1 ≤ most ∧ most ≤ 5) (hq : 1 ≤ q ∧ q ≤ 1000) : ∃ (L : Int) (t : List Int) (c' : Int), (0 ≤ L ∧ L ≤ 9) ∧ t.length ≤ 33 ∧ (c ≤ c' ∧ c' ≤ c + 1000) ∧ Kon Tryd.prog 32 [p0, vI most, vI q] [rdE l c] (.tup [.one (.v (.int .i64 L)), .one (.sl 0 0 t.length)]) [iRow t] [rdE l c'] := by
  have pm := pickI_lt (l := l) (c := c) (n := most) (by omega)
  obtain ⟨L, hL⟩ : ∃ L, 1 + pickI l c most = L := ⟨_, rfl⟩
  have hLb : 1 ≤ L ∧ L ≤ 5 := by omega
  obtain ⟨N, hN, hN2, hN32⟩ : ∃ N : Nat, (1 * 2 ^ L.toNat : Int) = (N : Int) ∧ 2 ≤ N ∧ N ≤ 32 := by
    obtain rfl | rfl | rfl | rfl | rfl : L = 1 ∨ L = 2 ∨ L = 3 ∨ L = 4 ∨ L = 5 := by omega
    · exact ⟨2, rfl, by omega, by omega⟩
    · exact ⟨4, rfl, by omega, by omega⟩
    · exact ⟨8, rfl, by omega, by omega⟩
    · exact ⟨16, rfl, by omega, by omega⟩
    · exact ⟨32, rfl, by omega, by omega⟩
  obtain ⟨cs, c1, _, _, hc1, hv, hCi⟩ := ex_circ2 l (c + 1 + (N : Int) + 1) L 6 0 (by omega) (by omega) (by omega)
  obtain ⟨hcl, hca⟩ := hv (Int.le_refl _)
  have hcok : cokB L cs = true := cokB_mkM (by omega) (by omega) (hca (by omega))
  have hCT := k_ctS L cs hcok N hN
  have hTl := tabN_len cs N
  have hlM := ordN_len l (c + 1) N
  have p3 := pickI_lt (l := l) (c := c + 1 + (N : Int)) (n := 3) (by omega)
  obtain ⟨L', t, c', hr, hb1, hb2, hb3⟩ : ∃ L' t c', (bif pickI l (c + 1 + (N : Int)) 3 == 0 then tbR l L (tabN cs N) q c1 else tbR l L (ordN l (c + 1) N) q (c + 1 + (N : Int) + 1)) = (L', t, c') ∧ (0 ≤ L' ∧ L' ≤ 9) ∧ t.length ≤ 33 ∧ (c ≤ c' ∧ c' ≤ c + 1000) := by
    have b1 := tbR_bd l L (tabN cs N) q c1 (by omega) (by omega)
    have b2 := tbR_bd l L (ordN l (c + 1) N) q (c + 1 + (N : Int) + 1) (by omega) (by omega)
    cases (pickI l (c + 1 + (N : Int)) 3 == 0)
    · rcases hx : tbR l L (ordN l (c + 1) N) q (c + 1 + (N : Int) + 1) with ⟨x, y, z⟩
      rw [hx] at b2
      dsimp only at b2
      exact ⟨x, y, z, rfl, b2.1, b2.2.1, by omega⟩
    · rcases hx : tbR l L (tabN cs N) q c1 with ⟨x, y, z⟩
      rw [hx] at b1
      dsimp only at b1
      exact ⟨x, y, z, rfl, b1.1, b1.2.1, by omega⟩
  refine ⟨L', t, c', hb1, hb2, hb3, ?_⟩
  clear hca hcok
  (refine kM Tryd.func32 rfl ?_; intro hfit hfe)
  (repeat (first | refine gq_KTE ?_ | (refine ga0A ?_; intro _hq)))
  rw [hL]
  refine aw_rd [0, 1, 2, 8] [] (fun k : Nat => [(9, .g (.one (.sl 272 (2 * k) k))), (10, vI k)]) (fun k => [(272, (2 * k, iRow (ordN l (c + 1) k))), (100000, (0, rdE l (c + 1 + k)))]) (fun k => k ≤ N) (fun k => N - k) 0 (by rfl) (by rfl) ?_ (by rfl) zHE ⟨by rfl, Eq.trans (b := some (0, rdE l (c + 1))) (by rfl) (by rw [show c + 1 + ((0 : Nat) : Int) = c + 1 by omega]), zHE⟩ ?_
  · exact Nat.zero_le _
  rintro k hk
  rcases Nat.lt_or_ge k N with h5 | h5
  · have hd : decide ((k : Int) < 1 * 2 ^ L.toNat) = true := decide_eq_true (by omega)
    have hp := pickI_lt (l := l) (c := c + 1 + (k : Int)) (n := (k : Int) + 1) (by omega)
    have hl := ordN_len l (c + 1) k
    have hcl : (cV (ordN l (c + 1) k)).length = k := by rw [cV_len, hl]; exact Nat.mul_one k
    have hz1 : k * Cel.sz Int = k := Nat.mul_one k
    clear hr
    repeat (first | refine aw_seq ?_ | refine aw_ct (by rfl) zDD ?_ | refine aw_cf (by rfl) zDD ?_ | refine aw_block ?_ | refine aw_region T0ok cfU_ok (by rfl) ?_ | refine aw_skip ?_ | refine aw_exit ?_ | refine ra_step ?_)
    (repeat (first | refine gs_KTE ?_ | (refine ga0A ?_; intro _hq)))
    repeat (first | refine aw_seq ?_ | refine aw_ct (by rfl) zDD ?_ | refine aw_cf (by rfl) zDD ?_ | refine aw_block ?_ | refine aw_region T0ok cfU_ok (by rfl) ?_ | refine aw_skip ?_ | refine aw_exit ?_ | refine ra_step ?_)
    (repeat (first | refine gs_KTE ?_ | (refine ga0A ?_; intro _hq)))
    refine aw_seq ?_
    refine wx_region ?_
    refine wx_run 3 T0ok cfU_ok (by rfl) ?_
    (repeat (first | refine gs_KTE ?_ | (refine ga0A ?_; intro _hq)))
    refine wx_pieceC (α := Int) (l := ordN l (c + 1) k) (l2 := []) T0ok (by rfl) (by rfl) (by rfl) (by rfl) (by rfl) (by rfl) (by rfl) (by rfl) (by rfl) (by rfl) (by rfl) ⟨hl.symm, rfl, by omega, by omega, by omega, by simp⟩ ?_
    refine wx_end T0ok cfU_ok (i := 5) (by rfl) ?_
    (repeat (first | refine gq_KTE ?_ | (refine ga0A ?_; intro _hq)))
    have hc1 : c + 1 + (k : Int) + 1 = c + 1 + ((k + 1 : Nat) : Int) := by omega
    exact ⟨k + 1, h5, ⟨by rfl, ⟨Eq.trans (b := some (.g (.one (.sl 272 (2 * (k + 1)) (ordN l (c + 1) (k + 1)).length)))) (by rfl) (by rw [ordN_len]), zHE⟩, ⟨by rfl, Eq.trans (b := some (0, rdE l (c + 1 + (k : Int) + 1))) (by rfl) (by rw [hc1]), zHE⟩⟩, (by first | omega | (dsimp only; omega))⟩
  · have hd : decide ((k : Int) < 1 * 2 ^ L.toNat) = false := decide_eq_false (by omega)
    obtain rfl : k = N := by omega
    cases p0c : (pickI l (c + 1 + (k : Int)) 3 == 0) with
    | true =>
      rw [p0c] at hr
      dsimp only [cond_true, cond_false] at hr
      have ho := k_odd l c1 q (by omega)
      have q3 := pickI_lt (l := l) (c := c1 + 1) (n := 3) (by omega)
      have q2 := pickI_lt (l := l) (c := c1 + 1 + 1) (n := 2) (by omega)
      unfold tbR at hr
      generalize (tabN cs k) = T at *
      skip
      cases o1 : (pickI l c1 q == q - 1) with
      | false =>
        rw [o1] at hr ho
        obtain ⟨rfl, rfl, rfl⟩ : L = L' ∧ T = t ∧ c1 + 1 = c' := by simpa using hr
        clear hr
        (repeat (first | refine gq_KTE ?_ | (refine ga0A ?_; intro _hq)))
        (refine rtA ?_; try rfl)
        all_goals (first | rfl | exact congrArg (fun m => AV.tup [AG.one (AC.v (Value.int .i64 _)), AG.one (AC.sl 0 0 m)]) (by first | rfl | omega | (simp only [List.length_set, List.length_append, List.length_cons, List.length_nil] <;> omega)))
      | true =>
        rw [o1] at hr ho
        cases o2 : (pickI l (c1 + 1) 3 == 0) with
        | true =>
          rw [o2] at hr
          obtain ⟨rfl, rfl, rfl⟩ : L = L' ∧ T ++ [0] = t ∧ c1 + 1 + 1 = c' := by simpa using hr
          clear hr
          (repeat (first | refine gq_KTE ?_ | (refine ga0A ?_; intro _hq)))
          (refine rtA ?_; try rfl)
          all_goals (first | rfl | exact congrArg (fun m => AV.tup [AG.one (AC.v (Value.int .i64 _)), AG.one (AC.sl 0 0 m)]) (by first | rfl | omega | (simp only [List.length_set, List.length_append, List.length_cons, List.length_nil] <;> omega)))
        | false =>
          cases o3 : (pickI l (c1 + 1) 3 == 1) with
          | true =>
            rw [o2, o3] at hr
            obtain ⟨rfl, rfl, rfl⟩ : L = L' ∧ T.set (0 : Int).toNat (T.getD ((T.length : Int) - 1).toNat Cel.no) = t ∧ c1 + 1 + 1 = c' := by
              have h1 := congrArg (fun x => x.1) hr
              have h2 := congrArg (fun x => x.2.1) hr
              have h3 := congrArg (fun x => x.2.2) hr
              exact ⟨h1, h2, h3⟩
            clear hr
            (repeat (first | refine gq_KTE ?_ | (refine ga0A ?_; intro _hq)))
            (refine rtA ?_; try rfl)
            all_goals (first | rfl | exact congrArg (fun m => AV.tup [AG.one (AC.v (Value.int .i64 _)), AG.one (AC.sl 0 0 m)]) (by first | rfl | omega | (simp only [List.length_set, List.length_append, List.length_cons, List.length_nil] <;> omega)))
          | false =>
            rw [o2, o3] at hr
            obtain ⟨rfl, rfl, rfl⟩ : ([0, 9] : List Int).getD (pickI l (c1 + 1 + 1) 2).toNat Cel.no = L' ∧ T = t ∧ c1 + 1 + 1 + 1 = c' := by
              have h1 := congrArg (fun x => x.1) hr
              have h2 := congrArg (fun x => x.2.1) hr
              have h3 := congrArg (fun x => x.2.2) hr
              exact ⟨h1, h2, h3⟩
            clear hr
            (repeat (first | refine gq_KTE ?_ | (refine ga0A ?_; intro _hq)))
            (refine rtA ?_; try rfl)
            all_goals (first | rfl | exact congrArg (fun m => AV.tup [AG.one (AC.v (Value.int .i64 _)), AG.one (AC.sl 0 0 m)]) (by first | rfl | omega | (simp only [List.length_set, List.length_append, List.length_cons, List.length_nil] <;> omega)))
    | false =>
      rw [p0c] at hr
      dsimp only [cond_true, cond_false] at hr
      have ho := k_odd l (c + 1 + (k : Int) + 1) q (by omega)
      have q3 := pickI_lt (l := l) (c := (c + 1 + (k : Int) + 1) + 1) (n := 3) (by omega)
      have q2 := pickI_lt (l := l) (c := (c + 1 + (k : Int) + 1) + 1 + 1) (n := 2) (by omega)
      unfold tbR at hr
      generalize (ordN l (c + 1) k) = T at *
      rw [hlM] at hr
      cases o1 : (pickI l (c + 1 + (k : Int) + 1) q == q - 1) with
      | false =>
        rw [o1] at hr ho
        obtain ⟨rfl, rfl, rfl⟩ : L = L' ∧ T = t ∧ (c + 1 + (k : Int) + 1) + 1 = c' := by simpa using hr
        clear hr
        (repeat (first | refine gq_KTE ?_ | (refine ga0A ?_; intro _hq)))
        (refine rtA ?_; try rfl)
        all_goals (first | rfl | exact congrArg (fun m => AV.tup [AG.one (AC.v (Value.int .i64 _)), AG.one (AC.sl 0 0 m)]) (by first | rfl | omega | (simp only [List.length_set, List.length_append, List.length_cons, List.length_nil] <;> omega)))
      | true =>
        rw [o1] at hr ho
        cases o2 : (pickI l ((c + 1 + (k : Int) + 1) + 1) 3 == 0) with
        | true =>
          rw [o2] at hr
          obtain ⟨rfl, rfl, rfl⟩ : L = L' ∧ T ++ [0] = t ∧ (c + 1 + (k : Int) + 1) + 1 + 1 = c' := by simpa using hr
          clear hr
          (repeat (first | refine gq_KTE ?_ | (refine ga0A ?_; intro _hq)))
          (refine rtA ?_; try rfl)
          all_goals (first | rfl | exact congrArg (fun m => AV.tup [AG.one (AC.v (Value.int .i64 _)), AG.one (AC.sl 0 0 m)]) (by first | rfl | omega | (simp only [List.length_set, List.length_append, List.length_cons, List.length_nil] <;> omega)))
        | false =>
          cases o3 : (pickI l ((c + 1 + (k : Int) + 1) + 1) 3 == 1) with
          | true =>
            rw [o2, o3] at hr
            obtain ⟨rfl, rfl, rfl⟩ : L = L' ∧ T.set (0 : Int).toNat (T.getD ((k : Int) - 1).toNat Cel.no) = t ∧ (c + 1 + (k : Int) + 1) + 1 + 1 = c' := by
              have h1 := congrArg (fun x => x.1) hr
              have h2 := congrArg (fun x => x.2.1) hr
              have h3 := congrArg (fun x => x.2.2) hr
              exact ⟨h1, h2, h3⟩
            clear hr
            (repeat (first | refine gq_KTE ?_ | (refine ga0A ?_; intro _hq)))
            (refine rtA ?_; try rfl)
            all_goals (first | rfl | exact congrArg (fun m => AV.tup [AG.one (AC.v (Value.int .i64 _)), AG.one (AC.sl 0 0 m)]) (by first | rfl | omega | (simp only [List.length_set, List.length_append, List.length_cons, List.length_nil] <;> omega)))
          | false =>
            rw [o2, o3] at hr
            obtain ⟨rfl, rfl, rfl⟩ : ([0, 9] : List Int).getD (pickI l ((c + 1 + (k : Int) + 1) + 1 + 1) 2).toNat Cel.no = L' ∧ T = t ∧ (c + 1 + (k : Int) + 1) + 1 + 1 + 1 = c' := by
              have h1 := congrArg (fun x => x.1) hr
              have h2 := congrArg (fun x => x.2.1) hr
              have h3 := congrArg (fun x => x.2.2) hr
              exact ⟨h1, h2, h3⟩
            clear hr
            (repeat (first | refine gq_KTE ?_ | (refine ga0A ?_; intro _hq)))
            (refine rtA ?_; try rfl)
            all_goals (first | rfl | exact congrArg (fun m => AV.tup [AG.one (AC.v (Value.int .i64 _)), AG.one (AC.sl 0 0 m)]) (by first | rfl | omega | (simp only [List.length_set, List.length_append, List.length_cons, List.length_nil] <;> omega)))
theorem ex_dMB (l : List UInt8) (hl : l.length ≤ 100000000) : ∃ (L : Int) (t : List Int), (0 ≤ L ∧ L ≤ 9) ∧ t.length ≤ 33 ∧ Kon Tryd.prog 13 [roA l] [] (.tup [.one (.v (.int .i64 L)), .one (.sl 0 0 t.length)]) [iRow t] [] := by
  have h2 : (l.take 2000).length ≤ 2000 := by simp; omega
  obtain ⟨L, t, c', h3, h4, h6, hK⟩ := ex_table (l.take 2000) 0 4 9 (by omega) (by omega) (by omega)
  refine ⟨L, t, h3, h4, ?_⟩
  (refine kM Tryd.func13 rfl ?_; intro hfit hfe)
  (repeat (first | refine gq_KTE ?_ | (refine ga0A ?_; intro _hq)))
  (refine rtA ?_; try rfl)
end Go.Proofs.YtmkoanmmfcpmjaaDoor
