/- KTE, PTA, KTA, PTC, KTB, KTC, KTD, PTB, KBO, KTF, RowD: laid into one text. -/
import Derived.Test.YtfcadkdgichpmaaQTE
import Derived.Test.YtfcadkdgichpmaaQTF
import Derived.Test.YtfcadkdgichpmaaQTH
import Derived.Test.YtfcadkdgichpmaaQTI
import Derived.Test.YtfcadkdgichpmaaQTJ
import Derived.Test.YtfcadkdgichpmaaQTN
import Derived.Test.YtfcadkdgichpmaaQTO
import Derived.ProofKit
import Derived.OpenShut
import Derived.ShutString
import Derived.ChangeOld
import Derived.Below
import Derived.Lib.SmallJoins
import Derived.Deep.Slices
import Derived.Deep.Strs

/- The draw of FnTableOdd: a table. -/
namespace Go.Proofs.Ytfcadkdgichpmaa
set_option linter.unusedVariables false
set_option linter.unusedSimpArgs false
set_option maxRecDepth 20000
open Go.RowKit
attribute [local irreducible] runA runX AW
theorem gq_KTE {H G : Prop} (k : H) (h : Hid H → G := by (intro hh; repeat1' (first | (first | ((first | refine r_none ?_ | refine r_gt (by rfl) (by rfl) zDD (by rfl) ?_ | refine r_gf (by rfl) (by rfl) zDD (by rfl) ?_); (first | fail | ((first | (refine z_op (by rfl) ?_; first | refine z_ok ?_ ?_ | refine z_ex ?_ (by first | exact zL1 | ((first | fail); exact zWW) | exact zL2 | exact rw_c Int rfl | exact zL3 | exact ct_t (l := ordN l (c + 1) k) rfl rfl rfl (by omega) (by rw [hl]; simp; omega)) ?_) | ((first | refine q_callE wsT wsZ (by rfl) ?_ | refine q_callVE wsT (by rfl) (by rfl) ?_); refine ⟨_, _, _, (by first | assumption | exact k_pick _ _ _ (by omega) | exact k_odd _ _ _ (by omega) | exact k_open _ (by omega)), _, by rfl, ?_, ?_⟩)); focus (first | exact trivial | fail | exact zQZ)) | fail)) | refine r_nt (by rfl) (by rfl) zDD (by rfl) ?_ | refine r_nf (by rfl) (by rfl) zDD (by rfl) ?_ | refine r_gu (by rfl) (by rfl) (by rfl) ?_ | refine r_nil ?_) | (first | refine aw_seq ?_ | refine aw_ct (by rfl) zDD ?_ | refine aw_cf (by rfl) zDD ?_ | refine aw_block ?_ | refine aw_region T0ok cfU_ok (by rfl) ?_ | refine aw_skip ?_ | refine aw_exit ?_ | refine ra_step ?_)); exact hh.out)) : G := h ⟨k⟩
theorem ga_KTE {H G : Prop} (k : H) (h : Hid H → G := by (intro hh; (first | refine r_none ?_ | refine r_gt (by rfl) (by rfl) zDD (by rfl) ?_ | refine r_gf (by rfl) (by rfl) zDD (by rfl) ?_); refine z_op (by rfl) ?_; refine z_alV ?_ hh.out; focus (first | exact trivial | fail | exact zQZ))) : G := h ⟨k⟩
theorem gs_KTE {H G : Prop} (k : H) (h : Hid H → G := by (intro hh; repeat1' (first | ((first | refine r_none ?_ | refine r_gt (by rfl) (by rfl) zDD (by rfl) ?_ | refine r_gf (by rfl) (by rfl) zDD (by rfl) ?_); (first | fail | ((first | (refine z_op (by rfl) ?_; first | refine z_ok ?_ ?_ | refine z_ex ?_ (by first | exact zL1 | ((first | fail); exact zWW) | exact zL2 | exact rw_c Int rfl | exact zL3 | exact ct_t (l := ordN l (c + 1) k) rfl rfl rfl (by omega) (by rw [hl]; simp; omega)) ?_) | ((first | refine q_callE wsT wsZ (by rfl) ?_ | refine q_callVE wsT (by rfl) (by rfl) ?_); refine ⟨_, _, _, (by first | assumption | exact k_pick _ _ _ (by omega) | exact k_odd _ _ _ (by omega) | exact k_open _ (by omega)), _, by rfl, ?_, ?_⟩)); focus (first | exact trivial | fail | exact zQZ)) | fail)) | refine r_nt (by rfl) (by rfl) zDD (by rfl) ?_ | refine r_nf (by rfl) (by rfl) zDD (by rfl) ?_ | refine r_gu (by rfl) (by rfl) (by rfl) ?_ | refine r_nil ?_); exact hh.out)) : G := h ⟨k⟩
/-- A fault put into a table. -/
def tbR (l : List UInt8) (L : Int) (T : List Int) (q c : Int) : Int × List Int × Int :=
  bif pickI l c q == q - 1 then (bif pickI l (c + 1) 3 == 0 then (L, T ++ [0], c + 1 + 1) else bif pickI l (c + 1) 3 == 1 then (L, T.set (0 : Int).toNat (T.getD ((T.length : Int) - 1).toNat Cel.no), c + 1 + 1) else (([0, 9] : List Int).getD (pickI l (c + 1 + 1) 2).toNat Cel.no, T, c + 1 + 1 + 1)) else (L, T, c + 1)
theorem tbR_bd (l : List UInt8) (L : Int) (T : List Int) (q c : Int) (hL : 1 ≤ L ∧ L ≤ 8) (hT : T.length ≤ 32) : (0 ≤ (tbR l L T q c).1 ∧ (tbR l L T q c).1 ≤ 9) ∧ (tbR l L T q c).2.1.length ≤ 33 ∧ c ≤ (tbR l L T q c).2.2 ∧ (tbR l L T q c).2.2 ≤ c + 3 := by
  have p2 := pickI_lt (l := l) (c := c + 1 + 1) (n := 2) (by omega)
  have h3 : 0 ≤ ([0, 9] : List Int).getD (pickI l (c + 1 + 1) 2).toNat Cel.no ∧ ([0, 9] : List Int).getD (pickI l (c + 1 + 1) 2).toNat Cel.no ≤ 9 := by
    obtain h | h : (pickI l (c + 1 + 1) 2).toNat = 0 ∨ (pickI l (c + 1 + 1) 2).toNat = 1 := by omega
    all_goals (rw [h]; decide)
  unfold tbR
  cases (pickI l c q == q - 1) <;> cases (pickI l (c + 1) 3 == 0) <;> cases (pickI l (c + 1) 3 == 1) <;> dsimp only [cond_true, cond_false] <;> refine ⟨by omega, ?_, by omega, by omega⟩ <;> (first | omega | (simp only [List.length_append, List.length_set, List.length_cons, List.length_nil]; omega))
set_option maxHeartbeats 8000000 in
theorem ex_table (l : List UInt8) (c most q : Int) (h : 0 ≤ c ∧ c ≤ 80000 ∧ l.length ≤ 2000) (hm : 1 ≤ most ∧ most ≤ 5) (hq : 1 ≤ q ∧ q ≤ 1000) : ∃ (L : Int) (t : List Int) (c' : Int), (0 ≤ L ∧ L ≤ 9) ∧ t.length ≤ 33 ∧ (c ≤ c' ∧ c' ≤ c + 1000) ∧ Kon Try.prog 11 [p0, vI most, vI q] [rdE l c] (.tup [.one (.v (.int .i64 L)), .one (.sl 0 0 t.length)]) [iRow t] [rdE l c'] := by
  have pm := pickI_lt (l := l) (c := c) (n := most) (by omega)
  obtain ⟨L, hL⟩ : ∃ L, 1 + pickI l c most = L := ⟨_, rfl⟩
  have hLb : 1 ≤ L ∧ L ≤ 5 := by omega
  obtain ⟨N, hN, hN2, hN32⟩ : ∃ N : Nat, (1 * 2 ^ L.toNat : Int) = (N : Int) ∧ 2 ≤ N ∧ N ≤ 32 := by
    obtain rfl | rfl | rfl | rfl | rfl : L = 1 ∨ L = 2 ∨ L = 3 ∨ L = 4 ∨ L = 5 := by omega
    · exact ⟨2, rfl, by omega, by omega⟩
    · exact ⟨4, rfl, by omega, by omega⟩
    · exact ⟨8, rfl, by omega, by omega⟩
    · exact ⟨16, rfl, by omega, by omega⟩
    · exact ⟨32, rfl, by omega, by omega⟩
  obtain ⟨cs, c1, _, _, hc1, hv, hCi⟩ := ex_circ2 l (c + 1 + (N : Int) + 1) L 6 0 (by omega) (by omega) (by omega)
  obtain ⟨hcl, hca⟩ := hv (Int.le_refl _)
  have hcok : cokB L cs = true := cokB_mkM (by omega) (by omega) (hca (by omega))
  have hCT := k_ctS L cs hcok N hN
  have hTl := tabN_len cs N
  have hlM := ordN_len l (c + 1) N
  have p3 := pickI_lt (l := l) (c := c + 1 + (N : Int)) (n := 3) (by omega)
  obtain ⟨L', t, c', hr, hb1, hb2, hb3⟩ : ∃ L' t c', (bif pickI l (c + 1 + (N : Int)) 3 == 0 then tbR l L (tabN cs N) q c1 else tbR l L (ordN l (c + 1) N) q (c + 1 + (N : Int) + 1)) = (L', t, c') ∧ (0 ≤ L' ∧ L' ≤ 9) ∧ t.length ≤ 33 ∧ (c ≤ c' ∧ c' ≤ c + 1000) := by
    have b1 := tbR_bd l L (tabN cs N) q c1 (by omega) (by omega)
    have b2 := tbR_bd l L (ordN l (c + 1) N) q (c + 1 + (N : Int) + 1) (by omega) (by omega)
    cases (pickI l (c + 1 + (N : Int)) 3 == 0)
    · rcases hx : tbR l L (ordN l (c + 1) N) q (c + 1 + (N : Int) + 1) with ⟨x, y, z⟩
      rw [hx] at b2
      dsimp only at b2
      exact ⟨x, y, z, rfl, b2.1, b2.2.1, by omega⟩
    · rcases hx : tbR l L (tabN cs N) q c1 with ⟨x, y, z⟩
      rw [hx] at b1
      dsimp only at b1
      exact ⟨x, y, z, rfl, b1.1, b1.2.1, by omega⟩
  refine ⟨L', t, c', hb1, hb2, hb3, ?_⟩
  clear hca hcok
  (refine kon_mk T0ok (fn := Try.f11) (c := Try.f11.body.get rfl) Try.func11 rfl (by rfl) (by rfl) (by rfl) ?_; intro hfit hfe)
  (repeat (first | refine gq_KTE ?_ | (refine ga_KTE ?_; intro _hq)))
  rw [hL]
  refine aw_rd [0, 1, 2, 8] [] (fun k : Nat => [(9, .g (.one (.sl 272 (2 * k) k))), (10, vI k)]) (fun k => [(272, (2 * k, iRow (ordN l (c + 1) k))), (100000, (0, rdE l (c + 1 + k)))]) (fun k => k ≤ N) (fun k => N - k) 0 (by rfl) (by rfl) ?_ (by rfl) zHE ⟨by rfl, Eq.trans (b := some (0, rdE l (c + 1))) (by rfl) (by rw [show c + 1 + ((0 : Nat) : Int) = c + 1 by omega]), zHE⟩ ?_
  · exact Nat.zero_le _
  rintro k hk
  rcases Nat.lt_or_ge k N with h5 | h5
  · have hd : decide ((k : Int) < 1 * 2 ^ L.toNat) = true := decide_eq_true (by omega)
    have hp := pickI_lt (l := l) (c := c + 1 + (k : Int)) (n := (k : Int) + 1) (by omega)
    have hl := ordN_len l (c + 1) k
    have hcl : (cV (ordN l (c + 1) k)).length = k := by rw [cV_len, hl]; exact Nat.mul_one k
    have hz1 : k * Cel.sz Int = k := Nat.mul_one k
    clear hr
    repeat (first | refine aw_seq ?_ | refine aw_ct (by rfl) zDD ?_ | refine aw_cf (by rfl) zDD ?_ | refine aw_block ?_ | refine aw_region T0ok cfU_ok (by rfl) ?_ | refine aw_skip ?_ | refine aw_exit ?_ | refine ra_step ?_)
    (repeat (first | refine gs_KTE ?_ | (refine ga_KTE ?_; intro _hq)))
    repeat (first | refine aw_seq ?_ | refine aw_ct (by rfl) zDD ?_ | refine aw_cf (by rfl) zDD ?_ | refine aw_block ?_ | refine aw_region T0ok cfU_ok (by rfl) ?_ | refine aw_skip ?_ | refine aw_exit ?_ | refine ra_step ?_)
    (repeat (first | refine gs_KTE ?_ | (refine ga_KTE ?_; intro _hq)))
    refine aw_seq ?_
    refine wx_region ?_
    refine wx_run 3 T0ok cfU_ok (by rfl) ?_
    (repeat (first | refine gs_KTE ?_ | (refine ga_KTE ?_; intro _hq)))
    refine wx_pieceC (α := Int) (l := ordN l (c + 1) k) (l2 := []) T0ok (by rfl) (by rfl) (by rfl) (by rfl) (by rfl) (by rfl) (by rfl) (by rfl) (by rfl) (by rfl) (by rfl) ⟨hl.symm, rfl, by omega, by omega, by omega, by simp⟩ ?_
    refine wx_end T0ok cfU_ok (i := 5) (by rfl) ?_
    (repeat (first | refine gq_KTE ?_ | (refine ga_KTE ?_; intro _hq)))
    have hc1 : c + 1 + (k : Int) + 1 = c + 1 + ((k + 1 : Nat) : Int) := by omega
    exact ⟨k + 1, h5, ⟨by rfl, ⟨Eq.trans (b := some (.g (.one (.sl 272 (2 * (k + 1)) (ordN l (c + 1) (k + 1)).length)))) (by rfl) (by rw [ordN_len]), zHE⟩, ⟨by rfl, Eq.trans (b := some (0, rdE l (c + 1 + (k : Int) + 1))) (by rfl) (by rw [hc1]), zHE⟩⟩, (by first | omega | (dsimp only; omega))⟩
  · have hd : decide ((k : Int) < 1 * 2 ^ L.toNat) = false := decide_eq_false (by omega)
    obtain rfl : k = N := by omega
    cases p0c : (pickI l (c + 1 + (k : Int)) 3 == 0) with
    | true =>
      rw [p0c] at hr
      dsimp only [cond_true, cond_false] at hr
      have ho := k_odd l c1 q (by omega)
      have q3 := pickI_lt (l := l) (c := c1 + 1) (n := 3) (by omega)
      have q2 := pickI_lt (l := l) (c := c1 + 1 + 1) (n := 2) (by omega)
      unfold tbR at hr
      generalize (tabN cs k) = T at *
      skip
      cases o1 : (pickI l c1 q == q - 1) with
      | false =>
        rw [o1] at hr ho
        obtain ⟨rfl, rfl, rfl⟩ : L = L' ∧ T = t ∧ c1 + 1 = c' := by simpa using hr
        clear hr
        (repeat (first | refine gq_KTE ?_ | (refine ga_KTE ?_; intro _hq)))
        (refine rtA ?_; try rfl)
        all_goals (first | rfl | exact congrArg (fun m => AV.tup [AG.one (AC.v (Value.int .i64 _)), AG.one (AC.sl 0 0 m)]) (by first | rfl | omega | (simp only [List.length_set, List.length_append, List.length_cons, List.length_nil] <;> omega)))
      | true =>
        rw [o1] at hr ho
        cases o2 : (pickI l (c1 + 1) 3 == 0) with
        | true =>
          rw [o2] at hr
          obtain ⟨rfl, rfl, rfl⟩ : L = L' ∧ T ++ [0] = t ∧ c1 + 1 + 1 = c' := by simpa using hr
          clear hr
          (repeat (first | refine gq_KTE ?_ | (refine ga_KTE ?_; intro _hq)))
          (refine rtA ?_; try rfl)
          all_goals (first | rfl | exact congrArg (fun m => AV.tup [AG.one (AC.v (Value.int .i64 _)), AG.one (AC.sl 0 0 m)]) (by first | rfl | omega | (simp only [List.length_set, List.length_append, List.length_cons, List.length_nil] <;> omega)))
        | false =>
          cases o3 : (pickI l (c1 + 1) 3 == 1) with
          | true =>
            rw [o2, o3] at hr
            obtain ⟨rfl, rfl, rfl⟩ : L = L' ∧ T.set (0 : Int).toNat (T.getD ((T.length : Int) - 1).toNat Cel.no) = t ∧ c1 + 1 + 1 = c' := by
              have h1 := congrArg (fun x => x.1) hr
              have h2 := congrArg (fun x => x.2.1) hr
              have h3 := congrArg (fun x => x.2.2) hr
              exact ⟨h1, h2, h3⟩
            clear hr
            (repeat (first | refine gq_KTE ?_ | (refine ga_KTE ?_; intro _hq)))
            (refine rtA ?_; try rfl)
            all_goals (first | rfl | exact congrArg (fun m => AV.tup [AG.one (AC.v (Value.int .i64 _)), AG.one (AC.sl 0 0 m)]) (by first | rfl | omega | (simp only [List.length_set, List.length_append, List.length_cons, List.length_nil] <;> omega)))
          | false =>
            rw [o2, o3] at hr
            obtain ⟨rfl, rfl, rfl⟩ : ([0, 9] : List Int).getD (pickI l (c1 + 1 + 1) 2).toNat Cel.no = L' ∧ T = t ∧ c1 + 1 + 1 + 1 = c' := by
              have h1 := congrArg (fun x => x.1) hr
              have h2 := congrArg (fun x => x.2.1) hr
              have h3 := congrArg (fun x => x.2.2) hr
              exact ⟨h1, h2, h3⟩
            clear hr
            (repeat (first | refine gq_KTE ?_ | (refine ga_KTE ?_; intro _hq)))
            (refine rtA ?_; try rfl)
            all_goals (first | rfl | exact congrArg (fun m => AV.tup [AG.one (AC.v (Value.int .i64 _)), AG.one (AC.sl 0 0 m)]) (by first | rfl | omega | (simp only [List.length_set, List.length_append, List.length_cons, List.length_nil] <;> omega)))
    | false =>
      rw [p0c] at hr
      dsimp only [cond_true, cond_false] at hr
      have ho := k_odd l (c + 1 + (k : Int) + 1) q (by omega)
      have q3 := pickI_lt (l := l) (c := (c + 1 + (k : Int) + 1) + 1) (n := 3) (by omega)
      have q2 := pickI_lt (l := l) (c := (c + 1 + (k : Int) + 1) + 1 + 1) (n := 2) (by omega)
      unfold tbR at hr
      generalize (ordN l (c + 1) k) = T at *
      rw [hlM] at hr
      cases o1 : (pickI l (c + 1 + (k : Int) + 1) q == q - 1) with
      | false =>
        rw [o1] at hr ho
        obtain ⟨rfl, rfl, rfl⟩ : L = L' ∧ T = t ∧ (c + 1 + (k : Int) + 1) + 1 = c' := by simpa using hr
        clear hr
        (repeat (first | refine gq_KTE ?_ | (refine ga_KTE ?_; intro _hq)))
        (refine rtA ?_; try rfl)
        all_goals (first | rfl | exact congrArg (fun m => AV.tup [AG.one (AC.v (Value.int .i64 _)), AG.one (AC.sl 0 0 m)]) (by first | rfl | omega | (simp only [List.length_set, List.length_append, List.length_cons, List.length_nil] <;> omega)))
      | true =>
        rw [o1] at hr ho
        cases o2 : (pickI l ((c + 1 + (k : Int) + 1) + 1) 3 == 0) with
        | true =>
          rw [o2] at hr
          obtain ⟨rfl, rfl, rfl⟩ : L = L' ∧ T ++ [0] = t ∧ (c + 1 + (k : Int) + 1) + 1 + 1 = c' := by simpa using hr
          clear hr
          (repeat (first | refine gq_KTE ?_ | (refine ga_KTE ?_; intro _hq)))
          (refine rtA ?_; try rfl)
          all_goals (first | rfl | exact congrArg (fun m => AV.tup [AG.one (AC.v (Value.int .i64 _)), AG.one (AC.sl 0 0 m)]) (by first | rfl | omega | (simp only [List.length_set, List.length_append, List.length_cons, List.length_nil] <;> omega)))
        | false =>
          cases o3 : (pickI l ((c + 1 + (k : Int) + 1) + 1) 3 == 1) with
          | true =>
            rw [o2, o3] at hr
            obtain ⟨rfl, rfl, rfl⟩ : L = L' ∧ T.set (0 : Int).toNat (T.getD ((k : Int) - 1).toNat Cel.no) = t ∧ (c + 1 + (k : Int) + 1) + 1 + 1 = c' := by
              have h1 := congrArg (fun x => x.1) hr
              have h2 := congrArg (fun x => x.2.1) hr
              have h3 := congrArg (fun x => x.2.2) hr
              exact ⟨h1, h2, h3⟩
            clear hr
            (repeat (first | refine gq_KTE ?_ | (refine ga_KTE ?_; intro _hq)))
            (refine rtA ?_; try rfl)
            all_goals (first | rfl | exact congrArg (fun m => AV.tup [AG.one (AC.v (Value.int .i64 _)), AG.one (AC.sl 0 0 m)]) (by first | rfl | omega | (simp only [List.length_set, List.length_append, List.length_cons, List.length_nil] <;> omega)))
          | false =>
            rw [o2, o3] at hr
            obtain ⟨rfl, rfl, rfl⟩ : ([0, 9] : List Int).getD (pickI l ((c + 1 + (k : Int) + 1) + 1 + 1) 2).toNat Cel.no = L' ∧ T = t ∧ (c + 1 + (k : Int) + 1) + 1 + 1 + 1 = c' := by
              have h1 := congrArg (fun x => x.1) hr
              have h2 := congrArg (fun x => x.2.1) hr
              have h3 := congrArg (fun x => x.2.2) hr
              exact ⟨h1, h2, h3⟩
            clear hr
            (repeat (first | refine gq_KTE ?_ | (refine ga_KTE ?_; intro _hq)))
            (refine rtA ?_; try rfl)
            all_goals (first | rfl | exact congrArg (fun m => AV.tup [AG.one (AC.v (Value.int .i64 _)), AG.one (AC.sl 0 0 m)]) (by first | rfl | omega | (simp only [List.length_set, List.length_append, List.length_cons, List.length_nil] <;> omega)))
theorem ex_dTO (l : List UInt8) (hl : l.length ≤ 100000000) : ∃ (L : Int) (t : List Int), (0 ≤ L ∧ L ≤ 9) ∧ t.length ≤ 33 ∧ Kon Try.prog 4 [roA l] [] (.tup [.one (.v (.int .i64 L)), .one (.sl 0 0 t.length)]) [iRow t] [] := by
  have h2 : (l.take 2000).length ≤ 2000 := by simp; omega
  obtain ⟨L, t, c', h3, h4, h6, hK⟩ := ex_table (l.take 2000) 0 5 9 (by omega) (by omega) (by omega)
  refine ⟨L, t, h3, h4, ?_⟩
  (refine kon_mk T0ok (fn := Try.f4) (c := Try.f4.body.get rfl) Try.func4 rfl (by rfl) (by rfl) (by rfl) ?_; intro hfit hfe)
  (repeat (first | refine gq_KTE ?_ | (refine ga_KTE ?_; intro _hq)))
  (refine rtA ?_; try rfl)
end Go.Proofs.Ytfcadkdgichpmaa

/- Valid tables, plain: each word once; what the two checks of a table tell. -/
namespace Go.Proofs.Ytfcadkdgichpmaa
set_option linter.unusedVariables false
set_option linter.unusedSimpArgs false
/-- The words of a table, looked at one after the other; s tells what was seen. -/
def tvL (N : Int) : List Bool → List Int → Bool
  | _, [] => true
  | s, x :: l => btw x 0 (N - 1) && !(s.getD x.toNat false) && tvL N (s.set x.toNat true) l
def tvB (n : Int) (t : List Int) : Bool := btw n 1 8 && (((t.length : Int) == 2 ^ n.toNat) && tvL (t.length : Int) (List.replicate t.length false) t)
theorem set_at {s : List Bool} {x y : Nat} (hx : x < s.length) : (s.set x true).getD y false = (decide (x = y) || s.getD y false) := by
  by_cases h : x = y
  · subst h
    rw [List.getD_eq_getElem?_getD, List.getElem?_set_self hx]
    simp
  · rw [List.getD_eq_getElem?_getD, List.getElem?_set_ne h, ← List.getD_eq_getElem?_getD, decide_eq_false h, Bool.false_or]
theorem tvL_drop {N : Int} {s : List Bool} {i : Nat} {L : List Int} (hi : i < L.length) : tvL N s (L.drop i) = (btw (L.getD i 0) 0 (N - 1) && !(s.getD (L.getD i 0).toNat false) && tvL N (s.set (L.getD i 0).toNat true) (L.drop (i + 1))) := by
  rw [List.drop_eq_getElem_cons hi]
  simp [tvL, List.getD_eq_getElem?_getD, hi]
theorem tvL_at {N : Int} : ∀ {L : List Int} {s : List Bool}, (s.length : Int) = N → tvL N s L = true → ∀ i, i < L.length → (0 ≤ L.getD i 0 ∧ L.getD i 0 < N) ∧ s.getD (L.getD i 0).toNat false = false
  | [], _, _, _, i, hi => absurd hi (Nat.not_lt_zero _)
  | x :: L, s, hs, h, i, hi => by
    rw [tvL, Bool.and_eq_true, Bool.and_eq_true, Bool.not_eq_true'] at h
    have hb := btw_t h.1.1
    rcases i with _ | i
    · exact ⟨⟨hb.1, by have := hb.2; show x < N; omega⟩, h.1.2⟩
    · obtain ⟨h1, h2⟩ := tvL_at (by rw [List.length_set]; exact hs) h.2 i (Nat.lt_of_succ_lt_succ hi)
      refine ⟨h1, ?_⟩
      rw [set_at (by omega), Bool.or_eq_false_iff] at h2
      exact h2.2
theorem tvL_ne {N : Int} : ∀ {L : List Int} {s : List Bool}, (s.length : Int) = N → tvL N s L = true → ∀ i j, i < j → j < L.length → L.getD i 0 ≠ L.getD j 0
  | [], _, _, _, i, j, _, hj => absurd hj (Nat.not_lt_zero _)
  | x :: L, s, hs, h, i, j, hij, hj => by
    rw [tvL, Bool.and_eq_true, Bool.and_eq_true, Bool.not_eq_true'] at h
    have hb := btw_t h.1.1
    rcases i with _ | i
    · rcases j with _ | j
      · omega
      · obtain ⟨h1, h2⟩ := tvL_at (by rw [List.length_set]; exact hs) h.2 j (Nat.lt_of_succ_lt_succ hj)
        rw [set_at (by omega), Bool.or_eq_false_iff, decide_eq_false_iff_not] at h2
        intro e
        exact h2.1 (congrArg Int.toNat e)
    · rcases j with _ | j
      · omega
      · exact tvL_ne (by rw [List.length_set]; exact hs) h.2 i j (Nat.lt_of_succ_lt_succ hij) (Nat.lt_of_succ_lt_succ hj)
theorem tvL_of {N : Int} : ∀ {L : List Int} {s : List Bool}, (s.length : Int) = N → (∀ i, i < L.length → (0 ≤ L.getD i 0 ∧ L.getD i 0 < N) ∧ s.getD (L.getD i 0).toNat false = false) → (∀ i j, i < j → j < L.length → L.getD i 0 ≠ L.getD j 0) → tvL N s L = true
  | [], _, _, _, _ => rfl
  | x :: L, s, hs, h, hd => by
    obtain ⟨hx, hsx⟩ := h 0 (Nat.succ_pos _)
    replace hx : 0 ≤ x ∧ x < N := hx
    replace hsx : s.getD x.toNat false = false := hsx
    rw [tvL, Bool.and_eq_true, Bool.and_eq_true, Bool.not_eq_true']
    refine ⟨⟨?_, hsx⟩, tvL_of (by rw [List.length_set]; exact hs) (fun i hi => ?_) (fun i j hij hj => hd (i + 1) (j + 1) (by omega) (Nat.succ_lt_succ hj))⟩
    · unfold btw
      rw [decide_eq_true hx.1, decide_eq_true (show x ≤ N - 1 by omega)]; rfl
    · obtain ⟨h1, h2⟩ := h (i + 1) (Nat.succ_lt_succ hi)
      replace h1 : 0 ≤ L.getD i 0 ∧ L.getD i 0 < N := h1
      replace h2 : s.getD (L.getD i 0).toNat false = false := h2
      have hne : x ≠ L.getD i 0 := hd 0 (i + 1) (Nat.succ_pos _) (Nat.succ_lt_succ hi)
      refine ⟨h1, ?_⟩
      rw [set_at (by omega), h2, Bool.or_false]
      exact decide_eq_false (by omega)
/-- A table as a function on words. -/
def fT (t : List Int) (x : Nat) : Nat := (t.getD x 0).toNat
theorem tv_tp {t : List Int} (h : tvL (t.length : Int) (List.replicate t.length false) t = true) : TP (fT t) t.length := by
  have hs : ((List.replicate t.length false).length : Int) = (t.length : Int) := by rw [List.length_replicate]
  refine ⟨fun x hx => ?_, fun x y hx hy e => ?_⟩
  · have := (tvL_at hs h x hx).1
    unfold fT; omega
  · have h1 := (tvL_at hs h x hx).1
    have h2 := (tvL_at hs h y hy).1
    unfold fT at e
    have e2 : t.getD x 0 = t.getD y 0 := by omega
    rcases Nat.lt_trichotomy x y with h3 | h3 | h3
    · exact absurd e2 (tvL_ne hs h _ _ h3 hy)
    · exact h3
    · exact absurd e2.symm (tvL_ne hs h _ _ h3 hx)
/-- What was seen, by the words before. -/
def seenL : List Bool → List Int → List Bool
  | s, [] => s
  | s, x :: l => seenL (s.set x.toNat true) l
theorem seenL_snoc : ∀ (l : List Int) (s : List Bool) (x : Int), seenL s (l ++ [x]) = (seenL s l).set x.toNat true
  | [], s, x => rfl
  | y :: l, s, x => seenL_snoc l _ x
theorem seenL_at : ∀ (l : List Int) (s : List Bool) (y : Int), (∀ x ∈ l, 0 ≤ x ∧ x < (s.length : Int)) → 0 ≤ y → (seenL s l).getD y.toNat false = (s.getD y.toNat false || l.any (· == y))
  | [], s, y, _, _ => by simp [seenL]
  | x :: l, s, y, hl, hy => by
    have hx := hl x List.mem_cons_self
    rw [seenL, seenL_at l _ y (fun z hz => by rw [List.length_set]; exact hl z (List.mem_cons_of_mem _ hz)) hy, set_at (by omega), List.any_cons]
    have e : decide (x.toNat = y.toNat) = (x == y) := by rw [Bool.eq_iff_iff, decide_eq_true_eq, beq_iff_eq]; omega
    rw [e]
    cases (x == y) <;> cases (s.getD y.toNat false) <;> simp
/-- How odd a table is. -/
noncomputable def toB (n : Int) (t : List Int) : Bool := tvB n t && ((t.length - cntF (fT t) t.length) % 2 == 1)
end Go.Proofs.Ytfcadkdgichpmaa

/- TableValid of the program. -/
namespace Go.Proofs.Ytfcadkdgichpmaa
set_option linter.unusedVariables false
set_option linter.unusedSimpArgs false
set_option maxRecDepth 20000
open Go.RowKit
attribute [local irreducible] runA runX AW
theorem gq_KTA {H G : Prop} (k : H) (h : Hid H → G := by (intro hh; repeat1' (first | (first | ((first | refine r_none ?_ | refine r_gt (by rfl) (by rfl) zDD (by rfl) ?_ | refine r_gf (by rfl) (by rfl) zDD (by rfl) ?_); (first | fail | ((first | (refine z_op (by rfl) ?_; first | refine z_ok ?_ ?_ | refine z_ex ?_ (by first | exact zL1 | ((first | refine mk_c Bool rfl rfl rfl ?_); exact zWW) | exact zL2 | fail | exact zL3 | fail) ?_) | ((first | refine q_callE wsT wsZ (by rfl) ?_ | refine q_callVE wsT (by rfl) (by rfl) ?_); refine ⟨_, _, _, (by first | assumption | exact k_within _ _ _ | exact k_okL _), _, by rfl, ?_, ?_⟩)); focus (first | exact trivial | fail | exact zQZ)) | fail)) | refine r_nt (by rfl) (by rfl) zDD (by rfl) ?_ | refine r_nf (by rfl) (by rfl) zDD (by rfl) ?_ | refine r_gu (by rfl) (by rfl) (by rfl) ?_ | refine r_nil ?_) | (first | refine aw_seq ?_ | refine aw_ct (by rfl) zDD ?_ | refine aw_cf (by rfl) zDD ?_ | refine aw_block ?_ | refine aw_region T0ok cfU_ok (by rfl) ?_ | refine aw_skip ?_ | refine aw_exit ?_ | refine ra_step ?_)); exact hh.out)) : G := h ⟨k⟩
theorem ga_KTA {H G : Prop} (k : H) (h : Hid H → G := by (intro hh; (first | refine r_none ?_ | refine r_gt (by rfl) (by rfl) zDD (by rfl) ?_ | refine r_gf (by rfl) (by rfl) zDD (by rfl) ?_); refine z_op (by rfl) ?_; refine z_alV ?_ hh.out; focus (first | exact trivial | fail | exact zQZ))) : G := h ⟨k⟩
abbrev bRow (l : List Bool) : Ent := rwE 4 l
set_option maxHeartbeats 4000000 in
theorem k_tvI (n : Int) (t : List Int) (h : t.length ≤ 1000) : Kon Try.prog 13 [vI n, roA t] [] (vB (tvB n t)) [] [] := by
  unfold tvB
  cases hn : btw n 1 8 with
  | false =>
    (refine kon_mk T0ok (fn := Try.f13) (c := Try.f13.body.get rfl) Try.func13 rfl (by rfl) (by rfl) (by rfl) ?_; intro hfit hfe)
    (repeat (first | refine gq_KTA ?_ | (refine ga_KTA ?_; intro _hq)))
    (refine rtA ?_; try rfl)
  | true =>
  have hn' := btw_t hn
  have h8 := pow_8 hn'
  rw [Bool.true_and]
  cases hl : ((t.length : Int) == 2 ^ n.toNat) with
  | false =>
    have hl2 : ((t.length : Int) != 1 * 2 ^ n.toNat) = true := by rw [Int.one_mul, bne, hl]; rfl
    (refine kon_mk T0ok (fn := Try.f13) (c := Try.f13.body.get rfl) Try.func13 rfl (by rfl) (by rfl) (by rfl) ?_; intro hfit hfe)
    (repeat (first | refine gq_KTA ?_ | (refine ga_KTA ?_; intro _hq)))
    (refine rtA ?_; try rfl)
  | true =>
  have hl2 : ((t.length : Int) != 1 * 2 ^ n.toNat) = false := by rw [Int.one_mul, bne, hl]; rfl
  rw [Bool.true_and]
  have hrl : (List.replicate (t.length : Int).toNat (Cel.no : Bool)).length = t.length := by rw [List.length_replicate]; omega
  have hpos : 0 < t.length := by rw [beq_iff_eq] at hl; omega
  (refine kon_mk T0ok (fn := Try.f13) (c := Try.f13.body.get rfl) Try.func13 rfl (by rfl) (by rfl) (by rfl) ?_; intro hfit hfe)
  (repeat (first | refine gq_KTA ?_ | (refine ga_KTA ?_; intro _hq)))
  (refine aw_rd [0, 1, 5, 21, 22] [] (fun g : Nat × List Bool => [(23, vI g.1)]) (fun g => [(320, (0, bRow g.2))]) (fun g => g.1 ≤ t.length ∧ g.2.length = t.length ∧ tvL (t.length : Int) g.2 (t.drop g.1) = tvL (t.length : Int) (List.replicate t.length false) t) (fun g => t.length - g.1) (0, List.replicate (t.length : Int).toNat (Cel.no : Bool)) (by rfl) (by rfl) ?_ (by rfl) zHE zHE ?_)
  · exact ⟨Nat.zero_le _, hrl, rfl⟩
  rintro ⟨i, s⟩ ⟨hi, hs, hz⟩
  dsimp only at hi hs hz ⊢
  rcases Nat.lt_or_ge i t.length with h5 | h5
  · have hd : decide ((i : Int) < (t.length : Int)) = true := by simpa using h5
    obtain ⟨x, hx⟩ : ∃ x, t.getD (i : Int).toNat (Cel.no : Int) = x := ⟨_, rfl⟩
    have hx' : t.getD i 0 = x := hx
    rw [tvL_drop h5, hx'] at hz
    (repeat (first | refine gq_KTA ?_ | (refine ga_KTA ?_; intro _hq)))
    rw [hx]
    cases hb : btw x 0 ((t.length : Int) - 1) with
    | false =>
      rw [hb, Bool.false_and, Bool.false_and] at hz
      rw [← hz]
      clear hz
      (repeat (first | refine gq_KTA ?_ | (refine ga_KTA ?_; intro _hq)))
      (refine rtA ?_; try rfl)
    | true =>
      have hb' := btw_t hb
      rw [hb, Bool.true_and] at hz
      cases hv : s.getD x.toNat false with
      | true =>
        rw [hv, Bool.not_true, Bool.false_and] at hz
        rw [← hz]
        clear hz
        replace hv : s.getD x.toNat Cel.no = true := hv
        (repeat (first | refine gq_KTA ?_ | (refine ga_KTA ?_; intro _hq)))
        (refine rtA ?_; try rfl)
      | false =>
        rw [hv, Bool.not_false, Bool.true_and] at hz
        replace hv : s.getD x.toNat Cel.no = false := hv
        have hinv : i + 1 ≤ t.length ∧ (s.set x.toNat true).length = t.length ∧ tvL (t.length : Int) (s.set x.toNat true) (t.drop (i + 1)) = tvL (t.length : Int) (List.replicate t.length false) t := ⟨h5, by rw [List.length_set]; exact hs, hz⟩
        clear hz
        (repeat (first | refine gq_KTA ?_ | (refine ga_KTA ?_; intro _hq)))
        exact ⟨(i + 1, s.set x.toNat true), hinv, ⟨by rfl, zHE, zHE⟩, (by first | omega | (dsimp only; omega))⟩
  · have hd : decide ((i : Int) < (t.length : Int)) = false := by simp; omega
    rw [List.drop_of_length_le h5, tvL] at hz
    rw [← hz]
    clear hz
    (repeat (first | refine gq_KTA ?_ | (refine ga_KTA ?_; intro _hq)))
    (refine rtA ?_; try rfl)
end Go.Proofs.Ytfcadkdgichpmaa

/- The walk that marks cycles, plain: it ends, and tells as many cycles as there are. -/
namespace Go.Proofs.Ytfcadkdgichpmaa
set_option linter.unusedVariables false
set_option linter.unusedSimpArgs false
/-- The walk from a word, until one comes that was seen: what was seen then, and how long it was. -/
def wkM (f : Nat → Nat) : Nat → List Bool → Nat → Int → List Bool × Int
  | 0, s, x, l => (s, l)
  | k + 1, s, x, l => if s.getD x false = true then (s, l) else wkM f k (s.set x true) (f x) (l + 1)
/-- It ends within so many steps. -/
def Ends (f : Nat → Nat) : Nat → List Bool → Nat → Prop
  | 0, s, x => s.getD x false = true
  | k + 1, s, x => s.getD x false = true ∨ Ends f k (s.set x true) (f x)
theorem wkM_len (f : Nat → Nat) : ∀ (k : Nat) (s : List Bool) (x : Nat) (l : Int), (wkM f k s x l).1.length = s.length
  | 0, s, x, l => rfl
  | k + 1, s, x, l => by
    rw [wkM]
    split
    · rfl
    · rw [wkM_len f k, List.length_set]
section
variable {f : Nat → Nat} {N : Nat}
/-- What is seen before the walk from w. -/
def SeenB (f : Nat → Nat) (N w : Nat) (s : List Bool) : Prop := s.length = N ∧ ∀ x, x < N → (s.getD x false = true ↔ ∃ y, y < w ∧ Orb f y x)
/-- .. and in it, behind i steps. -/
def SeenI (f : Nat → Nat) (N w i : Nat) (s : List Bool) : Prop := s.length = N ∧ ∀ x, x < N → (s.getD x false = true ↔ ((∃ y, y < w ∧ Orb f y x) ∨ ∃ j, j < i ∧ itT f j w = x))
theorem wk_go (h : TP f N) {w p : Nat} (hw : w < N) (hf : Fst f w) (hp : 0 < p) (he : itT f p w = w) (hd : ∀ j, 0 < j → j < p → itT f j w ≠ w) : ∀ (r i : Nat) (s : List Bool) (l : Int), i + r = p → SeenI f N w i s → ∀ k, r ≤ k → Ends f k s (itT f i w) ∧ SeenI f N w p (wkM f k s (itT f i w) l).1 ∧ (wkM f k s (itT f i w) l).2 = l + (r : Int)
  | 0, i, s, l, hir, hs, k, hk => by
    have : i = p := by omega
    subst this
    have hseen : s.getD (itT f i w) false = true := by
      rw [he]
      exact (hs.2 w hw).2 (.inr ⟨0, hp, rfl⟩)
    rcases k with _ | k
    · exact ⟨hseen, hs, by show l = l + ((0 : Nat) : Int); omega⟩
    · refine ⟨.inl hseen, ?_, ?_⟩
      · rw [wkM, if_pos hseen]; exact hs
      · rw [wkM, if_pos hseen]; show l = l + ((0 : Nat) : Int); omega
  | r + 1, i, s, l, hir, hs, k, hk => by
    have hx := itT_lt h i hw
    have hns : ¬ s.getD (itT f i w) false = true := by
      intro hc
      rcases (hs.2 _ hx).1 hc with ⟨y, hy, ho⟩ | ⟨j, hj, e⟩
      · exact (not_fst h hw).2 ⟨y, hy, orb_trans ho (orb_sym h hw ⟨i, rfl⟩)⟩ hf
      · exact itT_dist h hw hd hj (by omega) e
    obtain ⟨k, rfl⟩ : ∃ k', k = k' + 1 := ⟨k - 1, by omega⟩
    have hs2 : SeenI f N w (i + 1) (s.set (itT f i w) true) := by
      refine ⟨by rw [List.length_set]; exact hs.1, fun x hxN => ?_⟩
      rw [set_at (by rw [hs.1]; exact hx), Bool.or_eq_true, decide_eq_true_eq, hs.2 x hxN]
      constructor
      · rintro (e | ho | ⟨j, hj, e⟩)
        · exact .inr ⟨i, by omega, e⟩
        · exact .inl ho
        · exact .inr ⟨j, by omega, e⟩
      · rintro (ho | ⟨j, hj, e⟩)
        · exact .inr (.inl ho)
        · rcases Nat.lt_or_ge j i with h1 | h1
          · exact .inr (.inr ⟨j, h1, e⟩)
          · have : j = i := by omega
            subst this
            exact .inl e
    obtain ⟨h1, h2, h3⟩ := wk_go h hw hf hp he hd r (i + 1) (s.set (itT f i w) true) (l + 1) (by omega) hs2 k (by omega)
    rw [itT_one] at h1 h2 h3
    refine ⟨.inr h1, ?_, ?_⟩
    · rw [wkM, if_neg hns]; exact h2
    · rw [wkM, if_neg hns, h3]; omega
theorem per_le (h : TP f N) {w p : Nat} (hw : w < N) (hp : 0 < p) (hd : ∀ j, 0 < j → j < p → itT f j w ≠ w) : p ≤ N := by
  apply Nat.le_of_not_lt
  intro hlt
  obtain ⟨i, j, hij, hj, e⟩ := pigeon N (fun i => itT f i w) (fun i _ => itT_lt h i hw)
  exact itT_dist h hw hd hij (by omega) e
/-- One walk: it ends; what was seen behind it; it is longer than nothing exactly if the word is the least of its cycle. -/
theorem wk_one (h : TP f N) {w : Nat} (hw : w < N) {s : List Bool} (hs : SeenB f N w s) : Ends f N s w ∧ SeenB f N (w + 1) (wkM f N s w 0).1 ∧ (Fst f w → 0 < (wkM f N s w 0).2) ∧ (¬ Fst f w → (wkM f N s w 0).2 = 0) ∧ (wkM f N s w 0).2 ≤ (N : Int) ∧ 0 ≤ (wkM f N s w 0).2 := by
  by_cases hf : Fst f w
  · obtain ⟨p, hp, he, hd⟩ := period h hw
    have hs0 : SeenI f N w 0 s := ⟨hs.1, fun x hx => by
      rw [hs.2 x hx]
      constructor
      · exact .inl
      · rintro (ho | ⟨j, hj, _⟩)
        · exact ho
        · exact absurd hj (Nat.not_lt_zero _)⟩
    have hpN := per_le h hw hp hd
    obtain ⟨h1, h2, h3⟩ := wk_go h hw hf hp he hd p 0 s 0 (by omega) hs0 N hpN
    refine ⟨h1, ⟨h2.1, fun x hx => ?_⟩, fun _ => ?_, fun hn => absurd hf hn, ?_, ?_⟩
    · have h2x := h2.2 x hx
      rw [show itT f 0 w = w from rfl] at h2x
      rw [h2x]
      constructor
      · rintro (⟨y, hy, ho⟩ | ⟨j, _, e⟩)
        · exact ⟨y, by omega, ho⟩
        · exact ⟨w, Nat.lt_succ_self w, ⟨j, e⟩⟩
      · rintro ⟨y, hy, ho⟩
        rcases Nat.lt_or_ge y w with h4 | h4
        · exact .inl ⟨y, h4, ho⟩
        · have : y = w := by omega
          subst this
          obtain ⟨j, e⟩ := ho
          rw [itT_mod he j] at e
          exact .inr ⟨j % p, Nat.mod_lt j hp, e⟩
    · rw [show itT f 0 w = w from rfl] at h3; rw [h3]; omega
    · rw [show itT f 0 w = w from rfl] at h3; rw [h3]; omega
    · rw [show itT f 0 w = w from rfl] at h3; rw [h3]; omega
  · have hseen : s.getD w false = true := (hs.2 w hw).2 ((not_fst h hw).1 hf)
    obtain ⟨k, rfl⟩ : ∃ k, N = k + 1 := ⟨N - 1, by omega⟩
    have e : wkM f (k + 1) s w 0 = (s, 0) := by rw [wkM, if_pos hseen]
    rw [e]
    refine ⟨.inl hseen, ⟨hs.1, fun x hx => ?_⟩, fun hc => absurd hc hf, fun _ => rfl, Int.natCast_nonneg _, Int.le_refl _⟩
    rw [hs.2 x hx]
    constructor
    · rintro ⟨y, hy, ho⟩; exact ⟨y, by omega, ho⟩
    · rintro ⟨y, hy, ho⟩
      rcases Nat.lt_or_ge y w with h4 | h4
      · exact ⟨y, h4, ho⟩
      · have : y = w := by omega
        subst this
        obtain ⟨z, hz, hzo⟩ := (not_fst h hw).1 hf
        exact ⟨z, hz, orb_trans hzo ho⟩
end
/-- All walks: what was seen, and the lengths that are not nothing. -/
def cyM (f : Nat → Nat) (N : Nat) : Nat → List Bool × List Int
  | 0 => (List.replicate N false, [])
  | w + 1 => ((wkM f N (cyM f N w).1 w 0).1, if (wkM f N (cyM f N w).1 w 0).2 > 0 then (cyM f N w).2 ++ [(wkM f N (cyM f N w).1 w 0).2] else (cyM f N w).2)
theorem cyM_ok {f : Nat → Nat} {N : Nat} (h : TP f N) : ∀ w, w ≤ N → SeenB f N w (cyM f N w).1 ∧ (cyM f N w).2.length = cntF f w
  | 0, _ => ⟨⟨by rw [cyM, List.length_replicate], fun x hx => by
      rw [cyM]
      constructor
      · intro hc
        have : (List.replicate N false).getD x false = false := by simp [List.getD_eq_getElem?_getD, hx]
        rw [this] at hc; cases hc
      · rintro ⟨y, hy, _⟩; exact absurd hy (Nat.not_lt_zero _)⟩, rfl⟩
  | w + 1, hw => by
    obtain ⟨h1, h2⟩ := cyM_ok h w (by omega)
    obtain ⟨_, g2, g3, g4, _, _⟩ := wk_one h (show w < N by omega) h1
    refine ⟨g2, ?_⟩
    rw [cyM, cntF]
    by_cases hf : Fst f w
    · have := g3 hf
      rw [if_pos hf]
      dsimp only
      rw [if_pos this, List.length_append, h2]; rfl
    · have := g4 hf
      rw [if_neg hf]
      dsimp only
      rw [if_neg (by omega), h2]; rfl
end Go.Proofs.Ytfcadkdgichpmaa

/- Cycles of a table in the program; whether it is odd. -/
namespace Go.Proofs.Ytfcadkdgichpmaa
set_option linter.unusedVariables false
set_option linter.unusedSimpArgs false
set_option maxRecDepth 20000
open Go.RowKit
attribute [local irreducible] runA runX AW
theorem gq_KTB {H G : Prop} (k : H) (h : Hid H → G := by (intro hh; repeat1' (first | (first | ((first | refine r_none ?_ | refine r_gt (by rfl) (by rfl) zDD (by rfl) ?_ | refine r_gf (by rfl) (by rfl) zDD (by rfl) ?_); (first | fail | ((first | (refine z_op (by rfl) ?_; first | refine z_ok ?_ ?_ | refine z_ex ?_ (by first | exact zL1 | ((first | refine mk_c Bool rfl rfl rfl ?_); exact zWW) | exact zL2 | exact rw_c Int rfl | exact zL3 | fail) ?_) | ((first | refine q_callE wsT wsZ (by rfl) ?_ | refine q_callVE wsT (by rfl) (by rfl) ?_); refine ⟨_, _, _, (by first | assumption), _, by rfl, ?_, ?_⟩)); focus (first | exact trivial | fail | exact zQZ)) | fail)) | refine r_nt (by rfl) (by rfl) zDD (by rfl) ?_ | refine r_nf (by rfl) (by rfl) zDD (by rfl) ?_ | refine r_gu (by rfl) (by rfl) (by rfl) ?_ | refine r_nil ?_) | (first | refine aw_seq ?_ | refine aw_ct (by rfl) zDD ?_ | refine aw_cf (by rfl) zDD ?_ | refine aw_block ?_ | refine aw_region T0ok cfU_ok (by rfl) ?_ | refine aw_skip ?_ | refine aw_exit ?_ | refine ra_step ?_)); exact hh.out)) : G := h ⟨k⟩
theorem ga_KTB {H G : Prop} (k : H) (h : Hid H → G := by (intro hh; (first | refine r_none ?_ | refine r_gt (by rfl) (by rfl) zDD (by rfl) ?_ | refine r_gf (by rfl) (by rfl) zDD (by rfl) ?_); refine z_op (by rfl) ?_; refine z_alV ?_ hh.out; focus (first | exact trivial | fail | exact zQZ))) : G := h ⟨k⟩
set_option maxHeartbeats 8000000 in
theorem k_cyc (t : List Int) (ht : tvL (t.length : Int) (List.replicate t.length false) t = true) (h : t.length ≤ 256) : Kon Try.prog 29 [roA t] [] (slA 0 0 (cyM (fT t) t.length t.length).2) [iRow (cyM (fT t) t.length t.length).2] [] := by
  have hT := tv_tp ht
  have hat : ∀ x : Nat, x < t.length → t.getD ((x : Int)).toNat Cel.no = ((fT t x : Nat) : Int) := fun x hx => by
    have := (tvL_at (by rw [List.length_replicate]) ht x hx).1
    show t.getD x 0 = _
    unfold fT; omega
  have hrl : (List.replicate (t.length : Int).toNat (Cel.no : Bool)).length = t.length := by rw [List.length_replicate]; omega
  have hr0 : List.replicate (t.length : Int).toNat (Cel.no : Bool) = (cyM (fT t) t.length 0).1 := by rw [cyM]; rfl
  clear ht
  (refine kon_mk T0ok (fn := Try.f29) (c := Try.f29.body.get rfl) Try.func29 rfl (by rfl) (by rfl) (by rfl) ?_; intro hfit hfe)
  (repeat (first | refine gq_KTB ?_ | (refine ga_KTB ?_; intro _hq)))
  (refine aw_rd [0, 4, 12, 13] [] (fun g : Nat × Nat × List Int × List Bool => [(3, .g (.one (.sl 128 g.2.1 g.2.2.1.length))), (14, vI g.1)]) (fun g => [(128, (g.2.1, iRow g.2.2.1)), (176, (0, bRow g.2.2.2))]) (fun g => g.1 ≤ t.length ∧ g.2.2.1.length ≤ g.1 ∧ g.2.2.1 = (cyM (fT t) t.length g.1).2 ∧ g.2.2.2 = (cyM (fT t) t.length g.1).1) (fun g => t.length - g.1) (0, 0, [], List.replicate (t.length : Int).toNat (Cel.no : Bool)) (by rfl) (by rfl) ?_ (by rfl) zHE zHE ?_)
  · exact ⟨Nat.zero_le _, Nat.le_refl _, rfl, hr0⟩
  rintro ⟨w, u, o, s⟩ ⟨hw, hol, ho, hs⟩
  dsimp only at hw hol ho hs ⊢
  rcases Nat.lt_or_ge w t.length with h5 | h5
  · have hd : decide ((w : Int) < (t.length : Int)) = true := by simpa using h5
    obtain ⟨hsb, _⟩ := cyM_ok hT w hw
    rw [← hs] at hsb
    obtain ⟨hE, hS2, _, _, hRb, hR0⟩ := wk_one hT h5 hsb
    have hsl := hsb.1
    have e1 : cyM (fT t) t.length (w + 1) = ((wkM (fT t) t.length s w 0).1, if (wkM (fT t) t.length s w 0).2 > 0 then o ++ [(wkM (fT t) t.length s w 0).2] else o) := by rw [cyM, ← hs, ← ho]
    obtain ⟨R, hR⟩ : ∃ R, wkM (fT t) t.length s w 0 = R := ⟨_, rfl⟩
    have hRl : R.1.length = t.length := by rw [← hR, wkM_len, hsl]
    rw [hR] at e1 hRb hR0
    clear hS2 hsb hs ho
    (repeat (first | refine gq_KTB ?_ | (refine ga_KTB ?_; intro _hq)))
    (refine aw_rd [0, 3, 4, 5, 12, 13, 14] [128] (fun q : Nat × Nat × Int × List Bool => [(6, vI q.2.2.1), (7, vI q.2.1)]) (fun q => [(176, (0, bRow q.2.2.2))]) (fun q => q.1 ≤ t.length ∧ q.2.1 < t.length ∧ q.2.2.2.length = t.length ∧ (0 ≤ q.2.2.1 ∧ q.2.2.1 + (q.1 : Int) ≤ (t.length : Int)) ∧ Ends (fT t) q.1 q.2.2.2 q.2.1 ∧ wkM (fT t) q.1 q.2.2.2 q.2.1 q.2.2.1 = R) (fun q => q.1) (t.length, w, 0, s) (by rfl) (by rfl) ?_ (by rfl) zHE zHE ?_)
    · exact ⟨Nat.le_refl _, h5, hsl, ⟨Int.le_refl _, by show (0 : Int) + _ ≤ _; omega⟩, hE, hR⟩
    rintro ⟨k, x, l, s'⟩ ⟨hk, hx, hsl', hl, hE', hR'⟩
    dsimp only at hk hx hsl' hl hE' hR' ⊢
    have hax := hat x hx
    cases hv : s'.getD x false with
    | true =>
      have hv2 : s'.getD ((x : Int)).toNat Cel.no = true := hv
      have hv3 : (!(s'.getD ((x : Int)).toNat Cel.no)) = false := by rw [hv2]; rfl
      have hfin : (s', l) = R := by
        rcases k with _ | k
        · exact hR'
        · rw [wkM, if_pos hv] at hR'; exact hR'
      subst hfin
      clear hE' hR' hE hR hv hv2
      rcases Int.lt_or_le 0 l with h6 | h6
      · have hd2 : decide (l > 0) = true := decide_eq_true h6
        rw [if_pos h6] at e1
        have hinv : w + 1 ≤ t.length ∧ (o ++ [l]).length ≤ w + 1 ∧ (o ++ [l]) = (cyM (fT t) t.length (w + 1)).2 ∧ s' = (cyM (fT t) t.length (w + 1)).1 := ⟨h5, by rw [List.length_append]; simp; omega, by rw [e1], by rw [e1]⟩
        clear e1
        (repeat (first | refine gq_KTB ?_ | (refine ga_KTB ?_; intro _hq)))
        exact ⟨(w + 1, u + 1, o ++ [l], s'), hinv, ⟨by rfl, zHE, zHE⟩, (by first | omega | (dsimp only; omega))⟩
      · have hd2 : decide (l > 0) = false := decide_eq_false (by omega)
        rw [if_neg (by dsimp only; omega)] at e1
        have hinv : w + 1 ≤ t.length ∧ o.length ≤ w + 1 ∧ o = (cyM (fT t) t.length (w + 1)).2 ∧ s' = (cyM (fT t) t.length (w + 1)).1 := ⟨h5, by omega, by rw [e1], by rw [e1]⟩
        clear e1
        (repeat (first | refine gq_KTB ?_ | (refine ga_KTB ?_; intro _hq)))
        exact ⟨(w + 1, u, o, s'), hinv, ⟨by rfl, zHE, zHE⟩, (by first | omega | (dsimp only; omega))⟩
    | false =>
      have hv2 : s'.getD ((x : Int)).toNat Cel.no = false := hv
      have hnt : ¬ s'.getD x false = true := by rw [hv]; decide
      rcases k with _ | k
      · exact absurd hE' hnt
      · rw [wkM, if_neg hnt] at hR'
        have hE2 : Ends (fT t) k (s'.set x true) (fT t x) := hE'.resolve_left hnt
        have hinv : k ≤ t.length ∧ fT t x < t.length ∧ (s'.set x true).length = t.length ∧ (0 ≤ l + 1 ∧ l + 1 + (k : Int) ≤ (t.length : Int)) ∧ Ends (fT t) k (s'.set x true) (fT t x) ∧ wkM (fT t) k (s'.set x true) (fT t x) (l + 1) = R := ⟨by omega, hT.bd x hx, by rw [List.length_set]; exact hsl', ⟨by omega, by omega⟩, hE2, hR'⟩
        clear hE' hR' hE hR e1 hE2
        (repeat (first | refine gq_KTB ?_ | (refine ga_KTB ?_; intro _hq)))
        exact ⟨(k, fT t x, l + 1, s'.set x true), hinv, ⟨by rfl, ⟨by rfl, ⟨vI_of (by rfl) hax, zHE⟩⟩, zHE⟩, (by first | omega | (dsimp only; omega))⟩
  · have hd : decide ((w : Int) < (t.length : Int)) = false := by simp; omega
    obtain rfl : w = t.length := by omega
    subst ho
    clear hs hol
    (repeat (first | refine gq_KTB ?_ | (refine ga_KTB ?_; intro _hq)))
    (refine rtA ?_; try rfl)
end Go.Proofs.Ytfcadkdgichpmaa

/- TableValid and TableCycles of the reference. -/
namespace Go.Proofs.Ytfcadkdgichpmaa
set_option linter.unusedVariables false
set_option linter.unusedSimpArgs false
set_option maxRecDepth 20000
open Go.RowKit
attribute [local irreducible] runA runX AW
theorem gq_KTC {H G : Prop} (k : H) (h : Hid H → G := by (intro hh; repeat1' (first | (first | ((first | refine r_none ?_ | refine r_gt (by rfl) (by rfl) zDD (by rfl) ?_ | refine r_gf (by rfl) (by rfl) zDD (by rfl) ?_); (first | fail | ((first | (refine z_op (by rfl) ?_; first | refine z_ok ?_ ?_ | refine z_ex ?_ (by first | exact zL1 | ((first | fail); exact zWW) | exact zL2 | fail | exact zL3 | fail) ?_) | ((first | refine q_callE wsT wsZ (by rfl) ?_ | refine q_callVE wsT (by rfl) (by rfl) ?_); refine ⟨_, _, _, (by first | assumption | exact k_l1In _ _ _ | exact k_has _ _ (by omega)), _, by rfl, ?_, ?_⟩)); focus (first | exact trivial | fail | exact zQZ)) | fail)) | refine r_nt (by rfl) (by rfl) zDD (by rfl) ?_ | refine r_nf (by rfl) (by rfl) zDD (by rfl) ?_ | refine r_gu (by rfl) (by rfl) (by rfl) ?_ | refine r_nil ?_) | (first | refine aw_seq ?_ | refine aw_ct (by rfl) zDD ?_ | refine aw_cf (by rfl) zDD ?_ | refine aw_block ?_ | refine aw_region T0ok cfU_ok (by rfl) ?_ | refine aw_skip ?_ | refine aw_exit ?_ | refine ra_step ?_)); exact hh.out)) : G := h ⟨k⟩
theorem ga_KTC {H G : Prop} (k : H) (h : Hid H → G := by (intro hh; (first | refine r_none ?_ | refine r_gt (by rfl) (by rfl) zDD (by rfl) ?_ | refine r_gf (by rfl) (by rfl) zDD (by rfl) ?_); refine z_op (by rfl) ?_; refine z_alV ?_ hh.out; focus (first | exact trivial | fail | exact zQZ))) : G := h ⟨k⟩
theorem take_j {l : List Int} {k : Nat} (h : k < l.length) : l.take (k + 1) = l.take k ++ [l.getD k 0] := by
  rw [List.take_succ_eq_append_getElem h]
  simp [List.getD_eq_getElem?_getD, h]
set_option maxHeartbeats 4000000 in
theorem k_tvS (n : Int) (t : List Int) (hr : -9223372036854775808 ≤ n ∧ n ≤ 9223372036854775807) (h : t.length ≤ 1000) : Kon Try.prog 15 [vI n, roA t] [] (vB (tvB n t)) [] [] := by
  unfold tvB
  cases hn : btw n 1 8 with
  | false =>
    (refine kon_mk T0ok (fn := Try.f15) (c := Try.f15.body.get rfl) Try.func15 rfl (by rfl) (by rfl) (by rfl) ?_; intro hfit hfe)
    (repeat (first | refine gq_KTC ?_ | (refine ga_KTC ?_; intro _hq)))
    (refine rtA ?_; try rfl)
  | true =>
  have hn' := btw_t hn
  have h8 := pow_8 hn'
  rw [Bool.true_and]
  cases hl : ((t.length : Int) == 2 ^ n.toNat) with
  | false =>
    have hl2 : ((t.length : Int) != 1 * 2 ^ n.toNat) = true := by rw [Int.one_mul, bne, hl]; rfl
    (refine kon_mk T0ok (fn := Try.f15) (c := Try.f15.body.get rfl) Try.func15 rfl (by rfl) (by rfl) (by rfl) ?_; intro hfit hfe)
    (repeat (first | refine gq_KTC ?_ | (refine ga_KTC ?_; intro _hq)))
    (refine rtA ?_; try rfl)
  | true =>
  have hl2 : ((t.length : Int) != 1 * 2 ^ n.toNat) = false := by rw [Int.one_mul, bne, hl]; rfl
  have hlN : (t.length : Int) = 2 ^ n.toNat := beq_iff_eq.1 hl
  rw [Bool.true_and]
  (refine kon_mk T0ok (fn := Try.f15) (c := Try.f15.body.get rfl) Try.func15 rfl (by rfl) (by rfl) (by rfl) ?_; intro hfit hfe)
  (repeat (first | refine gq_KTC ?_ | (refine ga_KTC ?_; intro _hq)))
  (refine aw_rd [0, 1] [] (fun i : Nat => [(5, vI i)]) (fun _ => []) (fun i => i ≤ t.length ∧ (∀ x ∈ t.take i, 0 ≤ x ∧ x < (t.length : Int)) ∧ tvL (t.length : Int) (seenL (List.replicate t.length false) (t.take i)) (t.drop i) = tvL (t.length : Int) (List.replicate t.length false) t) (fun i => t.length - i) 0 (by rfl) (by rfl) ?_ (by rfl) zHE zHE ?_)
  · exact ⟨Nat.zero_le _, by simp, rfl⟩
  rintro i ⟨hi, hp, hz⟩
  rcases Nat.lt_or_ge i t.length with h5 | h5
  · have hd : decide ((i : Int) < (t.length : Int)) = true := by simpa using h5
    have hlt : (t.take i).length ≤ 1000 := by rw [List.length_take]; omega
    have hH := k_has (t.take i) (t.getD (i : Int).toNat Cel.no) (by omega)
    have hW := k_wvS2 n (t.getD (i : Int).toNat Cel.no)
    have hti := take_j h5
    rw [tvL_drop h5] at hz
    have hwv : wvB n (t.getD (i : Int).toNat Cel.no) = btw (t.getD i 0) 0 ((t.length : Int) - 1) := by
      unfold wvB; rw [hn, Bool.true_and, hlN]; rfl
    rw [hwv] at hW
    cases hb : btw (t.getD i 0) 0 ((t.length : Int) - 1) with
    | false =>
      rw [hb] at hW
      rw [hb, Bool.false_and, Bool.false_and] at hz
      rw [← hz]
      clear hz hp hti
      (repeat (first | refine gq_KTC ?_ | (refine ga_KTC ?_; intro _hq)))
      (refine aw_draw mixed T0ok cfU_ok [] (by rfl) (by kernel_rfl) ?_)
      (repeat (first | refine gq_KTC ?_ | (refine ga_KTC ?_; intro _hq)))
      (refine rtA ?_; try rfl)
    | true =>
      rw [hb] at hW
      have hb' := btw_t hb
      rw [hb, Bool.true_and] at hz
      have hsn := seenL_at (t.take i) (List.replicate t.length false) (t.getD i 0) (by rw [List.length_replicate]; exact hp) hb'.1
      have hr0 : (List.replicate t.length false).getD (t.getD i 0).toNat false = false := by
        rw [List.getD_eq_getElem?_getD]
        cases hq : (List.replicate t.length false)[(t.getD i 0).toNat]? with
        | none => rfl
        | some v => have := List.eq_of_mem_replicate (List.mem_of_getElem? hq); rw [this]; rfl
      rw [hr0, Bool.false_or] at hsn
      have hhas : hasB (t.take i) (t.getD (i : Int).toNat Cel.no) = (t.take i).any (· == t.getD i 0) := rfl
      cases hv : (t.take i).any (· == t.getD i 0) with
      | true =>
        rw [hsn, hv, Bool.not_true, Bool.false_and] at hz
        rw [hhas, hv] at hH
        rw [← hz]
        clear hz hp hti hsn
        (repeat (first | refine gq_KTC ?_ | (refine ga_KTC ?_; intro _hq)))
        (refine aw_draw mixed T0ok cfU_ok [] (by rfl) (by kernel_rfl) ?_)
        (repeat (first | refine gq_KTC ?_ | (refine ga_KTC ?_; intro _hq)))
        (refine rtA ?_; try rfl)
      | false =>
        rw [hsn, hv, Bool.not_false, Bool.true_and, ← seenL_snoc, ← hti] at hz
        rw [hhas, hv] at hH
        have hp2 : ∀ x ∈ t.take (i + 1), 0 ≤ x ∧ x < (t.length : Int) := by
          intro x hx
          rw [hti] at hx
          rcases List.mem_append.1 hx with hx | hx
          · exact hp x hx
          · rw [List.mem_singleton] at hx; subst hx; omega
        have hinv : i + 1 ≤ t.length ∧ (∀ x ∈ t.take (i + 1), 0 ≤ x ∧ x < (t.length : Int)) ∧ tvL (t.length : Int) (seenL (List.replicate t.length false) (t.take (i + 1))) (t.drop (i + 1)) = tvL (t.length : Int) (List.replicate t.length false) t := ⟨h5, hp2, hz⟩
        clear hz hp hti hsn hp2
        (repeat (first | refine gq_KTC ?_ | (refine ga_KTC ?_; intro _hq)))
        (refine aw_draw mixed T0ok cfU_ok [] (by rfl) (by kernel_rfl) ?_)
        (repeat (first | refine gq_KTC ?_ | (refine ga_KTC ?_; intro _hq)))
        exact ⟨i + 1, hinv, ⟨by rfl, zHE, zHE⟩, (by first | omega | (dsimp only; omega))⟩
  · have hd : decide ((i : Int) < (t.length : Int)) = false := by simp; omega
    rw [List.drop_of_length_le h5, tvL] at hz
    rw [← hz]
    clear hz hp
    (repeat (first | refine gq_KTC ?_ | (refine ga_KTC ?_; intro _hq)))
    (refine rtA ?_; try rfl)
open Classical in
set_option maxHeartbeats 8000000 in
theorem k_tcS (n : Int) (t : List Int) (hr : -9223372036854775808 ≤ n ∧ n ≤ 9223372036854775807) (h : t.length ≤ 256) (hv : tvB n t = true) : Kon Try.prog 16 [vI n, roA t] [] (vI ((cntF (fT t) t.length : Nat) : Int)) [] [] := by
  have hV := k_tvS n t hr (by omega)
  rw [hv] at hV
  have ht : tvL (t.length : Int) (List.replicate t.length false) t = true := by
    unfold tvB at hv
    rw [Bool.and_eq_true, Bool.and_eq_true] at hv
    exact hv.2.2
  have hT := tv_tp ht
  have hat : ∀ x : Nat, x < t.length → t.getD ((x : Int)).toNat Cel.no = ((fT t x : Nat) : Int) := fun x hx => by
    have := (tvL_at (by rw [List.length_replicate]) ht x hx).1
    show t.getD x 0 = _
    unfold fT; omega
  clear ht hv
  (refine kon_mk T0ok (fn := Try.f16) (c := Try.f16.body.get rfl) Try.func16 rfl (by rfl) (by rfl) (by rfl) ?_; intro hfit hfe)
  (repeat (first | refine gq_KTC ?_ | (refine ga_KTC ?_; intro _hq)))
  (refine aw_rd [0, 1] [] (fun k : Nat => [(5, vI ((cntF (fT t) k : Nat) : Int)), (6, vI k)]) (fun _ => []) (fun k => k ≤ t.length) (fun k => t.length - k) 0 (by rfl) (by rfl) ?_ (by rfl) zHE zHE ?_)
  · exact Nat.zero_le _
  rintro k hk
  rcases Nat.lt_or_ge k t.length with h5 | h5
  · have hd : decide ((k : Int) < (t.length : Int)) = true := by simpa using h5
    obtain ⟨p, hp, he, hdp⟩ := period hT h5
    have hfi := fst_iff hT h5 hp he hdp
    have hcl := cntF_le (fT t) k
    have hak := hat k h5
    have hinv5 : k + 1 ≤ t.length := h5
    have hcs : cntF (fT t) (k + 1) = cntF (fT t) k + (if Fst (fT t) k then 1 else 0) := rfl
    (repeat (first | refine gq_KTC ?_ | (refine ga_KTC ?_; intro _hq)))
    rw [hak]
    (refine aw_rd [0, 1, 5, 6] [] (fun g : Nat × Bool => [(7, vB g.2), (8, vI ((itT (fT t) g.1 k : Nat) : Int))]) (fun _ => []) (fun g => 0 < g.1 ∧ g.1 ≤ p ∧ g.2 = decide (∀ j, 0 < j → j < g.1 → k < itT (fT t) j k)) (fun g => p - g.1) (1, true) (by rfl) (by rfl) ?_ (by rfl) zHE zHE ?_)
    · exact ⟨Nat.one_pos, hp, by rw [eq_comm, decide_eq_true_eq]; intro j h1 h2; omega⟩
    rintro ⟨i, b⟩ ⟨hi0, hip, hb⟩
    dsimp only at hi0 hip hb ⊢
    have hil := itT_lt hT i h5
    have hai := hat _ hil
    rw [← itT_one (fT t) i k] at hai
    rcases Nat.lt_or_ge i p with h6 | h6
    · have hne : (((itT (fT t) i k : Nat) : Int) != (k : Int)) = true := by
        rw [bne_iff_ne]; intro e; exact hdp i hi0 h6 (Int.ofNat.inj e)
      have hb2 : (b && decide (((itT (fT t) i k : Nat) : Int) > (k : Int))) = decide (∀ j, 0 < j → j < i + 1 → k < itT (fT t) j k) := by
        rw [hb, Bool.eq_iff_iff, Bool.and_eq_true, decide_eq_true_eq, decide_eq_true_eq, decide_eq_true_eq]
        constructor
        · rintro ⟨h1, h2⟩ j hj0 hj
          rcases Nat.lt_or_ge j i with h3 | h3
          · exact h1 j hj0 h3
          · have : j = i := by omega
            subst this; omega
        · intro h1
          exact ⟨fun j hj0 hj => h1 j hj0 (by omega), by have := h1 i hi0 (Nat.lt_succ_self i); omega⟩
      cases b with
      | true =>
        rw [Bool.true_and] at hb2
        have hinv : 0 < i + 1 ∧ i + 1 ≤ p ∧ decide (((itT (fT t) i k : Nat) : Int) > (k : Int)) = decide (∀ j, 0 < j → j < i + 1 → k < itT (fT t) j k) := ⟨Nat.succ_pos i, h6, hb2⟩
        clear hb hb2 hfi
        (repeat (first | refine gq_KTC ?_ | (refine ga_KTC ?_; intro _hq)))
        exact ⟨(i + 1, decide (((itT (fT t) i k : Nat) : Int) > (k : Int))), hinv, ⟨by rfl, ⟨by rfl, ⟨vI_of (by rfl) hai, zHE⟩⟩, zHE⟩, (by first | omega | (dsimp only; omega))⟩
      | false =>
        rw [Bool.false_and] at hb2
        have hinv : 0 < i + 1 ∧ i + 1 ≤ p ∧ false = decide (∀ j, 0 < j → j < i + 1 → k < itT (fT t) j k) := ⟨Nat.succ_pos i, h6, hb2⟩
        clear hb hb2 hfi
        (repeat (first | refine gq_KTC ?_ | (refine ga_KTC ?_; intro _hq)))
        exact ⟨(i + 1, false), hinv, ⟨by rfl, ⟨by rfl, ⟨vI_of (by rfl) hai, zHE⟩⟩, zHE⟩, (by first | omega | (dsimp only; omega))⟩
    · obtain rfl : i = p := by omega
      have hne : (((itT (fT t) i k : Nat) : Int) != (k : Int)) = false := by rw [he]; simp
      cases b with
      | true =>
        have hf : Fst (fT t) k := hfi.2 (by rw [eq_comm, decide_eq_true_eq] at hb; exact hb)
        rw [if_pos hf] at hcs
        have e3 : ((cntF (fT t) k : Nat) : Int) + 1 = ((cntF (fT t) (k + 1) : Nat) : Int) := by omega
        clear hb hfi hcs
        (repeat (first | refine gq_KTC ?_ | (refine ga_KTC ?_; intro _hq)))
        exact ⟨k + 1, hinv5, ⟨by rfl, ⟨vI_of (by rfl) e3, zHE⟩, zHE⟩, (by first | omega | (dsimp only; omega))⟩
      | false =>
        have hf : ¬ Fst (fT t) k := fun hc => by
          have := hfi.1 hc
          rw [eq_comm, decide_eq_false_iff_not] at hb
          exact hb this
        rw [if_neg hf] at hcs
        have e3 : ((cntF (fT t) k : Nat) : Int) = ((cntF (fT t) (k + 1) : Nat) : Int) := by omega
        clear hb hfi hcs
        (repeat (first | refine gq_KTC ?_ | (refine ga_KTC ?_; intro _hq)))
        exact ⟨k + 1, hinv5, ⟨by rfl, ⟨vI_of (by rfl) e3, zHE⟩, zHE⟩, (by first | omega | (dsimp only; omega))⟩
  · have hd : decide ((k : Int) < (t.length : Int)) = false := by simp; omega
    obtain rfl : k = t.length := by omega
    (repeat (first | refine gq_KTC ?_ | (refine ga_KTC ?_; intro _hq)))
    (refine rtA ?_; try rfl)
end Go.Proofs.Ytfcadkdgichpmaa

/- Whether a table is odd: both sides. -/
namespace Go.Proofs.Ytfcadkdgichpmaa
set_option linter.unusedVariables false
set_option linter.unusedSimpArgs false
set_option maxRecDepth 20000
open Go.RowKit
attribute [local irreducible] runA runX AW
theorem gq_KTD {H G : Prop} (k : H) (h : Hid H → G := by (intro hh; repeat1' (first | (first | ((first | refine r_none ?_ | refine r_gt (by rfl) (by rfl) zDD (by rfl) ?_ | refine r_gf (by rfl) (by rfl) zDD (by rfl) ?_); (first | fail | ((first | (refine z_op (by rfl) ?_; first | refine z_ok ?_ ?_ | refine z_ex ?_ (by first | exact zL1 | ((first | fail); exact zWW) | exact zL2 | fail | exact zL3 | fail) ?_) | ((first | refine q_callE wsT wsZ (by rfl) ?_ | refine q_callVE wsT (by rfl) (by rfl) ?_); refine ⟨_, _, _, (by first | assumption), _, by rfl, ?_, ?_⟩)); focus (first | exact trivial | fail | exact zQZ)) | fail)) | refine r_nt (by rfl) (by rfl) zDD (by rfl) ?_ | refine r_nf (by rfl) (by rfl) zDD (by rfl) ?_ | refine r_gu (by rfl) (by rfl) (by rfl) ?_ | refine r_nil ?_) | (first | refine aw_seq ?_ | refine aw_ct (by rfl) zDD ?_ | refine aw_cf (by rfl) zDD ?_ | refine aw_block ?_ | refine aw_region T0ok cfU_ok (by rfl) ?_ | refine aw_skip ?_ | refine aw_exit ?_ | refine ra_step ?_)); exact hh.out)) : G := h ⟨k⟩
theorem ga_KTD {H G : Prop} (k : H) (h : Hid H → G := by (intro hh; (first | refine r_none ?_ | refine r_gt (by rfl) (by rfl) zDD (by rfl) ?_ | refine r_gf (by rfl) (by rfl) zDD (by rfl) ?_); refine z_op (by rfl) ?_; refine z_alV ?_ hh.out; focus (first | exact trivial | fail | exact zQZ))) : G := h ⟨k⟩
theorem odd_eq {a b : Nat} (h : b ≤ a) : ((a - b) % 2 == 1) = ((((a : Nat) : Int) - ((b : Nat) : Int)) % 2 == 1) := by
  rw [Bool.eq_iff_iff, beq_iff_eq, beq_iff_eq]; omega
theorem k_oddI (t : List Int) (ht : tvL (t.length : Int) (List.replicate t.length false) t = true) (h : t.length ≤ 256) : Kon Try.prog 14 [roA t] [] (vB ((t.length - cntF (fT t) t.length) % 2 == 1)) [] [] := by
  have hC := k_cyc t ht h
  have hT := tv_tp ht
  have hl := (cyM_ok hT t.length (Nat.le_refl _)).2
  have hle := cntF_le (fT t) t.length
  generalize (cyM (fT t) t.length t.length).2 = cs at hC hl
  rw [← hl] at hle ⊢
  rw [odd_eq hle]
  clear ht hT hl
  (refine kon_mk T0ok (fn := Try.f14) (c := Try.f14.body.get rfl) Try.func14 rfl (by rfl) (by rfl) (by rfl) ?_; intro hfit hfe)
  (repeat (first | refine gq_KTD ?_ | (refine ga_KTD ?_; intro _hq)))
  (refine rtA ?_; try rfl)
theorem tvB_t {n : Int} {t : List Int} (h : tvB n t = true) : (1 ≤ n ∧ n ≤ 8) ∧ tvL (t.length : Int) (List.replicate t.length false) t = true ∧ t.length ≤ 256 := by
  unfold tvB at h
  rw [Bool.and_eq_true, Bool.and_eq_true, beq_iff_eq] at h
  have hn := btw_t h.1
  have h8 := pow_8 hn
  exact ⟨hn, h.2.2, by omega⟩
theorem k_toI (n : Int) (t : List Int) (h : t.length ≤ 1000) : Kon Try.prog 5 [vI n, roA t] [] (vB (toB n t)) [] [] := by
  have hV := k_tvI n t h
  unfold toB
  cases hv : tvB n t with
  | false =>
    rw [hv] at hV
    (refine kon_mk T0ok (fn := Try.f5) (c := Try.f5.body.get rfl) Try.func5 rfl (by rfl) (by rfl) (by rfl) ?_; intro hfit hfe)
    (repeat (first | refine gq_KTD ?_ | (refine ga_KTD ?_; intro _hq)))
    (refine rtA ?_; try rfl)
  | true =>
    rw [hv] at hV
    obtain ⟨_, h1, h2⟩ := tvB_t hv
    have hO := k_oddI t h1 h2
    rw [Bool.true_and]
    clear hv h1
    (refine kon_mk T0ok (fn := Try.f5) (c := Try.f5.body.get rfl) Try.func5 rfl (by rfl) (by rfl) (by rfl) ?_; intro hfit hfe)
    (repeat (first | refine gq_KTD ?_ | (refine ga_KTD ?_; intro _hq)))
    (refine rtA ?_; try rfl)
theorem k_toS (n : Int) (t : List Int) (hr : -9223372036854775808 ≤ n ∧ n ≤ 9223372036854775807) (h : t.length ≤ 1000) : Kon Try.prog 6 [vI n, roA t] [] (vB (toB n t)) [] [] := by
  have hV := k_tvS n t hr h
  unfold toB
  cases hv : tvB n t with
  | false =>
    rw [hv] at hV
    (refine kon_mk T0ok (fn := Try.f6) (c := Try.f6.body.get rfl) Try.func6 rfl (by rfl) (by rfl) (by rfl) ?_; intro hfit hfe)
    (repeat (first | refine gq_KTD ?_ | (refine ga_KTD ?_; intro _hq)))
    (refine rtA ?_; try rfl)
  | true =>
    rw [hv] at hV
    obtain ⟨_, h1, h2⟩ := tvB_t hv
    have hO := k_tcS n t hr h2 hv
    have hle := cntF_le (fT t) t.length
    generalize cntF (fT t) t.length = m at hO hle
    rw [Bool.true_and, odd_eq hle]
    clear hv h1
    (refine kon_mk T0ok (fn := Try.f6) (c := Try.f6.body.get rfl) Try.func6 rfl (by rfl) (by rfl) (by rfl) ?_; intro hfit hfe)
    (repeat (first | refine gq_KTD ?_ | (refine ga_KTD ?_; intro _hq)))
    (refine rtA ?_; try rfl)
end Go.Proofs.Ytfcadkdgichpmaa

/- Tables of circuits are valid, and as odd as their gates. -/
namespace Go.Proofs.Ytfcadkdgichpmaa
set_option linter.unusedVariables false
set_option linter.unusedSimpArgs false
theorem pow_N {n : Int} {N : Nat} (hN : (2 ^ n.toNat : Int) = (N : Int)) : 2 ^ n.toNat = N := by
  have : ((2 ^ n.toNat : Nat) : Int) = (N : Int) := by rw [Int.natCast_pow]; exact hN
  exact Int.ofNat.inj this
theorem tab_valid {n : Int} {c : List Gt} {N : Nat} (h : cokB n c = true) (hN : (2 ^ n.toNat : Int) = (N : Int)) : tvB n (tabN c N) = true := by
  have hb := cokB_t h
  have hpn := pow_N hN
  have hl := tabN_len c N
  have hT := crN_tp hb.2.2
  rw [hpn] at hT
  have hbt : btw n 1 8 = true := by unfold btw; rw [decide_eq_true hb.1.1, decide_eq_true hb.1.2]; rfl
  have hg : ∀ i, i < N → (tabN c N).getD i 0 = ((crN c i : Nat) : Int) := fun i hi => by
    rw [tabN_get c N i hi]; exact ((crN_lt hb.2.2 (by rw [hpn]; exact hi)).2).symm
  unfold tvB
  rw [hbt, hl, Bool.true_and, beq_iff_eq.2 hN.symm, Bool.true_and]
  refine tvL_of (by rw [List.length_replicate]) (fun i hi => ?_) (fun i j hij hj => ?_)
  · rw [hl] at hi
    rw [hg i hi]
    have := hT.bd i hi
    refine ⟨by omega, ?_⟩
    rw [Int.toNat_natCast]
    simp [List.getD_eq_getElem?_getD, this]
  · rw [hl] at hj
    rw [hg i (by omega), hg j hj]
    intro e
    have := hT.inj i j (by omega) hj (Int.ofNat.inj e)
    omega
theorem tab_par {n : Int} {c : List Gt} {N : Nat} (h : cokB n c = true) (hN : (2 ^ n.toNat : Int) = (N : Int)) : toB n (tabN c N) = (parC n c == 1) := by
  have hb := cokB_t h
  have hpn := pow_N hN
  have hl := tabN_len c N
  have hT := crN_tp hb.2.2
  rw [hpn] at hT
  have e : ∀ x, x < N → crN c x = fT (tabN c N) x := fun x hx => by
    unfold fT
    rw [tabN_get c N x hx]; rfl
  have e2 := cntF_ext hT e N (Nat.le_refl _)
  unfold toB parC
  rw [tab_valid h hN, Bool.true_and, hl, ← e2, hpn]
  have := cntF_le (crN c) N
  have : (N - cntF (crN c) N) % 2 = (N + cntF (crN c) N) % 2 := by omega
  rw [this]
end Go.Proofs.Ytfcadkdgichpmaa

/- The law FnCircuitTable. -/
namespace Go.Proofs.Ytfcadkdgichpmaa
set_option linter.unusedVariables false
set_option linter.unusedSimpArgs false
set_option maxRecDepth 20000
open Go.RowKit
attribute [local irreducible] runA runX AW
theorem gq_KBO {H G : Prop} (k : H) (h : Hid H → G := by (intro hh; repeat1' (first | (first | ((first | refine r_none ?_ | refine r_gt (by rfl) (by rfl) zDD (by rfl) ?_ | refine r_gf (by rfl) (by rfl) zDD (by rfl) ?_); (first | fail | ((first | (refine z_op (by rfl) ?_; first | refine z_ok ?_ ?_ | refine z_ex ?_ (by first | exact zL1 | ((first | (first | refine mk_0 Int rfl rfl ?_ | refine mk_0 Gt rfl rfl ?_)); exact zWW) | exact zL2 | exact rw_c Int rfl | exact zL3 | fail) ?_) | ((first | refine q_callE wsT wsZT (by rfl) ?_ | refine q_callVE wsT (by rfl) (by rfl) ?_); refine ⟨_, _, _, (by first | assumption | exact k_alive | exact k_open _ (by omega)), _, by rfl, ?_, ?_⟩)); focus (first | exact trivial | fail | exact zQZ)) | fail)) | refine r_nt (by rfl) (by rfl) zDD (by rfl) ?_ | refine r_nf (by rfl) (by rfl) zDD (by rfl) ?_ | refine r_gu (by rfl) (by rfl) (by rfl) ?_ | refine r_nil ?_) | (first | refine aw_seq ?_ | refine aw_ct (by rfl) zDD ?_ | refine aw_cf (by rfl) zDD ?_ | refine aw_block ?_ | refine aw_region T0ok cfU_ok (by rfl) ?_ | refine aw_skip ?_ | refine aw_exit ?_ | refine ra_step ?_)); exact hh.out)) : G := h ⟨k⟩
theorem ga_KBO {H G : Prop} (k : H) (h : Hid H → G := by (intro hh; (first | refine r_none ?_ | refine r_gt (by rfl) (by rfl) zDD (by rfl) ?_ | refine r_gf (by rfl) (by rfl) zDD (by rfl) ?_); refine z_op (by rfl) ?_; refine z_al ?_ hh.out; focus (first | exact trivial | fail | exact zQZ))) : G := h ⟨k⟩
theorem ex_dTab (l : List UInt8) (hl : l.length ≤ 100000000) : ∃ (L : Int) (cs : List Gt), (-1 ≤ L ∧ L ≤ 9) ∧ cs.length ≤ 31 ∧ (∀ g ∈ cs, gtb g) ∧ Kon Try.prog 7 [roA l] [] (.tup [.one (.v (.int .i64 L)), .one (.sl 0 0 cs.length)]) [gRow cs] [] := by
  have h2 : (l.take 2000).length ≤ 2000 := by simp; omega
  obtain ⟨L, cs, c', h3, h4, h5, h6, hK⟩ := ex_lined (l.take 2000) 0 9 (by omega) (by omega)
  refine ⟨L, cs, h3, h4, h5, ?_⟩
  (refine kon_mk T0ok (fn := Try.f7) (c := Try.f7.body.get rfl) Try.func7 rfl (by rfl) (by rfl) (by rfl) ?_; intro hfit hfe)
  (repeat (first | refine gq_KBO ?_ | (refine ga_KBO ?_; intro _q ⟨_he, _hq⟩)))
  (refine rtA ?_; try rfl)












































































end Go.Proofs.Ytfcadkdgichpmaa

/- The law FnTableOdd. -/
namespace Go.Proofs.Ytfcadkdgichpmaa
set_option linter.unusedVariables false
set_option linter.unusedSimpArgs false
set_option maxRecDepth 20000
open Go.RowKit
attribute [local irreducible] runA runX AW
def wsTO : WsT := (7, ([], true)) :: (4, ([], true)) :: wsT
theorem gq_KTF {H G : Prop} (k : H) (h : Hid H → G := by (intro hh; repeat1' (first | (first | ((first | refine r_none ?_ | refine r_gt (by rfl) (by rfl) zDD (by rfl) ?_ | refine r_gf (by rfl) (by rfl) zDD (by rfl) ?_); (first | fail | ((first | (refine z_op (by rfl) ?_; first | refine z_ok ?_ ?_ | refine z_ex ?_ (by first | exact zL1 | ((first | fail); exact zWW) | exact zL2 | fail | exact zL3 | fail) ?_) | ((first | refine q_callE wsTO wsZ (by rfl) ?_ | refine q_callVE wsTO (by rfl) (by rfl) ?_); refine ⟨_, _, _, (by first | assumption | exact k_alive), _, by rfl, ?_, ?_⟩)); focus (first | exact trivial | fail | exact zQZ)) | fail)) | refine r_nt (by rfl) (by rfl) zDD (by rfl) ?_ | refine r_nf (by rfl) (by rfl) zDD (by rfl) ?_ | refine r_gu (by rfl) (by rfl) (by rfl) ?_ | refine r_nil ?_) | (first | refine aw_seq ?_ | refine aw_ct (by rfl) zDD ?_ | refine aw_cf (by rfl) zDD ?_ | refine aw_block ?_ | refine aw_region T0ok cfU_ok (by rfl) ?_ | refine aw_skip ?_ | refine aw_exit ?_ | refine ra_step ?_)); exact hh.out)) : G := h ⟨k⟩
theorem ga_KTF {H G : Prop} (k : H) (h : Hid H → G := by (intro hh; (first | refine r_none ?_ | refine r_gt (by rfl) (by rfl) zDD (by rfl) ?_ | refine r_gf (by rfl) (by rfl) zDD (by rfl) ?_); refine z_op (by rfl) ?_; refine z_alV ?_ hh.out; focus (first | exact trivial | fail | exact zQZ))) : G := h ⟨k⟩
theorem gs_KTF {H G : Prop} (k : H) (h : Hid H → G := by (intro hh; repeat1' (first | ((first | refine r_none ?_ | refine r_gt (by rfl) (by rfl) zDD (by rfl) ?_ | refine r_gf (by rfl) (by rfl) zDD (by rfl) ?_); (first | fail | ((first | (refine z_op (by rfl) ?_; first | refine z_ok ?_ ?_ | refine z_ex ?_ (by first | exact zL1 | ((first | fail); exact zWW) | exact zL2 | fail | exact zL3 | fail) ?_) | ((first | refine q_callE wsTO wsZ (by rfl) ?_ | refine q_callVE wsTO (by rfl) (by rfl) ?_); refine ⟨_, _, _, (by first | assumption | exact k_alive), _, by rfl, ?_, ?_⟩)); focus (first | exact trivial | fail | exact zQZ)) | fail)) | refine r_nt (by rfl) (by rfl) zDD (by rfl) ?_ | refine r_nf (by rfl) (by rfl) zDD (by rfl) ?_ | refine r_gu (by rfl) (by rfl) (by rfl) ?_ | refine r_nil ?_); exact hh.out)) : G := h ⟨k⟩
/-- How many of the first gates are odd. -/
noncomputable def odC (n : Int) (c : List Gt) : Nat → Nat
  | 0 => 0
  | k + 1 => odC n c k + (if parC n [c.getD k Cel.no] = 1 then 1 else 0)
theorem getD_all {n : Int} {c : List Gt} (h : c.all (gok n) = true) {k : Nat} (hk : k < c.length) : gok n (c.getD k Cel.no) = true := by
  have e : c.getD k Cel.no = c[k] := by simp [List.getD_eq_getElem?_getD, hk]
  rw [e]
  exact List.all_eq_true.1 h _ (List.getElem_mem hk)
theorem take_g {l : List Gt} {k : Nat} (h : k < l.length) : l.take (k + 1) = l.take k ++ [l.getD k Cel.no] := by
  rw [List.take_succ_eq_append_getElem h]
  simp [List.getD_eq_getElem?_getD, h]
theorem parC_lt (n : Int) (c : List Gt) : parC n c < 2 := Nat.mod_lt _ (by decide)
theorem odC_mod {n : Int} {c : List Gt} (h : c.all (gok n) = true) : ∀ k, k ≤ c.length → odC n c k % 2 = parC n (c.take k)
  | 0, _ => by rw [List.take_zero, parC_nil]; rfl
  | k + 1, hk => by
    have hat : (c.take k).all (gok n) = true := by rw [List.all_eq_true] at h ⊢; exact fun x hx => h x (List.mem_of_mem_take hx)
    rw [take_g hk, parC_snoc hat (getD_all h hk), ← odC_mod h k (by omega), odC]
    have := parC_lt n [c.getD k Cel.no]
    split <;> omega
theorem odC_big {n : Int} {c : List Gt} (h : c.all (gok n) = true) (hn : 4 ≤ n) : ∀ k, k ≤ c.length → odC n c k = 0
  | 0, _ => rfl
  | k + 1, hk => by rw [odC, odC_big h hn k (by omega), parC_big (getD_all h hk) hn]; rfl
theorem odC_le (n : Int) (c : List Gt) : ∀ k, odC n c k ≤ k
  | 0 => Nat.le_refl _
  | k + 1 => by have := odC_le n c k; rw [odC]; split <;> omega
set_option maxHeartbeats 4000000 in
theorem k_lawTO (l m : List UInt8) : Kon Try.prog 3 [roA l, roA m] [] (vB true) [] [] := by
  rcases Nat.lt_or_ge 1048576 l.length with h0 | h0
  · have hd : decide ((l.length : Int) > 1048576) = true := decide_eq_true (by omega)
    (refine kon_mk T0ok (fn := Try.f3) (c := Try.f3.body.get rfl) Try.func3 rfl (by rfl) (by rfl) (by rfl) ?_; intro hfit hfe)
    (repeat (first | refine gq_KTF ?_ | (refine ga_KTF ?_; intro _hq)))
    (refine rtA ?_; try rfl)
  have hd : decide ((l.length : Int) > 1048576) = false := decide_eq_false (by omega)
  rcases Nat.lt_or_ge 1048576 m.length with h1 | h1
  · have hd1 : decide ((m.length : Int) > 1048576) = true := decide_eq_true (by omega)
    (refine kon_mk T0ok (fn := Try.f3) (c := Try.f3.body.get rfl) Try.func3 rfl (by rfl) (by rfl) (by rfl) ?_; intro hfit hfe)
    (repeat (first | refine gq_KTF ?_ | (refine ga_KTF ?_; intro _hq)))
    (refine rtA ?_; try rfl)
  have hd1 : decide ((m.length : Int) > 1048576) = false := decide_eq_false (by omega)
  obtain ⟨L, t, hL, htl, hD⟩ := ex_dTO l (by omega)
  have hI := k_toI L t (by omega)
  have hS := k_toS L t (by omega) (by omega)
  have hne : (toB L t != toB L t) = false := by simp
  obtain ⟨n, cs, hn, hcl, _, hD2⟩ := ex_dTab m (by omega)
  have hC := k_cvS n cs (by omega) (by omega)
  generalize toB L t = b0 at *
  cases hc : cokB n cs with
  | false =>
    rw [hc] at hC
    (refine kon_mk T0ok (fn := Try.f3) (c := Try.f3.body.get rfl) Try.func3 rfl (by rfl) (by rfl) (by rfl) ?_; intro hfit hfe)
    (repeat (first | refine gq_KTF ?_ | (refine ga_KTF ?_; intro _hq)))
    (refine rtA ?_; try rfl)
  | true =>
    rw [hc] at hC
    obtain ⟨hn8, hcl2, ha⟩ := cokB_t hc
    obtain ⟨N, hN, hN8⟩ : ∃ N : Nat, (1 * 2 ^ n.toNat : Int) = (N : Int) ∧ N ≤ 256 := ⟨2 ^ n.toNat, by simp, by
      have := (pow_8 hn8).2
      have e : ((2 ^ n.toNat : Nat) : Int) = 2 ^ n.toNat := by simp
      omega⟩
    have hN2 : (2 : Int) ^ n.toNat = (N : Int) := by rw [← hN, Int.one_mul]
    have hT := k_ct n cs hc N hN
    have hTl := tabN_len cs N
    have hTO := k_toI n (tabN cs N) (by omega)
    rw [tab_par hc hN2] at hTO
    have hone : ∀ k : Nat, k < cs.length → ∃ T : List Int, T.length = N ∧ Kon Try.prog 10 [vI n, roA ((cs.drop (k : Int).toNat).take ((k : Int) + 1 - (k : Int)).toNat)] [] (slA 0 0 T) [iRow T] [] ∧ Kon Try.prog 5 [vI n, roA T] [] (vB (parC n [cs.getD k Cel.no] == 1)) [] [] := by
      intro k hk
      have e1 : ((k : Int) + 1 - (k : Int)).toNat = 1 := by omega
      have e2 : (cs.drop (k : Int).toNat).take 1 = [cs.getD k Cel.no] := by
        have e0 : cs.getD k Cel.no = cs[k] := by simp [List.getD_eq_getElem?_getD, hk]
        rw [Int.toNat_natCast, List.drop_eq_getElem_cons hk, List.take_succ_cons, List.take_zero, e0]
      rw [e1, e2]
      have hg1 : cokB n [cs.getD k Cel.no] = true := cokB_mkM hn8 (by simp) (by rw [List.all_cons, getD_all ha hk]; rfl)
      have hh := k_toI n (tabN [cs.getD k Cel.no] N) (by rw [tabN_len]; omega)
      rw [tab_par hg1 hN2] at hh
      exact ⟨tabN [cs.getD k Cel.no] N, tabN_len _ _, k_ct n _ hg1 N hN, hh⟩
    have hmod := odC_mod ha cs.length (Nat.le_refl _)
    rw [List.take_length] at hmod
    have hbig : 4 ≤ n → odC n cs cs.length = 0 := fun h => odC_big ha h _ (Nat.le_refl _)
    have hple := parC_lt n cs
    have hstep : ∀ k, odC n cs (k + 1) = odC n cs k + (if parC n [cs.getD k Cel.no] = 1 then 1 else 0) := fun k => rfl
    have hle := odC_le n cs
    generalize tabN cs N = T at *
    (refine kon_mk T0ok (fn := Try.f3) (c := Try.f3.body.get rfl) Try.func3 rfl (by rfl) (by rfl) (by rfl) ?_; intro hfit hfe)
    (repeat refine gcA ?_)
    (repeat (first | refine gs_KTF ?_ | (refine ga_KTF ?_; intro _hq)))
    (repeat refine gcA ?_)
    (repeat (first | refine gs_KTF ?_ | (refine ga_KTF ?_; intro _hq)))
    (repeat refine gcA ?_)
    (repeat (first | refine gs_KTF ?_ | (refine ga_KTF ?_; intro _hq)))
    (repeat refine gcA ?_)
    (repeat (first | refine gs_KTF ?_ | (refine ga_KTF ?_; intro _hq)))
    (repeat refine gcA ?_)
    (repeat (first | refine gs_KTF ?_ | (refine ga_KTF ?_; intro _hq)))
    (repeat refine gcA ?_)
    (repeat (first | refine gs_KTF ?_ | (refine ga_KTF ?_; intro _hq)))
    (refine aw_freeze 576 (by rfl) (by rfl) ?_; refine aw_slot 9 4 (by rfl) (by rfl) (by first | exact trivial | omega | exact cvB (fun w => rfl) | ((repeat (any_goals (first | exact rfl | exact cV_len _ | exact cV_ln rfl (by omega) | exact Cel.pos | omega | exact trivial | refine And.intro ?_ ?_))); first | done | fail) | (simp [*]; first | done | fail)) ?_)
    (repeat (first | refine gq_KTF ?_ | (refine ga_KTF ?_; intro _hq)))
    (refine aw_rd [8, 9] [] (fun k : Nat => [(10, vI ((odC n cs k : Nat) : Int)), (11, vI k)]) (fun _ => []) (fun k => k ≤ cs.length) (fun k => cs.length - k) 0 (by rfl) (by rfl) ?_ (by rfl) zHE zHE ?_)
    · exact Nat.zero_le _
    rintro k hk
    rcases Nat.lt_or_ge k cs.length with h6 | h6
    · have hdk : decide ((k : Int) < (cs.length : Int)) = true := by simpa using h6
      obtain ⟨T1, hT1, hK1, hK2⟩ := hone k h6
      have hs := hstep k
      have hk1 := hle k
      clear hT hTO hD hD2
      cases hb : (parC n [cs.getD k Cel.no] == 1) with
      | true =>
        rw [hb] at hK2
        rw [if_pos (beq_iff_eq.1 hb)] at hs
        have e3 : ((odC n cs k : Nat) : Int) + 1 = ((odC n cs (k + 1) : Nat) : Int) := by omega
        (repeat (first | refine gq_KTF ?_ | (refine ga_KTF ?_; intro _hq)))
        exact ⟨k + 1, h6, ⟨by rfl, ⟨vI_of (by rfl) e3, zHE⟩, zHE⟩, (by first | omega | (dsimp only; omega))⟩
      | false =>
        rw [hb] at hK2
        rw [if_neg (beq_eq_false_iff_ne.1 hb)] at hs
        have e3 : ((odC n cs k : Nat) : Int) = ((odC n cs (k + 1) : Nat) : Int) := by omega
        (repeat (first | refine gq_KTF ?_ | (refine ga_KTF ?_; intro _hq)))
        exact ⟨k + 1, h6, ⟨by rfl, ⟨vI_of (by rfl) e3, zHE⟩, zHE⟩, (by first | omega | (dsimp only; omega))⟩
    · have hdk : decide ((k : Int) < (cs.length : Int)) = false := by simp; omega
      obtain rfl : k = cs.length := by omega
      have ho : ((parC n cs == 1) == (((odC n cs cs.length : Nat) : Int) % 2 == 1)) = true := by
        rw [beq_iff_eq, Bool.eq_iff_iff, beq_iff_eq, beq_iff_eq]; omega
      clear hone hstep hle
      rcases Int.lt_or_le n 4 with h7 | h7
      · have hd4 : decide (n < 4) = true := decide_eq_true h7
        (repeat (first | refine gq_KTF ?_ | (refine ga_KTF ?_; intro _hq)))
        (refine rtA ?_; try rfl)
      · have hd4 : decide (n < 4) = false := decide_eq_false (by omega)
        have hz : (((odC n cs cs.length : Nat) : Int) == 0) = true := by rw [hbig h7]; rfl
        (repeat (first | refine gq_KTF ?_ | (refine ga_KTF ?_; intro _hq)))
        (refine rtA ?_; try rfl)
        exact congrArg vB hz
end Go.Proofs.Ytfcadkdgichpmaa

/- How arguments that came in read: slices of whatever elements. -/
namespace Go.Proofs.Ytfcadkdgichpmaa
set_option linter.unusedVariables false
set_option linter.unusedSimpArgs false
open Go.ChangeShapes Go.WideShapes Go.ChangeAt Go.RowKit Go.Joins Go.Deep

theorem own : ownKnob Try.prog.godebug = none := by kernel_rfl
theorem laidOut : laidOutB Try.prog = true := by kernel_rfl
/-- The frame of a row's proof, from its walk: the arguments opened by the caller. -/
theorem row_end {H : Type} {enc : TypeId × Value → H} {W : World} {t : TypeId} {v : Value} {d : DataW H} {p : List MemPlace} (h : DataW.Trod enc Try.prog W 0 (fun _ => true) true t v d p) : ∀ x ∈ p, x.block < W.heap.size := by
  obtain ⟨m, hm⟩ := h; exact DataW.trod_lt m _ _ _ hm
theorem add_plain (b off j : Nat) : (⟨b, off, none⟩ : Addr).add j = ⟨b, off + j, none⟩ := by
  unfold Addr.add; split <;> simp_all
theorem list_of {α : Type} (p : Nat → α → Prop) (n : Nat) (h : ∀ j, j < n → ∃ v, p j v) : ∃ l : List α, l.length = n ∧ ∀ j (hj : j < l.length), p j l[j] := by
  induction n with
  | zero => exact ⟨[], rfl, fun j hj => by simp at hj⟩
  | succ n ih =>
    obtain ⟨l, hl, hp⟩ := ih fun j hj => h j (by omega)
    obtain ⟨v, hv⟩ := h n (by omega)
    refine ⟨l ++ [v], by simp [hl], fun j hj => ?_⟩
    by_cases hlt : j < l.length
    · rw [List.getElem_append_left hlt]; exact hp j hlt
    · have e : j = l.length := by simp at hj; omega
      subst e
      simp [hl, hv]
section
variable {H : Type} {enc : TypeId × Value → H} {P : Program} {w : World} {α : Type} [Cel α]
/-- Cells of a type are those of an element. -/
def OpensC (enc : TypeId × Value → H) (P : Program) (w : World) (e : TypeId) (α : Type) [Cel α] : Prop := ∀ n cs x, DataW.trod enc P w 0 (fun _ => true) true n e cs = some x → ∃ a : α, cs = Cel.f a
theorem mapM_get {α β : Type} {f : α → Option β} : ∀ {l : List α} {r : List β}, l.mapM f = some r → r.length = l.length ∧ ∀ (j : Nat) (x : α), l[j]? = some x → ∃ y, r[j]? = some y ∧ f x = some y
  | [], r, h => by
    simp at h; subst h; exact ⟨rfl, fun j x hj => by simp at hj⟩
  | a :: l, r, h => by
    rw [List.mapM_cons] at h
    cases ha : f a with
    | none => simp [ha] at h
    | some y =>
      cases hl : l.mapM f with
      | none => simp [ha, hl] at h
      | some r' =>
        simp [ha, hl] at h
        subst h
        obtain ⟨h1, h2⟩ := mapM_get hl
        refine ⟨by simp [h1], fun j x hj => ?_⟩
        cases j with
        | zero => simp at hj; subst hj; exact ⟨y, rfl, ha⟩
        | succ j => obtain ⟨z, hz, hf⟩ := h2 j x (by simpa using hj); exact ⟨z, by simpa using hz, hf⟩
theorem ro_of_trod {t e : TypeId} {fuel : Nat} {v : Value} {y : DataW H × List MemPlace} (ht : P.underlying t = some (.slice e)) (hc : P.cellsOf e = Cel.sz α) (ho : OpensC enc P w e α)
    (h : DataW.trod enc P w 0 (fun _ => true) true fuel t [v] = some y) : ∃ l : List α, Rep0 w (.g (.one (.ro (Cel.sz α) l.length (cV l)))) v := by
  rcases open_slice ht h with ⟨hcs, _⟩ | ⟨a, len, cap, m, n, D, Pl, hcs, _, hl, hm, hmm, rfl, hx⟩
  · simp at hcs
    subst hcs
    exact ⟨[], ⟨by simp, rfl⟩, none, 0, rfl, Nat.le_refl _, by unfold maxLen; omega, fun h => absurd h (Nat.lt_irrefl _)⟩
  · simp at hcs
    subst hcs
    simp at hmm
    subst hmm
    rw [hc] at hx
    obtain ⟨l, hll, hlp⟩ := list_of (fun j (u : α) => w.cells? 0 (a.add (j * Cel.sz α)) (Cel.sz α) = some (Cel.f u)) len fun j hj => by
      obtain ⟨cs', h1, h2⟩ := hx j (by omega)
      obtain ⟨u, rfl⟩ := ho _ _ _ h2
      exact ⟨u, h1⟩
    have hcell : ∀ (j o : Nat) (hj : j < l.length) (ho : o < Cel.sz α), ∃ x, (Cel.f l[j])[o]? = some x ∧ w.cell? ((a.add (j * Cel.sz α)).add o) = some x := by
      intro j o hj ho
      have h1 := hlp j hj
      unfold World.cells? at h1
      rw [if_pos (Nat.zero_le _)] at h1
      obtain ⟨_, h2⟩ := mapM_get h1
      obtain ⟨x, h3, h4⟩ := h2 o o (by simp [ho])
      exact ⟨x, h3, h4⟩
    refine ⟨l, ⟨by rw [cV_len], cV_one l⟩, some a, m, by rw [hll], by omega, hm, fun hn => ?_⟩
    obtain ⟨b, off, spot⟩ := a
    have hspot : spot = none := by
      obtain ⟨x, _, h2⟩ := hcell 0 0 hn Cel.pos
      have := World.cell?_spot h2
      simpa [Addr.add] using this
    subst hspot
    refine ⟨b, off, rfl, ?_, fun j x hj => ?_⟩
    · obtain ⟨x, _, h2⟩ := hcell 0 0 hn Cel.pos
      rw [add_plain, add_plain] at h2
      exact World.block_lt_of_cell? w _ h2
    · have hpos : 0 < Cel.sz α := Cel.pos
      have hlt : j < l.length * Cel.sz α := by rw [← cV_len]; exact (List.getElem?_eq_some_iff.1 hj).1
      have hdm := Nat.div_add_mod j (Cel.sz α)
      have hml := Nat.mod_lt j hpos
      have hdl : j / Cel.sz α < l.length := Nat.div_lt_of_lt_mul (by rw [Nat.mul_comm]; exact hlt)
      obtain ⟨y, h1, h2⟩ := hcell (j / Cel.sz α) (j % Cel.sz α) hdl hml
      rw [add_plain, add_plain] at h2
      have e1 : l.getD (j / Cel.sz α) Cel.no = l[j / Cel.sz α] := by simp [List.getD_eq_getElem?_getD, hdl]
      have h3 := cV_cell (l := l) (j := j / Cel.sz α) (o := j % Cel.sz α) (v := y) hdl (by rw [e1]; exact h1)
      have e2 : j / Cel.sz α * Cel.sz α + j % Cel.sz α = j := by rw [Nat.mul_comm]; exact hdm
      rw [e2, hj] at h3
      cases h3
      rw [show off + j = off + j / Cel.sz α * Cel.sz α + j % Cel.sz α by omega]
      exact h2
end
section
variable {H : Type} {enc : TypeId × Value → H} {P : Program} {w : World}
theorem opens_byte {e : TypeId} (he : P.underlying e = some (.int .u8)) : OpensC enc P w e UInt8 := by
  intro n cs x h
  obtain ⟨k, h1, _, hw⟩ := DataW.trod_int he h
  have h2 : 0 ≤ k ∧ k < 256 := by
    simp [Lit.wf, IntKind.min, IntKind.max, IntKind.signed, IntKind.bits] at hw
    omega
  refine ⟨UInt8.ofNat k.toNat, ?_⟩
  rw [h1]
  show [Value.int .u8 k] = [Value.int .u8 ((UInt8.ofNat k.toNat).toNat : Int)]
  simp only [UInt8.toNat_ofNat']
  rw [Nat.mod_eq_of_lt (by omega)]
  congr 2
  omega
theorem slice_shape {e t : TypeId} {v : Value} {d : DataW H} {ps : List MemPlace} {r : Reach} {b0 : Nat} (ht : P.underlying t = some (.slice e)) (hval : Value.okWide P w r b0 t v) (h : DataW.Trod enc P w 0 (fun _ => true) true t v d ps) : ∃ fuel y, DataW.trod enc P w 0 (fun _ => true) true fuel t [v] = some y := by
  obtain ⟨A, n, c, rfl⟩ := okWide_slice ht hval
  obtain ⟨fuel, hf⟩ := h
  exact ⟨fuel, _, hf⟩
/-- Bytes that came in. -/
theorem bytes_of_trod {e t : TypeId} {v : Value} {d : DataW H} {ps : List MemPlace} {r : Reach} {b0 : Nat} (ht : P.underlying t = some (.slice e)) (he : P.underlying e = some (.int .u8)) (hc : P.cellsOf e = 1) (hval : Value.okWide P w r b0 t v) (h : DataW.Trod enc P w 0 (fun _ => true) true t v d ps) :
    ∃ l : List UInt8, Rep0 w (roA l) v := by
  obtain ⟨fuel, y, hf⟩ := slice_shape ht hval h
  exact ro_of_trod (α := UInt8) ht hc (opens_byte he) hf
end
section
variable {H : Type} {enc : TypeId × Value → H} {P : Program} {w : World}
end
/-- A law answers true and leaves what was there, by its contract. -/
theorem law_of_kon {P : Program} {f : FuncId} {aa : List AV} (h : Kon P f aa [] (vB true) [] []) {vs : Array Value} {w : World} (hs : vs.size = aa.length) (hr : ∀ (j : Nat) (a : AV), aa[j]? = some a → ∃ z, vs[j]? = some z ∧ Rep0 w a z) (hgl : Glo w := by exact trivial) (hgz : gsz ≤ w.heap.size := by exact Nat.zero_le _) :
    Calls P f vs w fun e w' => e = .returned (.bool true) ∧ Below w.heap.size w w' := by
  obtain ⟨C, hC, hCe⟩ := h
  exact law_run hC hCe hs hr hgl hgz
end Go.Proofs.Ytfcadkdgichpmaa
