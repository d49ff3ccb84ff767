/- MBD: laid into one text. -/
import Derived.Test.YtmkoanmmfcpmjaaDoorQME
import Derived.Test.YtmkoanmmfcpmjaaDoorQMM
import Derived.Test.YtmkoanmmfcpmjaaDoorQMR
import Derived.Test.YtmkoanmmfcpmjaaDoorQMT

namespace Go.Proofs.YtmkoanmmfcpmjaaDoor
set_option linter.unusedVariables false
set_option linter.unusedSimpArgs false
set_option maxRecDepth 20000
open Go.RowKit
attribute [local irreducible] runA runX AW
theorem gq_MBD {H G : Prop} (k : H) (h : Hid H → G := by (intro hh; repeat1' (first | (first | (refine nxA ?_; (first | fail | ((first | (refine z_op (by rfl) ?_; first | refine z_ok ?_ ?_ | refine z_ex ?_ (by first | exact zL1 | ((first | (first | refine mk_c Int rfl rfl rfl ?_ | refine mk_0 Int rfl rfl ?_)); exact zWW) | exact zL2 | (first | exact rw_c Gt rfl | exact rw_c Int rfl) | exact zL3 | fail) ?_) | ((first | refine q_callE wsT wsZ (by rfl) ?_ | refine q_callVE wsT (by rfl) (by rfl) ?_); refine ⟨_, _, _, (by first | assumption | exact k_l1In _ _ _ | exact k_l3o _ _ (by omega) (by omega) | exact k_l3g _ _ (by omega)), _, by rfl, ?_, ?_⟩)); focus (first | exact trivial | fail | exact zQZ)) | fail)) | refine swA ?_) | refine awA ?_); exact hh.out)) : G := h ⟨k⟩
def dn (p : Nat → Bool) (G : Nat → Gt) : Nat → Gt → Gt
  | 0, g => g
  | i + 1, g => dn p G i (if p i then G i else g)
def mbF1 (w t : Nat) (n : Nat) : Gt := dn (fun k => !(w.testBit k) && t.testBit k) (fun k => g3 (ones (w : Int) n) (k : Int)) n ⟨-1, 0, 0, 0⟩
def mbF2 (w t : Nat) (n : Nat) : Gt := dn (fun k => w.testBit k && !(t.testBit k)) (fun k => g3 (ones (t : Int) n) (k : Int)) n (mbF1 w t n)
theorem mbF_fin : ∀ n : Fin 4, ∀ w t : Fin 8, w.val < t.val → t.val < 2 ^ n.val → ((mbF2 w.val t.val n.val).k = (mbG w.val t.val).k ∧ (mbF2 w.val t.val n.val).a = (mbG w.val t.val).a) ∧ (mbF2 w.val t.val n.val).b = (mbG w.val t.val).b ∧ (mbF2 w.val t.val n.val).c = (mbG w.val t.val).c := by decide +kernel
theorem mbF_eq {n w t : Nat} (hn : n < 4) (hw : w < t) (ht : t < 2 ^ n) : mbF2 w t n = mbG w t := by
  have h8 : t < 8 := Nat.lt_of_lt_of_le ht (Nat.pow_le_pow_right (n := 2) (j := 3) (by omega) (by omega))
  obtain ⟨⟨e1, e2⟩, e3, e4⟩ := mbF_fin ⟨n, hn⟩ ⟨w, by omega⟩ ⟨t, h8⟩ hw ht
  dsimp only at e1 e2 e3 e4
  rcases hx : mbF2 w t n with ⟨x1, x2, x3, x4⟩
  rcases hy : mbG w t with ⟨y1, y2, y3, y4⟩
  rw [hx, hy] at e1 e2 e3 e4
  dsimp only at e1 e2 e3 e4
  rw [e1, e2, e3, e4]
theorem bt_nat (w i : Nat) : bt (w : Int) (i : Int) = w.testBit i := by unfold bt; rw [Int.toNat_natCast, Int.toNat_natCast]
theorem k_tvS2 (n : Int) (t : List Int) (hr : -9223372036854775808 ≤ n ∧ n ≤ 9223372036854775807) (h : t.length ≤ 2000000) : Kon Tryd.prog 21 [vI n, roA t] [] (vB (tvB n t)) [] [] := by
  rcases Nat.lt_or_ge 1000 t.length with h1 | h1
  · have hf : tvB n t = false := by
      unfold tvB
      cases hn : btw n 1 8 with
      | false => rfl
      | true =>
        have h8 := pow_8 (btw_t hn)
        rw [beq_eq_false_iff_ne.2 (by omega)]; rfl
    rw [hf]
    cases hn : btw n 1 8 with
    | false =>
      (refine kM Tryd.func21 rfl ?_; intro hfit hfe)
      (repeat (first | refine gq_MBD ?_ | (refine ga0A ?_; intro _hq)))
      (refine rtA ?_; try rfl)
    | true =>
      have hn' := btw_t hn
      have h8 := pow_8 hn'
      have hl2 : ((t.length : Int) != 1 * 2 ^ n.toNat) = true := by rw [Int.one_mul, bne, beq_eq_false_iff_ne.2 (by omega)]; rfl
      (refine kM Tryd.func21 rfl ?_; intro hfit hfe)
      (repeat (first | refine gq_MBD ?_ | (refine ga0A ?_; intro _hq)))
      (refine rtA ?_; try rfl)
  · exact k_tvS n t hr h1
theorem k_mbS0 (n : Int) (t : List Int) (hr : -9223372036854775808 ≤ n ∧ n ≤ 9223372036854775807) (hl : t.length ≤ 2000000) (h : n ≤ 3 → tvB n t = false) : Kon Tryd.prog 5 [vI n, roA t] [] (.tup [.one (.ro 4 0 []), .one (.v (.bool false))]) [] [] := by
  have hV := k_tvS2 n t hr hl
  by_cases h3 : n ≤ 3
  · have hd : decide (n > 3) = false := decide_eq_false (by omega)
    rw [h h3] at hV
    clear h
    (refine kM Tryd.func5 rfl ?_; intro hfit hfe)
    (repeat (first | refine gq_MBD ?_ | (refine ga0A ?_; intro _hq)))
    (refine aw_freeze 336 (by rfl) (by rfl) ?_; refine aw_slot 4 4 (by rfl) (by rfl) (by first | exact trivial | omega | exact cvB (fun w => rfl) | ((repeat (any_goals (first | exact rfl | exact cV_len _ | exact cV_ln rfl (by omega) | exact Cel.pos | omega | exact trivial | refine And.intro ?_ ?_))); first | done | fail) | (simp [*]; first | done | fail)) ?_)
    (repeat (first | refine gq_MBD ?_ | (refine ga0A ?_; intro _hq)))
    (refine rtA ?_; try rfl)
  · have hd : decide (n > 3) = true := decide_eq_true (by omega)
    clear h
    cases hv : tvB n t <;> rw [hv] at hV
    all_goals (refine kM Tryd.func5 rfl ?_; intro hfit hfe)
    all_goals ((repeat (first | refine gq_MBD ?_ | (refine ga0A ?_; intro _hq))))
    all_goals ((refine aw_freeze 336 (by rfl) (by rfl) ?_; refine aw_slot 4 4 (by rfl) (by rfl) (by first | exact trivial | omega | exact cvB (fun w => rfl) | ((repeat (any_goals (first | exact rfl | exact cV_len _ | exact cV_ln rfl (by omega) | exact Cel.pos | omega | exact trivial | refine And.intro ?_ ?_))); first | done | fail) | (simp [*]; first | done | fail)) ?_))
    all_goals ((repeat (first | refine gq_MBD ?_ | (refine ga0A ?_; intro _hq))))
    all_goals ((refine rtA ?_; try rfl))
set_option maxHeartbeats 4000000 in
theorem k_mbS (n : Int) (t : List Int) (h3 : n ≤ 3) (hv : tvB n t = true) : Kon Tryd.prog 5 [vI n, roA t] [] (.tup [.one (.ro 4 (mbL t).reverse.length (cV (mbL t).reverse)), .one (.v (.bool true))]) [] [] := by
  have hfst := mb_first hv
  have hV := k_tvS n t
  obtain ⟨_, hL21, _, _⟩ := mb_law h3 hv
  have hv' := hv
  unfold tvB at hv'
  rw [Bool.and_eq_true, Bool.and_eq_true, beq_iff_eq] at hv'
  obtain ⟨q1, q2, _⟩ := hv'
  have h8 := btw_t q1
  have hn : 1 ≤ n ∧ n ≤ 3 := by omega
  have hN8 : t.length ≤ 8 := by
    rw [← pow_N q2.symm]
    exact Nat.pow_le_pow_right (n := 2) (j := 3) (by omega) (by omega)
  have hpos : 0 < t.length := by
    rw [← pow_N q2.symm]
    exact Nat.pow_pos (by omega)
  replace hV := hV (by omega) (by omega)
  rw [hv] at hV
  obtain ⟨N, hN⟩ : ∃ N, t.length = N := ⟨_, rfl⟩
  have hF : (mbO N 0 (t, [])).2 = mbL t := by unfold mbL; rw [hN]
  generalize mbL t = F at hF hL21 ⊢
  rw [hN] at hfst q2 hN8 hpos
  obtain ⟨m, rfl⟩ : ∃ m : Nat, n = (m : Int) := ⟨n.toNat, by omega⟩
  have hpm : 2 ^ m = N := pow_N q2.symm
  clear q1 hv
  (refine kM Tryd.func5 rfl ?_; intro hfit hfe)
  (repeat (first | refine gq_MBD ?_ | (refine ga0A ?_; intro _hq)))
  (refine aw_freeze 400 (by rfl) (by rfl) ?_; refine aw_slot 7 4 (by rfl) (by rfl) (by first | exact trivial | omega | exact cvB (fun w => rfl) | ((repeat (any_goals (first | exact rfl | exact cV_len _ | exact cV_ln rfl (by omega) | exact Cel.pos | omega | exact trivial | refine And.intro ?_ ?_))); first | done | fail) | (simp [*]; first | done | fail)) ?_)
  (refine aw_rd [0, 1, 6] [] (fun g : Nat × MS => [(7, roA g.2.2.reverse), (8, vI g.1)]) (fun g => [(352, (1, iRow g.2.1))]) (fun g => g.1 ≤ N ∧ MB (m : Int) N t g.1 g.2 ∧ (mbO (N - g.1) g.1 g.2).2 = F) (fun g => N - g.1) (0, (t, [])) (by rfl) (by rfl) ?_ (by rfl) zHE zHE ?_)
  · exact ⟨Nat.zero_le _, hfst, hF⟩
  rintro ⟨k, s⟩ ⟨hk, hM, hz⟩
  dsimp only at hk hM hz ⊢
  rcases Nat.lt_or_ge k N with h5 | h5
  · have hd : decide ((k : Int) < (t.length : Int)) = true := decide_eq_true (by omega)
    obtain ⟨hz2, hTl⟩ := mbO_next hz h5
    have hw0 := hM.word hn q2.symm h5
    obtain ⟨T, hT⟩ : ∃ T, mbI k s = T := ⟨_, rfl⟩
    rw [hT] at hz2 hTl hw0
    clear hz
    have hlen0 := hM.len
    (repeat (first | refine gq_MBD ?_ | (refine ga0A ?_; intro _hq)))
    (refine aw_rd [0, 1, 6, 8] [] (fun g : MS => [(7, roA g.2.reverse)]) (fun g => [(352, (1, iRow g.1))]) (fun g => MB (m : Int) N t k g ∧ mbI k g = T) (fun g => ham k (g.1.getD k 0).toNat) s (by rfl) (by rfl) ?_ (by rfl) zHE zHE ?_)
    · exact ⟨hM, hT⟩
    clear hM hT hlen0 hk
    rintro s' ⟨hM, hT⟩
    refine aw_post ?_
    try dsimp only at hM hT ⊢
    have hlen := hM.len
    have hsl := mbI_len k s'
    rw [hT] at hsl
    by_cases hne : s'.1.getD k 0 = (k : Int)
    · have hd2 : (s'.1.getD (k : Int).toNat Cel.no != (k : Int)) = false := by
        show (s'.1.getD k 0 != (k : Int)) = false
        rw [hne]; simp
      have e := mb_done hne
      rw [hT] at e
      subst e
      have hinv : k + 1 ≤ N ∧ MB (m : Int) N t (k + 1) T ∧ (mbO (N - (k + 1)) (k + 1) T).2 = F := ⟨h5, hw0.1, hz2⟩
      clear hM hT hz2 hw0 hne
      (repeat (first | refine gq_MBD ?_ | (refine ga0A ?_; intro _hq)))
      exact ⟨(k + 1, T), hinv, ⟨by rfl, zHE, zHE⟩, (by first | omega | (dsimp only; omega))⟩
    · obtain ⟨x, hx, hkx, hxN⟩ := hM.big h5 hne
      have hd2 : (s'.1.getD (k : Int).toNat Cel.no != (k : Int)) = true := by
        show (s'.1.getD k 0 != (k : Int)) = true
        rw [bne, beq_eq_false_iff_ne.2 hne]; rfl
      obtain ⟨_, hgok, _, _, _, _⟩ := mb_facts hn q2.symm hM h5 hne
      obtain ⟨hnear, hnext⟩ := mb_near hn q2.symm hM h5 hne
      have hM2 := hM.step hn q2.symm h5 hne
      have hinv : MB (m : Int) N t k (mbStep k s') ∧ mbI k (mbStep k s') = T := ⟨hM2, hnext ▸ hT⟩
      have hst : mbStep k s' = (s'.1.map (gr (mbG k x)), s'.2 ++ [mbG k x]) := by unfold mbStep; rw [hx, Int.toNat_natCast]
      have hstl : (mbStep k s').1.length = N := hM2.len
      rw [hx, Int.toNat_natCast] at hgok
      have hwd : ∀ i, i < N → wvB (m : Int) (s'.1.getD i 0) = true := fun i hi => wv_of (by omega) (by rw [q2.symm]; exact hM.bd i hi)
      obtain ⟨f, hf⟩ : ∃ f : Gt, mbG k x = f := ⟨_, rfl⟩
      have hfF := mbF_eq (n := m) (w := k) (t := x) (by omega) hkx (by omega)
      rw [hf] at hst hgok hfF
      have hrun : ∀ i, i < N → Kon Tryd.prog 25 [vI (m : Int), gV f, vI ((mpU (gr f) s'.1 i).getD (i : Int).toNat Cel.no)] [] (vI (gr f (s'.1.getD i 0))) [] [] := fun i hi => by
        rw [show (mpU (gr f) s'.1 i).getD (i : Int).toNat Cel.no = (mpU (gr f) s'.1 i).getD i 0 from rfl, mpU_get _ _ (by omega)]
        exact k_grS1 (m : Int) f _ hgok (hwd i hi)
      have hml : ∀ i, i ≤ N → (mpU (gr f) s'.1 i).length = N := fun i hi => by rw [mpU_len _ _ (by omega)]; exact hlen
      have hms : ∀ i, i < N → (mpU (gr f) s'.1 i).set (i : Int).toNat (gr f (s'.1.getD i 0)) = mpU (gr f) s'.1 (i + 1) := fun i hi => mpU_set _ _ (by omega)
      have hall : mpU (gr f) s'.1 N = (mbStep k s').1 := by rw [hst, ← hlen]; exact mpU_all _ _
      have happ : [f] ++ s'.2.reverse = (mbStep k s').2.reverse := by rw [hst, List.reverse_append]; rfl
      have hpl : (mbStep k s').2.length = s'.2.length + 1 := by rw [hst]; simp
      have hBk : ∀ i : Nat, i < m → Kon Tryd.prog 22 [vI (k : Int), vI (((i + 1 : Nat) : Int) - 1)] [] (vI (if k.testBit i then 1 else 0)) [] [] := fun i hi => by
        rw [show ((i + 1 : Nat) : Int) - 1 = (i : Int) by omega, ← bt_nat]; exact k_bitS (k : Int) (i : Int) (by omega)
      have hBx : ∀ i : Nat, i < m → Kon Tryd.prog 22 [vI (s'.1.getD (k : Int).toNat Cel.no), vI (((i + 1 : Nat) : Int) - 1)] [] (vI (if x.testBit i then 1 else 0)) [] [] := fun i hi => by
        rw [show s'.1.getD (k : Int).toNat Cel.no = s'.1.getD k 0 from rfl, hx, show ((i + 1 : Nat) : Int) - 1 = (i : Int) by omega, ← bt_nat]; exact k_bitS (x : Int) (i : Int) (by omega)
      have hO2 : Kon Tryd.prog 24 [vI (m : Int), vI (s'.1.getD (k : Int).toNat Cel.no)] [] (slA 0 0 (ones (x : Int) m)) [iRow (ones (x : Int) m)] [] := by
        rw [show s'.1.getD (k : Int).toNat Cel.no = s'.1.getD k 0 from rfl, hx]; exact k_l3o m (x : Int) (by omega) (by omega)
      have hG3 : ∀ (w i : Nat), Kon Tryd.prog 23 [roA (ones (w : Int) m), vI (((i + 1 : Nat) : Int) - 1)] [] (gV (g3 (ones (w : Int) m) (i : Int))) [] [] := fun w i => by
        rw [show ((i + 1 : Nat) : Int) - 1 = (i : Int) by omega]; exact k_l3g _ _ (by have := ones_len (w : Int) m; omega)
      obtain ⟨X1, hX1⟩ : ∃ X1, mbF1 k x m = X1 := ⟨_, rfl⟩
      have hX2 : dn (fun i => k.testBit i && !(x.testBit i)) (fun i => g3 (ones (x : Int) m) (i : Int)) m X1 = f := by rw [← hX1]; exact hfF
      clear hT hM hM2 hne hw0 hz2 hnext hst hwd hfF hf
      (repeat (first | refine gq_MBD ?_ | (refine ga0A ?_; intro _hq)))
      (refine aw_rd [0, 1, 6, 7, 8, 9] [352] (fun g : Nat × Gt => [(10, vI ((g.1 : Int) - 1))]) (fun g => [(144, (0, .box (gCs g.2)))]) (fun g => g.1 ≤ m ∧ dn (fun i => !(k.testBit i) && x.testBit i) (fun i => g3 (ones (k : Int) m) (i : Int)) g.1 g.2 = X1) (fun g => g.1) (m, ⟨-1, 0, 0, 0⟩) (by rfl) (by rfl) ?_ (by rfl) zHE zHE ?_)
      · exact ⟨Nat.le_refl _, hX1⟩
      rintro ⟨i, g⟩ ⟨hi, hg⟩
      dsimp only at hi hg ⊢
      rcases i with _ | i
      · have hdi : decide (((0 : Nat) : Int) - 1 ≥ 0) = false := by decide
        have hg' : g = X1 := hg
        subst hg'
        clear hg hX1
        (repeat (first | refine gq_MBD ?_ | (refine ga0A ?_; intro _hq)))
        (refine aw_rd [0, 1, 6, 7, 8, 9] [352] (fun g : Nat × Gt => [(11, vI ((g.1 : Int) - 1))]) (fun g => [(144, (0, .box (gCs g.2)))]) (fun h => h.1 ≤ m ∧ dn (fun i => k.testBit i && !(x.testBit i)) (fun i => g3 (ones (x : Int) m) (i : Int)) h.1 h.2 = f) (fun g => g.1) (m, g) (by rfl) (by rfl) ?_ (by rfl) zHE zHE ?_)
        · exact ⟨Nat.le_refl _, hX2⟩
        clear hX2 hi
        rintro ⟨i, g⟩ ⟨hi, hg⟩
        dsimp only at hi hg ⊢
        rcases i with _ | i
        · have hdi : decide (((0 : Nat) : Int) - 1 ≥ 0) = false := by decide
          have hg' : g = f := hg
          subst hg'
          clear hg
          (repeat (first | refine gq_MBD ?_ | (refine ga0A ?_; intro _hq)))
          (refine aw_rd [0, 1, 6, 7, 8, 9] [144] (fun i : Nat => [(12, vI i)]) (fun i => [(352, (1, iRow (mpU (gr g) s'.1 i)))]) (fun i => i ≤ N) (fun i => N - i) 0 (by rfl) (by rfl) ?_ (by rfl) zHE zHE ?_)
          · exact Nat.zero_le _
          clear hdi
          rintro i hi
          have hml := hml i hi
          rcases Nat.lt_or_ge i N with h6 | h6
          · have hdi : decide ((i : Int) < (t.length : Int)) = true := decide_eq_true (by omega)
            have hrun := hrun i h6
            have hms := hms i h6
            (repeat (first | refine gq_MBD ?_ | (refine ga0A ?_; intro _hq)))
            (refine aw_draw mixed T0ok cfU_ok [(352, [6, 7, 9, 10])] (by rfl) (by kernel_rfl) ?_)
            (repeat (first | refine gq_MBD ?_ | (refine ga0A ?_; intro _hq)))
            rw [hms]
            exact ⟨i + 1, h6, ⟨by rfl, zHE, zHE⟩, (by first | omega | (dsimp only; omega))⟩
          · have hdi : decide ((i : Int) < (t.length : Int)) = false := decide_eq_false (by omega)
            obtain rfl : i = N := by omega
            have hrl : s'.2.reverse.length = s'.2.length := List.length_reverse
            (repeat (first | refine gq_MBD ?_ | (refine ga0A ?_; intro _hq)))
            (refine wk_freeze 1712 (by rfl) (by rfl) ?_; refine wk_slot 7 4 (by rfl) (by rfl) (by first | exact trivial | omega | exact cvB (fun w => rfl) | ((repeat (any_goals (first | exact rfl | exact cV_len _ | exact cV_ln rfl (by omega) | exact Cel.pos | omega | exact trivial | refine And.intro ?_ ?_))); first | done | fail) | (simp [*]; first | done | fail)) ?_)
            refine wk_done ?_
            rw [hall, happ]
            exact ⟨mbStep k s', hinv, ⟨by rfl, zHE, zHE⟩, (by first | omega | (dsimp only; omega))⟩
        · have hdi : decide (((i + 1 : Nat) : Int) - 1 ≥ 0) = true := decide_eq_true (by omega)
          have hb1 := hBk i (by omega)
          have hb2 := hBx i (by omega)
          have e3 : ((i + 1 : Nat) : Int) - 1 - 1 = (i : Int) - 1 := by omega
          have hg' : dn (fun i => k.testBit i && !(x.testBit i)) (fun i => g3 (ones (x : Int) m) (i : Int)) i (if k.testBit i && !(x.testBit i) then g3 (ones (x : Int) m) (i : Int) else g) = f := hg
          clear hg hinv hall happ
          cases hbk : k.testBit i with
          | false =>
            rw [hbk] at hg' hb1
            have hinv : i ≤ m ∧ dn (fun i => k.testBit i && !(x.testBit i)) (fun i => g3 (ones (x : Int) m) (i : Int)) i g = f := ⟨by omega, hg'⟩
            clear hg' hbk
            (repeat (first | refine gq_MBD ?_ | (refine ga0A ?_; intro _hq)))
            exact ⟨(i, g), hinv, ⟨by rfl, ⟨vI_of (by rfl) e3, zHE⟩, zHE⟩, (by first | omega | (dsimp only; omega))⟩
          | true =>
            cases hbx : x.testBit i with
            | true =>
              rw [hbk, hbx] at hg'
              rw [hbk] at hb1
              rw [hbx] at hb2
              have hinv : i ≤ m ∧ dn (fun i => k.testBit i && !(x.testBit i)) (fun i => g3 (ones (x : Int) m) (i : Int)) i g = f := ⟨by omega, hg'⟩
              clear hg' hbk hbx
              (repeat (first | refine gq_MBD ?_ | (refine ga0A ?_; intro _hq)))
              exact ⟨(i, g), hinv, ⟨by rfl, ⟨vI_of (by rfl) e3, zHE⟩, zHE⟩, (by first | omega | (dsimp only; omega))⟩
            | false =>
              rw [hbk, hbx] at hg'
              rw [hbk] at hb1
              rw [hbx] at hb2
              have hg3 := hG3 x i
              have hinv : i ≤ m ∧ dn (fun i => k.testBit i && !(x.testBit i)) (fun i => g3 (ones (x : Int) m) (i : Int)) i (g3 (ones (x : Int) m) (i : Int)) = f := ⟨by omega, hg'⟩
              clear hg' hbk hbx
              (repeat (first | refine gq_MBD ?_ | (refine ga0A ?_; intro _hq)))
              exact ⟨(i, _), hinv, ⟨by rfl, ⟨vI_of (by rfl) e3, zHE⟩, zHE⟩, (by first | omega | (dsimp only; omega))⟩
      · have hdi : decide (((i + 1 : Nat) : Int) - 1 ≥ 0) = true := decide_eq_true (by omega)
        have hb1 := hBk i (by omega)
        have hb2 := hBx i (by omega)
        have e3 : ((i + 1 : Nat) : Int) - 1 - 1 = (i : Int) - 1 := by omega
        have hg' : dn (fun i => !(k.testBit i) && x.testBit i) (fun i => g3 (ones (k : Int) m) (i : Int)) i (if !(k.testBit i) && x.testBit i then g3 (ones (k : Int) m) (i : Int) else g) = X1 := hg
        clear hg hX1 hX2 hinv hall happ
        cases hbk : k.testBit i with
        | true =>
          rw [hbk] at hg' hb1
          have hinv : i ≤ m ∧ dn (fun i => !(k.testBit i) && x.testBit i) (fun i => g3 (ones (k : Int) m) (i : Int)) i g = X1 := ⟨by omega, hg'⟩
          clear hg' hbk
          (repeat (first | refine gq_MBD ?_ | (refine ga0A ?_; intro _hq)))
          exact ⟨(i, g), hinv, ⟨by rfl, ⟨vI_of (by rfl) e3, zHE⟩, zHE⟩, (by first | omega | (dsimp only; omega))⟩
        | false =>
          cases hbx : x.testBit i with
          | false =>
            rw [hbk, hbx] at hg'
            rw [hbk] at hb1
            rw [hbx] at hb2
            have hinv : i ≤ m ∧ dn (fun i => !(k.testBit i) && x.testBit i) (fun i => g3 (ones (k : Int) m) (i : Int)) i g = X1 := ⟨by omega, hg'⟩
            clear hg' hbk hbx
            (repeat (first | refine gq_MBD ?_ | (refine ga0A ?_; intro _hq)))
            exact ⟨(i, g), hinv, ⟨by rfl, ⟨vI_of (by rfl) e3, zHE⟩, zHE⟩, (by first | omega | (dsimp only; omega))⟩
          | true =>
            rw [hbk, hbx] at hg'
            rw [hbk] at hb1
            rw [hbx] at hb2
            have hg3 := hG3 k i
            have hinv : i ≤ m ∧ dn (fun i => !(k.testBit i) && x.testBit i) (fun i => g3 (ones (k : Int) m) (i : Int)) i (g3 (ones (k : Int) m) (i : Int)) = X1 := ⟨by omega, hg'⟩
            clear hg' hbk hbx
            (repeat (first | refine gq_MBD ?_ | (refine ga0A ?_; intro _hq)))
            exact ⟨(i, _), hinv, ⟨by rfl, ⟨vI_of (by rfl) e3, zHE⟩, zHE⟩, (by first | omega | (dsimp only; omega))⟩
  · have hd : decide ((k : Int) < (t.length : Int)) = false := decide_eq_false (by omega)
    obtain rfl : k = N := by omega
    rw [Nat.sub_self] at hz
    have hz' : s.2 = F := hz
    clear hz
    subst hz'
    (repeat (first | refine gq_MBD ?_ | (refine ga0A ?_; intro _hq)))
    (refine rtA ?_; try rfl)
end Go.Proofs.YtmkoanmmfcpmjaaDoor
