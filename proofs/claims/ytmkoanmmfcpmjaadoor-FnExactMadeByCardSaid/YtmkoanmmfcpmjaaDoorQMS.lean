/- MBC: laid into one text. -/
import Derived.Test.YtmkoanmmfcpmjaaDoorQML
import Derived.Test.YtmkoanmmfcpmjaaDoorQMR

namespace Go.Proofs.YtmkoanmmfcpmjaaDoor
set_option linter.unusedVariables false
set_option linter.unusedSimpArgs false
set_option maxRecDepth 20000
open Go.RowKit
attribute [local irreducible] runA runX AW
theorem gq_MBC {H G : Prop} (k : H) (h : Hid H → G := by (intro hh; repeat1' (first | (first | (refine nxA ?_; (first | (first | refine r_andn (by rfl) (by rfl) (by assumption) (by rfl) ?_ | refine r_and0 (by rfl) (by rfl) (by assumption) (by rfl) ?_) | ((first | (refine z_op (by rfl) ?_; first | refine z_ok ?_ ?_ | refine z_ex ?_ (by first | exact zL1 | ((first | (first | refine mk_c Int rfl rfl rfl ?_ | refine mk_0 Int rfl rfl ?_)); exact zWW) | exact zL2 | (first | exact rw_c Gt rfl | exact rw_c Int rfl) | exact zL3 | fail) ?_) | ((first | refine q_callE wsT wsZ (by rfl) ?_ | refine q_callVE wsT (by rfl) (by rfl) ?_); refine ⟨_, _, _, (by first | assumption | exact k_okL _ | exact k_cloneI _ (by omega) | exact k_backwards _ (by omega)), _, by rfl, ?_, ?_⟩)); focus (first | exact trivial | fail | exact zQZ)) | fail)) | refine swA ?_) | refine awA ?_); exact hh.out)) : G := h ⟨k⟩
theorem k_cloneI (l : List Int) (h : 0 < l.length ∧ l.length ≤ 1000) : Kon Tryd.prog 26 [roA l] [] (slA 0 0 l) [iRow l] [] := by
  (refine kM Tryd.func26 rfl ?_; intro hfit hfe)
  (repeat (first | refine gq_MBC ?_ | (refine ga0A ?_; intro _hq)))
  (refine rtA ?_; try rfl)
theorem mbc_fin : ∀ w t : Fin 8, w.val < t.val → bits BinOp.andNot IntKind.i64 (t.val : Int) (w.val : Int) = ((t.val ^^^ (w.val &&& t.val) : Nat) : Int) ∧ bits BinOp.andNot IntKind.i64 (w.val : Int) (t.val : Int) = ((w.val ^^^ (w.val &&& t.val) : Nat) : Int) ∧ t.val ^^^ (w.val &&& t.val) < 8 ∧ w.val ^^^ (w.val &&& t.val) < 8 ∧ (w.val ^^^ (w.val &&& t.val) ≠ 0 → t.val < 7 ∧ Lib.ctz 64 (w.val ^^^ (w.val &&& t.val)) = lsb (w.val ^^^ (w.val &&& t.val))) ∧ (w.val ^^^ (w.val &&& t.val) = 0 → Lib.ctz 64 (t.val ^^^ (w.val &&& t.val)) = lsb (t.val ^^^ (w.val &&& t.val))) := by decide +kernel
theorem k_tvI2 (n : Int) (t : List Int) (h : t.length ≤ 2000000) : Kon Tryd.prog 15 [vI n, roA t] [] (vB (tvB n t)) [] [] := by
  rcases Nat.lt_or_ge 1000 t.length with h1 | h1
  · have hf : tvB n t = false := by
      unfold tvB
      cases hn : btw n 1 8 with
      | false => rfl
      | true =>
        have h8 := pow_8 (btw_t hn)
        rw [beq_eq_false_iff_ne.2 (by omega)]; rfl
    rw [hf]
    cases hn : btw n 1 8 with
    | false =>
      (refine kM Tryd.func15 rfl ?_; intro hfit hfe)
      (repeat (first | refine gq_MBC ?_ | (refine ga0A ?_; intro _hq)))
      (refine rtA ?_; try rfl)
    | true =>
      have hn' := btw_t hn
      have h8 := pow_8 hn'
      have hl2 : ((t.length : Int) != 1 * 2 ^ n.toNat) = true := by rw [Int.one_mul, bne, beq_eq_false_iff_ne.2 (by omega)]; rfl
      (refine kM Tryd.func15 rfl ?_; intro hfit hfe)
      (repeat (first | refine gq_MBC ?_ | (refine ga0A ?_; intro _hq)))
      (refine rtA ?_; try rfl)
  · exact k_tvI n t h1
theorem k_mbI0 (n : Int) (t : List Int) (hl : t.length ≤ 2000000) (h : n ≤ 3 → tvB n t = false) : Kon Tryd.prog 7 [vI n, roA t] [] (.tup [.one (.v (.slice none 0 0)), .one (.v (.bool false))]) [] [] := by
  have hV := k_tvI2 n t hl
  by_cases h3 : n ≤ 3
  · have hd : decide (n > 3) = false := decide_eq_false (by omega)
    rw [h h3] at hV
    clear h
    (refine kM Tryd.func7 rfl ?_; intro hfit hfe)
    (repeat (first | refine gq_MBC ?_ | (refine ga0A ?_; intro _hq)))
    (refine rtA ?_; try rfl)
  · have hd : decide (n > 3) = true := decide_eq_true (by omega)
    clear h
    (refine kM Tryd.func7 rfl ?_; intro hfit hfe)
    (repeat (first | refine gq_MBC ?_ | (refine ga0A ?_; intro _hq)))
    (refine rtA ?_; try rfl)
set_option maxHeartbeats 4000000 in
theorem k_mbI (n : Int) (t : List Int) (h3 : n ≤ 3) (hv : tvB n t = true) : Kon Tryd.prog 7 [vI n, roA t] [] (.tup [.one (.sl 0 0 (mbL t).reverse.length), .one (.v (.bool true))]) [gRow (mbL t).reverse] [] := by
  have hfst := mb_first hv
  have hV := k_tvI n t
  obtain ⟨_, hL21, _, _⟩ := mb_law h3 hv
  have hv' := hv
  unfold tvB at hv'
  rw [Bool.and_eq_true, Bool.and_eq_true, beq_iff_eq] at hv'
  obtain ⟨q1, q2, _⟩ := hv'
  have h8 := btw_t q1
  have hn : 1 ≤ n ∧ n ≤ 3 := by omega
  have hN8 : t.length ≤ 8 := by
    rw [← pow_N q2.symm]
    exact Nat.pow_le_pow_right (n := 2) (j := 3) (by omega) (by omega)
  have hpos : 0 < t.length := by
    rw [← pow_N q2.symm]
    exact Nat.pow_pos (by omega)
  replace hV := hV (by omega)
  rw [hv] at hV
  obtain ⟨N, hN⟩ : ∃ N, t.length = N := ⟨_, rfl⟩
  have hF : (mbO N 0 (t, [])).2 = mbL t := by unfold mbL; rw [hN]
  generalize mbL t = F at hF hL21 ⊢
  rw [hN] at hfst q2 hN8 hpos
  clear q1 hv
  (refine kM Tryd.func7 rfl ?_; intro hfit hfe)
  (repeat (first | refine gq_MBC ?_ | (refine ga0A ?_; intro _hq)))
  (refine aw_rd [0, 1, 6, 26] [] (fun g : Nat × Nat × MS => [(7, .g (.one (.sl 384 g.2.1 g.2.2.2.length))), (27, vI g.1)]) (fun g => [(368, (0, iRow g.2.2.1)), (384, (g.2.1, gRow g.2.2.2))]) (fun g => g.1 ≤ N ∧ MB n N t g.1 g.2.2 ∧ (mbO (N - g.1) g.1 g.2.2).2 = F) (fun g => N - g.1) (0, 0, (t, [])) (by rfl) (by rfl) ?_ (by rfl) zHE zHE ?_)
  · exact ⟨Nat.zero_le _, hfst, hF⟩
  rintro ⟨k, u, s⟩ ⟨hk, hM, hz⟩
  dsimp only at hk hM hz ⊢
  rcases Nat.lt_or_ge k N with h5 | h5
  · have hd : decide ((k : Int) < (t.length : Int)) = true := decide_eq_true (by omega)
    obtain ⟨hz2, hTl⟩ := mbO_next hz h5
    have hw0 := hM.word hn q2.symm h5
    obtain ⟨T, hT⟩ : ∃ T, mbI k s = T := ⟨_, rfl⟩
    rw [hT] at hz2 hTl hw0
    clear hz
    have hlen0 := hM.len
    (repeat (first | refine gq_MBC ?_ | (refine ga0A ?_; intro _hq)))
    (refine aw_rd [0, 1, 6, 8, 26, 27] [] (fun g : Nat × MS => [(7, .g (.one (.sl 384 g.1 g.2.2.length)))]) (fun g => [(368, (0, iRow g.2.1)), (384, (g.1, gRow g.2.2))]) (fun g => MB n N t k g.2 ∧ mbI k g.2 = T) (fun g => ham k (g.2.1.getD k 0).toNat) (u, s) (by rfl) (by rfl) ?_ (by rfl) zHE zHE ?_)
    · exact ⟨hM, hT⟩
    clear hM hT hlen0 hk
    rintro ⟨v, s'⟩ ⟨hM, hT⟩
    dsimp only at hM hT ⊢
    have hlen := hM.len
    have hsl := mbI_len k s'
    rw [hT] at hsl
    by_cases hne : s'.1.getD k 0 = (k : Int)
    · have hd2 : (s'.1.getD (k : Int).toNat Cel.no != (k : Int)) = false := by
        show (s'.1.getD k 0 != (k : Int)) = false
        rw [hne]; simp
      have e := mb_done hne
      rw [hT] at e
      subst e
      have hinv : k + 1 ≤ N ∧ MB n N t (k + 1) T ∧ (mbO (N - (k + 1)) (k + 1) T).2 = F := ⟨h5, hw0.1, hz2⟩
      clear hM hT hz2 hw0 hne
      (repeat (first | refine gq_MBC ?_ | (refine ga0A ?_; intro _hq)))
      exact ⟨(k + 1, v, T), hinv, ⟨by rfl, zHE, zHE⟩, (by first | omega | (dsimp only; omega))⟩
    · obtain ⟨x, hx, hkx, hxN⟩ := hM.big h5 hne
      have hd2 : (s'.1.getD (k : Int).toNat Cel.no != (k : Int)) = true := by
        show (s'.1.getD k 0 != (k : Int)) = true
        rw [bne, beq_eq_false_iff_ne.2 hne]; rfl
      obtain ⟨_, hgok, _, _, _, _⟩ := mb_facts hn q2.symm hM h5 hne
      obtain ⟨hnear, hnext⟩ := mb_near hn q2.symm hM h5 hne
      have hM2 := hM.step hn q2.symm h5 hne
      have hinv : MB n N t k (mbStep k s') ∧ mbI k (mbStep k s') = T := ⟨hM2, hnext ▸ hT⟩
      have hst : mbStep k s' = (s'.1.map (gr (mbG k x)), s'.2 ++ [mbG k x]) := by unfold mbStep; rw [hx, Int.toNat_natCast]
      have hstl : (mbStep k s').1.length = N := hM2.len
      rw [hx, Int.toNat_natCast] at hgok
      have hA : bits BinOp.andNot IntKind.i64 (s'.1.getD (k : Int).toNat Cel.no) (k : Int) = ((x ^^^ (k &&& x) : Nat) : Int) ∧ bits BinOp.andNot IntKind.i64 (k : Int) (s'.1.getD (k : Int).toNat Cel.no) = ((k ^^^ (k &&& x) : Nat) : Int) ∧ x ^^^ (k &&& x) < 8 ∧ k ^^^ (k &&& x) < 8 ∧ (k ^^^ (k &&& x) ≠ 0 → x < 7 ∧ Lib.ctz 64 (k ^^^ (k &&& x)) = lsb (k ^^^ (k &&& x))) ∧ (k ^^^ (k &&& x) = 0 → Lib.ctz 64 (x ^^^ (k &&& x)) = lsb (x ^^^ (k &&& x))) := by
        show bits BinOp.andNot IntKind.i64 (s'.1.getD k 0) (k : Int) = _ ∧ bits BinOp.andNot IntKind.i64 (k : Int) (s'.1.getD k 0) = _ ∧ _
        rw [hx]
        exact mbc_fin ⟨k, by omega⟩ ⟨x, by omega⟩ hkx
      obtain ⟨hA1, hA2, hX8, hY8, hY, hX⟩ := hA
      have hwd : ∀ i, i < N → 0 ≤ s'.1.getD i 0 ∧ s'.1.getD i 0 < 256 := fun i hi => by have := hM.bd i hi; omega
      unfold mbG at hst hgok
      generalize x ^^^ (k &&& x) = X at *
      generalize k ^^^ (k &&& x) = Y at *
      have hTX : Kon Tryd.prog 28 [.g (.one (.v (.int .u64 (IntKind.u64.wrap (X : Int)))))] [] (vI ((Lib.ctz 64 X : Nat) : Int)) [] [] := by
        rw [wrap_nat (by omega)]; exact k_tz X (by omega)
      have hCX := k_ctl k (Lib.ctz 64 X) (by omega)
      obtain ⟨f, hf⟩ : ∃ f : Gt, f = (if Y ≠ 0 then ctl x (lsb Y) else ctl k (lsb X)) := ⟨_, rfl⟩
      rw [← hf] at hst hgok
      have hrun : ∀ i, i < N → Kon Tryd.prog 29 [gV f, vI ((mpU (gr f) s'.1 i).getD (i : Int).toNat Cel.no)] [] (vI (gr f (s'.1.getD i 0))) [] [] := fun i hi => by
        rw [show (mpU (gr f) s'.1 i).getD (i : Int).toNat Cel.no = (mpU (gr f) s'.1 i).getD i 0 from rfl, mpU_get _ _ (by omega)]
        exact k_run n f _ hgok (hwd i hi)
      have hml : ∀ i, i ≤ N → (mpU (gr f) s'.1 i).length = N := fun i hi => by rw [mpU_len _ _ (by omega)]; exact hlen
      have hms : ∀ i, i < N → (mpU (gr f) s'.1 i).set (i : Int).toNat (gr f (s'.1.getD i 0)) = mpU (gr f) s'.1 (i + 1) := fun i hi => mpU_set _ _ (by omega)
      have hall : mpU (gr f) s'.1 N = (mbStep k s').1 := by rw [hst, ← hlen]; exact mpU_all _ _
      have happ : s'.2 ++ [f] = (mbStep k s').2 := by rw [hst]
      have hpl : (mbStep k s').2.length = s'.2.length + 1 := by rw [← happ, List.length_append]; rfl
      clear hT hM hM2 hne hw0 hz2 hnext hst hwd
      rcases Nat.eq_zero_or_pos Y with hy | hy
      · have hd3 : ((Y : Int) != 0) = false := by rw [hy]; rfl
        rw [if_neg (by omega)] at hf
        rw [hX hy, ← hf] at hCX
        rw [hX hy] at hTX
        clear hY hX hf hx
        (repeat (first | refine gq_MBC ?_ | (refine ga0A ?_; intro _hq)))
        (refine aw_rd [0, 1, 6, 7, 8, 10, 26, 27, 61, 62] [160, 384] (fun i : Nat => [(63, vI i)]) (fun i => [(368, (0, iRow (mpU (gr f) s'.1 i)))]) (fun i => i ≤ N) (fun i => N - i) 0 (by rfl) (by rfl) ?_ (by rfl) zHE zHE ?_)
        · exact Nat.zero_le _
        rintro i hi
        have hml := hml i hi
        rcases Nat.lt_or_ge i N with h6 | h6
        · have hdi : decide ((i : Int) < (t.length : Int)) = true := decide_eq_true (by omega)
          have hrun := hrun i h6
          have hms := hms i h6
          (repeat (first | refine gq_MBC ?_ | (refine ga0A ?_; intro _hq)))
          rw [hms]
          exact ⟨i + 1, h6, ⟨by rfl, zHE, zHE⟩, (by first | omega | (dsimp only; omega))⟩
        · have hdi : decide ((i : Int) < (t.length : Int)) = false := decide_eq_false (by omega)
          obtain rfl : i = N := by omega
          (repeat (first | refine gq_MBC ?_ | (refine ga0A ?_; intro _hq)))
          rw [hall, happ]
          exact ⟨(v + 1, mbStep k s'), hinv, ⟨by rfl, zHE, zHE⟩, (by first | omega | (dsimp only; omega))⟩
      · have hd3 : ((Y : Int) != 0) = true := by rw [bne, beq_eq_false_iff_ne.2 (by omega)]; rfl
        obtain ⟨hx7, hYl⟩ := hY (by omega)
        rw [if_pos (by omega)] at hf
        have hTY : Kon Tryd.prog 28 [.g (.one (.v (.int .u64 (IntKind.u64.wrap (Y : Int)))))] [] (vI ((lsb Y : Nat) : Int)) [] [] := by
          rw [wrap_nat (by omega), ← hYl]; exact k_tz Y (by omega)
        have hCY : Kon Tryd.prog 27 [vI (s'.1.getD (k : Int).toNat Cel.no), vI ((lsb Y : Nat) : Int)] [] (gV f) [] [] := by
          rw [show s'.1.getD (k : Int).toNat Cel.no = s'.1.getD k 0 from rfl, hx, hf]
          exact k_ctl x (lsb Y) hx7
        clear hY hX hf hx hYl
        (repeat (first | refine gq_MBC ?_ | (refine ga0A ?_; intro _hq)))
        (refine aw_rd [0, 1, 6, 7, 8, 10, 26, 27, 61, 62] [160, 384] (fun i : Nat => [(63, vI i)]) (fun i => [(368, (0, iRow (mpU (gr f) s'.1 i)))]) (fun i => i ≤ N) (fun i => N - i) 0 (by rfl) (by rfl) ?_ (by rfl) zHE zHE ?_)
        · exact Nat.zero_le _
        rintro i hi
        have hml := hml i hi
        rcases Nat.lt_or_ge i N with h6 | h6
        · have hdi : decide ((i : Int) < (t.length : Int)) = true := decide_eq_true (by omega)
          have hrun := hrun i h6
          have hms := hms i h6
          (repeat (first | refine gq_MBC ?_ | (refine ga0A ?_; intro _hq)))
          rw [hms]
          exact ⟨i + 1, h6, ⟨by rfl, zHE, zHE⟩, (by first | omega | (dsimp only; omega))⟩
        · have hdi : decide ((i : Int) < (t.length : Int)) = false := decide_eq_false (by omega)
          obtain rfl : i = N := by omega
          (repeat (first | refine gq_MBC ?_ | (refine ga0A ?_; intro _hq)))
          rw [hall, happ]
          exact ⟨(v + 1, mbStep k s'), hinv, ⟨by rfl, zHE, zHE⟩, (by first | omega | (dsimp only; omega))⟩
  · have hd : decide ((k : Int) < (t.length : Int)) = false := decide_eq_false (by omega)
    obtain rfl : k = N := by omega
    rw [Nat.sub_self] at hz
    have hz' : s.2 = F := hz
    clear hz
    subst hz'
    (repeat (first | refine gq_MBC ?_ | (refine ga0A ?_; intro _hq)))
    (refine rtA ?_; try rfl)
end Go.Proofs.YtmkoanmmfcpmjaaDoor
