/- KGE: laid into one text. -/
import Derived.Test.YtfbcblknahicdaaQXFH
import Derived.Test.YtfbcblknahicdaaQXFI

namespace Go.Proofs.Ytfbcblknahicdaa
set_option linter.unusedVariables false
set_option linter.unusedSimpArgs false
set_option maxRecDepth 20000
open Go.RowKit
attribute [local irreducible] runA runX AW
theorem gq_KGE {H G : Prop} (k : H) (h : Hid H → G := by (intro hh; repeat1' (first | (first | (refine nxA ?_; (first | (refine z_op (by rfl) ?_; refine z_ex ?_ (pu_of hm rfl) ?_; focus (first | exact trivial | fail | exact zQZ)) | ((first | (refine z_op (by rfl) ?_; first | refine z_ok ?_ ?_ | refine z_ex ?_ (by first | exact zL1 | ((first | fail); exact zWW) | exact zL2 | fail | exact zL3 | fail) ?_) | ((first | refine q_callE wsT wsZ (by rfl) ?_ | refine q_callVE wsT (by rfl) (by rfl) ?_); refine ⟨_, _, _, (by first | assumption | exact k_within _ _ _ | exact k_okL _ | exact k_nat0 _ (by assumption)), _, by rfl, ?_, ?_⟩)); focus (first | exact trivial | fail | exact zQZ)) | fail)) | refine swA ?_) | refine awA ?_); exact hh.out)) : G := h ⟨k⟩
theorem hm0 : ∀ w : World, (Op.unary .not (.bool true)).run Try.prog w = .ok (.bool false) w := fun w => rfl
theorem k_gv00 (n : Int) (g : Gt) (h : btw g.k 0 4 = false) : Kon Try.prog 40 [vI n, gV g] [] (vB false) [] [] := by
  have hm := hm0
  (refine kM Try.func40 rfl ?_; intro hfit hfe)
  (repeat (first | refine gq_KGE ?_ | (refine ga0A ?_; intro _hq)))
  (refine rtA ?_; try rfl)
theorem seen_nat (s : Nat) (x : Int) : (((((((s : Nat) : Int) / 2 ^ x.toNat).toNat &&& Int.toNat 1 : Nat) : Int)) == 1) = s.testBit x.toNat := by
  rw [sb_and (Int.natCast_nonneg s)]
  unfold bt
  rw [Int.toNat_natCast]
  cases s.testBit x.toNat <;> rfl
theorem or_lt8 {s : Nat} {x : Int} (hs : s < 256) (hx : 0 ≤ x ∧ x ≤ 7) : s ||| 2 ^ x.toNat < 256 := Nat.or_lt_two_pow (n := 8) hs (Nat.pow_lt_pow_right (by omega) (by omega))
theorem or_cast (s : Nat) (x : Int) : ((((s : Nat) : Int).toNat ||| (1 * 2 ^ x.toNat : Int).toNat : Nat) : Int) = ((s ||| 2 ^ x.toNat : Nat) : Int) := by
  rw [Int.toNat_natCast, Int.one_mul, pow_nat]
theorem gvL_drop {n : Int} {s i : Nat} {L : List Int} (hi : i < L.length) : gvL n s (L.drop i) = (btw (L.getD i 0) 0 (n - 1) && !(s.testBit (L.getD i 0).toNat) && gvL n (s ||| 2 ^ (L.getD i 0).toNat) (L.drop (i + 1))) := by
  rw [List.drop_eq_getElem_cons hi]
  simp [gvL, List.getD_eq_getElem?_getD, hi]
theorem z0_drop {i : Nat} {L : List Int} (hi : i < L.length) : z0 (L.drop i) = ((L.getD i 0 == 0) && z0 (L.drop (i + 1))) := by
  rw [List.drop_eq_getElem_cons hi]
  have e : L.getD i 0 = L[i] := by simp [List.getD_eq_getElem?_getD, hi]
  rw [e]; rfl
set_option maxHeartbeats 1000000 in
theorem gv_core (n : Int) (g : Gt) (x1 x3 x4 : Value) (m m2 : Int) (L L2 : List Int) (hK : Kon Try.prog 44 [gV g] [] (.tup [.agg [.v x1, .v (.int .i64 m), .v x3, .v x4], .one (.v (.bool true))]) [] [])
    (hS : Kon Try.prog 45 [gV g, vI m] [] (slA 0 0 L) [iRow L] []) (hS2 : Kon Try.prog 45 [gV g, vI m2] [] (slA 0 0 L2) [iRow L2] [])
    (hm : ∀ w, (Op.unary .xor (.int .i64 m)).run Try.prog w = .ok (.int .i64 m2) w) (hL : L.length ≤ 3) (hL2 : L2.length ≤ 3) : Kon Try.prog 40 [vI n, gV g] [] (vB (btw n 1 8 && (gvL n 0 L && z0 L2))) [] [] := by
  cases hn : btw n 1 8 with
  | false =>
    (refine kM Try.func40 rfl ?_; intro hfit hfe)
    (repeat (first | refine gq_KGE ?_ | (refine ga0A ?_; intro _hq)))
    (refine rtA ?_; try rfl)
  | true =>
  have hn' := btw_t hn
  rw [Bool.true_and]
  (refine kM Try.func40 rfl ?_; intro hfit hfe)
  (repeat (first | refine gq_KGE ?_ | (refine ga0A ?_; intro _hq)))
  (refine aw_rd [0, 3, 5, 27, 28] [48, 432, 80] (fun g : Nat × Nat => [(7, vI g.2), (29, vI g.1)]) (fun _ => []) (fun g => g.1 ≤ L.length ∧ g.2 < 256 ∧ gvL n g.2 (L.drop g.1) = gvL n 0 L) (fun g => L.length - g.1) (0, 0) (by rfl) (by rfl) ?_ (by rfl) zHE zHE ?_)
  · exact ⟨Nat.zero_le _, by decide, by rw [List.drop_zero]⟩
  rintro ⟨i, s⟩ ⟨hi, hs, hg⟩
  dsimp only at hi hs hg ⊢
  rcases Nat.lt_or_ge i L.length with h5 | h5
  · have hd : decide ((i : Int) < (L.length : Int)) = true := by simpa using h5
    obtain ⟨x, hx⟩ : ∃ x, L.getD (i : Int).toNat (Cel.no : Int) = x := ⟨_, rfl⟩
    have hx' : L.getD i 0 = x := hx
    rw [gvL_drop h5, hx'] at hg
    (repeat (first | refine gq_KGE ?_ | (refine ga0A ?_; intro _hq)))
    rw [hx]
    cases hb : btw x 0 (n - 1) with
    | false =>
      rw [hb, Bool.false_and, Bool.false_and] at hg
      rw [← hg, Bool.false_and]
      (repeat (first | refine gq_KGE ?_ | (refine ga0A ?_; intro _hq)))
      (refine rtA ?_; try rfl)
    | true =>
      have hb' := btw_t hb
      have hp := pow_7 (n := x) (by omega)
      have hn1 := seen_nat s x
      have hs2 := or_lt8 (s := s) (x := x) hs (by omega)
      rw [hb, Bool.true_and] at hg
      cases hv : s.testBit x.toNat with
      | true =>
        rw [hv, Bool.not_true, Bool.false_and] at hg
        rw [hv] at hn1
        rw [← hg, Bool.false_and]
        (repeat (first | refine gq_KGE ?_ | (refine ga0A ?_; intro _hq)))
        (refine rtA ?_; try rfl)
      | false =>
        rw [hv, Bool.not_false, Bool.true_and] at hg
        rw [hv] at hn1
        have hinv : i + 1 ≤ L.length ∧ s ||| 2 ^ x.toNat < 256 ∧ gvL n (s ||| 2 ^ x.toNat) (L.drop (i + 1)) = gvL n 0 L := ⟨h5, hs2, hg⟩
        have e := or_cast s x
        (repeat (first | refine gq_KGE ?_ | (refine ga0A ?_; intro _hq)))
        rw [e]
        exact ⟨(i + 1, s ||| 2 ^ x.toNat), hinv, ⟨by rfl, zHE, zHE⟩, (by first | omega | (dsimp only; omega))⟩
  · have hd : decide ((i : Int) < (L.length : Int)) = false := by simp; omega
    rw [List.drop_of_length_le h5] at hg
    rw [← hg]
    clear hg
    (repeat (first | refine gq_KGE ?_ | (refine ga0A ?_; intro _hq)))
    (refine aw_rd [54, 55] [864] (fun i : Nat => [(56, vI i)]) (fun _ => []) (fun i => i ≤ L2.length ∧ z0 (L2.drop i) = z0 L2) (fun i => L2.length - i) 0 (by rfl) (by rfl) ?_ (by rfl) zHE zHE ?_)
    · exact ⟨Nat.zero_le _, by rw [List.drop_zero]⟩
    rintro j ⟨hj, hz⟩
    rcases Nat.lt_or_ge j L2.length with h6 | h6
    · have hd : decide ((j : Int) < (L2.length : Int)) = true := by simpa using h6
      obtain ⟨x, hx⟩ : ∃ x, L2.getD (j : Int).toNat (Cel.no : Int) = x := ⟨_, rfl⟩
      have hx' : L2.getD j 0 = x := hx
      rw [z0_drop h6, hx'] at hz
      (repeat (first | refine gq_KGE ?_ | (refine ga0A ?_; intro _hq)))
      rw [hx]
      cases hb : (x != 0) with
      | true =>
        have e : (x == 0) = false := by rw [bne] at hb; simpa using hb
        rw [e, Bool.false_and] at hz
        rw [← hz]
        (repeat (first | refine gq_KGE ?_ | (refine ga0A ?_; intro _hq)))
        (refine rtA ?_; try rfl)
      | false =>
        have e : (x == 0) = true := by rw [bne] at hb; simpa using hb
        rw [e, Bool.true_and] at hz
        have hinv : j + 1 ≤ L2.length ∧ z0 (L2.drop (j + 1)) = z0 L2 := ⟨h6, hz⟩
        (repeat (first | refine gq_KGE ?_ | (refine ga0A ?_; intro _hq)))
        exact ⟨j + 1, hinv, ⟨by rfl, zHE, zHE⟩, (by first | omega | (dsimp only; omega))⟩
    · have hd : decide ((j : Int) < (L2.length : Int)) = false := by simp; omega
      rw [List.drop_of_length_le h6] at hz
      rw [← hz]
      (repeat (first | refine gq_KGE ?_ | (refine ga0A ?_; intro _hq)))
      (refine rtA ?_; try rfl)
theorem k_gv (n : Int) (g : Gt) : Kon Try.prog 40 [vI n, gV g] [] (vB (gok n g)) [] [] := by
  cases hk : btw g.k 0 4 with
  | false => rw [gok_k hk]; exact k_gv00 n g hk
  | true =>
    have hk' := btw_t hk
    have hK := k_nat1 g hk'
    cases hn : btw n 1 8 with
    | false =>
      rw [gok_n hn]
      obtain ⟨k, a, b, c⟩ := g
      dsimp only at hk' hK ⊢
      have h' : k = 0 ∨ k = 1 ∨ k = 2 ∨ k = 3 ∨ k = 4 := by omega
      have hm := hm0
      rcases h' with rfl | rfl | rfl | rfl | rfl
      all_goals
        (refine kM Try.func40 rfl ?_; intro hfit hfe)
        (repeat (first | refine gq_KGE ?_ | (refine ga0A ?_; intro _hq)))
        (refine rtA ?_; try rfl)
    | true =>
      rw [gok_nt hk' hn]
      have hG : ∀ (x1 x3 x4 : Value) (m m2 : Int) (L L2 : List Int), _ → _ → _ → _ → _ → _ → Kon Try.prog 40 [vI n, gV g] [] (vB (btw n 1 8 && (gvL n 0 L && z0 L2))) [] [] := gv_core n g
      rw [hn] at hG
      simp only [Bool.true_and] at hG
      obtain ⟨k, a, b, c⟩ := g
      dsimp only at hk' hK ⊢
      have h' : k = 0 ∨ k = 1 ∨ k = 2 ∨ k = 3 ∨ k = 4 := by omega
      rcases h' with rfl | rfl | rfl | rfl | rfl
      · exact hG _ _ _ 1 (-2) [a] [b, c] hK (k_some _ 1 (by decide)) (k_some _ (-2) (by decide)) (fun w => rfl) (by simp) (by simp)
      · exact hG _ _ _ 3 (-4) [a, b] [c] hK (k_some _ 3 (by decide)) (k_some _ (-4) (by decide)) (fun w => rfl) (by simp) (by simp)
      · exact hG _ _ _ 7 (-8) [a, b, c] [] hK (k_some _ 7 (by decide)) (k_some _ (-8) (by decide)) (fun w => rfl) (by simp) (by simp)
      · exact hG _ _ _ 3 (-4) [a, b] [c] hK (k_some _ 3 (by decide)) (k_some _ (-4) (by decide)) (fun w => rfl) (by simp) (by simp)
      · exact hG _ _ _ 7 (-8) [a, b, c] [] hK (k_some _ 7 (by decide)) (k_some _ (-8) (by decide)) (fun w => rfl) (by simp) (by simp)
end Go.Proofs.Ytfbcblknahicdaa
