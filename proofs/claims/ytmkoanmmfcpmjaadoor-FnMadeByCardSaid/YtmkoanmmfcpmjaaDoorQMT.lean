/- MBB, PTC, KTB, KTC: laid into one text. -/
import Derived.Test.YtmkoanmmfcpmjaaDoorQME
import Derived.Test.YtmkoanmmfcpmjaaDoorQMF
import Derived.Test.YtmkoanmmfcpmjaaDoorQMJ
import Derived.Test.YtmkoanmmfcpmjaaDoorQMR

namespace Go.Proofs.YtmkoanmmfcpmjaaDoor
set_option linter.unusedVariables false
set_option linter.unusedSimpArgs false
set_option maxRecDepth 20000
open Go.RowKit
attribute [local irreducible] runA runX AW
theorem gq_MBB {H G : Prop} (k : H) (h : Hid H → G := by (intro hh; repeat1' (first | (first | (refine nxA ?_; (first | fail | ((first | (refine z_op (by rfl) ?_; first | refine z_ok ?_ ?_ | refine z_ex ?_ (by first | exact zL1 | ((first | refine mk_c Int rfl rfl rfl ?_); exact zWW) | exact zL2 | exact rw_c Int rfl | exact zL3 | fail) ?_) | ((first | refine q_callE wsT wsZ (by rfl) ?_ | refine q_callVE wsT (by rfl) (by rfl) ?_); refine ⟨_, _, _, (by first | assumption), _, by rfl, ?_, ?_⟩)); focus (first | exact trivial | fail | exact zQZ)) | fail)) | refine swA ?_) | refine awA ?_); exact hh.out)) : G := h ⟨k⟩
def ones (w : Int) : Nat → List Int
  | 0 => []
  | k + 1 => if bt w (k : Int) then ones w k ++ [(k : Int)] else ones w k
theorem ones_len (w : Int) : ∀ k, (ones w k).length ≤ k
  | 0 => Nat.le_refl _
  | k + 1 => by
    have := ones_len w k
    rw [ones]
    split
    · rw [List.length_append, List.length_singleton]; omega
    · omega
def g3 (l : List Int) (b : Int) : Gt := match l with
  | [] => ⟨0, b, 0, 0⟩
  | [a] => ⟨1, a, b, 0⟩
  | a :: a' :: _ => ⟨2, a, a', b⟩
theorem k_l3o (n : Nat) (w : Int) (hn : n ≤ 8) (hw : 0 ≤ w ∧ w < 256) : Kon Tryd.prog 24 [vI (n : Int), vI w] [] (slA 0 0 (ones w n)) [iRow (ones w n)] [] := by
  (refine kM Tryd.func24 rfl ?_; intro hfit hfe)
  (repeat (first | refine gq_MBB ?_ | (refine ga0A ?_; intro _hq)))
  (refine aw_rd [0, 1] [] (fun g : Nat × Nat × List Int => [(5, .g (.one (.sl 112 g.2.1 g.2.2.length))), (6, vI g.1)]) (fun g => [(112, (g.2.1, iRow g.2.2))]) (fun g => g.1 ≤ n ∧ g.2.2 = ones w g.1) (fun g => n - g.1) (0, 0, []) (by rfl) (by rfl) ?_ (by rfl) zHE zHE ?_)
  · exact ⟨Nat.zero_le _, rfl⟩
  rintro ⟨k, u, o⟩ ⟨h1, h2⟩
  dsimp only at h1 h2 ⊢
  have hol := ones_len w k
  rw [← h2] at hol
  rcases Nat.lt_or_ge k n with h5 | h5
  · have hd : decide ((k : Int) < (n : Int)) = true := decide_eq_true (by omega)
    have hB := k_bitS w (k : Int) (by omega)
    have hs : ones w (k + 1) = if bt w (k : Int) then ones w k ++ [(k : Int)] else ones w k := rfl
    rw [← h2] at hs
    cases hb : bt w (k : Int) with
    | true =>
      rw [hb, if_pos rfl] at hB
      rw [hb, if_pos rfl] at hs
      have hinv : k + 1 ≤ n ∧ o ++ [(k : Int)] = ones w (k + 1) := ⟨h5, hs.symm⟩
      clear h2 hs hb
      (repeat (first | refine gq_MBB ?_ | (refine ga0A ?_; intro _hq)))
      exact ⟨(k + 1, u + 1, o ++ [(k : Int)]), hinv, ⟨by rfl, zHE, zHE⟩, (by first | omega | (dsimp only; omega))⟩
    | false =>
      rw [hb, if_neg (by decide)] at hB
      rw [hb, if_neg (by decide)] at hs
      have hinv : k + 1 ≤ n ∧ o = ones w (k + 1) := ⟨h5, hs.symm⟩
      clear h2 hs hb
      (repeat (first | refine gq_MBB ?_ | (refine ga0A ?_; intro _hq)))
      exact ⟨(k + 1, u, o), hinv, ⟨by rfl, zHE, zHE⟩, (by first | omega | (dsimp only; omega))⟩
  · have hd : decide ((k : Int) < (n : Int)) = false := decide_eq_false (by omega)
    obtain rfl : k = n := by omega
    rw [← h2]
    clear h2
    (repeat (first | refine gq_MBB ?_ | (refine ga0A ?_; intro _hq)))
    (refine rtA ?_; try rfl)
theorem k_l3g (l : List Int) (b : Int) (hl : l.length ≤ 8) : Kon Tryd.prog 23 [roA l, vI b] [] (gV (g3 l b)) [] [] := by
  rcases l with _ | ⟨a, _ | ⟨a', l⟩⟩
  · (refine kM Tryd.func23 rfl ?_; intro hfit hfe)
    (repeat (first | refine gq_MBB ?_ | (refine ga0A ?_; intro _hq)))
    (refine rtA ?_; try rfl)
  · (refine kM Tryd.func23 rfl ?_; intro hfit hfe)
    (repeat (first | refine gq_MBB ?_ | (refine ga0A ?_; intro _hq)))
    (refine rtA ?_; try rfl)
  · have h0 : (((a :: a' :: l).length : Int) == 0) = false := by rw [beq_eq_false_iff_ne]; simp only [List.length_cons]; omega
    have h1 : (((a :: a' :: l).length : Int) == 1) = false := by rw [beq_eq_false_iff_ne]; simp only [List.length_cons]; omega
    have h2 : 2 ≤ (a :: a' :: l).length := by simp only [List.length_cons]; omega
    (refine kM Tryd.func23 rfl ?_; intro hfit hfe)
    (repeat (first | refine gq_MBB ?_ | (refine ga0A ?_; intro _hq)))
    (refine aw_draw mixed T0ok cfU_ok [(64, [8])] (by rfl) (by kernel_rfl) ?_)
    (repeat (first | refine gq_MBB ?_ | (refine ga0A ?_; intro _hq)))
    (refine rtA ?_; try rfl)
end Go.Proofs.YtmkoanmmfcpmjaaDoor
namespace Go.Proofs.YtmkoanmmfcpmjaaDoor
set_option linter.unusedVariables false
set_option linter.unusedSimpArgs false
section
variable {f : Nat → Nat} {N : Nat}
end
end Go.Proofs.YtmkoanmmfcpmjaaDoor
namespace Go.Proofs.YtmkoanmmfcpmjaaDoor
set_option linter.unusedVariables false
set_option linter.unusedSimpArgs false
set_option maxRecDepth 20000
open Go.RowKit
attribute [local irreducible] runA runX AW
theorem gq_KTC {H G : Prop} (k : H) (h : Hid H → G := by (intro hh; repeat1' (first | (first | (refine nxA ?_; (first | fail | ((first | (refine z_op (by rfl) ?_; first | refine z_ok ?_ ?_ | refine z_ex ?_ (by first | exact zL1 | ((first | fail); exact zWW) | exact zL2 | fail | exact zL3 | fail) ?_) | ((first | refine q_callE wsT wsZ (by rfl) ?_ | refine q_callVE wsT (by rfl) (by rfl) ?_); refine ⟨_, _, _, (by first | assumption | exact k_l1In _ _ _ | exact k_has _ _ (by omega)), _, by rfl, ?_, ?_⟩)); focus (first | exact trivial | fail | exact zQZ)) | fail)) | refine swA ?_) | refine awA ?_); exact hh.out)) : G := h ⟨k⟩
theorem take_j {l : List Int} {k : Nat} (h : k < l.length) : l.take (k + 1) = l.take k ++ [l.getD k 0] := by
  rw [List.take_succ_eq_append_getElem h]
  simp [List.getD_eq_getElem?_getD, h]
set_option maxHeartbeats 4000000 in
theorem k_tvS (n : Int) (t : List Int) (hr : -9223372036854775808 ≤ n ∧ n ≤ 9223372036854775807) (h : t.length ≤ 1000) : Kon Tryd.prog 21 [vI n, roA t] [] (vB (tvB n t)) [] [] := by
  unfold tvB
  cases hn : btw n 1 8 with
  | false =>
    (refine kM Tryd.func21 rfl ?_; intro hfit hfe)
    (repeat (first | refine gq_KTC ?_ | (refine ga0A ?_; intro _hq)))
    (refine rtA ?_; try rfl)
  | true =>
  have hn' := btw_t hn
  have h8 := pow_8 hn'
  rw [Bool.true_and]
  cases hl : ((t.length : Int) == 2 ^ n.toNat) with
  | false =>
    have hl2 : ((t.length : Int) != 1 * 2 ^ n.toNat) = true := by rw [Int.one_mul, bne, hl]; rfl
    (refine kM Tryd.func21 rfl ?_; intro hfit hfe)
    (repeat (first | refine gq_KTC ?_ | (refine ga0A ?_; intro _hq)))
    (refine rtA ?_; try rfl)
  | true =>
  have hl2 : ((t.length : Int) != 1 * 2 ^ n.toNat) = false := by rw [Int.one_mul, bne, hl]; rfl
  have hlN : (t.length : Int) = 2 ^ n.toNat := beq_iff_eq.1 hl
  rw [Bool.true_and]
  (refine kM Tryd.func21 rfl ?_; intro hfit hfe)
  (repeat (first | refine gq_KTC ?_ | (refine ga0A ?_; intro _hq)))
  (refine aw_rd [0, 1] [] (fun i : Nat => [(5, vI i)]) (fun _ => []) (fun i => i ≤ t.length ∧ (∀ x ∈ t.take i, 0 ≤ x ∧ x < (t.length : Int)) ∧ tvL (t.length : Int) (seenL (List.replicate t.length false) (t.take i)) (t.drop i) = tvL (t.length : Int) (List.replicate t.length false) t) (fun i => t.length - i) 0 (by rfl) (by rfl) ?_ (by rfl) zHE zHE ?_)
  · exact ⟨Nat.zero_le _, by simp, rfl⟩
  rintro i ⟨hi, hp, hz⟩
  rcases Nat.lt_or_ge i t.length with h5 | h5
  · have hd : decide ((i : Int) < (t.length : Int)) = true := by simpa using h5
    have hlt : (t.take i).length ≤ 1000 := by rw [List.length_take]; omega
    have hH := k_has (t.take i) (t.getD (i : Int).toNat Cel.no) (by omega)
    have hW := k_wvS2 n (t.getD (i : Int).toNat Cel.no)
    have hti := take_j h5
    rw [tvL_drop h5] at hz
    have hwv : wvB n (t.getD (i : Int).toNat Cel.no) = btw (t.getD i 0) 0 ((t.length : Int) - 1) := by
      unfold wvB; rw [hn, Bool.true_and, hlN]; rfl
    rw [hwv] at hW
    cases hb : btw (t.getD i 0) 0 ((t.length : Int) - 1) with
    | false =>
      rw [hb] at hW
      rw [hb, Bool.false_and, Bool.false_and] at hz
      rw [← hz]
      clear hz hp hti
      (repeat (first | refine gq_KTC ?_ | (refine ga0A ?_; intro _hq)))
      (refine aw_draw mixed T0ok cfU_ok [] (by rfl) (by kernel_rfl) ?_)
      (repeat (first | refine gq_KTC ?_ | (refine ga0A ?_; intro _hq)))
      (refine rtA ?_; try rfl)
    | true =>
      rw [hb] at hW
      have hb' := btw_t hb
      rw [hb, Bool.true_and] at hz
      have hsn := seenL_at (t.take i) (List.replicate t.length false) (t.getD i 0) (by rw [List.length_replicate]; exact hp) hb'.1
      have hr0 : (List.replicate t.length false).getD (t.getD i 0).toNat false = false := by
        rw [List.getD_eq_getElem?_getD]
        cases hq : (List.replicate t.length false)[(t.getD i 0).toNat]? with
        | none => rfl
        | some v => have := List.eq_of_mem_replicate (List.mem_of_getElem? hq); rw [this]; rfl
      rw [hr0, Bool.false_or] at hsn
      have hhas : hasB (t.take i) (t.getD (i : Int).toNat Cel.no) = (t.take i).any (· == t.getD i 0) := rfl
      cases hv : (t.take i).any (· == t.getD i 0) with
      | true =>
        rw [hsn, hv, Bool.not_true, Bool.false_and] at hz
        rw [hhas, hv] at hH
        rw [← hz]
        clear hz hp hti hsn
        (repeat (first | refine gq_KTC ?_ | (refine ga0A ?_; intro _hq)))
        (refine aw_draw mixed T0ok cfU_ok [] (by rfl) (by kernel_rfl) ?_)
        (repeat (first | refine gq_KTC ?_ | (refine ga0A ?_; intro _hq)))
        (refine rtA ?_; try rfl)
      | false =>
        rw [hsn, hv, Bool.not_false, Bool.true_and, ← seenL_snoc, ← hti] at hz
        rw [hhas, hv] at hH
        have hp2 : ∀ x ∈ t.take (i + 1), 0 ≤ x ∧ x < (t.length : Int) := by
          intro x hx
          rw [hti] at hx
          rcases List.mem_append.1 hx with hx | hx
          · exact hp x hx
          · rw [List.mem_singleton] at hx; subst hx; omega
        have hinv : i + 1 ≤ t.length ∧ (∀ x ∈ t.take (i + 1), 0 ≤ x ∧ x < (t.length : Int)) ∧ tvL (t.length : Int) (seenL (List.replicate t.length false) (t.take (i + 1))) (t.drop (i + 1)) = tvL (t.length : Int) (List.replicate t.length false) t := ⟨h5, hp2, hz⟩
        clear hz hp hti hsn hp2
        (repeat (first | refine gq_KTC ?_ | (refine ga0A ?_; intro _hq)))
        (refine aw_draw mixed T0ok cfU_ok [] (by rfl) (by kernel_rfl) ?_)
        (repeat (first | refine gq_KTC ?_ | (refine ga0A ?_; intro _hq)))
        exact ⟨i + 1, hinv, ⟨by rfl, zHE, zHE⟩, (by first | omega | (dsimp only; omega))⟩
  · have hd : decide ((i : Int) < (t.length : Int)) = false := by simp; omega
    rw [List.drop_of_length_le h5, tvL] at hz
    rw [← hz]
    clear hz hp
    (repeat (first | refine gq_KTC ?_ | (refine ga0A ?_; intro _hq)))
    (refine rtA ?_; try rfl)
end Go.Proofs.YtmkoanmmfcpmjaaDoor
