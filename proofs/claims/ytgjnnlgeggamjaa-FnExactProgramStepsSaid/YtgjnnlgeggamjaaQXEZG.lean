/- TRX: laid into one text. -/
import Derived.Test.YtgjnnlgeggamjaaQXEL

namespace Go.Proofs.Ytgjnnlgeggamjaa
set_option linter.unusedVariables false
set_option linter.unusedSimpArgs false
set_option maxRecDepth 20000
open Go.RowKit
attribute [local irreducible] runA runX AW
def wsTL : WsT := (14, ([0], false)) :: (25, ([0], false)) :: wsT
abbrev gV (g : Gt) : AV := lV g.k g.a g.b g.c
theorem gq_TRX {H G : Prop} (k : H) (h : Hid H → G := by (intro hh; repeat1' (first | (first | (refine nxA ?_; (first | fail | ((first | (refine z_op (by rfl) ?_; first | refine z_ok ?_ ?_ | refine z_ex ?_ (by first | exact zL1 | ((first | (first | refine mk_c Int rfl rfl rfl ?_ | refine mk_c Gt rfl rfl rfl ?_)); exact zWW) | exact zL2 | fail | exact zL3 | fail) ?_) | ((first | refine q_callE wsTL wsZ (by rfl) ?_ | refine q_callVE wsTL (by rfl) (by rfl) ?_); refine ⟨_, _, _, (by first | assumption | exact k_eqGate _ | exact k_toGate _), _, by rfl, ?_, ?_⟩)); focus (first | exact trivial | fail | exact zQZ)) | fail)) | refine swA ?_) | refine awA ?_); exact hh.out)) : G := h ⟨k⟩
theorem set_end {α : Type} (l r : List α) (x y : α) : (l ++ x :: r).set l.length y = l ++ y :: r := by
  rw [List.set_append_right _ _ (Nat.le_refl _), Nat.sub_self]; rfl
theorem k_toI (l : List Int) (h : l.length ≤ 10000000) : Kon Try.prog 22 [roA l] [] (slA 0 0 l) [(rwE 3) l] [] := by
  (refine kM Try.func22 rfl ?_; intro hfit hfe)
  have hrl : (List.replicate (l.length : Int).toNat (Cel.no : Int)).length = l.length := by rw [List.length_replicate]; omega
  (repeat (first | refine gq_TRX ?_ | (refine ga0A ?_; intro _hq)))
  (refine aw_rd [0, 3] [] (fun i : Nat => [(4, vI i)]) (fun i => [(112, (0, (rwE 3) (l.take i ++ List.replicate (l.length - i) (0 : Int))))]) (fun i => i ≤ l.length) (fun i => l.length - i) 0 (by rfl) (by rfl) ?_ (by rfl) zHE zHE ?_)
  · exact Nat.zero_le _
  rintro i hi
  rcases Nat.lt_or_ge i l.length with h1 | h1
  · have hd : decide ((i : Int) < (l.length : Int)) = true := decide_eq_true (by omega)
    have hl2 : (l.take i ++ List.replicate (l.length - i) (0 : Int)).length = l.length := by simp; omega
    have e : (l.take i ++ List.replicate (l.length - i) (0 : Int)).set (i : Int).toNat (l.getD (i : Int).toNat (0 : Int)) = l.take (i + 1) ++ List.replicate (l.length - (i + 1)) (0 : Int) := by
      rw [show l.length - i = (l.length - (i + 1)) + 1 by omega, List.replicate_succ, List.take_succ_eq_append_getElem h1]
      have h2 : (i : Int).toNat = (l.take i).length := by simp; omega
      have h3 : l.getD (i : Int).toNat (0 : Int) = l[i] := by rw [Int.toNat_natCast, List.getD_eq_getElem?_getD, List.getElem?_eq_getElem h1]; rfl
      rw [h3, h2, set_end, List.append_assoc]; rfl
    have hinv : i + 1 ≤ l.length := h1
    (repeat (first | refine gq_TRX ?_ | (refine ga0A ?_; intro _hq)))
    exact ⟨i + 1, hinv, ⟨by rfl, zHE, ⟨Eq.trans (b := some (0, (rwE 3) ((l.take i ++ List.replicate (l.length - i) (0 : Int)).set (i : Int).toNat (l.getD (i : Int).toNat (0 : Int))))) (by rfl) (by rw [e]), zHE⟩⟩, (by first | omega | (dsimp only; omega))⟩
  · obtain rfl : i = l.length := by omega
    have hd : decide ((l.length : Int) < (l.length : Int)) = false := decide_eq_false (by omega)
    have e : l.take l.length ++ List.replicate (l.length - l.length) (0 : Int) = l := by simp
    rw [e]
    (repeat (first | refine gq_TRX ?_ | (refine ga0A ?_; intro _hq)))
    (refine rtA ?_; try rfl)
    exact congrArg (fun n => AV.g (.one (.sl 0 0 n))) hrl
theorem k_eqIs (l : List Int) (h : l.length ≤ 10000000) : Kon Try.prog 24 [roA l, roA l] [] (vB true) [] [] := by
  have h1 : ((l.length : Int) != (l.length : Int)) = false := by simp
  have hg : ∀ x : Int, (x != x) = false := fun x => by simp
  (refine kM Try.func24 rfl ?_; intro hfit hfe)
  (repeat (first | refine gq_TRX ?_ | (refine ga0A ?_; intro _hq)))
  (refine aw_rd [0, 1, 4] [] (fun i : Nat => [(5, vI i)]) (fun _ => []) (fun i => i ≤ l.length) (fun i => l.length - i) 0 (by rfl) (by rfl) ?_ (by rfl) zHE zHE ?_)
  · exact Nat.zero_le _
  rintro i hi
  rcases Nat.lt_or_ge i l.length with h5 | h5
  · have hd : decide ((i : Int) < (l.length : Int)) = true := decide_eq_true (by omega)
    have hg := hg (l.getD (i : Int).toNat Cel.no)
    (repeat (first | refine gq_TRX ?_ | (refine ga0A ?_; intro _hq) | refine gdA ?_))
    exact ⟨i + 1, h5, ⟨by rfl, zHE, zHE⟩, (by first | omega | (dsimp only; omega))⟩
  · have hd : decide ((i : Int) < (l.length : Int)) = false := decide_eq_false (by omega)
    (repeat (first | refine gq_TRX ?_ | (refine ga0A ?_; intro _hq) | refine gdA ?_))
    (refine rtA ?_; try rfl)
theorem k_eqGate (g : Gt) : Kon Try.prog 39 [gV g, gV g] [] (vB true) [] [] := by
  have e : ∀ x : Int, (x != x) = false := fun x => by simp
  have e1 := e g.k
  have e2 := e g.a
  have e3 := e g.b
  have e4 := e g.c
  (refine kM Try.func39 rfl ?_; intro hfit hfe)
  (repeat (first | refine gq_TRX ?_ | (refine ga0A ?_; intro _hq)))
  (refine rtA ?_; try rfl)
theorem k_eqG (l : List Gt) (h : l.length ≤ 10000000) : Kon Try.prog 13 [roA l, roA l] [] (vB true) [] [] := by
  have h1 : ((l.length : Int) != (l.length : Int)) = false := by simp
  (refine kM Try.func13 rfl ?_; intro hfit hfe)
  (repeat (first | refine gq_TRX ?_ | (refine ga0A ?_; intro _hq)))
  (refine aw_rd [0, 1, 4] [] (fun i : Nat => [(5, vI i)]) (fun _ => []) (fun i => i ≤ l.length) (fun i => l.length - i) 0 (by rfl) (by rfl) ?_ (by rfl) zHE zHE ?_)
  · exact Nat.zero_le _
  rintro i hi
  rcases Nat.lt_or_ge i l.length with h5 | h5
  · have hd : decide ((i : Int) < (l.length : Int)) = true := decide_eq_true (by omega)
    (repeat (first | refine gq_TRX ?_ | (refine ga0A ?_; intro _hq) | refine gdA ?_))
    exact ⟨i + 1, h5, ⟨by rfl, zHE, zHE⟩, (by first | omega | (dsimp only; omega))⟩
  · have hd : decide ((i : Int) < (l.length : Int)) = false := decide_eq_false (by omega)
    (repeat (first | refine gq_TRX ?_ | (refine ga0A ?_; intro _hq) | refine gdA ?_))
    (refine rtA ?_; try rfl)
theorem k_toGate (g : Gt) : Kon Try.prog 35 [gV g] [] (gV g) [] [] := by
  (refine kM Try.func35 rfl ?_; intro hfit hfe)
  (repeat (first | refine gq_TRX ?_ | (refine ga0A ?_; intro _hq)))
  (refine rtA ?_; try rfl)
theorem k_szL (l : List Gt) (m : Int) (h : l.length ≤ 9223372036854775807 ∧ 0 ≤ m ∧ m ≤ 10000000) : Kon Try.prog 9 [roA l, vI m] [] (vI (if m - l.length < 0 then -1 else m - l.length)) [] [] := by
  rcases Int.lt_or_le (m - l.length) 0 with h1 | h1
  · have hd : decide (m - (l.length : Int) < 0) = true := decide_eq_true h1
    rw [if_pos h1]
    (refine kM Try.func9 rfl ?_; intro hfit hfe)
    (repeat (first | refine gq_TRX ?_ | (refine ga0A ?_; intro _hq)))
    (refine rtA ?_; try rfl)
  · have hd : decide (m - (l.length : Int) < 0) = false := decide_eq_false (by omega)
    rw [if_neg (by omega)]
    (refine kM Try.func9 rfl ?_; intro hfit hfe)
    (repeat (first | refine gq_TRX ?_ | (refine ga0A ?_; intro _hq)))
    (refine rtA ?_; try rfl)
abbrev g0 : Gt := Cel.no
theorem k_toL (l : List Gt) (h : l.length ≤ 10000000) : Kon Try.prog 11 [roA l] [] (slA 0 0 l) [(rwE 47) l] [] := by
  (refine kM Try.func11 rfl ?_; intro hfit hfe)
  have hrl : (List.replicate (l.length : Int).toNat (Cel.no : Gt)).length = l.length := by rw [List.length_replicate]; omega
  (repeat (first | refine gq_TRX ?_ | (refine ga0A ?_; intro _hq)))
  (refine aw_rd [0, 3] [] (fun i : Nat => [(4, vI i)]) (fun i => [(112, (0, (rwE 47) (l.take i ++ List.replicate (l.length - i) g0)))]) (fun i => i ≤ l.length) (fun i => l.length - i) 0 (by rfl) (by rfl) ?_ (by rfl) zHE zHE ?_)
  · exact Nat.zero_le _
  rintro i hi
  rcases Nat.lt_or_ge i l.length with h1 | h1
  · have hd : decide ((i : Int) < (l.length : Int)) = true := decide_eq_true (by omega)
    have hl2 : (l.take i ++ List.replicate (l.length - i) g0).length = l.length := by simp; omega
    have e : (l.take i ++ List.replicate (l.length - i) g0).set (i : Int).toNat (l.getD (i : Int).toNat g0) = l.take (i + 1) ++ List.replicate (l.length - (i + 1)) g0 := by
      rw [show l.length - i = (l.length - (i + 1)) + 1 by omega, List.replicate_succ, List.take_succ_eq_append_getElem h1]
      have h2 : (i : Int).toNat = (l.take i).length := by simp; omega
      have h3 : l.getD (i : Int).toNat g0 = l[i] := by rw [Int.toNat_natCast, List.getD_eq_getElem?_getD, List.getElem?_eq_getElem h1]; rfl
      rw [h3, h2, set_end, List.append_assoc]; rfl
    have hinv : i + 1 ≤ l.length := h1
    (repeat (first | refine gq_TRX ?_ | (refine ga0A ?_; intro _hq)))
    exact ⟨i + 1, hinv, ⟨by rfl, zHE, ⟨Eq.trans (b := some (0, (rwE 47) ((l.take i ++ List.replicate (l.length - i) g0).set (i : Int).toNat (l.getD (i : Int).toNat g0)))) (by rfl) (by rw [e]), zHE⟩⟩, (by first | omega | (dsimp only; omega))⟩
  · obtain rfl : i = l.length := by omega
    have hd : decide ((l.length : Int) < (l.length : Int)) = false := decide_eq_false (by omega)
    have e : l.take l.length ++ List.replicate (l.length - l.length) g0 = l := by simp
    rw [e]
    (repeat (first | refine gq_TRX ?_ | (refine ga0A ?_; intro _hq)))
    (refine rtA ?_; try rfl)
    exact congrArg (fun n => AV.g (.one (.sl 0 0 n))) hrl
end Go.Proofs.Ytgjnnlgeggamjaa
