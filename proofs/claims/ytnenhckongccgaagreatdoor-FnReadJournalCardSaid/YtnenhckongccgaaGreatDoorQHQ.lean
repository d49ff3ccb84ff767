/- KGL, KEA, KEB, KEC: laid into one text. -/
import Derived.Test.YtnenhckongccgaaGreatDoorQHO
import Derived.Test.YtnenhckongccgaaGreatDoorQHP

namespace Go.Proofs.YtnenhckongccgaaGreatDoor
set_option linter.unusedVariables false
set_option linter.unusedSimpArgs false
set_option maxRecDepth 20000
open Go.RowKit
attribute [local irreducible] runA runX AW
theorem gq_KGL {H G : Prop} (k : H) (h : Hid H → G := by (intro hh; repeat1' (first | (first | (refine nxA ?_; (first | fail | ((first | (refine z_op (by rfl) ?_; first | refine z_ok ?_ ?_ | refine z_ex ?_ (by first | exact zL1 | ((first | refine mk_c Gt rfl rfl rfl ?_); exact zWW) | exact zL2 | fail | exact zL3 | fail) ?_) | ((first | refine q_callE wsT wsZ (by rfl) ?_ | refine q_callVE wsT (by rfl) (by rfl) ?_); refine ⟨_, _, _, (by first | assumption | exact k_toGate _ | exact k_eqGate _ | exact k_eqG _ (by omega) | exact k_toG _ (by omega)), _, by rfl, ?_, ?_⟩)); focus (first | exact trivial | fail | exact zQZ)) | fail)) | refine swA ?_) | refine awA ?_); exact hh.out)) : G := h ⟨k⟩
theorem k_toGate (g : Gt) : Kon Tryz.prog 111 [gV g] [] (gV g) [] [] := by
  (refine kM Tryz.func111 rfl ?_; intro hfit hfe)
  (repeat (first | refine gq_KGL ?_ | (refine ga1A ?_; intro _q ⟨_he, _hq⟩)))
  (refine rtA ?_; try rfl)
theorem set_end {α : Type} (l r : List α) (x y : α) : (l ++ x :: r).set l.length y = l ++ y :: r := by
  rw [List.set_append_right _ _ (Nat.le_refl _), Nat.sub_self]; rfl
abbrev gK0 : Gt := Cel.no
theorem k_toG (l : List Gt) (h : l.length ≤ 10000000) : Kon Tryz.prog 68 [roA l] [] (slA 0 0 l) [gRow l] [] := by
  (refine kM Tryz.func68 rfl ?_; intro hfit hfe)
  have hrl : (List.replicate (l.length : Int).toNat (Cel.no : Gt)).length = l.length := by rw [List.length_replicate]; omega
  (repeat (first | refine gq_KGL ?_ | (refine ga1A ?_; intro _q ⟨_he, _hq⟩)))
  (refine aw_rd [0, 3] [] (fun i : Nat => [(4, vI i)]) (fun i => [(112, (0, gRow (l.take i ++ List.replicate (l.length - i) gK0)))]) (fun i => i ≤ l.length) (fun i => l.length - i) 0 (by rfl) (by rfl) ?_ (by rfl) zHE zHE ?_)
  · exact Nat.zero_le _
  rintro i hi
  rcases Nat.lt_or_ge i l.length with h1 | h1
  · have hd : decide ((i : Int) < (l.length : Int)) = true := decide_eq_true (by omega)
    have hl2 : (l.take i ++ List.replicate (l.length - i) gK0).length = l.length := by simp; omega
    have e : (l.take i ++ List.replicate (l.length - i) gK0).set (i : Int).toNat (l.getD (i : Int).toNat gK0) = l.take (i + 1) ++ List.replicate (l.length - (i + 1)) gK0 := by
      rw [show l.length - i = (l.length - (i + 1)) + 1 by omega, List.replicate_succ, List.take_succ_eq_append_getElem h1]
      have h2 : (i : Int).toNat = (l.take i).length := by simp; omega
      have h3 : l.getD (i : Int).toNat gK0 = l[i] := by rw [Int.toNat_natCast, List.getD_eq_getElem?_getD, List.getElem?_eq_getElem h1]; rfl
      rw [h3, h2, set_end, List.append_assoc]; rfl
    have hinv : i + 1 ≤ l.length := h1
    (repeat (first | refine gq_KGL ?_ | (refine ga1A ?_; intro _q ⟨_he, _hq⟩)))
    exact ⟨i + 1, hinv, ⟨by rfl, zHE, ⟨Eq.trans (b := some (0, gRow ((l.take i ++ List.replicate (l.length - i) gK0).set (i : Int).toNat (l.getD (i : Int).toNat gK0)))) (by rfl) (by rw [e]), zHE⟩⟩, (by first | omega | (dsimp only; omega))⟩
  · obtain rfl : i = l.length := by omega
    have hd : decide ((l.length : Int) < (l.length : Int)) = false := decide_eq_false (by omega)
    have e : l.take l.length ++ List.replicate (l.length - l.length) gK0 = l := by simp
    rw [e]
    (repeat (first | refine gq_KGL ?_ | (refine ga1A ?_; intro _q ⟨_he, _hq⟩)))
    (refine rtA ?_; try rfl)
    exact congrArg (fun n => AV.g (.one (.sl 0 0 n))) hrl
abbrev bO (n : Int) (l : List Gt) (f w a : Int) : AV := .g (.agg [.v (.int .i64 n), .sl 0 0 l.length, .v (.int .i64 f), .v (.int .i64 w), .v (.int .i64 a)])
theorem k_toBn (n : Int) (l : List Gt) (f w a : Int) (h : l.length ≤ 10000000) : Kon Tryz.prog 22 [bG n l f w a] [] (bO n l f w a) [gRow l] [] := by
  (refine kM Tryz.func22 rfl ?_; intro hfit hfe)
  (repeat (first | refine gq_KGL ?_ | (refine ga1A ?_; intro _q ⟨_he, _hq⟩)))
  (refine rtA ?_; try rfl)
theorem k_eqGate (g : Gt) : Kon Tryz.prog 112 [gV g, gV g] [] (vB true) [] [] := by
  have e : ∀ x : Int, (x != x) = false := fun x => by simp
  have e1 := e g.k
  have e2 := e g.a
  have e3 := e g.b
  have e4 := e g.c
  (refine kM Tryz.func112 rfl ?_; intro hfit hfe)
  (repeat (first | refine gq_KGL ?_ | (refine ga1A ?_; intro _q ⟨_he, _hq⟩)))
  (refine rtA ?_; try rfl)
theorem k_eqG (l : List Gt) (h : l.length ≤ 10000000) : Kon Tryz.prog 69 [roA l, roA l] [] (vB true) [] [] := by
  have h1 : ((l.length : Int) != (l.length : Int)) = false := by simp
  (refine kM Tryz.func69 rfl ?_; intro hfit hfe)
  (repeat (first | refine gq_KGL ?_ | (refine ga1A ?_; intro _q ⟨_he, _hq⟩)))
  (refine aw_rd [0, 1, 4] [] (fun i : Nat => [(5, vI i)]) (fun _ => []) (fun i => i ≤ l.length) (fun i => l.length - i) 0 (by rfl) (by rfl) ?_ (by rfl) zHE zHE ?_)
  · exact Nat.zero_le _
  rintro i hi
  rcases Nat.lt_or_ge i l.length with h5 | h5
  · have hd : decide ((i : Int) < (l.length : Int)) = true := decide_eq_true (by omega)
    (repeat (first | refine gq_KGL ?_ | (refine ga1A ?_; intro _q ⟨_he, _hq⟩) | refine gdA ?_))
    exact ⟨i + 1, h5, ⟨by rfl, zHE, zHE⟩, (by first | omega | (dsimp only; omega))⟩
  · have hd : decide ((i : Int) < (l.length : Int)) = false := decide_eq_false (by omega)
    (repeat (first | refine gq_KGL ?_ | (refine ga1A ?_; intro _q ⟨_he, _hq⟩) | refine gdA ?_))
    (refine rtA ?_; try rfl)
theorem k_eqBn (n : Int) (l : List Gt) (f w a : Int) (h : l.length ≤ 10000000) : Kon Tryz.prog 24 [bG n l f w a, bG n l f w a] [] (vB true) [] [] := by
  have e : ∀ x : Int, (x != x) = false := fun x => by simp
  have e1 := e n
  have e2 := e f
  have e3 := e w
  have e4 := e a
  (refine kM Tryz.func24 rfl ?_; intro hfit hfe)
  (repeat (first | refine gq_KGL ?_ | (refine ga1A ?_; intro _q ⟨_he, _hq⟩)))
  (refine rtA ?_; try rfl)
theorem gq_KEA {H G : Prop} (k : H) (h : Hid H → G := by (intro hh; repeat1' (first | (first | (refine nxA ?_; (first | fail | ((first | (refine z_op (by rfl) ?_; first | refine z_ok ?_ ?_ | refine z_ex ?_ (by first | exact zL1 | ((first | fail); exact zWW) | exact zL2 | fail | exact zL3 | fail) ?_) | ((first | refine q_callE wsT wsZ (by rfl) ?_ | refine q_callVE wsT (by rfl) (by rfl) ?_); refine ⟨_, _, _, (by first | assumption | exact k_toBn _ _ _ _ _ (by omega) | exact k_eqBn _ _ _ _ _ (by omega)), _, by rfl, ?_, ?_⟩)); focus (first | exact trivial | fail | exact zQZ)) | fail)) | refine swA ?_) | refine awA ?_); exact hh.out)) : G := h ⟨k⟩
theorem bok_t {n : Int} {l : List Gt} {f w a : Int} (h : bok n l f w a = true) : cokB n l = true ∧ wvB n f = true ∧ (0 ≤ a ∧ a ≤ l.length) ∧ w = cr (l.take a.toNat) f := by
  unfold bok at h
  simp only [Bool.and_eq_true, beq_iff_eq] at h
  exact ⟨h.1, h.2.1, btw_t h.2.2.1, h.2.2.2⟩
def beM (n : Int) (l : List Gt) (f w a : Int) : Int := if bok n l f w a = true then cr l f else -1
theorem k_be (n : Int) (l : List Gt) (f w a : Int) (hl : l.length ≤ 100000000) (hr : -9223372036854775808 ≤ n ∧ n ≤ 9223372036854775807) : Kon Tryz.prog 128 [bG n l f w a] [] (vI (beM n l f w a)) [] [] := by
  have hV := k_bv n l f w a hl hr
  unfold beM
  cases h : bok n l f w a with
  | false =>
    rw [h] at hV
    rw [if_neg (by decide)]
    (refine kM Tryz.func128 rfl ?_; intro hfit hfe)
    (repeat (first | refine gq_KEA ?_ | (refine ga1A ?_; intro _q ⟨_he, _hq⟩) | refine gdA ?_))
    (refine rtA ?_; try rfl)
  | true =>
    rw [h] at hV
    obtain ⟨h1, h2, h3, h4⟩ := bok_t h
    have hR := k_runAll n l f (cokB_t h1).2.2 hl h2
    rw [if_pos rfl]
    (refine kM Tryz.func128 rfl ?_; intro hfit hfe)
    (repeat (first | refine gq_KEA ?_ | (refine ga1A ?_; intro _q ⟨_he, _hq⟩) | refine gdA ?_))
    (refine rtA ?_; try rfl)
def wsTE : WsT := (70, ([0], false)) :: (26, ([0], false)) ::
  wsT
def wsZE : List (Nat × Nat) := [
  (999999, 0)]
theorem gq_KEB {H G : Prop} (k : H) (h : Hid H → G := by (intro hh; repeat1' (first | (first | (refine nxA ?_; (first | fail | ((first | (refine z_op (by rfl) ?_; first | refine z_ok ?_ ?_ | refine z_ex ?_ (by first | exact zL1 | ((first | fail); exact zWW) | exact zL2 | exact rw_c Dd rfl | exact zL3 | fail) ?_) | ((first | refine q_callE wsTE wsZE (by rfl) ?_ | refine q_callVE wsTE (by rfl) (by rfl) ?_); refine ⟨_, _, _, (by first | assumption | exact k_toBn _ _ _ _ _ (by omega) | exact k_eqBn _ _ _ _ _ (by omega) | exact k_eqGate _ | exact k_eqD _ | exact k_eqD1 _ | exact k_eqD0 | exact k_markBn _ _ _ _ _ _ _ (by first | omega | exact ⟨rfl, by omega⟩) | exact k_markG _ _ _ (by omega)), _, by rfl, ?_, ?_⟩)); focus (first | exact trivial | fail | exact zQZ)) | fail)) | refine swA ?_) | refine awA ?_); exact hh.out)) : G := h ⟨k⟩
def mkG1 (l : List Gt) (i : Nat) (k : Int) : List Gt :=
  let l1 := l.set i ⟨k, (l.getD i Cel.no).a, (l.getD i Cel.no).b, (l.getD i Cel.no).c⟩
  let l2 := l1.set i ⟨(l1.getD i Cel.no).k, k + 1, (l1.getD i Cel.no).b, (l1.getD i Cel.no).c⟩
  let l3 := l2.set i ⟨(l2.getD i Cel.no).k, (l2.getD i Cel.no).a, k + 1 + 1, (l2.getD i Cel.no).c⟩
  l3.set i ⟨(l3.getD i Cel.no).k, (l3.getD i Cel.no).a, (l3.getD i Cel.no).b, k + 1 + 1 + 1⟩
def mkG (k : Int) (l : List Gt) : Nat → List Gt
  | 0 => l
  | i + 1 => mkG1 (mkG k l i) i (k + 4 * (i : Int))
theorem mkG_len (k : Int) (l : List Gt) : ∀ i, (mkG k l i).length = l.length
  | 0 => rfl
  | i + 1 => by rw [mkG, mkG1]; simp only [List.length_set]; exact mkG_len k l i
set_option maxHeartbeats 1000000 in
theorem k_markG (l : List Gt) (n : Nat) (k : Int) (h : n = l.length ∧ 0 ≤ k ∧ k ≤ 10000000 ∧ l.length ≤ 10000000) : Kon Tryz.prog 70 [.g (.one (.sl 100000 0 n)), vI k] [gRow l] (vI (k + 4 * (l.length : Int))) [] [gRow (mkG k l l.length)] := by
  obtain ⟨rfl, h⟩ := h
  (refine kM Tryz.func70 rfl ?_; intro hfit hfe)
  (repeat (first | refine gq_KEB ?_ | (refine ga1A ?_; intro _q ⟨_he, _hq⟩)))
  refine aw_rd [0] [] (fun i : Nat => [(1, vI (k + 4 * (i : Int))), (5, vI i)]) (fun i => [(100000, (0, gRow (mkG k l i)))]) (fun i => i ≤ l.length) (fun i => l.length - i) 0 (by rfl) (by rfl) ?_ (by rfl) zHE ⟨by (simp only [St.put, Gin, Nat.le_refl, if_true, Nat.sub_self]; rfl), trivial⟩ ?_
  · exact Nat.zero_le _
  rintro i hi
  have hl2 := mkG_len k l i
  rcases Nat.lt_or_ge i l.length with h1 | h1
  · have hd : decide ((i : Int) < (l.length : Int)) = true := decide_eq_true (by omega)
    have hinv : i + 1 ≤ l.length := h1
    (repeat (first | refine gq_KEB ?_ | (refine ga1A ?_; intro _q ⟨_he, _hq⟩)))
    exact ⟨i + 1, hinv, ⟨by rfl, zHE, zHE⟩, (by first | omega | (dsimp only; omega))⟩
  · obtain rfl : i = l.length := by omega
    have hd : decide ((l.length : Int) < (l.length : Int)) = false := decide_eq_false (by omega)
    (repeat (first | refine gq_KEB ?_ | (refine ga1A ?_; intro _q ⟨_he, _hq⟩)))
    (refine rtA ?_; try rfl)
theorem k_markBn (n : Int) (l : List Gt) (m : Nat) (f w a : Int) (k : Int) (h : m = l.length ∧ 0 ≤ k ∧ k ≤ 10000000 ∧ l.length ≤ 10000000) : Kon Tryz.prog 26 [.g (.agg [.v (.int .i64 n), .sl 100000 0 m, .v (.int .i64 f), .v (.int .i64 w), .v (.int .i64 a)]), vI k] [gRow l] (vI (k + 4 * (l.length : Int))) [] [gRow (mkG k l l.length)] := by
  have hK := k_markG l m k h
  (refine kM Tryz.func26 rfl ?_; intro hfit hfe)
  (repeat (first | refine gq_KEB ?_ | (refine ga1A ?_; intro _q ⟨_he, _hq⟩)))
  (refine rtA ?_; try rfl)
abbrev hD (a : Int) : Dd := ⟨1, a, ⟨0, 0, 0, 0⟩⟩
section
variable (n : Int) (l : List Gt) (f w a : Int) (hl : l.length ≤ 100000000) (hr : -9223372036854775808 ≤ n ∧ n ≤ 9223372036854775807)
include hl hr
theorem k_hd0 (h : (bok n l f w a && decide (a > 0)) = false) : Kon Tryz.prog 89 [bG n l f w a] [] vN [] [] := by
  have hV := k_bv n l f w a hl hr
  cases h1 : bok n l f w a with
  | false =>
    rw [h1] at hV
    (refine kM Tryz.func89 rfl ?_; intro hfit hfe)
    (repeat (first | refine gq_KEB ?_ | (refine ga1A ?_; intro _q ⟨_he, _hq⟩) | refine gdA ?_))
    (refine rtA ?_; try rfl)
  | true =>
    rw [h1] at hV h
    have ha := (bok_t h1).2.2.1
    have h2 : (a == 0) = true := by rw [beq_iff_eq]; have : ¬ a > 0 := by simpa using h
                                    omega
    (refine kM Tryz.func89 rfl ?_; intro hfit hfe)
    (repeat (first | refine gq_KEB ?_ | (refine ga1A ?_; intro _q ⟨_he, _hq⟩) | refine gdA ?_))
    (refine rtA ?_; try rfl)
theorem k_hd1 (h : (bok n l f w a && decide (a > 0)) = true) : Kon Tryz.prog 89 [bG n l f w a] [] (slA 0 0 [hD a]) [dRow [hD a]] [] := by
  have hV := k_bv n l f w a hl hr
  rw [Bool.and_eq_true] at h
  rw [h.1] at hV
  have h2 : (a == 0) = false := by rw [beq_eq_false_iff_ne]; have : a > 0 := by simpa using h.2
                                   omega
  clear h
  (refine kM Tryz.func89 rfl ?_; intro hfit hfe)
  (repeat (first | refine gq_KEB ?_ | (refine ga1A ?_; intro _q ⟨_he, _hq⟩) | refine gdA ?_))
  (refine rtA ?_; try rfl)
end
theorem gq_KEC {H G : Prop} (k : H) (h : Hid H → G := by (intro hh; repeat1' (first | (first | (refine nxA ?_; (first | fail | ((first | (refine z_op (by rfl) ?_; first | refine z_ok ?_ ?_ | refine z_ex ?_ (by first | exact zL1 | ((first | (first | refine mk_0 Gt rfl rfl ?_)); exact zWW) | exact zL2 | exact rw_c Gt rfl | exact zL3 | (first | exact pu_of (fun w => eq_gate _ _ _ _ _ _ _ _ _ _ w) rfl)) ?_) | ((first | refine q_callE wsT wsZ (by rfl) ?_ | refine q_callVE wsT (by rfl) (by rfl) ?_); refine ⟨_, _, _, (by first | assumption), _, by rfl, ?_, ?_⟩)); focus (first | exact trivial | fail | exact zQZ)) | fail)) | refine swA ?_) | refine awA ?_); exact hh.out)) : G := h ⟨k⟩
abbrev bS (n : Int) (m : Nat) (f w a : Int) : AV := .g (.agg [.v (.int .i64 n), .sl 0 0 m, .v (.int .i64 f), .v (.int .i64 w), .v (.int .i64 a)])
theorem k_copyS (n : Int) (l : List Gt) (f w a : Int) (hl : l.length ≤ 10000000) : Kon Tryz.prog 44 [bG n l f w a] [] (bS n l.length f w a) [gRow l] [] := by
  (refine kM Tryz.func44 rfl ?_; intro hfit hfe)
  (repeat (first | refine gq_KEC ?_ | (refine ga1A ?_; intro _q ⟨_he, _hq⟩)))
  (refine rtA ?_; try rfl)
end Go.Proofs.YtnenhckongccgaaGreatDoor
