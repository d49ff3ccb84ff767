/- LNF: laid into one text. -/
import Derived.Test.YtnenhckongccgaaGreatDoorQFZB
import Derived.Test.YtnenhckongccgaaGreatDoorQFZC

namespace Go.Proofs.YtnenhckongccgaaGreatDoor
set_option linter.unusedVariables false
set_option linter.unusedSimpArgs false
set_option maxRecDepth 20000
open Go.RowKit
attribute [local irreducible] runA runX AW
def wsTLF : WsT := (27, ([0], false)) :: (70, ([0], false)) :: (26, ([0], false)) :: (18, ([], true)) :: wsT
def wsZLF : List (Nat × Nat) := [(25, 1), (29, 1), (24, 4), (28, 4), (72, 4), (999999, 0)]
theorem gq_LNF {H G : Prop} (k : H) (h : Hid H → G := by (intro hh; repeat1' (first | (first | ((first | refine r_none ?_ | refine r_gt (by rfl) (by rfl) zDD (by rfl) ?_ | refine r_gf (by rfl) (by rfl) zDD (by rfl) ?_); (first | (first | refine r_sne (by rfl) (by rfl) (by rfl) ?_ | refine r_slen (by rfl) Tryz.underlying9 (by rfl) ?_ | refine r_sadd (by rfl) (by rfl) (by first | omega | (simp only [List.length_append, List.length_cons, List.length_nil]; omega)) (by rfl) ?_ | refine r_i2b (by rfl) (fun w => by rfl) (by omega) (by rfl) ?_ | refine r_bstr1 (by rfl) (by rfl) (by rfl) (by rfl) Tryz.underlying22 Tryz.underlying5 Tryz.underlying9 (by exact ⟨rfl, rfl, Nat.zero_lt_one, rfl⟩) (by rfl) ?_) | ((first | (refine z_op (by rfl) ?_; first | refine z_ok ?_ ?_ | refine z_ex ?_ (by first | exact zL1 | ((first | refine mk_c (List UInt8) rfl rfl rfl ?_); exact zWW) | exact zL2 | (first | exact rw_c UInt8 rfl | exact rw_c (List UInt8) rfl) | exact zL3 | fail) ?_) | ((first | refine q_callE wsTLF wsZLF (by rfl) ?_ | refine q_callVE wsTLF (by rfl) (by rfl) ?_); refine ⟨_, _, _, (by first | assumption | exact k_toBn _ _ _ _ _ (by omega) | exact k_eqBn _ _ _ _ _ (by omega) | exact k_markBn0 _ _ _ _), _, by rfl, ?_, ?_⟩)); focus (first | exact trivial | fail | exact zQZ)) | fail)) | refine r_nt (by rfl) (by rfl) zDD (by rfl) ?_ | refine r_nf (by rfl) (by rfl) zDD (by rfl) ?_ | refine r_gu (by rfl) (by rfl) (by rfl) ?_ | refine r_nil ?_) | (first | refine aw_seq ?_ | refine aw_ct (by rfl) zDD ?_ | refine aw_cf (by rfl) zDD ?_ | refine aw_block ?_ | refine aw_region T0ok cfU_ok (by rfl) ?_ | refine aw_skip ?_ | refine aw_exit ?_ | refine ra_step ?_)); exact hh.out)) : G := h ⟨k⟩
theorem ga_LNF {H G : Prop} (k : H) (h : Hid H → G := by (intro hh; (first | refine r_none ?_ | refine r_gt (by rfl) (by rfl) zDD (by rfl) ?_ | refine r_gf (by rfl) (by rfl) zDD (by rfl) ?_); refine z_op (by rfl) ?_; refine z_alV ?_ hh.out; focus (first | exact trivial | fail | exact zQZ))) : G := h ⟨k⟩
def szL : Int → List (List UInt8) → Int
  | m, [] => m
  | m, x :: l => if m - (x.length : Int) < 0 then -1 else szL (m - (x.length : Int)) l
theorem dropT {l : List (List UInt8)} {k : Nat} (h : k < l.length) : l.drop k = l.getD k Cel.no :: l.drop (k + 1) := by
  rw [List.drop_eq_getElem_cons h]; simp [List.getD_eq_getElem?_getD, h]
theorem szL_ok : ∀ (l : List (List UInt8)) (m : Int), 0 ≤ szL m l → 0 ≤ m → ∀ x ∈ l, (x.length : Int) ≤ m
  | [], _, _, _, x, hx => by cases hx
  | y :: l, m, h, hm, x, hx => by
    rw [szL] at h
    split at h
    · omega
    · rename_i hn
      rcases List.mem_cons.1 hx with rfl | hx
      · omega
      · have := szL_ok l _ h (by omega) x hx; omega
set_option maxHeartbeats 1000000 in
theorem k_szSs (l : List (List UInt8)) (m : Int) (h : l.length ≤ 9223372036854775807 ∧ 0 ≤ m ∧ m ≤ 10000000) (hx : ∀ x ∈ l, x.length ≤ 9223372036854775807) : Kon Tryz.prog 21 [roA l, vI m] [] (vI (if m - l.length < 0 then -1 else szL (m - l.length) l)) [] [] := by
  rcases Int.lt_or_le (m - l.length) 0 with h1 | h1
  · have hd : decide (m - (l.length : Int) < 0) = true := decide_eq_true h1
    rw [if_pos h1]
    (refine kM Tryz.func21 rfl ?_; intro hfit hfe)
    (repeat (first | refine gq_LNF ?_ | (refine ga_LNF ?_; intro _hq)))
    (refine rtA ?_; try rfl)
  · have hd : decide (m - (l.length : Int) < 0) = false := decide_eq_false (by omega)
    rw [if_neg (by omega)]
    have hat : ∀ k : Nat, k < l.length → (l.getD k Cel.no).length ≤ 9223372036854775807 := fun k hk => by
      have e : l.getD k Cel.no = l[k] := by simp [List.getD_eq_getElem?_getD, hk]
      rw [e]; exact hx _ (List.getElem_mem hk)
    clear hx
    (refine kM Tryz.func21 rfl ?_; intro hfit hfe)
    (repeat (first | refine gq_LNF ?_ | (refine ga_LNF ?_; intro _hq)))
    (refine aw_rd [0] [] (fun g : Nat × Int => [(1, vI g.2), (5, vI g.1)]) (fun _ => []) (fun g => g.1 ≤ l.length ∧ (0 ≤ g.2 ∧ g.2 ≤ 10000000) ∧ szL g.2 (l.drop g.1) = szL (m - l.length) l) (fun g => l.length - g.1) (0, m - (l.length : Int)) (by rfl) (by rfl) ?_ (by rfl) zHE zHE ?_)
    · exact ⟨Nat.zero_le _, ⟨h1, by dsimp only; omega⟩, rfl⟩
    rintro ⟨i, v⟩ ⟨hi, hv, hz⟩
    dsimp only at hi hv hz ⊢
    rcases Nat.lt_or_ge i l.length with h5 | h5
    · have hd : decide ((i : Int) < (l.length : Int)) = true := decide_eq_true (by omega)
      have ha : (l.getD (i : Int).toNat Cel.no).length ≤ 9223372036854775807 := hat i h5
      rw [dropT h5, szL] at hz
      rcases Int.lt_or_le (v - ((l.getD (i : Int).toNat Cel.no).length : Int)) 0 with h6 | h6
      · have hd6 : decide (v - ((l.getD (i : Int).toNat Cel.no).length : Int) < 0) = true := decide_eq_true h6
        rw [if_pos (show v - ((l.getD i Cel.no).length : Int) < 0 from h6)] at hz
        rw [← hz]
        clear hat hz
        (repeat (first | refine gq_LNF ?_ | (refine ga_LNF ?_; intro _hq)))
        (refine rtA ?_; try rfl)
      · have hd6 : decide (v - ((l.getD (i : Int).toNat Cel.no).length : Int) < 0) = false := decide_eq_false (by omega)
        rw [if_neg (show ¬ v - ((l.getD i Cel.no).length : Int) < 0 by have : (l.getD i Cel.no) = (l.getD (i : Int).toNat Cel.no) := rfl; rw [this]; omega)] at hz
        have hinv : i + 1 ≤ l.length ∧ (0 ≤ v - ((l.getD (i : Int).toNat Cel.no).length : Int) ∧ v - ((l.getD (i : Int).toNat Cel.no).length : Int) ≤ 10000000) ∧ szL (v - ((l.getD (i : Int).toNat Cel.no).length : Int)) (l.drop (i + 1)) = szL (m - l.length) l := ⟨h5, by omega, hz⟩
        clear hat hz
        (repeat (first | refine gq_LNF ?_ | (refine ga_LNF ?_; intro _hq)))
        exact ⟨(i + 1, v - ((l.getD (i : Int).toNat Cel.no).length : Int)), hinv, ⟨by rfl, zHE, zHE⟩, (by first | omega | (dsimp only; omega))⟩
    · have hd : decide ((i : Int) < (l.length : Int)) = false := decide_eq_false (by omega)
      rw [List.drop_of_length_le h5, szL] at hz
      rw [← hz]
      clear hat hz
      (repeat (first | refine gq_LNF ?_ | (refine ga_LNF ?_; intro _hq)))
      (refine rtA ?_; try rfl)
abbrev t0 : List UInt8 := Cel.no
theorem k_toSs (l : List (List UInt8)) (h : l.length ≤ 10000000) : Kon Tryz.prog 23 [roA l] [] (slA 0 0 l) [tRow l] [] := by
  (refine kM Tryz.func23 rfl ?_; intro hfit hfe)
  have hrl : (List.replicate (l.length : Int).toNat (Cel.no : List UInt8)).length = l.length := by rw [List.length_replicate]; omega
  (repeat (first | refine gq_LNF ?_ | (refine ga_LNF ?_; intro _hq)))
  (refine aw_rd [0, 3] [] (fun i : Nat => [(4, vI i)]) (fun i => [(112, (0, tRow (l.take i ++ List.replicate (l.length - i) t0)))]) (fun i => i ≤ l.length) (fun i => l.length - i) 0 (by rfl) (by rfl) ?_ (by rfl) zHE zHE ?_)
  · exact Nat.zero_le _
  rintro i hi
  rcases Nat.lt_or_ge i l.length with h1 | h1
  · have hd : decide ((i : Int) < (l.length : Int)) = true := decide_eq_true (by omega)
    have hl2 : (l.take i ++ List.replicate (l.length - i) t0).length = l.length := by simp; omega
    have e : (l.take i ++ List.replicate (l.length - i) t0).set (i : Int).toNat (l.getD (i : Int).toNat t0) = l.take (i + 1) ++ List.replicate (l.length - (i + 1)) t0 := by
      rw [show l.length - i = (l.length - (i + 1)) + 1 by omega, List.replicate_succ, List.take_succ_eq_append_getElem h1]
      have h2 : (i : Int).toNat = (l.take i).length := by simp; omega
      have h3 : l.getD (i : Int).toNat t0 = l[i] := by rw [Int.toNat_natCast, List.getD_eq_getElem?_getD, List.getElem?_eq_getElem h1]; rfl
      rw [h3, h2, set_end, List.append_assoc]; rfl
    have hinv : i + 1 ≤ l.length := h1
    (repeat (first | refine gq_LNF ?_ | (refine ga_LNF ?_; intro _hq)))
    exact ⟨i + 1, hinv, ⟨by rfl, zHE, ⟨Eq.trans (b := some (0, tRow ((l.take i ++ List.replicate (l.length - i) t0).set (i : Int).toNat (l.getD (i : Int).toNat t0)))) (by rfl) (by rw [e]), zHE⟩⟩, (by first | omega | (dsimp only; omega))⟩
  · obtain rfl : i = l.length := by omega
    have hd : decide ((l.length : Int) < (l.length : Int)) = false := decide_eq_false (by omega)
    have e : l.take l.length ++ List.replicate (l.length - l.length) t0 = l := by simp
    rw [e]
    (repeat (first | refine gq_LNF ?_ | (refine ga_LNF ?_; intro _hq)))
    (refine rtA ?_; try rfl)
    exact congrArg (fun n => AV.g (.one (.sl 0 0 n))) hrl
theorem k_eqSs (l : List (List UInt8)) (h : l.length ≤ 10000000) : Kon Tryz.prog 25 [roA l, roA l] [] (vB true) [] [] := by
  have h1 : ((l.length : Int) != (l.length : Int)) = false := by simp
  have h2 : ∀ x : List UInt8, (!(x == x)) = false := fun x => by simp
  (refine kM Tryz.func25 rfl ?_; intro hfit hfe)
  (repeat (first | refine gq_LNF ?_ | (refine ga_LNF ?_; intro _hq)))
  (refine aw_rd [0, 1] [] (fun i : Nat => [(5, vI i)]) (fun _ => []) (fun i => i ≤ l.length) (fun i => l.length - i) 0 (by rfl) (by rfl) ?_ (by rfl) zHE zHE ?_)
  · exact Nat.zero_le _
  rintro i hi
  rcases Nat.lt_or_ge i l.length with h5 | h5
  · have hd : decide ((i : Int) < (l.length : Int)) = true := decide_eq_true (by omega)
    have h3 := h2 (l.getD (i : Int).toNat Cel.no)
    (repeat (first | refine gq_LNF ?_ | (refine ga_LNF ?_; intro _hq) | refine gdA ?_))
    exact ⟨i + 1, h5, ⟨by rfl, zHE, zHE⟩, (by first | omega | (dsimp only; omega))⟩
  · have hd : decide ((i : Int) < (l.length : Int)) = false := decide_eq_false (by omega)
    (repeat (first | refine gq_LNF ?_ | (refine ga_LNF ?_; intro _hq) | refine gdA ?_))
    (refine rtA ?_; try rfl)
def mT (k : Int) : List UInt8 := [109] ++ Go.Lib.decDigits k.toNat
def tlD (k : Int) : List UInt8 := if k = 0 then [] else Go.Lib.decDigits k.toNat
theorem tlD_step {k : Int} (h : 0 < k) : tlD (k / 10) ++ [UInt8.ofNat (48 + k % 10).toNat] = tlD k := by
  unfold tlD
  rw [if_neg (show ¬ k = 0 by omega)]
  rcases Int.lt_or_le k 10 with h1 | h1
  · rw [if_pos (by omega), Go.Lib.decDigits_one (by omega)]
    show [_] = [_]
    congr 2; omega
  · rw [if_neg (by omega)]
    conv => rhs; rw [Go.Lib.decDigits, dif_neg (by omega)]
    congr 2
    · omega
    · congr 2; omega
theorem dd_lenK : ∀ (m n : Nat), n < 10 ^ (m + 1) → (Go.Lib.decDigits n).length ≤ m + 1
  | 0, n, h => by rw [Go.Lib.decDigits_one (by omega)]; exact Nat.le_refl _
  | m + 1, n, h => by
    rcases Nat.lt_or_ge n 10 with h1 | h1
    · rw [Go.Lib.decDigits_one h1]; simp
    · rw [Go.Lib.decDigits, dif_neg (by omega), List.length_append, List.length_singleton]
      have := dd_lenK m (n / 10) (by rw [Nat.pow_succ] at h; omega)
      omega
set_option maxHeartbeats 1000000 in
theorem k_mT (k : Int) (h : 0 < k ∧ k ≤ 100000000) : Kon Tryz.prog 71 [vI k] [] (vS (mT k)) [] [] := by
  have hd0 : decide (k ≤ 0) = false := decide_eq_false (by omega)
  have hl := dd_lenK 9 k.toNat (by omega)
  unfold mT
  obtain ⟨D, hD⟩ : ∃ D, Go.Lib.decDigits k.toNat = D := ⟨_, rfl⟩
  have hk0 : tlD k = D := by unfold tlD; rw [if_neg (by omega), hD]
  rw [hD] at hl ⊢
  (refine kM Tryz.func71 rfl ?_; intro hfit hfe)
  (repeat (first | refine gq_LNF ?_ | (refine ga_LNF ?_; intro _hq)))
  (refine aw_rd [] [] (fun g : Int × List UInt8 => [(0, vI g.1), (3, vS g.2)]) (fun _ => []) (fun g => (0 ≤ g.1 ∧ g.1 ≤ 100000000) ∧ tlD g.1 ++ g.2 = D) (fun g => g.1.toNat) (k, []) (by rfl) (by rfl) ?_ (by rfl) zHE zHE ?_)
  · exact ⟨by dsimp only; omega, by rw [List.append_nil]; exact hk0⟩
  rintro ⟨j, o⟩ ⟨hj, ho⟩
  dsimp only at hj ho ⊢
  have hol : o.length ≤ 10 := by
    have := congrArg List.length ho
    rw [List.length_append] at this
    omega
  rcases Int.lt_or_le 0 j with h6 | h6
  · have hd1 : decide (j > 0) = true := decide_eq_true h6
    have hinv : (0 ≤ j / 10 ∧ j / 10 ≤ 100000000) ∧ tlD (j / 10) ++ ([UInt8.ofNat (48 + j % 10).toNat] ++ o) = D := ⟨by omega, by rw [← List.append_assoc, tlD_step h6]; exact ho⟩
    clear ho hk0
    (repeat (first | refine gq_LNF ?_ | (refine ga_LNF ?_; intro _hq)))
    exact ⟨(j / 10, [UInt8.ofNat (48 + j % 10).toNat] ++ o), hinv, ⟨by rfl, zHE, zHE⟩, (by first | omega | (dsimp only; omega))⟩
  · have hd1 : decide (j > 0) = false := decide_eq_false (by omega)
    have e : o = D := by
      have : tlD j = [] := by unfold tlD; rw [if_pos (by omega)]
      rw [this] at ho; exact ho
    subst e
    clear ho hk0
    (repeat (first | refine gq_LNF ?_ | (refine ga_LNF ?_; intro _hq)))
    (refine rtA ?_; try rfl)
def mkS (k : Int) (l : List (List UInt8)) : Nat → List (List UInt8)
  | 0 => l
  | i + 1 => (mkS k l i).set i (mT (k + (i : Int)))
theorem mkS_len (k : Int) (l : List (List UInt8)) : ∀ i, (mkS k l i).length = l.length
  | 0 => rfl
  | i + 1 => by rw [mkS, List.length_set]; exact mkS_len k l i
theorem mkS_at (k : Int) (l : List (List UInt8)) : ∀ (i j : Nat), j < i → i ≤ l.length → (mkS k l i).getD j Cel.no = mT (k + (j : Int))
  | i + 1, j, hj, hi => by
    rw [mkS, List.getD_eq_getElem?_getD]
    have hl := mkS_len k l i
    rcases Nat.lt_or_ge j i with h | h
    · rw [List.getElem?_set_ne (by omega), ← List.getD_eq_getElem?_getD]
      exact mkS_at k l i j h (by omega)
    · obtain rfl : j = i := by omega
      rw [List.getElem?_set_self (by omega)]; rfl
set_option maxHeartbeats 1000000 in
theorem k_markSs (l : List (List UInt8)) (n : Nat) (k : Int) (h : n = l.length ∧ 0 < k ∧ k ≤ 10000000 ∧ l.length ≤ 10000000) : Kon Tryz.prog 27 [.g (.one (.sl 100000 0 n)), vI k] [tRow l] (vI (k + (l.length : Int))) [] [tRow (mkS k l l.length)] := by
  obtain ⟨rfl, h⟩ := h
  (refine kM Tryz.func27 rfl ?_; intro hfit hfe)
  (repeat (first | refine gq_LNF ?_ | (refine ga_LNF ?_; intro _hq)))
  refine aw_rd [0] [] (fun i : Nat => [(1, vI (k + (i : Int))), (5, vI i)]) (fun i => [(100000, (0, tRow (mkS k l i)))]) (fun i => i ≤ l.length) (fun i => l.length - i) 0 (by rfl) (by rfl) ?_ (by rfl) zHE ⟨by (simp only [St.put, Gin, Nat.le_refl, if_true, Nat.sub_self]; rfl), trivial⟩ ?_
  · exact Nat.zero_le _
  rintro i hi
  have hl2 := mkS_len k l i
  rcases Nat.lt_or_ge i l.length with h1 | h1
  · have hd : decide ((i : Int) < (l.length : Int)) = true := decide_eq_true (by omega)
    have hM := k_mT (k + (i : Int)) (by omega)
    have hinv : i + 1 ≤ l.length := h1
    (repeat (first | refine gq_LNF ?_ | (refine ga_LNF ?_; intro _hq)))
    exact ⟨i + 1, hinv, ⟨by rfl, zHE, zHE⟩, (by first | omega | (dsimp only; omega))⟩
  · obtain rfl : i = l.length := by omega
    have hd : decide ((l.length : Int) < (l.length : Int)) = false := decide_eq_false (by omega)
    (repeat (first | refine gq_LNF ?_ | (refine ga_LNF ?_; intro _hq)))
    (refine rtA ?_; try rfl)
theorem k_markS0 (k : Int) : Kon Tryz.prog 27 [vN, vI k] [] (vI k) [] [] := by
  (refine kM Tryz.func27 rfl ?_; intro hfit hfe)
  (repeat (first | refine gq_LNF ?_ | (refine ga_LNF ?_; intro _hq)))
  refine aw_unroll 1 ?_
  (repeat (first | refine gq_LNF ?_ | (refine ga_LNF ?_; intro _hq)))
  (refine rtA ?_; try rfl)
theorem k_heldSs (M : List (List UInt8)) (k : Int) (h : M.length ≤ 10000000 ∧ 0 < k ∧ k ≤ 10000000) (hM : ∀ j, j < M.length → M.getD j Cel.no = mT (k + (j : Int))) : Kon Tryz.prog 29 [roA M, vI k] [] (vI (k + (M.length : Int))) [] [] := by
  (refine kM Tryz.func29 rfl ?_; intro hfit hfe)
  (repeat (first | refine gq_LNF ?_ | (refine ga_LNF ?_; intro _hq)))
  (refine aw_rd [0] [] (fun i : Nat => [(1, vI (k + (i : Int))), (5, vI i)]) (fun _ => []) (fun i => i ≤ M.length) (fun i => M.length - i) 0 (by rfl) (by rfl) ?_ (by rfl) zHE zHE ?_)
  · exact Nat.zero_le _
  rintro i hi
  rcases Nat.lt_or_ge i M.length with h5 | h5
  · have hd : decide ((i : Int) < (M.length : Int)) = true := decide_eq_true (by omega)
    have hT := k_mT (k + (i : Int)) (by omega)
    have hg : M.getD (i : Int).toNat Cel.no = mT (k + (i : Int)) := hM i h5
    have f0 : (!(M.getD (i : Int).toNat Cel.no == mT (k + (i : Int)))) = false := by rw [hg]; simp
    clear hM hg
    have hinv : i + 1 ≤ M.length := h5
    (repeat (first | refine gq_LNF ?_ | (refine ga_LNF ?_; intro _hq) | refine gdA ?_))
    exact ⟨i + 1, hinv, ⟨by rfl, zHE, zHE⟩, (by first | omega | (dsimp only; omega))⟩
  · obtain rfl : i = M.length := by omega
    have hd : decide ((M.length : Int) < (M.length : Int)) = false := decide_eq_false (by omega)
    (repeat (first | refine gq_LNF ?_ | (refine ga_LNF ?_; intro _hq)))
    (refine rtA ?_; try rfl)
end Go.Proofs.YtnenhckongccgaaGreatDoor
