/- KBN: laid into one text. -/
import Derived.Test.YtmkoanmmfcpmjaaDoorQMR

namespace Go.Proofs.YtmkoanmmfcpmjaaDoor
set_option linter.unusedVariables false
set_option linter.unusedSimpArgs false
set_option maxRecDepth 20000
open Go.RowKit
attribute [local irreducible] runA runX AW
def wsZT : List (Nat × Nat) := [(19, 1), (999999, 0)]
theorem gq_KBN {H G : Prop} (k : H) (h : Hid H → G := by (intro hh; repeat1' (first | (first | (refine nxA ?_; (first | fail | ((first | (refine z_op (by rfl) ?_; first | refine z_ok ?_ ?_ | refine z_ex ?_ (by first | exact zL1 | ((first | (first | refine mk_0 Int rfl rfl ?_ | refine mk_0 Gt rfl rfl ?_)); exact zWW) | exact zL2 | exact rw_c Int rfl | exact zL3 | fail) ?_) | ((first | refine q_callE wsT wsZT (by rfl) ?_ | refine q_callVE wsT (by rfl) (by rfl) ?_); refine ⟨_, _, _, (by first | assumption | exact k_alive | exact k_open _ (by omega) | exact k_backwards _ (by omega)), _, by rfl, ?_, ?_⟩)); focus (first | exact trivial | fail | exact zQZ)) | fail)) | refine swA ?_) | refine awA ?_); exact hh.out)) : G := h ⟨k⟩
theorem k_ct (n : Int) (l : List Gt) (hc : cokB n l = true) (N : Nat) (hN : (1 * 2 ^ n.toNat : Int) = (N : Int)) : Kon Tryd.prog 20 [vI n, roA l] [] (slA 0 0 (tabN l N)) [iRow (tabN l N)] [] := by
  obtain ⟨hn, hl, ha⟩ := cokB_t hc
  have hC := k_cv n l (by omega)
  rw [hc] at hC
  have hT := k_tab n l hc N hN
  (refine kM Tryd.func20 rfl ?_; intro hfit hfe)
  (repeat (first | refine gq_KBN ?_ | (refine ga1A ?_; intro _q ⟨_he, _hq⟩)))
  (refine rtA ?_; try rfl)
set_option maxHeartbeats 1000000 in
theorem k_ctS1 (l : List Gt) (h : cokB 1 l = true) (N : Nat) (hN : (N : Int) = 2) : Kon Tryd.prog 51 [vI 1, roA l] [] (slA 0 0 (tabN l N)) [iRow (tabN l N)] [] := by
  obtain ⟨hn, hl, ha⟩ := cokB_t h
  have hC := k_cvS 1 l (by omega) (by omega)
  rw [h] at hC
  (refine kM Tryd.func51 rfl ?_; intro hfit hfe)
  (repeat (first | refine gq_KBN ?_ | (refine ga1A ?_; intro _q ⟨_he, _hq⟩)))
  (refine aw_rd [0, 1] [] (fun i : Nat => [(5, .g (.one (.sl 112 i i))), (6, vI i)]) (fun i => [(112, (i, iRow (tabN l i)))]) (fun i => i ≤ N) (fun i => N - i) 0 (by rfl) (by rfl) ?_ (by rfl) zHE zHE ?_)
  · exact Nat.zero_le _
  rintro i hi
  have hil := tabN_len l i
  rcases Nat.lt_or_ge i N with h5 | h5
  · have hd : decide ((i : Int) < 2) = true := decide_eq_true (by omega)
    have hR := k_l2Run 1 l (i : Int) ha (by omega) (wv_of hn ⟨by omega, by rw [show (2 : Int) ^ (1 : Int).toNat = 2 from rfl]; omega⟩)
    (repeat (first | refine gq_KBN ?_ | (refine ga1A ?_; intro _q ⟨_he, _hq⟩)))
    exact ⟨i + 1, h5, ⟨by rfl, ⟨Eq.trans (b := some (.g (.one (.sl 112 (i + 1) (tabN l (i + 1)).length)))) (by rfl) (by rw [tabN_len]), zHE⟩, zHE⟩, (by first | omega | (dsimp only; omega))⟩
  · obtain rfl : i = N := by omega
    have hd : decide ((i : Int) < 2) = false := decide_eq_false (by omega)
    (repeat (first | refine gq_KBN ?_ | (refine ga1A ?_; intro _q ⟨_he, _hq⟩)))
    (refine rtA ?_; try rfl)
    exact congrArg (fun m => AV.g (.one (.sl 0 0 m))) hil.symm
set_option maxHeartbeats 1000000 in
theorem k_ctS2 (l : List Gt) (h : cokB 2 l = true) (N : Nat) (hN : (N : Int) = 4) : Kon Tryd.prog 51 [vI 2, roA l] [] (slA 0 0 (tabN l N)) [iRow (tabN l N)] [] := by
  obtain ⟨hn, hl, ha⟩ := cokB_t h
  have hC := k_cvS 2 l (by omega) (by omega)
  rw [h] at hC
  (refine kM Tryd.func51 rfl ?_; intro hfit hfe)
  (repeat (first | refine gq_KBN ?_ | (refine ga1A ?_; intro _q ⟨_he, _hq⟩)))
  (refine aw_rd [0, 1] [] (fun i : Nat => [(5, .g (.one (.sl 112 i i))), (6, vI i)]) (fun i => [(112, (i, iRow (tabN l i)))]) (fun i => i ≤ N) (fun i => N - i) 0 (by rfl) (by rfl) ?_ (by rfl) zHE zHE ?_)
  · exact Nat.zero_le _
  rintro i hi
  have hil := tabN_len l i
  rcases Nat.lt_or_ge i N with h5 | h5
  · have hd : decide ((i : Int) < 4) = true := decide_eq_true (by omega)
    have hR := k_l2Run 2 l (i : Int) ha (by omega) (wv_of hn ⟨by omega, by rw [show (2 : Int) ^ (2 : Int).toNat = 4 from rfl]; omega⟩)
    (repeat (first | refine gq_KBN ?_ | (refine ga1A ?_; intro _q ⟨_he, _hq⟩)))
    exact ⟨i + 1, h5, ⟨by rfl, ⟨Eq.trans (b := some (.g (.one (.sl 112 (i + 1) (tabN l (i + 1)).length)))) (by rfl) (by rw [tabN_len]), zHE⟩, zHE⟩, (by first | omega | (dsimp only; omega))⟩
  · obtain rfl : i = N := by omega
    have hd : decide ((i : Int) < 4) = false := decide_eq_false (by omega)
    (repeat (first | refine gq_KBN ?_ | (refine ga1A ?_; intro _q ⟨_he, _hq⟩)))
    (refine rtA ?_; try rfl)
    exact congrArg (fun m => AV.g (.one (.sl 0 0 m))) hil.symm
set_option maxHeartbeats 1000000 in
theorem k_ctS3 (l : List Gt) (h : cokB 3 l = true) (N : Nat) (hN : (N : Int) = 8) : Kon Tryd.prog 51 [vI 3, roA l] [] (slA 0 0 (tabN l N)) [iRow (tabN l N)] [] := by
  obtain ⟨hn, hl, ha⟩ := cokB_t h
  have hC := k_cvS 3 l (by omega) (by omega)
  rw [h] at hC
  (refine kM Tryd.func51 rfl ?_; intro hfit hfe)
  (repeat (first | refine gq_KBN ?_ | (refine ga1A ?_; intro _q ⟨_he, _hq⟩)))
  (refine aw_rd [0, 1] [] (fun i : Nat => [(5, .g (.one (.sl 112 i i))), (6, vI i)]) (fun i => [(112, (i, iRow (tabN l i)))]) (fun i => i ≤ N) (fun i => N - i) 0 (by rfl) (by rfl) ?_ (by rfl) zHE zHE ?_)
  · exact Nat.zero_le _
  rintro i hi
  have hil := tabN_len l i
  rcases Nat.lt_or_ge i N with h5 | h5
  · have hd : decide ((i : Int) < 8) = true := decide_eq_true (by omega)
    have hR := k_l2Run 3 l (i : Int) ha (by omega) (wv_of hn ⟨by omega, by rw [show (2 : Int) ^ (3 : Int).toNat = 8 from rfl]; omega⟩)
    (repeat (first | refine gq_KBN ?_ | (refine ga1A ?_; intro _q ⟨_he, _hq⟩)))
    exact ⟨i + 1, h5, ⟨by rfl, ⟨Eq.trans (b := some (.g (.one (.sl 112 (i + 1) (tabN l (i + 1)).length)))) (by rfl) (by rw [tabN_len]), zHE⟩, zHE⟩, (by first | omega | (dsimp only; omega))⟩
  · obtain rfl : i = N := by omega
    have hd : decide ((i : Int) < 8) = false := decide_eq_false (by omega)
    (repeat (first | refine gq_KBN ?_ | (refine ga1A ?_; intro _q ⟨_he, _hq⟩)))
    (refine rtA ?_; try rfl)
    exact congrArg (fun m => AV.g (.one (.sl 0 0 m))) hil.symm
set_option maxHeartbeats 1000000 in
theorem k_ctS4 (l : List Gt) (h : cokB 4 l = true) (N : Nat) (hN : (N : Int) = 16) : Kon Tryd.prog 51 [vI 4, roA l] [] (slA 0 0 (tabN l N)) [iRow (tabN l N)] [] := by
  obtain ⟨hn, hl, ha⟩ := cokB_t h
  have hC := k_cvS 4 l (by omega) (by omega)
  rw [h] at hC
  (refine kM Tryd.func51 rfl ?_; intro hfit hfe)
  (repeat (first | refine gq_KBN ?_ | (refine ga1A ?_; intro _q ⟨_he, _hq⟩)))
  (refine aw_rd [0, 1] [] (fun i : Nat => [(5, .g (.one (.sl 112 i i))), (6, vI i)]) (fun i => [(112, (i, iRow (tabN l i)))]) (fun i => i ≤ N) (fun i => N - i) 0 (by rfl) (by rfl) ?_ (by rfl) zHE zHE ?_)
  · exact Nat.zero_le _
  rintro i hi
  have hil := tabN_len l i
  rcases Nat.lt_or_ge i N with h5 | h5
  · have hd : decide ((i : Int) < 16) = true := decide_eq_true (by omega)
    have hR := k_l2Run 4 l (i : Int) ha (by omega) (wv_of hn ⟨by omega, by rw [show (2 : Int) ^ (4 : Int).toNat = 16 from rfl]; omega⟩)
    (repeat (first | refine gq_KBN ?_ | (refine ga1A ?_; intro _q ⟨_he, _hq⟩)))
    exact ⟨i + 1, h5, ⟨by rfl, ⟨Eq.trans (b := some (.g (.one (.sl 112 (i + 1) (tabN l (i + 1)).length)))) (by rfl) (by rw [tabN_len]), zHE⟩, zHE⟩, (by first | omega | (dsimp only; omega))⟩
  · obtain rfl : i = N := by omega
    have hd : decide ((i : Int) < 16) = false := decide_eq_false (by omega)
    (repeat (first | refine gq_KBN ?_ | (refine ga1A ?_; intro _q ⟨_he, _hq⟩)))
    (refine rtA ?_; try rfl)
    exact congrArg (fun m => AV.g (.one (.sl 0 0 m))) hil.symm
set_option maxHeartbeats 1000000 in
theorem k_ctS5 (l : List Gt) (h : cokB 5 l = true) (N : Nat) (hN : (N : Int) = 32) : Kon Tryd.prog 51 [vI 5, roA l] [] (slA 0 0 (tabN l N)) [iRow (tabN l N)] [] := by
  obtain ⟨hn, hl, ha⟩ := cokB_t h
  have hC := k_cvS 5 l (by omega) (by omega)
  rw [h] at hC
  (refine kM Tryd.func51 rfl ?_; intro hfit hfe)
  (repeat (first | refine gq_KBN ?_ | (refine ga1A ?_; intro _q ⟨_he, _hq⟩)))
  (refine aw_rd [0, 1] [] (fun i : Nat => [(5, .g (.one (.sl 112 i i))), (6, vI i)]) (fun i => [(112, (i, iRow (tabN l i)))]) (fun i => i ≤ N) (fun i => N - i) 0 (by rfl) (by rfl) ?_ (by rfl) zHE zHE ?_)
  · exact Nat.zero_le _
  rintro i hi
  have hil := tabN_len l i
  rcases Nat.lt_or_ge i N with h5 | h5
  · have hd : decide ((i : Int) < 32) = true := decide_eq_true (by omega)
    have hR := k_l2Run 5 l (i : Int) ha (by omega) (wv_of hn ⟨by omega, by rw [show (2 : Int) ^ (5 : Int).toNat = 32 from rfl]; omega⟩)
    (repeat (first | refine gq_KBN ?_ | (refine ga1A ?_; intro _q ⟨_he, _hq⟩)))
    exact ⟨i + 1, h5, ⟨by rfl, ⟨Eq.trans (b := some (.g (.one (.sl 112 (i + 1) (tabN l (i + 1)).length)))) (by rfl) (by rw [tabN_len]), zHE⟩, zHE⟩, (by first | omega | (dsimp only; omega))⟩
  · obtain rfl : i = N := by omega
    have hd : decide ((i : Int) < 32) = false := decide_eq_false (by omega)
    (repeat (first | refine gq_KBN ?_ | (refine ga1A ?_; intro _q ⟨_he, _hq⟩)))
    (refine rtA ?_; try rfl)
    exact congrArg (fun m => AV.g (.one (.sl 0 0 m))) hil.symm
set_option maxHeartbeats 1000000 in
theorem k_ctS6 (l : List Gt) (h : cokB 6 l = true) (N : Nat) (hN : (N : Int) = 64) : Kon Tryd.prog 51 [vI 6, roA l] [] (slA 0 0 (tabN l N)) [iRow (tabN l N)] [] := by
  obtain ⟨hn, hl, ha⟩ := cokB_t h
  have hC := k_cvS 6 l (by omega) (by omega)
  rw [h] at hC
  (refine kM Tryd.func51 rfl ?_; intro hfit hfe)
  (repeat (first | refine gq_KBN ?_ | (refine ga1A ?_; intro _q ⟨_he, _hq⟩)))
  (refine aw_rd [0, 1] [] (fun i : Nat => [(5, .g (.one (.sl 112 i i))), (6, vI i)]) (fun i => [(112, (i, iRow (tabN l i)))]) (fun i => i ≤ N) (fun i => N - i) 0 (by rfl) (by rfl) ?_ (by rfl) zHE zHE ?_)
  · exact Nat.zero_le _
  rintro i hi
  have hil := tabN_len l i
  rcases Nat.lt_or_ge i N with h5 | h5
  · have hd : decide ((i : Int) < 64) = true := decide_eq_true (by omega)
    have hR := k_l2Run 6 l (i : Int) ha (by omega) (wv_of hn ⟨by omega, by rw [show (2 : Int) ^ (6 : Int).toNat = 64 from rfl]; omega⟩)
    (repeat (first | refine gq_KBN ?_ | (refine ga1A ?_; intro _q ⟨_he, _hq⟩)))
    exact ⟨i + 1, h5, ⟨by rfl, ⟨Eq.trans (b := some (.g (.one (.sl 112 (i + 1) (tabN l (i + 1)).length)))) (by rfl) (by rw [tabN_len]), zHE⟩, zHE⟩, (by first | omega | (dsimp only; omega))⟩
  · obtain rfl : i = N := by omega
    have hd : decide ((i : Int) < 64) = false := decide_eq_false (by omega)
    (repeat (first | refine gq_KBN ?_ | (refine ga1A ?_; intro _q ⟨_he, _hq⟩)))
    (refine rtA ?_; try rfl)
    exact congrArg (fun m => AV.g (.one (.sl 0 0 m))) hil.symm
set_option maxHeartbeats 1000000 in
theorem k_ctS7 (l : List Gt) (h : cokB 7 l = true) (N : Nat) (hN : (N : Int) = 128) : Kon Tryd.prog 51 [vI 7, roA l] [] (slA 0 0 (tabN l N)) [iRow (tabN l N)] [] := by
  obtain ⟨hn, hl, ha⟩ := cokB_t h
  have hC := k_cvS 7 l (by omega) (by omega)
  rw [h] at hC
  (refine kM Tryd.func51 rfl ?_; intro hfit hfe)
  (repeat (first | refine gq_KBN ?_ | (refine ga1A ?_; intro _q ⟨_he, _hq⟩)))
  (refine aw_rd [0, 1] [] (fun i : Nat => [(5, .g (.one (.sl 112 i i))), (6, vI i)]) (fun i => [(112, (i, iRow (tabN l i)))]) (fun i => i ≤ N) (fun i => N - i) 0 (by rfl) (by rfl) ?_ (by rfl) zHE zHE ?_)
  · exact Nat.zero_le _
  rintro i hi
  have hil := tabN_len l i
  rcases Nat.lt_or_ge i N with h5 | h5
  · have hd : decide ((i : Int) < 128) = true := decide_eq_true (by omega)
    have hR := k_l2Run 7 l (i : Int) ha (by omega) (wv_of hn ⟨by omega, by rw [show (2 : Int) ^ (7 : Int).toNat = 128 from rfl]; omega⟩)
    (repeat (first | refine gq_KBN ?_ | (refine ga1A ?_; intro _q ⟨_he, _hq⟩)))
    exact ⟨i + 1, h5, ⟨by rfl, ⟨Eq.trans (b := some (.g (.one (.sl 112 (i + 1) (tabN l (i + 1)).length)))) (by rfl) (by rw [tabN_len]), zHE⟩, zHE⟩, (by first | omega | (dsimp only; omega))⟩
  · obtain rfl : i = N := by omega
    have hd : decide ((i : Int) < 128) = false := decide_eq_false (by omega)
    (repeat (first | refine gq_KBN ?_ | (refine ga1A ?_; intro _q ⟨_he, _hq⟩)))
    (refine rtA ?_; try rfl)
    exact congrArg (fun m => AV.g (.one (.sl 0 0 m))) hil.symm
set_option maxHeartbeats 1000000 in
theorem k_ctS8 (l : List Gt) (h : cokB 8 l = true) (N : Nat) (hN : (N : Int) = 256) : Kon Tryd.prog 51 [vI 8, roA l] [] (slA 0 0 (tabN l N)) [iRow (tabN l N)] [] := by
  obtain ⟨hn, hl, ha⟩ := cokB_t h
  have hC := k_cvS 8 l (by omega) (by omega)
  rw [h] at hC
  (refine kM Tryd.func51 rfl ?_; intro hfit hfe)
  (repeat (first | refine gq_KBN ?_ | (refine ga1A ?_; intro _q ⟨_he, _hq⟩)))
  (refine aw_rd [0, 1] [] (fun i : Nat => [(5, .g (.one (.sl 112 i i))), (6, vI i)]) (fun i => [(112, (i, iRow (tabN l i)))]) (fun i => i ≤ N) (fun i => N - i) 0 (by rfl) (by rfl) ?_ (by rfl) zHE zHE ?_)
  · exact Nat.zero_le _
  rintro i hi
  have hil := tabN_len l i
  rcases Nat.lt_or_ge i N with h5 | h5
  · have hd : decide ((i : Int) < 256) = true := decide_eq_true (by omega)
    have hR := k_l2Run 8 l (i : Int) ha (by omega) (wv_of hn ⟨by omega, by rw [show (2 : Int) ^ (8 : Int).toNat = 256 from rfl]; omega⟩)
    (repeat (first | refine gq_KBN ?_ | (refine ga1A ?_; intro _q ⟨_he, _hq⟩)))
    exact ⟨i + 1, h5, ⟨by rfl, ⟨Eq.trans (b := some (.g (.one (.sl 112 (i + 1) (tabN l (i + 1)).length)))) (by rfl) (by rw [tabN_len]), zHE⟩, zHE⟩, (by first | omega | (dsimp only; omega))⟩
  · obtain rfl : i = N := by omega
    have hd : decide ((i : Int) < 256) = false := decide_eq_false (by omega)
    (repeat (first | refine gq_KBN ?_ | (refine ga1A ?_; intro _q ⟨_he, _hq⟩)))
    (refine rtA ?_; try rfl)
    exact congrArg (fun m => AV.g (.one (.sl 0 0 m))) hil.symm
theorem k_ctS (n : Int) (l : List Gt) (h : cokB n l = true) (N : Nat) (hN : (1 * 2 ^ n.toNat : Int) = (N : Int)) : Kon Tryd.prog 51 [vI n, roA l] [] (slA 0 0 (tabN l N)) [iRow (tabN l N)] [] := by
  obtain ⟨hn, hl, ha⟩ := cokB_t h
  obtain rfl | rfl | rfl | rfl | rfl | rfl | rfl | rfl : n = 1 ∨ n = 2 ∨ n = 3 ∨ n = 4 ∨ n = 5 ∨ n = 6 ∨ n = 7 ∨ n = 8 := by omega
  · exact k_ctS1 l h N hN.symm
  · exact k_ctS2 l h N hN.symm
  · exact k_ctS3 l h N hN.symm
  · exact k_ctS4 l h N hN.symm
  · exact k_ctS5 l h N hN.symm
  · exact k_ctS6 l h N hN.symm
  · exact k_ctS7 l h N hN.symm
  · exact k_ctS8 l h N hN.symm
theorem k_si (l : List Int) (h : l.length ≤ 10000000) : Kon Tryd.prog 19 [roA l, roA l] [] (vB true) [] [] := by
  have h1 : ((l.length : Int) != (l.length : Int)) = false := by simp
  have hg : ∀ x : Int, (x != x) = false := fun x => by simp
  (refine kM Tryd.func19 rfl ?_; intro hfit hfe)
  (repeat (first | refine gq_KBN ?_ | (refine ga1A ?_; intro _q ⟨_he, _hq⟩)))
  (refine aw_rd [0, 1] [] (fun i : Nat => [(5, vI i)]) (fun _ => []) (fun i => i ≤ l.length) (fun i => l.length - i) 0 (by rfl) (by rfl) ?_ (by rfl) zHE zHE ?_)
  · exact Nat.zero_le _
  rintro i hi
  rcases Nat.lt_or_ge i l.length with h5 | h5
  · have hd : decide ((i : Int) < (l.length : Int)) = true := decide_eq_true (by omega)
    have hg := hg (l.getD (i : Int).toNat Cel.no)
    (repeat (first | refine gq_KBN ?_ | (refine ga1A ?_; intro _q ⟨_he, _hq⟩) | refine gdA ?_))
    exact ⟨i + 1, h5, ⟨by rfl, zHE, zHE⟩, (by first | omega | (dsimp only; omega))⟩
  · have hd : decide ((i : Int) < (l.length : Int)) = false := decide_eq_false (by omega)
    (repeat (first | refine gq_KBN ?_ | (refine ga1A ?_; intro _q ⟨_he, _hq⟩) | refine gdA ?_))
    (refine rtA ?_; try rfl)
end Go.Proofs.YtmkoanmmfcpmjaaDoor
