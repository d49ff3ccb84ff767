/- KED: laid into one text. -/
import Derived.Test.YtnenhckongccgaaGreatDoorQHF
import Derived.Test.YtnenhckongccgaaGreatDoorQHQ

namespace Go.Proofs.YtnenhckongccgaaGreatDoor
set_option linter.unusedVariables false
set_option linter.unusedSimpArgs false
set_option maxRecDepth 20000
open Go.RowKit
attribute [local irreducible] runA runX AW
def wsTD : WsT := wsT
theorem gq_KED {H G : Prop} (k : H) (h : Hid H → G := by (intro hh; repeat1' (first | (first | (refine nxA ?_; (first | fail | ((first | (refine z_op (by rfl) ?_; first | refine z_ok ?_ ?_ | refine z_ex ?_ (by first | exact zL1 | ((first | (first | refine mk_0 Gt rfl rfl ?_)); exact zWW) | exact zL2 | exact rw_c Gt rfl | exact zL3 | fail) ?_) | ((first | refine q_callE wsTD wsZ (by rfl) ?_ | refine q_callVE wsTD (by rfl) (by rfl) ?_); refine ⟨_, _, _, (by first | assumption | exact k_copyS _ _ _ _ _ (by omega) | exact k_l1In _ _ _), _, by rfl, ?_, ?_⟩)); focus (first | exact trivial | fail | exact zQZ)) | fail)) | refine swA ?_) | refine awA ?_); exact hh.out)) : G := h ⟨k⟩
theorem gs_KED {H G : Prop} (k : H) (h : Hid H → G := by (intro hh; repeat1' (first | (refine nxA ?_; (first | fail | ((first | (refine z_op (by rfl) ?_; first | refine z_ok ?_ ?_ | refine z_ex ?_ (by first | exact zL1 | ((first | (first | refine mk_0 Gt rfl rfl ?_)); exact zWW) | exact zL2 | exact rw_c Gt rfl | exact zL3 | fail) ?_) | ((first | refine q_callE wsTD wsZ (by rfl) ?_ | refine q_callVE wsTD (by rfl) (by rfl) ?_); refine ⟨_, _, _, (by first | assumption | exact k_copyS _ _ _ _ _ (by omega) | exact k_l1In _ _ _), _, by rfl, ?_, ?_⟩)); focus (first | exact trivial | fail | exact zQZ)) | fail)) | refine swA ?_); exact hh.out)) : G := h ⟨k⟩
abbrev bC (n : Int) (l : List Gt) (f w a : Int) : List AC := [.v (.int .i64 n), .sl 256 0 l.length, .v (.int .i64 f), .v (.int .i64 w), .v (.int .i64 a)]
abbrev bT (n : Int) (l : List Gt) (f w a : Int) (ok : Bool) : AV := .tup [.agg [.v (.int .i64 n), .sl 0 0 l.length, .v (.int .i64 f), .v (.int .i64 w), .v (.int .i64 a)], .one (.v (.bool ok))]
theorem k_bdo0 (n : Int) (l : List Gt) (f w a : Int) (d : Dd) (hl : l.length ≤ 1000) (hr : -9223372036854775808 ≤ n ∧ n ≤ 9223372036854775807) (h : bok n l f w a = false) : Kon Tryz.prog 45 [bG n l f w a, dV d] [] (.tup [.agg [.v (.int .i64 0), .v (.slice none 0 0), .v (.int .i64 0), .v (.int .i64 0), .v (.int .i64 0)], .one (.v (.bool false))]) [] [] := by
  have hB := k_bvS n l f w a (by omega) hr
  rw [h] at hB
  (refine kM Tryz.func45 rfl ?_; intro hfit hfe)
  (repeat (first | refine gq_KED ?_ | (refine ga1A ?_; intro _q ⟨_he, _hq⟩)))
  (refine rtA ?_; try rfl)
theorem k_bdoN (n : Int) (l : List Gt) (f w a : Int) (d : Dd) (hl : l.length ≤ 1000) (hr : -9223372036854775808 ≤ n ∧ n ≤ 9223372036854775807) (h : bok n l f w a = true) (hN : Kon Tryz.prog 96 [dV d] [] (vB false) [] []) : Kon Tryz.prog 45 [bG n l f w a, dV d] [] (bT n l f w a false) [gRow l] [] := by
  have hB := k_bvS n l f w a (by omega) hr
  rw [h] at hB
  (refine kM Tryz.func45 rfl ?_; intro hfit hfe)
  (repeat (first | refine gq_KED ?_ | (refine ga1A ?_; intro _q ⟨_he, _hq⟩)))
  (refine rtA ?_; try rfl)
def fw (l : List Gt) (A i : Nat) (w : Int) : Int := cr ((l.drop A).take i) w
theorem fw_succ {l : List Gt} {A i : Nat} (w : Int) (h : A + i < l.length) : fw l A (i + 1) w = gr (l.getD (A + i) Cel.no) (fw l A i w) := by
  unfold fw
  have h2 : i < (l.drop A).length := by rw [List.length_drop]; omega
  have e : (l.drop A)[i] = l.getD (A + i) Cel.no := by rw [List.getElem_drop, List.getD_eq_getElem?_getD, List.getElem?_eq_getElem h]; rfl
  rw [List.take_succ_eq_append_getElem h2, cr_append, e]; rfl
theorem fw_wv {n : Int} {l : List Gt} {A i : Nat} {w : Int} (hn : 1 ≤ n ∧ n ≤ 8) (ha : l.all (gok n) = true) (hw : 0 ≤ w ∧ w < 2 ^ n.toNat) : wvB n (fw l A i w) = true := by
  have : ((l.drop A).take i).all (gok n) = true := by
    rw [List.all_eq_true] at ha ⊢
    exact fun g hg => ha g (List.mem_of_mem_drop (List.mem_of_mem_take hg))
  have h2 := cr_lt this hw
  unfold wvB btw fw
  rw [decide_eq_true hn.1, decide_eq_true hn.2, decide_eq_true h2.1, decide_eq_true (by omega)]; rfl
set_option maxHeartbeats 2000000 in
theorem k_bdoF (n : Int) (l : List Gt) (f w : Int) (A m : Nat) (p : Gt) (hl : l.length ≤ 1000) (h : bok n l f w A = true) (hN : Kon Tryz.prog 96 [dV ⟨0, m, p⟩] [] (vB true) [] []) (hm : 1 ≤ m ∧ m + A ≤ l.length) : Kon Tryz.prog 45 [bG n l f w A, dV ⟨0, m, p⟩] [] (bT n l f (fw l A m w) ((A + m : Nat) : Int) true) [gRow l] [] := by
  have hB := k_bvS n l f w A (by omega) (by have := (cokB_t (bok_t h).1).1; omega)
  rw [h] at hB
  obtain ⟨hc, hf, _, hwe⟩ := bok_t h
  obtain ⟨hn, hl24, ha⟩ := cokB_t hc
  have hfv := wvB_t hf
  have hat : (l.take A).all (gok n) = true := all_take ha A
  have hwb : 0 ≤ w ∧ w < 2 ^ n.toNat := by rw [hwe]; exact cr_lt hat ⟨hfv.2.1, hfv.2.2.1⟩
  have hbt : btw (m : Int) 1 ((l.length : Int) - A) = true := by
    unfold btw; rw [decide_eq_true (by omega), decide_eq_true (by omega)]; rfl
  have hL := k_l1In (m : Int) 1 ((l.length : Int) - A)
  rw [hbt] at hL
  (refine kM Tryz.func45 rfl ?_; intro hfit hfe)
  (repeat (first | refine gq_KED ?_ | (refine ga1A ?_; intro _q ⟨_he, _hq⟩)))
  (refine aw_rd [2, 3, 4, 6] [32, 48, 64, 256] (fun i : Nat => [(7, vI i)]) (fun i => [(96, (0, .box (bC n l f (fw l A i w) ((A + i : Nat) : Int))))]) (fun i => i ≤ m) (fun i => m - i) 0 (by rfl) (by rfl) ?_ (by rfl) zHE zHE ?_)
  · exact Nat.zero_le _
  rintro i hi
  rcases Nat.lt_or_ge i m with h5 | h5
  · have hd : decide ((i : Int) < (m : Int)) = true := decide_eq_true (by omega)
    have hg : gok n (l.getD (A + i) Cel.no) = true := all_at ha (by omega)
    have hR := k_grS1 n (l.getD (A + i) Cel.no) (fw l A i w) hg (fw_wv hn ha hwb)
    rw [← fw_succ w (by omega)] at hR
    replace hR : Kon Tryz.prog 97 [vI n, gV (l.getD ((A + i : Nat) : Int).toNat Cel.no), vI (fw l A i w)] [] (vI (fw l A (i + 1) w)) [] [] := hR
    generalize fw l A i w = x at *
    (repeat (first | refine gq_KED ?_ | (refine ga1A ?_; intro _q ⟨_he, _hq⟩)))
    (refine aw_draw2 mixed T0ok cfU_ok [(96, [1004, 1005, 1008, 1009, 1011, 12])] (by rfl) (by kernel_rfl) ?_)
    (repeat (first | refine gq_KED ?_ | (refine ga1A ?_; intro _q ⟨_he, _hq⟩)))
    exact ⟨i + 1, h5, ⟨by rfl, zHE, zHE⟩, (by first | omega | (dsimp only; omega))⟩
  · obtain rfl : i = m := by omega
    have hd : decide ((i : Int) < (i : Int)) = false := decide_eq_false (by omega)
    generalize fw l A i w = x at *
    (repeat (first | refine gq_KED ?_ | (refine ga1A ?_; intro _q ⟨_he, _hq⟩)))
    (refine rtA ?_; try rfl)
def bw (l : List Gt) (A i : Nat) (w : Int) : Int := cr ((l.take A).reverse.take i) w
theorem bw_succ {l : List Gt} {A i : Nat} (w : Int) (hA : A ≤ l.length) (h : i < A) : bw l A (i + 1) w = gr (l.getD (A - (i + 1)) Cel.no) (bw l A i w) := by
  unfold bw
  have h2 : i < (l.take A).reverse.length := by rw [List.length_reverse, List.length_take]; omega
  have h3 : A - (i + 1) < l.length := by omega
  have e : (l.take A).reverse[i] = l.getD (A - (i + 1)) Cel.no := by
    rw [List.getElem_reverse, List.getElem_take, List.getD_eq_getElem?_getD, List.getElem?_eq_getElem h3]
    simp only [List.length_take, Nat.min_eq_left hA, Option.getD_some]
    congr 1
    omega
  rw [List.take_succ_eq_append_getElem h2, cr_append, e]; rfl
theorem bw_wv {n : Int} {l : List Gt} {A i : Nat} {w : Int} (hn : 1 ≤ n ∧ n ≤ 8) (ha : l.all (gok n) = true) (hw : 0 ≤ w ∧ w < 2 ^ n.toNat) : wvB n (bw l A i w) = true := by
  have : ((l.take A).reverse.take i).all (gok n) = true := by
    rw [List.all_eq_true] at ha ⊢
    exact fun g hg => ha g (List.mem_of_mem_take (List.mem_reverse.1 (List.mem_of_mem_take hg)))
  have h2 := cr_lt this hw
  unfold wvB btw bw
  rw [decide_eq_true hn.1, decide_eq_true hn.2, decide_eq_true h2.1, decide_eq_true (by omega)]; rfl
set_option maxHeartbeats 2000000 in
theorem k_bdoB (n : Int) (l : List Gt) (f w : Int) (A m : Nat) (p : Gt) (hl : l.length ≤ 1000) (h : bok n l f w A = true) (hN : Kon Tryz.prog 96 [dV ⟨1, m, p⟩] [] (vB true) [] []) (hm : 1 ≤ m ∧ m ≤ A) : Kon Tryz.prog 45 [bG n l f w A, dV ⟨1, m, p⟩] [] (bT n l f (bw l A m w) ((A : Int) - (m : Int)) true) [gRow l] [] := by
  have hB := k_bvS n l f w A (by omega) (by have := (cokB_t (bok_t h).1).1; omega)
  rw [h] at hB
  obtain ⟨hc, hf, hAl, hwe⟩ := bok_t h
  obtain ⟨hn, hl24, ha⟩ := cokB_t hc
  have hfv := wvB_t hf
  have hat : (l.take A).all (gok n) = true := all_take ha A
  have hwb : 0 ≤ w ∧ w < 2 ^ n.toNat := by rw [hwe]; exact cr_lt hat ⟨hfv.2.1, hfv.2.2.1⟩
  have hbt : btw (m : Int) 1 (A : Int) = true := by
    unfold btw; rw [decide_eq_true (by omega), decide_eq_true (by omega)]; rfl
  have hL := k_l1In (m : Int) 1 (A : Int)
  rw [hbt] at hL
  (refine kM Tryz.func45 rfl ?_; intro hfit hfe)
  (repeat (first | refine gq_KED ?_ | (refine ga1A ?_; intro _q ⟨_he, _hq⟩)))
  (refine aw_rd [2, 3, 4, 6] [32, 48, 64, 256] (fun i : Nat => [(8, vI i)]) (fun i => [(96, (0, .box (bC n l f (bw l A i w) ((A : Int) - (i : Int)))))]) (fun i => i ≤ m) (fun i => m - i) 0 (by rfl) (by rfl) ?_ (by rfl) zHE zHE ?_)
  · exact Nat.zero_le _
  rintro i hi
  rcases Nat.lt_or_ge i m with h5 | h5
  · have hd : decide ((i : Int) < (m : Int)) = true := decide_eq_true (by omega)
    have hg : gok n (l.getD (A - (i + 1)) Cel.no) = true := all_at ha (by omega)
    have hR := k_grS1 n (l.getD (A - (i + 1)) Cel.no) (bw l A i w) hg (bw_wv hn ha hwb)
    rw [← bw_succ w (by omega) (by omega)] at hR
    have ei : ((A : Int) - (i : Int) - 1).toNat = A - (i + 1) := by omega
    rw [← ei] at hR
    clear ei
    generalize bw l A i w = x at *
    (repeat (first | refine gq_KED ?_ | (refine ga1A ?_; intro _q ⟨_he, _hq⟩)))
    (refine aw_draw2 mixed T0ok cfU_ok [(96, [1004, 1005, 1008, 1009, 1011, 12])] (by rfl) (by kernel_rfl) ?_)
    (repeat (first | refine gq_KED ?_ | (refine ga1A ?_; intro _q ⟨_he, _hq⟩)))
    rw [show (A : Int) - (i : Int) - 1 = (A : Int) - ((i + 1 : Nat) : Int) from by omega]
    exact ⟨i + 1, h5, ⟨by rfl, zHE, zHE⟩, (by first | omega | (dsimp only; omega))⟩
  · obtain rfl : i = m := by omega
    have hd : decide ((i : Int) < (i : Int)) = false := decide_eq_false (by omega)
    generalize bw l A i w = x at *
    (repeat (first | refine gq_KED ?_ | (refine ga1A ?_; intro _q ⟨_he, _hq⟩)))
    (refine rtA ?_; try rfl)
set_option maxHeartbeats 2000000 in
theorem k_bdoP (n : Int) (l : List Gt) (f w : Int) (A : Nat) (p : Gt) (hl : l.length < 24) (h : bok n l f w A = true) (hN : Kon Tryz.prog 96 [dV ⟨2, 0, p⟩] [] (vB true) [] []) (hp : gok n p = true) : Kon Tryz.prog 45 [bG n l f w A, dV ⟨2, 0, p⟩] [] (bT n (l.take A ++ [p] ++ l.drop A) f w A true) [gRow (l.take A ++ [p] ++ l.drop A)] [] := by
  have hB := k_bvS n l f w A (by omega) (by have := (cokB_t (bok_t h).1).1; omega)
  rw [h] at hB
  obtain ⟨hc, hf, hAl, hwe⟩ := bok_t h
  obtain ⟨hn, hl24, ha⟩ := cokB_t hc
  have hG := k_gvS n p (by omega)
  rw [hp] at hG
  have hd : decide ((l.length : Int) < 24) = true := decide_eq_true (by omega)
  have e : ([] : List Gt) ++ l.take (A : Int).toNat ++ [p] ++ l.drop (A : Int).toNat = l.take A ++ [p] ++ l.drop A := rfl
  (refine kM Tryz.func45 rfl ?_; intro hfit hfe)
  (repeat (first | refine gq_KED ?_ | (refine ga1A ?_; intro _q ⟨_he, _hq⟩)))
  (refine aw_draw mixed T0ok cfU_ok [(1760, [0, 6, 10, 16]), (1904, [9, 10]), (96, [17, 18])] (by rfl) (by kernel_rfl) ?_)
  (repeat (first | refine gs_KED ?_ | (refine ga1A ?_; intro _q ⟨_he, _hq⟩)))
  (repeat (first | refine gq_KED ?_ | (refine ga1A ?_; intro _q ⟨_he, _hq⟩)))
  (refine rtA ?_; try rfl)
set_option maxHeartbeats 2000000 in
theorem k_bdoT (n : Int) (l : List Gt) (f w m : Int) (A : Nat) (p : Gt) (hA : A < l.length) (h : bok n l f w A = true) (hN : Kon Tryz.prog 96 [dV ⟨3, m, p⟩] [] (vB true) [] []) : Kon Tryz.prog 45 [bG n l f w A, dV ⟨3, m, p⟩] [] (bT n (l.take A ++ l.drop (A + 1)) f w A true) [gRow (l.take A ++ l.drop (A + 1))] [] := by
  obtain ⟨hc, hf, hAl, hwe⟩ := bok_t h
  obtain ⟨hn, hl24, ha⟩ := cokB_t hc
  have hB := k_bvS n l f w A (by omega) (by omega)
  rw [h] at hB
  have hd : decide ((A : Int) < (l.length : Int)) = true := decide_eq_true (by omega)
  have e1 : ((A : Int) + 1).toNat = A + 1 := by omega
  rw [← e1]
  clear e1
  (refine kM Tryz.func45 rfl ?_; intro hfit hfe)
  (repeat (first | refine gq_KED ?_ | (refine ga1A ?_; intro _q ⟨_he, _hq⟩)))
  (refine aw_draw mixed T0ok cfU_ok [(2240, [0, 6, 13]), (96, [14, 15])] (by rfl) (by kernel_rfl) ?_)
  (repeat (first | refine gs_KED ?_ | (refine ga1A ?_; intro _q ⟨_he, _hq⟩)))
  (repeat (first | refine gq_KED ?_ | (refine ga1A ?_; intro _q ⟨_he, _hq⟩)))
  (refine rtA ?_; try rfl)
theorem k_bdo0f (n : Int) (l : List Gt) (f w a m : Int) (p : Gt) (h : bok n l f w a = true) (hN : Kon Tryz.prog 96 [dV ⟨0, m, p⟩] [] (vB true) [] []) (hb : btw m 1 ((l.length : Int) - a) = false) : Kon Tryz.prog 45 [bG n l f w a, dV ⟨0, m, p⟩] [] (bT n l f w a false) [gRow l] [] := by
  obtain ⟨hc, hf, hAl, hwe⟩ := bok_t h
  obtain ⟨hn, hl24, ha⟩ := cokB_t hc
  have hB := k_bvS n l f w a (by omega) (by omega)
  rw [h] at hB
  have hL := k_l1In m 1 ((l.length : Int) - a)
  rw [hb] at hL
  (refine kM Tryz.func45 rfl ?_; intro hfit hfe)
  (repeat (first | refine gq_KED ?_ | (refine ga1A ?_; intro _q ⟨_he, _hq⟩)))
  (refine rtA ?_; try rfl)
theorem k_bdo1f (n : Int) (l : List Gt) (f w a m : Int) (p : Gt) (h : bok n l f w a = true) (hN : Kon Tryz.prog 96 [dV ⟨1, m, p⟩] [] (vB true) [] []) (hb : btw m 1 a = false) : Kon Tryz.prog 45 [bG n l f w a, dV ⟨1, m, p⟩] [] (bT n l f w a false) [gRow l] [] := by
  obtain ⟨hc, hf, hAl, hwe⟩ := bok_t h
  obtain ⟨hn, hl24, ha⟩ := cokB_t hc
  have hB := k_bvS n l f w a (by omega) (by omega)
  rw [h] at hB
  have hL := k_l1In m 1 a
  rw [hb] at hL
  (refine kM Tryz.func45 rfl ?_; intro hfit hfe)
  (repeat (first | refine gq_KED ?_ | (refine ga1A ?_; intro _q ⟨_he, _hq⟩)))
  (refine rtA ?_; try rfl)
theorem k_bdo2f (n : Int) (l : List Gt) (f w a m : Int) (p : Gt) (h : bok n l f w a = true) (hN : Kon Tryz.prog 96 [dV ⟨2, m, p⟩] [] (vB true) [] []) (hb : gok n p = false ∨ 24 ≤ l.length) : Kon Tryz.prog 45 [bG n l f w a, dV ⟨2, m, p⟩] [] (bT n l f w a false) [gRow l] [] := by
  obtain ⟨hc, hf, hAl, hwe⟩ := bok_t h
  obtain ⟨hn, hl24, ha⟩ := cokB_t hc
  have hB := k_bvS n l f w a (by omega) (by omega)
  rw [h] at hB
  have hG := k_gvS n p (by omega)
  cases hg : gok n p with
  | false =>
    rw [hg] at hG
    (refine kM Tryz.func45 rfl ?_; intro hfit hfe)
    (repeat (first | refine gq_KED ?_ | (refine ga1A ?_; intro _q ⟨_he, _hq⟩)))
    (refine rtA ?_; try rfl)
  | true =>
    rw [hg] at hG
    have hd : decide ((l.length : Int) < 24) = false := decide_eq_false (by
      rcases hb with hb | hb
      · rw [hg] at hb; cases hb
      · omega)
    (refine kM Tryz.func45 rfl ?_; intro hfit hfe)
    (repeat (first | refine gq_KED ?_ | (refine ga1A ?_; intro _q ⟨_he, _hq⟩)))
    (refine rtA ?_; try rfl)
theorem k_bdo3f (n : Int) (l : List Gt) (f w a m : Int) (p : Gt) (h : bok n l f w a = true) (hN : Kon Tryz.prog 96 [dV ⟨3, m, p⟩] [] (vB true) [] []) (hb : (l.length : Int) ≤ a) : Kon Tryz.prog 45 [bG n l f w a, dV ⟨3, m, p⟩] [] (bT n l f w a false) [gRow l] [] := by
  obtain ⟨hc, hf, hAl, hwe⟩ := bok_t h
  obtain ⟨hn, hl24, ha⟩ := cokB_t hc
  have hB := k_bvS n l f w a (by omega) (by omega)
  rw [h] at hB
  have hd : decide (a < (l.length : Int)) = false := decide_eq_false (by omega)
  (refine kM Tryz.func45 rfl ?_; intro hfit hfe)
  (repeat (first | refine gq_KED ?_ | (refine ga1A ?_; intro _q ⟨_he, _hq⟩)))
  (refine rtA ?_; try rfl)
end Go.Proofs.YtnenhckongccgaaGreatDoor
