/- LNS: laid into one text. -/
import Derived.Test.YtnenhckongccgaaGreatDoorQGU
import Derived.Test.YtnenhckongccgaaGreatDoorQGY

namespace Go.Proofs.YtnenhckongccgaaGreatDoor
set_option linter.unusedVariables false
set_option linter.unusedSimpArgs false
set_option maxRecDepth 20000
open Go.RowKit
attribute [local irreducible] runA runX AW
def wsTLS : WsT := (46, ([], true)) :: wsT
theorem gq_LNS {H G : Prop} (k : H) (h : Hid H → G := by (intro hh; repeat1' (first | (first | (refine nxA ?_; (first | (first | refine r_seq (by rfl) (by rfl) (by rfl) ?_ | refine r_sne (by rfl) (by rfl) (by rfl) ?_ | refine r_sadd (by rfl) (by rfl) (by first | omega | (simp only [List.length_append, List.length_cons, List.length_nil]; omega)) (by rfl) ?_) | ((first | (refine z_op (by rfl) ?_; first | refine z_ok ?_ ?_ | refine z_ex ?_ (by first | exact zL1 | ((first | fail); exact zWW) | exact zL2 | fail | exact zL3 | exact pu_sadd (by first | omega | (simp only [List.length_append, List.length_cons, List.length_nil]; omega))) ?_) | ((first | refine q_callE wsTLS wsZ (by rfl) ?_ | refine q_callVE wsTLS (by rfl) (by rfl) ?_); refine ⟨_, _, _, (by first | assumption | exact k_copyS _ _ _ _ _ (by omega) | exact k_gtS _ | exact k_beS _ _ _ _ _ (by omega) (by omega) | exact k_num3 _ (by omega)), _, by rfl, ?_, ?_⟩)); focus (first | exact trivial | fail | exact zQZ)) | fail)) | refine swA ?_) | refine awA ?_); exact hh.out)) : G := h ⟨k⟩
theorem gs_LNS {H G : Prop} (k : H) (h : Hid H → G := by (intro hh; repeat1' (first | (refine nxA ?_; (first | (first | refine r_seq (by rfl) (by rfl) (by rfl) ?_ | refine r_sne (by rfl) (by rfl) (by rfl) ?_ | refine r_sadd (by rfl) (by rfl) (by first | omega | (simp only [List.length_append, List.length_cons, List.length_nil]; omega)) (by rfl) ?_) | ((first | (refine z_op (by rfl) ?_; first | refine z_ok ?_ ?_ | refine z_ex ?_ (by first | exact zL1 | ((first | fail); exact zWW) | exact zL2 | fail | exact zL3 | exact pu_sadd (by first | omega | (simp only [List.length_append, List.length_cons, List.length_nil]; omega))) ?_) | ((first | refine q_callE wsTLS wsZ (by rfl) ?_ | refine q_callVE wsTLS (by rfl) (by rfl) ?_); refine ⟨_, _, _, (by first | assumption | exact k_copyS _ _ _ _ _ (by omega) | exact k_gtS _ | exact k_beS _ _ _ _ _ (by omega) (by omega) | exact k_num3 _ (by omega)), _, by rfl, ?_, ?_⟩)); focus (first | exact trivial | fail | exact zQZ)) | fail)) | refine swA ?_); exact hh.out)) : G := h ⟨k⟩
theorem k_blS0 (n : Int) (l : List Gt) (f w a : Int) (s : List UInt8) (hl : l.length ≤ 10000000) (hr : -9223372036854775808 ≤ n ∧ n ≤ 9223372036854775807) (h : bok n l f w a = false) : Kon Tryz.prog 10 [bG n l f w a, vS s] [] lnZ [] [] := by
  have hB := k_bvS n l f w a (by omega) hr
  rw [h] at hB
  (refine kM Tryz.func10 rfl ?_; intro hfit hfe)
  (repeat (first | refine gq_LNS ?_ | (refine ga0A ?_; intro _hq)))
  (refine rtA ?_; try rfl)
theorem run1 {n : Int} {l l' : List Gt} {w w' : Int} {A A' : Nat} {d : Dd} (h : doR n l w A d = ((l', w', A'), true)) : runM n ((l, w, A), 0) [d] = ((l', w', A'), 1) := by
  unfold runM stB
  dsimp only [List.foldl_cons, List.foldl_nil]
  rw [h]; rfl
set_option maxHeartbeats 4000000 in
theorem k_lsD {n : Int} {l l' : List Gt} {f w w' : Int} {A A' : Nat} {s : List UInt8} {d : Dd} {ok : Bool} (hb : bok n l f w A = true) (hRD : Kon Tryz.prog 43 [vS s] [] (tupD d true) [] []) (hR : doR n l w A d = ((l', w', A'), ok)) :
    Kon Tryz.prog 10 [bG n l f w (A : Int), vS s] [] (lnO n l' f w' (A' : Int) (if ok = true then wOk else wNo)) [] [] := by
  have hnum := bok_nums n l f w A hb
  have hD := kn_doS hb hR
  have hB := k_bvS n l f w A (by omega) (by omega)
  rw [hb] at hB
  have hb2 := doR_ok hb hR
  have hnum2 := bok_nums n l' f w' A' hb2
  clear hR hb2
  cases ok with
  | true =>
    rw [if_pos rfl]
    (refine kM Tryz.func10 rfl ?_; intro hfit hfe)
    (repeat refine gcA ?_)
    (repeat (first | refine gs_LNS ?_ | (refine ga0A ?_; intro _hq)))
    (repeat refine gcA ?_)
    (repeat (first | refine gs_LNS ?_ | (refine ga0A ?_; intro _hq)))
    (repeat refine gcA ?_)
    (repeat (first | refine gs_LNS ?_ | (refine ga0A ?_; intro _hq)))
    (repeat refine gcA ?_)
    (repeat (first | refine gs_LNS ?_ | (refine ga0A ?_; intro _hq)))
    (repeat refine gcA ?_)
    (repeat (first | refine gs_LNS ?_ | (refine ga0A ?_; intro _hq)))
    (refine aw_freeze 400 (by rfl) (by rfl) ?_; refine aw_box 128 1 (by rfl) (by rfl) (by first | exact trivial | ((repeat' (first | exact rfl | exact cV_len _ | exact cV_ln rfl (by omega) | exact Cel.pos | omega | exact trivial | refine And.intro ?_ ?_)); first | done | fail)) (by rfl) ?_)
    (repeat refine gcA ?_)
    (repeat (first | refine gs_LNS ?_ | (refine ga0A ?_; intro _hq)))
    (repeat refine gcA ?_)
    (repeat (first | refine gs_LNS ?_ | (refine ga0A ?_; intro _hq)))
    (refine aw_freeze 496 (by rfl) (by rfl) ?_; refine aw_box 144 1 (by rfl) (by rfl) (by first | exact trivial | ((repeat' (first | exact rfl | exact cV_len _ | exact cV_ln rfl (by omega) | exact Cel.pos | omega | exact trivial | refine And.intro ?_ ?_)); first | done | fail)) (by rfl) ?_)
    (repeat (first | refine gq_LNS ?_ | (refine ga0A ?_; intro _hq)))
    (refine rtA ?_; try rfl)
  | false =>
    rw [if_neg (by decide)]
    (refine kM Tryz.func10 rfl ?_; intro hfit hfe)
    (repeat refine gcA ?_)
    (repeat (first | refine gs_LNS ?_ | (refine ga0A ?_; intro _hq)))
    (repeat refine gcA ?_)
    (repeat (first | refine gs_LNS ?_ | (refine ga0A ?_; intro _hq)))
    (repeat refine gcA ?_)
    (repeat (first | refine gs_LNS ?_ | (refine ga0A ?_; intro _hq)))
    (repeat refine gcA ?_)
    (repeat (first | refine gs_LNS ?_ | (refine ga0A ?_; intro _hq)))
    (repeat refine gcA ?_)
    (repeat (first | refine gs_LNS ?_ | (refine ga0A ?_; intro _hq)))
    (refine aw_freeze 400 (by rfl) (by rfl) ?_; refine aw_box 128 1 (by rfl) (by rfl) (by first | exact trivial | ((repeat' (first | exact rfl | exact cV_len _ | exact cV_ln rfl (by omega) | exact Cel.pos | omega | exact trivial | refine And.intro ?_ ?_)); first | done | fail)) (by rfl) ?_)
    (repeat refine gcA ?_)
    (repeat (first | refine gs_LNS ?_ | (refine ga0A ?_; intro _hq)))
    (repeat refine gcA ?_)
    (repeat (first | refine gs_LNS ?_ | (refine ga0A ?_; intro _hq)))
    (refine aw_freeze 496 (by rfl) (by rfl) ?_; refine aw_box 144 1 (by rfl) (by rfl) (by first | exact trivial | ((repeat' (first | exact rfl | exact cV_len _ | exact cV_ln rfl (by omega) | exact Cel.pos | omega | exact trivial | refine And.intro ?_ ?_)); first | done | fail)) (by rfl) ?_)
    (repeat (first | refine gq_LNS ?_ | (refine ga0A ?_; intro _hq)))
    (refine rtA ?_; try rfl)
set_option maxHeartbeats 4000000 in
theorem k_lsH0 {n : Int} {l : List Gt} {f w : Int} {A : Nat} {s : List UInt8} (hb : bok n l f w A = true) (hRD : Kon Tryz.prog 43 [vS s] [] (tupD dZ false) [] []) (h0 : (s == wHome) = true) (hA : A = 0) : Kon Tryz.prog 10 [bG n l f w (A : Int), vS s] [] (lnO n l f w (A : Int) wNone) [] [] := by
  have hnum := bok_nums n l f w A hb
  have hB := k_bvS n l f w A (by omega) (by omega)
  rw [hb] at hB
  have a0 : (((A : Nat) : Int) == 0) = true := by rw [hA]; rfl
  (refine kM Tryz.func10 rfl ?_; intro hfit hfe)
  (repeat refine gcA ?_)
  (repeat (first | refine gs_LNS ?_ | (refine ga0A ?_; intro _hq)))
  (repeat refine gcA ?_)
  (repeat (first | refine gs_LNS ?_ | (refine ga0A ?_; intro _hq)))
  (repeat refine gcA ?_)
  (repeat (first | refine gs_LNS ?_ | (refine ga0A ?_; intro _hq)))
  (repeat refine gcA ?_)
  (repeat (first | refine gs_LNS ?_ | (refine ga0A ?_; intro _hq)))
  (repeat refine gcA ?_)
  (repeat (first | refine gs_LNS ?_ | (refine ga0A ?_; intro _hq)))
  (refine aw_freeze 400 (by rfl) (by rfl) ?_; refine aw_box 128 1 (by rfl) (by rfl) (by first | exact trivial | ((repeat' (first | exact rfl | exact cV_len _ | exact cV_ln rfl (by omega) | exact Cel.pos | omega | exact trivial | refine And.intro ?_ ?_)); first | done | fail)) (by rfl) ?_)
  (repeat (first | refine gq_LNS ?_ | (refine ga0A ?_; intro _hq)))
  (refine rtA ?_; try rfl)
set_option maxHeartbeats 4000000 in
theorem k_lsH1 {n : Int} {l : List Gt} {f w : Int} {A : Nat} {s : List UInt8} (hb : bok n l f w A = true) (hRD : Kon Tryz.prog 43 [vS s] [] (tupD dZ false) [] []) (h0 : (s == wHome) = true) (hA : A ≠ 0) : Kon Tryz.prog 10 [bG n l f w (A : Int), vS s] [] (lnO n l f f ((0 : Nat) : Int) wOk) [] [] := by
  have hnum := bok_nums n l f w A hb
  have hB := k_bvS n l f w A (by omega) (by omega)
  rw [hb] at hB
  have a0 : (((A : Nat) : Int) == 0) = false := by rw [beq_eq_false_iff_ne]; omega
  have hH := k_hdS1 n l f w (A : Int) (by omega) (by omega) (by rw [hb]; simp; omega)
  have hR := kn_brS hb (ds := [hD (A : Int)]) (by simp) (run1 (doR_home hb hA))
  (refine kM Tryz.func10 rfl ?_; intro hfit hfe)
  (repeat refine gcA ?_)
  (repeat (first | refine gs_LNS ?_ | (refine ga0A ?_; intro _hq)))
  (repeat refine gcA ?_)
  (repeat (first | refine gs_LNS ?_ | (refine ga0A ?_; intro _hq)))
  (repeat refine gcA ?_)
  (repeat (first | refine gs_LNS ?_ | (refine ga0A ?_; intro _hq)))
  (repeat refine gcA ?_)
  (repeat (first | refine gs_LNS ?_ | (refine ga0A ?_; intro _hq)))
  (repeat refine gcA ?_)
  (repeat (first | refine gs_LNS ?_ | (refine ga0A ?_; intro _hq)))
  (refine aw_freeze 400 (by rfl) (by rfl) ?_; refine aw_box 128 1 (by rfl) (by rfl) (by first | exact trivial | ((repeat' (first | exact rfl | exact cV_len _ | exact cV_ln rfl (by omega) | exact Cel.pos | omega | exact trivial | refine And.intro ?_ ?_)); first | done | fail)) (by rfl) ?_)
  (repeat (first | refine gq_LNS ?_ | (refine ga0A ?_; intro _hq)))
  (refine aw_draw mixed T0ok cfU_ok [(848, [2, 3]), (176, [7, 8])] (by rfl) (by kernel_rfl) ?_)
  (repeat (first | refine gq_LNS ?_ | (refine ga0A ?_; intro _hq)))
  (refine rtA ?_; try rfl)
set_option maxHeartbeats 4000000 in
theorem k_lsWord {n : Int} {l : List Gt} {f w : Int} {A : Nat} {s : List UInt8} (hb : bok n l f w A = true) (hRD : Kon Tryz.prog 43 [vS s] [] (tupD dZ false) [] []) (h0 : (s == wHome) = false) (h1 : (s == wWord) = true) : Kon Tryz.prog 10 [bG n l f w (A : Int), vS s] [] (lnO n l f w (A : Int) (dx w)) [] [] := by
  have hnum := bok_nums n l f w A hb
  have hB := k_bvS n l f w A (by omega) (by omega)
  rw [hb] at hB
  (refine kM Tryz.func10 rfl ?_; intro hfit hfe)
  (repeat refine gcA ?_)
  (repeat (first | refine gs_LNS ?_ | (refine ga0A ?_; intro _hq)))
  (repeat refine gcA ?_)
  (repeat (first | refine gs_LNS ?_ | (refine ga0A ?_; intro _hq)))
  (repeat refine gcA ?_)
  (repeat (first | refine gs_LNS ?_ | (refine ga0A ?_; intro _hq)))
  (repeat refine gcA ?_)
  (repeat (first | refine gs_LNS ?_ | (refine ga0A ?_; intro _hq)))
  (repeat refine gcA ?_)
  (repeat (first | refine gs_LNS ?_ | (refine ga0A ?_; intro _hq)))
  (refine aw_freeze 400 (by rfl) (by rfl) ?_; refine aw_box 128 1 (by rfl) (by rfl) (by first | exact trivial | ((repeat' (first | exact rfl | exact cV_len _ | exact cV_ln rfl (by omega) | exact Cel.pos | omega | exact trivial | refine And.intro ?_ ?_)); first | done | fail)) (by rfl) ?_)
  (repeat (first | refine gq_LNS ?_ | (refine ga0A ?_; intro _hq)))
  (refine aw_draw mixed T0ok cfU_ok [(64, [4])] (by rfl) (by kernel_rfl) ?_)
  (repeat (first | refine gq_LNS ?_ | (refine ga0A ?_; intro _hq)))
  (refine rtA ?_; try rfl)
set_option maxHeartbeats 4000000 in
theorem k_lsEnd {n : Int} {l : List Gt} {f w : Int} {A : Nat} {s : List UInt8} (hb : bok n l f w A = true) (hRD : Kon Tryz.prog 43 [vS s] [] (tupD dZ false) [] []) (h0 : (s == wHome) = false) (h1 : (s == wWord) = false) (h2 : (s == wEnd) = true) : Kon Tryz.prog 10 [bG n l f w (A : Int), vS s] [] (lnO n l f w (A : Int) (dx (cr l f))) [] [] := by
  have hnum := bok_nums n l f w A hb
  have hB := k_bvS n l f w A (by omega) (by omega)
  rw [hb] at hB
  have hE := k_beS n l f w A (by omega) (by omega)
  rw [beM, hb, if_pos rfl] at hE
  (refine kM Tryz.func10 rfl ?_; intro hfit hfe)
  (repeat refine gcA ?_)
  (repeat (first | refine gs_LNS ?_ | (refine ga0A ?_; intro _hq)))
  (repeat refine gcA ?_)
  (repeat (first | refine gs_LNS ?_ | (refine ga0A ?_; intro _hq)))
  (repeat refine gcA ?_)
  (repeat (first | refine gs_LNS ?_ | (refine ga0A ?_; intro _hq)))
  (repeat refine gcA ?_)
  (repeat (first | refine gs_LNS ?_ | (refine ga0A ?_; intro _hq)))
  (repeat refine gcA ?_)
  (repeat (first | refine gs_LNS ?_ | (refine ga0A ?_; intro _hq)))
  (refine aw_freeze 400 (by rfl) (by rfl) ?_; refine aw_box 128 1 (by rfl) (by rfl) (by first | exact trivial | ((repeat' (first | exact rfl | exact cV_len _ | exact cV_ln rfl (by omega) | exact Cel.pos | omega | exact trivial | refine And.intro ?_ ?_)); first | done | fail)) (by rfl) ?_)
  (repeat (first | refine gq_LNS ?_ | (refine ga0A ?_; intro _hq)))
  (refine aw_draw mixed T0ok cfU_ok [(64, [4])] (by rfl) (by kernel_rfl) ?_)
  (repeat (first | refine gq_LNS ?_ | (refine ga0A ?_; intro _hq)))
  (refine rtA ?_; try rfl)
set_option maxHeartbeats 4000000 in
theorem k_lsAt {n : Int} {l : List Gt} {f w : Int} {A : Nat} {s : List UInt8} (hb : bok n l f w A = true) (hRD : Kon Tryz.prog 43 [vS s] [] (tupD dZ false) [] []) (h0 : (s == wHome) = false) (h1 : (s == wWord) = false) (h2 : (s == wEnd) = false) (h3 : (s == wAt) = true) : Kon Tryz.prog 10 [bG n l f w (A : Int), vS s] [] (lnO n l f w (A : Int) (dx (A : Int) ++ [47] ++ dx (l.length : Int))) [] [] := by
  have hnum := bok_nums n l f w A hb
  have hB := k_bvS n l f w A (by omega) (by omega)
  rw [hb] at hB
  have l1 : (Go.Lib.decDigits (A : Int).toNat).length ≤ 3 := (dd_len (n := (A : Int).toNat) (by omega)).2
  have l2 : (Go.Lib.decDigits (l.length : Int).toNat).length ≤ 3 := (dd_len (n := (l.length : Int).toNat) (by omega)).2
  (refine kM Tryz.func10 rfl ?_; intro hfit hfe)
  (repeat refine gcA ?_)
  (repeat (first | refine gs_LNS ?_ | (refine ga0A ?_; intro _hq)))
  (repeat refine gcA ?_)
  (repeat (first | refine gs_LNS ?_ | (refine ga0A ?_; intro _hq)))
  (repeat refine gcA ?_)
  (repeat (first | refine gs_LNS ?_ | (refine ga0A ?_; intro _hq)))
  (repeat refine gcA ?_)
  (repeat (first | refine gs_LNS ?_ | (refine ga0A ?_; intro _hq)))
  (repeat refine gcA ?_)
  (repeat (first | refine gs_LNS ?_ | (refine ga0A ?_; intro _hq)))
  (refine aw_freeze 400 (by rfl) (by rfl) ?_; refine aw_box 128 1 (by rfl) (by rfl) (by first | exact trivial | ((repeat' (first | exact rfl | exact cV_len _ | exact cV_ln rfl (by omega) | exact Cel.pos | omega | exact trivial | refine And.intro ?_ ?_)); first | done | fail)) (by rfl) ?_)
  (repeat (first | refine gq_LNS ?_ | (refine ga0A ?_; intro _hq)))
  (refine aw_draw mixed T0ok cfU_ok [(64, [10])] (by rfl) (by kernel_rfl) ?_)
  (repeat (first | refine gq_LNS ?_ | (refine ga0A ?_; intro _hq)))
  (refine rtA ?_; try rfl)
set_option maxHeartbeats 4000000 in
theorem k_lsCost {n : Int} {l : List Gt} {f w : Int} {A : Nat} {s : List UInt8} (hb : bok n l f w A = true) (hRD : Kon Tryz.prog 43 [vS s] [] (tupD dZ false) [] []) (h0 : (s == wHome) = false) (h1 : (s == wWord) = false) (h2 : (s == wEnd) = false) (h3 : (s == wAt) = false) (h4 : (s == wCost) = true) : Kon Tryz.prog 10 [bG n l f w (A : Int), vS s] [] (lnO n l f w (A : Int) (dx (coL l))) [] [] := by
  have hnum := bok_nums n l f w A hb
  have hB := k_bvS n l f w A (by omega) (by omega)
  rw [hb] at hB
  have hK := k_costS n l (bok_t hb).1
  have hc := coL_bd l
  (refine kM Tryz.func10 rfl ?_; intro hfit hfe)
  (repeat refine gcA ?_)
  (repeat (first | refine gs_LNS ?_ | (refine ga0A ?_; intro _hq)))
  (repeat refine gcA ?_)
  (repeat (first | refine gs_LNS ?_ | (refine ga0A ?_; intro _hq)))
  (repeat refine gcA ?_)
  (repeat (first | refine gs_LNS ?_ | (refine ga0A ?_; intro _hq)))
  (repeat refine gcA ?_)
  (repeat (first | refine gs_LNS ?_ | (refine ga0A ?_; intro _hq)))
  (repeat refine gcA ?_)
  (repeat (first | refine gs_LNS ?_ | (refine ga0A ?_; intro _hq)))
  (refine aw_freeze 400 (by rfl) (by rfl) ?_; refine aw_box 128 1 (by rfl) (by rfl) (by first | exact trivial | ((repeat' (first | exact rfl | exact cV_len _ | exact cV_ln rfl (by omega) | exact Cel.pos | omega | exact trivial | refine And.intro ?_ ?_)); first | done | fail)) (by rfl) ?_)
  (repeat (first | refine gq_LNS ?_ | (refine ga0A ?_; intro _hq)))
  (refine aw_draw mixed T0ok cfU_ok [(64, [7])] (by rfl) (by kernel_rfl) ?_)
  (repeat (first | refine gq_LNS ?_ | (refine ga0A ?_; intro _hq)))
  (refine rtA ?_; try rfl)
set_option maxHeartbeats 4000000 in
theorem k_lsDep {n : Int} {l : List Gt} {f w : Int} {A : Nat} {s : List UInt8} (hb : bok n l f w A = true) (hRD : Kon Tryz.prog 43 [vS s] [] (tupD dZ false) [] []) (h0 : (s == wHome) = false) (h1 : (s == wWord) = false) (h2 : (s == wEnd) = false) (h3 : (s == wAt) = false) (h4 : (s == wCost) = false) (h5 : (s == wDep) = true) : Kon Tryz.prog 10 [bG n l f w (A : Int), vS s] [] (lnO n l f w (A : Int) (dx (depM (stp bz0 l)))) [] [] := by
  have hnum := bok_nums n l f w A hb
  have hB := k_bvS n l f w A (by omega) (by omega)
  rw [hb] at hB
  have hK := k_depthS n l (bok_t hb).1
  have hc := depM_bd (bok_t hb).1
  (refine kM Tryz.func10 rfl ?_; intro hfit hfe)
  (repeat refine gcA ?_)
  (repeat (first | refine gs_LNS ?_ | (refine ga0A ?_; intro _hq)))
  (repeat refine gcA ?_)
  (repeat (first | refine gs_LNS ?_ | (refine ga0A ?_; intro _hq)))
  (repeat refine gcA ?_)
  (repeat (first | refine gs_LNS ?_ | (refine ga0A ?_; intro _hq)))
  (repeat refine gcA ?_)
  (repeat (first | refine gs_LNS ?_ | (refine ga0A ?_; intro _hq)))
  (repeat refine gcA ?_)
  (repeat (first | refine gs_LNS ?_ | (refine ga0A ?_; intro _hq)))
  (refine aw_freeze 400 (by rfl) (by rfl) ?_; refine aw_box 128 1 (by rfl) (by rfl) (by first | exact trivial | ((repeat' (first | exact rfl | exact cV_len _ | exact cV_ln rfl (by omega) | exact Cel.pos | omega | exact trivial | refine And.intro ?_ ?_)); first | done | fail)) (by rfl) ?_)
  (repeat (first | refine gq_LNS ?_ | (refine ga0A ?_; intro _hq)))
  (refine aw_draw mixed T0ok cfU_ok [(64, [7])] (by rfl) (by kernel_rfl) ?_)
  (repeat (first | refine gq_LNS ?_ | (refine ga0A ?_; intro _hq)))
  (refine rtA ?_; try rfl)
set_option maxHeartbeats 4000000 in
theorem k_lsGat0 {n : Int} {l : List Gt} {f w : Int} {A : Nat} {s : List UInt8} (hb : bok n l f w A = true) (hRD : Kon Tryz.prog 43 [vS s] [] (tupD dZ false) [] []) (h0 : (s == wHome) = false) (h1 : (s == wWord) = false) (h2 : (s == wEnd) = false) (h3 : (s == wAt) = false) (h4 : (s == wCost) = false) (h5 : (s == wDep) = false) (h6 : (s == wGat) = true) (h0l : l.length = 0) : Kon Tryz.prog 10 [bG n l f w (A : Int), vS s] [] (lnO n l f w (A : Int) wNone) [] [] := by
  have hnum := bok_nums n l f w A hb
  have hB := k_bvS n l f w A (by omega) (by omega)
  rw [hb] at hB
  have a0 : ((l.length : Int) == 0) = true := by rw [h0l]; rfl
  (refine kM Tryz.func10 rfl ?_; intro hfit hfe)
  (repeat refine gcA ?_)
  (repeat (first | refine gs_LNS ?_ | (refine ga0A ?_; intro _hq)))
  (repeat refine gcA ?_)
  (repeat (first | refine gs_LNS ?_ | (refine ga0A ?_; intro _hq)))
  (repeat refine gcA ?_)
  (repeat (first | refine gs_LNS ?_ | (refine ga0A ?_; intro _hq)))
  (repeat refine gcA ?_)
  (repeat (first | refine gs_LNS ?_ | (refine ga0A ?_; intro _hq)))
  (repeat refine gcA ?_)
  (repeat (first | refine gs_LNS ?_ | (refine ga0A ?_; intro _hq)))
  (refine aw_freeze 400 (by rfl) (by rfl) ?_; refine aw_box 128 1 (by rfl) (by rfl) (by first | exact trivial | ((repeat' (first | exact rfl | exact cV_len _ | exact cV_ln rfl (by omega) | exact Cel.pos | omega | exact trivial | refine And.intro ?_ ?_)); first | done | fail)) (by rfl) ?_)
  (repeat (first | refine gq_LNS ?_ | (refine ga0A ?_; intro _hq)))
  (refine rtA ?_; try rfl)
set_option maxHeartbeats 4000000 in
theorem k_lsGat1 {n : Int} {l : List Gt} {f w : Int} {A : Nat} {s : List UInt8} (hb : bok n l f w A = true) (hRD : Kon Tryz.prog 43 [vS s] [] (tupD dZ false) [] []) (h0 : (s == wHome) = false) (h1 : (s == wWord) = false) (h2 : (s == wEnd) = false) (h3 : (s == wAt) = false) (h4 : (s == wCost) = false) (h5 : (s == wDep) = false) (h6 : (s == wGat) = true) (h0l : 0 < l.length) : Kon Tryz.prog 10 [bG n l f w (A : Int), vS s] [] (lnO n l f w (A : Int) (gsT l)) [] [] := by
  have hnum := bok_nums n l f w A hb
  have hB := k_bvS n l f w A (by omega) (by omega)
  rw [hb] at hB
  have a0 : ((l.length : Int) == 0) = false := by rw [beq_eq_false_iff_ne]; omega
  have hjs : ∀ k, 1 ≤ k → k < l.length → Go.Lib.join ((l.take (k + 1)).map gtx) [44] = Go.Lib.join ((l.take k).map gtx) [44] ++ [44] ++ gtx (l.getD k Cel.no) := fun k h1 h2 => by
    have e : (l.take (k + 1)).map gtx = (l.take k).map gtx ++ [gtx (l.getD k Cel.no)] := by
      rw [List.take_succ_eq_append_getElem h2, List.map_append]
      simp [List.getD_eq_getElem?_getD, h2]
    rw [e]
    refine join_snoc _ _ _ ?_
    intro hn
    have := congrArg List.length hn
    rw [List.length_map, List.length_take, List.length_nil] at this
    omega
  have hj1 : Go.Lib.join ((l.take 1).map gtx) [44] = gtx (l.getD 0 Cel.no) := by
    have e : l.take 1 = [l.getD 0 Cel.no] := by
      have := List.take_succ_eq_append_getElem (l := l) (i := 0) (by omega)
      rw [this]
      simp [List.getD_eq_getElem?_getD, h0l]
    rw [e]
    exact Go.Lib.join_one _ _
  have hjl : ∀ k, (Go.Lib.join ((l.take k).map gtx) [44]).length ≤ 300 := fun k => gsT_len (l.take k) (by rw [List.length_take]; omega)
  have hgl := fun k : Nat => gtx_len (l.getD k Cel.no)
  (refine kM Tryz.func10 rfl ?_; intro hfit hfe)
  (repeat refine gcA ?_)
  (repeat (first | refine gs_LNS ?_ | (refine ga0A ?_; intro _hq)))
  (repeat refine gcA ?_)
  (repeat (first | refine gs_LNS ?_ | (refine ga0A ?_; intro _hq)))
  (repeat refine gcA ?_)
  (repeat (first | refine gs_LNS ?_ | (refine ga0A ?_; intro _hq)))
  (repeat refine gcA ?_)
  (repeat (first | refine gs_LNS ?_ | (refine ga0A ?_; intro _hq)))
  (repeat refine gcA ?_)
  (repeat (first | refine gs_LNS ?_ | (refine ga0A ?_; intro _hq)))
  (refine aw_freeze 400 (by rfl) (by rfl) ?_; refine aw_box 128 1 (by rfl) (by rfl) (by first | exact trivial | ((repeat' (first | exact rfl | exact cV_len _ | exact cV_ln rfl (by omega) | exact Cel.pos | omega | exact trivial | refine And.intro ?_ ?_)); first | done | fail)) (by rfl) ?_)
  (repeat (first | refine gq_LNS ?_ | (refine ga0A ?_; intro _hq)))
  refine aw_rd [2, 4, 8] [32, 64, 128] (fun k : Nat => [(13, vS (Go.Lib.join ((l.take k).map gtx) [44])), (14, vI k)]) (fun _ => []) (fun k => 1 ≤ k ∧ k ≤ l.length) (fun k => l.length - k) 1 (by rfl) (by rfl) ?_ (by rfl) ⟨Eq.trans (b := some (vS (gtx (l.getD (0 : Int).toNat Cel.no)))) (by rfl) (congrArg (fun x => some (vS x)) hj1.symm), zHE⟩ zHE ?_
  · exact ⟨Nat.le_refl _, h0l⟩
  rintro k ⟨hk1, hk⟩
  rcases Nat.lt_or_ge k l.length with h5 | h5
  · have hd : decide ((k : Int) < (l.length : Int)) = true := by simpa using h5
    have e1 := hjs k hk1 h5
    have e2 := hjl k
    have e3 : (gtx (l.getD (k : Int).toNat Cel.no)).length ≤ 10 := hgl k
    have hinv : 1 ≤ k + 1 ∧ k + 1 ≤ l.length := ⟨by omega, h5⟩
    clear hjs hjl hgl hj1
    (repeat (first | refine gq_LNS ?_ | (refine ga0A ?_; intro _hq)))
    exact ⟨k + 1, hinv, ⟨by rfl, ⟨Eq.trans (b := some (vS (Go.Lib.join ((l.take k).map gtx) [44] ++ [44] ++ gtx (l.getD (k : Int).toNat Cel.no)))) (by rfl) (congrArg (fun x => some (vS x)) e1.symm), ⟨vI_of (by rfl) (by omega), zHE⟩⟩, zHE⟩, (by first | omega | (dsimp only; omega))⟩
  · have hd : decide ((k : Int) < (l.length : Int)) = false := by simp; omega
    obtain rfl : k = l.length := by omega
    have e : gsT l = Go.Lib.join ((l.take l.length).map gtx) [44] := by unfold gsT; rw [if_neg (by omega), List.take_length]
    rw [e]
    clear hjs hjl hgl hj1
    (repeat (first | refine gq_LNS ?_ | (refine ga0A ?_; intro _hq)))
    (refine rtA ?_; try rfl)
set_option maxHeartbeats 4000000 in
theorem k_lsOdd {n : Int} {l : List Gt} {f w : Int} {A : Nat} {s : List UInt8} (hb : bok n l f w A = true) (hRD : Kon Tryz.prog 43 [vS s] [] (tupD dZ false) [] []) (h0 : (s == wHome) = false) (h1 : (s == wWord) = false) (h2 : (s == wEnd) = false) (h3 : (s == wAt) = false) (h4 : (s == wCost) = false) (h5 : (s == wDep) = false) (h6 : (s == wGat) = false) (h7 : (s == wOdd) = true) : Kon Tryz.prog 10 [bG n l f w (A : Int), vS s] [] (lnO n l f w (A : Int) (oddT n l)) [] [] := by
  have hnum := bok_nums n l f w A hb
  have hB := k_bvS n l f w A (by omega) (by omega)
  rw [hb] at hB
  have hc := (bok_t hb).1
  obtain ⟨N, hN, hN8⟩ : ∃ N : Nat, (1 * 2 ^ n.toNat : Int) = (N : Int) ∧ N ≤ 256 := ⟨2 ^ n.toNat, by simp, by
    have := (pow_8 hnum.1).2
    have e : ((2 ^ n.toNat : Nat) : Int) = 2 ^ n.toNat := by simp
    omega⟩
  have hN2 : (2 : Int) ^ n.toNat = (N : Int) := by rw [← hN, Int.one_mul]
  have hT := k_ctS n l hc N hN
  have hTl := tabN_len l N
  have hO := k_toS n (tabN l N) (by omega) (by omega)
  unfold oddT
  rw [pow_N hN2]
  generalize toB n (tabN l N) = b at hO ⊢
  generalize tabN l N = T at *
  cases b with
  | true =>
    rw [if_pos rfl]
    (refine kM Tryz.func10 rfl ?_; intro hfit hfe)
    (repeat refine gcA ?_)
    (repeat (first | refine gs_LNS ?_ | (refine ga0A ?_; intro _hq)))
    (repeat refine gcA ?_)
    (repeat (first | refine gs_LNS ?_ | (refine ga0A ?_; intro _hq)))
    (repeat refine gcA ?_)
    (repeat (first | refine gs_LNS ?_ | (refine ga0A ?_; intro _hq)))
    (repeat refine gcA ?_)
    (repeat (first | refine gs_LNS ?_ | (refine ga0A ?_; intro _hq)))
    (repeat refine gcA ?_)
    (repeat (first | refine gs_LNS ?_ | (refine ga0A ?_; intro _hq)))
    (refine aw_freeze 400 (by rfl) (by rfl) ?_; refine aw_box 128 1 (by rfl) (by rfl) (by first | exact trivial | ((repeat' (first | exact rfl | exact cV_len _ | exact cV_ln rfl (by omega) | exact Cel.pos | omega | exact trivial | refine And.intro ?_ ?_)); first | done | fail)) (by rfl) ?_)
    (repeat (first | refine gq_LNS ?_ | (refine ga0A ?_; intro _hq)))
    (refine aw_draw mixed T0ok cfU_ok [(2416, [9, 10])] (by rfl) (by kernel_rfl) ?_)
    (repeat (first | refine gq_LNS ?_ | (refine ga0A ?_; intro _hq)))
    (refine rtA ?_; try rfl)
  | false =>
    rw [if_neg (by decide)]
    (refine kM Tryz.func10 rfl ?_; intro hfit hfe)
    (repeat refine gcA ?_)
    (repeat (first | refine gs_LNS ?_ | (refine ga0A ?_; intro _hq)))
    (repeat refine gcA ?_)
    (repeat (first | refine gs_LNS ?_ | (refine ga0A ?_; intro _hq)))
    (repeat refine gcA ?_)
    (repeat (first | refine gs_LNS ?_ | (refine ga0A ?_; intro _hq)))
    (repeat refine gcA ?_)
    (repeat (first | refine gs_LNS ?_ | (refine ga0A ?_; intro _hq)))
    (repeat refine gcA ?_)
    (repeat (first | refine gs_LNS ?_ | (refine ga0A ?_; intro _hq)))
    (refine aw_freeze 400 (by rfl) (by rfl) ?_; refine aw_box 128 1 (by rfl) (by rfl) (by first | exact trivial | ((repeat' (first | exact rfl | exact cV_len _ | exact cV_ln rfl (by omega) | exact Cel.pos | omega | exact trivial | refine And.intro ?_ ?_)); first | done | fail)) (by rfl) ?_)
    (repeat (first | refine gq_LNS ?_ | (refine ga0A ?_; intro _hq)))
    (refine aw_draw mixed T0ok cfU_ok [(2416, [9, 10])] (by rfl) (by kernel_rfl) ?_)
    (repeat (first | refine gq_LNS ?_ | (refine ga0A ?_; intro _hq)))
    (refine rtA ?_; try rfl)
set_option maxHeartbeats 4000000 in
theorem k_lsWhat {n : Int} {l : List Gt} {f w : Int} {A : Nat} {s : List UInt8} (hb : bok n l f w A = true) (hRD : Kon Tryz.prog 43 [vS s] [] (tupD dZ false) [] []) (h0 : (s == wHome) = false) (h1 : (s == wWord) = false) (h2 : (s == wEnd) = false) (h3 : (s == wAt) = false) (h4 : (s == wCost) = false) (h5 : (s == wDep) = false) (h6 : (s == wGat) = false) (h7 : (s == wOdd) = false) : Kon Tryz.prog 10 [bG n l f w (A : Int), vS s] [] (lnO n l f w (A : Int) wWhat) [] [] := by
  have hnum := bok_nums n l f w A hb
  have hB := k_bvS n l f w A (by omega) (by omega)
  rw [hb] at hB
  (refine kM Tryz.func10 rfl ?_; intro hfit hfe)
  (repeat refine gcA ?_)
  (repeat (first | refine gs_LNS ?_ | (refine ga0A ?_; intro _hq)))
  (repeat refine gcA ?_)
  (repeat (first | refine gs_LNS ?_ | (refine ga0A ?_; intro _hq)))
  (repeat refine gcA ?_)
  (repeat (first | refine gs_LNS ?_ | (refine ga0A ?_; intro _hq)))
  (repeat refine gcA ?_)
  (repeat (first | refine gs_LNS ?_ | (refine ga0A ?_; intro _hq)))
  (repeat refine gcA ?_)
  (repeat (first | refine gs_LNS ?_ | (refine ga0A ?_; intro _hq)))
  (refine aw_freeze 400 (by rfl) (by rfl) ?_; refine aw_box 128 1 (by rfl) (by rfl) (by first | exact trivial | ((repeat' (first | exact rfl | exact cV_len _ | exact cV_ln rfl (by omega) | exact Cel.pos | omega | exact trivial | refine And.intro ?_ ?_)); first | done | fail)) (by rfl) ?_)
  (repeat (first | refine gq_LNS ?_ | (refine ga0A ?_; intro _hq)))
  (refine aw_draw mixed T0ok cfU_ok [] (by rfl) (by kernel_rfl) ?_)
  (repeat (first | refine gq_LNS ?_ | (refine ga0A ?_; intro _hq)))
  (refine rtA ?_; try rfl)
theorem kn_lineS {n : Int} {l l' : List Gt} {f w w' : Int} {A A' : Nat} {s a : List UInt8} (hb : bok n l f w A = true) (hs : s.length ≤ 7000000) (hL : lnF n f l w A s = ((l', w', A'), a)) :
    Kon Tryz.prog 10 [bG n l f w (A : Int), vS s] [] (lnO n l' f w' (A' : Int) a) [] [] := by
  obtain ⟨d, b, hRD, hRS, _⟩ := rd_ex s hs
  have hd := rdF_eq hRD
  unfold lnF at hL
  rw [hd] at hL
  have out : ∀ {x : (List Gt × Int × Nat) × List UInt8}, x = ((l', w', A'), a) → l' = x.1.1 ∧ w' = x.1.2.1 ∧ A' = x.1.2.2 ∧ a = x.2 := fun h => by subst h; exact ⟨rfl, rfl, rfl, rfl⟩
  cases b with
  | true =>
    rw [if_pos rfl] at hL
    dsimp only at hL
    rcases hR : doR n l w A d with ⟨⟨l2, w2, A2⟩, ok⟩
    rw [hR] at hL
    obtain ⟨rfl, rfl, rfl, rfl⟩ := out hL
    exact k_lsD hb hRS hR
  | false =>
    obtain rfl := rdd_dZ hRD
    rw [if_neg (by decide)] at hL
    cases h0 : (s == wHome) with
    | true =>
      rw [h0, if_pos rfl] at hL
      by_cases hA : A = 0
      · rw [if_pos hA] at hL
        obtain ⟨rfl, rfl, rfl, rfl⟩ := out hL
        exact k_lsH0 hb hRS h0 hA
      · rw [if_neg hA, doR_home hb hA] at hL
        obtain ⟨rfl, rfl, rfl, rfl⟩ := out hL
        exact k_lsH1 hb hRS h0 hA
    | false =>
      rw [h0, if_neg (by decide)] at hL
      obtain ⟨e1, e2, e3, e4⟩ := out hL
      dsimp only at e1 e2 e3 e4
      obtain rfl : l = l' := e1.symm
      obtain rfl : w = w' := e2.symm
      obtain rfl : A = A' := e3.symm
      subst e4
      unfold ansT
      cases h1 : (s == wWord) with
      | true =>
        rw [if_pos rfl]
        exact k_lsWord hb hRS h0 h1
      | false =>
      rw [if_neg (by decide)]
      cases h2 : (s == wEnd) with
      | true =>
        rw [if_pos rfl]
        exact k_lsEnd hb hRS h0 h1 h2
      | false =>
      rw [if_neg (by decide)]
      cases h3 : (s == wAt) with
      | true =>
        rw [if_pos rfl]
        exact k_lsAt hb hRS h0 h1 h2 h3
      | false =>
      rw [if_neg (by decide)]
      cases h4 : (s == wCost) with
      | true =>
        rw [if_pos rfl]
        exact k_lsCost hb hRS h0 h1 h2 h3 h4
      | false =>
      rw [if_neg (by decide)]
      cases h5 : (s == wDep) with
      | true =>
        rw [if_pos rfl]
        exact k_lsDep hb hRS h0 h1 h2 h3 h4 h5
      | false =>
      rw [if_neg (by decide)]
      cases h6 : (s == wGat) with
      | true =>
        rw [if_pos rfl]
        rcases Nat.eq_zero_or_pos l.length with hl | hl
        · have e : gsT l = wNone := by unfold gsT; rw [if_pos hl]
          rw [e]; exact k_lsGat0 hb hRS h0 h1 h2 h3 h4 h5 h6 hl
        · exact k_lsGat1 hb hRS h0 h1 h2 h3 h4 h5 h6 hl
      | false =>
      rw [if_neg (by decide)]
      cases h7 : (s == wOdd) with
      | true =>
        rw [if_pos rfl]
        exact k_lsOdd hb hRS h0 h1 h2 h3 h4 h5 h6 h7
      | false =>
      rw [if_neg (by decide)]
      exact k_lsWhat hb hRS h0 h1 h2 h3 h4 h5 h6 h7
end Go.Proofs.YtnenhckongccgaaGreatDoor
