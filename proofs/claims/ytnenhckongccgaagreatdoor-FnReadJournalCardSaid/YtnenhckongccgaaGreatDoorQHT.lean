/- KMI: laid into one text. -/
import Derived.Test.YtnenhckongccgaaGreatDoorQHS

namespace Go.Proofs.YtnenhckongccgaaGreatDoor
set_option linter.unusedVariables false
set_option linter.unusedSimpArgs false
set_option maxRecDepth 20000
open Go.RowKit
attribute [local irreducible] runA runX AW
def wsTI : WsT := (121, ([], true)) :: (64, ([], true)) :: (92, ([], true)) :: (120, ([], true)) :: wsT
theorem gq_KMI {H G : Prop} (k : H) (h : Hid H → G := by (intro hh; repeat1' (first | (first | (refine nxA ?_; (first | fail | ((first | (refine z_op (by rfl) ?_; first | refine z_ok ?_ ?_ | refine z_ex ?_ (by first | exact zL1 | ((first | fail); exact zWW) | exact zL2 | exact rw_c Gt rfl | exact zL3 | (first | exact pu_of (fun w => eq_deed _ _ _ _ _ _ _ _ _ _ _ _ _ _ w) rfl)) ?_) | ((first | refine q_callE wsTI wsZ (by rfl) ?_ | refine q_callVE wsTI (by rfl) (by rfl) ?_); refine ⟨_, _, _, (by first | assumption | exact k_ahead _ _ _ _ _ (by omega) (by omega) | exact k_behindB _ _ _ _ _ (by omega)), _, by rfl, ?_, ?_⟩)); focus (first | exact trivial | fail | exact zQZ)) | fail)) | refine swA ?_) | refine awA ?_); exact hh.out)) : G := h ⟨k⟩
theorem gs_KMI {H G : Prop} (k : H) (h : Hid H → G := by (intro hh; repeat1' (first | (refine nxA ?_; (first | fail | ((first | (refine z_op (by rfl) ?_; first | refine z_ok ?_ ?_ | refine z_ex ?_ (by first | exact zL1 | ((first | fail); exact zWW) | exact zL2 | exact rw_c Gt rfl | exact zL3 | (first | exact pu_of (fun w => eq_deed _ _ _ _ _ _ _ _ _ _ _ _ _ _ w) rfl)) ?_) | ((first | refine q_callE wsTI wsZ (by rfl) ?_ | refine q_callVE wsTI (by rfl) (by rfl) ?_); refine ⟨_, _, _, (by first | assumption | exact k_ahead _ _ _ _ _ (by omega) (by omega) | exact k_behindB _ _ _ _ _ (by omega)), _, by rfl, ?_, ?_⟩)); focus (first | exact trivial | fail | exact zQZ)) | fail)) | refine swA ?_); exact hh.out)) : G := h ⟨k⟩
theorem k_doG (n : Int) (l : List Gt) (f w a : Int) (d : Dd) (f2 w2 a2 : Int) (ok : Bool) (hk : d.k = 0 ∨ d.k = 1) (hG : Kon Tryz.prog 120 [bG n l f w a, dV d] [] (bR n l f2 w2 a2 ok) [] []) : Kon Tryz.prog 82 [bG n l f w a, dV d] [] (bR n l f2 w2 a2 ok) [] [] := by
  obtain ⟨k, m, p⟩ := d
  dsimp only at hk
  rcases hk with rfl | rfl
  · (refine kM Tryz.func82 rfl ?_; intro hfit hfe)
    (repeat (first | refine gq_KMI ?_ | (refine ga1A ?_; intro _q ⟨_he, _hq⟩)))
    (refine rtA ?_; try rfl)
  · (refine kM Tryz.func82 rfl ?_; intro hfit hfe)
    (repeat (first | refine gq_KMI ?_ | (refine ga1A ?_; intro _q ⟨_he, _hq⟩)))
    (refine rtA ?_; try rfl)
set_option maxHeartbeats 2000000 in
theorem k_doP (n : Int) (l : List Gt) (f w : Int) (A : Nat) (p : Gt) (hl : l.length < 24) (h : bok n l f w A = true) (hp : gok n p = true) : Kon Tryz.prog 82 [bG n l f w (A : Int), dV ⟨2, 0, p⟩] [] (bR n (l.take A ++ (p :: l.drop A)) f w (A : Int) true) [] [] := by
  obtain ⟨hc, hf, hA, hwe⟩ := bok_t h
  obtain ⟨hn, hl24, ha⟩ := cokB_t hc
  have hG := k_gv n p
  rw [hp] at hG
  have hd : ((l.length : Int) == 24) = false := by rw [beq_eq_false_iff_ne]; omega
  have hW := k_withO n l f w (A : Int) (l.take A) ([p] ++ l.drop A) (by rw [List.length_take]; omega) (by rw [List.length_append, List.length_drop]; simp; omega)
  rw [show (l.take A).length = A by rw [List.length_take]; omega] at hW
  have hX : (l.take A ++ ([p] ++ l.drop A)).length = l.length + 1 := by simp only [List.length_append, List.length_take, List.length_drop, List.length_cons, List.length_nil]; omega
  (refine kM Tryz.func82 rfl ?_; intro hfit hfe)
  (repeat (first | refine gq_KMI ?_ | (refine ga1A ?_; intro _q ⟨_he, _hq⟩)))
  (refine aw_draw mixed T0ok cfU_ok [(768, [5, 8, 9]), (832, [9, 10]), (64, [10])] (by rfl) (by kernel_rfl) ?_)
  (repeat (first | refine gs_KMI ?_ | (refine ga1A ?_; intro _q ⟨_he, _hq⟩)))
  (refine aw_freeze 832 (by rfl) (by rfl) ?_; refine aw_box 64 1 (by rfl) (by rfl) (by first | exact trivial | ((repeat' (first | exact rfl | exact cV_len _ | exact cV_ln rfl (by omega) | exact Cel.pos | omega | exact trivial | refine And.intro ?_ ?_)); first | done | fail)) (by rfl) ?_)
  (repeat (first | refine gq_KMI ?_ | (refine ga1A ?_; intro _q ⟨_he, _hq⟩)))
  (refine rtA ?_; try rfl)
set_option maxHeartbeats 2000000 in
theorem k_doPf (n : Int) (l : List Gt) (f w : Int) (A : Nat) (m : Int) (p : Gt) (h : bok n l f w A = true) (hp : m ≠ 0 ∨ gok n p = false ∨ 24 ≤ l.length) : Kon Tryz.prog 82 [bG n l f w (A : Int), dV ⟨2, m, p⟩] [] (bR n l f w (A : Int) false) [] [] := by
  obtain ⟨hc, hf, hA, hwe⟩ := bok_t h
  obtain ⟨hn, hl24, ha⟩ := cokB_t hc
  have hG := k_gv n p
  cases hm : (m != 0) with
  | true =>
    (refine kM Tryz.func82 rfl ?_; intro hfit hfe)
    (repeat (first | refine gq_KMI ?_ | (refine ga1A ?_; intro _q ⟨_he, _hq⟩)))
    (refine rtA ?_; try rfl)
  | false =>
    have hm0 : m = 0 := by simpa using hm
    cases hg : gok n p with
    | false =>
      rw [hg] at hG
      (refine kM Tryz.func82 rfl ?_; intro hfit hfe)
      (repeat (first | refine gq_KMI ?_ | (refine ga1A ?_; intro _q ⟨_he, _hq⟩)))
      (refine rtA ?_; try rfl)
    | true =>
      rw [hg] at hG
      have hd : ((l.length : Int) == 24) = true := by
        rw [beq_iff_eq]
        rcases hp with hp | hp | hp
        · exact absurd hm0 hp
        · rw [hg] at hp; cases hp
        · omega
      (refine kM Tryz.func82 rfl ?_; intro hfit hfe)
      (repeat (first | refine gq_KMI ?_ | (refine ga1A ?_; intro _q ⟨_he, _hq⟩)))
      (refine rtA ?_; try rfl)
set_option maxHeartbeats 2000000 in
theorem k_doT (n : Int) (l : List Gt) (f w : Int) (A : Nat) (hA : A < l.length) (h : bok n l f w A = true) : Kon Tryz.prog 82 [bG n l f w (A : Int), dV ⟨3, 0, gZ⟩] [] (bR n (l.take A ++ l.drop (A + 1)) f w (A : Int) true) [] [] := by
  obtain ⟨hc, hf, hAl, hwe⟩ := bok_t h
  obtain ⟨hn, hl24, ha⟩ := cokB_t hc
  have hdl : (l.drop A).length = l.length - A := List.length_drop
  have hd : (((l.drop A).length : Int) == 0) = false := by rw [beq_eq_false_iff_ne]; omega
  have hW := k_withO n l f w (A : Int) (l.take A) ((l.drop A).drop 1) (by rw [List.length_take]; omega) (by rw [List.length_drop, List.length_drop]; omega)
  rw [show (l.take A).length = A by rw [List.length_take]; omega, List.drop_drop] at hW
  have hX : (l.take A ++ l.drop (A + 1)).length = l.length - 1 := by simp only [List.length_append, List.length_take, List.length_drop]; omega
  rw [← List.drop_drop] at hW
  (refine kM Tryz.func82 rfl ?_; intro hfit hfe)
  (repeat (first | refine gq_KMI ?_ | (refine ga1A ?_; intro _q ⟨_he, _hq⟩)))
  (refine aw_draw mixed T0ok cfU_ok [(1120, [6, 7]), (64, [7])] (by rfl) (by kernel_rfl) ?_)
  (repeat (first | refine gs_KMI ?_ | (refine ga1A ?_; intro _q ⟨_he, _hq⟩)))
  (refine aw_freeze 1120 (by rfl) (by rfl) ?_; refine aw_box 64 1 (by rfl) (by rfl) (by first | exact trivial | ((repeat' (first | exact rfl | exact cV_len _ | exact cV_ln rfl (by omega) | exact Cel.pos | omega | exact trivial | refine And.intro ?_ ?_)); first | done | fail)) (by rfl) ?_)
  (repeat (first | refine gq_KMI ?_ | (refine ga1A ?_; intro _q ⟨_he, _hq⟩)))
  (refine rtA ?_; try rfl)
  all_goals (first | done | (rw [List.drop_drop]; rfl))
theorem k_doTf (n : Int) (l : List Gt) (f w : Int) (A : Nat) (m : Int) (p : Gt) (h : bok n l f w A = true) (hp : nmD ⟨3, m, p⟩ = false ∨ l.length ≤ A) : Kon Tryz.prog 82 [bG n l f w (A : Int), dV ⟨3, m, p⟩] [] (bR n l f w (A : Int) false) [] [] := by
  obtain ⟨hc, hf, hAl, hwe⟩ := bok_t h
  obtain ⟨hn, hl24, ha⟩ := cokB_t hc
  have hdl : (l.drop A).length = l.length - A := List.length_drop
  cases hm : (m == 0 && (p.k == 0 && (p.a == 0 && (p.b == 0 && p.c == 0)))) with
  | false =>
    (refine kM Tryz.func82 rfl ?_; intro hfit hfe)
    (repeat (first | refine gq_KMI ?_ | (refine ga1A ?_; intro _q ⟨_he, _hq⟩)))
    (refine rtA ?_; try rfl)
  | true =>
    have hd : (((l.drop A).length : Int) == 0) = true := by
      rw [beq_iff_eq]
      rcases hp with hp | hp
      · have e : nmD ⟨3, m, p⟩ = (m == 0 && (p.k == 0 && (p.a == 0 && (p.b == 0 && p.c == 0)))) := by simp [nmD]
        rw [e, hm] at hp; cases hp
      · omega
    (refine kM Tryz.func82 rfl ?_; intro hfit hfe)
    (repeat (first | refine gq_KMI ?_ | (refine ga1A ?_; intro _q ⟨_he, _hq⟩)))
    (refine rtA ?_; try rfl)
theorem k_doN (n : Int) (l : List Gt) (f w a : Int) (d : Dd) (hk : d.k < 0 ∨ 4 < d.k) : Kon Tryz.prog 82 [bG n l f w a, dV d] [] (bR n l f w a false) [] [] := by
  obtain ⟨k, m, p⟩ := d
  dsimp only at hk
  have h0 : (k == 0) = false := by rw [beq_eq_false_iff_ne]; omega
  have h1 : (k == 1) = false := by rw [beq_eq_false_iff_ne]; omega
  have h2 : (k == 2) = false := by rw [beq_eq_false_iff_ne]; omega
  have h3 : (k == 3) = false := by rw [beq_eq_false_iff_ne]; omega
  have h4 : (k == 4) = false := by rw [beq_eq_false_iff_ne]; omega
  (refine kM Tryz.func82 rfl ?_; intro hfit hfe)
  (repeat (first | refine gq_KMI ?_ | (refine ga1A ?_; intro _q ⟨_he, _hq⟩)))
  (refine rtA ?_; try rfl)
set_option maxHeartbeats 2000000 in
theorem k_doS (n : Int) (l : List Gt) (f w : Int) (A : Nat) (m : Int) (p : Gt) (B C : List Gt) (h : bok n l f w A = true) (hBs : Kon Tryz.prog 121 [roA (l.take A)] [] (roA B) [] []) (hCs : Kon Tryz.prog 121 [roA (l.drop A)] [] (roA C) [] []) (hBC : B.length ≤ 24 ∧ C.length ≤ 24)
    (hb : nmD ⟨4, m, p⟩ = true) (hne : B.length + C.length ≠ l.length) : Kon Tryz.prog 82 [bG n l f w (A : Int), dV ⟨4, m, p⟩] [] (bR n (B ++ C) f w (B.length : Int) true) [] [] := by
  obtain ⟨hc, hf, hAl, hwe⟩ := bok_t h
  obtain ⟨hn, hl24, ha⟩ := cokB_t hc
  have hm : (m == 0 && (p.k == 0 && (p.a == 0 && (p.b == 0 && p.c == 0)))) = true := by
    have e : nmD ⟨4, m, p⟩ = (m == 0 && (p.k == 0 && (p.a == 0 && (p.b == 0 && p.c == 0)))) := by simp [nmD]
    rw [← e]; exact hb
  have hW := k_withO n l f w (A : Int) B C (by omega) (by omega)
  have hX : (B ++ C).length = B.length + C.length := List.length_append
  have hd : (((B ++ C).length : Int) == (l.length : Int)) = false := by rw [beq_eq_false_iff_ne]; omega
  (refine kM Tryz.func82 rfl ?_; intro hfit hfe)
  (repeat (first | refine gq_KMI ?_ | (refine ga1A ?_; intro _q ⟨_he, _hq⟩)))
  (refine aw_draw mixed T0ok cfU_ok [(1280, [7, 9]), (112, [8, 9])] (by rfl) (by kernel_rfl) ?_)
  (repeat (first | refine gs_KMI ?_ | (refine ga1A ?_; intro _q ⟨_he, _hq⟩)))
  (refine aw_freeze 1280 (by rfl) (by rfl) ?_; refine aw_box 112 1 (by rfl) (by rfl) (by first | exact trivial | ((repeat' (first | exact rfl | exact cV_len _ | exact cV_ln rfl (by omega) | exact Cel.pos | omega | exact trivial | refine And.intro ?_ ?_)); first | done | fail)) (by rfl) ?_)
  (repeat (first | refine gq_KMI ?_ | (refine ga1A ?_; intro _q ⟨_he, _hq⟩)))
  (refine rtA ?_; try rfl)
set_option maxHeartbeats 2000000 in
theorem k_doSf (n : Int) (l : List Gt) (f w : Int) (A : Nat) (m : Int) (p : Gt) (B C : List Gt) (h : bok n l f w A = true) (hBs : Kon Tryz.prog 121 [roA (l.take A)] [] (roA B) [] []) (hCs : Kon Tryz.prog 121 [roA (l.drop A)] [] (roA C) [] []) (hBC : B.length ≤ 24 ∧ C.length ≤ 24)
    (hb : nmD ⟨4, m, p⟩ = false ∨ B.length + C.length = l.length) : Kon Tryz.prog 82 [bG n l f w (A : Int), dV ⟨4, m, p⟩] [] (bR n l f w (A : Int) false) [] [] := by
  obtain ⟨hc, hf, hAl, hwe⟩ := bok_t h
  obtain ⟨hn, hl24, ha⟩ := cokB_t hc
  have hW := k_withO n l f w (A : Int) B C (by omega) (by omega)
  have hX : (B ++ C).length = B.length + C.length := List.length_append
  cases hm : (m == 0 && (p.k == 0 && (p.a == 0 && (p.b == 0 && p.c == 0)))) with
  | false =>
    (refine kM Tryz.func82 rfl ?_; intro hfit hfe)
    (repeat (first | refine gq_KMI ?_ | (refine ga1A ?_; intro _q ⟨_he, _hq⟩)))
    (refine aw_draw mixed T0ok cfU_ok [(1280, [7, 9]), (112, [8, 9])] (by rfl) (by kernel_rfl) ?_)
    (repeat (first | refine gq_KMI ?_ | (refine ga1A ?_; intro _q ⟨_he, _hq⟩)))
    (refine rtA ?_; try rfl)
  | true =>
    have hd : (((B ++ C).length : Int) == (l.length : Int)) = true := by
      rw [beq_iff_eq]
      rcases hb with hp | hp
      · have e : nmD ⟨4, m, p⟩ = (m == 0 && (p.k == 0 && (p.a == 0 && (p.b == 0 && p.c == 0)))) := by simp [nmD]
        rw [e, hm] at hp; cases hp
      · omega
    (refine kM Tryz.func82 rfl ?_; intro hfit hfe)
    (repeat (first | refine gq_KMI ?_ | (refine ga1A ?_; intro _q ⟨_he, _hq⟩)))
    (refine aw_draw mixed T0ok cfU_ok [(1280, [7, 9]), (112, [8, 9])] (by rfl) (by kernel_rfl) ?_)
    (repeat (first | refine gq_KMI ?_ | (refine ga1A ?_; intro _q ⟨_he, _hq⟩)))
    (refine rtA ?_; try rfl)
end Go.Proofs.YtnenhckongccgaaGreatDoor
