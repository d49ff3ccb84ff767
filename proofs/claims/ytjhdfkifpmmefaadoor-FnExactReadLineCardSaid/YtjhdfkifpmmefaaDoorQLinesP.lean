/- LQ: laid into one text. -/
import Derived.Test.YtjhdfkifpmmefaaDoorQLinesL

/- ReadLine of the program, kind by kind (4, 5, 7). -/
namespace Go.Proofs.YtjhdfkifpmmefaaDoor
set_option linter.unusedVariables false
set_option linter.unusedSimpArgs false
set_option maxRecDepth 20000
open Go.RowKit
attribute [local irreducible] runA runX AW
theorem gq_LQ {H G : Prop} (k : H) (h : Hid H → G := by (intro hh; (first | (first | ((first | refine r_none ?_ | refine r_gt (by rfl) (by rfl) (by first | rfl | assumption | omega | (simp only [*, Bool.not_false, Bool.not_true]; first | done | fail) | (simp [*]; first | done | fail)) (by rfl) ?_ | refine r_gf (by rfl) (by rfl) (by first | rfl | assumption | omega | (simp only [*, Bool.not_false, Bool.not_true]; first | done | fail) | (simp [*]; first | done | fail)) (by rfl) ?_); (first | (first | refine r_sh0 (by rfl) (by rfl) (by rfl) ?_ | refine r_sh1 (by rfl) (by rfl) (by rfl) ?_ | refine r_sh2 (by rfl) (by rfl) (by rfl) ?_ | refine r_sh3 (by rfl) (by rfl) (by rfl) ?_ | refine r_sh4 (by rfl) (by rfl) (by rfl) ?_ | refine r_sh5 (by rfl) (by rfl) (by rfl) ?_ | refine r_sh6 (by rfl) (by rfl) (by rfl) ?_ | refine r_sh7 (by rfl) (by rfl) (by rfl) ?_ | refine r_sh8 (by rfl) (by rfl) (by rfl) ?_ | refine r_seq (by rfl) (by rfl) (by rfl) ?_ | refine r_sne (by rfl) (by rfl) (by rfl) ?_ | refine r_ercmp (by rfl) (fun _ _ _ => rfl) (by rfl) (by rfl) ?_ | refine r_idxAgg (by rfl) (by rfl) (by rfl) (by rfl) (by rfl) (by rfl) (by decide) (by rfl) ?_) | ((first | (refine z_op (by rfl) ?_; first | refine z_ok ?_ ?_ | refine z_ex ?_ (by first | exact ft_raw rfl rfl | ((first | refine ft_rp rfl rfl rfl ?_ | refine ft_row rfl rfl rfl ?_ | refine ft_rpF rfl rfl rfl ?_ | refine ft_rowF rfl rfl rfl ?_ | refine up_row rfl rfl ?_ | refine up_rowF rfl rfl rfl ?_ | refine ct_0 rfl ?_ | refine ct_r rfl rfl ?_ | refine ct_c rfl rfl rfl ?_ | refine cu_all rfl ?_ | refine cu_to rfl ?_ | refine cu_from rfl ?_ | refine cu_p rfl ?_ | fail); (first | omega | (simp only [List.length_append, List.length_replicate, List.length_cons, List.length_nil, List.length_set, List.length_take, List.length_drop, true_and]; omega))) | exact up_raw rfl | exact pk_t (by first | rfl | assumption | omega | (simp only [*, Bool.not_false, Bool.not_true]; first | done | fail) | (simp [*]; first | done | fail)) rfl | exact pk_f (by first | rfl | assumption | omega | (simp only [*, Bool.not_false, Bool.not_true]; first | done | fail) | (simp [*]; first | done | fail)) rfl | fail | exact rw_raw | exact pu_cv (fun w => rfl) (by omega) | exact pu_of (fun w => rfl) rfl | exact be_of (fun w => rfl) | exact nc_of (fun _ _ _ _ => rfl) rfl | exact bu_of (fun w => rfl) rfl | fail) ?_) | ((first | refine q_callE wsT wsZ (by rfl) ?_ | refine q_callVE wsT (by rfl) (by rfl) ?_); refine ⟨_, _, _, (by first | assumption | exact k_shapes | exact k_lt _ _ _ _), _, by rfl, ?_, ?_⟩)); focus (first | exact trivial | exact ⟨rfl, by decide, by omega, Nat.le_of_eq (cV_len _).symm⟩ | exact rfl | (first | omega | (simp only [List.length_append, List.length_replicate, List.length_cons, List.length_nil, List.length_set, List.length_take, List.length_drop, true_and]; omega)) | exact cvB (fun w => rfl) | ((repeat' (first | exact rfl | exact cV_len _ | exact cV_ln rfl (by omega) | exact Cel.pos | omega | exact trivial | refine And.intro ?_ ?_)); done) | (simp [*]; done) | (simp; omega))) | fail)) | refine r_nt (by rfl) (by rfl) (by first | rfl | assumption | omega | (simp only [*, Bool.not_false, Bool.not_true]; first | done | fail) | (simp [*]; first | done | fail)) (by rfl) ?_ | refine r_nf (by rfl) (by rfl) (by first | rfl | assumption | omega | (simp only [*, Bool.not_false, Bool.not_true]; first | done | fail) | (simp [*]; first | done | fail)) (by rfl) ?_ | refine r_gu (by rfl) (by rfl) (by rfl) ?_ | refine r_nil ?_) | (first | refine aw_seq ?_ | refine aw_ct (by rfl) (by first | rfl | assumption | omega | (simp only [*, Bool.not_false, Bool.not_true]; first | done | fail) | (simp [*]; first | done | fail)) ?_ | refine aw_cf (by rfl) (by first | rfl | assumption | omega | (simp only [*, Bool.not_false, Bool.not_true]; first | done | fail) | (simp [*]; first | done | fail)) ?_ | refine aw_block ?_ | refine aw_region T0ok cfU_ok (by rfl) ?_ | refine aw_skip ?_ | refine aw_exit ?_ | refine ra_step ?_)); (repeat (first | (first | ((first | refine r_none ?_ | refine r_gt (by rfl) (by rfl) (by first | rfl | assumption | omega | (simp only [*, Bool.not_false, Bool.not_true]; first | done | fail) | (simp [*]; first | done | fail)) (by rfl) ?_ | refine r_gf (by rfl) (by rfl) (by first | rfl | assumption | omega | (simp only [*, Bool.not_false, Bool.not_true]; first | done | fail) | (simp [*]; first | done | fail)) (by rfl) ?_); (first | (first | refine r_sh0 (by rfl) (by rfl) (by rfl) ?_ | refine r_sh1 (by rfl) (by rfl) (by rfl) ?_ | refine r_sh2 (by rfl) (by rfl) (by rfl) ?_ | refine r_sh3 (by rfl) (by rfl) (by rfl) ?_ | refine r_sh4 (by rfl) (by rfl) (by rfl) ?_ | refine r_sh5 (by rfl) (by rfl) (by rfl) ?_ | refine r_sh6 (by rfl) (by rfl) (by rfl) ?_ | refine r_sh7 (by rfl) (by rfl) (by rfl) ?_ | refine r_sh8 (by rfl) (by rfl) (by rfl) ?_ | refine r_seq (by rfl) (by rfl) (by rfl) ?_ | refine r_sne (by rfl) (by rfl) (by rfl) ?_ | refine r_ercmp (by rfl) (fun _ _ _ => rfl) (by rfl) (by rfl) ?_ | refine r_idxAgg (by rfl) (by rfl) (by rfl) (by rfl) (by rfl) (by rfl) (by decide) (by rfl) ?_) | ((first | (refine z_op (by rfl) ?_; first | refine z_ok ?_ ?_ | refine z_ex ?_ (by first | exact ft_raw rfl rfl | ((first | refine ft_rp rfl rfl rfl ?_ | refine ft_row rfl rfl rfl ?_ | refine ft_rpF rfl rfl rfl ?_ | refine ft_rowF rfl rfl rfl ?_ | refine up_row rfl rfl ?_ | refine up_rowF rfl rfl rfl ?_ | refine ct_0 rfl ?_ | refine ct_r rfl rfl ?_ | refine ct_c rfl rfl rfl ?_ | refine cu_all rfl ?_ | refine cu_to rfl ?_ | refine cu_from rfl ?_ | refine cu_p rfl ?_ | fail); (first | omega | (simp only [List.length_append, List.length_replicate, List.length_cons, List.length_nil, List.length_set, List.length_take, List.length_drop, true_and]; omega))) | exact up_raw rfl | exact pk_t (by first | rfl | assumption | omega | (simp only [*, Bool.not_false, Bool.not_true]; first | done | fail) | (simp [*]; first | done | fail)) rfl | exact pk_f (by first | rfl | assumption | omega | (simp only [*, Bool.not_false, Bool.not_true]; first | done | fail) | (simp [*]; first | done | fail)) rfl | fail | exact rw_raw | exact pu_cv (fun w => rfl) (by omega) | exact pu_of (fun w => rfl) rfl | exact be_of (fun w => rfl) | exact nc_of (fun _ _ _ _ => rfl) rfl | exact bu_of (fun w => rfl) rfl | fail) ?_) | ((first | refine q_callE wsT wsZ (by rfl) ?_ | refine q_callVE wsT (by rfl) (by rfl) ?_); refine ⟨_, _, _, (by first | assumption | exact k_shapes | exact k_lt _ _ _ _), _, by rfl, ?_, ?_⟩)); focus (first | exact trivial | exact ⟨rfl, by decide, by omega, Nat.le_of_eq (cV_len _).symm⟩ | exact rfl | (first | omega | (simp only [List.length_append, List.length_replicate, List.length_cons, List.length_nil, List.length_set, List.length_take, List.length_drop, true_and]; omega)) | exact cvB (fun w => rfl) | ((repeat' (first | exact rfl | exact cV_len _ | exact cV_ln rfl (by omega) | exact Cel.pos | omega | exact trivial | refine And.intro ?_ ?_)); done) | (simp [*]; done) | (simp; omega))) | fail)) | refine r_nt (by rfl) (by rfl) (by first | rfl | assumption | omega | (simp only [*, Bool.not_false, Bool.not_true]; first | done | fail) | (simp [*]; first | done | fail)) (by rfl) ?_ | refine r_nf (by rfl) (by rfl) (by first | rfl | assumption | omega | (simp only [*, Bool.not_false, Bool.not_true]; first | done | fail) | (simp [*]; first | done | fail)) (by rfl) ?_ | refine r_gu (by rfl) (by rfl) (by rfl) ?_ | refine r_nil ?_) | (first | refine aw_seq ?_ | refine aw_ct (by rfl) (by first | rfl | assumption | omega | (simp only [*, Bool.not_false, Bool.not_true]; first | done | fail) | (simp [*]; first | done | fail)) ?_ | refine aw_cf (by rfl) (by first | rfl | assumption | omega | (simp only [*, Bool.not_false, Bool.not_true]; first | done | fail) | (simp [*]; first | done | fail)) ?_ | refine aw_block ?_ | refine aw_region T0ok cfU_ok (by rfl) ?_ | refine aw_skip ?_ | refine aw_exit ?_ | refine ra_step ?_))); exact hh.out)) : G := h ⟨k⟩
theorem ga_LQ {H G : Prop} (k : H) (h : Hid H → G := by (intro hh; (first | refine r_none ?_ | refine r_gt (by rfl) (by rfl) (by first | rfl | assumption | omega | (simp only [*, Bool.not_false, Bool.not_true]; first | done | fail) | (simp [*]; first | done | fail)) (by rfl) ?_ | refine r_gf (by rfl) (by rfl) (by first | rfl | assumption | omega | (simp only [*, Bool.not_false, Bool.not_true]; first | done | fail) | (simp [*]; first | done | fail)) (by rfl) ?_); refine z_op (by rfl) ?_; refine z_alV ?_ hh.out; focus (first | exact trivial | exact ⟨rfl, by decide, by omega, Nat.le_of_eq (cV_len _).symm⟩ | exact rfl | (first | omega | (simp only [List.length_append, List.length_replicate, List.length_cons, List.length_nil, List.length_set, List.length_take, List.length_drop, true_and]; omega)) | exact cvB (fun w => rfl) | ((repeat' (first | exact rfl | exact cV_len _ | exact cV_ln rfl (by omega) | exact Cel.pos | omega | exact trivial | refine And.intro ?_ ?_)); done) | (simp [*]; done) | (simp; omega)))) : G := h ⟨k⟩
theorem gd_LQ {H G : Prop} (k : H) (h : Hid H → G := by (intro hh; (refine aw_draw mixed T0ok cfU_ok [] (by rfl) (by kernel_rfl) ?_); exact hh.out)) : G := h ⟨k⟩
set_option maxHeartbeats 8000000 in
theorem k_rl4_0f (s : List UInt8) (ws : List (List UInt8)) (hs : s.length ≤ 7000000) (hc : cutA 32 [] s = ws) (hw : 1 ≤ ws.length) (hw0 : ws.getD 0 [] = l9W 4) (h1 : ws.length = 1) (ht : (ltx 4 0 0 0 == s) = false) : Kon Tryd.prog 16 [vS s] [] (tupL 0 0 0 0 false) [] [] := by
  have hS := k_split s hs
  rw [hc] at hS
  have n0 : (!(([97, 100, 100] : List UInt8) == ws.getD (0 : Int).toNat Cel.no)) = true := by rw [show ws.getD (0 : Int).toNat Cel.no = l9W 4 from hw0]; rfl
  have n1 : (!(([116, 97, 107, 101] : List UInt8) == ws.getD (0 : Int).toNat Cel.no)) = true := by rw [show ws.getD (0 : Int).toNat Cel.no = l9W 4 from hw0]; rfl
  have n2 : (!(([109, 111, 114, 101] : List UInt8) == ws.getD (0 : Int).toNat Cel.no)) = true := by rw [show ws.getD (0 : Int).toNat Cel.no = l9W 4 from hw0]; rfl
  have n3 : (!(([115, 119, 97, 112] : List UInt8) == ws.getD (0 : Int).toNat Cel.no)) = true := by rw [show ws.getD (0 : Int).toNat Cel.no = l9W 4 from hw0]; rfl
  have n4 : (!(([114, 101, 112, 101, 97, 116] : List UInt8) == ws.getD (0 : Int).toNat Cel.no)) = false := by rw [show ws.getD (0 : Int).toNat Cel.no = l9W 4 from hw0]; rfl
  have n5 : (!(([101, 110, 100] : List UInt8) == ws.getD (0 : Int).toNat Cel.no)) = true := by rw [show ws.getD (0 : Int).toNat Cel.no = l9W 4 from hw0]; rfl
  have n6 : (!(([105, 102] : List UInt8) == ws.getD (0 : Int).toNat Cel.no)) = true := by rw [show ws.getD (0 : Int).toNat Cel.no = l9W 4 from hw0]; rfl
  have n7 : (!(([101, 108, 115, 101] : List UInt8) == ws.getD (0 : Int).toNat Cel.no)) = true := by rw [show ws.getD (0 : Int).toNat Cel.no = l9W 4 from hw0]; rfl
  have n8 : (!(([102, 105] : List UInt8) == ws.getD (0 : Int).toNat Cel.no)) = true := by rw [show ws.getD (0 : Int).toNat Cel.no = l9W 4 from hw0]; rfl
  have b1 : decide (((ws.drop (1 : Int).toNat).length : Int) > 0) = false := decide_eq_false (by rw [List.length_drop]; simp; omega)
  clear hc hw0
  (refine kon_mk T0ok (fn := Tryd.f16) (c := Tryd.f16.body.get rfl) Tryd.func16 rfl (by rfl) (by rfl) (by rfl) ?_; intro hfit hfe)
  (repeat (first | refine gq_LQ ?_ | (refine ga_LQ ?_; intro _hq) | refine gd_LQ ?_))
  refine aw_unroll 10 ?_
  (repeat (first | refine gq_LQ ?_ | (refine ga_LQ ?_; intro _hq) | refine gd_LQ ?_))
  refine aw_unroll 4 ?_
  (repeat (first | refine gq_LQ ?_ | (refine ga_LQ ?_; intro _hq) | refine gd_LQ ?_))
  ((try refine aw_ret ?_); refine ret_auto2 (by rfl) (by rfl) (by rfl) (by repeat (first | exact trivial | refine ⟨by first | rfl | omega, ?_⟩)) ?_ (by repeat (first | exact trivial | refine ⟨by rfl, by rfl, ?_⟩)) (by repeat (first | exact trivial | refine ⟨by rfl, by rfl, ?_⟩)); try rfl)
set_option maxHeartbeats 8000000 in
theorem k_rl4_1t (s : List UInt8) (ws : List (List UInt8)) (hs : s.length ≤ 7000000) (hc : cutA 32 [] s = ws) (hw : 1 ≤ ws.length) (hw0 : ws.getD 0 [] = l9W 4) (h1 : 1 < ws.length) (vx : Int) (hx : Kon Tryd.prog 44 [vS (ws.getD 1 [])] [] (tupI vx (.v .nilIface)) [] []) (ht : (ltx 4 0 0 vx == s) = true) : Kon Tryd.prog 16 [vS s] [] (tupL 4 0 0 vx true) [] [] := by
  have hS := k_split s hs
  rw [hc] at hS
  have n0 : (!(([97, 100, 100] : List UInt8) == ws.getD (0 : Int).toNat Cel.no)) = true := by rw [show ws.getD (0 : Int).toNat Cel.no = l9W 4 from hw0]; rfl
  have n1 : (!(([116, 97, 107, 101] : List UInt8) == ws.getD (0 : Int).toNat Cel.no)) = true := by rw [show ws.getD (0 : Int).toNat Cel.no = l9W 4 from hw0]; rfl
  have n2 : (!(([109, 111, 114, 101] : List UInt8) == ws.getD (0 : Int).toNat Cel.no)) = true := by rw [show ws.getD (0 : Int).toNat Cel.no = l9W 4 from hw0]; rfl
  have n3 : (!(([115, 119, 97, 112] : List UInt8) == ws.getD (0 : Int).toNat Cel.no)) = true := by rw [show ws.getD (0 : Int).toNat Cel.no = l9W 4 from hw0]; rfl
  have n4 : (!(([114, 101, 112, 101, 97, 116] : List UInt8) == ws.getD (0 : Int).toNat Cel.no)) = false := by rw [show ws.getD (0 : Int).toNat Cel.no = l9W 4 from hw0]; rfl
  have n5 : (!(([101, 110, 100] : List UInt8) == ws.getD (0 : Int).toNat Cel.no)) = true := by rw [show ws.getD (0 : Int).toNat Cel.no = l9W 4 from hw0]; rfl
  have n6 : (!(([105, 102] : List UInt8) == ws.getD (0 : Int).toNat Cel.no)) = true := by rw [show ws.getD (0 : Int).toNat Cel.no = l9W 4 from hw0]; rfl
  have n7 : (!(([101, 108, 115, 101] : List UInt8) == ws.getD (0 : Int).toNat Cel.no)) = true := by rw [show ws.getD (0 : Int).toNat Cel.no = l9W 4 from hw0]; rfl
  have n8 : (!(([102, 105] : List UInt8) == ws.getD (0 : Int).toNat Cel.no)) = true := by rw [show ws.getD (0 : Int).toNat Cel.no = l9W 4 from hw0]; rfl
  have b1 : decide (((ws.drop (1 : Int).toNat).length : Int) > 0) = true := decide_eq_true (by rw [List.length_drop]; simp; omega)
  have l1 : 0 < (ws.drop (1 : Int).toNat).length := by rw [List.length_drop]; simp; omega
  have g1 : (ws.drop (1 : Int).toNat).getD (0 : Int).toNat Cel.no = ws.getD 1 [] := drop_get ws 1 0
  rw [← g1] at hx
  clear hc hw0
  (refine kon_mk T0ok (fn := Tryd.f16) (c := Tryd.f16.body.get rfl) Tryd.func16 rfl (by rfl) (by rfl) (by rfl) ?_; intro hfit hfe)
  (repeat (first | refine gq_LQ ?_ | (refine ga_LQ ?_; intro _hq) | refine gd_LQ ?_))
  refine aw_unroll 10 ?_
  (repeat (first | refine gq_LQ ?_ | (refine ga_LQ ?_; intro _hq) | refine gd_LQ ?_))
  refine aw_unroll 4 ?_
  (repeat (first | refine gq_LQ ?_ | (refine ga_LQ ?_; intro _hq) | refine gd_LQ ?_))
  ((try refine aw_ret ?_); refine ret_auto2 (by rfl) (by rfl) (by rfl) (by repeat (first | exact trivial | refine ⟨by first | rfl | omega, ?_⟩)) ?_ (by repeat (first | exact trivial | refine ⟨by rfl, by rfl, ?_⟩)) (by repeat (first | exact trivial | refine ⟨by rfl, by rfl, ?_⟩)); try rfl)
set_option maxHeartbeats 8000000 in
theorem k_rl4_1f (s : List UInt8) (ws : List (List UInt8)) (hs : s.length ≤ 7000000) (hc : cutA 32 [] s = ws) (hw : 1 ≤ ws.length) (hw0 : ws.getD 0 [] = l9W 4) (h1 : 1 < ws.length) (vx : Int) (hx : Kon Tryd.prog 44 [vS (ws.getD 1 [])] [] (tupI vx (.v .nilIface)) [] []) (ht : (ltx 4 0 0 vx == s) = false) : Kon Tryd.prog 16 [vS s] [] (tupL 0 0 0 0 false) [] [] := by
  have hS := k_split s hs
  rw [hc] at hS
  have n0 : (!(([97, 100, 100] : List UInt8) == ws.getD (0 : Int).toNat Cel.no)) = true := by rw [show ws.getD (0 : Int).toNat Cel.no = l9W 4 from hw0]; rfl
  have n1 : (!(([116, 97, 107, 101] : List UInt8) == ws.getD (0 : Int).toNat Cel.no)) = true := by rw [show ws.getD (0 : Int).toNat Cel.no = l9W 4 from hw0]; rfl
  have n2 : (!(([109, 111, 114, 101] : List UInt8) == ws.getD (0 : Int).toNat Cel.no)) = true := by rw [show ws.getD (0 : Int).toNat Cel.no = l9W 4 from hw0]; rfl
  have n3 : (!(([115, 119, 97, 112] : List UInt8) == ws.getD (0 : Int).toNat Cel.no)) = true := by rw [show ws.getD (0 : Int).toNat Cel.no = l9W 4 from hw0]; rfl
  have n4 : (!(([114, 101, 112, 101, 97, 116] : List UInt8) == ws.getD (0 : Int).toNat Cel.no)) = false := by rw [show ws.getD (0 : Int).toNat Cel.no = l9W 4 from hw0]; rfl
  have n5 : (!(([101, 110, 100] : List UInt8) == ws.getD (0 : Int).toNat Cel.no)) = true := by rw [show ws.getD (0 : Int).toNat Cel.no = l9W 4 from hw0]; rfl
  have n6 : (!(([105, 102] : List UInt8) == ws.getD (0 : Int).toNat Cel.no)) = true := by rw [show ws.getD (0 : Int).toNat Cel.no = l9W 4 from hw0]; rfl
  have n7 : (!(([101, 108, 115, 101] : List UInt8) == ws.getD (0 : Int).toNat Cel.no)) = true := by rw [show ws.getD (0 : Int).toNat Cel.no = l9W 4 from hw0]; rfl
  have n8 : (!(([102, 105] : List UInt8) == ws.getD (0 : Int).toNat Cel.no)) = true := by rw [show ws.getD (0 : Int).toNat Cel.no = l9W 4 from hw0]; rfl
  have b1 : decide (((ws.drop (1 : Int).toNat).length : Int) > 0) = true := decide_eq_true (by rw [List.length_drop]; simp; omega)
  have l1 : 0 < (ws.drop (1 : Int).toNat).length := by rw [List.length_drop]; simp; omega
  have g1 : (ws.drop (1 : Int).toNat).getD (0 : Int).toNat Cel.no = ws.getD 1 [] := drop_get ws 1 0
  rw [← g1] at hx
  clear hc hw0
  (refine kon_mk T0ok (fn := Tryd.f16) (c := Tryd.f16.body.get rfl) Tryd.func16 rfl (by rfl) (by rfl) (by rfl) ?_; intro hfit hfe)
  (repeat (first | refine gq_LQ ?_ | (refine ga_LQ ?_; intro _hq) | refine gd_LQ ?_))
  refine aw_unroll 10 ?_
  (repeat (first | refine gq_LQ ?_ | (refine ga_LQ ?_; intro _hq) | refine gd_LQ ?_))
  refine aw_unroll 4 ?_
  (repeat (first | refine gq_LQ ?_ | (refine ga_LQ ?_; intro _hq) | refine gd_LQ ?_))
  ((try refine aw_ret ?_); refine ret_auto2 (by rfl) (by rfl) (by rfl) (by repeat (first | exact trivial | refine ⟨by first | rfl | omega, ?_⟩)) ?_ (by repeat (first | exact trivial | refine ⟨by rfl, by rfl, ?_⟩)) (by repeat (first | exact trivial | refine ⟨by rfl, by rfl, ?_⟩)); try rfl)
set_option maxHeartbeats 8000000 in
theorem k_rl4_1e (s : List UInt8) (ws : List (List UInt8)) (hs : s.length ≤ 7000000) (hc : cutA 32 [] s = ws) (hw : 1 ≤ ws.length) (hw0 : ws.getD 0 [] = l9W 4) (h1 : 1 < ws.length) (ex : Int) (hx : Kon Tryd.prog 44 [vS (ws.getD 1 [])] [] (tupI ex .er) [] []) : Kon Tryd.prog 16 [vS s] [] (tupL 0 0 0 0 false) [] [] := by
  have hS := k_split s hs
  rw [hc] at hS
  have n0 : (!(([97, 100, 100] : List UInt8) == ws.getD (0 : Int).toNat Cel.no)) = true := by rw [show ws.getD (0 : Int).toNat Cel.no = l9W 4 from hw0]; rfl
  have n1 : (!(([116, 97, 107, 101] : List UInt8) == ws.getD (0 : Int).toNat Cel.no)) = true := by rw [show ws.getD (0 : Int).toNat Cel.no = l9W 4 from hw0]; rfl
  have n2 : (!(([109, 111, 114, 101] : List UInt8) == ws.getD (0 : Int).toNat Cel.no)) = true := by rw [show ws.getD (0 : Int).toNat Cel.no = l9W 4 from hw0]; rfl
  have n3 : (!(([115, 119, 97, 112] : List UInt8) == ws.getD (0 : Int).toNat Cel.no)) = true := by rw [show ws.getD (0 : Int).toNat Cel.no = l9W 4 from hw0]; rfl
  have n4 : (!(([114, 101, 112, 101, 97, 116] : List UInt8) == ws.getD (0 : Int).toNat Cel.no)) = false := by rw [show ws.getD (0 : Int).toNat Cel.no = l9W 4 from hw0]; rfl
  have n5 : (!(([101, 110, 100] : List UInt8) == ws.getD (0 : Int).toNat Cel.no)) = true := by rw [show ws.getD (0 : Int).toNat Cel.no = l9W 4 from hw0]; rfl
  have n6 : (!(([105, 102] : List UInt8) == ws.getD (0 : Int).toNat Cel.no)) = true := by rw [show ws.getD (0 : Int).toNat Cel.no = l9W 4 from hw0]; rfl
  have n7 : (!(([101, 108, 115, 101] : List UInt8) == ws.getD (0 : Int).toNat Cel.no)) = true := by rw [show ws.getD (0 : Int).toNat Cel.no = l9W 4 from hw0]; rfl
  have n8 : (!(([102, 105] : List UInt8) == ws.getD (0 : Int).toNat Cel.no)) = true := by rw [show ws.getD (0 : Int).toNat Cel.no = l9W 4 from hw0]; rfl
  have b1 : decide (((ws.drop (1 : Int).toNat).length : Int) > 0) = true := decide_eq_true (by rw [List.length_drop]; simp; omega)
  have l1 : 0 < (ws.drop (1 : Int).toNat).length := by rw [List.length_drop]; simp; omega
  have g1 : (ws.drop (1 : Int).toNat).getD (0 : Int).toNat Cel.no = ws.getD 1 [] := drop_get ws 1 0
  rw [← g1] at hx
  clear hc hw0
  (refine kon_mk T0ok (fn := Tryd.f16) (c := Tryd.f16.body.get rfl) Tryd.func16 rfl (by rfl) (by rfl) (by rfl) ?_; intro hfit hfe)
  (repeat (first | refine gq_LQ ?_ | (refine ga_LQ ?_; intro _hq) | refine gd_LQ ?_))
  refine aw_unroll 10 ?_
  (repeat (first | refine gq_LQ ?_ | (refine ga_LQ ?_; intro _hq) | refine gd_LQ ?_))
  refine aw_unroll 4 ?_
  (repeat (first | refine gq_LQ ?_ | (refine ga_LQ ?_; intro _hq) | refine gd_LQ ?_))
  ((try refine aw_ret ?_); refine ret_auto2 (by rfl) (by rfl) (by rfl) (by repeat (first | exact trivial | refine ⟨by first | rfl | omega, ?_⟩)) ?_ (by repeat (first | exact trivial | refine ⟨by rfl, by rfl, ?_⟩)) (by repeat (first | exact trivial | refine ⟨by rfl, by rfl, ?_⟩)); try rfl)
set_option maxHeartbeats 8000000 in
theorem k_rl5_0t (s : List UInt8) (ws : List (List UInt8)) (hs : s.length ≤ 7000000) (hc : cutA 32 [] s = ws) (hw : 1 ≤ ws.length) (hw0 : ws.getD 0 [] = l9W 5) (ht : (ltx 5 0 0 0 == s) = true) : Kon Tryd.prog 16 [vS s] [] (tupL 5 0 0 0 true) [] [] := by
  have hS := k_split s hs
  rw [hc] at hS
  have n0 : (!(([97, 100, 100] : List UInt8) == ws.getD (0 : Int).toNat Cel.no)) = true := by rw [show ws.getD (0 : Int).toNat Cel.no = l9W 5 from hw0]; rfl
  have n1 : (!(([116, 97, 107, 101] : List UInt8) == ws.getD (0 : Int).toNat Cel.no)) = true := by rw [show ws.getD (0 : Int).toNat Cel.no = l9W 5 from hw0]; rfl
  have n2 : (!(([109, 111, 114, 101] : List UInt8) == ws.getD (0 : Int).toNat Cel.no)) = true := by rw [show ws.getD (0 : Int).toNat Cel.no = l9W 5 from hw0]; rfl
  have n3 : (!(([115, 119, 97, 112] : List UInt8) == ws.getD (0 : Int).toNat Cel.no)) = true := by rw [show ws.getD (0 : Int).toNat Cel.no = l9W 5 from hw0]; rfl
  have n4 : (!(([114, 101, 112, 101, 97, 116] : List UInt8) == ws.getD (0 : Int).toNat Cel.no)) = true := by rw [show ws.getD (0 : Int).toNat Cel.no = l9W 5 from hw0]; rfl
  have n5 : (!(([101, 110, 100] : List UInt8) == ws.getD (0 : Int).toNat Cel.no)) = false := by rw [show ws.getD (0 : Int).toNat Cel.no = l9W 5 from hw0]; rfl
  have n6 : (!(([105, 102] : List UInt8) == ws.getD (0 : Int).toNat Cel.no)) = true := by rw [show ws.getD (0 : Int).toNat Cel.no = l9W 5 from hw0]; rfl
  have n7 : (!(([101, 108, 115, 101] : List UInt8) == ws.getD (0 : Int).toNat Cel.no)) = true := by rw [show ws.getD (0 : Int).toNat Cel.no = l9W 5 from hw0]; rfl
  have n8 : (!(([102, 105] : List UInt8) == ws.getD (0 : Int).toNat Cel.no)) = true := by rw [show ws.getD (0 : Int).toNat Cel.no = l9W 5 from hw0]; rfl
  clear hc hw0
  (refine kon_mk T0ok (fn := Tryd.f16) (c := Tryd.f16.body.get rfl) Tryd.func16 rfl (by rfl) (by rfl) (by rfl) ?_; intro hfit hfe)
  (repeat (first | refine gq_LQ ?_ | (refine ga_LQ ?_; intro _hq) | refine gd_LQ ?_))
  refine aw_unroll 10 ?_
  (repeat (first | refine gq_LQ ?_ | (refine ga_LQ ?_; intro _hq) | refine gd_LQ ?_))
  refine aw_unroll 4 ?_
  (repeat (first | refine gq_LQ ?_ | (refine ga_LQ ?_; intro _hq) | refine gd_LQ ?_))
  ((try refine aw_ret ?_); refine ret_auto2 (by rfl) (by rfl) (by rfl) (by repeat (first | exact trivial | refine ⟨by first | rfl | omega, ?_⟩)) ?_ (by repeat (first | exact trivial | refine ⟨by rfl, by rfl, ?_⟩)) (by repeat (first | exact trivial | refine ⟨by rfl, by rfl, ?_⟩)); try rfl)
set_option maxHeartbeats 8000000 in
theorem k_rl5_0f (s : List UInt8) (ws : List (List UInt8)) (hs : s.length ≤ 7000000) (hc : cutA 32 [] s = ws) (hw : 1 ≤ ws.length) (hw0 : ws.getD 0 [] = l9W 5) (ht : (ltx 5 0 0 0 == s) = false) : Kon Tryd.prog 16 [vS s] [] (tupL 0 0 0 0 false) [] [] := by
  have hS := k_split s hs
  rw [hc] at hS
  have n0 : (!(([97, 100, 100] : List UInt8) == ws.getD (0 : Int).toNat Cel.no)) = true := by rw [show ws.getD (0 : Int).toNat Cel.no = l9W 5 from hw0]; rfl
  have n1 : (!(([116, 97, 107, 101] : List UInt8) == ws.getD (0 : Int).toNat Cel.no)) = true := by rw [show ws.getD (0 : Int).toNat Cel.no = l9W 5 from hw0]; rfl
  have n2 : (!(([109, 111, 114, 101] : List UInt8) == ws.getD (0 : Int).toNat Cel.no)) = true := by rw [show ws.getD (0 : Int).toNat Cel.no = l9W 5 from hw0]; rfl
  have n3 : (!(([115, 119, 97, 112] : List UInt8) == ws.getD (0 : Int).toNat Cel.no)) = true := by rw [show ws.getD (0 : Int).toNat Cel.no = l9W 5 from hw0]; rfl
  have n4 : (!(([114, 101, 112, 101, 97, 116] : List UInt8) == ws.getD (0 : Int).toNat Cel.no)) = true := by rw [show ws.getD (0 : Int).toNat Cel.no = l9W 5 from hw0]; rfl
  have n5 : (!(([101, 110, 100] : List UInt8) == ws.getD (0 : Int).toNat Cel.no)) = false := by rw [show ws.getD (0 : Int).toNat Cel.no = l9W 5 from hw0]; rfl
  have n6 : (!(([105, 102] : List UInt8) == ws.getD (0 : Int).toNat Cel.no)) = true := by rw [show ws.getD (0 : Int).toNat Cel.no = l9W 5 from hw0]; rfl
  have n7 : (!(([101, 108, 115, 101] : List UInt8) == ws.getD (0 : Int).toNat Cel.no)) = true := by rw [show ws.getD (0 : Int).toNat Cel.no = l9W 5 from hw0]; rfl
  have n8 : (!(([102, 105] : List UInt8) == ws.getD (0 : Int).toNat Cel.no)) = true := by rw [show ws.getD (0 : Int).toNat Cel.no = l9W 5 from hw0]; rfl
  clear hc hw0
  (refine kon_mk T0ok (fn := Tryd.f16) (c := Tryd.f16.body.get rfl) Tryd.func16 rfl (by rfl) (by rfl) (by rfl) ?_; intro hfit hfe)
  (repeat (first | refine gq_LQ ?_ | (refine ga_LQ ?_; intro _hq) | refine gd_LQ ?_))
  refine aw_unroll 10 ?_
  (repeat (first | refine gq_LQ ?_ | (refine ga_LQ ?_; intro _hq) | refine gd_LQ ?_))
  refine aw_unroll 4 ?_
  (repeat (first | refine gq_LQ ?_ | (refine ga_LQ ?_; intro _hq) | refine gd_LQ ?_))
  ((try refine aw_ret ?_); refine ret_auto2 (by rfl) (by rfl) (by rfl) (by repeat (first | exact trivial | refine ⟨by first | rfl | omega, ?_⟩)) ?_ (by repeat (first | exact trivial | refine ⟨by rfl, by rfl, ?_⟩)) (by repeat (first | exact trivial | refine ⟨by rfl, by rfl, ?_⟩)); try rfl)
set_option maxHeartbeats 8000000 in
theorem k_rl7_0t (s : List UInt8) (ws : List (List UInt8)) (hs : s.length ≤ 7000000) (hc : cutA 32 [] s = ws) (hw : 1 ≤ ws.length) (hw0 : ws.getD 0 [] = l9W 7) (ht : (ltx 7 0 0 0 == s) = true) : Kon Tryd.prog 16 [vS s] [] (tupL 7 0 0 0 true) [] [] := by
  have hS := k_split s hs
  rw [hc] at hS
  have n0 : (!(([97, 100, 100] : List UInt8) == ws.getD (0 : Int).toNat Cel.no)) = true := by rw [show ws.getD (0 : Int).toNat Cel.no = l9W 7 from hw0]; rfl
  have n1 : (!(([116, 97, 107, 101] : List UInt8) == ws.getD (0 : Int).toNat Cel.no)) = true := by rw [show ws.getD (0 : Int).toNat Cel.no = l9W 7 from hw0]; rfl
  have n2 : (!(([109, 111, 114, 101] : List UInt8) == ws.getD (0 : Int).toNat Cel.no)) = true := by rw [show ws.getD (0 : Int).toNat Cel.no = l9W 7 from hw0]; rfl
  have n3 : (!(([115, 119, 97, 112] : List UInt8) == ws.getD (0 : Int).toNat Cel.no)) = true := by rw [show ws.getD (0 : Int).toNat Cel.no = l9W 7 from hw0]; rfl
  have n4 : (!(([114, 101, 112, 101, 97, 116] : List UInt8) == ws.getD (0 : Int).toNat Cel.no)) = true := by rw [show ws.getD (0 : Int).toNat Cel.no = l9W 7 from hw0]; rfl
  have n5 : (!(([101, 110, 100] : List UInt8) == ws.getD (0 : Int).toNat Cel.no)) = true := by rw [show ws.getD (0 : Int).toNat Cel.no = l9W 7 from hw0]; rfl
  have n6 : (!(([105, 102] : List UInt8) == ws.getD (0 : Int).toNat Cel.no)) = true := by rw [show ws.getD (0 : Int).toNat Cel.no = l9W 7 from hw0]; rfl
  have n7 : (!(([101, 108, 115, 101] : List UInt8) == ws.getD (0 : Int).toNat Cel.no)) = false := by rw [show ws.getD (0 : Int).toNat Cel.no = l9W 7 from hw0]; rfl
  have n8 : (!(([102, 105] : List UInt8) == ws.getD (0 : Int).toNat Cel.no)) = true := by rw [show ws.getD (0 : Int).toNat Cel.no = l9W 7 from hw0]; rfl
  clear hc hw0
  (refine kon_mk T0ok (fn := Tryd.f16) (c := Tryd.f16.body.get rfl) Tryd.func16 rfl (by rfl) (by rfl) (by rfl) ?_; intro hfit hfe)
  (repeat (first | refine gq_LQ ?_ | (refine ga_LQ ?_; intro _hq) | refine gd_LQ ?_))
  refine aw_unroll 10 ?_
  (repeat (first | refine gq_LQ ?_ | (refine ga_LQ ?_; intro _hq) | refine gd_LQ ?_))
  refine aw_unroll 4 ?_
  (repeat (first | refine gq_LQ ?_ | (refine ga_LQ ?_; intro _hq) | refine gd_LQ ?_))
  ((try refine aw_ret ?_); refine ret_auto2 (by rfl) (by rfl) (by rfl) (by repeat (first | exact trivial | refine ⟨by first | rfl | omega, ?_⟩)) ?_ (by repeat (first | exact trivial | refine ⟨by rfl, by rfl, ?_⟩)) (by repeat (first | exact trivial | refine ⟨by rfl, by rfl, ?_⟩)); try rfl)
set_option maxHeartbeats 8000000 in
theorem k_rl7_0f (s : List UInt8) (ws : List (List UInt8)) (hs : s.length ≤ 7000000) (hc : cutA 32 [] s = ws) (hw : 1 ≤ ws.length) (hw0 : ws.getD 0 [] = l9W 7) (ht : (ltx 7 0 0 0 == s) = false) : Kon Tryd.prog 16 [vS s] [] (tupL 0 0 0 0 false) [] [] := by
  have hS := k_split s hs
  rw [hc] at hS
  have n0 : (!(([97, 100, 100] : List UInt8) == ws.getD (0 : Int).toNat Cel.no)) = true := by rw [show ws.getD (0 : Int).toNat Cel.no = l9W 7 from hw0]; rfl
  have n1 : (!(([116, 97, 107, 101] : List UInt8) == ws.getD (0 : Int).toNat Cel.no)) = true := by rw [show ws.getD (0 : Int).toNat Cel.no = l9W 7 from hw0]; rfl
  have n2 : (!(([109, 111, 114, 101] : List UInt8) == ws.getD (0 : Int).toNat Cel.no)) = true := by rw [show ws.getD (0 : Int).toNat Cel.no = l9W 7 from hw0]; rfl
  have n3 : (!(([115, 119, 97, 112] : List UInt8) == ws.getD (0 : Int).toNat Cel.no)) = true := by rw [show ws.getD (0 : Int).toNat Cel.no = l9W 7 from hw0]; rfl
  have n4 : (!(([114, 101, 112, 101, 97, 116] : List UInt8) == ws.getD (0 : Int).toNat Cel.no)) = true := by rw [show ws.getD (0 : Int).toNat Cel.no = l9W 7 from hw0]; rfl
  have n5 : (!(([101, 110, 100] : List UInt8) == ws.getD (0 : Int).toNat Cel.no)) = true := by rw [show ws.getD (0 : Int).toNat Cel.no = l9W 7 from hw0]; rfl
  have n6 : (!(([105, 102] : List UInt8) == ws.getD (0 : Int).toNat Cel.no)) = true := by rw [show ws.getD (0 : Int).toNat Cel.no = l9W 7 from hw0]; rfl
  have n7 : (!(([101, 108, 115, 101] : List UInt8) == ws.getD (0 : Int).toNat Cel.no)) = false := by rw [show ws.getD (0 : Int).toNat Cel.no = l9W 7 from hw0]; rfl
  have n8 : (!(([102, 105] : List UInt8) == ws.getD (0 : Int).toNat Cel.no)) = true := by rw [show ws.getD (0 : Int).toNat Cel.no = l9W 7 from hw0]; rfl
  clear hc hw0
  (refine kon_mk T0ok (fn := Tryd.f16) (c := Tryd.f16.body.get rfl) Tryd.func16 rfl (by rfl) (by rfl) (by rfl) ?_; intro hfit hfe)
  (repeat (first | refine gq_LQ ?_ | (refine ga_LQ ?_; intro _hq) | refine gd_LQ ?_))
  refine aw_unroll 10 ?_
  (repeat (first | refine gq_LQ ?_ | (refine ga_LQ ?_; intro _hq) | refine gd_LQ ?_))
  refine aw_unroll 4 ?_
  (repeat (first | refine gq_LQ ?_ | (refine ga_LQ ?_; intro _hq) | refine gd_LQ ?_))
  ((try refine aw_ret ?_); refine ret_auto2 (by rfl) (by rfl) (by rfl) (by repeat (first | exact trivial | refine ⟨by first | rfl | omega, ?_⟩)) ?_ (by repeat (first | exact trivial | refine ⟨by rfl, by rfl, ?_⟩)) (by repeat (first | exact trivial | refine ⟨by rfl, by rfl, ?_⟩)); try rfl)
set_option maxHeartbeats 8000000 in
theorem k_rlN (s : List UInt8) (ws : List (List UInt8)) (hs : s.length ≤ 7000000) (hc : cutA 32 [] s = ws) (hw : 1 ≤ ws.length) (hno : ∀ k : Int, 0 ≤ k ∧ k ≤ 8 → ws.getD 0 [] ≠ l9W k) : Kon Tryd.prog 16 [vS s] [] (tupL 0 0 0 0 false) [] [] := by
  have hS := k_split s hs
  rw [hc] at hS
  have key : ∀ (k : Int) (l : List UInt8), 0 ≤ k ∧ k ≤ 8 → l = l9W k → (!(l == ws.getD (0 : Int).toNat Cel.no)) = true := fun k l hk e => by
    have h1 := hno k hk
    subst e
    rw [Bool.not_eq_true', beq_eq_false_iff_ne]
    exact fun h => h1 h.symm
  have n0 := key 0 ([97, 100, 100] : List UInt8) (by decide) rfl
  have n1 := key 1 ([116, 97, 107, 101] : List UInt8) (by decide) rfl
  have n2 := key 2 ([109, 111, 114, 101] : List UInt8) (by decide) rfl
  have n3 := key 3 ([115, 119, 97, 112] : List UInt8) (by decide) rfl
  have n4 := key 4 ([114, 101, 112, 101, 97, 116] : List UInt8) (by decide) rfl
  have n5 := key 5 ([101, 110, 100] : List UInt8) (by decide) rfl
  have n6 := key 6 ([105, 102] : List UInt8) (by decide) rfl
  have n7 := key 7 ([101, 108, 115, 101] : List UInt8) (by decide) rfl
  have n8 := key 8 ([102, 105] : List UInt8) (by decide) rfl
  clear hc hno key
  (refine kon_mk T0ok (fn := Tryd.f16) (c := Tryd.f16.body.get rfl) Tryd.func16 rfl (by rfl) (by rfl) (by rfl) ?_; intro hfit hfe)
  (repeat (first | refine gq_LQ ?_ | (refine ga_LQ ?_; intro _hq) | refine gd_LQ ?_))
  refine aw_unroll 10 ?_
  (repeat (first | refine gq_LQ ?_ | (refine ga_LQ ?_; intro _hq) | refine gd_LQ ?_))
  ((try refine aw_ret ?_); refine ret_auto2 (by rfl) (by rfl) (by rfl) (by repeat (first | exact trivial | refine ⟨by first | rfl | omega, ?_⟩)) ?_ (by repeat (first | exact trivial | refine ⟨by rfl, by rfl, ?_⟩)) (by repeat (first | exact trivial | refine ⟨by rfl, by rfl, ?_⟩)); try rfl)
end Go.Proofs.YtjhdfkifpmmefaaDoor
