/- KMS: laid into one text. -/
import Derived.Test.YtnenhckongccgaaGreatDoorQHZA

namespace Go.Proofs.YtnenhckongccgaaGreatDoor
set_option linter.unusedVariables false
set_option linter.unusedSimpArgs false
set_option maxRecDepth 20000
open Go.RowKit
attribute [local irreducible] runA runX AW
def wsTS2 : WsT := (39, ([0], true)) :: (87, ([0], true)) :: (79, ([0], true)) :: wsT
def wsZS2 : List (Nat × Nat) := [(79, 4), (999999, 0)]
theorem gq_KMS {H G : Prop} (k : H) (h : Hid H → G := by (intro hh; repeat1' (first | (first | (refine nxA ?_; (first | fail | ((first | (refine z_op (by rfl) ?_; first | refine z_ok ?_ ?_ | refine z_ex ?_ (by first | exact zL1 | ((first | refine mk_c Dd rfl rfl rfl ?_); exact zWW) | exact zL2 | exact rw_c Dd rfl | exact zL3 | fail) ?_) | ((first | refine q_callE wsTS2 wsZS2 (by rfl) ?_ | refine q_callVE wsTS2 (by rfl) (by rfl) ?_); refine ⟨_, _, _, (by first | assumption | exact k_pick _ _ _ (by omega) | exact k_odd _ _ _ (by omega) | exact k_open _ (by omega)), _, by rfl, ?_, ?_⟩)); focus (first | exact trivial | fail | exact zQZ)) | fail)) | refine swA ?_) | refine awA ?_); exact hh.out)) : G := h ⟨k⟩
theorem gs_KMS {H G : Prop} (k : H) (h : Hid H → G := by (intro hh; repeat1' (first | (refine nxA ?_; (first | fail | ((first | (refine z_op (by rfl) ?_; first | refine z_ok ?_ ?_ | refine z_ex ?_ (by first | exact zL1 | ((first | refine mk_c Dd rfl rfl rfl ?_); exact zWW) | exact zL2 | exact rw_c Dd rfl | exact zL3 | fail) ?_) | ((first | refine q_callE wsTS2 wsZS2 (by rfl) ?_ | refine q_callVE wsTS2 (by rfl) (by rfl) ?_); refine ⟨_, _, _, (by first | assumption | exact k_pick _ _ _ (by omega) | exact k_odd _ _ _ (by omega) | exact k_open _ (by omega)), _, by rfl, ?_, ?_⟩)); focus (first | exact trivial | fail | exact zQZ)) | fail)) | refine swA ?_); exact hh.out)) : G := h ⟨k⟩
abbrev bCx (n : Int) (l : List Gt) (f w a : Int) : List AC := [.v (.int .i64 n), roG l, .v (.int .i64 f), .v (.int .i64 w), .v (.int .i64 a)]
theorem k_bdS9 (n : Int) (l : List Gt) (f w a : Int) (d : Dd) (hl : l.length ≤ 1000) (hr : -9223372036854775808 ≤ n ∧ n ≤ 9223372036854775807) (h : bok n l f w a = false) : Kon Tryz.prog 45 [bG n l f w a, dV d] [] (.tup [.agg [.v (.int .i64 0), .v (.slice none 0 0), .v (.int .i64 0), .v (.int .i64 0), .v (.int .i64 0)], .one (.v (.bool false))]) [] [] := k_bdo0 n l f w a d hl hr h
def dsT (l : List UInt8) (b : Bool) (L : Int) (x : (BS × List Dd) × Int) : (BS × List Dd) × Int :=
  ((bif b then (doR L x.1.1.1 x.1.1.2.1 x.1.1.2.2 (ddM l L x.1.1.1 x.2).1).1 else x.1.1, x.1.2 ++ [(ddM l L x.1.1.1 x.2).1]), (ddM l L x.1.1.1 x.2).2)
def dsN (l : List UInt8) (b : Bool) (L : Int) (x : (BS × List Dd) × Int) : Nat → (BS × List Dd) × Int
  | 0 => x
  | i + 1 => dsT l b L (dsN l b L x i)
theorem dsN_ok (l : List UInt8) (b : Bool) (L f : Int) (x : (BS × List Dd) × Int) (h : bok L x.1.1.1 f x.1.1.2.1 (x.1.1.2.2 : Int) = b) (hg : x.1.1.1.length ≤ 25) : ∀ i, bok L (dsN l b L x i).1.1.1 f (dsN l b L x i).1.1.2.1 ((dsN l b L x i).1.1.2.2 : Int) = b ∧ (dsN l b L x i).1.1.1.length ≤ 25 ∧ (dsN l b L x i).1.2.length = x.1.2.length + i ∧ x.2 ≤ (dsN l b L x i).2 ∧ (dsN l b L x i).2 ≤ x.2 + 27 * (i : Int)
  | 0 => ⟨h, hg, rfl, Int.le_refl _, by show x.2 ≤ x.2 + 27 * ((0 : Nat) : Int); omega⟩
  | i + 1 => by
    obtain ⟨h1, h2, h3, h4, h5⟩ := dsN_ok l b L f x h hg i
    rw [dsN]
    rcases hx : dsN l b L x i with ⟨⟨⟨gs, w, A⟩, ds⟩, c⟩
    rw [hx] at h1 h2 h3 h4 h5
    dsimp only at h1 h2 h3 h4 h5
    have hd := ddM_bd l L gs c
    unfold dsT
    dsimp only
    have hlen : (ds ++ [(ddM l L gs c).1]).length = x.1.2.length + (i + 1) := by rw [List.length_append]; simp; omega
    cases b with
    | false => exact ⟨h1, h2, hlen, by omega, by omega⟩
    | true =>
      rcases hr : doR L gs w A (ddM l L gs c).1 with ⟨⟨gs2, w2, A2⟩, ok⟩
      have h6 := doR_ok h1 hr
      have h7 := (cokB_t (bok_t h6).1).2.1
      exact ⟨h6, by dsimp only [cond_true]; omega, hlen, by omega, by omega⟩
set_option maxHeartbeats 8000000 in
theorem k_deeds (l : List UInt8) (c : Int) (b : Bool) (L f w : Int) (A : Nat) (gs : List Gt) (h : 0 ≤ c ∧ c ≤ 80000 ∧ l.length ≤ 2000) (hL : 0 ≤ L ∧ L ≤ 8) (hgs : gs.length ≤ 25) (hb : bok L gs f w (A : Int) = b) : Kon Tryz.prog 79 [p0, bG L gs f w (A : Int)] [rdE l c]
    (slA 0 0 (dsN l b L (((gs, w, A), []), c + 1) (pickI l c 14).toNat).1.2) [dRow (dsN l b L (((gs, w, A), []), c + 1) (pickI l c 14).toNat).1.2] [rdE l (dsN l b L (((gs, w, A), []), c + 1) (pickI l c 14).toNat).2] := by
  have hp := pickI_lt (l := l) (c := c) (n := 14) (by omega)
  obtain ⟨m, hm⟩ : ∃ m : Nat, pickI l c 14 = (m : Int) := ⟨(pickI l c 14).toNat, by omega⟩
  rw [hm, Int.toNat_natCast]
  (refine kM Tryz.func79 rfl ?_; intro hfit hfe)
  (repeat (first | refine gq_KMS ?_ | (refine ga1A ?_; intro _q ⟨_he, _hq⟩)))
  rw [hm]
  (refine aw_rd [0] [48] (fun g : ((BS × List Dd) × Int) × Nat => [(5, .g (.one (.sl 176 g.2 g.1.1.2.length))), (6, .g (.one (.ptr 96 0 0))), (7, vI ((m : Int) - (g.2 : Int)))]) (fun g => [(96, (0, .box (bCx L g.1.1.1.1 f g.1.1.1.2.1 (g.1.1.1.2.2 : Int)))), (176, (g.2, dRow g.1.1.2)), (100000, (0, rdE l g.1.2))]) (fun g => g.2 ≤ m ∧ dsN l b L (((gs, w, A), []), c + 1) g.2 = g.1) (fun g => m - g.2) ((((gs, w, A), []), c + 1), 0) (by rfl) (by rfl) ?_ (by rfl) zHE zHE ?_)
  · exact ⟨Nat.zero_le _, rfl⟩
  rintro ⟨⟨⟨⟨x, v, B⟩, ds⟩, c1⟩, i⟩ ⟨hi, hx⟩
  dsimp only at hi hx ⊢
  have hok := dsN_ok l b L f (((gs, w, A), []), c + 1) hb hgs i
  rw [hx] at hok
  dsimp only at hok
  obtain ⟨hbk, hgl, hdl, hc1, hc2⟩ := hok
  simp only [List.length_nil, Nat.zero_add] at hdl
  rcases Nat.lt_or_ge i m with h5 | h5
  · have hd : decide ((m : Int) - (i : Int) > 0) = true := decide_eq_true (by omega)
    have hD := k_deed l c1 L f v B x (by omega) (by omega)
    have hDb := ddM_bd l L x c1
    rcases hd2 : ddM l L x c1 with ⟨d, c2⟩
    rw [hd2] at hD hDb
    dsimp only at hD hDb
    have ex : dsN l b L (((gs, w, A), []), c + 1) (i + 1) = ((bif b then (doR L x v B d).1 else (x, v, B), ds ++ [d]), c2) := by rw [dsN, hx]; unfold dsT; dsimp only; rw [hd2]
    cases b with
    | true =>
      rcases hr : doR L x v B d with ⟨⟨x2, v2, B2⟩, ok⟩
      have hB := kn_doS hbk hr
      have hgl2 := (cokB_t (bok_t (doR_ok hbk hr)).1).2.1
      rw [hr] at ex
      have hinv : i + 1 ≤ m ∧ dsN l true L (((gs, w, A), []), c + 1) (i + 1) = (((x2, v2, B2), ds ++ [d]), c2) := ⟨h5, ex⟩
      cases ok with
      | true =>
        clear hx hd2 hr ex
        (repeat refine gcA ?_)
        (repeat (first | refine gs_KMS ?_ | (refine ga1A ?_; intro _q ⟨_he, _hq⟩)))
        (repeat refine gcA ?_)
        (repeat (first | refine gs_KMS ?_ | (refine ga1A ?_; intro _q ⟨_he, _hq⟩)))
        (repeat refine gcA ?_)
        (repeat (first | refine gs_KMS ?_ | (refine ga1A ?_; intro _q ⟨_he, _hq⟩)))
        (refine aw_freeze 400 (by rfl) (by rfl) ?_; refine aw_box 144 1 (by rfl) (by rfl) (by first | exact trivial | ((repeat' (first | exact rfl | exact cV_len _ | exact cV_ln rfl (by omega) | exact Cel.pos | omega | exact trivial | refine And.intro ?_ ?_)); first | done | fail)) (by rfl) ?_)
        (repeat (first | refine gq_KMS ?_ | (refine ga1A ?_; intro _q ⟨_he, _hq⟩)))
        refine ⟨((((x2, v2, B2), ds ++ [d]), c2), i + 1), hinv, ⟨by rfl, ⟨by rfl, ⟨by rfl, ⟨vI_of (by rfl) (by dsimp only; omega), zHE⟩⟩⟩, zHE⟩, (by first | omega | (dsimp only; omega))⟩
      | false =>
        obtain ⟨e1, e2, e3⟩ := doR_no hr
        rw [e1, e2, e3] at hinv
        clear hx hd2 hr ex e1 e2 e3
        (repeat refine gcA ?_)
        (repeat (first | refine gs_KMS ?_ | (refine ga1A ?_; intro _q ⟨_he, _hq⟩)))
        (repeat refine gcA ?_)
        (repeat (first | refine gs_KMS ?_ | (refine ga1A ?_; intro _q ⟨_he, _hq⟩)))
        (repeat refine gcA ?_)
        (repeat (first | refine gs_KMS ?_ | (refine ga1A ?_; intro _q ⟨_he, _hq⟩)))
        (refine aw_freeze 400 (by rfl) (by rfl) ?_; refine aw_box 144 1 (by rfl) (by rfl) (by first | exact trivial | ((repeat' (first | exact rfl | exact cV_len _ | exact cV_ln rfl (by omega) | exact Cel.pos | omega | exact trivial | refine And.intro ?_ ?_)); first | done | fail)) (by rfl) ?_)
        (repeat (first | refine gq_KMS ?_ | (refine ga1A ?_; intro _q ⟨_he, _hq⟩)))
        refine ⟨((((x, v, B), ds ++ [d]), c2), i + 1), hinv, ⟨by rfl, ⟨by rfl, ⟨by rfl, ⟨vI_of (by rfl) (by dsimp only; omega), zHE⟩⟩⟩, zHE⟩, (by first | omega | (dsimp only; omega))⟩
    | false =>
      have hB := k_bdS9 L x f v B d (by omega) (by omega) hbk
      have hinv : i + 1 ≤ m ∧ dsN l false L (((gs, w, A), []), c + 1) (i + 1) = (((x, v, B), ds ++ [d]), c2) := ⟨h5, ex⟩
      clear hx hd2 ex
      (repeat (first | refine gq_KMS ?_ | (refine ga1A ?_; intro _q ⟨_he, _hq⟩)))
      refine ⟨((((x, v, B), ds ++ [d]), c2), i + 1), hinv, ⟨by rfl, ⟨by rfl, ⟨by rfl, ⟨vI_of (by rfl) (by dsimp only; omega), zHE⟩⟩⟩, zHE⟩, (by first | omega | (dsimp only; omega))⟩
  · obtain rfl : i = m := by omega
    have hd : decide ((i : Int) - (i : Int) > 0) = false := decide_eq_false (by omega)
    rw [hx]
    clear hx
    (repeat (first | refine gq_KMS ?_ | (refine ga1A ?_; intro _q ⟨_he, _hq⟩)))
    (refine rtA ?_; try rfl)
theorem ex_dBR (l : List UInt8) (hl : l.length ≤ 100000000) : ∃ (L f w : Int) (A : Nat) (gs : List Gt) (ds : List Dd), (0 ≤ L ∧ L ≤ 5) ∧ (0 ≤ f ∧ f ≤ 256) ∧ gs.length ≤ 25 ∧ (0 ≤ w ∧ w ≤ 257) ∧ A ≤ 25 ∧ ds.length ≤ 41 ∧ Kon Tryz.prog 34 [roA l] [] (.tup [.agg (bCx L gs f w (A : Int)), .one (.sl 0 0 ds.length)]) [dRow ds] [] := by
  have h2 : (l.take 2000).length ≤ 2000 := by simp; omega
  obtain ⟨L, f, x, c', h3, h4, h5, h6, h7, hK⟩ := ex_bench (l.take 2000) 0 12 (by omega) (by omega)
  have hp30 := pickI_lt (l := l.take 2000) (c := c') (n := 30) (by omega)
  have hp14 := pickI_lt (l := l.take 2000) (c := c' + 1) (n := 14) (by omega)
  have eR : (List.replicate (41 : Int).toNat (Cel.no : Dd)).length = 41 := by simp
  rcases x with _ | ⟨gs, w, A⟩
  · clear h6 h7
    cases hv : (pickI (l.take 2000) c' 30 == 30 - 1) with
    | true =>
      refine ⟨0, 0, 0, 0, [], List.replicate (41 : Int).toNat Cel.no, by omega, by omega, by simp, by omega, by omega, by rw [eR]; omega, ?_⟩
      (refine kM Tryz.func34 rfl ?_; intro hfit hfe)
      (repeat (first | refine gq_KMS ?_ | (refine ga1A ?_; intro _q ⟨_he, _hq⟩)))
      (refine aw_draw mixed T0ok cfU_ok [(208, [1]), (32, [2])] (by rfl) (by kernel_rfl) ?_)
      (repeat (first | refine gs_KMS ?_ | (refine ga1A ?_; intro _q ⟨_he, _hq⟩)))
      refine aw_box 32 4 (by rfl) (by rfl) (by first | exact trivial | ((repeat' (first | exact rfl | exact cV_len _ | exact cV_ln rfl (by omega) | exact Cel.pos | omega | exact trivial | refine And.intro ?_ ?_)); first | done | fail)) (by rfl) ?_
      (repeat (first | refine gq_KMS ?_ | (refine ga1A ?_; intro _q ⟨_he, _hq⟩)))
      (refine rtA ?_; try rfl)
    | false =>
      have hb : bok 0 [] 0 0 ((0 : Nat) : Int) = false := by decide
      have hD := k_deeds (l.take 2000) (c' + 1) false 0 0 0 0 [] (by omega) (by omega) (by simp) hb
      have hn := (dsN_ok (l.take 2000) false 0 0 ((([], 0, 0), []), c' + 1 + 1) hb (by simp) (pickI (l.take 2000) (c' + 1) 14).toNat).2.2.1
      rcases hx : dsN (l.take 2000) false 0 ((([], 0, 0), []), c' + 1 + 1) (pickI (l.take 2000) (c' + 1) 14).toNat with ⟨⟨b, ds⟩, c2⟩
      rw [hx] at hD hn
      dsimp only at hD hn
      simp only [List.length_nil, Nat.zero_add] at hn
      refine ⟨0, 0, 0, 0, [], ds, by omega, by omega, by simp, by omega, by omega, by omega, ?_⟩
      clear hx
      (refine kM Tryz.func34 rfl ?_; intro hfit hfe)
      (repeat (first | refine gq_KMS ?_ | (refine ga1A ?_; intro _q ⟨_he, _hq⟩)))
      (refine aw_draw mixed T0ok cfU_ok [(112, [3]), (272, [3]), (32, [4])] (by rfl) (by kernel_rfl) ?_)
      (repeat (first | refine gs_KMS ?_ | (refine ga1A ?_; intro _q ⟨_he, _hq⟩)))
      refine aw_box 32 4 (by rfl) (by rfl) (by first | exact trivial | ((repeat' (first | exact rfl | exact cV_len _ | exact cV_ln rfl (by omega) | exact Cel.pos | omega | exact trivial | refine And.intro ?_ ?_)); first | done | fail)) (by rfl) ?_
      (repeat (first | refine gq_KMS ?_ | (refine ga1A ?_; intro _q ⟨_he, _hq⟩)))
      (refine rtA ?_; try rfl)
  · obtain ⟨hg, hw, hA, _⟩ := h6 _ rfl
    dsimp only at hg hw hA
    clear h6 h7
    cases hv : (pickI (l.take 2000) c' 30 == 30 - 1) with
    | true =>
      refine ⟨L, f, w, A, gs, List.replicate (41 : Int).toNat Cel.no, by omega, h4, hg, hw, hA, by rw [eR]; omega, ?_⟩
      (refine kM Tryz.func34 rfl ?_; intro hfit hfe)
      (repeat (first | refine gq_KMS ?_ | (refine ga1A ?_; intro _q ⟨_he, _hq⟩)))
      (refine aw_draw mixed T0ok cfU_ok [(208, [1]), (32, [2])] (by rfl) (by kernel_rfl) ?_)
      (repeat (first | refine gs_KMS ?_ | (refine ga1A ?_; intro _q ⟨_he, _hq⟩)))
      refine aw_freeze 144 (by rfl) (by rfl) ?_
      refine aw_box 32 4 (by rfl) (by rfl) (by first | exact trivial | ((repeat' (first | exact rfl | exact cV_len _ | exact cV_ln rfl (by omega) | exact Cel.pos | omega | exact trivial | refine And.intro ?_ ?_)); first | done | fail)) (by rfl) ?_
      (repeat (first | refine gq_KMS ?_ | (refine ga1A ?_; intro _q ⟨_he, _hq⟩)))
      (refine rtA ?_; try rfl)
    | false =>
      obtain ⟨b, hb⟩ : ∃ b, bok L gs f w (A : Int) = b := ⟨_, rfl⟩
      have hD := k_deeds (l.take 2000) (c' + 1) b L f w A gs (by omega) (by omega) hg hb
      have hn := (dsN_ok (l.take 2000) b L f (((gs, w, A), []), c' + 1 + 1) hb hg (pickI (l.take 2000) (c' + 1) 14).toNat).2.2.1
      rcases hx : dsN (l.take 2000) b L (((gs, w, A), []), c' + 1 + 1) (pickI (l.take 2000) (c' + 1) 14).toNat with ⟨⟨b2, ds⟩, c2⟩
      rw [hx] at hD hn
      dsimp only at hD hn
      simp only [List.length_nil, Nat.zero_add] at hn
      refine ⟨L, f, w, A, gs, ds, by omega, h4, hg, hw, hA, by omega, ?_⟩
      clear hx hb
      (refine kM Tryz.func34 rfl ?_; intro hfit hfe)
      (repeat (first | refine gq_KMS ?_ | (refine ga1A ?_; intro _q ⟨_he, _hq⟩)))
      (refine aw_draw mixed T0ok cfU_ok [(112, [3]), (144, [3]), (272, [3]), (32, [4])] (by rfl) (by kernel_rfl) ?_)
      (repeat (first | refine gs_KMS ?_ | (refine ga1A ?_; intro _q ⟨_he, _hq⟩)))
      refine aw_box 32 4 (by rfl) (by rfl) (by first | exact trivial | ((repeat' (first | exact rfl | exact cV_len _ | exact cV_ln rfl (by omega) | exact Cel.pos | omega | exact trivial | refine And.intro ?_ ?_)); first | done | fail)) (by rfl) ?_
      (repeat (first | refine gq_KMS ?_ | (refine ga1A ?_; intro _q ⟨_he, _hq⟩)))
      (refine rtA ?_; try rfl)
end Go.Proofs.YtnenhckongccgaaGreatDoor
