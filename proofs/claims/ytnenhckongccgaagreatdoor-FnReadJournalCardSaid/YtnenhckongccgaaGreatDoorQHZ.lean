/- KMM: laid into one text. -/
import Derived.Test.YtnenhckongccgaaGreatDoorQHY

namespace Go.Proofs.YtnenhckongccgaaGreatDoor
set_option linter.unusedVariables false
set_option linter.unusedSimpArgs false
set_option maxRecDepth 20000
open Go.RowKit
attribute [local irreducible] runA runX AW
def wsTQ : WsT := (87, ([0, 1], true)) :: wsT
theorem gq_KMM {H G : Prop} (k : H) (h : Hid H → G := by (intro hh; repeat1' (first | (first | (refine nxA ?_; (first | (refine q_callF wsTQ wsZ (by rfl) (by rfl) (by rfl) (by rfl) (by first | rfl | (simp [callB]; first | done | decide)) ?_; refine ⟨_, _, _, (by assumption), _, by rfl, ?_, ?_⟩; focus (first | exact trivial | fail | exact zQZ)) | ((first | (refine z_op (by rfl) ?_; first | refine z_ok ?_ ?_ | refine z_ex ?_ (by first | exact zL1 | ((first | fail); exact zWW) | exact zL2 | (first | exact rw_c Int rfl | exact rw_c Gt rfl) | exact zL3 | fail) ?_) | ((first | refine q_callE wsTQ wsZ (by rfl) ?_ | refine q_callVE wsTQ (by rfl) (by rfl) ?_); refine ⟨_, _, _, (by first | assumption | exact k_pick _ _ _ (by omega) | exact k_odd0 _ _ _ (by omega) | exact k_odd _ _ _ (by omega)), _, by rfl, ?_, ?_⟩)); focus (first | exact trivial | fail | exact zQZ)) | fail)) | refine swA ?_) | refine awA ?_); exact hh.out)) : G := h ⟨k⟩
theorem gs_KMM {H G : Prop} (k : H) (h : Hid H → G := by (intro hh; repeat1' (first | (refine nxA ?_; (first | (refine q_callF wsTQ wsZ (by rfl) (by rfl) (by rfl) (by rfl) (by first | rfl | (simp [callB]; first | done | decide)) ?_; refine ⟨_, _, _, (by assumption), _, by rfl, ?_, ?_⟩; focus (first | exact trivial | fail | exact zQZ)) | ((first | (refine z_op (by rfl) ?_; first | refine z_ok ?_ ?_ | refine z_ex ?_ (by first | exact zL1 | ((first | fail); exact zWW) | exact zL2 | (first | exact rw_c Int rfl | exact rw_c Gt rfl) | exact zL3 | fail) ?_) | ((first | refine q_callE wsTQ wsZ (by rfl) ?_ | refine q_callVE wsTQ (by rfl) (by rfl) ?_); refine ⟨_, _, _, (by first | assumption | exact k_pick _ _ _ (by omega) | exact k_odd0 _ _ _ (by omega) | exact k_odd _ _ _ (by omega)), _, by rfl, ?_, ?_⟩)); focus (first | exact trivial | fail | exact zQZ)) | fail)) | refine swA ?_); exact hh.out)) : G := h ⟨k⟩
theorem k_newS (n w : Int) (h : wvB n w = true) : Kon Tryz.prog 86 [vI n, vI w] [] (bS n 0 w w 0) [gRow []] [] := by
  have hW := k_wvS2 n w
  rw [h] at hW
  (refine kM Tryz.func86 rfl ?_; intro hfit hfe)
  (repeat (first | refine gq_KMM ?_ | (refine ga1A ?_; intro _q ⟨_he, _hq⟩)))
  (refine rtA ?_; try rfl)
abbrev tK6 (l : List UInt8) (c : Int) : Int := ([1, 2, 3, 3, 4, 5] : List Int).getD (pickI l c 6).toNat Cel.no
theorem tK6_bd (l : List UInt8) (c : Int) : 1 ≤ tK6 l c ∧ tK6 l c ≤ 5 := by
  have h := pickI_lt (l := l) (c := c) (n := 6) (by omega)
  obtain ⟨k, hk⟩ : ∃ k, (pickI l c 6).toNat = k := ⟨_, rfl⟩
  have h9 : k < 6 := by omega
  unfold tK6
  rw [hk]
  obtain rfl | rfl | rfl | rfl | rfl | rfl : k = 0 ∨ k = 1 ∨ k = 2 ∨ k = 3 ∨ k = 4 ∨ k = 5 := by omega
  all_goals decide
def bst (l : List UInt8) (L : Int) (x : BS × Int) : BS × Int := ((doR L x.1.1 x.1.2.1 x.1.2.2 (ddM l L x.1.1 x.2).1).1, (ddM l L x.1.1 x.2).2)
def bnN (l : List UInt8) (L : Int) (x : BS × Int) : Nat → BS × Int
  | 0 => x
  | i + 1 => bst l L (bnN l L x i)
theorem bnN_ok (l : List UInt8) (L f : Int) (x : BS × Int) (h : bok L x.1.1 f x.1.2.1 x.1.2.2 = true) : ∀ i, bok L (bnN l L x i).1.1 f (bnN l L x i).1.2.1 (bnN l L x i).1.2.2 = true ∧ x.2 ≤ (bnN l L x i).2 ∧ (bnN l L x i).2 ≤ x.2 + 27 * (i : Int)
  | 0 => ⟨h, Int.le_refl _, by show x.2 ≤ x.2 + 27 * ((0 : Nat) : Int); omega⟩
  | i + 1 => by
    obtain ⟨h1, h2, h3⟩ := bnN_ok l L f x h i
    rw [bnN]
    rcases hx : bnN l L x i with ⟨⟨gs, w, A⟩, c⟩
    rw [hx] at h1 h2 h3
    dsimp only at h1 h2 h3
    have hd := ddM_bd l L gs c
    rcases hr : doR L gs w A (ddM l L gs c).1 with ⟨⟨gs2, w2, A2⟩, ok⟩
    have h4 := doR_ok h1 hr
    unfold bst
    dsimp only
    rw [hr]
    exact ⟨h4, by omega, by omega⟩
abbrev kSeven : Gt := ⟨7, 0, 0, 0⟩
def endB (l : List UInt8) (q : Int) (x : BS × Int) : Option BS × Int :=
  bif decide (q > 0) then (bif pickI l x.2 q == q - 1 then (
    bif pickI l (x.2 + 1) 4 == 0 then (some (x.1.1, x.1.2.1 + 1, x.1.2.2), x.2 + 1 + 1)
    else bif pickI l (x.2 + 1) 4 == 1 then (some (x.1.1, x.1.2.1, x.1.1.length + 1), x.2 + 1 + 1)
    else bif pickI l (x.2 + 1) 4 == 2 then (some (x.1.1 ++ [kSeven], x.1.2.1, x.1.2.2), x.2 + 1 + 1)
    else (none, x.2 + 1 + 1)) else (some x.1, x.2 + 1)) else (some x.1, x.2)
def oB (L f : Int) : Option BS → AV
  | some b => bS L b.1.length f b.2.1 b.2.2
  | none => .g (.agg [.v (.int .i64 0), .v (.slice none 0 0), .v (.int .i64 0), .v (.int .i64 0), .v (.int .i64 0)])
def nB : Option BS → List Ent
  | some b => [gRow b.1]
  | none => []
abbrev bwd (l : List UInt8) (c L : Int) : Int := pickI l c (1 * 2 ^ L.toNat)
def bx0 (l : List UInt8) (c : Int) : BS × Int := (([], bwd l (c + 1) (tK6 l c), 0), c + 1 + 1 + 1)
set_option maxHeartbeats 8000000 in
theorem k_bench (l : List UInt8) (c q : Int) (h : 0 ≤ c ∧ c ≤ 80000 ∧ l.length ≤ 2000) (hq : q ≤ 1000) : Kon Tryz.prog 39 [p0, vI q] [rdE l c]
    (oB (tK6 l c) (bwd l (c + 1) (tK6 l c)) (endB l q (bnN l (tK6 l c) (bx0 l c) (pickI l (c + 1 + 1) 20).toNat)).1) (nB (endB l q (bnN l (tK6 l c) (bx0 l c) (pickI l (c + 1 + 1) 20).toNat)).1) [rdE l (endB l q (bnN l (tK6 l c) (bx0 l c) (pickI l (c + 1 + 1) 20).toNat)).2] := by
  have hp6 := pickI_lt (l := l) (c := c) (n := 6) (by omega)
  unfold bx0 bwd
  (refine kM Tryz.func39 rfl ?_; intro hfit hfe)
  (repeat refine gcA ?_)
  (repeat (first | refine gs_KMM ?_ | (refine ga1A ?_; intro _q ⟨_he, _hq⟩)))
  refine aw_cutg [0, 1, 4] [64] (fun g : Int × Int => [(5, vI g.1)]) (fun g => [(100000, (0, rdE l g.2))]) (fun g => g = (tK6 l c, c + 1)) (by rfl) (by rfl) ?_ ?_
  · (repeat (first | refine gq_KMM ?_ | (refine ga1A ?_; intro _q ⟨_he, _hq⟩)))
    exact ⟨(tK6 l c, c + 1), rfl, ⟨by rfl, zHE, zHE⟩⟩
  rintro ⟨L, c1⟩ he
  obtain ⟨e1, e2⟩ := Prod.mk.inj he
  have hLb := tK6_bd l c
  rw [← e1] at hLb ⊢
  subst e2
  clear he
  dsimp only
  have h2L := pow_8 (n := L) (by omega)
  have hpw := pickI_lt (l := l) (c := c + 1) (n := 1 * 2 ^ L.toNat) (by omega)
  have hwv : wvB L (pickI l (c + 1) (1 * 2 ^ L.toNat)) = true := by
    unfold wvB btw
    rw [decide_eq_true (by omega), decide_eq_true (by omega), decide_eq_true (by omega), decide_eq_true (by omega)]; rfl
  have hN := k_newS L (pickI l (c + 1) (1 * 2 ^ L.toNat)) hwv
  have hp20 := pickI_lt (l := l) (c := c + 1 + 1) (n := 20) (by omega)
  obtain ⟨wd, hwd⟩ : ∃ wd, pickI l (c + 1) (1 * 2 ^ L.toNat) = wd := ⟨_, rfl⟩
  obtain ⟨m, hm⟩ : ∃ m : Nat, pickI l (c + 1 + 1) 20 = (m : Int) := ⟨(pickI l (c + 1 + 1) 20).toNat, by omega⟩
  have hb0 : bok L [] wd wd ((0 : Nat) : Int) = true := bok_mk (by omega) (by simp) rfl (by rw [← hwd]; exact hwv) (Nat.le_refl _) rfl
  rw [hwd] at hN ⊢
  rw [hm, Int.toNat_natCast]
  (repeat refine gcA ?_)
  (repeat (first | refine gs_KMM ?_ | (refine ga1A ?_; intro _q ⟨_he, _hq⟩)))
  subst _he
  rw [hwd]
  (repeat (first | refine gs_KMM ?_ | (refine ga1A ?_; intro _q ⟨_he, _hq⟩)))
  refine aw_mv 320 97 96 (by rfl) (by rfl) (by rfl) (by rfl) ?_
  (repeat refine gcA ?_)
  (repeat (first | refine gs_KMM ?_ | (refine ga1A ?_; intro _q ⟨_he, _hq⟩)))
  rw [hm]
  (repeat refine gcA ?_)
  (refine aw_rd [0, 1, 4, 5, 6] [64] (fun g : (BS × Int) × Nat × Nat => [(7, vI ((m : Int) - (g.2.1 : Int)))]) (fun g => [(96, (0, .box [.v (.int .i64 L), .sl 97 g.2.2 g.1.1.1.length, .v (.int .i64 wd), .v (.int .i64 g.1.1.2.1), .v (.int .i64 (g.1.1.2.2 : Int))])), (97, (g.2.2, gRow g.1.1.1)), (100000, (0, rdE l g.1.2))]) (fun g => g.2.1 ≤ m ∧ bnN l L (([], wd, 0), c + 1 + 1 + 1) g.2.1 = g.1) (fun g => m - g.2.1) ((([], wd, 0), c + 1 + 1 + 1), 0, 0) (by rfl) (by rfl) ?_ (by rfl) zHE zHE ?_)
  · exact ⟨Nat.zero_le _, rfl⟩
  rintro ⟨⟨⟨gs, w, A⟩, c1⟩, i, v⟩ ⟨hi, hx⟩
  dsimp only at hi hx ⊢
  have hok := bnN_ok l L wd (([], wd, 0), c + 1 + 1 + 1) hb0 i
  rw [hx] at hok
  dsimp only at hok
  obtain ⟨hbk, hc1, hc2⟩ := hok
  have hgl := (cokB_t (bok_t hbk).1).2.1
  have hwb : 0 ≤ w ∧ w ≤ 256 := by
    obtain ⟨q1, q2, q3, q4⟩ := bok_t hbk
    have hfv := wvB_t q2
    have := cr_lt (all_take (cokB_t q1).2.2 ((A : Int).toNat)) ⟨hfv.2.1, hfv.2.2.1⟩
    rw [← q4] at this
    omega
  rcases Nat.lt_or_ge i m with h5 | h5
  · have hd : decide ((m : Int) - (i : Int) > 0) = true := decide_eq_true (by omega)
    have hD := k_deedO l c1 L wd w A gs (by omega) (by omega)
    have hDb := ddM_bd l L gs c1
    rcases hd2 : ddM l L gs c1 with ⟨d, c2⟩
    rw [hd2] at hD hDb
    dsimp only at hD hDb
    rcases hr : doR L gs w A d with ⟨⟨gs2, w2, A2⟩, ok⟩
    have hB := kn_doS hbk hr
    have hgl2 := (cokB_t (bok_t (doR_ok hbk hr)).1).2.1
    have hinv : i + 1 ≤ m ∧ bnN l L (([], wd, 0), c + 1 + 1 + 1) (i + 1) = ((gs2, w2, A2), c2) := ⟨h5, by rw [bnN, hx]; unfold bst; dsimp only; rw [hd2]; dsimp only; rw [hr]⟩
    cases ok with
    | true =>
      clear hx hd2 hr
      (repeat (first | refine gq_KMM ?_ | (refine ga1A ?_; intro _q ⟨_he, _hq⟩)))
      (refine aw_draw mixed T0ok cfU_ok [(100000, [3]), (97, [3, 4]), (512, [4, 9]), (128, [8, 9])] (by rfl) (by kernel_rfl) ?_)
      (repeat (first | refine gs_KMM ?_ | (refine ga1A ?_; intro _q ⟨_he, _hq⟩)))
      (repeat refine gcA ?_)
      (repeat (first | refine gs_KMM ?_ | (refine ga1A ?_; intro _q ⟨_he, _hq⟩)))
      (repeat refine gcA ?_)
      (repeat (first | refine gs_KMM ?_ | (refine ga1A ?_; intro _q ⟨_he, _hq⟩)))
      change AW _ _ _ _ _
      refine aw_mv 512 97 96 (by rfl) (by rfl) (by rfl) (by rfl) ?_
      (repeat (first | refine gq_KMM ?_ | (refine ga1A ?_; intro _q ⟨_he, _hq⟩)))
      refine ⟨(((gs2, w2, A2), c2), i + 1, v + 1), hinv, ⟨by rfl, ⟨vI_of (by rfl) (by dsimp only; omega), zHE⟩, zHE⟩, (by first | omega | (dsimp only; omega))⟩
    | false =>
      obtain ⟨e1, e2, e3⟩ := doR_no hr
      rw [e1, e2, e3] at hinv
      clear hx hd2 hr e1 e2 e3
      (repeat (first | refine gq_KMM ?_ | (refine ga1A ?_; intro _q ⟨_he, _hq⟩)))
      (refine aw_draw mixed T0ok cfU_ok [(100000, [3]), (97, [3, 4]), (512, [4, 9]), (128, [8, 9])] (by rfl) (by kernel_rfl) ?_)
      (repeat (first | refine gq_KMM ?_ | (refine ga1A ?_; intro _q ⟨_he, _hq⟩)))
      refine ⟨(((gs, w, A), c2), i + 1, v), hinv, ⟨by rfl, ⟨vI_of (by rfl) (by dsimp only; omega), zHE⟩, zHE⟩, (by first | omega | (dsimp only; omega))⟩
  · obtain rfl : i = m := by omega
    have hd : decide ((i : Int) - (i : Int) > 0) = false := decide_eq_false (by omega)
    rw [hx]
    have hp4 := pickI_lt (l := l) (c := c1 + 1) (n := 4) (by omega)
    cases hq0 : decide (q > 0) with
    | false =>
      have hq1 : q ≤ 0 := by have := of_decide_eq_false hq0; omega
      have e : endB l q ((gs, w, A), c1) = (some (gs, w, A), c1) := by rw [endB, hq0]; rfl
      rw [e]
      clear e hx
      (repeat (first | refine gq_KMM ?_ | (refine ga1A ?_; intro _q ⟨_he, _hq⟩)))
      (refine rtA ?_; try rfl)
    | true =>
      have hq1 : 0 < q := of_decide_eq_true hq0
      cases hv : (pickI l c1 q == q - 1) with
      | false =>
        have e : endB l q ((gs, w, A), c1) = (some (gs, w, A), c1 + 1) := by rw [endB, hq0]; dsimp only [cond_true]; rw [hv]; rfl
        rw [e]
        clear e hx
        (repeat (first | refine gq_KMM ?_ | (refine ga1A ?_; intro _q ⟨_he, _hq⟩)))
        (refine rtA ?_; try rfl)
      | true =>
        cases h0 : (pickI l (c1 + 1) 4 == 0)
        rotate_left
        · have e : endB l q ((gs, w, A), c1) = (some (gs, w + 1, A), c1 + 1 + 1) := by rw [endB, hq0]; dsimp only [cond_true]; rw [hv]; dsimp only [cond_true]; rw [h0]; rfl
          rw [e]
          clear e hx
          (repeat (first | refine gq_KMM ?_ | (refine ga1A ?_; intro _q ⟨_he, _hq⟩)))
          (refine rtA ?_; try rfl)
        cases h1 : (pickI l (c1 + 1) 4 == 1)
        rotate_left
        · have e : endB l q ((gs, w, A), c1) = (some (gs, w, gs.length + 1), c1 + 1 + 1) := by rw [endB, hq0]; dsimp only [cond_true]; rw [hv]; dsimp only [cond_true]; rw [h0, h1]; rfl
          rw [e]
          clear e hx
          (repeat (first | refine gq_KMM ?_ | (refine ga1A ?_; intro _q ⟨_he, _hq⟩)))
          (refine rtA ?_; try rfl)
        cases h2 : (pickI l (c1 + 1) 4 == 2)
        rotate_left
        · have e : endB l q ((gs, w, A), c1) = (some (gs ++ [kSeven], w, A), c1 + 1 + 1) := by rw [endB, hq0]; dsimp only [cond_true]; rw [hv]; dsimp only [cond_true]; rw [h0, h1, h2]; rfl
          rw [e]
          clear e hx
          (repeat (first | refine gq_KMM ?_ | (refine ga1A ?_; intro _q ⟨_he, _hq⟩)))
          (refine rtA ?_; try rfl)
        · have e : endB l q ((gs, w, A), c1) = (none, c1 + 1 + 1) := by rw [endB, hq0]; dsimp only [cond_true]; rw [hv]; dsimp only [cond_true]; rw [h0, h1, h2]; rfl
          rw [e]
          clear e hx
          (repeat (first | refine gq_KMM ?_ | (refine ga1A ?_; intro _q ⟨_he, _hq⟩)))
          (refine rtA ?_; try rfl)
end Go.Proofs.YtnenhckongccgaaGreatDoor
