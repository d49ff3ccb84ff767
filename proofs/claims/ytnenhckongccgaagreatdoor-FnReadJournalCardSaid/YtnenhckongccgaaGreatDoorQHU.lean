/- KMJ, KMK, PBL, LNC, LNX, LNY: laid into one text. -/
import Derived.Test.YtnenhckongccgaaGreatDoorQHF
import Derived.Test.YtnenhckongccgaaGreatDoorQHH
import Derived.Test.YtnenhckongccgaaGreatDoorQHI
import Derived.Test.YtnenhckongccgaaGreatDoorQHJ
import Derived.Test.YtnenhckongccgaaGreatDoorQHK
import Derived.Test.YtnenhckongccgaaGreatDoorQHN
import Derived.Test.YtnenhckongccgaaGreatDoorQHO
import Derived.Test.YtnenhckongccgaaGreatDoorQHS
import Derived.Test.YtnenhckongccgaaGreatDoorQHT

namespace Go.Proofs.YtnenhckongccgaaGreatDoor
set_option linter.unusedVariables false
set_option linter.unusedSimpArgs false
set_option maxRecDepth 20000
open Go.RowKit
attribute [local irreducible] runA runX AW
def doR (n : Int) (l : List Gt) (w : Int) (A : Nat) (d : Dd) : (List Gt × Int × Nat) × Bool := match doM n l w A d with
  | some r => (r, true)
  | none => ((l, w, A), false)
theorem doR_ok {n : Int} {l l' : List Gt} {f w w' : Int} {A A' : Nat} {d : Dd} {ok : Bool} (h : bok n l f w A = true) (hR : doR n l w A d = ((l', w', A'), ok)) : bok n l' f w' A' = true := by
  unfold doR at hR
  split at hR
  · rename_i r hd
    cases hR
    exact doM_ok h hd
  · cases hR; exact h
theorem nm_gZ {p : Gt} (h : (p.k == 0 && (p.a == 0 && (p.b == 0 && p.c == 0))) = true) : p = gZ := by
  obtain ⟨k, a, b, c⟩ := p
  simp only [Bool.and_eq_true, beq_iff_eq] at h
  obtain ⟨rfl, rfl, rfl, rfl⟩ := h
  rfl
theorem nm_X {d : Dd} (h : d.k < 0 ∨ 4 < d.k) : nmD d = false := by
  unfold nmD
  rw [if_neg (by omega), if_neg (by omega), if_neg (by omega)]
theorem kn_doI {n : Int} {l l' : List Gt} {f w w' : Int} {A A' : Nat} {d : Dd} {ok : Bool} (h : bok n l f w A = true) (hR : doR n l w A d = ((l', w', A'), ok)) : Kon Tryz.prog 82 [bG n l f w (A : Int), dV d] [] (bR n l' f w' (A' : Int) ok) [] [] := by
  obtain ⟨hc, hf, hA, hwe⟩ := bok_t h
  obtain ⟨hn, hl24, ha⟩ := cokB_t hc
  obtain ⟨k, m, p⟩ := d
  by_cases hk : k < 0 ∨ 4 < k
  · have hnm : nmD ⟨k, m, p⟩ = false := nm_X hk
    unfold doR doM at hR
    rw [hnm] at hR
    cases hR
    exact k_doN n l f w A _ hk
  unfold doR doM at hR
  obtain rfl | rfl | rfl | rfl | rfl : k = 0 ∨ k = 1 ∨ k = 2 ∨ k = 3 ∨ k = 4 := by omega
  · have hnm : nmD ⟨0, m, p⟩ = (p.k == 0 && (p.a == 0 && (p.b == 0 && p.c == 0))) := rfl
    rw [hnm] at hR
    cases hp : (p.k == 0 && (p.a == 0 && (p.b == 0 && p.c == 0))) with
    | false =>
      rw [hp] at hR; cases hR
      exact k_doG n l f w A _ f w A false (.inl rfl) (k_goneX n l f w A ⟨0, m, p⟩ h (.inl rfl) (.inl (by dsimp only; rw [hp]; rfl)))
    | true =>
      obtain rfl := nm_gZ hp
      cases hb : btw m 1 ((l.length : Int) - A) with
      | false =>
        simp only [hp, cond_true, if_true, hb, cond_false] at hR; cases hR
        exact k_doG n l f w A _ f w A false (.inl rfl) (k_goneX n l f w A ⟨0, m, gZ⟩ h (.inl rfl) (.inr hb))
      | true =>
        simp only [hp, cond_true, if_true, hb] at hR; cases hR
        have hb2 := btw_t hb
        obtain ⟨m, rfl⟩ : ∃ m' : Nat, m = (m' : Int) := ⟨m.toNat, by omega⟩
        exact k_doG n l f w A _ f _ _ true (.inl rfl) (k_goneF n l f w A m h (by omega))
  · have hnm : nmD ⟨1, m, p⟩ = (p.k == 0 && (p.a == 0 && (p.b == 0 && p.c == 0))) := rfl
    rw [hnm] at hR
    cases hp : (p.k == 0 && (p.a == 0 && (p.b == 0 && p.c == 0))) with
    | false =>
      rw [hp] at hR; cases hR
      exact k_doG n l f w A _ f w A false (.inr rfl) (k_goneX n l f w A ⟨1, m, p⟩ h (.inr rfl) (.inl (by dsimp only; rw [hp]; rfl)))
    | true =>
      obtain rfl := nm_gZ hp
      cases hb : btw m 1 (A : Int) with
      | false =>
        simp only [hp, cond_true, if_true, hb, cond_false, if_neg (show ¬ (1 : Int) = 0 by decide)] at hR; cases hR
        exact k_doG n l f w A _ f w A false (.inr rfl) (k_goneX n l f w A ⟨1, m, gZ⟩ h (.inr rfl) (.inr hb))
      | true =>
        simp only [hp, cond_true, if_true, hb, if_neg (show ¬ (1 : Int) = 0 by decide)] at hR; cases hR
        have hb2 := btw_t hb
        obtain ⟨m, rfl⟩ : ∃ m' : Nat, m = (m' : Int) := ⟨m.toNat, by omega⟩
        have hG := k_goneB n l f w A m h (by omega)
        rw [show (A : Int) - (m : Int) = ((A - m : Nat) : Int) by omega] at hG
        exact k_doG n l f w A _ f _ _ true (.inr rfl) hG
  · have hnm : nmD ⟨2, m, p⟩ = (m == 0) := rfl
    rw [hnm] at hR
    cases hp : (m == 0) with
    | false =>
      rw [hp] at hR; cases hR
      exact k_doPf n l f w A m p h (.inl (by simpa using hp))
    | true =>
      obtain rfl : m = 0 := by simpa using hp
      cases hb : (gok n p && decide (l.length < 24)) with
      | false =>
        simp only [hp, cond_true, if_true, hb, cond_false, if_neg (show ¬ (2 : Int) = 0 by decide), if_neg (show ¬ (2 : Int) = 1 by decide)] at hR; cases hR
        refine k_doPf n l f w A 0 p h (.inr ?_)
        rw [Bool.and_eq_false_iff] at hb
        exact hb.imp id fun h => by have := of_decide_eq_false h; omega
      | true =>
        simp only [hp, cond_true, if_true, hb, if_neg (show ¬ (2 : Int) = 0 by decide), if_neg (show ¬ (2 : Int) = 1 by decide)] at hR; cases hR
        rw [Bool.and_eq_true, decide_eq_true_eq] at hb
        exact k_doP n l f w A p hb.2 h hb.1
  · cases hnm : nmD ⟨3, m, p⟩ with
    | false =>
      rw [hnm] at hR; cases hR
      exact k_doTf n l f w A m p h (.inl hnm)
    | true =>
      cases hb : decide (A < l.length) with
      | false =>
        simp only [hnm, cond_true, if_true, hb, cond_false, if_neg (show ¬ (3 : Int) = 0 by decide), if_neg (show ¬ (3 : Int) = 1 by decide), if_neg (show ¬ (3 : Int) = 2 by decide)] at hR; cases hR
        exact k_doTf n l f w A m p h (.inr (by have := of_decide_eq_false hb; omega))
      | true =>
        simp only [hnm, cond_true, if_true, hb, if_neg (show ¬ (3 : Int) = 0 by decide), if_neg (show ¬ (3 : Int) = 1 by decide), if_neg (show ¬ (3 : Int) = 2 by decide)] at hR; cases hR
        have e : nmD ⟨3, m, p⟩ = (m == 0 && (p.k == 0 && (p.a == 0 && (p.b == 0 && p.c == 0)))) := by simp [nmD]
        rw [e, Bool.and_eq_true] at hnm
        obtain rfl : m = 0 := by simpa using hnm.1
        obtain rfl := nm_gZ hnm.2
        exact k_doT n l f w A (of_decide_eq_true hb) h
  · have t1 : (l.take A).length = A := by rw [List.length_take]; omega
    have t2 : (l.drop A).length = l.length - A := List.length_drop
    have b1 := shr_len (l.take A).length (l.take A)
    have b2 := shr_len (l.drop A).length (l.drop A)
    have hB := k_shI n (l.take A) (all_take ha A) (by omega)
    have hC := k_shI n (l.drop A) (all_dropT ha A) (by omega)
    generalize shr (l.take A) (l.take A).length = B at *
    generalize shr (l.drop A) (l.drop A).length = C at *
    cases hnm : nmD ⟨4, m, p⟩ with
    | false =>
      rw [hnm] at hR; cases hR
      exact k_doSf n l f w A m p B C h hB hC (by omega) (.inl hnm)
    | true =>
      cases hb : decide (B.length + C.length = l.length) with
      | true =>
        simp only [hnm, cond_true, hb, if_neg (show ¬ (4 : Int) = 0 by decide), if_neg (show ¬ (4 : Int) = 1 by decide), if_neg (show ¬ (4 : Int) = 2 by decide), if_neg (show ¬ (4 : Int) = 3 by decide)] at hR; cases hR
        exact k_doSf n l f w A m p B C h hB hC (by omega) (.inr (of_decide_eq_true hb))
      | false =>
        simp only [hnm, cond_true, hb, cond_false, if_neg (show ¬ (4 : Int) = 0 by decide), if_neg (show ¬ (4 : Int) = 1 by decide), if_neg (show ¬ (4 : Int) = 2 by decide), if_neg (show ¬ (4 : Int) = 3 by decide)] at hR; cases hR
        exact k_doS n l f w A m p B C h hB hC (by omega) hnm (of_decide_eq_false hb)
theorem kn_doS {n : Int} {l l' : List Gt} {f w w' : Int} {A A' : Nat} {d : Dd} {ok : Bool} (h : bok n l f w A = true) (hR : doR n l w A d = ((l', w', A'), ok)) : Kon Tryz.prog 45 [bG n l f w (A : Int), dV d] [] (bT n l' f w' (A' : Int) ok) [gRow l'] [] := by
  obtain ⟨hc, hf, hA, hwe⟩ := bok_t h
  obtain ⟨hn, hl24, ha⟩ := cokB_t hc
  obtain ⟨k, m, p⟩ := d
  by_cases hk : k < 0 ∨ 4 < k
  · have hnm : nmD ⟨k, m, p⟩ = false := nm_X hk
    unfold doR doM at hR
    rw [hnm] at hR
    cases hR
    exact k_bdoN n l f w A _ (by omega) (by omega) h (k_namedX _ hk)
  have hN : Kon Tryz.prog 96 [dV ⟨k, m, p⟩] [] (vB (nmD ⟨k, m, p⟩)) [] [] := by
    obtain rfl | rfl | rfl | rfl | rfl : k = 0 ∨ k = 1 ∨ k = 2 ∨ k = 3 ∨ k = 4 := by omega
    · exact k_named0 _ rfl
    · exact k_named1 _ rfl
    · exact k_named2 _ rfl
    · exact k_named3 _ rfl
    · exact k_named4 _ rfl
  unfold doR doM at hR
  cases hnm : nmD ⟨k, m, p⟩ with
  | false =>
    rw [hnm] at hN hR
    cases hR
    exact k_bdoN n l f w A _ (by omega) (by omega) h hN
  | true =>
    rw [hnm] at hN
    obtain rfl | rfl | rfl | rfl | rfl : k = 0 ∨ k = 1 ∨ k = 2 ∨ k = 3 ∨ k = 4 := by omega
    · cases hb : btw m 1 ((l.length : Int) - A) with
      | false =>
        simp only [hnm, cond_true, if_true, hb, cond_false] at hR; cases hR
        exact k_bdo0f n l f w A m p h hN hb
      | true =>
        simp only [hnm, cond_true, if_true, hb] at hR; cases hR
        have hb2 := btw_t hb
        obtain ⟨m, rfl⟩ : ∃ m' : Nat, m = (m' : Int) := ⟨m.toNat, by omega⟩
        exact k_bdoF n l f w A m p (by omega) h hN (by omega)
    · cases hb : btw m 1 (A : Int) with
      | false =>
        simp only [hnm, cond_true, if_true, hb, cond_false, if_neg (show ¬ (1 : Int) = 0 by decide)] at hR; cases hR
        exact k_bdo1f n l f w A m p h hN hb
      | true =>
        simp only [hnm, cond_true, if_true, hb, if_neg (show ¬ (1 : Int) = 0 by decide)] at hR; cases hR
        have hb2 := btw_t hb
        obtain ⟨m, rfl⟩ : ∃ m' : Nat, m = (m' : Int) := ⟨m.toNat, by omega⟩
        have hG := k_bdoB n l f w A m p (by omega) h hN (by omega)
        rw [show (A : Int) - (m : Int) = ((A - m : Nat) : Int) by omega] at hG
        exact hG
    · have hm : m = 0 := by
        have e : nmD ⟨2, m, p⟩ = (m == 0) := rfl
        rw [e] at hnm; simpa using hnm
      subst hm
      cases hb : (gok n p && decide (l.length < 24)) with
      | false =>
        simp only [hnm, cond_true, if_true, hb, cond_false, if_neg (show ¬ (2 : Int) = 0 by decide), if_neg (show ¬ (2 : Int) = 1 by decide)] at hR; cases hR
        refine k_bdo2f n l f w A 0 p h hN ?_
        rw [Bool.and_eq_false_iff] at hb
        exact hb.imp id fun h => by have := of_decide_eq_false h; omega
      | true =>
        simp only [hnm, cond_true, if_true, hb, if_neg (show ¬ (2 : Int) = 0 by decide), if_neg (show ¬ (2 : Int) = 1 by decide)] at hR; cases hR
        rw [Bool.and_eq_true, decide_eq_true_eq] at hb
        have hG := k_bdoP n l f w A p hb.2 h hN hb.1
        rw [List.append_assoc] at hG
        exact hG
    · cases hb : decide (A < l.length) with
      | false =>
        simp only [hnm, cond_true, if_true, hb, cond_false, if_neg (show ¬ (3 : Int) = 0 by decide), if_neg (show ¬ (3 : Int) = 1 by decide), if_neg (show ¬ (3 : Int) = 2 by decide)] at hR; cases hR
        exact k_bdo3f n l f w A m p h hN (by have := of_decide_eq_false hb; omega)
      | true =>
        simp only [hnm, cond_true, if_true, hb, if_neg (show ¬ (3 : Int) = 0 by decide), if_neg (show ¬ (3 : Int) = 1 by decide), if_neg (show ¬ (3 : Int) = 2 by decide)] at hR; cases hR
        exact k_bdoT n l f w m A p (of_decide_eq_true hb) h hN
    · have t1 : (l.take A).length = A := by rw [List.length_take]; omega
      have t2 : (l.drop A).length = l.length - A := List.length_drop
      have b1 := shr_len (l.take A).length (l.take A)
      have b2 := shr_len (l.drop A).length (l.drop A)
      have hB := k_shortO n (l.take A) (by omega) (cokB_take hc A)
      have hC := k_shortO n (l.drop A) (by omega) (cokB_mk3 hn (by omega) (all_dropT ha A))
      generalize shr (l.take A) (l.take A).length = B at *
      generalize shr (l.drop A) (l.drop A).length = C at *
      cases hb : decide (B.length + C.length = l.length) with
      | true =>
        simp only [hnm, cond_true, hb, if_neg (show ¬ (4 : Int) = 0 by decide), if_neg (show ¬ (4 : Int) = 1 by decide), if_neg (show ¬ (4 : Int) = 2 by decide), if_neg (show ¬ (4 : Int) = 3 by decide)] at hR; cases hR
        exact k_bdoSf n l f w m A p B C h hN hB hC (by omega) (of_decide_eq_true hb)
      | false =>
        simp only [hnm, cond_true, hb, cond_false, if_neg (show ¬ (4 : Int) = 0 by decide), if_neg (show ¬ (4 : Int) = 1 by decide), if_neg (show ¬ (4 : Int) = 2 by decide), if_neg (show ¬ (4 : Int) = 3 by decide)] at hR; cases hR
        have hG := k_bdoSt n l f w m A p B C h hN hB hC (by omega) (of_decide_eq_false hb)
        rw [show (((B ++ C).length : Int) - (C.length : Int)) = (B.length : Int) by rw [List.length_append]; omega] at hG
        exact hG
def wsTK : WsT := (82, ([], true)) :: wsT
theorem gq_KMK {H G : Prop} (k : H) (h : Hid H → G := by (intro hh; repeat1' (first | (first | (refine nxA ?_; (first | fail | ((first | (refine z_op (by rfl) ?_; first | refine z_ok ?_ ?_ | refine z_ex ?_ (by first | exact zL1 | ((first | fail); exact zWW) | exact zL2 | fail | exact zL3 | fail) ?_) | ((first | refine q_callE wsTK wsZ (by rfl) ?_ | refine q_callVE wsTK (by rfl) (by rfl) ?_); refine ⟨_, _, _, (by first | assumption | exact k_copyS _ _ _ _ _ (by omega)), _, by rfl, ?_, ?_⟩)); focus (first | exact trivial | fail | exact zQZ)) | fail)) | refine swA ?_) | refine awA ?_); exact hh.out)) : G := h ⟨k⟩
abbrev BS := List Gt × Int × Nat
def stB (n : Int) (s : BS × Nat) (d : Dd) : BS × Nat := ((doR n s.1.1 s.1.2.1 s.1.2.2 d).1, if (doR n s.1.1 s.1.2.1 s.1.2.2 d).2 then s.2 + 1 else s.2)
def runM (n : Int) (s : BS × Nat) (ds : List Dd) : BS × Nat := ds.foldl (stB n) s
theorem runM_drop {n : Int} {s : BS × Nat} {ds : List Dd} {i : Nat} (h : i < ds.length) : runM n s (ds.drop i) = runM n (stB n s (ds.getD i Cel.no)) (ds.drop (i + 1)) := by
  have e : ds.getD i Cel.no = ds[i] := by simp [List.getD_eq_getElem?_getD, h]
  rw [List.drop_eq_getElem_cons h, e]; rfl
theorem doR_no {n : Int} {l l' : List Gt} {w w' : Int} {A A' : Nat} {d : Dd} (h : doR n l w A d = ((l', w', A'), false)) : l' = l ∧ w' = w ∧ A' = A := by
  unfold doR at h
  split at h
  · cases h
  · cases h; exact ⟨rfl, rfl, rfl⟩
theorem bs_inj {n : Int} {l l' : List Gt} {w w' : Int} {A A' q m : Nat} (h : runM n ((l, w, A), q) [] = ((l', w', A'), m)) : l = l' ∧ w = w' ∧ A = A' ∧ q = m := by
  have h2 : (((l, w, A), q) : BS × Nat) = ((l', w', A'), m) := h
  cases h2
  exact ⟨rfl, rfl, rfl, rfl⟩
abbrev bCr (n : Int) (l : List Gt) (f w a : Int) : List AC := [.v (.int .i64 n), roG l, .v (.int .i64 f), .v (.int .i64 w), .v (.int .i64 a)]
abbrev bN (n : Int) (l : List Gt) (f w a : Int) (m : Int) : AV := .tup [.agg [.v (.int .i64 n), .sl 0 0 l.length, .v (.int .i64 f), .v (.int .i64 w), .v (.int .i64 a)], .one (.v (.int .i64 m))]
abbrev bN0 : AV := .tup [.agg [.v (.int .i64 0), .v (.slice none 0 0), .v (.int .i64 0), .v (.int .i64 0), .v (.int .i64 0)], .one (.v (.int .i64 0))]
theorem k_brI0 (n : Int) (l : List Gt) (f w a : Int) (ds : List Dd) (hl : l.length ≤ 10000000) (hr : -9223372036854775808 ≤ n ∧ n ≤ 9223372036854775807) (h : bok n l f w a = false ∨ 40 < ds.length) (hdl : ds.length ≤ 10000000) : Kon Tryz.prog 36 [bG n l f w a, roA ds] [] bN0 [] [] := by
  have hB := k_bv n l f w a (by omega) hr
  cases hb : bok n l f w a with
  | false =>
    rw [hb] at hB
    (refine kM Tryz.func36 rfl ?_; intro hfit hfe)
    (repeat (first | refine gq_KMK ?_ | (refine ga1A ?_; intro _q ⟨_he, _hq⟩)))
    (refine rtA ?_; try rfl)
  | true =>
    rw [hb] at hB
    have hd : decide ((ds.length : Int) > 40) = true := decide_eq_true (by
      rcases h with h | h
      · rw [hb] at h; cases h
      · omega)
    (refine kM Tryz.func36 rfl ?_; intro hfit hfe)
    (repeat (first | refine gq_KMK ?_ | (refine ga1A ?_; intro _q ⟨_he, _hq⟩)))
    (refine rtA ?_; try rfl)
set_option maxHeartbeats 4000000 in
theorem kn_brI {n : Int} {l l' : List Gt} {f w w' : Int} {A A' m : Nat} {ds : List Dd} (h : bok n l f w A = true) (hdl : ds.length ≤ 40) (hR : runM n ((l, w, A), 0) ds = ((l', w', A'), m)) : Kon Tryz.prog 36 [bG n l f w (A : Int), roA ds] [] (bN n l' f w' (A' : Int) (m : Int)) [gRow l'] [] := by
  have hn := (cokB_t (bok_t h).1).1
  have hl := (cokB_t (bok_t h).1).2.1
  have hB := k_bv n l f w A (by omega) (by omega)
  rw [h] at hB
  have hd40 : decide ((ds.length : Int) > 40) = false := decide_eq_false (by omega)
  (refine kM Tryz.func36 rfl ?_; intro hfit hfe)
  (repeat (first | refine gq_KMK ?_ | (refine ga1A ?_; intro _q ⟨_he, _hq⟩)))
  (refine aw_rd [0, 1, 2, 4, 20, 21] [64] (fun g : (BS × Nat) × Nat => [(6, vI (g.1.2 : Int)), (22, vI (g.2 : Int))]) (fun g => [(32, (0, .box (bCr n g.1.1.1 f g.1.1.2.1 (g.1.1.2.2 : Int))))]) (fun g => g.2 ≤ ds.length ∧ g.1.2 ≤ g.2 ∧ bok n g.1.1.1 f g.1.1.2.1 (g.1.1.2.2 : Int) = true ∧ runM n g.1 (ds.drop g.2) = ((l', w', A'), m)) (fun g => ds.length - g.2) (((l, w, A), 0), 0) (by rfl) (by rfl) ?_ (by rfl) zHE zHE ?_)
  · exact ⟨Nat.zero_le _, Nat.le_refl _, h, hR⟩
  rintro ⟨⟨⟨x, v, B⟩, q⟩, i⟩ ⟨hi, hq, hb, hz⟩
  dsimp only at hi hq hb hz ⊢
  rcases Nat.lt_or_ge i ds.length with h5 | h5
  · have hd : decide ((i : Int) < (ds.length : Int)) = true := decide_eq_true (by omega)
    rw [runM_drop h5] at hz
    obtain ⟨d, hde⟩ : ∃ d, ds.getD i Cel.no = d := ⟨_, rfl⟩
    rw [hde] at hz
    rcases hr2 : doR n x v B d with ⟨⟨x2, v2, B2⟩, ok⟩
    have hD := kn_doI hb hr2
    have hb2 := doR_ok hb hr2
    have hdn : ds.getD (i : Int).toNat Cel.no = d := hde
    cases ok with
    | true =>
      have es : stB n ((x, v, B), q) d = ((x2, v2, B2), q + 1) := by unfold stB; dsimp only; rw [hr2]; rfl
      rw [es] at hz
      have hinv : i + 1 ≤ ds.length ∧ q + 1 ≤ i + 1 ∧ bok n x2 f v2 (B2 : Int) = true ∧ runM n ((x2, v2, B2), q + 1) (ds.drop (i + 1)) = ((l', w', A'), m) := ⟨h5, by omega, hb2, hz⟩
      clear hz es hR hde hr2
      (repeat (first | refine gq_KMK ?_ | (refine ga1A ?_; intro _q ⟨_he, _hq⟩)))
      rw [show ds.getD (i : Int).toNat Cel.no = d from hdn]
      (repeat (first | refine gq_KMK ?_ | (refine ga1A ?_; intro _q ⟨_he, _hq⟩)))
      exact ⟨(((x2, v2, B2), q + 1), i + 1), hinv, ⟨by rfl, zHE, zHE⟩, (by first | omega | (dsimp only; omega))⟩
    | false =>
      have es : stB n ((x, v, B), q) d = ((x2, v2, B2), q) := by unfold stB; dsimp only; rw [hr2]; rfl
      rw [es] at hz
      obtain ⟨e1, e2, e3⟩ := doR_no hr2
      subst e1
      subst e2
      subst e3
      have hinv : i + 1 ≤ ds.length ∧ q ≤ i + 1 ∧ bok n x2 f v2 (B2 : Int) = true ∧ runM n ((x2, v2, B2), q) (ds.drop (i + 1)) = ((l', w', A'), m) := ⟨h5, by omega, hb2, hz⟩
      clear hz es hR hde hr2
      (repeat (first | refine gq_KMK ?_ | (refine ga1A ?_; intro _q ⟨_he, _hq⟩)))
      rw [show ds.getD (i : Int).toNat Cel.no = d from hdn]
      (repeat (first | refine gq_KMK ?_ | (refine ga1A ?_; intro _q ⟨_he, _hq⟩)))
      exact ⟨(((x2, v2, B2), q), i + 1), hinv, ⟨by rfl, zHE, zHE⟩, (by first | omega | (dsimp only; omega))⟩
  · have hd : decide ((i : Int) < (ds.length : Int)) = false := decide_eq_false (by omega)
    obtain rfl : i = ds.length := by omega
    rw [List.drop_length] at hz
    obtain ⟨e1, e2, e3, e4⟩ := bs_inj hz
    subst e1
    subst e2
    subst e3
    subst e4
    have hx := (cokB_t (bok_t hb).1).2.1
    have hBx := (bok_t hb).2.2.1
    have hC := k_copyO n x f v B (by omega)
    clear hz hR
    (repeat (first | refine gq_KMK ?_ | (refine ga1A ?_; intro _q ⟨_he, _hq⟩)))
    (refine rtA ?_; try rfl)
end Go.Proofs.YtnenhckongccgaaGreatDoor
namespace Go.Proofs.YtnenhckongccgaaGreatDoor
set_option linter.unusedVariables false
set_option linter.unusedSimpArgs false
open Go.Lib (decDigits)
abbrev wHome : List UInt8 := [104, 111, 109, 101]
abbrev wWord : List UInt8 := [119, 111, 114, 100]
abbrev wEnd : List UInt8 := [101, 110, 100]
abbrev wAt : List UInt8 := [97, 116]
abbrev wCost : List UInt8 := [99, 111, 115, 116]
abbrev wDep : List UInt8 := [100, 101, 112, 116, 104]
abbrev wGat : List UInt8 := [103, 97, 116, 101, 115]
abbrev wOdd : List UInt8 := [111, 100, 100]
abbrev wOk : List UInt8 := [111, 107]
abbrev wNo : List UInt8 := [110, 111]
abbrev wNone : List UInt8 := [110, 111, 110, 101]
abbrev wWhat : List UInt8 := [119, 104, 97, 116]
abbrev wYes : List UInt8 := [121, 101, 115]
def gsT (l : List Gt) : List UInt8 := if l.length = 0 then wNone else Go.Lib.join (l.map gtx) [44]
noncomputable def oddT (n : Int) (l : List Gt) : List UInt8 := if toB n (tabN l (2 ^ n.toNat)) = true then wYes else wNo
noncomputable def ansT (n : Int) (l : List Gt) (f w : Int) (A : Nat) (s : List UInt8) : List UInt8 :=
  if (s == wWord) = true then dx w else if (s == wEnd) = true then dx (cr l f) else if (s == wAt) = true then dx (A : Int) ++ [47] ++ dx (l.length : Int)
  else if (s == wCost) = true then dx (coL l) else if (s == wDep) = true then dx (depM (stp bz0 l)) else if (s == wGat) = true then gsT l else if (s == wOdd) = true then oddT n l else wWhat
noncomputable def rdF (s : List UInt8) : Dd × Bool := (Classical.choose (rd_all s), Classical.choose (Classical.choose_spec (rd_all s)))
theorem rdF_ok (s : List UInt8) : RDd s (rdF s).1 (rdF s).2 := Classical.choose_spec (Classical.choose_spec (rd_all s))
theorem rdF_eq {s : List UInt8} {d : Dd} {b : Bool} (h : RDd s d b) : rdF s = (d, b) := by
  have h0 := rdF_ok s
  rcases hr : rdF s with ⟨d', b'⟩
  rw [hr] at h0
  dsimp only at h0
  rcases h with ⟨rfl, h⟩ | ⟨rfl, rfl, h⟩ <;> rcases h0 with ⟨rfl, h0⟩ | ⟨rfl, rfl, h0⟩
  · obtain ⟨e1, e2, e3⟩ := d_uni h0 h
    rw [Dd_ext e1 e2 e3]
  · exact absurd h (h0 _ _ _)
  · exact absurd h0 (h _ _ _)
  · rfl
noncomputable def lnF (n f : Int) (l : List Gt) (w : Int) (A : Nat) (s : List UInt8) : (List Gt × Int × Nat) × List UInt8 :=
  if (rdF s).2 = true then ((doR n l w A (rdF s).1).1, if (doR n l w A (rdF s).1).2 = true then wOk else wNo)
  else if (s == wHome) = true then (if A = 0 then ((l, w, A), wNone) else ((doR n l w A ⟨1, A, gZ⟩).1, wOk))
  else ((l, w, A), ansT n l f w A s)
theorem lnF_okB {n f w : Int} {l : List Gt} {A : Nat} (h : bok n l f w A = true) (s : List UInt8) : bok n (lnF n f l w A s).1.1 f (lnF n f l w A s).1.2.1 ((lnF n f l w A s).1.2.2 : Int) = true := by
  have hd : ∀ d, bok n (doR n l w A d).1.1 f (doR n l w A d).1.2.1 ((doR n l w A d).1.2.2 : Int) = true := fun d => doR_ok h (ok := (doR n l w A d).2) rfl
  unfold lnF
  split
  · exact hd _
  split
  · split
    · exact h
    · exact hd _
  · exact h
theorem bw_home2 {n : Int} {l : List Gt} {A : Nat} {f w : Int} (h : bok n l f w A = true) : bw l A A w = f := by
  obtain ⟨q1, q2, hA, hw⟩ := bok_t h
  have hfv := wvB_t q2
  have e : (l.take A).reverse.take A = (l.take A).reverse := List.take_of_length_le (by rw [List.length_reverse, List.length_take]; omega)
  unfold bw
  rw [e, hw, show (A : Int).toNat = A from rfl]
  have ha : (l.take A).all (gok n) = true := by
    have := (cokB_t q1).2.2
    rw [List.all_eq_true] at this ⊢
    exact fun x hx => this x (List.mem_of_mem_take hx)
  exact cr_back ha ⟨hfv.2.1, hfv.2.2.1⟩
theorem doR_home {n : Int} {l : List Gt} {A : Nat} {f w : Int} (h : bok n l f w A = true) (hA : A ≠ 0) : doR n l w A ⟨1, A, gZ⟩ = ((l, f, 0), true) := by
  have hb1 : btw (A : Int) 1 (A : Int) = true := by unfold btw; rw [decide_eq_true (by omega), decide_eq_true (by omega)]; rfl
  have hnm : nmD ⟨1, (A : Int), gZ⟩ = true := rfl
  have e1 : ((A : Int)).toNat = A := by omega
  have hbw := bw_home2 h
  have e0 : A - A = 0 := by omega
  unfold doR doM
  simp only [hnm, cond_true, if_true, hb1, e1, hbw, e0]
  rfl
end Go.Proofs.YtnenhckongccgaaGreatDoor
namespace Go.Proofs.YtnenhckongccgaaGreatDoor
set_option linter.unusedVariables false
set_option linter.unusedSimpArgs false
set_option maxRecDepth 20000
open Go.RowKit
attribute [local irreducible] runA runX AW
theorem gq_LNC {H G : Prop} (k : H) (h : Hid H → G := by (intro hh; repeat1' (first | (first | (refine nxA ?_; (first | (first | refine r_seq (by rfl) (by rfl) (by rfl) ?_ | refine r_sne (by rfl) (by rfl) (by rfl) ?_ | refine r_sadd (by rfl) (by rfl) (by first | omega | (simp only [List.length_append, List.length_cons, List.length_nil]; omega)) (by rfl) ?_) | ((first | (refine z_op (by rfl) ?_; first | refine z_ok ?_ ?_ | refine z_ex ?_ (by first | exact zL1 | ((first | fail); exact zWW) | exact zL2 | (first | exact rw_c Int rfl | exact rw_c (List UInt8) rfl) | exact zL3 | exact pu_sadd (by first | omega | (simp only [List.length_append, List.length_cons, List.length_nil]; omega))) ?_) | ((first | refine q_callE wsT wsZ (by rfl) ?_ | refine q_callVE wsT (by rfl) (by rfl) ?_); refine ⟨_, _, _, (by first | assumption | exact k_gtI _ | exact k_be _ _ _ _ _ (by omega) (by omega) | exact k_join _ _ (by first | omega | (simp only [List.length_map]; omega)) (by omega)), _, by rfl, ?_, ?_⟩)); focus (first | exact trivial | fail | exact zQZ)) | fail)) | refine swA ?_) | refine awA ?_); exact hh.out)) : G := h ⟨k⟩
theorem join_cc (x y : List UInt8) (l : List (List UInt8)) (sep : List UInt8) : Go.Lib.join (x :: y :: l) sep = x ++ sep ++ Go.Lib.join (y :: l) sep := by
  simp [Go.Lib.join, List.intercalate, List.append_assoc]
theorem join_len (sep : List UInt8) : ∀ (xs : List (List UInt8)) (m : Nat), (∀ x ∈ xs, x.length ≤ m) → (Go.Lib.join xs sep).length ≤ (m + sep.length) * xs.length
  | [], m, _ => Nat.zero_le _
  | [x], m, h => by
    rw [Go.Lib.join_one]
    have := h x (by simp)
    simp; omega
  | x :: y :: l, m, h => by
    rw [join_cc]
    have h1 := h x (by simp)
    have h2 := join_len sep (y :: l) m (fun z hz => h z (List.mem_cons_of_mem _ hz))
    rw [List.length_append, List.length_append, List.length_cons, Nat.mul_succ]
    omega
theorem gsT_len (l : List Gt) (h : l.length ≤ 24) : (Go.Lib.join (l.map gtx) [44]).length ≤ 300 := by
  have := join_len [44] (l.map gtx) 10 (fun x hx => by
    obtain ⟨g, _, rfl⟩ := List.mem_map.1 hx
    exact gtx_len g)
  rw [List.length_map] at this
  simp at this
  omega
abbrev tRow (l : List (List UInt8)) : Ent := rwE 9 l
theorem k_gsI (l : List Gt) (h : l.length ≤ 24) : Kon Tryz.prog 135 [roA l] [] (vS (gsT l)) [] [] := by
  have hln := gsT_len l h
  (refine kM Tryz.func135 rfl ?_; intro hfit hfe)
  (repeat (first | refine gq_LNC ?_ | (refine ga0A ?_; intro _hq)))
  (refine aw_rd [7, 8] [] (fun i : Nat => [(3, .g (.one (.sl 96 i i))), (9, vI i)]) (fun i => [(96, (i, tRow ((l.take i).map gtx)))]) (fun i => i ≤ l.length) (fun i => l.length - i) 0 (by rfl) (by rfl) ?_ (by rfl) zHE zHE ?_)
  · exact Nat.zero_le _
  rintro i hi
  have hil : ((l.take i).map gtx).length = i := by rw [List.length_map, List.length_take]; omega
  rcases Nat.lt_or_ge i l.length with h5 | h5
  · have hd : decide ((i : Int) < (l.length : Int)) = true := by simpa using h5
    have hs : (l.take (i + 1)).map gtx = (l.take i).map gtx ++ [gtx (l.getD (i : Int).toNat Cel.no)] := by
      rw [List.take_succ_eq_append_getElem h5, List.map_append]
      simp [List.getD_eq_getElem?_getD, h5]
    (repeat (first | refine gq_LNC ?_ | (refine ga0A ?_; intro _hq)))
    exact ⟨i + 1, h5, ⟨by rfl, ⟨Eq.trans (b := some (.g (.one (.sl 96 (i + 1) ((l.take i).map gtx ++ [gtx (l.getD (i : Int).toNat Cel.no)]).length)))) (by rfl) (by rw [List.length_append, hil]; rfl), zHE⟩, ⟨Eq.trans (b := some (i + 1, tRow ((l.take i).map gtx ++ [gtx (l.getD (i : Int).toNat Cel.no)]))) (by rfl) (by rw [hs]), zHE⟩⟩, (by first | omega | (dsimp only; omega))⟩
  · have hd : decide ((i : Int) < (l.length : Int)) = false := by simp; omega
    obtain rfl : i = l.length := by omega
    have et : l.take l.length = l := List.take_length
    rw [et] at hil ⊢
    have hJ0 := k_join (l.map gtx) [44] (by rw [hil]; omega) (by omega)
    have hJ : Kon Tryz.prog 119 [.g (.one (.ro (Cel.sz (List UInt8)) l.length (cV (l.map gtx)))), vS [44]] [] (vS (Go.Lib.join (l.map gtx) [44])) [] [] := by
      rw [← hil]; exact hJ0
    clear hJ0
    unfold gsT
    rcases Nat.eq_zero_or_pos l.length with h0 | h0
    · have h00 : ((l.length : Int) == 0) = true := by rw [h0]; rfl
      rw [if_pos h0]
      (repeat (first | refine gq_LNC ?_ | (refine ga0A ?_; intro _hq)))
      (refine rtA ?_; try rfl)
    · have h00 : ((l.length : Int) == 0) = false := by rw [beq_eq_false_iff_ne]; omega
      rw [if_neg (by omega)]
      (repeat (first | refine gq_LNC ?_ | (refine ga0A ?_; intro _hq)))
      (refine rtA ?_; try rfl)
section
variable (n : Int) (l : List Gt) (f w : Int) (A : Nat) (h : bok n l f w A = true)
abbrev bxB (n : Int) (l : List Gt) (f w a : Int) : Ent := .rbx (bCr n l f w a)
theorem bok_nums (h : bok n l f w A = true) : (1 ≤ n ∧ n ≤ 8) ∧ l.length ≤ 24 ∧ A ≤ l.length ∧ (0 ≤ w ∧ w < 256) ∧ (0 ≤ cr l f ∧ cr l f < 256) ∧ l.all (gok n) = true := by
  obtain ⟨hc, hf, hA, hw⟩ := bok_t h
  obtain ⟨hn, hl, ha⟩ := cokB_t hc
  have hfv := wvB_t hf
  have h8 := (pow_8 hn).2
  have h1 := cr_lt ha ⟨hfv.2.1, hfv.2.2.1⟩
  have h2 := cr_lt (c := l.take A) (n := n) (by
    rw [List.all_eq_true] at ha ⊢
    exact fun x hx => ha x (List.mem_of_mem_take hx)) ⟨hfv.2.1, hfv.2.2.1⟩
  have e : w = cr (l.take A) f := hw
  rw [← e] at h2
  exact ⟨hn, hl, by omega, by omega, by omega, ha⟩
theorem k_cl2 : Kon Tryz.prog 126 [p0] [bxB n l f w A] (vI w) [] [bxB n l f w A] := by
  (refine kM Tryz.func126 rfl ?_; intro hfit hfe)
  (repeat (first | refine gq_LNC ?_ | (refine ga0A ?_; intro _hq)))
  (refine rtA ?_; try rfl)
include h
theorem k_cl3 : Kon Tryz.prog 127 [p0] [bxB n l f w A] (vI (cr l f)) [] [bxB n l f w A] := by
  have hb := bok_nums n l f w A h
  have hE := k_be n l f w A (by omega) (by omega)
  rw [beM, h, if_pos rfl] at hE
  (refine kM Tryz.func127 rfl ?_; intro hfit hfe)
  (repeat (first | refine gq_LNC ?_ | (refine ga0A ?_; intro _hq)))
  (refine rtA ?_; try rfl)
theorem k_cl4 : Kon Tryz.prog 129 [p0] [bxB n l f w A] (vS (dx (A : Int) ++ [47] ++ dx (l.length : Int))) [] [bxB n l f w A] := by
  have hb := bok_nums n l f w A h
  have h1 := k_itoa3 (A : Int) (by omega)
  have h2 := k_itoa3 (l.length : Int) (by omega)
  have l1 : (Go.Lib.decDigits (A : Int).toNat).length ≤ 3 := (dd_len (n := (A : Int).toNat) (by omega)).2
  have l2 : (Go.Lib.decDigits (l.length : Int).toNat).length ≤ 3 := (dd_len (n := (l.length : Int).toNat) (by omega)).2
  (refine kM Tryz.func129 rfl ?_; intro hfit hfe)
  (repeat (first | refine gq_LNC ?_ | (refine ga0A ?_; intro _hq) | refine gdA ?_))
  (refine rtA ?_; try rfl)
theorem k_cl5 : Kon Tryz.prog 130 [p0] [bxB n l f w A] (vI (coL l)) [] [bxB n l f w A] := by
  have hK := k_cost n l (bok_t h).1
  (refine kM Tryz.func130 rfl ?_; intro hfit hfe)
  (repeat (first | refine gq_LNC ?_ | (refine ga0A ?_; intro _hq)))
  (refine rtA ?_; try rfl)
theorem k_cl6 : Kon Tryz.prog 132 [p0] [bxB n l f w A] (vI (depM (stp bz0 l))) [] [bxB n l f w A] := by
  have hK := k_depth n l (bok_t h).1
  (refine kM Tryz.func132 rfl ?_; intro hfit hfe)
  (repeat (first | refine gq_LNC ?_ | (refine ga0A ?_; intro _hq)))
  (refine rtA ?_; try rfl)
theorem k_cl7 : Kon Tryz.prog 134 [p0] [bxB n l f w A] (vS (gsT l)) [] [bxB n l f w A] := by
  have hK := k_gsI l (cokB_t (bok_t h).1).2.1
  (refine kM Tryz.func134 rfl ?_; intro hfit hfe)
  (repeat (first | refine gq_LNC ?_ | (refine ga0A ?_; intro _hq)))
  (refine rtA ?_; try rfl)
theorem k_cl8 : Kon Tryz.prog 136 [p0] [bxB n l f w A] (vS (oddT n l)) [] [bxB n l f w A] := by
  have hb := bok_nums n l f w A h
  have hc := (bok_t h).1
  obtain ⟨N, hN, hN8⟩ : ∃ N : Nat, (1 * 2 ^ n.toNat : Int) = (N : Int) ∧ N ≤ 256 := ⟨2 ^ n.toNat, by simp, by
    have := (pow_8 hb.1).2
    have e : ((2 ^ n.toNat : Nat) : Int) = 2 ^ n.toNat := by simp
    omega⟩
  have hN2 : (2 : Int) ^ n.toNat = (N : Int) := by rw [← hN, Int.one_mul]
  have hT := k_tab n l hc N hN
  have hTl := tabN_len l N
  have hV := tab_valid hc hN2
  obtain ⟨_, h1, h2⟩ := tvB_t hV
  have hO := k_oddI (tabN l N) h1 h2
  have e : oddT n l = if ((tabN l N).length - cntF (fT (tabN l N)) (tabN l N).length) % 2 == 1 then wYes else wNo := by
    unfold oddT toB
    rw [pow_N hN2, hV, Bool.true_and]
  rw [e]
  clear h1 hV e
  generalize (((tabN l N).length - cntF (fT (tabN l N)) (tabN l N).length) % 2 == 1) = b at hO ⊢
  generalize tabN l N = T at *
  cases b with
  | true =>
    rw [if_pos rfl]
    (refine kM Tryz.func136 rfl ?_; intro hfit hfe)
    (repeat (first | refine gq_LNC ?_ | (refine ga0A ?_; intro _hq)))
    (refine rtA ?_; try rfl)
  | false =>
    rw [if_neg (by decide)]
    (refine kM Tryz.func136 rfl ?_; intro hfit hfe)
    (repeat (first | refine gq_LNC ?_ | (refine ga0A ?_; intro _hq)))
    (refine rtA ?_; try rfl)
end
end Go.Proofs.YtnenhckongccgaaGreatDoor
namespace Go.Proofs.YtnenhckongccgaaGreatDoor
set_option linter.unusedVariables false
set_option linter.unusedSimpArgs false
open Go.RowKit
theorem glo_bel {B : Nat} {w w' : World} (h : Glo w) (hz : gsz ≤ B) (hb : Below B w w') : Glo w' := h.keep fun b hlt => hb.block b (by omega)
theorem kw_at {W0 W W2 : World} {kn : List Obj} {j : Nat} {o : Obj} (kw : KW W0 W kn) (hB : Below W.heap.size W W2) (hj : kn[j]? = some o) : W2.heap[W0.heap.size + j]? = some o := by
  have h1 := kw.obj j o hj
  have h2 : W0.heap.size + j < W.heap.size := (Array.getElem?_eq_some_iff.1 h1).1
  rw [hB.block _ h2]; exact h1
set_option maxHeartbeats 1000000 in
set_option maxRecDepth 100000 in
theorem nt_answers_2 (b' b : Nat) (x : Int) (hx : 0 ≤ x ∧ x < 1000) (w : World) (hg : Glo w) (hz : gsz ≤ w.heap.size) (hb' : w.heap[b']? = some (.cells #[clV 126 b] 142))
    (hG : ∀ W, Below w.heap.size w W → Calls Tryz.prog 126 #[.pointer (some ⟨b, 0, none⟩)] W fun e w' => e = .returned (.int .i64 x) ∧ Below W.heap.size W w') :
    Calls Tryz.prog 125 #[.pointer (some ⟨b', 0, none⟩)] w fun e w' => e = .returned (.string (str (dx x))) ∧ Below w.heap.size w w' := by
  have c0 : w.cell? ⟨b', 0, none⟩ = some (clV 126 b) := by simp [World.cell?, hb']
  have hgH := Lib.hid hg
  clear hb' hg
  go_enter Tryz.func125, Tryz.ntmps125
  go_wp2_with (go_at_call 126; refine (hG _ (Below.refl _ _)).mono ?_)
  rintro e W1 ⟨rfl, b1⟩
  go_wp2_with (go_at_call 80; refine (itoa_calls x hx _ (glo_bel hgH.out hz b1)).mono ?_)
  rintro e W2 ⟨rfl, b2⟩
  go_wp2
  go_ret
  exact ⟨rfl, b1.trans (b2.mono b1.size)⟩
set_option maxHeartbeats 1000000 in
set_option maxRecDepth 100000 in
theorem nt_answers_3 (b' b : Nat) (x : Int) (hx : 0 ≤ x ∧ x < 1000) (w : World) (hg : Glo w) (hz : gsz ≤ w.heap.size) (hb' : w.heap[b']? = some (.cells #[clV 127 b] 142))
    (hG : ∀ W, Below w.heap.size w W → Calls Tryz.prog 127 #[.pointer (some ⟨b, 0, none⟩)] W fun e w' => e = .returned (.int .i64 x) ∧ Below W.heap.size W w') :
    Calls Tryz.prog 125 #[.pointer (some ⟨b', 0, none⟩)] w fun e w' => e = .returned (.string (str (dx x))) ∧ Below w.heap.size w w' := by
  have c0 : w.cell? ⟨b', 0, none⟩ = some (clV 127 b) := by simp [World.cell?, hb']
  have hgH := Lib.hid hg
  clear hb' hg
  go_enter Tryz.func125, Tryz.ntmps125
  go_wp2_with (go_at_call 127; refine (hG _ (Below.refl _ _)).mono ?_)
  rintro e W1 ⟨rfl, b1⟩
  go_wp2_with (go_at_call 80; refine (itoa_calls x hx _ (glo_bel hgH.out hz b1)).mono ?_)
  rintro e W2 ⟨rfl, b2⟩
  go_wp2
  go_ret
  exact ⟨rfl, b1.trans (b2.mono b1.size)⟩
set_option maxHeartbeats 1000000 in
set_option maxRecDepth 100000 in
theorem nt_answers_5 (b' b : Nat) (x : Int) (hx : 0 ≤ x ∧ x < 1000) (w : World) (hg : Glo w) (hz : gsz ≤ w.heap.size) (hb' : w.heap[b']? = some (.cells #[clV 130 b] 142))
    (hG : ∀ W, Below w.heap.size w W → Calls Tryz.prog 130 #[.pointer (some ⟨b, 0, none⟩)] W fun e w' => e = .returned (.int .i64 x) ∧ Below W.heap.size W w') :
    Calls Tryz.prog 125 #[.pointer (some ⟨b', 0, none⟩)] w fun e w' => e = .returned (.string (str (dx x))) ∧ Below w.heap.size w w' := by
  have c0 : w.cell? ⟨b', 0, none⟩ = some (clV 130 b) := by simp [World.cell?, hb']
  have hgH := Lib.hid hg
  clear hb' hg
  go_enter Tryz.func125, Tryz.ntmps125
  go_wp2_with (go_at_call 130; refine (hG _ (Below.refl _ _)).mono ?_)
  rintro e W1 ⟨rfl, b1⟩
  go_wp2_with (go_at_call 80; refine (itoa_calls x hx _ (glo_bel hgH.out hz b1)).mono ?_)
  rintro e W2 ⟨rfl, b2⟩
  go_wp2
  go_ret
  exact ⟨rfl, b1.trans (b2.mono b1.size)⟩
set_option maxHeartbeats 1000000 in
set_option maxRecDepth 100000 in
theorem nt_answers_6 (b' b : Nat) (x : Int) (hx : 0 ≤ x ∧ x < 1000) (w : World) (hg : Glo w) (hz : gsz ≤ w.heap.size) (hb' : w.heap[b']? = some (.cells #[clV 132 b] 142))
    (hG : ∀ W, Below w.heap.size w W → Calls Tryz.prog 132 #[.pointer (some ⟨b, 0, none⟩)] W fun e w' => e = .returned (.int .i64 x) ∧ Below W.heap.size W w') :
    Calls Tryz.prog 125 #[.pointer (some ⟨b', 0, none⟩)] w fun e w' => e = .returned (.string (str (dx x))) ∧ Below w.heap.size w w' := by
  have c0 : w.cell? ⟨b', 0, none⟩ = some (clV 132 b) := by simp [World.cell?, hb']
  have hgH := Lib.hid hg
  clear hb' hg
  go_enter Tryz.func125, Tryz.ntmps125
  go_wp2_with (go_at_call 132; refine (hG _ (Below.refl _ _)).mono ?_)
  rintro e W1 ⟨rfl, b1⟩
  go_wp2_with (go_at_call 80; refine (itoa_calls x hx _ (glo_bel hgH.out hz b1)).mono ?_)
  rintro e W2 ⟨rfl, b2⟩
  go_wp2
  go_ret
  exact ⟨rfl, b1.trans (b2.mono b1.size)⟩
theorem depM_bd {n : Int} {l : List Gt} (h : cokB n l = true) : 0 ≤ depM (stp bz0 l) ∧ depM (stp bz0 l) ≤ 25 := by
  obtain ⟨hn, hl, ha⟩ := cokB_t h
  have key : ∀ (S : List Int) (m : Int), (∀ x ∈ S, 0 ≤ x ∧ x ≤ 25) → (0 ≤ m ∧ m ≤ 25) → 0 ≤ S.foldl mxD m ∧ S.foldl mxD m ≤ 25 := by
    intro S
    induction S with
    | nil => intro m _ hm; exact hm
    | cons x S ih =>
      intro m hS hm
      have hx := hS x List.mem_cons_self
      refine ih _ (fun y hy => hS y (List.mem_cons_of_mem _ hy)) ?_
      unfold mxD
      split <;> omega
  refine key _ 0 (fun x hx => ?_) (by omega)
  rw [stp_eq hn.2 ha, stpS_all] at hx
  obtain ⟨p, hp, rfl⟩ := List.mem_map.1 hx
  have := prF_bd l l.length p hp
  omega
theorem older_none (β β' : Nat → Value) (G : Blk) : Older β β' (fun _ => none) G := fun i r e h => by cases h
set_option maxHeartbeats 2000000 in
theorem k_lineQ (n : Int) (l : List Gt) (f w : Int) (A : Nat) (s : List UInt8) (hb : bok n l f w A = true) (hs : s.length ≤ 7000000) (hr : rdF s = (dZ, false)) (hh : (s == wHome) = false) :
    Kon Tryz.prog 41 [bG n l f w (A : Int), vS s] [] (.tup [.agg (bCr n l f w (A : Int)), .one (.v (.string (str (ansT n l f w A s))))]) [] [] := by
  obtain ⟨d, b, hRD, _, hRI⟩ := rd_ex s hs
  have hd := rdF_eq hRD
  rw [hr] at hd
  obtain ⟨rfl, rfl⟩ := Prod.mk.inj hd
  clear hRD hd
  have hnum := bok_nums n l f w A hb
  refine kon_keep (Go.Proofs.enters_of Tryz.func41 (by kernel_rfl) rfl) rfl rfl ?_
  intro w0 ok vs hg hz hok hsz hargs
  obtain ⟨z0, hz0, hr0⟩ := hargs 0 _ rfl
  obtain ⟨z1, hz1, hr1⟩ := hargs 1 _ rfl
  have hv : vs = #[z0, z1] := by
    obtain ⟨xs⟩ := vs
    match xs, hsz with
    | [x, y], _ => cases hz0; cases hz1; rfl
  subst hv
  obtain rfl : z1 = .string (str s) := hr1.1
  obtain ⟨cs, rfl, hl5, hc⟩ := hr0
  obtain ⟨y0, e0, r0⟩ := hc 0 _ rfl
  obtain ⟨y1, e1, r1⟩ := hc 1 _ rfl
  obtain ⟨y2, e2, r2⟩ := hc 2 _ rfl
  obtain ⟨y3, e3, r3⟩ := hc 3 _ rfl
  obtain ⟨y4, e4, r4⟩ := hc 4 _ rfl
  have hcs : cs = #[y0, y1, y2, y3, y4] := by
    obtain ⟨xs⟩ := cs
    match xs, hl5 with
    | [a, b, c, d, e], _ => cases e0; cases e1; cases e2; cases e3; cases e4; rfl
  subst hcs
  obtain rfl : y0 = .int .i64 n := r0.1
  obtain rfl : y2 = .int .i64 f := r2.1
  obtain rfl : y3 = .int .i64 w := r3.1
  obtain rfl : y4 = .int .i64 (A : Int) := r4.1
  obtain ⟨_, Ax, c, rfl, _⟩ := r1
  have hcell : ∀ W, Below w0.heap.size w0 W → CsRep W (fun _ => undef) (fun _ => none) (fun b => b < W.heap.size) (bCr n l f w (A : Int)) #[.int .i64 n, .slice Ax l.length c, .int .i64 f, .int .i64 w, .int .i64 (A : Int)] := fun W hB =>
    ⟨hl5, fun j x hj => let ⟨z, hz, hrz⟩ := hc j x hj; ⟨z, hz, AC.rep_mono (fun k hk => ⟨Nat.lt_of_lt_of_le (hok k hk) hB.size, hB.block k (hok k hk)⟩) (older_none _ _ _) hrz⟩⟩
  have key : ∀ W0 W, KW W0 W (anK W0.heap.size (bnV n f w A Ax l.length c)) → Below w0.heap.size w0 W0 → ∀ W3, Below W.heap.size W W3 → ∀ (g : FuncId) (out : AV), Kon Tryz.prog g [p0] [bxB n l f w A] out [] [bxB n l f w A] →
      Calls Tryz.prog g #[.pointer (some ⟨W0.heap.size, 0, none⟩)] W3 fun e w' => ∃ v β G ok, e = .returned v ∧ out.rep w' β G ok v ∧ Below W3.heap.size W3 w' := fun W0 W kw hB0 W3 hB3 g out hK => by
    have hB : Below w0.heap.size w0 W3 := hB0.trans ((kw.below.trans (hB3.mono kw.below.size)).mono hB0.size)
    exact calls_of_konB hK (kw_at (j := 0) kw hB3 rfl) (hcell W3 hB) rfl (glo_bel hg hz hB) (Nat.le_trans hz hB.size)
  have hR : ∀ W, Below w0.heap.size w0 W → Calls Tryz.prog 77 #[.string (str s)] W fun e w' => e = .returned (.tuple #[.agg #[.int .i64 0, .int .i64 0, .int .i64 0, .int .i64 0, .int .i64 0, .int .i64 0], .bool false]) ∧ Below W.heap.size W w' := fun W hB => by
    refine (calls_of_kon hRI rfl ?_ (glo_bel hg hz hB) (Nat.le_trans hz hB.size)).mono ?_
    · intro j a hj
      rcases j with _ | j
      · cases hj; exact ⟨_, rfl, rfl, rfl⟩
      · simp at hj
    · rintro e w' ⟨v, β, G, ok', rfl, hrv, hbw⟩
      refine ⟨?_, hbw⟩
      obtain ⟨us, rfl, hus, hu⟩ := hrv
      obtain ⟨u0, q0, p0'⟩ := hu 0 _ rfl
      obtain ⟨u1, q1, p1⟩ := hu 1 _ rfl
      obtain ⟨ds, rfl, hds, hdc⟩ := p0'
      obtain rfl : u1 = .bool false := p1.1
      obtain ⟨d0, t0, s0⟩ := hdc 0 _ rfl
      obtain ⟨d1, t1, s1⟩ := hdc 1 _ rfl
      obtain ⟨d2, t2, s2⟩ := hdc 2 _ rfl
      obtain ⟨d3, t3, s3⟩ := hdc 3 _ rfl
      obtain ⟨d4, t4, s4⟩ := hdc 4 _ rfl
      obtain ⟨d5, t5, s5⟩ := hdc 5 _ rfl
      have hdd : ds = #[d0, d1, d2, d3, d4, d5] := by
        obtain ⟨xs⟩ := ds
        match xs, hds with
        | [a, b, c, d, e, g], _ => cases t0; cases t1; cases t2; cases t3; cases t4; cases t5; rfl
      have huu : us = #[.agg ds, .bool false] := by
        obtain ⟨xs⟩ := us
        match xs, hus with
        | [a, b], _ => cases q0; cases q1; rfl
      rw [huu, hdd, show d0 = .int .i64 0 from s0.1, show d1 = .int .i64 0 from s1.1, show d2 = .int .i64 0 from s2.1, show d3 = .int .i64 0 from s3.1, show d4 = .int .i64 0 from s4.1, show d5 = .int .i64 0 from s5.1]
  have hne : ((str s).toList == [104, 111, 109, 101]) = false := by rw [ByteArray.toList_mk]; simpa using hh
  have hout : ∀ (ans : List UInt8) (W' : World), Below w0.heap.size w0 W' → ∃ v, Ending.returned (.tuple #[bnV n f w A Ax l.length c, .string (str ans)]) = .returned v ∧ Below w0.heap.size w0 W' ∧ ∀ β G (ok' : Nat → Prop), (∀ b, ok b → ok' b ∧ W'.heap[b]? = w0.heap[b]?) → AV.rep W' β G ok' (.tup [.agg (bCr n l f w (A : Int)), .one (.v (.string (str ans)))]) v := fun ans W' hB => by
    refine ⟨_, rfl, hB, fun β G ok' hk => ⟨_, rfl, rfl, fun j x hj => ?_⟩⟩
    rcases j with _ | _ | j
    · cases hj
      exact ⟨_, rfl, _, rfl, hl5, fun j x hj => let ⟨z, hz, hrz⟩ := hc j x hj; ⟨z, hz, AC.rep_mono hk (older_none _ _ _) hrz⟩⟩
    · cases hj
      exact ⟨_, rfl, rfl, rfl⟩
    · simp at hj
  by_cases h0 : (s == wWord) = true
  · obtain rfl := beq_iff_eq.1 h0
    have ea : ansT n l f w A wWord = dx w := by unfold ansT; rw [if_pos (by decide)]
    rw [ea]
    refine (lnw1 n f w A Ax l.length c w0 (str wWord) (str (dx w)) hne 0 (fun b => b + 2) hR (Lib.hid fun b => rfl) (Lib.hid fun W0 W kw hB0 W2 hB2 => ?_)).mono fun e W' ⟨he, hB⟩ => he ▸ hout _ W' hB
    have hB : Below w0.heap.size w0 W2 := hB0.trans ((kw.below.trans (hB2.mono kw.below.size)).mono hB0.size)
    refine nt_answers_2 (W0.heap.size + 2) W0.heap.size (w) (by omega) W2 (glo_bel hg hz hB) (Nat.le_trans hz hB.size) (kw_at (j := 2) kw hB2 rfl) fun W3 h3 => ?_
    refine (key W0 W kw hB0 W3 (hB2.trans (h3.mono hB2.size)) _ _ (k_cl2 n l f w A)).mono ?_
    rintro e w' ⟨v, β, G, ok', rfl, hrv, hbw⟩
    rw [show v = .int .i64 (w) from hrv.1]
    exact ⟨rfl, hbw⟩
  by_cases h1 : (s == wEnd) = true
  · obtain rfl := beq_iff_eq.1 h1
    have ea : ansT n l f w A wEnd = dx (cr l f) := by unfold ansT; rw [if_neg (by decide), if_pos (by decide)]
    rw [ea]
    refine (lnw1 n f w A Ax l.length c w0 (str wEnd) (str (dx (cr l f))) hne 1 (fun b => b + 3) hR (Lib.hid fun b => rfl) (Lib.hid fun W0 W kw hB0 W2 hB2 => ?_)).mono fun e W' ⟨he, hB⟩ => he ▸ hout _ W' hB
    have hB : Below w0.heap.size w0 W2 := hB0.trans ((kw.below.trans (hB2.mono kw.below.size)).mono hB0.size)
    refine nt_answers_3 (W0.heap.size + 3) W0.heap.size (cr l f) (by omega) W2 (glo_bel hg hz hB) (Nat.le_trans hz hB.size) (kw_at (j := 3) kw hB2 rfl) fun W3 h3 => ?_
    refine (key W0 W kw hB0 W3 (hB2.trans (h3.mono hB2.size)) _ _ (k_cl3 n l f w A hb)).mono ?_
    rintro e w' ⟨v, β, G, ok', rfl, hrv, hbw⟩
    rw [show v = .int .i64 (cr l f) from hrv.1]
    exact ⟨rfl, hbw⟩
  by_cases h2 : (s == wAt) = true
  · obtain rfl := beq_iff_eq.1 h2
    have ea : ansT n l f w A wAt = dx (A : Int) ++ [47] ++ dx (l.length : Int) := by unfold ansT; rw [if_neg (by decide), if_neg (by decide), if_pos (by decide)]
    rw [ea]
    refine (lnw4 n f w A Ax l.length c w0 (str wAt) (str (dx (A : Int) ++ [47] ++ dx (l.length : Int))) hne 2 (fun b => b) hR (Lib.hid fun b => rfl) (Lib.hid fun W0 W kw hB0 W2 hB2 => ?_)).mono fun e W' ⟨he, hB⟩ => he ▸ hout _ W' hB
    refine (key W0 W kw hB0 W2 hB2 _ _ (k_cl4 n l f w A hb)).mono ?_
    rintro e w' ⟨v, β, G, ok', rfl, hrv, hbw⟩
    rw [show v = .string (str (dx (A : Int) ++ [47] ++ dx (l.length : Int))) from hrv.1]
    exact ⟨rfl, hbw⟩
  by_cases h3 : (s == wCost) = true
  · obtain rfl := beq_iff_eq.1 h3
    have ea : ansT n l f w A wCost = dx (coL l) := by unfold ansT; rw [if_neg (by decide), if_neg (by decide), if_neg (by decide), if_pos (by decide)]
    rw [ea]
    refine (lnw1 n f w A Ax l.length c w0 (str wCost) (str (dx (coL l))) hne 3 (fun b => b + 4) hR (Lib.hid fun b => rfl) (Lib.hid fun W0 W kw hB0 W2 hB2 => ?_)).mono fun e W' ⟨he, hB⟩ => he ▸ hout _ W' hB
    have hB : Below w0.heap.size w0 W2 := hB0.trans ((kw.below.trans (hB2.mono kw.below.size)).mono hB0.size)
    refine nt_answers_5 (W0.heap.size + 4) W0.heap.size (coL l) (by have := coL_bd l; omega) W2 (glo_bel hg hz hB) (Nat.le_trans hz hB.size) (kw_at (j := 4) kw hB2 rfl) fun W3 h3 => ?_
    refine (key W0 W kw hB0 W3 (hB2.trans (h3.mono hB2.size)) _ _ (k_cl5 n l f w A hb)).mono ?_
    rintro e w' ⟨v, β, G, ok', rfl, hrv, hbw⟩
    rw [show v = .int .i64 (coL l) from hrv.1]
    exact ⟨rfl, hbw⟩
  by_cases h4 : (s == wDep) = true
  · obtain rfl := beq_iff_eq.1 h4
    have ea : ansT n l f w A wDep = dx (depM (stp bz0 l)) := by unfold ansT; rw [if_neg (by decide), if_neg (by decide), if_neg (by decide), if_neg (by decide), if_pos (by decide)]
    rw [ea]
    refine (lnw1 n f w A Ax l.length c w0 (str wDep) (str (dx (depM (stp bz0 l)))) hne 4 (fun b => b + 5) hR (Lib.hid fun b => rfl) (Lib.hid fun W0 W kw hB0 W2 hB2 => ?_)).mono fun e W' ⟨he, hB⟩ => he ▸ hout _ W' hB
    have hB : Below w0.heap.size w0 W2 := hB0.trans ((kw.below.trans (hB2.mono kw.below.size)).mono hB0.size)
    refine nt_answers_6 (W0.heap.size + 5) W0.heap.size (depM (stp bz0 l)) (by have := depM_bd (bok_t hb).1; omega) W2 (glo_bel hg hz hB) (Nat.le_trans hz hB.size) (kw_at (j := 5) kw hB2 rfl) fun W3 h3 => ?_
    refine (key W0 W kw hB0 W3 (hB2.trans (h3.mono hB2.size)) _ _ (k_cl6 n l f w A hb)).mono ?_
    rintro e w' ⟨v, β, G, ok', rfl, hrv, hbw⟩
    rw [show v = .int .i64 (depM (stp bz0 l)) from hrv.1]
    exact ⟨rfl, hbw⟩
  by_cases h5 : (s == wGat) = true
  · obtain rfl := beq_iff_eq.1 h5
    have ea : ansT n l f w A wGat = gsT l := by unfold ansT; rw [if_neg (by decide), if_neg (by decide), if_neg (by decide), if_neg (by decide), if_neg (by decide), if_pos (by decide)]
    rw [ea]
    refine (lnw7 n f w A Ax l.length c w0 (str wGat) (str (gsT l)) hne 5 (fun b => b) hR (Lib.hid fun b => rfl) (Lib.hid fun W0 W kw hB0 W2 hB2 => ?_)).mono fun e W' ⟨he, hB⟩ => he ▸ hout _ W' hB
    refine (key W0 W kw hB0 W2 hB2 _ _ (k_cl7 n l f w A hb)).mono ?_
    rintro e w' ⟨v, β, G, ok', rfl, hrv, hbw⟩
    rw [show v = .string (str (gsT l)) from hrv.1]
    exact ⟨rfl, hbw⟩
  by_cases h6 : (s == wOdd) = true
  · obtain rfl := beq_iff_eq.1 h6
    have ea : ansT n l f w A wOdd = oddT n l := by unfold ansT; rw [if_neg (by decide), if_neg (by decide), if_neg (by decide), if_neg (by decide), if_neg (by decide), if_neg (by decide), if_pos (by decide)]
    rw [ea]
    refine (lnw8 n f w A Ax l.length c w0 (str wOdd) (str (oddT n l)) hne 6 (fun b => b) hR (Lib.hid fun b => rfl) (Lib.hid fun W0 W kw hB0 W2 hB2 => ?_)).mono fun e W' ⟨he, hB⟩ => he ▸ hout _ W' hB
    refine (key W0 W kw hB0 W2 hB2 _ _ (k_cl8 n l f w A hb)).mono ?_
    rintro e w' ⟨v, β, G, ok', rfl, hrv, hbw⟩
    rw [show v = .string (str (oddT n l)) from hrv.1]
    exact ⟨rfl, hbw⟩
  have ea : ansT n l f w A s = wWhat := by unfold ansT; rw [if_neg h0, if_neg h1, if_neg h2, if_neg h3, if_neg h4, if_neg h5, if_neg h6]
  rw [ea]
  have nb : ∀ x : List UInt8, ¬ (s == x) = true → ((str s : ByteArray) == str x) = false := fun x hx => by
    have e : ((str s : ByteArray) == str x) = (s.toArray == x.toArray) := rfl
    rw [e, beq_eq_false_iff_ne]
    intro e2
    exact hx (beq_iff_eq.2 (by simpa using e2))
  have n0 := nb _ h0
  have n1 := nb _ h1
  have n2 := nb _ h2
  have n3 := nb _ h3
  have n4 := nb _ h4
  have n5 := nb _ h5
  have n6 := nb _ h6
  refine (lnw0 n f w A Ax l.length c w0 (str s) hne hR (Lib.hid fun b => ?_)).mono fun e W' ⟨he, hB⟩ => he ▸ hout wWhat W' hB
  show Instr.findNow .string (.string (str s)) [_, _, _, _, _, _, _] 0 = some none
  simp only [Instr.findNow, Instr.sameNow, n0, n1, n2, n3, n4, n5, n6]
end Go.Proofs.YtnenhckongccgaaGreatDoor
namespace Go.Proofs.YtnenhckongccgaaGreatDoor
set_option linter.unusedVariables false
set_option linter.unusedSimpArgs false
set_option maxRecDepth 20000
open Go.RowKit
attribute [local irreducible] runA runX AW
def wsTLY : WsT := (82, ([], true)) :: (41, ([], true)) :: wsT
theorem gq_LNY {H G : Prop} (k : H) (h : Hid H → G := by (intro hh; repeat1' (first | (first | (refine nxA ?_; (first | (first | refine r_seq (by rfl) (by rfl) (by rfl) ?_ | refine r_sne (by rfl) (by rfl) (by rfl) ?_) | ((first | (refine z_op (by rfl) ?_; first | refine z_ok ?_ ?_ | refine z_ex ?_ (by first | exact zL1 | ((first | fail); exact zWW) | exact zL2 | fail | exact zL3 | fail) ?_) | ((first | refine q_callE wsTLY wsZ (by rfl) ?_ | refine q_callVE wsTLY (by rfl) (by rfl) ?_); refine ⟨_, _, _, (by first | assumption | exact k_bv _ _ _ _ _ (by omega) (by omega) | exact k_copyO _ _ _ _ _ (by omega)), _, by rfl, ?_, ?_⟩)); focus (first | exact trivial | fail | exact zQZ)) | fail)) | refine swA ?_) | refine awA ?_); exact hh.out)) : G := h ⟨k⟩
abbrev lnO (n : Int) (l : List Gt) (f w a : Int) (ans : List UInt8) : AV := .tup [.agg (bCr n l f w a), .one (.v (.string (str ans)))]
theorem rdd_dZ {s : List UInt8} {d : Dd} (h : RDd s d false) : d = dZ := by
  rcases h with ⟨h, _⟩ | ⟨_, h, _⟩
  · cases h
  · exact h
set_option maxHeartbeats 4000000 in
theorem kn_lineI {n : Int} {l l' : List Gt} {f w w' : Int} {A A' : Nat} {s a : List UInt8} (hb : bok n l f w A = true) (hs : s.length ≤ 7000000) (hL : lnF n f l w A s = ((l', w', A'), a)) :
    Kon Tryz.prog 41 [bG n l f w (A : Int), vS s] [] (lnO n l' f w' (A' : Int) a) [] [] := by
  obtain ⟨d, b, hRD, _, hRI⟩ := rd_ex s hs
  have hd := rdF_eq hRD
  have hnum := bok_nums n l f w A hb
  unfold lnF at hL
  rw [hd] at hL
  cases b with
  | true =>
    rw [if_pos rfl] at hL
    dsimp only at hL
    rcases hR : doR n l w A d with ⟨⟨l2, w2, A2⟩, ok⟩
    rw [hR] at hL
    have hD := kn_doI hb hR
    cases ok with
    | true =>
      obtain ⟨h1, h2⟩ := Prod.mk.inj hL
      obtain ⟨rfl, h3⟩ := Prod.mk.inj h1
      obtain ⟨rfl, rfl⟩ := Prod.mk.inj h3
      obtain rfl : wOk = a := h2
      clear hL hRD hd hR h1 h3
      (refine kM Tryz.func41 rfl ?_; intro hfit hfe)
      (repeat (first | refine gq_LNY ?_ | (refine ga0A ?_; intro _hq)))
      (refine rtA ?_; try rfl)
    | false =>
      obtain ⟨h1, h2⟩ := Prod.mk.inj hL
      obtain ⟨rfl, h3⟩ := Prod.mk.inj h1
      obtain ⟨rfl, rfl⟩ := Prod.mk.inj h3
      obtain rfl : wNo = a := h2
      obtain ⟨e1, e2, e3⟩ := doR_no hR
      subst e1
      subst e2
      subst e3
      clear hL hRD hd hR h1 h3
      (refine kM Tryz.func41 rfl ?_; intro hfit hfe)
      (repeat (first | refine gq_LNY ?_ | (refine ga0A ?_; intro _hq)))
      (refine rtA ?_; try rfl)
  | false =>
    obtain rfl := rdd_dZ hRD
    rw [if_neg (by decide)] at hL
    cases hh : (s == wHome) with
    | false =>
      rw [hh, if_neg (by decide)] at hL
      obtain ⟨h1, h2⟩ := Prod.mk.inj hL
      obtain ⟨rfl, h3⟩ := Prod.mk.inj h1
      obtain ⟨rfl, rfl⟩ := Prod.mk.inj h3
      obtain rfl : ansT n l f w A s = a := h2
      exact k_lineQ n l f w A s hb hs hd hh
    | true =>
      rw [hh, if_pos rfl] at hL
      rcases Nat.eq_zero_or_pos A with h0 | h0
      · rw [if_pos h0] at hL
        subst h0
        obtain ⟨h1, h2⟩ := Prod.mk.inj hL
        obtain ⟨rfl, h3⟩ := Prod.mk.inj h1
        obtain ⟨rfl, rfl⟩ := Prod.mk.inj h3
        obtain rfl : wNone = a := h2
        have hH := k_hd0 n l f w ((0 : Nat) : Int) (by omega) (by omega) (by rw [hb]; rfl)
        clear hL hRD hd h1 h3
        (refine kM Tryz.func41 rfl ?_; intro hfit hfe)
        (repeat (first | refine gq_LNY ?_ | (refine ga0A ?_; intro _hq)))
        refine aw_unroll 1 ?_
        (repeat (first | refine gq_LNY ?_ | (refine ga0A ?_; intro _hq)))
        (refine rtA ?_; try rfl)
      · rw [if_neg (by omega), doR_home hb (by omega)] at hL
        obtain ⟨h1, h2⟩ := Prod.mk.inj hL
        obtain ⟨rfl, h3⟩ := Prod.mk.inj h1
        obtain ⟨rfl, rfl⟩ := Prod.mk.inj h3
        obtain rfl : wOk = a := h2
        have hH := k_hd1 n l f w (A : Int) (by omega) (by omega) (by rw [hb]; simp; omega)
        have hD : Kon Tryz.prog 82 [bG n l f w (A : Int), dV (hD (A : Int))] [] (bR n l f f ((0 : Nat) : Int) true) [] [] := kn_doI hb (doR_home hb (by omega))
        clear hL hRD hd h1 h3
        (refine kM Tryz.func41 rfl ?_; intro hfit hfe)
        (repeat (first | refine gq_LNY ?_ | (refine ga0A ?_; intro _hq)))
        refine aw_unroll 2 ?_
        (repeat (first | refine gq_LNY ?_ | (refine ga0A ?_; intro _hq)))
        (refine rtA ?_; try rfl)
abbrev lnS (n : Int) (l : List Gt) (f w a : Int) (ans : List UInt8) : AV := .tup [.agg [.v (.int .i64 n), .sl 0 0 l.length, .v (.int .i64 f), .v (.int .i64 w), .v (.int .i64 a)], .one (.v (.string (str ans)))]
theorem kn_blI {n : Int} {l l' : List Gt} {f w w' : Int} {A A' : Nat} {s a : List UInt8} (hb : bok n l f w A = true) (hs : s.length ≤ 7000000) (hL : lnF n f l w A s = ((l', w', A'), a)) :
    Kon Tryz.prog 9 [bG n l f w (A : Int), vS s] [] (lnS n l' f w' (A' : Int) a) [gRow l'] [] := by
  have hK := kn_lineI hb hs hL
  have hnum := bok_nums n l f w A hb
  have hb2 := lnF_okB hb s
  rw [hL] at hb2
  dsimp only at hb2
  have hnum2 := bok_nums n l' f w' A' hb2
  have hB := k_bv n l f w A (by omega) (by omega)
  rw [hb] at hB
  have hC := k_copyO n l' f w' A' (by omega)
  clear hb hL hb2
  (refine kM Tryz.func9 rfl ?_; intro hfit hfe)
  (repeat (first | refine gq_LNY ?_ | (refine ga0A ?_; intro _hq)))
  (refine rtA ?_; try rfl)
end Go.Proofs.YtnenhckongccgaaGreatDoor
