/- KEF, KEG, KEH, PL, KMH: laid into one text. -/
import Derived.Test.YtnenhckongccgaaGreatDoorQHP
import Derived.Test.YtnenhckongccgaaGreatDoorQHR

namespace Go.Proofs.YtnenhckongccgaaGreatDoor
set_option linter.unusedVariables false
set_option linter.unusedSimpArgs false
set_option maxRecDepth 20000
open Go.RowKit
attribute [local irreducible] runA runX AW
theorem gq_KEF {H G : Prop} (k : H) (h : Hid H → G := by (intro hh; repeat1' (first | (first | (refine nxA ?_; (first | fail | ((first | (refine z_op (by rfl) ?_; first | refine z_ok ?_ ?_ | refine z_ex ?_ (by first | exact zL1 | ((first | (first | refine mk_0 Int rfl rfl ?_ | refine mk_0 Gt rfl rfl ?_)); exact zWW) | exact zL2 | exact rw_c Gt rfl | exact zL3 | fail) ?_) | ((first | refine q_callE wsT wsZ (by rfl) ?_ | refine q_callVE wsT (by rfl) (by rfl) ?_); refine ⟨_, _, _, (by first | assumption), _, by rfl, ?_, ?_⟩)); focus (first | exact trivial | fail | exact zQZ)) | fail)) | refine swA ?_) | refine awA ?_); exact hh.out)) : G := h ⟨k⟩
theorem k_dropO (l : List Gt) (a b : Int) (h : l.length ≤ 1000) : Kon Tryz.prog 145 [roA l, vI a, vI b] [] (slA 0 0 (drp l a b l.length)) [gRow (drp l a b l.length)] [] := by
  (refine kM Tryz.func145 rfl ?_; intro hfit hfe)
  (repeat (first | refine gq_KEF ?_ | (refine ga1A ?_; intro _q ⟨_he, _hq⟩)))
  (refine aw_rd [0, 1, 2] [] (fun i : Nat => [(7, .g (.one (.sl 144 (drp l a b i).length (drp l a b i).length))), (8, vI i)]) (fun i => [(144, ((drp l a b i).length, gRow (drp l a b i)))]) (fun i => i ≤ l.length) (fun i => l.length - i) 0 (by rfl) (by rfl) ?_ (by rfl) zHE zHE ?_)
  · exact Nat.zero_le _
  rintro i hi
  have hil := drp_len l a b i
  rcases Nat.lt_or_ge i l.length with h5 | h5
  · have hd : decide ((i : Int) < (l.length : Int)) = true := decide_eq_true (by omega)
    cases hk : ((i : Int) != a && (i : Int) != b) with
    | true =>
      have e : drp l a b (i + 1) = drp l a b i ++ [l.getD i Cel.no] := by rw [drp, if_pos hk]
      have hk' := hk
      rw [Bool.and_eq_true] at hk'
      obtain ⟨hk1, hk2⟩ := hk'
      have e2 : (drp l a b (i + 1)).length = (drp l a b i).length + 1 := by rw [e, List.length_append]; rfl
      (repeat (first | refine gq_KEF ?_ | (refine ga1A ?_; intro _q ⟨_he, _hq⟩)))
      refine ⟨i + 1, h5, ?_, (by first | omega | (dsimp only; omega))⟩
      dsimp only
      rw [e2, e]
      refine ⟨by rfl, ⟨?_, zHE⟩, zHE⟩
      simp [St.put, St.lay, upd]
      rfl
    | false =>
      have e : drp l a b (i + 1) = drp l a b i := by rw [drp, if_neg (by rw [hk]; decide)]
      cases hk1 : ((i : Int) != a) with
      | false =>
        (repeat (first | refine gq_KEF ?_ | (refine ga1A ?_; intro _q ⟨_he, _hq⟩)))
        refine ⟨i + 1, h5, ?_, (by first | omega | (dsimp only; omega))⟩
        dsimp only
        rw [e]
        exact ⟨by rfl, ⟨by rfl, zHE⟩, zHE⟩
      | true =>
        have hk2 : ((i : Int) != b) = false := by rw [hk1, Bool.true_and] at hk; exact hk
        (repeat (first | refine gq_KEF ?_ | (refine ga1A ?_; intro _q ⟨_he, _hq⟩)))
        refine ⟨i + 1, h5, ?_, (by first | omega | (dsimp only; omega))⟩
        dsimp only
        rw [e]
        exact ⟨by rfl, ⟨by rfl, zHE⟩, zHE⟩
  · obtain rfl : i = l.length := by omega
    have hd : decide ((l.length : Int) < (l.length : Int)) = false := decide_eq_false (by omega)
    (repeat (first | refine gq_KEF ?_ | (refine ga1A ?_; intro _q ⟨_he, _hq⟩)))
    (refine rtA ?_; try rfl)
set_option maxHeartbeats 1000000 in
theorem k_shortO (n : Int) (l : List Gt) (hr : -9223372036854775808 ≤ n ∧ n ≤ 9223372036854775807) (h : cokB n l = true) : Kon Tryz.prog 99 [vI n, roA l] [] (slA 0 0 (shr l l.length)) [gRow (shr l l.length)] [] := by
  have hC := k_cvS n l (by have := (cokB_t h).2.1; omega) hr
  have hl24 := (cokB_t h).2.1
  rw [h] at hC
  (refine kM Tryz.func99 rfl ?_; intro hfit hfe)
  (repeat (first | refine gq_KEF ?_ | (refine ga1A ?_; intro _q ⟨_he, _hq⟩)))
  (refine aw_rd [0, 1] [] (fun g : Option (List Gt × Nat) => match g with | none => [(5, .g (.one (.sl 128 1 l.length)))] | some g => [(5, .g (.one (.sl 464 g.2 g.1.length)))]) (fun g => match g with | none => [(128, (1, gRow l))] | some g => [(464, (g.2, gRow g.1))]) (fun g => match g with | none => True | some g => cokB n g.1 = true ∧ shr g.1 g.1.length = shr l l.length) (fun g => match g with | none => l.length + 1 | some g => g.1.length) none (by rfl) (by rfl) ?_ (by rfl) zHE zHE ?_)
  · exact trivial
  have hx : ∀ o : List Gt, (usl o 0).1 < 0 → shr o o.length = o := fun o hd => by
    cases hm : o.length with
    | zero => rfl
    | succ m => rw [shr, if_pos hd]
  rintro (_ | ⟨o, v⟩) ho
  · have hU := k_uspS n l h
    have hD := k_dropO l (usl l 0).1 (usl l 0).2 (by omega)
    cases hd : decide ((usl l 0).1 < 0) with
    | true =>
      rw [hx l (of_decide_eq_true hd)]
      (repeat (first | refine gq_KEF ?_ | (refine ga1A ?_; intro _q ⟨_he, _hq⟩)))
      (refine rtA ?_; try rfl)
    | false =>
      have hnn := of_decide_eq_false hd
      have hless := usl_less l hnn
      have hinv : cokB n (drp l (usl l 0).1 (usl l 0).2 l.length) = true ∧ shr (drp l (usl l 0).1 (usl l 0).2 l.length) (drp l (usl l 0).1 (usl l 0).2 l.length).length = shr l l.length := ⟨drp_ok h, shr_step l hnn⟩
      generalize drp l (usl l 0).1 (usl l 0).2 l.length = o' at *
      (repeat (first | refine gq_KEF ?_ | (refine ga1A ?_; intro _q ⟨_he, _hq⟩)))
      exact ⟨some (o', 0), hinv, ⟨by rfl, zHE, zHE⟩, (by first | omega | (dsimp only; omega))⟩
  · obtain ⟨ho, hs⟩ : cokB n o = true ∧ shr o o.length = shr l l.length := ho
    have hU := k_uspS n o ho
    have ho24 := (cokB_t ho).2.1
    have hD := k_dropO o (usl o 0).1 (usl o 0).2 (by omega)
    cases hd : decide ((usl o 0).1 < 0) with
    | true =>
      rw [← hs, hx o (of_decide_eq_true hd)]
      clear hs
      (repeat (first | refine gq_KEF ?_ | (refine ga1A ?_; intro _q ⟨_he, _hq⟩)))
      (refine rtA ?_; try rfl)
    | false =>
      have hnn := of_decide_eq_false hd
      have hless := usl_less o hnn
      have hinv : cokB n (drp o (usl o 0).1 (usl o 0).2 o.length) = true ∧ shr (drp o (usl o 0).1 (usl o 0).2 o.length) (drp o (usl o 0).1 (usl o 0).2 o.length).length = shr l l.length := ⟨drp_ok ho, (shr_step o hnn).trans hs⟩
      clear hs
      generalize drp o (usl o 0).1 (usl o 0).2 o.length = o' at *
      (repeat (first | refine gq_KEF ?_ | (refine ga1A ?_; intro _q ⟨_he, _hq⟩)))
      exact ⟨some (o', v + 1), hinv, ⟨by rfl, zHE, zHE⟩, (by first | omega | (dsimp only; omega))⟩
def wsTG : WsT := wsT
theorem gq_KEG {H G : Prop} (k : H) (h : Hid H → G := by (intro hh; repeat1' (first | (first | (refine nxA ?_; (first | fail | ((first | (refine z_op (by rfl) ?_; first | refine z_ok ?_ ?_ | refine z_ex ?_ (by first | exact zL1 | ((first | (first | refine mk_0 Gt rfl rfl ?_)); exact zWW) | exact zL2 | exact rw_c Gt rfl | exact zL3 | fail) ?_) | ((first | refine q_callE wsTG wsZ (by rfl) ?_ | refine q_callVE wsTG (by rfl) (by rfl) ?_); refine ⟨_, _, _, (by first | assumption | exact k_copyS _ _ _ _ _ (by omega)), _, by rfl, ?_, ?_⟩)); focus (first | exact trivial | fail | exact zQZ)) | fail)) | refine swA ?_) | refine awA ?_); exact hh.out)) : G := h ⟨k⟩
theorem gs_KEG {H G : Prop} (k : H) (h : Hid H → G := by (intro hh; repeat1' (first | (refine nxA ?_; (first | fail | ((first | (refine z_op (by rfl) ?_; first | refine z_ok ?_ ?_ | refine z_ex ?_ (by first | exact zL1 | ((first | (first | refine mk_0 Gt rfl rfl ?_)); exact zWW) | exact zL2 | exact rw_c Gt rfl | exact zL3 | fail) ?_) | ((first | refine q_callE wsTG wsZ (by rfl) ?_ | refine q_callVE wsTG (by rfl) (by rfl) ?_); refine ⟨_, _, _, (by first | assumption | exact k_copyS _ _ _ _ _ (by omega)), _, by rfl, ?_, ?_⟩)); focus (first | exact trivial | fail | exact zQZ)) | fail)) | refine swA ?_); exact hh.out)) : G := h ⟨k⟩
theorem k_bdoSf (n : Int) (l : List Gt) (f w m : Int) (A : Nat) (p : Gt) (B C : List Gt) (h : bok n l f w A = true) (hN : Kon Tryz.prog 96 [dV ⟨4, m, p⟩] [] (vB true) [] [])
    (hBs : Kon Tryz.prog 99 [vI n, roA (l.take A)] [] (slA 0 0 B) [gRow B] []) (hCs : Kon Tryz.prog 99 [vI n, roA (l.drop A)] [] (slA 0 0 C) [gRow C] []) (hBC : B.length ≤ 24 ∧ C.length ≤ 24) (he : B.length + C.length = l.length) : Kon Tryz.prog 45 [bG n l f w A, dV ⟨4, m, p⟩] [] (bT n l f w A false) [gRow l] [] := by
  obtain ⟨hc, hf, hAl, hwe⟩ := bok_t h
  obtain ⟨hn, hl24, ha⟩ := cokB_t hc
  have hB := k_bvS n l f w A (by omega) (by omega)
  rw [h] at hB
  have hd : ((B.length : Int) + (C.length : Int) == (l.length : Int)) = true := by rw [beq_iff_eq]; omega
  (refine kM Tryz.func45 rfl ?_; intro hfit hfe)
  (repeat (first | refine gq_KEG ?_ | (refine ga1A ?_; intro _q ⟨_he, _hq⟩) | refine gdA ?_))
  (refine rtA ?_; try rfl)
set_option maxHeartbeats 2000000 in
theorem k_bdoSt (n : Int) (l : List Gt) (f w m : Int) (A : Nat) (p : Gt) (B C : List Gt) (h : bok n l f w A = true) (hN : Kon Tryz.prog 96 [dV ⟨4, m, p⟩] [] (vB true) [] [])
    (hBs : Kon Tryz.prog 99 [vI n, roA (l.take A)] [] (slA 0 0 B) [gRow B] []) (hCs : Kon Tryz.prog 99 [vI n, roA (l.drop A)] [] (slA 0 0 C) [gRow C] []) (hBC : B.length ≤ 24 ∧ C.length ≤ 24) (he : B.length + C.length ≠ l.length) : Kon Tryz.prog 45 [bG n l f w A, dV ⟨4, m, p⟩] [] (bT n (B ++ C) f w (((B ++ C).length : Int) - (C.length : Int)) true) [gRow (B ++ C)] [] := by
  obtain ⟨hc, hf, hAl, hwe⟩ := bok_t h
  obtain ⟨hn, hl24, ha⟩ := cokB_t hc
  have hB := k_bvS n l f w A (by omega) (by omega)
  rw [h] at hB
  have hd : ((B.length : Int) + (C.length : Int) == (l.length : Int)) = false := by rw [beq_eq_false_iff_ne]; omega
  (refine kM Tryz.func45 rfl ?_; intro hfit hfe)
  (repeat (first | refine gq_KEG ?_ | (refine ga1A ?_; intro _q ⟨_he, _hq⟩)))
  (refine aw_draw mixed T0ok cfU_ok [] (by rfl) (by kernel_rfl) ?_)
  (repeat (first | refine gs_KEG ?_ | (refine ga1A ?_; intro _q ⟨_he, _hq⟩)))
  (repeat refine gcA ?_)
  (refine aw_draw mixed T0ok cfU_ok [] (by rfl) (by kernel_rfl) ?_)
  (repeat (first | refine gs_KEG ?_ | (refine ga1A ?_; intro _q ⟨_he, _hq⟩)))
  (repeat refine gcA ?_)
  (repeat (first | refine gs_KEG ?_ | (refine ga1A ?_; intro _q ⟨_he, _hq⟩)))
  (repeat refine gcA ?_)
  (repeat (first | refine gs_KEG ?_ | (refine ga1A ?_; intro _q ⟨_he, _hq⟩)))
  (repeat refine gcA ?_)
  (repeat (first | refine gs_KEG ?_ | (refine ga1A ?_; intro _q ⟨_he, _hq⟩)))
  (repeat (first | refine gq_KEG ?_ | (refine ga1A ?_; intro _q ⟨_he, _hq⟩)))
  (refine rtA ?_; try rfl)
end Go.Proofs.YtnenhckongccgaaGreatDoor
namespace Go.Proofs.YtnenhckongccgaaGreatDoor
set_option linter.unusedVariables false
set_option linter.unusedSimpArgs false
open Go.RowKit
end Go.Proofs.YtnenhckongccgaaGreatDoor
namespace Go.Proofs.YtnenhckongccgaaGreatDoor
set_option linter.unusedVariables false
set_option linter.unusedSimpArgs false
theorem drp_all {n : Int} {l : List Gt} (a b : Int) (h : l.all (gok n) = true) : (drp l a b l.length).all (gok n) = true := by
  rw [List.all_eq_true] at h ⊢
  exact fun g hg => h g (drp_mem l a b l.length (Nat.le_refl _) g hg)
theorem drp_seg {l : List Gt} {a b : Nat} (hab : a < b) (hb : b < l.length) : drp l a b l.length = l.take a ++ seg l a b ++ l.drop (b + 1) := by
  rw [drp_del l a b hab l.length (Nat.le_refl _) hb, List.take_length, List.append_assoc, List.drop_take]; rfl
theorem shr_all {n : Int} : ∀ (f : Nat) (l : List Gt), l.all (gok n) = true → (shr l f).all (gok n) = true
  | 0, l, h => h
  | f + 1, l, h => by
    rw [shr]; split
    · exact h
    · exact shr_all f _ (drp_all _ _ h)
theorem shr_same {n : Int} {w : Int} (hw : 0 ≤ w ∧ w < 2 ^ n.toNat) : ∀ (f : Nat) (l : List Gt), l.all (gok n) = true → cr (shr l f) w = cr l w
  | 0, l, h => rfl
  | f + 1, l, h => by
    rw [shr]; split
    · rfl
    · rename_i hn
      rw [shr_same hw f _ (drp_all _ _ h)]
      rcases usl_spec l 0 with hu | ⟨a, b, hu, hab, hbl, heq, hap⟩
      · rw [hu] at hn; simp at hn
      · rw [Nat.zero_add, Nat.zero_add] at hu
        rw [hu]
        show cr (drp l a b l.length) w = cr l w
        have hga := all_at h (show a < l.length by omega)
        have hsp := split_pair hab hbl
        have hall := drp_all (a : Int) (b : Int) h
        rw [drp_seg hab hbl] at hall ⊢
        rw [List.all_append, List.all_append, Bool.and_eq_true, Bool.and_eq_true] at hall
        have := cr_less (s := l.drop (b + 1)) hga hall.1.1 hall.1.2 hap hw
        rw [← this]
        conv => rhs; rw [hsp]
        rw [← heq]; rfl
def doM (n : Int) (l : List Gt) (w : Int) (A : Nat) (d : Dd) : Option (List Gt × Int × Nat) :=
  bif nmD d then (
    if d.k = 0 then (bif btw d.n 1 ((l.length : Int) - A) then some (l, fw l A d.n.toNat w, A + d.n.toNat) else none)
    else if d.k = 1 then (bif btw d.n 1 A then some (l, bw l A d.n.toNat w, A - d.n.toNat) else none)
    else if d.k = 2 then (bif gok n d.p && decide (l.length < 24) then some (l.take A ++ d.p :: l.drop A, w, A) else none)
    else if d.k = 3 then (bif decide (A < l.length) then some (l.take A ++ l.drop (A + 1), w, A) else none)
    else bif decide ((shr (l.take A) (l.take A).length).length + (shr (l.drop A) (l.drop A).length).length = l.length) then none else some (shr (l.take A) (l.take A).length ++ shr (l.drop A) (l.drop A).length, w, (shr (l.take A) (l.take A).length).length))
  else none
theorem bok_mk {n : Int} {l : List Gt} {f w : Int} {A : Nat} (hn : 1 ≤ n ∧ n ≤ 8) (hl : l.length ≤ 24) (ha : l.all (gok n) = true) (hf : wvB n f = true) (hA : A ≤ l.length) (hw : w = cr (l.take A) f) : bok n l f w A = true := by
  have hb : btw (A : Int) 0 (l.length : Int) = true := by unfold btw; rw [decide_eq_true (by omega), decide_eq_true (by omega)]; rfl
  unfold bok
  rw [cokB_mk3 hn hl ha, hf, hb]
  show (w == cr (l.take (A : Int).toNat) f) = true
  rw [beq_iff_eq]; exact hw
theorem doM_ok {n : Int} {l l' : List Gt} {f w w' : Int} {A A' : Nat} {d : Dd} (h : bok n l f w A = true) (hd : doM n l w A d = some (l', w', A')) : bok n l' f w' A' = true := by
  obtain ⟨hc, hf, hA, hwe⟩ := bok_t h
  obtain ⟨hn, hl24, ha⟩ := cokB_t hc
  have hfv := wvB_t hf
  have hAl : A ≤ l.length := by omega
  replace hwe : w = cr (l.take A) f := hwe
  have hat : (l.take A).all (gok n) = true := all_take ha A
  have had : (l.drop A).all (gok n) = true := all_dropT ha A
  unfold doM at hd
  cases hnm : nmD d with
  | false => rw [hnm] at hd; cases hd
  | true =>
    rw [hnm] at hd
    simp only [cond_true] at hd
    split at hd
    · cases hb : btw d.n 1 ((l.length : Int) - A) with
      | false => rw [hb] at hd; cases hd
      | true =>
        rw [hb] at hd
        simp only [cond_true] at hd
        cases hd
        have hb2 := btw_t hb
        obtain ⟨m, hm⟩ : ∃ m : Nat, d.n = (m : Int) := ⟨d.n.toNat, by omega⟩
        rw [hm, Int.toNat_natCast]
        refine bok_mk hn hl24 ha hf (by omega) ?_
        rw [fw, hwe, ← cr_append, List.take_add]
    · split at hd
      · cases hb : btw d.n 1 A with
        | false => rw [hb] at hd; cases hd
        | true =>
          rw [hb] at hd
          simp only [cond_true] at hd
          cases hd
          have hb2 := btw_t hb
          obtain ⟨m, hm⟩ : ∃ m : Nat, d.n = (m : Int) := ⟨d.n.toNat, by omega⟩
          rw [hm, Int.toNat_natCast]
          refine bok_mk hn hl24 ha hf (by omega) ?_
          have e1 : l.take A = l.take (A - m) ++ (l.take A).drop (A - m) := by
            conv => lhs; rw [← List.take_append_drop (A - m) (l.take A)]
            rw [List.take_take, Nat.min_eq_left (by omega)]
          have e2 : (l.take A).reverse.take m = ((l.take A).drop (A - m)).reverse := by
            rw [List.take_reverse, List.length_take]
            congr 2; omega
          have hs : ((l.take A).drop (A - m)).all (gok n) = true := all_dropT hat _
          have hv := cr_lt (all_take ha (A - m)) ⟨hfv.2.1, hfv.2.2.1⟩
          rw [bw, e2, hwe]
          conv => lhs; rw [show cr (l.take A) f = cr ((l.take A).drop (A - m)) (cr (l.take (A - m)) f) by rw [← cr_append, ← e1]]
          exact cr_back hs hv
      · split at hd
        · cases hb : (gok n d.p && decide (l.length < 24)) with
          | false => rw [hb] at hd; cases hd
          | true =>
            rw [hb] at hd
            simp only [cond_true] at hd
            cases hd
            rw [Bool.and_eq_true, decide_eq_true_eq] at hb
            refine bok_mk hn (by simp only [List.length_append, List.length_take, List.length_cons, List.length_drop]; omega) ?_ hf (by simp only [List.length_append, List.length_take, List.length_cons, List.length_drop]; omega) ?_
            · rw [List.all_append, List.all_cons, hat, had, hb.1]; rfl
            · rw [hwe, List.take_append_of_le_length (by rw [List.length_take]; omega), List.take_take, Nat.min_self]
        · split at hd
          · cases hb : decide (A < l.length) with
            | false => rw [hb] at hd; cases hd
            | true =>
              rw [hb] at hd
              simp only [cond_true] at hd
              cases hd
              have hb2 := of_decide_eq_true hb
              refine bok_mk hn (by simp only [List.length_append, List.length_take, List.length_drop]; omega) ?_ hf (by simp only [List.length_append, List.length_take, List.length_drop]; omega) ?_
              · rw [List.all_append, hat, all_dropT ha]; rfl
              · rw [hwe, List.take_append_of_le_length (by rw [List.length_take]; omega), List.take_take, Nat.min_self]
          · have b1 := shr_len (l.take A).length (l.take A)
            have b2 := shr_len (l.drop A).length (l.drop A)
            have t1 : (l.take A).length = A := by rw [List.length_take]; omega
            have t2 : (l.drop A).length = l.length - A := List.length_drop
            have hB := shr_all (l.take A).length (l.take A) hat
            have hC := shr_all (l.drop A).length (l.drop A) had
            have hS := shr_same ⟨hfv.2.1, hfv.2.2.1⟩ (l.take A).length (l.take A) hat
            generalize shr (l.take A) (l.take A).length = B at *
            generalize shr (l.drop A) (l.drop A).length = C at *
            cases hb : decide (B.length + C.length = l.length) with
            | true => rw [hb] at hd; cases hd
            | false =>
              rw [hb] at hd
              simp only [cond_false] at hd
              cases hd
              refine bok_mk hn (by rw [List.length_append]; omega) ?_ hf (by rw [List.length_append]; omega) ?_
              · rw [List.all_append, hB, hC]; rfl
              · rw [List.take_left, hS, hwe]
end Go.Proofs.YtnenhckongccgaaGreatDoor
namespace Go.Proofs.YtnenhckongccgaaGreatDoor
set_option linter.unusedVariables false
set_option linter.unusedSimpArgs false
set_option maxRecDepth 20000
open Go.RowKit
attribute [local irreducible] runA runX AW
def wsTH : WsT := (121, ([], true)) :: (64, ([], true)) :: (92, ([], true)) :: (120, ([], true)) :: wsT
theorem gq_KMH {H G : Prop} (k : H) (h : Hid H → G := by (intro hh; repeat1' (first | (first | (refine nxA ?_; (first | fail | ((first | (refine z_op (by rfl) ?_; first | refine z_ok ?_ ?_ | refine z_ex ?_ (by first | exact zL1 | ((first | fail); exact zWW) | exact zL2 | fail | exact zL3 | (first | exact pu_of (fun w => neq_gate _ _ _ _ _ _ _ _ _ _ w) rfl)) ?_) | ((first | refine q_callE wsTH wsZ (by rfl) ?_ | refine q_callVE wsTH (by rfl) (by rfl) ?_); refine ⟨_, _, _, (by first | assumption | exact k_ahead _ _ _ _ _ (by omega) (by omega) | exact k_behindB _ _ _ _ _ (by omega) | exact k_within _ _ _), _, by rfl, ?_, ?_⟩)); focus (first | exact trivial | fail | exact zQZ)) | refine q_clip (by rfl) clipG (by first | exact trivial | omega | exact cvB (fun w => rfl) | ((repeat (any_goals (first | exact rfl | exact cV_len _ | exact cV_ln rfl (by omega) | exact Cel.pos | omega | exact trivial | refine And.intro ?_ ?_))); first | done | fail) | (simp [*]; first | done | fail)) ?_)) | refine swA ?_) | refine awA ?_); exact hh.out)) : G := h ⟨k⟩
theorem gs_KMH {H G : Prop} (k : H) (h : Hid H → G := by (intro hh; repeat1' (first | (refine nxA ?_; (first | fail | ((first | (refine z_op (by rfl) ?_; first | refine z_ok ?_ ?_ | refine z_ex ?_ (by first | exact zL1 | ((first | fail); exact zWW) | exact zL2 | fail | exact zL3 | (first | exact pu_of (fun w => neq_gate _ _ _ _ _ _ _ _ _ _ w) rfl)) ?_) | ((first | refine q_callE wsTH wsZ (by rfl) ?_ | refine q_callVE wsTH (by rfl) (by rfl) ?_); refine ⟨_, _, _, (by first | assumption | exact k_ahead _ _ _ _ _ (by omega) (by omega) | exact k_behindB _ _ _ _ _ (by omega) | exact k_within _ _ _), _, by rfl, ?_, ?_⟩)); focus (first | exact trivial | fail | exact zQZ)) | refine q_clip (by rfl) clipG (by first | exact trivial | omega | exact cvB (fun w => rfl) | ((repeat (any_goals (first | exact rfl | exact cV_len _ | exact cV_ln rfl (by omega) | exact Cel.pos | omega | exact trivial | refine And.intro ?_ ?_))); first | done | fail) | (simp [*]; first | done | fail)) ?_)) | refine swA ?_); exact hh.out)) : G := h ⟨k⟩
theorem k_behindB (n : Int) (l : List Gt) (f w : Int) (A : Nat) (h : A ≤ l.length ∧ l.length ≤ 1000) : Kon Tryz.prog 92 [bG n l f w (A : Int)] [] (roA (l.drop A)) [] [] := by
  (refine kM Tryz.func92 rfl ?_; intro hfit hfe)
  (repeat (first | refine gq_KMH ?_ | (refine ga1A ?_; intro _q ⟨_he, _hq⟩)))
  (refine rtA ?_; try rfl)
theorem k_withO (n : Int) (l : List Gt) (f w a : Int) (x y : List Gt) (hx : x.length ≤ 1000) (hy : y.length ≤ 1000) : Kon Tryz.prog 91 [bG n l f w a, roA x, roA y] [] (bS n (x ++ y).length f w x.length) [gRow (x ++ y)] [] := by
  (refine kM Tryz.func91 rfl ?_; intro hfit hfe)
  (repeat refine gcA ?_)
  (repeat (first | refine gs_KMH ?_ | (refine ga1A ?_; intro _q ⟨_he, _hq⟩)))
  refine aw_seq ?_
  refine wx_region ?_
  refine wx_run 2 T0ok cfU_ok (by rfl) ?_
  (repeat (first | refine gs_KMH ?_ | (refine ga1A ?_; intro _q ⟨_he, _hq⟩)))
  refine wx_concat (x := x) (y := y) (by rfl) (by rfl) (by rfl) ⟨by omega, by omega⟩ (by rfl) ?_
  refine wx_end T0ok cfU_ok (i := 4) (by rfl) ?_
  (repeat (first | refine gq_KMH ?_ | (refine ga1A ?_; intro _q ⟨_he, _hq⟩)))
  (refine rtA ?_; try rfl)
theorem k_copyO (n : Int) (l : List Gt) (f w : Int) (A : Nat) (h : A ≤ l.length ∧ l.length ≤ 1000) : Kon Tryz.prog 42 [bG n l f w (A : Int)] [] (bS n l.length f w (A : Int)) [gRow l] [] := by
  have hW := k_withO n l f w (A : Int) (l.take A) (l.drop A) (by rw [List.length_take]; omega) (by rw [List.length_drop]; omega)
  rw [List.take_append_drop, List.length_take, Nat.min_eq_left h.1] at hW
  (refine kM Tryz.func42 rfl ?_; intro hfit hfe)
  (repeat (first | refine gq_KMH ?_ | (refine ga1A ?_; intro _q ⟨_he, _hq⟩)))
  (refine aw_draw mixed T0ok cfU_ok [(128, [5, 6]), (32, [6])] (by rfl) (by kernel_rfl) ?_)
  (repeat (first | refine gq_KMH ?_ | (refine ga1A ?_; intro _q ⟨_he, _hq⟩)))
  (refine rtA ?_; try rfl)
abbrev bR (n : Int) (l : List Gt) (f w a : Int) (ok : Bool) : AV := .tup [.agg [.v (.int .i64 n), roG l, .v (.int .i64 f), .v (.int .i64 w), .v (.int .i64 a)], .one (.v (.bool ok))]
abbrev gZ : Gt := ⟨0, 0, 0, 0⟩
set_option maxHeartbeats 2000000 in
theorem k_goneF (n : Int) (l : List Gt) (f w : Int) (A m : Nat) (h : bok n l f w A = true) (hm : 1 ≤ m ∧ m + A ≤ l.length) : Kon Tryz.prog 120 [bG n l f w (A : Int), dV ⟨0, m, gZ⟩] [] (bR n l f (fw l A m w) ((A + m : Nat) : Int) true) [] [] := by
  obtain ⟨hc, hf, _, hwe⟩ := bok_t h
  obtain ⟨hn, hl24, ha⟩ := cokB_t hc
  have hfv := wvB_t hf
  have hat : (l.take A).all (gok n) = true := all_take ha A
  have hwb : 0 ≤ w ∧ w < 2 ^ n.toNat := by rw [hwe]; exact cr_lt hat ⟨hfv.2.1, hfv.2.2.1⟩
  have hR := k_runAll n ((l.drop A).take m) w (all_take (all_dropT ha A) m) (by rw [List.length_take, List.length_drop]; omega) (fw_wv (A := A) (i := 0) hn ha hwb)
  have hlen : (l.drop A).length = l.length - A := List.length_drop
  have hb : btw (m : Int) 1 ((l.drop A).length : Int) = true := by unfold btw; rw [decide_eq_true (by omega), decide_eq_true (by omega)]; rfl
  have hWi := k_within (m : Int) 1 ((l.drop A).length : Int)
  rw [hb] at hWi
  replace hR : Kon Tryz.prog 63 [roA ((l.drop A).take (m : Int).toNat), vI w] [] (vI (fw l A m w)) [] [] := hR
  (refine kM Tryz.func120 rfl ?_; intro hfit hfe)
  (repeat (first | refine gq_KMH ?_ | (refine ga1A ?_; intro _q ⟨_he, _hq⟩)))
  (refine aw_draw2 mixed T0ok cfU_ok [(32, [1004, 1005, 1007, 8])] (by rfl) (by kernel_rfl) ?_)
  (repeat (first | refine gq_KMH ?_ | (refine ga1A ?_; intro _q ⟨_he, _hq⟩)))
  (refine rtA ?_; try rfl)
set_option maxHeartbeats 2000000 in
theorem k_goneB (n : Int) (l : List Gt) (f w : Int) (A m : Nat) (h : bok n l f w A = true) (hm : 1 ≤ m ∧ m ≤ A) : Kon Tryz.prog 120 [bG n l f w (A : Int), dV ⟨1, m, gZ⟩] [] (bR n l f (bw l A m w) ((A : Int) - (m : Int)) true) [] [] := by
  obtain ⟨hc, hf, hA, hwe⟩ := bok_t h
  obtain ⟨hn, hl24, ha⟩ := cokB_t hc
  have hfv := wvB_t hf
  have hat : (l.take A).all (gok n) = true := all_take ha A
  have hrl : (l.take A).reverse.length = A := by rw [List.length_reverse, List.length_take]; omega
  have hwb : 0 ≤ w ∧ w < 2 ^ n.toNat := by rw [hwe]; exact cr_lt hat ⟨hfv.2.1, hfv.2.2.1⟩
  have hR := k_runAll n ((l.take A).reverse.take m) w (all_take (by rw [List.all_reverse]; exact hat) m) (by rw [List.length_take]; omega) (bw_wv (A := A) (i := 0) hn ha hwb)
  have hb : btw (m : Int) 1 ((l.take A).reverse.length : Int) = true := by unfold btw; rw [decide_eq_true (by omega), decide_eq_true (by omega)]; rfl
  have hWi := k_within (m : Int) 1 ((l.take A).reverse.length : Int)
  rw [hb] at hWi
  have hBk := k_backwards (l.take A) (by rw [List.length_take]; omega)
  replace hR : Kon Tryz.prog 63 [roA ((l.take A).reverse.take (m : Int).toNat), vI w] [] (vI (bw l A m w)) [] [] := hR
  (refine kM Tryz.func120 rfl ?_; intro hfit hfe)
  (repeat refine gcA ?_)
  (repeat (first | refine gs_KMH ?_ | (refine ga1A ?_; intro _q ⟨_he, _hq⟩)))
  (repeat refine gcA ?_)
  (repeat (first | refine gs_KMH ?_ | (refine ga1A ?_; intro _q ⟨_he, _hq⟩)))
  (repeat refine gcA ?_)
  (repeat (first | refine gs_KMH ?_ | (refine ga1A ?_; intro _q ⟨_he, _hq⟩)))
  (repeat refine gcA ?_)
  (repeat (first | refine gs_KMH ?_ | (refine ga1A ?_; intro _q ⟨_he, _hq⟩)))
  (refine aw_freeze 224 (by rfl) (by rfl) ?_; refine aw_slot 6 4 (by rfl) (by rfl) (by first | exact trivial | omega | exact cvB (fun w => rfl) | ((repeat (any_goals (first | exact rfl | exact cV_len _ | exact cV_ln rfl (by omega) | exact Cel.pos | omega | exact trivial | refine And.intro ?_ ?_))); first | done | fail) | (simp [*]; first | done | fail)) ?_)
  (repeat (first | refine gq_KMH ?_ | (refine ga1A ?_; intro _q ⟨_he, _hq⟩)))
  (refine aw_draw2 mixed T0ok cfU_ok [(32, [1004, 1005, 1007, 8])] (by rfl) (by kernel_rfl) ?_)
  (repeat (first | refine gq_KMH ?_ | (refine ga1A ?_; intro _q ⟨_he, _hq⟩)))
  (refine rtA ?_; try rfl)
theorem k_goneX (n : Int) (l : List Gt) (f w : Int) (A : Nat) (d : Dd) (h : bok n l f w A = true) (hk : d.k = 0 ∨ d.k = 1) (hx : (!(d.p.k == 0 && (d.p.a == 0 && (d.p.b == 0 && d.p.c == 0)))) = true ∨ btw d.n 1 (if d.k = 1 then A else (l.length : Int) - A) = false) : Kon Tryz.prog 120 [bG n l f w (A : Int), dV d] [] (bR n l f w (A : Int) false) [] [] := by
  obtain ⟨hc, hf, hA, hwe⟩ := bok_t h
  obtain ⟨hn, hl24, ha⟩ := cokB_t hc
  obtain ⟨k, m, p⟩ := d
  dsimp only at hk hx
  have hrl : (l.take A).reverse.length = A := by rw [List.length_reverse, List.length_take]; omega
  have hdl : (l.drop A).length = l.length - A := List.length_drop
  have hBk := k_backwards (l.take A) (by rw [List.length_take]; omega)
  rcases hk with rfl | rfl
  · have hWi := k_within m 1 ((l.drop A).length : Int)
    rw [show ((l.drop A).length : Int) = (l.length : Int) - A by omega] at hWi
    cases hp : (p.k == 0 && (p.a == 0 && (p.b == 0 && p.c == 0))) with
    | false =>
      (refine kM Tryz.func120 rfl ?_; intro hfit hfe)
      (repeat (first | refine gq_KMH ?_ | (refine ga1A ?_; intro _q ⟨_he, _hq⟩)))
      (refine rtA ?_; try rfl)
    | true =>
      rw [hp] at hx
      simp at hx
      rw [hx] at hWi
      rw [show (l.length : Int) - A = ((l.drop A).length : Int) by omega] at hWi
      (refine kM Tryz.func120 rfl ?_; intro hfit hfe)
      (repeat (first | refine gq_KMH ?_ | (refine ga1A ?_; intro _q ⟨_he, _hq⟩)))
      (refine rtA ?_; try rfl)
  · have hWi := k_within m 1 ((l.take A).reverse.length : Int)
    cases hp : (p.k == 0 && (p.a == 0 && (p.b == 0 && p.c == 0))) with
    | false =>
      (refine kM Tryz.func120 rfl ?_; intro hfit hfe)
      (repeat (first | refine gq_KMH ?_ | (refine ga1A ?_; intro _q ⟨_he, _hq⟩)))
      (refine rtA ?_; try rfl)
    | true =>
      rw [hp] at hx
      simp at hx
      rw [hrl, hx] at hWi
      rw [← hrl] at hWi
      (refine kM Tryz.func120 rfl ?_; intro hfit hfe)
      (repeat (first | refine gq_KMH ?_ | (refine ga1A ?_; intro _q ⟨_he, _hq⟩)))
      (refine rtA ?_; try rfl)
end Go.Proofs.YtnenhckongccgaaGreatDoor
