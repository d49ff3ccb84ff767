/- KBP, KME, KGK, KGL, KEA, KEB, KEC: laid into one text. -/
import Derived.Test.YtnenhckongccgaaGreatDoorQGN
import Derived.Test.YtnenhckongccgaaGreatDoorQGO
import Derived.Test.YtnenhckongccgaaGreatDoorQGP

namespace Go.Proofs.YtnenhckongccgaaGreatDoor
set_option linter.unusedVariables false
set_option linter.unusedSimpArgs false
set_option maxRecDepth 20000
open Go.RowKit
attribute [local irreducible] runA runX AW
theorem cokB_mk3 {n : Int} {l : List Gt} (h1 : 1 ≤ n ∧ n ≤ 8) (h2 : l.length ≤ 24) (h3 : l.all (gok n) = true) : cokB n l = true := by
  unfold cokB btw
  rw [decide_eq_true h1.1, decide_eq_true h1.2, decide_eq_true (by omega), h3]; rfl
def drp (l : List Gt) (a b : Int) : Nat → List Gt
  | 0 => []
  | i + 1 => if ((i : Int) != a && (i : Int) != b) = true then drp l a b i ++ [l.getD i Cel.no] else drp l a b i
theorem drp_len (l : List Gt) (a b : Int) : ∀ i : Nat, (drp l a b i).length ≤ i
  | 0 => Nat.le_refl _
  | i + 1 => by
    have := drp_len l a b i
    rw [drp]; split
    · rw [List.length_append]; simp; omega
    · omega
theorem drp_less (l : List Gt) (a : Nat) (b : Int) : ∀ i : Nat, a < i → (drp l a b i).length < i
  | 0, h => by omega
  | i + 1, h => by
    rw [drp]; split
    · rename_i hc
      have : a < i := by
        rcases Nat.lt_or_ge a i with h1 | h1
        · exact h1
        · obtain rfl : a = i := by omega
          simp at hc
      have := drp_less l a b i this
      rw [List.length_append]; simp; omega
    · have := drp_len l a b i
      omega
theorem drp_mem (l : List Gt) (a b : Int) : ∀ i : Nat, i ≤ l.length → ∀ g ∈ drp l a b i, g ∈ l
  | 0, _, g, h => by cases h
  | i + 1, hi, g, h => by
    rw [drp] at h; split at h
    · rcases List.mem_append.1 h with h | h
      · exact drp_mem l a b i (by omega) g h
      · have e : l.getD i Cel.no = l[i] := by simp [List.getD_eq_getElem?_getD, show i < l.length by omega]
        rw [List.mem_singleton.1 h, e]
        exact List.getElem_mem _
    · exact drp_mem l a b i (by omega) g h
theorem drp_ok {n : Int} {l : List Gt} {a b : Int} (h : cokB n l = true) : cokB n (drp l a b l.length) = true := by
  obtain ⟨hn, hl, ha⟩ := cokB_t h
  refine cokB_mk3 hn (by have := drp_len l a b l.length; omega) ?_
  rw [List.all_eq_true] at ha ⊢
  exact fun g hg => ha g (drp_mem l a b l.length (Nat.le_refl _) g hg)
def shr (l : List Gt) : Nat → List Gt
  | 0 => l
  | f + 1 => if (usl l 0).1 < 0 then l else shr (drp l (usl l 0).1 (usl l 0).2 l.length) f
theorem shr_len : ∀ (f : Nat) (l : List Gt), (shr l f).length ≤ l.length
  | 0, l => Nat.le_refl _
  | f + 1, l => by
    rw [shr]; split
    · exact Nat.le_refl _
    · exact Nat.le_trans (shr_len f _) (drp_len _ _ _ _)
theorem usl_less (l : List Gt) (h : ¬ (usl l 0).1 < 0) : (drp l (usl l 0).1 (usl l 0).2 l.length).length < l.length := by
  rcases usl_spec l 0 with hu | ⟨a, b, hu, hab, hbl, _⟩
  · rw [hu] at h; simp at h
  · rw [hu, Nat.zero_add]
    exact drp_less l a _ l.length (by omega)
theorem shr_step (l : List Gt) (h : ¬ (usl l 0).1 < 0) : shr (drp l (usl l 0).1 (usl l 0).2 l.length) (drp l (usl l 0).1 (usl l 0).2 l.length).length = shr l l.length := by
  have key : ∀ (f f' : Nat) (o : List Gt), o.length ≤ f → o.length ≤ f' → shr o f = shr o f' := by
    intro f
    induction f with
    | zero =>
      intro f' o h1 h2
      have e : o = [] := List.eq_nil_of_length_eq_zero (by omega)
      subst e
      cases f' with
      | zero => rfl
      | succ f' => rw [shr, shr]; rfl
    | succ f ih =>
      intro f' o h1 h2
      cases f' with
      | zero =>
        have e : o = [] := List.eq_nil_of_length_eq_zero (by omega)
        subst e
        rw [shr, shr]; rfl
      | succ f' =>
        rw [shr, shr]
        split
        · rfl
        · rename_i hn
          have := usl_less o hn
          exact ih f' _ (by omega) (by omega)
  have hl := usl_less l h
  obtain ⟨m, hm⟩ : ∃ m, l.length = m + 1 := ⟨l.length - 1, by omega⟩
  conv => rhs; rw [hm, shr, if_neg h]
  exact key _ _ _ (Nat.le_refl _) (by omega)
def wsTM : WsT := [(139, ([], true)), (121, ([], true))]
theorem gq_KME {H G : Prop} (k : H) (h : Hid H → G := by (intro hh; repeat1' (first | (first | (refine nxA ?_; (first | fail | ((first | (refine z_op (by rfl) ?_; first | refine z_ok ?_ ?_ | refine z_ex ?_ (by first | exact zL1 | ((first | fail); exact zWW) | exact zL2 | fail | exact zL3 | fail) ?_) | ((first | refine q_callE wsTM wsZ (by rfl) ?_ | refine q_callVE wsTM (by rfl) (by rfl) ?_); refine ⟨_, _, _, (by first | assumption | exact k_clone _ (by omega) | exact k_clipR _), _, by rfl, ?_, ?_⟩)); focus (first | exact trivial | fail | exact zQZ)) | refine q_delC (α := Gt) (by rfl) (by rfl) (by rfl) delG (by first | exact trivial | omega | exact cvB (fun w => rfl) | ((repeat (any_goals (first | exact rfl | exact cV_len _ | exact cV_ln rfl (by omega) | exact Cel.pos | omega | exact trivial | refine And.intro ?_ ?_))); first | done | fail) | (simp [*]; first | done | fail)) ?_)) | refine swA ?_) | refine awA ?_); exact hh.out)) : G := h ⟨k⟩
theorem gs_KME {H G : Prop} (k : H) (h : Hid H → G := by (intro hh; repeat1' (first | (refine nxA ?_; (first | fail | ((first | (refine z_op (by rfl) ?_; first | refine z_ok ?_ ?_ | refine z_ex ?_ (by first | exact zL1 | ((first | fail); exact zWW) | exact zL2 | fail | exact zL3 | fail) ?_) | ((first | refine q_callE wsTM wsZ (by rfl) ?_ | refine q_callVE wsTM (by rfl) (by rfl) ?_); refine ⟨_, _, _, (by first | assumption | exact k_clone _ (by omega) | exact k_clipR _), _, by rfl, ?_, ?_⟩)); focus (first | exact trivial | fail | exact zQZ)) | refine q_delC (α := Gt) (by rfl) (by rfl) (by rfl) delG (by first | exact trivial | omega | exact cvB (fun w => rfl) | ((repeat (any_goals (first | exact rfl | exact cV_len _ | exact cV_ln rfl (by omega) | exact Cel.pos | omega | exact trivial | refine And.intro ?_ ?_))); first | done | fail) | (simp [*]; first | done | fail)) ?_)) | refine swA ?_); exact hh.out)) : G := h ⟨k⟩
theorem k_clipR (l : List Gt) : Kon Tryz.prog 139 [roA l] [] (roA l) [] [] := by
  (refine kM Tryz.func139 rfl ?_; intro hfit hfe)
  (repeat (first | refine gq_KME ?_ | (refine ga1A ?_; intro _q ⟨_he, _hq⟩)))
  (refine rtA ?_; try rfl)
theorem drp_lt (l : List Gt) (a b : Nat) : ∀ i : Nat, i ≤ l.length → i ≤ a → a < b → drp l a b i = l.take i
  | 0, _, _, _ => by simp [drp]
  | i + 1, hi, h, hab => by
    have e : l.getD i Cel.no = l[i] := by simp [List.getD_eq_getElem?_getD, show i < l.length by omega]
    rw [drp, if_pos (by simp only [Bool.and_eq_true, bne_iff_ne]; omega), drp_lt l a b i (by omega) (by omega) hab, e, List.take_append_getElem]
theorem drp_mid (l : List Gt) (a b : Nat) : ∀ i : Nat, i ≤ l.length → a < i → i ≤ b → drp l a b i = l.take a ++ (l.take i).drop (a + 1)
  | 0, _, h, _ => by omega
  | i + 1, hi, h, hb => by
    have e : l.getD i Cel.no = l[i] := by simp [List.getD_eq_getElem?_getD, show i < l.length by omega]
    rcases Nat.lt_or_ge a i with h1 | h1
    · rw [drp, if_pos (by simp only [Bool.and_eq_true, bne_iff_ne]; omega), drp_mid l a b i (by omega) h1 (by omega), e, List.append_assoc, ← List.take_append_getElem (show i < l.length by omega), List.drop_append_of_le_length (by rw [List.length_take]; omega)]
    · obtain rfl : a = i := by omega
      rw [drp, if_neg (by simp), drp_lt l a b a (by omega) (Nat.le_refl _) (by omega)]
      simp
theorem drp_del (l : List Gt) (a b : Nat) (hab : a < b) : ∀ i : Nat, i ≤ l.length → b < i → drp l a b i = l.take a ++ ((l.take b).drop (a + 1) ++ (l.take i).drop (b + 1))
  | 0, _, h => by omega
  | i + 1, hi, h => by
    have e : l.getD i Cel.no = l[i] := by simp [List.getD_eq_getElem?_getD, show i < l.length by omega]
    rcases Nat.lt_or_ge b i with h1 | h1
    · rw [drp, if_pos (by simp only [Bool.and_eq_true, bne_iff_ne]; omega), drp_del l a b hab i (by omega) h1, e, List.append_assoc, List.append_assoc, ← List.take_append_getElem (show i < l.length by omega), List.drop_append_of_le_length (by rw [List.length_take]; omega)]
    · obtain rfl : b = i := by omega
      rw [drp, if_neg (by simp), drp_mid l a b b (by omega) hab (Nat.le_refl _)]
      simp
theorem del_drp (l : List Gt) (a b : Nat) (hab : a < b) (hb : b < l.length) : (l.take (b : Int).toNat ++ l.drop ((b : Int) + 1).toNat).take (a : Int).toNat ++ (l.take (b : Int).toNat ++ l.drop ((b : Int) + 1).toNat).drop ((a : Int) + 1).toNat = drp l a b l.length := by
  have e1 : (a : Int).toNat = a := by omega
  have e2 : (b : Int).toNat = b := by omega
  have e3 : ((a : Int) + 1).toNat = a + 1 := by omega
  have e4 : ((b : Int) + 1).toNat = b + 1 := by omega
  rw [e1, e2, e3, e4, drp_del l a b hab l.length (Nat.le_refl _) hb, List.take_length, List.take_append_of_le_length (by rw [List.length_take]; omega), List.take_take, Nat.min_eq_left (by omega), List.drop_append_of_le_length (by rw [List.length_take]; omega)]
theorem k_shI (n : Int) (l : List Gt) (ha : l.all (gok n) = true) (hl : l.length ≤ 1000) : Kon Tryz.prog 121 [roA l] [] (roA (shr l l.length)) [] [] := by
  (refine kM Tryz.func121 rfl ?_; intro hfit hfe)
  (repeat (first | refine gq_KME ?_ | (refine ga1A ?_; intro _q ⟨_he, _hq⟩)))
  (refine aw_rd [2] [] (fun g : Nat × List Gt => [(3, .g (.one (.sl 112 g.1 g.2.length)))]) (fun g => [(112, (g.1, gRow g.2))]) (fun g => g.2.all (gok n) = true ∧ g.2.length ≤ 1000 ∧ shr g.2 g.2.length = shr l l.length) (fun g => g.2.length) (0, l) (by rfl) (by rfl) ?_ (by rfl) zHE zHE ?_)
  · exact ⟨ha, hl, rfl⟩
  rintro ⟨r, o⟩ ⟨ho, hol, hs⟩
  dsimp only at ho hol hs ⊢
  have hU := k_usl n o ho hol
  cases hd : decide ((usl o 0).1 < 0) with
  | true =>
    have e : shr o o.length = o := by
      cases hm : o.length with
      | zero => rfl
      | succ m => rw [shr, if_pos (of_decide_eq_true hd)]
    rw [← hs, e]
    clear hs e
    (repeat refine gcA ?_)
    (repeat (first | refine gs_KME ?_ | (refine ga1A ?_; intro _q ⟨_he, _hq⟩)))
    (repeat refine gcA ?_)
    (repeat (first | refine gs_KME ?_ | (refine ga1A ?_; intro _q ⟨_he, _hq⟩)))
    (refine aw_freeze 112 (by rfl) (by rfl) ?_; refine aw_slot 3 4 (by rfl) (by rfl) (by first | exact trivial | omega | exact cvB (fun w => rfl) | ((repeat (any_goals (first | exact rfl | exact cV_len _ | exact cV_ln rfl (by omega) | exact Cel.pos | omega | exact trivial | refine And.intro ?_ ?_))); first | done | fail) | (simp [*]; first | done | fail)) ?_)
    (repeat (first | refine gq_KME ?_ | (refine ga1A ?_; intro _q ⟨_he, _hq⟩)))
    (refine rtA ?_; try rfl)
  | false =>
    have hnn := of_decide_eq_false hd
    rcases usl_spec o 0 with hu | ⟨a, b, hu, hab, hbl, _⟩
    · rw [hu] at hnn; simp at hnn
    · rw [Nat.zero_add, Nat.zero_add] at hu
      have hE := del_drp o a b hab hbl
      have hless := usl_less o hnn
      have hst := (shr_step o hnn).trans hs
      have hall : (drp o (usl o 0).1 (usl o 0).2 o.length).all (gok n) = true := by
        rw [List.all_eq_true] at ho ⊢
        exact fun g hg => ho g (drp_mem o _ _ o.length (Nat.le_refl _) g hg)
      rw [hu] at hU hd hless hst hall
      dsimp only at hU hd hless hst hall
      rw [← hE] at hless hst hall
      clear hs hE hu hnn
      have hless2 := hless
      simp only [List.length_append, List.length_take, List.length_drop] at hless2
      have hX : (o.take (b : Int).toNat ++ o.drop ((b : Int) + 1).toNat).length = o.length - 1 := by
        rw [List.length_append, List.length_take, List.length_drop]; omega
      clear hless2
      obtain ⟨X, hXe⟩ : ∃ X, (o.take (b : Int).toNat ++ o.drop ((b : Int) + 1).toNat).take (a : Int).toNat ++ (o.take (b : Int).toNat ++ o.drop ((b : Int) + 1).toNat).drop ((a : Int) + 1).toNat = X := ⟨_, rfl⟩
      rw [hXe] at hless hst hall
      have hinv : X.all (gok n) = true ∧ X.length ≤ 1000 ∧ shr X X.length = shr l l.length := ⟨hall, by omega, hst⟩
      clear hst hall
      rw [← hXe] at hinv hless
      clear hXe
      (repeat (first | refine gq_KME ?_ | (refine ga1A ?_; intro _q ⟨_he, _hq⟩)))
      exact ⟨(r + 1 + 1, _), hinv, ⟨by rfl, zHE, zHE⟩, (by first | omega | (dsimp only; omega))⟩
theorem gq_KGK {H G : Prop} (k : H) (h : Hid H → G := by (intro hh; repeat1' (first | (first | (refine nxA ?_; (first | fail | ((first | (refine z_op (by rfl) ?_; first | refine z_ok ?_ ?_ | refine z_ex ?_ (by first | exact zL1 | ((first | refine mk_c Gt rfl rfl rfl ?_); exact zWW) | exact zL2 | fail | exact zL3 | fail) ?_) | ((first | refine q_callE wsTB wsZ (by rfl) ?_ | refine q_callVE wsTB (by rfl) (by rfl) ?_); refine ⟨_, _, _, (by first | assumption | exact k_within _ _ _ | exact k_l1In _ _ _ | exact k_wvS2 _ _ | exact k_wv _ _ | exact k_ahead _ _ _ _ _ (by omega) (by omega)), _, by rfl, ?_, ?_⟩)); focus (first | exact trivial | fail | exact zQZ)) | fail)) | refine swA ?_) | refine awA ?_); exact hh.out)) : G := h ⟨k⟩
def wsTB : WsT := (64, ([], true)) :: wsT
abbrev roG (l : List Gt) : AC := .ro 4 l.length (cV l)
abbrev bG (n : Int) (l : List Gt) (f w a : Int) : AV := .g (.agg [.v (.int .i64 n), roG l, .v (.int .i64 f), .v (.int .i64 w), .v (.int .i64 a)])
def bok (n : Int) (l : List Gt) (f w a : Int) : Bool := cokB n l && (wvB n f && (btw a 0 (l.length : Int) && (w == cr (l.take a.toNat) f)))
theorem k_ahead (n : Int) (l : List Gt) (f w a : Int) (hl : l.length ≤ 100000000) (ha : 0 ≤ a ∧ a ≤ l.length) : Kon Tryz.prog 64 [bG n l f w a] [] (.g (.one (roG (l.take a.toNat)))) [] [] := by
  (refine kM Tryz.func64 rfl ?_; intro hfit hfe)
  (repeat (first | refine gq_KGK ?_ | (refine ga0A ?_; intro _hq)))
  (refine rtA ?_; try rfl)
theorem all_take {p : Gt → Bool} {l : List Gt} (h : l.all p = true) (k : Nat) : (l.take k).all p = true := by
  rw [List.all_eq_true] at h ⊢
  exact fun x hx => h x (List.mem_of_mem_take hx)
theorem all_dropT {p : Gt → Bool} {l : List Gt} (h : l.all p = true) (k : Nat) : (l.drop k).all p = true := by
  rw [List.all_eq_true] at h ⊢
  exact fun x hx => h x (List.mem_of_mem_drop hx)
theorem cokB_of {n : Int} {l : List Gt} (h1 : 1 ≤ n ∧ n ≤ 8) (h2 : l.length ≤ 24) (h3 : l.all (gok n) = true) : cokB n l = true := by
  unfold cokB btw
  rw [decide_eq_true h1.1, decide_eq_true h1.2, decide_eq_true (by omega), h3]; rfl
theorem cokB_take {n : Int} {l : List Gt} (h : cokB n l = true) (k : Nat) : cokB n (l.take k) = true := by
  obtain ⟨h1, h2, h3⟩ := cokB_t h
  exact cokB_of h1 (by rw [List.length_take]; omega) (all_take h3 k)
set_option maxHeartbeats 1000000 in
theorem k_bv (n : Int) (l : List Gt) (f w a : Int) (hl : l.length ≤ 100000000) (hr : -9223372036854775808 ≤ n ∧ n ≤ 9223372036854775807) : Kon Tryz.prog 15 [bG n l f w a] [] (vB (bok n l f w a)) [] [] := by
  unfold bok
  have hC := k_cv n l hl
  cases h1 : cokB n l with
  | false =>
    rw [h1] at hC
    (refine kM Tryz.func15 rfl ?_; intro hfit hfe)
    (repeat (first | refine gq_KGK ?_ | (refine ga0A ?_; intro _hq) | refine gdA ?_))
    (refine rtA ?_; try rfl)
  | true =>
    rw [h1] at hC
    have hc := cokB_t h1
    cases h2 : wvB n f with
    | false =>
      (refine kM Tryz.func15 rfl ?_; intro hfit hfe)
      (repeat (first | refine gq_KGK ?_ | (refine ga0A ?_; intro _hq) | refine gdA ?_))
      (refine rtA ?_; try rfl)
    | true =>
      cases h3 : btw a 0 (l.length : Int) with
      | false =>
        (refine kM Tryz.func15 rfl ?_; intro hfit hfe)
        (repeat (first | refine gq_KGK ?_ | (refine ga0A ?_; intro _hq) | refine gdA ?_))
        (refine rtA ?_; try rfl)
      | true =>
        have h3' := btw_t h3
        have hlt : (l.take a.toNat).length ≤ 100000000 := by rw [List.length_take]; omega
        (have hA := k_ahead n l f w a hl h3'; have hR := k_runAll n (l.take a.toNat) f (all_take hc.2.2 _) hlt h2)
        (refine kM Tryz.func15 rfl ?_; intro hfit hfe)
        (repeat (first | refine gq_KGK ?_ | (refine ga0A ?_; intro _hq) | refine gdA ?_))
        (refine rtA ?_; try rfl)
set_option maxHeartbeats 1000000 in
theorem k_bvS (n : Int) (l : List Gt) (f w a : Int) (hl : l.length ≤ 100000000) (hr : -9223372036854775808 ≤ n ∧ n ≤ 9223372036854775807) : Kon Tryz.prog 12 [bG n l f w a] [] (vB (bok n l f w a)) [] [] := by
  unfold bok
  have hC := k_cvS n l hl hr
  cases h1 : cokB n l with
  | false =>
    rw [h1] at hC
    (refine kM Tryz.func12 rfl ?_; intro hfit hfe)
    (repeat (first | refine gq_KGK ?_ | (refine ga0A ?_; intro _hq) | refine gdA ?_))
    (refine rtA ?_; try rfl)
  | true =>
    rw [h1] at hC
    have hc := cokB_t h1
    cases h2 : wvB n f with
    | false =>
      (refine kM Tryz.func12 rfl ?_; intro hfit hfe)
      (repeat (first | refine gq_KGK ?_ | (refine ga0A ?_; intro _hq) | refine gdA ?_))
      (refine rtA ?_; try rfl)
    | true =>
      cases h3 : btw a 0 (l.length : Int) with
      | false =>
        (refine kM Tryz.func12 rfl ?_; intro hfit hfe)
        (repeat (first | refine gq_KGK ?_ | (refine ga0A ?_; intro _hq) | refine gdA ?_))
        (refine rtA ?_; try rfl)
      | true =>
        have h3' := btw_t h3
        have hlt : (l.take a.toNat).length ≤ 100000000 := by rw [List.length_take]; omega
        (have hR := k_crunS n (l.take a.toNat) f hlt hr; have hk : cokB n (l.take a.toNat) = true := cokB_take h1 a.toNat; rw [crM, hk, h2, Bool.and_self, if_pos rfl] at hR)
        (refine kM Tryz.func12 rfl ?_; intro hfit hfe)
        (repeat (first | refine gq_KGK ?_ | (refine ga0A ?_; intro _hq) | refine gdA ?_))
        (refine rtA ?_; try rfl)
theorem gq_KGL {H G : Prop} (k : H) (h : Hid H → G := by (intro hh; repeat1' (first | (first | (refine nxA ?_; (first | fail | ((first | (refine z_op (by rfl) ?_; first | refine z_ok ?_ ?_ | refine z_ex ?_ (by first | exact zL1 | ((first | refine mk_c Gt rfl rfl rfl ?_); exact zWW) | exact zL2 | fail | exact zL3 | fail) ?_) | ((first | refine q_callE wsT wsZ (by rfl) ?_ | refine q_callVE wsT (by rfl) (by rfl) ?_); refine ⟨_, _, _, (by first | assumption | exact k_toGate _ | exact k_eqGate _ | exact k_eqG _ (by omega) | exact k_toG _ (by omega)), _, by rfl, ?_, ?_⟩)); focus (first | exact trivial | fail | exact zQZ)) | fail)) | refine swA ?_) | refine awA ?_); exact hh.out)) : G := h ⟨k⟩
theorem k_toGate (g : Gt) : Kon Tryz.prog 111 [gV g] [] (gV g) [] [] := by
  (refine kM Tryz.func111 rfl ?_; intro hfit hfe)
  (repeat (first | refine gq_KGL ?_ | (refine ga1A ?_; intro _q ⟨_he, _hq⟩)))
  (refine rtA ?_; try rfl)
theorem set_end {α : Type} (l r : List α) (x y : α) : (l ++ x :: r).set l.length y = l ++ y :: r := by
  rw [List.set_append_right _ _ (Nat.le_refl _), Nat.sub_self]; rfl
abbrev gK0 : Gt := Cel.no
theorem k_toG (l : List Gt) (h : l.length ≤ 10000000) : Kon Tryz.prog 68 [roA l] [] (slA 0 0 l) [gRow l] [] := by
  (refine kM Tryz.func68 rfl ?_; intro hfit hfe)
  have hrl : (List.replicate (l.length : Int).toNat (Cel.no : Gt)).length = l.length := by rw [List.length_replicate]; omega
  (repeat (first | refine gq_KGL ?_ | (refine ga1A ?_; intro _q ⟨_he, _hq⟩)))
  (refine aw_rd [0, 3] [] (fun i : Nat => [(4, vI i)]) (fun i => [(112, (0, gRow (l.take i ++ List.replicate (l.length - i) gK0)))]) (fun i => i ≤ l.length) (fun i => l.length - i) 0 (by rfl) (by rfl) ?_ (by rfl) zHE zHE ?_)
  · exact Nat.zero_le _
  rintro i hi
  rcases Nat.lt_or_ge i l.length with h1 | h1
  · have hd : decide ((i : Int) < (l.length : Int)) = true := decide_eq_true (by omega)
    have hl2 : (l.take i ++ List.replicate (l.length - i) gK0).length = l.length := by simp; omega
    have e : (l.take i ++ List.replicate (l.length - i) gK0).set (i : Int).toNat (l.getD (i : Int).toNat gK0) = l.take (i + 1) ++ List.replicate (l.length - (i + 1)) gK0 := by
      rw [show l.length - i = (l.length - (i + 1)) + 1 by omega, List.replicate_succ, List.take_succ_eq_append_getElem h1]
      have h2 : (i : Int).toNat = (l.take i).length := by simp; omega
      have h3 : l.getD (i : Int).toNat gK0 = l[i] := by rw [Int.toNat_natCast, List.getD_eq_getElem?_getD, List.getElem?_eq_getElem h1]; rfl
      rw [h3, h2, set_end, List.append_assoc]; rfl
    have hinv : i + 1 ≤ l.length := h1
    (repeat (first | refine gq_KGL ?_ | (refine ga1A ?_; intro _q ⟨_he, _hq⟩)))
    exact ⟨i + 1, hinv, ⟨by rfl, zHE, ⟨Eq.trans (b := some (0, gRow ((l.take i ++ List.replicate (l.length - i) gK0).set (i : Int).toNat (l.getD (i : Int).toNat gK0)))) (by rfl) (by rw [e]), zHE⟩⟩, (by first | omega | (dsimp only; omega))⟩
  · obtain rfl : i = l.length := by omega
    have hd : decide ((l.length : Int) < (l.length : Int)) = false := decide_eq_false (by omega)
    have e : l.take l.length ++ List.replicate (l.length - l.length) gK0 = l := by simp
    rw [e]
    (repeat (first | refine gq_KGL ?_ | (refine ga1A ?_; intro _q ⟨_he, _hq⟩)))
    (refine rtA ?_; try rfl)
    exact congrArg (fun n => AV.g (.one (.sl 0 0 n))) hrl
abbrev bO (n : Int) (l : List Gt) (f w a : Int) : AV := .g (.agg [.v (.int .i64 n), .sl 0 0 l.length, .v (.int .i64 f), .v (.int .i64 w), .v (.int .i64 a)])
theorem k_toBn (n : Int) (l : List Gt) (f w a : Int) (h : l.length ≤ 10000000) : Kon Tryz.prog 22 [bG n l f w a] [] (bO n l f w a) [gRow l] [] := by
  (refine kM Tryz.func22 rfl ?_; intro hfit hfe)
  (repeat (first | refine gq_KGL ?_ | (refine ga1A ?_; intro _q ⟨_he, _hq⟩)))
  (refine rtA ?_; try rfl)
theorem k_eqGate (g : Gt) : Kon Tryz.prog 112 [gV g, gV g] [] (vB true) [] [] := by
  have e : ∀ x : Int, (x != x) = false := fun x => by simp
  have e1 := e g.k
  have e2 := e g.a
  have e3 := e g.b
  have e4 := e g.c
  (refine kM Tryz.func112 rfl ?_; intro hfit hfe)
  (repeat (first | refine gq_KGL ?_ | (refine ga1A ?_; intro _q ⟨_he, _hq⟩)))
  (refine rtA ?_; try rfl)
theorem k_eqG (l : List Gt) (h : l.length ≤ 10000000) : Kon Tryz.prog 69 [roA l, roA l] [] (vB true) [] [] := by
  have h1 : ((l.length : Int) != (l.length : Int)) = false := by simp
  (refine kM Tryz.func69 rfl ?_; intro hfit hfe)
  (repeat (first | refine gq_KGL ?_ | (refine ga1A ?_; intro _q ⟨_he, _hq⟩)))
  (refine aw_rd [0, 1, 4] [] (fun i : Nat => [(5, vI i)]) (fun _ => []) (fun i => i ≤ l.length) (fun i => l.length - i) 0 (by rfl) (by rfl) ?_ (by rfl) zHE zHE ?_)
  · exact Nat.zero_le _
  rintro i hi
  rcases Nat.lt_or_ge i l.length with h5 | h5
  · have hd : decide ((i : Int) < (l.length : Int)) = true := decide_eq_true (by omega)
    (repeat (first | refine gq_KGL ?_ | (refine ga1A ?_; intro _q ⟨_he, _hq⟩) | refine gdA ?_))
    exact ⟨i + 1, h5, ⟨by rfl, zHE, zHE⟩, (by first | omega | (dsimp only; omega))⟩
  · have hd : decide ((i : Int) < (l.length : Int)) = false := decide_eq_false (by omega)
    (repeat (first | refine gq_KGL ?_ | (refine ga1A ?_; intro _q ⟨_he, _hq⟩) | refine gdA ?_))
    (refine rtA ?_; try rfl)
theorem k_eqBn (n : Int) (l : List Gt) (f w a : Int) (h : l.length ≤ 10000000) : Kon Tryz.prog 24 [bG n l f w a, bG n l f w a] [] (vB true) [] [] := by
  have e : ∀ x : Int, (x != x) = false := fun x => by simp
  have e1 := e n
  have e2 := e f
  have e3 := e w
  have e4 := e a
  (refine kM Tryz.func24 rfl ?_; intro hfit hfe)
  (repeat (first | refine gq_KGL ?_ | (refine ga1A ?_; intro _q ⟨_he, _hq⟩)))
  (refine rtA ?_; try rfl)
theorem gq_KEA {H G : Prop} (k : H) (h : Hid H → G := by (intro hh; repeat1' (first | (first | (refine nxA ?_; (first | fail | ((first | (refine z_op (by rfl) ?_; first | refine z_ok ?_ ?_ | refine z_ex ?_ (by first | exact zL1 | ((first | fail); exact zWW) | exact zL2 | fail | exact zL3 | fail) ?_) | ((first | refine q_callE wsT wsZ (by rfl) ?_ | refine q_callVE wsT (by rfl) (by rfl) ?_); refine ⟨_, _, _, (by first | assumption | exact k_toBn _ _ _ _ _ (by omega) | exact k_eqBn _ _ _ _ _ (by omega)), _, by rfl, ?_, ?_⟩)); focus (first | exact trivial | fail | exact zQZ)) | fail)) | refine swA ?_) | refine awA ?_); exact hh.out)) : G := h ⟨k⟩
theorem bok_t {n : Int} {l : List Gt} {f w a : Int} (h : bok n l f w a = true) : cokB n l = true ∧ wvB n f = true ∧ (0 ≤ a ∧ a ≤ l.length) ∧ w = cr (l.take a.toNat) f := by
  unfold bok at h
  simp only [Bool.and_eq_true, beq_iff_eq] at h
  exact ⟨h.1, h.2.1, btw_t h.2.2.1, h.2.2.2⟩
def beM (n : Int) (l : List Gt) (f w a : Int) : Int := if bok n l f w a = true then cr l f else -1
theorem k_be (n : Int) (l : List Gt) (f w a : Int) (hl : l.length ≤ 100000000) (hr : -9223372036854775808 ≤ n ∧ n ≤ 9223372036854775807) : Kon Tryz.prog 128 [bG n l f w a] [] (vI (beM n l f w a)) [] [] := by
  have hV := k_bv n l f w a hl hr
  unfold beM
  cases h : bok n l f w a with
  | false =>
    rw [h] at hV
    rw [if_neg (by decide)]
    (refine kM Tryz.func128 rfl ?_; intro hfit hfe)
    (repeat (first | refine gq_KEA ?_ | (refine ga1A ?_; intro _q ⟨_he, _hq⟩) | refine gdA ?_))
    (refine rtA ?_; try rfl)
  | true =>
    rw [h] at hV
    obtain ⟨h1, h2, h3, h4⟩ := bok_t h
    have hR := k_runAll n l f (cokB_t h1).2.2 hl h2
    rw [if_pos rfl]
    (refine kM Tryz.func128 rfl ?_; intro hfit hfe)
    (repeat (first | refine gq_KEA ?_ | (refine ga1A ?_; intro _q ⟨_he, _hq⟩) | refine gdA ?_))
    (refine rtA ?_; try rfl)
theorem k_beS (n : Int) (l : List Gt) (f w a : Int) (hl : l.length ≤ 100000000) (hr : -9223372036854775808 ≤ n ∧ n ≤ 9223372036854775807) : Kon Tryz.prog 49 [bG n l f w a] [] (vI (beM n l f w a)) [] [] := by
  have hV := k_bvS n l f w a hl hr
  unfold beM
  cases h : bok n l f w a with
  | false =>
    rw [h] at hV
    rw [if_neg (by decide)]
    (refine kM Tryz.func49 rfl ?_; intro hfit hfe)
    (repeat (first | refine gq_KEA ?_ | (refine ga1A ?_; intro _q ⟨_he, _hq⟩) | refine gdA ?_))
    (refine rtA ?_; try rfl)
  | true =>
    rw [h] at hV
    obtain ⟨h1, h2, h3, h4⟩ := bok_t h
    have hR := k_crunS n l f hl hr
    rw [crM, h1, h2, Bool.and_self, if_pos rfl] at hR
    rw [if_pos rfl]
    (refine kM Tryz.func49 rfl ?_; intro hfit hfe)
    (repeat (first | refine gq_KEA ?_ | (refine ga1A ?_; intro _q ⟨_he, _hq⟩) | refine gdA ?_))
    (refine rtA ?_; try rfl)
def wsTE : WsT := (70, ([0], false)) :: (26, ([0], false)) ::
  wsT
def wsZE : List (Nat × Nat) := [
  (999999, 0)]
theorem gq_KEB {H G : Prop} (k : H) (h : Hid H → G := by (intro hh; repeat1' (first | (first | (refine nxA ?_; (first | fail | ((first | (refine z_op (by rfl) ?_; first | refine z_ok ?_ ?_ | refine z_ex ?_ (by first | exact zL1 | ((first | fail); exact zWW) | exact zL2 | exact rw_c Dd rfl | exact zL3 | fail) ?_) | ((first | refine q_callE wsTE wsZE (by rfl) ?_ | refine q_callVE wsTE (by rfl) (by rfl) ?_); refine ⟨_, _, _, (by first | assumption | exact k_toBn _ _ _ _ _ (by omega) | exact k_eqBn _ _ _ _ _ (by omega) | exact k_eqGate _ | exact k_eqD _ | exact k_eqD1 _ | exact k_eqD0 | exact k_markBn _ _ _ _ _ _ _ (by first | omega | exact ⟨rfl, by omega⟩) | exact k_markG _ _ _ (by omega)), _, by rfl, ?_, ?_⟩)); focus (first | exact trivial | fail | exact zQZ)) | fail)) | refine swA ?_) | refine awA ?_); exact hh.out)) : G := h ⟨k⟩
def mkG1 (l : List Gt) (i : Nat) (k : Int) : List Gt :=
  let l1 := l.set i ⟨k, (l.getD i Cel.no).a, (l.getD i Cel.no).b, (l.getD i Cel.no).c⟩
  let l2 := l1.set i ⟨(l1.getD i Cel.no).k, k + 1, (l1.getD i Cel.no).b, (l1.getD i Cel.no).c⟩
  let l3 := l2.set i ⟨(l2.getD i Cel.no).k, (l2.getD i Cel.no).a, k + 1 + 1, (l2.getD i Cel.no).c⟩
  l3.set i ⟨(l3.getD i Cel.no).k, (l3.getD i Cel.no).a, (l3.getD i Cel.no).b, k + 1 + 1 + 1⟩
def mkG (k : Int) (l : List Gt) : Nat → List Gt
  | 0 => l
  | i + 1 => mkG1 (mkG k l i) i (k + 4 * (i : Int))
theorem mkG_len (k : Int) (l : List Gt) : ∀ i, (mkG k l i).length = l.length
  | 0 => rfl
  | i + 1 => by rw [mkG, mkG1]; simp only [List.length_set]; exact mkG_len k l i
set_option maxHeartbeats 1000000 in
theorem k_markG (l : List Gt) (n : Nat) (k : Int) (h : n = l.length ∧ 0 ≤ k ∧ k ≤ 10000000 ∧ l.length ≤ 10000000) : Kon Tryz.prog 70 [.g (.one (.sl 100000 0 n)), vI k] [gRow l] (vI (k + 4 * (l.length : Int))) [] [gRow (mkG k l l.length)] := by
  obtain ⟨rfl, h⟩ := h
  (refine kM Tryz.func70 rfl ?_; intro hfit hfe)
  (repeat (first | refine gq_KEB ?_ | (refine ga1A ?_; intro _q ⟨_he, _hq⟩)))
  refine aw_rd [0] [] (fun i : Nat => [(1, vI (k + 4 * (i : Int))), (5, vI i)]) (fun i => [(100000, (0, gRow (mkG k l i)))]) (fun i => i ≤ l.length) (fun i => l.length - i) 0 (by rfl) (by rfl) ?_ (by rfl) zHE ⟨by (simp only [St.put, Gin, Nat.le_refl, if_true, Nat.sub_self]; rfl), trivial⟩ ?_
  · exact Nat.zero_le _
  rintro i hi
  have hl2 := mkG_len k l i
  rcases Nat.lt_or_ge i l.length with h1 | h1
  · have hd : decide ((i : Int) < (l.length : Int)) = true := decide_eq_true (by omega)
    have hinv : i + 1 ≤ l.length := h1
    (repeat (first | refine gq_KEB ?_ | (refine ga1A ?_; intro _q ⟨_he, _hq⟩)))
    exact ⟨i + 1, hinv, ⟨by rfl, zHE, zHE⟩, (by first | omega | (dsimp only; omega))⟩
  · obtain rfl : i = l.length := by omega
    have hd : decide ((l.length : Int) < (l.length : Int)) = false := decide_eq_false (by omega)
    (repeat (first | refine gq_KEB ?_ | (refine ga1A ?_; intro _q ⟨_he, _hq⟩)))
    (refine rtA ?_; try rfl)
theorem k_markBn (n : Int) (l : List Gt) (m : Nat) (f w a : Int) (k : Int) (h : m = l.length ∧ 0 ≤ k ∧ k ≤ 10000000 ∧ l.length ≤ 10000000) : Kon Tryz.prog 26 [.g (.agg [.v (.int .i64 n), .sl 100000 0 m, .v (.int .i64 f), .v (.int .i64 w), .v (.int .i64 a)]), vI k] [gRow l] (vI (k + 4 * (l.length : Int))) [] [gRow (mkG k l l.length)] := by
  have hK := k_markG l m k h
  (refine kM Tryz.func26 rfl ?_; intro hfit hfe)
  (repeat (first | refine gq_KEB ?_ | (refine ga1A ?_; intro _q ⟨_he, _hq⟩)))
  (refine rtA ?_; try rfl)
abbrev hD (a : Int) : Dd := ⟨1, a, ⟨0, 0, 0, 0⟩⟩
section
variable (n : Int) (l : List Gt) (f w a : Int) (hl : l.length ≤ 100000000) (hr : -9223372036854775808 ≤ n ∧ n ≤ 9223372036854775807)
include hl hr
theorem k_hd0 (h : (bok n l f w a && decide (a > 0)) = false) : Kon Tryz.prog 89 [bG n l f w a] [] vN [] [] := by
  have hV := k_bv n l f w a hl hr
  cases h1 : bok n l f w a with
  | false =>
    rw [h1] at hV
    (refine kM Tryz.func89 rfl ?_; intro hfit hfe)
    (repeat (first | refine gq_KEB ?_ | (refine ga1A ?_; intro _q ⟨_he, _hq⟩) | refine gdA ?_))
    (refine rtA ?_; try rfl)
  | true =>
    rw [h1] at hV h
    have ha := (bok_t h1).2.2.1
    have h2 : (a == 0) = true := by rw [beq_iff_eq]; have : ¬ a > 0 := by simpa using h
                                    omega
    (refine kM Tryz.func89 rfl ?_; intro hfit hfe)
    (repeat (first | refine gq_KEB ?_ | (refine ga1A ?_; intro _q ⟨_he, _hq⟩) | refine gdA ?_))
    (refine rtA ?_; try rfl)
theorem k_hd1 (h : (bok n l f w a && decide (a > 0)) = true) : Kon Tryz.prog 89 [bG n l f w a] [] (slA 0 0 [hD a]) [dRow [hD a]] [] := by
  have hV := k_bv n l f w a hl hr
  rw [Bool.and_eq_true] at h
  rw [h.1] at hV
  have h2 : (a == 0) = false := by rw [beq_eq_false_iff_ne]; have : a > 0 := by simpa using h.2
                                   omega
  clear h
  (refine kM Tryz.func89 rfl ?_; intro hfit hfe)
  (repeat (first | refine gq_KEB ?_ | (refine ga1A ?_; intro _q ⟨_he, _hq⟩) | refine gdA ?_))
  (refine rtA ?_; try rfl)
theorem k_hdS1 (h : (bok n l f w a && decide (a > 0)) = true) : Kon Tryz.prog 47 [bG n l f w a] [] (slA 0 0 [hD a]) [dRow [hD a]] [] := by
  have hV := k_bvS n l f w a hl hr
  rw [Bool.and_eq_true] at h
  rw [h.1] at hV
  have h2 : decide (a > 0) = true := h.2
  clear h
  (refine kM Tryz.func47 rfl ?_; intro hfit hfe)
  (repeat (first | refine gq_KEB ?_ | (refine ga1A ?_; intro _q ⟨_he, _hq⟩) | refine gdA ?_))
  (refine rtA ?_; try rfl)
end
theorem gq_KEC {H G : Prop} (k : H) (h : Hid H → G := by (intro hh; repeat1' (first | (first | (refine nxA ?_; (first | fail | ((first | (refine z_op (by rfl) ?_; first | refine z_ok ?_ ?_ | refine z_ex ?_ (by first | exact zL1 | ((first | (first | refine mk_0 Gt rfl rfl ?_)); exact zWW) | exact zL2 | exact rw_c Gt rfl | exact zL3 | (first | exact pu_of (fun w => eq_gate _ _ _ _ _ _ _ _ _ _ w) rfl)) ?_) | ((first | refine q_callE wsT wsZ (by rfl) ?_ | refine q_callVE wsT (by rfl) (by rfl) ?_); refine ⟨_, _, _, (by first | assumption), _, by rfl, ?_, ?_⟩)); focus (first | exact trivial | fail | exact zQZ)) | fail)) | refine swA ?_) | refine awA ?_); exact hh.out)) : G := h ⟨k⟩
abbrev bS (n : Int) (m : Nat) (f w a : Int) : AV := .g (.agg [.v (.int .i64 n), .sl 0 0 m, .v (.int .i64 f), .v (.int .i64 w), .v (.int .i64 a)])
theorem k_copyS (n : Int) (l : List Gt) (f w a : Int) (hl : l.length ≤ 10000000) : Kon Tryz.prog 44 [bG n l f w a] [] (bS n l.length f w a) [gRow l] [] := by
  (refine kM Tryz.func44 rfl ?_; intro hfit hfe)
  (repeat (first | refine gq_KEC ?_ | (refine ga1A ?_; intro _q ⟨_he, _hq⟩)))
  (refine rtA ?_; try rfl)
end Go.Proofs.YtnenhckongccgaaGreatDoor
