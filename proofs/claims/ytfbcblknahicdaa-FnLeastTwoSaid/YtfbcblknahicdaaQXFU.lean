/- KGP: laid into one text. -/
import Derived.Test.YtfbcblknahicdaaQXFE
import Derived.Test.YtfbcblknahicdaaQXFH

namespace Go.Proofs.Ytfbcblknahicdaa
set_option linter.unusedVariables false
set_option linter.unusedSimpArgs false
set_option maxRecDepth 20000
open Go.RowKit
attribute [local irreducible] runA runX AW
theorem gq_KGP {H G : Prop} (k : H) (h : Hid H → G := by (intro hh; repeat1' (first | (first | (refine nxA ?_; (first | fail | ((first | (refine z_op (by rfl) ?_; first | refine z_ok ?_ ?_ | refine z_ex ?_ (by first | exact zL1 | ((first | fail); exact zWW) | exact zL2 | exact rw_c Int rfl | exact zL3 | exact ct_t (l := ordN l c k) rfl rfl rfl (by omega) (by rw [hl]; simp; omega)) ?_) | ((first | refine q_callE wsT wsZ (by rfl) ?_ | refine q_callVE wsT (by rfl) (by rfl) ?_); refine ⟨_, _, _, (by first | assumption | exact k_pick _ _ _ (by omega) | exact k_odd0 _ _ _ (by omega) | exact k_odd _ _ _ (by omega)), _, by rfl, ?_, ?_⟩)); focus (first | exact trivial | fail | exact zQZ)) | fail)) | refine swA ?_) | refine awA ?_); exact hh.out)) : G := h ⟨k⟩
theorem gs_KGP {H G : Prop} (k : H) (h : Hid H → G := by (intro hh; repeat1' (first | (refine nxA ?_; (first | fail | ((first | (refine z_op (by rfl) ?_; first | refine z_ok ?_ ?_ | refine z_ex ?_ (by first | exact zL1 | ((first | fail); exact zWW) | exact zL2 | exact rw_c Int rfl | exact zL3 | exact ct_t (l := ordN l c k) rfl rfl rfl (by omega) (by rw [hl]; simp; omega)) ?_) | ((first | refine q_callE wsT wsZ (by rfl) ?_ | refine q_callVE wsT (by rfl) (by rfl) ?_); refine ⟨_, _, _, (by first | assumption | exact k_pick _ _ _ (by omega) | exact k_odd0 _ _ _ (by omega) | exact k_odd _ _ _ (by omega)), _, by rfl, ?_, ?_⟩)); focus (first | exact trivial | fail | exact zQZ)) | fail)) | refine swA ?_); exact hh.out)) : G := h ⟨k⟩
theorem put_far (S : St) (i : Nat) (x : Option AV) : (S.put i x).G 100000 = S.G 100000 := rfl
theorem lay_far (S : St) {i : Nat} (x : Option (Nat × Ent)) (h : Nat.blt i 100000 = true) : (S.lay i x).G 100000 = S.G 100000 := upd_ne S.G x (by have := blt_lt h; omega)
theorem gin0 (e : Ent) (es : List Ent) : Gin (e :: es) 100000 = some (0, e) := by simp [Gin]
theorem wx_pieceC {P : Program} {T : Tab} {S : St} {nt : Nat} {K : St → Prop} {α : Type} [Cel α] (hT : TabOk P T) {t e sz by' j r n i r2 n2 d1 d2 tx tl ty ty1 ty2 : Nat} {p : Int} {pos pos2 : String} {af af2 : Array Edge} {agg : Bool} {z : List Value} {l l2 : List α} {ops : Array Oper} {rest : List Oper}
    (hd : (Nat.blt d1 nt && Nat.blt d2 nt && !(Nat.beq d1 ty)) = true) (hl : find1 T.elt t = some (none, e, agg, sz, by')) (hz : find1 T.zer e = some z) (hzl : z.length = sz) (hx : S.E tx = some (.g (.one (.sl j r n)))) (hp : S.E tl = some (vI p)) (hG : S.G j = some (r, .row (some e) sz (cV l))) (hy : S.E ty = some (.g (.one (.sl i r2 n2)))) (hG2 : S.G i = some (r2, .row (some e) sz (cV l2)))
    (hb : Nat.ble by' 1000 = true) (hs : sz = Cel.sz α) (h3 : n = l.length ∧ n2 = l2.length ∧ 0 ≤ p ∧ p ≤ n ∧ n ≤ 1000000 ∧ n2 ≤ 1000000)
    (hk : WX P nt ops rest (((S.put d1 none).lay i (some (r2 + 1, .row (some e) sz (cV (l2 ++ l.drop p.toNat))))).put d2 (some (.g (.one (.sl i (r2 + 1) ((l2 ++ l.drop p.toNat).length)))))) K) :
    WX P nt ops (⟨some d1, .slice t (.tmp tx) (some (.tmp tl)) none none, ty1, pos, af, none⟩ :: ⟨some d2, .call { callee := .builtin .append, args := #[.tmp ty, .tmp d1], argTypes := #[t, t] }, ty2, pos2, af2, none⟩ :: rest) S K := by
  obtain ⟨rfl, rfl, h3⟩ := h3
  subst hs
  refine wx_piece hT hd hl hz hzl hx hp hG hy hG2 hb (cV_len l) (cV_len l2) h3 ?_
  have ec : cV l2 ++ cV (l.drop p.toNat) = cV (l2 ++ l.drop p.toNat) := cV_append _ _
  rw [cV_drop, ec]
  have e : l2.length + ((l.length : Int) - p).toNat = (l2 ++ l.drop p.toNat).length := by rw [List.length_append, List.length_drop]; omega
  rw [e]
  exact hk
def ordN (l : List UInt8) (c : Int) : Nat → List Int
  | 0 => []
  | k + 1 => ((ordN l c k).take (pickI l (c + (k : Int)) ((k : Int) + 1)).toNat ++ [(k : Int)]) ++ (ordN l c k).drop (pickI l (c + (k : Int)) ((k : Int) + 1)).toNat
theorem ordN_len (l : List UInt8) (c : Int) : ∀ k, (ordN l c k).length = k
  | 0 => rfl
  | k + 1 => by
    have h := pickI_lt (l := l) (c := c + (k : Int)) (n := (k : Int) + 1) (by omega)
    simp only [ordN, List.length_append, List.length_take, List.length_drop, List.length_cons, List.length_nil, ordN_len l c k]
    omega
theorem ordN_bd (l : List UInt8) (c : Int) : ∀ k, ∀ x ∈ ordN l c k, 0 ≤ x ∧ x < (k : Int)
  | 0 => fun x hx => by cases hx
  | k + 1 => fun x hx => by
    simp only [ordN, List.mem_append, List.mem_cons, List.not_mem_nil, or_false] at hx
    rcases hx with (hx | hx) | hx
    · have := ordN_bd l c k x (List.mem_of_mem_take hx); omega
    · omega
    · have := ordN_bd l c k x (List.mem_of_mem_drop hx); omega
theorem ordN_at (l : List UInt8) (c : Int) (k i : Nat) (h : i < k) : 0 ≤ (ordN l c k).getD i 0 ∧ (ordN l c k).getD i 0 < (k : Int) := by
  have hi : i < (ordN l c k).length := by rw [ordN_len]; exact h
  have e : (ordN l c k).getD i 0 = (ordN l c k)[i] := by simp [List.getD_eq_getElem?_getD, hi]
  rw [e]
  exact ordN_bd l c k _ (List.getElem_mem hi)
def gtA (l : List UInt8) (c : Int) (M : Nat) : Gt × Int := (⟨pickI l (c + (M : Int)) 5, (ordN l c M).getD 0 0, (ordN l c M).getD 1 0, (ordN l c M).getD 2 0⟩, c + (M : Int) + 1)
def gtB (n : Int) (x : Gt × Int) : Gt × Int := bif n == 1 then (⟨0, 0, 0, 0⟩, x.2) else x
def gtC (l : List UInt8) (n : Int) (x : Gt × Int) : Gt × Int := bif n == 2 then (⟨([0, 1, 3] : List Int).getD (pickI l x.2 3).toNat 0, pickI l (x.2 + 1) 2, 1 - pickI l (x.2 + 1) 2, 0⟩, x.2 + 1 + 1) else x
def gtD (x : Gt × Int) : Gt × Int := bif x.1.k == 0 then (⟨x.1.k, x.1.a, 0, x.1.c⟩, x.2) else x
def gtE (x : Gt × Int) : Gt × Int := bif (x.1.k == 0) || ((x.1.k == 1) || (x.1.k == 3)) then (⟨x.1.k, x.1.a, x.1.b, 0⟩, x.2) else x
def gtF (l : List UInt8) (n : Int) (x : Gt × Int) : Gt × Int :=
  bif pickI l x.2 4 == 0 then (⟨([-1, 5] : List Int).getD (pickI l (x.2 + 1) 2).toNat 0, x.1.a, x.1.b, x.1.c⟩, x.2 + 1 + 1)
  else bif pickI l x.2 4 == 1 then (⟨x.1.k, n, x.1.b, x.1.c⟩, x.2 + 1)
  else bif pickI l x.2 4 == 2 then (⟨x.1.k, x.1.a, x.1.a, x.1.c⟩, x.2 + 1)
  else (⟨x.1.k, x.1.a, x.1.b, -1⟩, x.2 + 1)
def gtG (l : List UInt8) (n q : Int) (x : Gt × Int) : Gt × Int := bif decide (q > 0) then (bif pickI l x.2 q == q - 1 then gtF l n (x.1, x.2 + 1) else (x.1, x.2 + 1)) else x
def gtN (l : List UInt8) (c n q : Int) (M : Nat) : Gt × Int := gtG l n q (gtE (gtD (gtC l n (gtB n (gtA l c M)))))
theorem k_odd0 (l : List UInt8) (c n : Int) (h : n ≤ 0) : Kon Try.prog 15 [p0, vI n] [rdE l c] (vB false) [] [rdE l c] := by
  have hd : decide (n > 0) = false := decide_eq_false (by omega)
  (refine kM Try.func15 rfl ?_; intro hfit hfe)
  (repeat (first | refine gq_KGP ?_ | (refine ga0A ?_; intro _hq)))
  (refine rtA ?_; try rfl)
set_option maxHeartbeats 4000000 in
theorem k_gate (l : List UInt8) (c n q : Int) (M : Nat) (hM : (if (3 : Int) > n then 3 else n) = (M : Int)) (hn : 1 ≤ n ∧ n ≤ 8) (h : 0 ≤ c ∧ c ≤ 100000 ∧ l.length ≤ 2000) (hq : q ≤ 1000) : Kon Try.prog 42 [p0, vI n, vI q] [rdE l c] (gV (gtN l c n q M).1) [] [rdE l (gtN l c n q M).2] := by
  (refine kM Try.func42 rfl ?_; intro hfit hfe)
  (repeat (first | refine gq_KGP ?_ | (refine ga0A ?_; intro _hq)))
  have hc0 : c + ((0 : Nat) : Int) = c := by omega
  refine aw_rd [0, 1, 2, 6] [96] (fun k : Nat => [(7, .g (.one (.sl 192 (2 * k) k))), (8, vI k)]) (fun k => [(192, (2 * k, iRow (ordN l c k))), (100000, (0, rdE l (c + k)))]) (fun k => k ≤ M) (fun k => M - k) 0 (by rfl) (by rfl) ?_ (by rfl) zHE ⟨by rfl, by rw [hc0]; (repeat (first | rw [put_far] | rw [lay_far _ _ (by rfl)])); exact gin0 (rdE l c) [], trivial⟩ ?_
  · exact Nat.zero_le _
  rintro k hk
  rcases Nat.lt_or_ge k M with h5 | h5
  · have hd : decide ((k : Int) < if (3 : Int) > n then 3 else n) = true := decide_eq_true (by omega)
    have hM8 : M ≤ 8 := by omega
    have hp := pickI_lt (l := l) (c := c + (k : Int)) (n := (k : Int) + 1) (by omega)
    have hl := ordN_len l c k
    have hcl : (cV (ordN l c k)).length = k := by rw [cV_len, hl]; exact Nat.mul_one k
    have hz1 : k * Cel.sz Int = k := Nat.mul_one k
    repeat (first | refine aw_seq ?_ | refine aw_ct (by rfl) zDD ?_ | refine aw_cf (by rfl) zDD ?_ | refine aw_block ?_ | refine aw_region T0ok cfU_ok (by rfl) ?_ | refine aw_skip ?_ | refine aw_exit ?_ | refine ra_step ?_)
    (repeat (first | refine gs_KGP ?_ | (refine ga0A ?_; intro _hq)))
    repeat (first | refine aw_seq ?_ | refine aw_ct (by rfl) zDD ?_ | refine aw_cf (by rfl) zDD ?_ | refine aw_block ?_ | refine aw_region T0ok cfU_ok (by rfl) ?_ | refine aw_skip ?_ | refine aw_exit ?_ | refine ra_step ?_)
    (repeat (first | refine gs_KGP ?_ | (refine ga0A ?_; intro _hq)))
    refine aw_seq ?_
    refine wx_region ?_
    refine wx_run 3 T0ok cfU_ok (by rfl) ?_
    (repeat (first | refine gs_KGP ?_ | (refine ga0A ?_; intro _hq)))
    refine wx_pieceC (α := Int) (l := ordN l c k) (l2 := []) T0ok (by rfl) (by rfl) (by rfl) (by rfl) (by rfl) (by rfl) (by rfl) (by rfl) (by rfl) (by rfl) (by rfl) ⟨hl.symm, rfl, by omega, by omega, by omega, by simp⟩ ?_
    refine wx_end T0ok cfU_ok (i := 5) (by rfl) ?_
    (repeat (first | refine gq_KGP ?_ | (refine ga0A ?_; intro _hq)))
    have hc1 : c + (k : Int) + 1 = c + ((k + 1 : Nat) : Int) := by omega
    exact ⟨k + 1, h5, ⟨by rfl, ⟨Eq.trans (b := some (.g (.one (.sl 192 (2 * (k + 1)) (ordN l c (k + 1)).length)))) (by rfl) (by rw [ordN_len]), zHE⟩, ⟨by rfl, Eq.trans (b := some (0, rdE l (c + (k : Int) + 1))) (by rfl) (by rw [hc1]), zHE⟩⟩, (by first | omega | (dsimp only; omega))⟩
  · have hd : decide ((k : Int) < if (3 : Int) > n then 3 else n) = false := decide_eq_false (by omega)
    obtain rfl : k = M := by omega
    have hl := ordN_len l c k
    have hk8 : 3 ≤ k ∧ k ≤ 8 := by omega
    (repeat (first | refine gq_KGP ?_ | (refine ga0A ?_; intro _hq)))
    (refine aw_draw mixed T0ok cfU_ok [(100000, [1]), (176, [12, 13])] (by rfl) (by kernel_rfl) ?_)
    (repeat (first | refine gs_KGP ?_ | (refine ga0A ?_; intro _hq)))
    change AW _ _ (Code.seq _ _) _ _
    refine aw_cutg [0, 1, 2, 6, 11] [96] (fun g : Gt × Int => []) (fun g => [(176, (0, .box (gCs g.1))), (100000, (0, rdE l g.2))]) (fun g => g = gtB n (gtA l c k)) (by rfl) (by rfl) ?_ ?_
    · cases h1 : (n == 1)
      all_goals (repeat (first | refine gq_KGP ?_ | (refine ga0A ?_; intro _hq)))
      · exact ⟨gtA l c k, by rw [gtB, h1]; rfl, ⟨by rfl, zHE, zHE⟩⟩
      · exact ⟨(⟨0, 0, 0, 0⟩, (gtA l c k).2), by rw [gtB, h1]; rfl, ⟨by rfl, zHE, zHE⟩⟩
    rintro ⟨g, c1⟩ he
    have hc1 : c ≤ c1 ∧ c1 ≤ c + 9 := by
      have : c1 = c + (k : Int) + 1 := by
        have h2 := congrArg Prod.snd he
        unfold gtB at h2
        cases h1 : (n == 1) <;> rw [h1] at h2 <;> exact h2
      omega
    rw [gtN, ← he]
    clear he
    dsimp only
    refine aw_cutg [0, 1, 2, 6, 11] [96] (fun g : Gt × Int => []) (fun g => [(176, (0, .box (gCs g.1))), (100000, (0, rdE l g.2))]) (fun x => x = gtC l n (g, c1)) (by rfl) (by rfl) ?_ ?_
    · have hp3 := pickI_lt (l := l) (c := c1) (n := 3) (by omega)
      have hp2 := pickI_lt (l := l) (c := c1 + 1) (n := 2) (by omega)
      cases h1 : (n == 2)
      · (repeat (first | refine gq_KGP ?_ | (refine ga0A ?_; intro _hq)))
        exact ⟨(g, c1), by rw [gtC, h1]; rfl, ⟨by rfl, zHE, zHE⟩⟩
      · (repeat (first | refine gq_KGP ?_ | (refine ga0A ?_; intro _hq)))
        (refine aw_draw mixed T0ok cfU_ok [(100000, [2, 6]), (176, [8])] (by rfl) (by kernel_rfl) ?_)
        (repeat (first | refine gq_KGP ?_ | (refine ga0A ?_; intro _hq)))
        exact ⟨(⟨([0, 1, 3] : List Int).getD (pickI l c1 3).toNat 0, pickI l (c1 + 1) 2, 1 - pickI l (c1 + 1) 2, 0⟩, c1 + 1 + 1), by rw [gtC, h1]; rfl, ⟨by rfl, zHE, zHE⟩⟩
    rintro ⟨g2, c2⟩ he
    have hc2 : c ≤ c2 ∧ c2 ≤ c + 11 := by
      have h2 := congrArg Prod.snd he
      unfold gtC at h2
      cases h1 : (n == 2) <;> rw [h1] at h2 <;> (dsimp only [cond_true, cond_false] at h2; omega)
    rw [← he]
    clear he
    dsimp only
    refine aw_cutg [0, 1, 2, 6, 11] [96] (fun g : Gt × Int => []) (fun g => [(176, (0, .box (gCs g.1))), (100000, (0, rdE l g.2))]) (fun x => x = gtD (g2, c2)) (by rfl) (by rfl) ?_ ?_
    · cases h1 : (g2.k == 0)
      all_goals (repeat (first | refine gq_KGP ?_ | (refine ga0A ?_; intro _hq)))
      · exact ⟨(g2, c2), by rw [gtD]; dsimp only; rw [h1]; rfl, ⟨by rfl, zHE, zHE⟩⟩
      · exact ⟨(⟨g2.k, g2.a, 0, g2.c⟩, c2), by rw [gtD]; dsimp only; rw [h1]; rfl, ⟨by rfl, zHE, zHE⟩⟩
    rintro ⟨g3, c3⟩ he
    have hc3 : c3 = c2 := by
      have h2 := congrArg Prod.snd he
      unfold gtD at h2
      cases h1 : (g2.k == 0) <;> rw [h1] at h2 <;> exact h2
    subst hc3
    rw [← he]
    clear he
    dsimp only
    refine aw_cutg [0, 1, 2, 6, 11] [96] (fun g : Gt × Int => []) (fun g => [(176, (0, .box (gCs g.1))), (100000, (0, rdE l g.2))]) (fun x => x = gtE (g3, c3)) (by rfl) (by rfl) ?_ ?_
    · cases h1 : (g3.k == 0) <;> cases h2 : (g3.k == 1) <;> cases h3 : (g3.k == 3)
      all_goals (repeat (first | refine gq_KGP ?_ | (refine ga0A ?_; intro _hq)))
      all_goals first | exact ⟨(g3, c3), by rw [gtE]; dsimp only; rw [h1, h2, h3]; rfl, ⟨by rfl, zHE, zHE⟩⟩ | exact ⟨(⟨g3.k, g3.a, g3.b, 0⟩, c3), by rw [gtE]; dsimp only; rw [h1]; (try rw [h2]); (try rw [h3]); rfl, ⟨by rfl, zHE, zHE⟩⟩
    rintro ⟨g4, c4⟩ he
    have hc4 : c4 = c3 := by
      have h2 := congrArg Prod.snd he
      unfold gtE at h2
      dsimp only at h2
      cases h1 : ((g3.k == 0) || ((g3.k == 1) || (g3.k == 3))) <;> rw [h1] at h2 <;> exact h2
    subst hc4
    rw [← he]
    clear he
    dsimp only
    cases hq0 : decide (q > 0) with
    | false =>
      have hq1 : q ≤ 0 := by have := of_decide_eq_false hq0; omega
      have e : gtG l n q (g4, c4) = (g4, c4) := by rw [gtG, hq0]; rfl
      rw [e]
      clear e
      (repeat (first | refine gq_KGP ?_ | (refine ga0A ?_; intro _hq)))
      (refine rtA ?_; try rfl)
    | true =>
      have hq1 : 0 < q := of_decide_eq_true hq0
      cases hv : (pickI l c4 q == q - 1) with
      | false =>
        have e : gtG l n q (g4, c4) = (g4, c4 + 1) := by rw [gtG, hq0]; dsimp only [cond_true]; rw [hv]; rfl
        rw [e]
        clear e
        (repeat (first | refine gq_KGP ?_ | (refine ga0A ?_; intro _hq)))
        (refine rtA ?_; try rfl)
      | true =>
        have e : gtG l n q (g4, c4) = gtF l n (g4, c4 + 1) := by rw [gtG, hq0]; dsimp only [cond_true]; rw [hv]; rfl
        rw [e]
        clear e
        have hp4 := pickI_lt (l := l) (c := c4 + 1) (n := 4) (by omega)
        have hp2 := pickI_lt (l := l) (c := c4 + 1 + 1) (n := 2) (by omega)
        cases f0 : (pickI l (c4 + 1) 4 == 0)
        rotate_left
        · have e : gtF l n (g4, c4 + 1) = (⟨([-1, 5] : List Int).getD (pickI l (c4 + 1 + 1) 2).toNat 0, g4.a, g4.b, g4.c⟩, c4 + 1 + 1 + 1) := by rw [gtF]; dsimp only; rw [f0]; rfl
          rw [e]
          clear e
          (repeat (first | refine gq_KGP ?_ | (refine ga0A ?_; intro _hq)))
          (refine rtA ?_; try rfl)
        cases f1 : (pickI l (c4 + 1) 4 == 1)
        rotate_left
        · have e : gtF l n (g4, c4 + 1) = (⟨g4.k, n, g4.b, g4.c⟩, c4 + 1 + 1) := by rw [gtF]; dsimp only; rw [f0, f1]; rfl
          rw [e]
          clear e
          (repeat (first | refine gq_KGP ?_ | (refine ga0A ?_; intro _hq)))
          (refine rtA ?_; try rfl)
        cases f2 : (pickI l (c4 + 1) 4 == 2)
        rotate_left
        · have e : gtF l n (g4, c4 + 1) = (⟨g4.k, g4.a, g4.a, g4.c⟩, c4 + 1 + 1) := by rw [gtF]; dsimp only; rw [f0, f1, f2]; rfl
          rw [e]
          clear e
          (repeat (first | refine gq_KGP ?_ | (refine ga0A ?_; intro _hq)))
          (refine rtA ?_; try rfl)
        · have e : gtF l n (g4, c4 + 1) = (⟨g4.k, g4.a, g4.b, -1⟩, c4 + 1 + 1) := by rw [gtF]; dsimp only; rw [f0, f1, f2]; rfl
          rw [e]
          clear e
          (repeat (first | refine gq_KGP ?_ | (refine ga0A ?_; intro _hq)))
          (refine rtA ?_; try rfl)
def gbd (x : Gt × Int) (c : Int) (d : Int) : Prop := (-1 ≤ x.1.k ∧ x.1.k ≤ 5) ∧ (-1 ≤ x.1.a ∧ x.1.a ≤ 8) ∧ (-1 ≤ x.1.b ∧ x.1.b ≤ 8) ∧ (-1 ≤ x.1.c ∧ x.1.c ≤ 8) ∧ c ≤ x.2 ∧ x.2 ≤ c + d
theorem gtN_bd (l : List UInt8) (c n q : Int) (M : Nat) (hn : 1 ≤ n ∧ n ≤ 8) (hM : 3 ≤ M ∧ M ≤ 8) : gbd (gtN l c n q M) c 20 := by
  have hA : gbd (gtA l c M) c 9 := by
    have h1 := pickI_lt (l := l) (c := c + (M : Int)) (n := 5) (by omega)
    have h2 := ordN_at l c M 0 (by omega)
    have h3 := ordN_at l c M 1 (by omega)
    have h4 := ordN_at l c M 2 (by omega)
    unfold gbd gtA
    dsimp only
    omega
  have hB : gbd (gtB n (gtA l c M)) c 9 := by
    unfold gtB
    cases (n == 1)
    · exact hA
    · unfold gbd at hA ⊢
      dsimp only [cond_true]
      omega
  have hC : gbd (gtC l n (gtB n (gtA l c M))) c 11 := by
    generalize gtB n (gtA l c M) = x at hB
    unfold gtC
    cases (n == 2)
    · unfold gbd at hB ⊢
      dsimp only [cond_false]
      omega
    · have h1 := pickI_lt (l := l) (c := x.2) (n := 3) (by omega)
      have h2 := pickI_lt (l := l) (c := x.2 + 1) (n := 2) (by omega)
      have h3 : 0 ≤ ([0, 1, 3] : List Int).getD (pickI l x.2 3).toNat 0 ∧ ([0, 1, 3] : List Int).getD (pickI l x.2 3).toNat 0 ≤ 3 := by
        obtain h | h | h : (pickI l x.2 3).toNat = 0 ∨ (pickI l x.2 3).toNat = 1 ∨ (pickI l x.2 3).toNat = 2 := by omega
        all_goals (rw [h]; decide)
      unfold gbd at hB ⊢
      dsimp only [cond_true]
      omega
  have hD : gbd (gtD (gtC l n (gtB n (gtA l c M)))) c 11 := by
    generalize gtC l n (gtB n (gtA l c M)) = x at hC
    unfold gtD
    cases (x.1.k == 0)
    · exact hC
    · unfold gbd at hC ⊢
      dsimp only [cond_true]
      omega
  have hE : gbd (gtE (gtD (gtC l n (gtB n (gtA l c M))))) c 11 := by
    generalize gtD (gtC l n (gtB n (gtA l c M))) = x at hD
    unfold gtE
    cases ((x.1.k == 0) || ((x.1.k == 1) || (x.1.k == 3)))
    · exact hD
    · unfold gbd at hD ⊢
      dsimp only [cond_true]
      omega
  unfold gtN
  generalize gtE (gtD (gtC l n (gtB n (gtA l c M)))) = x at hE
  unfold gtG
  cases decide (q > 0)
  · unfold gbd at hE ⊢
    dsimp only [cond_false]
    omega
  cases (pickI l x.2 q == q - 1)
  · unfold gbd at hE ⊢
    dsimp only [cond_true, cond_false]
    omega
  have h3 : -1 ≤ ([-1, 5] : List Int).getD (pickI l (x.2 + 1 + 1) 2).toNat 0 ∧ ([-1, 5] : List Int).getD (pickI l (x.2 + 1 + 1) 2).toNat 0 ≤ 5 := by
    have h1 := pickI_lt (l := l) (c := x.2 + 1 + 1) (n := 2) (by omega)
    obtain h | h : (pickI l (x.2 + 1 + 1) 2).toNat = 0 ∨ (pickI l (x.2 + 1 + 1) 2).toNat = 1 := by omega
    all_goals (rw [h]; decide)
  dsimp only [cond_true]
  unfold gtF
  unfold gbd at hE ⊢
  dsimp only
  cases (pickI l (x.2 + 1) 4 == 0) <;> cases (pickI l (x.2 + 1) 4 == 1) <;> cases (pickI l (x.2 + 1) 4 == 2) <;> dsimp only [cond_true, cond_false] <;> omega
end Go.Proofs.Ytfbcblknahicdaa
