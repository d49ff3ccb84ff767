/- LNP: laid into one text. -/
import Derived.Test.YtnenhckongccgaaGreatDoorQGZE
import Derived.Test.YtnenhckongccgaaGreatDoorQGZG

namespace Go.Proofs.YtnenhckongccgaaGreatDoor
set_option linter.unusedVariables false
set_option linter.unusedSimpArgs false
set_option maxRecDepth 20000
open Go.RowKit
attribute [local irreducible] runA runX AW
def wsTLP : WsT := (40, ([0], true)) :: (39, ([0], true)) :: (18, ([], true)) :: (16, ([], true)) :: wsT
def wsZLP : List (Nat × Nat) := [(40, 4), (17, 4), (18, 4), (11, 4), (13, 4), (19, 1), (12, 4), (15, 4), (999999, 0)]
theorem gq_LNP {H G : Prop} (k : H) (h : Hid H → G := by (intro hh; repeat1' (first | (first | (refine nxA ?_; (first | (first | refine r_seq (by rfl) (by rfl) (by rfl) ?_ | refine r_sne (by rfl) (by rfl) (by rfl) ?_) | ((first | (refine z_op (by rfl) ?_; first | refine z_ok ?_ ?_ | refine z_ex ?_ (by first | exact zL1 | ((first | refine mk_c (List UInt8) rfl rfl rfl ?_); exact zWW) | exact zL2 | exact rw_c (List UInt8) rfl | exact zL3 | fail) ?_) | ((first | refine q_callE wsTLP wsZLP (by rfl) ?_ | refine q_callVE wsTLP (by rfl) (by rfl) ?_); refine ⟨_, _, _, (by first | assumption | exact k_alive | exact k_open _ (by omega) | exact k_pick _ _ _ (by omega)), _, by rfl, ?_, ?_⟩)); focus (first | exact trivial | fail | exact zQZ)) | fail)) | refine swA ?_) | refine awA ?_); exact hh.out)) : G := h ⟨k⟩
theorem gs_LNP {H G : Prop} (k : H) (h : Hid H → G := by (intro hh; repeat1' (first | (refine nxA ?_; (first | (first | refine r_seq (by rfl) (by rfl) (by rfl) ?_ | refine r_sne (by rfl) (by rfl) (by rfl) ?_) | ((first | (refine z_op (by rfl) ?_; first | refine z_ok ?_ ?_ | refine z_ex ?_ (by first | exact zL1 | ((first | refine mk_c (List UInt8) rfl rfl rfl ?_); exact zWW) | exact zL2 | exact rw_c (List UInt8) rfl | exact zL3 | fail) ?_) | ((first | refine q_callE wsTLP wsZLP (by rfl) ?_ | refine q_callVE wsTLP (by rfl) (by rfl) ?_); refine ⟨_, _, _, (by first | assumption | exact k_alive | exact k_open _ (by omega) | exact k_pick _ _ _ (by omega)), _, by rfl, ?_, ?_⟩)); focus (first | exact trivial | fail | exact zQZ)) | fail)) | refine swA ?_); exact hh.out)) : G := h ⟨k⟩
theorem k_sameT (l : List (List UInt8)) (h : l.length ≤ 10000000) : Kon Tryz.prog 19 [roA l, roA l] [] (vB true) [] [] := by
  have h1 : ((l.length : Int) != (l.length : Int)) = false := by simp
  have h2 : ∀ x : List UInt8, (!(x == x)) = false := fun x => by simp
  (refine kM Tryz.func19 rfl ?_; intro hfit hfe)
  (repeat (first | refine gq_LNP ?_ | (refine ga0A ?_; intro _hq)))
  (refine aw_rd [0, 1] [] (fun i : Nat => [(5, vI i)]) (fun _ => []) (fun i => i ≤ l.length) (fun i => l.length - i) 0 (by rfl) (by rfl) ?_ (by rfl) zHE zHE ?_)
  · exact Nat.zero_le _
  rintro i hi
  rcases Nat.lt_or_ge i l.length with h5 | h5
  · have hd : decide ((i : Int) < (l.length : Int)) = true := decide_eq_true (by omega)
    have h3 := h2 (l.getD (i : Int).toNat Cel.no)
    (repeat (first | refine gq_LNP ?_ | (refine ga0A ?_; intro _hq) | refine gdA ?_))
    exact ⟨i + 1, h5, ⟨by rfl, zHE, zHE⟩, (by first | omega | (dsimp only; omega))⟩
  · have hd : decide ((i : Int) < (l.length : Int)) = false := decide_eq_false (by omega)
    (repeat (first | refine gq_LNP ?_ | (refine ga0A ?_; intro _hq) | refine gdA ?_))
    (refine rtA ?_; try rfl)
open Classical in
noncomputable def sdF (l : List UInt8) (n f w a : Int) (gs : List Gt) (c : Int) : List UInt8 × Int :=
  if h : (0 ≤ c ∧ c ≤ 80000 ∧ l.length ≤ 2000) ∧ gs.length ≤ 25 then (Classical.choose (ex_said l c n f w a gs h.1 h.2), Classical.choose (Classical.choose_spec (ex_said l c n f w a gs h.1 h.2))) else ([], c)
open Classical in
theorem sdF_ok (l : List UInt8) (n f w a : Int) (gs : List Gt) (c : Int) (h : 0 ≤ c ∧ c ≤ 80000 ∧ l.length ≤ 2000) (hg : gs.length ≤ 25) : (sdF l n f w a gs c).1.length ≤ 20 ∧ (c ≤ (sdF l n f w a gs c).2 ∧ (sdF l n f w a gs c).2 ≤ c + 30) ∧ Kon Tryz.prog 40 [p0, bG n gs f w a] [rdE l c] (vS (sdF l n f w a gs c).1) [] [rdE l (sdF l n f w a gs c).2] := by
  unfold sdF
  rw [dif_pos ⟨h, hg⟩]
  exact Classical.choose_spec (Classical.choose_spec (ex_said l c n f w a gs h hg))
noncomputable def sdN (l : List UInt8) (n f w a : Int) (gs : List Gt) (c : Int) : Nat → List (List UInt8) × Int
  | 0 => ([], c)
  | i + 1 => ((sdN l n f w a gs c i).1 ++ [(sdF l n f w a gs (sdN l n f w a gs c i).2).1], (sdF l n f w a gs (sdN l n f w a gs c i).2).2)
theorem sdN_ok (l : List UInt8) (n f w a : Int) (gs : List Gt) (c : Int) (h : 0 ≤ c ∧ c ≤ 70000 ∧ l.length ≤ 2000) (hg : gs.length ≤ 25) : ∀ i, i ≤ 20 → (sdN l n f w a gs c i).1.length = i ∧ (∀ x ∈ (sdN l n f w a gs c i).1, x.length ≤ 20) ∧ (c ≤ (sdN l n f w a gs c i).2 ∧ (sdN l n f w a gs c i).2 ≤ c + 30 * (i : Int))
  | 0, _ => ⟨rfl, (fun x hx => by cases hx), Int.le_refl _, by show c ≤ c + 30 * ((0 : Nat) : Int); omega⟩
  | i + 1, hi => by
    obtain ⟨h1, h2, h3⟩ := sdN_ok l n f w a gs c h hg i (by omega)
    obtain ⟨k1, k2, _⟩ := sdF_ok l n f w a gs (sdN l n f w a gs c i).2 (by omega) hg
    rw [sdN]
    refine ⟨by rw [List.length_append, h1]; rfl, fun x hx => ?_, by dsimp only; omega, by dsimp only; omega⟩
    rcases List.mem_append.1 hx with hx | hx
    · exact h2 x hx
    · rw [List.mem_singleton.1 hx]; exact k1
abbrev tB : List UInt8 := Cel.no
set_option maxHeartbeats 8000000 in
theorem ex_dBS (l : List UInt8) (hl : l.length ≤ 100000000) : ∃ (L f : Int) (x : Option BS) (ls : List (List UInt8)), (1 ≤ L ∧ L ≤ 5) ∧ (0 ≤ f ∧ f ≤ 256) ∧ (∀ b, x = some b → b.1.length ≤ 25 ∧ (0 ≤ b.2.1 ∧ b.2.1 ≤ 257) ∧ b.2.2 ≤ 25) ∧ ls.length ≤ 41 ∧ (∀ t ∈ ls, t.length ≤ 20) ∧ Kon Tryz.prog 16 [roA l] [] (.tup [oR L f x, .one (roC ls)]) [] [] := by
  have h2 : (l.take 2000).length ≤ 2000 := by simp; omega
  obtain ⟨L, f, x, c', h3, h4, h5, h6, h7, hK⟩ := ex_bench (l.take 2000) 0 12 (by omega) (by omega)
  rcases x with _ | ⟨gs, w, A⟩
  · have hb1 := sdN_ok (l.take 2000) 0 0 0 0 [] (c' + 1) (by omega) (by simp)
    have hfn := fun c hc => sdF_ok (l.take 2000) 0 0 0 0 [] c hc (by simp)
    have hp10 := pickI_lt (l := l.take 2000) (c := c') (n := 10) (by omega)
    obtain ⟨m, hm⟩ : ∃ m : Nat, pickI (l.take 2000) c' 10 = (m : Int) := ⟨(pickI (l.take 2000) c' 10).toNat, by omega⟩
    obtain ⟨S, hS⟩ : ∃ S, sdN (l.take 2000) 0 0 0 0 [] (c' + 1) = S := ⟨_, rfl⟩
    have hs0 : S 0 = ([], c' + 1) := by rw [← hS]; rfl
    have hs1 : ∀ i, S (i + 1) = ((S i).1 ++ [(sdF (l.take 2000) 0 0 0 0 [] (S i).2).1], (sdF (l.take 2000) 0 0 0 0 [] (S i).2).2) := fun i => by rw [← hS]; rfl
    rw [hS] at hb1
    clear hS
    have hbm := hb1 m (by omega)
    have hO := k_odd (l.take 2000) (S m).2 30 (by omega)
    have hp30 := pickI_lt (l := l.take 2000) (c := (S m).2) (n := 30) (by omega)
    obtain ⟨o, ho⟩ : ∃ o, (pickI (l.take 2000) (S m).2 30 == 30 - 1) = o := ⟨_, rfl⟩
    rw [ho] at hO
    have hlen : (if o = true then List.replicate (41 : Int).toNat tB else (S m).1).length ≤ 41 := by
      cases o
      · rw [if_neg (by decide), hbm.1]; omega
      · rw [if_pos rfl, List.length_replicate]; decide
    have hlx : ∀ x ∈ (if o = true then List.replicate (41 : Int).toNat tB else (S m).1), x.length ≤ 20 := fun x hx => by
      split at hx
      · rw [List.eq_of_mem_replicate hx]; exact Nat.zero_le _
      · exact hbm.2.1 x hx
    refine ⟨L, f, none, _, h3, h4, fun b hb => ⟨(h6 b hb).1, (h6 b hb).2.1, (h6 b hb).2.2.1⟩, hlen, hlx, ?_⟩
    clear h6 h7 ho hlen hlx
    (refine kM Tryz.func16 rfl ?_; intro hfit hfe)
    (repeat (first | refine gq_LNP ?_ | (refine ga0A ?_; intro _hq)))
    rw [hm]
    refine aw_rd [2, 4, 5] [32, 80] (fun i : Nat => [(6, .g (.one (.sl 192 i i))), (7, vI ((m : Int) - i))]) (fun i => [(192, (i, tRow (S i).1)), (144, (0, rdE (l.take 2000) (S i).2))]) (fun i => i ≤ m) (fun i => m - i) 0 (by rfl) (by rfl) ?_ (by rfl) ⟨by rfl, vI_of (by rfl) (by omega), zHE⟩ ⟨Eq.trans (b := some (0, tRow [])) (by rfl) (by rw [hs0]), Eq.trans (b := some (0, rdE (l.take 2000) (c' + 1))) (by rfl) (by rw [hs0]), zHE⟩ ?_
    · exact Nat.zero_le _
    rintro i hi
    have hbi := hb1 i (by omega)
    have hs1i := hs1 i
    rcases hx : S i with ⟨t, c1⟩
    rw [hx] at hbi hs1i
    dsimp only at hbi hs1i ⊢
    rcases Nat.lt_or_ge i m with h5 | h5
    · have hd : decide ((m : Int) - (i : Int) > 0) = true := decide_eq_true (by omega)
      obtain ⟨k1, k2, hK2⟩ := hfn c1 (by omega)
      rcases hy : sdF (l.take 2000) 0 0 0 0 [] c1 with ⟨s, c2⟩
      rw [hy] at k1 k2 hK2 hs1i
      dsimp only at k1 k2 hK2 hs1i
      have htl : t.length = i := hbi.1
      clear hfn hs1 hs0 hb1 hx hy hO
      (repeat (first | refine gq_LNP ?_ | (refine ga0A ?_; intro _hq)))
      exact ⟨i + 1, h5, ⟨by rfl, ⟨Eq.trans (b := some (.g (.one (.sl 192 (i + 1) (t ++ [s]).length)))) (by rfl) (by rw [List.length_append, htl]; rfl), vI_of (by rfl) (by omega), zHE⟩, ⟨Eq.trans (b := some (i + 1, tRow (t ++ [s]))) (by rfl) (by rw [hs1i]), Eq.trans (b := some (0, rdE (l.take 2000) c2)) (by rfl) (by rw [hs1i]), zHE⟩⟩, (by first | omega | (dsimp only; omega))⟩
    · have hd : decide ((m : Int) - (i : Int) > 0) = false := decide_eq_false (by omega)
      obtain rfl : i = m := by omega
      rw [hx] at hO ⊢
      dsimp only at hO ⊢
      have htl : t.length = i := hbi.1
      clear hfn hs1 hs0 hb1 hx
      cases o with
      | true =>
        rw [if_pos rfl]
        (repeat refine gcA ?_)
        (repeat (first | refine gs_LNP ?_ | (refine ga0A ?_; intro _hq)))
        (repeat refine gcA ?_)
        (repeat (first | refine gs_LNP ?_ | (refine ga0A ?_; intro _hq)))
        (repeat refine gcA ?_)
        (repeat (first | refine gs_LNP ?_ | (refine ga0A ?_; intro _hq)))
        (refine aw_freeze 432 (by rfl) (by rfl) ?_; refine aw_slot 6 1 (by rfl) (by rfl) (by first | exact trivial | omega | exact cvB (fun w => rfl) | ((repeat (any_goals (first | exact rfl | exact cV_len _ | exact cV_ln rfl (by omega) | exact Cel.pos | omega | exact trivial | refine And.intro ?_ ?_))); first | done | fail) | (simp [*]; first | done | fail)) ?_)
        (repeat (first | refine gq_LNP ?_ | (refine ga0A ?_; intro _hq)))
        (refine rtA ?_; try rfl)
      | false =>
        rw [if_neg (by decide)]
        (repeat refine gcA ?_)
        (repeat (first | refine gs_LNP ?_ | (refine ga0A ?_; intro _hq)))
        (refine aw_freeze 192 (by rfl) (by rfl) ?_; refine aw_slot 6 1 (by rfl) (by rfl) (by first | exact trivial | omega | exact cvB (fun w => rfl) | ((repeat (any_goals (first | exact rfl | exact cV_len _ | exact cV_ln rfl (by omega) | exact Cel.pos | omega | exact trivial | refine And.intro ?_ ?_))); first | done | fail) | (simp [*]; first | done | fail)) ?_)
        (repeat (first | refine gq_LNP ?_ | (refine ga0A ?_; intro _hq)))
        (refine rtA ?_; try rfl)
        exact congrArg (fun m => AV.tup [oR L f (none), AG.one (.ro 1 m (cV t))]) htl.symm
  · have hg : gs.length ≤ 25 := (h6 _ rfl).1
    have hb1 := sdN_ok (l.take 2000) L f w (A : Int) gs (c' + 1) (by omega) hg
    have hfn := fun c hc => sdF_ok (l.take 2000) L f w (A : Int) gs c hc hg
    have hp10 := pickI_lt (l := l.take 2000) (c := c') (n := 10) (by omega)
    obtain ⟨m, hm⟩ : ∃ m : Nat, pickI (l.take 2000) c' 10 = (m : Int) := ⟨(pickI (l.take 2000) c' 10).toNat, by omega⟩
    obtain ⟨S, hS⟩ : ∃ S, sdN (l.take 2000) L f w (A : Int) gs (c' + 1) = S := ⟨_, rfl⟩
    have hs0 : S 0 = ([], c' + 1) := by rw [← hS]; rfl
    have hs1 : ∀ i, S (i + 1) = ((S i).1 ++ [(sdF (l.take 2000) L f w (A : Int) gs (S i).2).1], (sdF (l.take 2000) L f w (A : Int) gs (S i).2).2) := fun i => by rw [← hS]; rfl
    rw [hS] at hb1
    clear hS
    have hbm := hb1 m (by omega)
    have hO := k_odd (l.take 2000) (S m).2 30 (by omega)
    have hp30 := pickI_lt (l := l.take 2000) (c := (S m).2) (n := 30) (by omega)
    obtain ⟨o, ho⟩ : ∃ o, (pickI (l.take 2000) (S m).2 30 == 30 - 1) = o := ⟨_, rfl⟩
    rw [ho] at hO
    have hlen : (if o = true then List.replicate (41 : Int).toNat tB else (S m).1).length ≤ 41 := by
      cases o
      · rw [if_neg (by decide), hbm.1]; omega
      · rw [if_pos rfl, List.length_replicate]; decide
    have hlx : ∀ x ∈ (if o = true then List.replicate (41 : Int).toNat tB else (S m).1), x.length ≤ 20 := fun x hx => by
      split at hx
      · rw [List.eq_of_mem_replicate hx]; exact Nat.zero_le _
      · exact hbm.2.1 x hx
    refine ⟨L, f, some (gs, w, A), _, h3, h4, fun b hb => ⟨(h6 b hb).1, (h6 b hb).2.1, (h6 b hb).2.2.1⟩, hlen, hlx, ?_⟩
    clear h6 h7 ho hlen hlx
    (refine kM Tryz.func16 rfl ?_; intro hfit hfe)
    (repeat refine gcA ?_)
    (repeat (first | refine gs_LNP ?_ | (refine ga0A ?_; intro _hq)))
    (repeat refine gcA ?_)
    (repeat (first | refine gs_LNP ?_ | (refine ga0A ?_; intro _hq)))
    (repeat refine gcA ?_)
    (repeat (first | refine gs_LNP ?_ | (refine ga0A ?_; intro _hq)))
    (refine aw_freeze 176 (by rfl) (by rfl) ?_; refine aw_box 80 1 (by rfl) (by rfl) (by first | exact trivial | ((repeat' (first | exact rfl | exact cV_len _ | exact cV_ln rfl (by omega) | exact Cel.pos | omega | exact trivial | refine And.intro ?_ ?_)); first | done | fail)) (by rfl) ?_)
    (repeat (first | refine gq_LNP ?_ | (refine ga0A ?_; intro _hq)))
    rw [hm]
    refine aw_rd [2, 4, 5] [32, 80] (fun i : Nat => [(6, .g (.one (.sl 192 i i))), (7, vI ((m : Int) - i))]) (fun i => [(192, (i, tRow (S i).1)), (144, (0, rdE (l.take 2000) (S i).2))]) (fun i => i ≤ m) (fun i => m - i) 0 (by rfl) (by rfl) ?_ (by rfl) ⟨by rfl, vI_of (by rfl) (by omega), zHE⟩ ⟨Eq.trans (b := some (0, tRow [])) (by rfl) (by rw [hs0]), Eq.trans (b := some (0, rdE (l.take 2000) (c' + 1))) (by rfl) (by rw [hs0]), zHE⟩ ?_
    · exact Nat.zero_le _
    rintro i hi
    have hbi := hb1 i (by omega)
    have hs1i := hs1 i
    rcases hx : S i with ⟨t, c1⟩
    rw [hx] at hbi hs1i
    dsimp only at hbi hs1i ⊢
    rcases Nat.lt_or_ge i m with h5 | h5
    · have hd : decide ((m : Int) - (i : Int) > 0) = true := decide_eq_true (by omega)
      obtain ⟨k1, k2, hK2⟩ := hfn c1 (by omega)
      rcases hy : sdF (l.take 2000) L f w (A : Int) gs c1 with ⟨s, c2⟩
      rw [hy] at k1 k2 hK2 hs1i
      dsimp only at k1 k2 hK2 hs1i
      have htl : t.length = i := hbi.1
      clear hfn hs1 hs0 hb1 hx hy hO
      (repeat (first | refine gq_LNP ?_ | (refine ga0A ?_; intro _hq)))
      exact ⟨i + 1, h5, ⟨by rfl, ⟨Eq.trans (b := some (.g (.one (.sl 192 (i + 1) (t ++ [s]).length)))) (by rfl) (by rw [List.length_append, htl]; rfl), vI_of (by rfl) (by omega), zHE⟩, ⟨Eq.trans (b := some (i + 1, tRow (t ++ [s]))) (by rfl) (by rw [hs1i]), Eq.trans (b := some (0, rdE (l.take 2000) c2)) (by rfl) (by rw [hs1i]), zHE⟩⟩, (by first | omega | (dsimp only; omega))⟩
    · have hd : decide ((m : Int) - (i : Int) > 0) = false := decide_eq_false (by omega)
      obtain rfl : i = m := by omega
      rw [hx] at hO ⊢
      dsimp only at hO ⊢
      have htl : t.length = i := hbi.1
      clear hfn hs1 hs0 hb1 hx
      cases o with
      | true =>
        rw [if_pos rfl]
        (repeat refine gcA ?_)
        (repeat (first | refine gs_LNP ?_ | (refine ga0A ?_; intro _hq)))
        (repeat refine gcA ?_)
        (repeat (first | refine gs_LNP ?_ | (refine ga0A ?_; intro _hq)))
        (repeat refine gcA ?_)
        (repeat (first | refine gs_LNP ?_ | (refine ga0A ?_; intro _hq)))
        (refine aw_freeze 432 (by rfl) (by rfl) ?_; refine aw_slot 6 1 (by rfl) (by rfl) (by first | exact trivial | omega | exact cvB (fun w => rfl) | ((repeat (any_goals (first | exact rfl | exact cV_len _ | exact cV_ln rfl (by omega) | exact Cel.pos | omega | exact trivial | refine And.intro ?_ ?_))); first | done | fail) | (simp [*]; first | done | fail)) ?_)
        (repeat (first | refine gq_LNP ?_ | (refine ga0A ?_; intro _hq)))
        (refine rtA ?_; try rfl)
      | false =>
        rw [if_neg (by decide)]
        (repeat refine gcA ?_)
        (repeat (first | refine gs_LNP ?_ | (refine ga0A ?_; intro _hq)))
        (refine aw_freeze 192 (by rfl) (by rfl) ?_; refine aw_slot 6 1 (by rfl) (by rfl) (by first | exact trivial | omega | exact cvB (fun w => rfl) | ((repeat (any_goals (first | exact rfl | exact cV_len _ | exact cV_ln rfl (by omega) | exact Cel.pos | omega | exact trivial | refine And.intro ?_ ?_))); first | done | fail) | (simp [*]; first | done | fail)) ?_)
        (repeat (first | refine gq_LNP ?_ | (refine ga0A ?_; intro _hq)))
        (refine rtA ?_; try rfl)
        exact congrArg (fun m => AV.tup [oR L f (some (gs, w, A)), AG.one (.ro 1 m (cV t))]) htl.symm
theorem sayN_pre (n f : Int) (x : BS) (l1 l2 : List (List UInt8)) : ∀ k, k ≤ l1.length → sayN n f x (l1 ++ l2) k = sayN n f x l1 k
  | 0, _ => rfl
  | k + 1, h => by
    have e : (l1 ++ l2).getD k Cel.no = l1.getD k Cel.no := by
      rw [List.getD_eq_getElem?_getD, List.getD_eq_getElem?_getD, List.getElem?_append_left (by omega)]
    rw [sayN, sayN, sayN_pre n f x l1 l2 k (by omega), e]
theorem sayN_app (n f : Int) (x : BS) (l1 l2 : List (List UInt8)) : ∀ j, j ≤ l2.length → sayN n f x (l1 ++ l2) (l1.length + j) = ((sayN n f (sayN n f x l1 l1.length).1 l2 j).1, (sayN n f x l1 l1.length).2 ++ (sayN n f (sayN n f x l1 l1.length).1 l2 j).2)
  | 0, _ => by
    rw [Nat.add_zero, sayN_pre n f x l1 l2 _ (Nat.le_refl _)]
    show _ = (_, _ ++ [])
    rw [List.append_nil]
    rfl
  | j + 1, h => by
    have e : (l1 ++ l2).getD (l1.length + j) Cel.no = l2.getD j Cel.no := by
      rw [List.getD_eq_getElem?_getD, List.getD_eq_getElem?_getD, List.getElem?_append_right (by omega), Nat.add_sub_cancel_left]
    have ih := sayN_app n f x l1 l2 j (by omega)
    rw [← Nat.add_assoc, sayN, ih, sayN, e]
    dsimp only
    rw [List.append_assoc]
theorem gok_8 {n : Int} {g : Gt} (h : gok n g = true) : gok 8 g = true := by
  obtain ⟨hn, h⟩ := gok_facts h
  have i8 : ∀ x, 0 ≤ x ∧ x < n → in8 8 x = true := fun x hx => by unfold in8; rw [decide_eq_true hx.1, decide_eq_true (show x < 8 by omega)]; rfl
  have ne : ∀ x y : Int, x ≠ y → (x != y) = true := fun x y h => bne_iff_ne.2 h
  have eq : ∀ x : Int, x = 0 → (x == 0) = true := fun x h => beq_iff_eq.2 h
  unfold gok gokL
  have h0 : okLn 8 = true := rfl
  rw [h0, Bool.true_and]
  rcases h with ⟨hk, ha, hb, hc⟩ | ⟨hk, ha, hb, hne, hc⟩ | ⟨hk, ha, hb, hne, hc, h1, h2⟩
  · rw [if_pos hk, i8 _ ha, eq _ hb, eq _ hc]; rfl
  · rw [if_neg (by omega), if_pos (by omega), i8 _ ha, i8 _ hb, ne _ _ hne, eq _ hc]; rfl
  · rw [if_neg (by omega), if_neg (by omega), if_pos (by omega), i8 _ ha, i8 _ hb, ne _ _ hne, i8 _ hc, ne _ _ h1, ne _ _ h2]; rfl
theorem dx_ne {x : Int} (h : 0 ≤ x ∧ x < 1000) : dx x ≠ [] := fun e => by
  have := (dd_len (n := x.toNat) (by omega)).1
  have e2 : (Go.Lib.decDigits x.toNat).length = 0 := congrArg List.length e
  omega
theorem ansT_ne {n f w : Int} {l : List Gt} {A : Nat} (h : bok n l f w A = true) (s : List UInt8) : ansT n l f w A s ≠ [] := by
  have hn := bok_nums n l f w A h
  have hc := coL_bd l
  have hd := depM_bd (bok_t h).1
  unfold ansT
  split
  · exact dx_ne (by omega)
  split
  · exact dx_ne (by omega)
  split
  · simp
  split
  · exact dx_ne (by omega)
  split
  · exact dx_ne (by omega)
  split
  · unfold gsT
    split
    · decide
    · rename_i h0
      obtain ⟨g, l', rfl⟩ : ∃ g l', l = g :: l' := by
        cases l with
        | nil => exact absurd rfl h0
        | cons g l' => exact ⟨g, l', rfl⟩
      have hg : gok n g = true := by
        have := hn.2.2.2.2.2
        rw [List.all_cons, Bool.and_eq_true] at this
        exact this.1
      have hb := gok_bd hg
      have hg8 := gok_8 hg
      intro e
      have hl := congrArg List.length e
      cases l' with
      | nil =>
        rw [List.map_cons, List.map_nil, Go.Lib.join_one] at hl
        unfold gtx at hl
        rw [if_pos hg8] at hl
        have := (gtT_len hg8).1
        rw [List.length_nil] at hl
        omega
      | cons g2 l2 =>
        rw [List.map_cons, List.map_cons, join_cc, List.length_append, List.length_append] at hl
        simp at hl
  split
  · unfold oddT
    split <;> decide
  · decide
theorem lnF_ne {n f w : Int} {l : List Gt} {A : Nat} (h : bok n l f w A = true) (s : List UInt8) : (lnF n f l w A s).2 ≠ [] := by
  unfold lnF
  split
  · dsimp only
    split <;> decide
  split
  · split
    · show wNone ≠ []; decide
    · show wOk ≠ []; decide
  · exact ansT_ne h s
theorem sayN_ne {n f : Int} {x : BS} (h : bok n x.1 f x.2.1 (x.2.2 : Int) = true) (ls : List (List UInt8)) : ∀ k, ∀ y ∈ (sayN n f x ls k).2, y ≠ []
  | 0, y, hy => by cases hy
  | k + 1, y, hy => by
    rw [sayN] at hy
    rcases List.mem_append.1 hy with hy | hy
    · exact sayN_ne h ls k y hy
    · rw [List.mem_singleton.1 hy]; exact lnF_ne (sayN_ok h ls k) _
set_option maxHeartbeats 16000000 in
theorem k_lawBS (l : List UInt8) : Kon Tryz.prog 4 [roA l] [] (vB true) [] [] := by
  rcases Nat.lt_or_ge 1048576 l.length with h0 | h0
  · have hd : decide ((l.length : Int) > 1048576) = true := decide_eq_true (by omega)
    (refine kM Tryz.func4 rfl ?_; intro hfit hfe)
    (repeat (first | refine gq_LNP ?_ | (refine ga0A ?_; intro _hq)))
    (refine rtA ?_; try rfl)
  have hd : decide ((l.length : Int) > 1048576) = false := decide_eq_false (by omega)
  have hz := k_sb 0 [] 0 0 0 (by simp)
  have hnz := k_nbZ
  have ht0 : Kon Tryz.prog 19 [.g (.one (.ro 1 0 [])), .g (.one (.ro 1 0 []))] [] (vB true) [] [] := k_sameT [] (by decide)
  obtain ⟨L, f, x, ls, hL, hf, hx, hll, hlx, hD⟩ := ex_dBS l (by omega)
  rcases x with _ | ⟨gs, w, A⟩
  · have e : bok 0 [] 0 0 0 = false := by decide
    have hI := k_syI0 0 [] 0 0 0 ls (by simp) (by omega) (.inl e) (by omega)
    have hS := k_syS0 0 [] 0 0 0 ls (by simp) (by omega) (.inl e) (by omega)
    have hV := k_bvS 0 [] 0 0 0 (by simp) (by omega)
    rw [e] at hV
    clear hx
    (refine kM Tryz.func4 rfl ?_; intro hfit hfe)
    (repeat (first | refine gq_LNP ?_ | (refine ga0A ?_; intro _hq)))
    (refine rtA ?_; try rfl)
  · obtain ⟨hgl, hw, hA⟩ := hx _ rfl
    dsimp only at hgl hw hA
    clear hx
    have hV := k_bvS L gs f w A (by omega) (by omega)
    cases hb : bok L gs f w A with
    | false =>
      have hI := k_syI0 L gs f w A ls (by omega) (by omega) (.inl hb) (by omega)
      have hS := k_syS0 L gs f w A ls (by omega) (by omega) (.inl hb) (by omega)
      rw [hb] at hV
      (refine kM Tryz.func4 rfl ?_; intro hfit hfe)
      (repeat (first | refine gq_LNP ?_ | (refine ga0A ?_; intro _hq)))
      (refine rtA ?_; try rfl)
    | true =>
      rw [hb] at hV
      rcases Nat.lt_or_ge 40 ls.length with h40 | h40
      · have hI := k_syI0 L gs f w A ls (by omega) (by omega) (.inr h40) (by omega)
        have hS := k_syS0 L gs f w A ls (by omega) (by omega) (.inr h40) (by omega)
        have hd40 : decide ((ls.length : Int) > 40) = true := decide_eq_true (by omega)
        (refine kM Tryz.func4 rfl ?_; intro hfit hfe)
        (repeat (first | refine gq_LNP ?_ | (refine ga0A ?_; intro _hq)))
        (refine rtA ?_; try rfl)
      · have hd40 : decide ((ls.length : Int) > 40) = false := decide_eq_false (by omega)
        have hls : ∀ t ∈ ls, t.length ≤ 7000000 := fun t ht => by have := hlx t ht; omega
        obtain ⟨l1, hl1⟩ : ∃ l1, ls.take ((ls.length : Int) / 2).toNat = l1 := ⟨_, rfl⟩
        obtain ⟨l2, hl2⟩ : ∃ l2, ls.drop ((ls.length : Int) / 2).toNat = l2 := ⟨_, rfl⟩
        have hsp : l1 ++ l2 = ls := by rw [← hl1, ← hl2]; exact List.take_append_drop _ _
        have hln : ls.length = l1.length + l2.length := by rw [← hsp, List.length_append]
        rcases hR1 : sayN L f (gs, w, A) l1 l1.length with ⟨⟨g1, w1, A1⟩, a1⟩
        have hb1 := sayN_ok (x := (gs, w, A)) hb l1 l1.length
        rw [hR1] at hb1
        dsimp only at hb1
        rcases hR2 : sayN L f (g1, w1, A1) l2 l2.length with ⟨⟨g2, w2, A2⟩, a2⟩
        have hb2 := sayN_ok (x := (g1, w1, A1)) hb1 l2 l2.length
        rw [hR2] at hb2
        dsimp only at hb2
        have hR : sayN L f (gs, w, A) ls ls.length = ((g2, w2, A2), a1 ++ a2) := by
          have := sayN_app L f (gs, w, A) l1 l2 l2.length (Nat.le_refl _)
          rw [hR1] at this
          dsimp only at this
          rw [hR2, hsp, ← hln] at this
          exact this
        have hI := kn_syI hb h40 hls hR
        have hS := kn_syS hb h40 hls hR
        have hI1 := kn_syI hb (by omega) (fun t ht => hls t (by rw [← hsp]; exact List.mem_append_left _ ht)) hR1
        have hI2 := kn_syI hb1 (by omega) (fun t ht => hls t (by rw [← hsp]; exact List.mem_append_right _ ht)) hR2
        have hne := sayN_ne (x := (gs, w, A)) hb ls ls.length
        rw [hR] at hne
        dsimp only at hne
        have hal := sayN_len L f (gs, w, A) ls ls.length
        rw [hR] at hal
        dsimp only at hal
        have hal2 := hal
        rw [List.length_append] at hal2
        have hq := k_sb L g2 f w2 A2 (by have := bok_nums L g2 f w2 A2 hb2; omega)
        have hqt := k_sameT (a1 ++ a2) (by omega)
        rcases hH : lnF L f g2 w2 A2 wHome with ⟨⟨gh, wh, Ah⟩, ah⟩
        have hBL := kn_blI hb2 (s := wHome) (by decide) hH
        have hwh : wh = f := by
          have := lnF_home hb2
          rw [hH] at this
          exact this
        subst hwh
        have hnat : ∀ k : Nat, k < (a1 ++ a2).length → ((a1 ++ a2).getD k Cel.no == ([] : List UInt8)) = false := fun k hk => by
          rw [beq_eq_false_iff_ne]
          have e : (a1 ++ a2).getD k Cel.no = (a1 ++ a2)[k] := by rw [List.getD_eq_getElem?_getD, List.getElem?_eq_getElem hk]; rfl
          rw [e]
          exact hne _ (List.getElem_mem hk)
        have hll2 : (((a1 ++ a2).length : Int) == (ls.length : Int)) = true := by rw [beq_iff_eq, hal]
        rw [← hl1] at hI1
        rw [← hl2] at hI2
        clear hne hR hR1 hR2 hH hb hb1 hb2 hls hlx hl1 hl2 hsp
        (refine kM Tryz.func4 rfl ?_; intro hfit hfe)
        (repeat (first | refine gq_LNP ?_ | (refine ga0A ?_; intro _hq)))
        (refine aw_draw mixed T0ok cfU_ok [(1168, [4, 9]), (1169, [4]), (160, [8, 9])] (by rfl) (by kernel_rfl) ?_)
        (repeat (first | refine gs_LNP ?_ | (refine ga0A ?_; intro _hq)))
        (refine aw_freeze 1169 (by rfl) (by rfl) ?_; refine aw_slot 11 1 (by rfl) (by rfl) (by first | exact trivial | omega | exact cvB (fun w => rfl) | ((repeat (any_goals (first | exact rfl | exact cV_len _ | exact cV_ln rfl (by omega) | exact Cel.pos | omega | exact trivial | refine And.intro ?_ ?_))); first | done | fail) | (simp [*]; first | done | fail)) ?_)
        (repeat (first | refine gq_LNP ?_ | (refine ga0A ?_; intro _hq)))
        (refine aw_draw mixed T0ok cfU_ok [(1296, [4, 9]), (1297, [4]), (192, [8, 9])] (by rfl) (by kernel_rfl) ?_)
        (repeat (first | refine gs_LNP ?_ | (refine ga0A ?_; intro _hq)))
        (refine aw_freeze 1297 (by rfl) (by rfl) ?_; refine aw_slot 13 1 (by rfl) (by rfl) (by first | exact trivial | omega | exact cvB (fun w => rfl) | ((repeat (any_goals (first | exact rfl | exact cV_len _ | exact cV_ln rfl (by omega) | exact Cel.pos | omega | exact trivial | refine And.intro ?_ ?_))); first | done | fail) | (simp [*]; first | done | fail)) ?_)
        (repeat (first | refine gq_LNP ?_ | (refine ga0A ?_; intro _hq)))
        (refine aw_rd [3, 4, 5, 6, 11, 12, 13] [48, 80, 448, 449, 192, 1296] (fun k : Nat => [(14, vI k)]) (fun _ => []) (fun k => k ≤ (a1 ++ a2).length) (fun k => (a1 ++ a2).length - k) 0 (by rfl) (by rfl) ?_ (by rfl) zHE zHE ?_)
        · exact Nat.zero_le _
        rintro k hk
        rcases Nat.lt_or_ge k (a1 ++ a2).length with h5 | h5
        · have hdk : decide ((k : Int) < ((a1 ++ a2).length : Int)) = true := decide_eq_true (by omega)
          have hn0 : ((a1 ++ a2).getD (k : Int).toNat Cel.no == ([] : List UInt8)) = false := hnat k h5
          (repeat (first | refine gq_LNP ?_ | (refine ga0A ?_; intro _hq)))
          exact ⟨k + 1, h5, ⟨by rfl, zHE, zHE⟩, (by first | omega | (dsimp only; omega))⟩
        · have hdk : decide ((k : Int) < ((a1 ++ a2).length : Int)) = false := decide_eq_false (by omega)
          clear hnat
          (repeat (first | refine gq_LNP ?_ | (refine ga0A ?_; intro _hq)))
          (refine rtA ?_; try rfl)
          exact congrArg vB (beq_self_eq_true _)
end Go.Proofs.YtnenhckongccgaaGreatDoor
