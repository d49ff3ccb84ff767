/- LTS: laid into one text. -/
import Derived.Test.YtfbcblknahicdaaQXFG
import Derived.Test.YtfbcblknahicdaaQXFP
import Derived.Test.YtfbcblknahicdaaQXFS

namespace Go.Proofs.Ytfbcblknahicdaa
set_option linter.unusedVariables false
set_option linter.unusedSimpArgs false
set_option maxRecDepth 20000
open Go.RowKit
attribute [local irreducible] runA runX AW
theorem gq_LTS {H G : Prop} (k : H) (h : Hid H → G := by (intro hh; repeat1' (first | (first | (refine nxA ?_; (first | (first | refine r_load_box (by rfl) (by rfl) (by rfl) (by rfl) (by exact hble) (by exact hofa) (by rfl) ?_ | refine r_indexAddr_sb (by rfl) (by rfl) (by rfl) (by rfl) (by rfl) (by rfl) ⟨by omega, by omega⟩ ?_ | refine r_len_sb (by rfl) (by rfl) (by rfl) (by rfl) (by rfl) ?_ | refine r_buildSb (by rfl) (by rfl) (by rfl) (by rfl) (by rfl) (by rfl) (by rfl) (by rfl) (by rfl) (by rfl) (by rfl) (by rfl) (by rfl) ?_) | ((first | (refine z_op (by rfl) ?_; first | refine z_ok ?_ ?_ | refine z_ex ?_ (by first | exact zL1 | ((first | fail); exact zWW) | exact zL2 | (first | exact rw_c Int rfl | exact rw_c Gt rfl) | exact zL3 | fail) ?_) | ((first | refine q_callE wsT wsZ (by rfl) ?_ | refine q_callVE wsT (by rfl) (by rfl) ?_); refine ⟨_, _, _, (by first | assumption), _, by rfl, ?_, ?_⟩)); focus (first | exact trivial | fail | exact zQZ)) | fail)) | refine swA ?_) | refine awA ?_); exact hh.out)) : G := h ⟨k⟩
theorem gs_LTS {H G : Prop} (k : H) (h : Hid H → G := by (intro hh; repeat1' (first | (refine nxA ?_; (first | (first | refine r_load_box (by rfl) (by rfl) (by rfl) (by rfl) (by exact hble) (by exact hofa) (by rfl) ?_ | refine r_indexAddr_sb (by rfl) (by rfl) (by rfl) (by rfl) (by rfl) (by rfl) ⟨by omega, by omega⟩ ?_ | refine r_len_sb (by rfl) (by rfl) (by rfl) (by rfl) (by rfl) ?_ | refine r_buildSb (by rfl) (by rfl) (by rfl) (by rfl) (by rfl) (by rfl) (by rfl) (by rfl) (by rfl) (by rfl) (by rfl) (by rfl) (by rfl) ?_) | ((first | (refine z_op (by rfl) ?_; first | refine z_ok ?_ ?_ | refine z_ex ?_ (by first | exact zL1 | ((first | fail); exact zWW) | exact zL2 | (first | exact rw_c Int rfl | exact rw_c Gt rfl) | exact zL3 | fail) ?_) | ((first | refine q_callE wsT wsZ (by rfl) ?_ | refine q_callVE wsT (by rfl) (by rfl) ?_); refine ⟨_, _, _, (by first | assumption), _, by rfl, ?_, ?_⟩)); focus (first | exact trivial | fail | exact zQZ)) | fail)) | refine swA ?_); exact hh.out)) : G := h ⟨k⟩
theorem k_l3 : Kon Try.prog 20 [] [] (slA 0 0 g5) [gRow g5] [] := by
  (refine kM Try.func20 rfl ?_; intro hfit hfe)
  (repeat (first | refine gq_LTS ?_ | (refine ga0A ?_; intro _hq)))
  (refine rtA ?_; try rfl)
abbrev roL (l : List Int) : AC := .ro 1 l.length (cV l)
theorem ofa_tb {L : List (List Int)} {T : List Int} {k n c : Nat} (hn : L.length = n) (hk : k < n) (h : L.getD k [] = T) : ofa false (((bxC (L.map roL) n c).drop ((k : Int).toNat * 1)).take 1) = some (roA T) := by
  have e : (k : Int).toNat * 1 = k := by omega
  have h2 : k < (L.map roL).length := by rw [List.length_map]; omega
  have h3 : (L.map roL)[k] = roL T := by rw [List.getElem_map, ← h, List.getD_eq_getElem?_getD, List.getElem?_eq_getElem (by omega), Option.getD_some]
  rw [e, bxC, List.drop_append_of_le_length (by omega), List.drop_eq_getElem_cons h2, h3]
  rfl
theorem ble_tb {L : List (List Int)} {k n c : Nat} (hn : L.length = n) (hk : k < n) : Nat.ble ((k : Int).toNat * 1 + 1) (bxC (L.map roL) n c).length = true := by
  apply Nat.ble_eq_true_of_le
  rw [bxC, List.length_append, List.length_map]
  omega
theorem bx_on {L : List (List Int)} {n c : Nat} (G : Nat → Bool) : (bxC (L.map roL) n c).all (AC.on G) = true := by
  rw [List.all_eq_true]
  intro x hx
  rw [bxC, List.mem_append] at hx
  rcases hx with hx | hx
  · obtain ⟨l, _, rfl⟩ := List.mem_map.1 hx; rfl
  · rw [List.mem_replicate] at hx; rw [hx.2]; rfl
theorem ro_n {l : List Int} {n : Nat} (h : l.length = n) : roA l = (.g (.one (.ro 1 n (cV l))) : AV) := by subst h; rfl
structure LSt where
  (j u c n : Nat)
  (A : List Int)
  (L : List AC)
  (D : List Int)
def LSt.E (s : LSt) : List (Nat × AV) := [(3, .g (.one (.sl 256 s.u s.n))), (4, .g (.one (.sb 288 s.u s.n s.c))), (5, .g (.one (.sl 304 s.u s.n)))]
def LSt.G (s : LSt) : List (Nat × (Nat × Ent)) := [(256, (s.u, iRow s.A)), (288, (s.u, .box (bxC s.L s.n s.c))), (304, (s.u, iRow s.D))]
structure LSt.ok (s : LSt) (B : BS) : Prop where
  A : s.A = rks B
  L : s.L = (tbs B).map roL
  D : s.D = dss B
  n : s.n = B.length
  c : s.n ≤ s.c
set_option maxHeartbeats 4000000 in
theorem k_ltS1 (t : List Int) (k0 : Nat) (hk0 : k0 < 24) (ht : tvB 2 t = true) (hr0 : rkM t = rkM (tbA S24 k0)) (ht4 : t.length = 4) (hb : ∀ i, i < 4 → 0 ≤ t.getD i Cel.no ∧ t.getD i Cel.no < 4) : Kon Try.prog 6 [roA t] [] (vI (dsA S24 k0 : Int)) [] [] := by
  have hV := k_tvS 2 t (by omega) (by omega)
  have hR := k_rank t ht4 hb
  have hR0 := k_rank [0, 1, 2, 3] rfl (by decide)
  rw [ht] at hV
  clear ht hb
  (refine kM Try.func6 rfl ?_; intro hfit hfe)
  (repeat refine gcA ?_)
  (repeat (first | refine gs_LTS ?_ | (refine ga0A ?_; intro _hq)))
  (repeat refine gcA ?_)
  (repeat (first | refine gs_LTS ?_ | (refine ga0A ?_; intro _hq)))
  (repeat refine gcA ?_)
  (repeat (first | refine gs_LTS ?_ | (refine ga0A ?_; intro _hq)))
  (repeat refine gcA ?_)
  (repeat (first | refine gs_LTS ?_ | (refine ga0A ?_; intro _hq)))
  (refine aw_freeze 272 (by rfl) (by rfl) ?_; refine aw_box 288 1 (by rfl) (by rfl) (by first | exact trivial | ((repeat' (first | exact rfl | exact cV_len _ | exact cV_ln rfl (by omega) | exact Cel.pos | omega | exact trivial | refine And.intro ?_ ?_)); first | done | fail)) (by rfl) ?_)
  (repeat (first | refine gq_LTS ?_ | (refine ga0A ?_; intro _hq)))
  refine aw_rd [0] [] (fun g : LSt => (6, vI g.j) :: g.E) (fun g => g.G) (fun g => g.j ≤ k0 ∧ g.ok (bst g.j)) (fun g => 25 - g.j) ⟨0, 0, 1, 1, [27], [roL [0, 1, 2, 3]], [0]⟩ (by rfl) (by rfl) ⟨Nat.zero_le _, ⟨by rfl, by rfl, by rfl, by rfl, Nat.le_refl _⟩⟩ (by rfl) zHE zHE ?_
  rintro ⟨k, u, c, n, A, L, D⟩ ⟨hk, hA, hL, hD, hn, hc⟩
  dsimp only at hk hA hL hD hn hc
  dsimp only [LSt.E, LSt.G]
  obtain ⟨f1, f2, f3⟩ := bst_facts k (by omega)
  have hAl : A.length = n := by rw [hA, hn, rks_len]
  have hDl : D.length = n := by rw [hD, hn, dss_len]
  have hLl : (tbs (bst k)).length = n := by rw [hn, tbs_len]
  have hd : decide ((k : Int) < (n : Int)) = true := decide_eq_true (by omega)
  have hofa := ofa_tb (c := c) hLl (by omega) (tbs_at f3)
  have hble := ble_tb (c := c) hLl (show k < n by omega)
  rw [← hL] at hofa hble
  obtain ⟨g1, g2⟩ := tbA_ok k (by omega)
  have hRk := k_rank (tbA S24 k) g1 (fun i hi => (g2 i hi).1)
  have hne := rk_ne k (by omega) k0 hk0
  rw [← hr0] at hne
  rcases Nat.lt_or_ge k k0 with h7 | h7
  · have hnk : (rkM (tbA S24 k) == rkM t) = false := by rw [hne]; simp; omega
    have hl3 := k_l3
    clear hne
    (repeat (first | refine gq_LTS ?_ | (refine ga0A ?_; intro _hq)))
    refine aw_rd [0, 6, 7] [608] (fun g : LSt => (8, vI g.j) :: g.E) (fun g => g.G) (fun g => g.j ≤ 5 ∧ g.ok (stj k g.j)) (fun g => 5 - g.j) ⟨0, u, c, n, A, L, D⟩ (by rfl) (by rfl) ⟨Nat.zero_le _, ⟨hA, hL, hD, hn, hc⟩⟩ (by (try dsimp only [LSt.E, LSt.G]); rw [hL]; simp only [onB, List.all_cons, List.all_nil, List.all_append, List.cons_append, List.nil_append, AV.on, AG.on, AC.on, Ent.on, bx_on, Bool.true_and, Bool.and_true]; rfl) zHE zHE ?_
    clear hofa hble hAl hDl hLl hd hA hL hD hn hc hl3 hnk f1 f2 f3 hRk hR hR0 hV u c n A L D
    rintro ⟨j, u, c, n, A, L, D⟩ ⟨hj, hA, hL, hD, hn, hc⟩
    dsimp only at hj hA hL hD hn hc
    dsimp only [LSt.E, LSt.G]
    have hk24 : k < 24 := by omega
    have hg5 : g5.length = 5 := rfl
    rcases Nat.lt_or_ge j 5 with h8 | h8
    · obtain ⟨f1, f2, f3⟩ := stj_len k hk24 j (by omega)
      have hAl : A.length = n := by rw [hA, hn, rks_len]
      have hDl : D.length = n := by rw [hD, hn, dss_len]
      have hLl : (tbs (stj k j)).length = n := by rw [hn, tbs_len]
      have hd : decide ((j : Int) < ((5 : Nat) : Int)) = true := decide_eq_true (by omega)
      have hofa := ofa_tb (c := c) hLl (by omega) (tbs_at f3)
      have hble := ble_tb (c := c) hLl (show k < n by omega)
      rw [← hL] at hofa hble
      obtain ⟨n1, n2, n3⟩ := nxt_ok k hk24 j h8
      (repeat (first | refine gq_LTS ?_ | (refine ga0A ?_; intro _hq)))
      refine aw_rd [0, 3, 4, 5, 6, 7, 8] [256, 288, 304, 608] (fun i : Nat => [(9, .g (.one (.sl 720 i i))), (10, vI i)]) (fun i => [(720, (i, iRow ((nxt k j).take i)))]) (fun i => i ≤ 4) (fun i => 4 - i) 0 (by rfl) (by rfl) (Nat.zero_le _) (by (try dsimp only [LSt.E, LSt.G]); rw [hL]; simp only [onB, List.all_cons, List.all_nil, List.all_append, List.cons_append, List.nil_append, AV.on, AG.on, AC.on, Ent.on, bx_on, Bool.true_and, Bool.and_true]; rfl) zHE zHE ?_
      rintro i hi
      try dsimp only at hi ⊢
      have hlt : ((nxt k j).take i).length = i := by rw [List.length_take, n2]; omega
      rcases Nat.lt_or_ge i 4 with h9 | h9
      · have hdi : decide ((i : Int) < 4) = true := decide_eq_true (by omega)
        have hT := nxt_take (j := j) hk24 h9
        obtain ⟨g3, g4⟩ := g2 i h9
        have hG : Kon Try.prog 21 [vI 2, gV (g5.getD (j : Int).toNat Cel.no), vI ((tbA S24 k).getD (i : Int).toNat Cel.no)] [] (vI (gr (g5.getD j Cel.no) ((tbA S24 k).getD i Cel.no))) [] [] := k_grS1 2 _ _ n1 g4
        (repeat (first | refine gq_LTS ?_ | (refine ga0A ?_; intro _hq)))
        (refine aw_draw mixed T0ok cfU_ok [(720, [14])] (by rfl) (by kernel_rfl) ?_)
        (repeat (first | refine gq_LTS ?_ | (refine ga0A ?_; intro _hq)))
        exact ⟨i + 1, h9, ⟨(by (try dsimp only [LSt.E, LSt.G]); rw [hL]; simp only [onB, List.all_cons, List.all_nil, List.all_append, List.cons_append, List.nil_append, AV.on, AG.on, AC.on, Ent.on, bx_on, Bool.true_and, Bool.and_true]; rfl), ⟨Eq.trans (b := some (.g (.one (.sl 720 (i + 1) ((nxt k j).take i ++ [gr (g5.getD j Cel.no) ((tbA S24 k).getD i Cel.no)]).length)))) (by rfl) (by rw [List.length_append, hlt]; rfl), zHE⟩, ⟨Eq.trans (b := some (i + 1, iRow ((nxt k j).take i ++ [gr (g5.getD j Cel.no) ((tbA S24 k).getD i Cel.no)]))) (by rfl) (by rw [hT]), zHE⟩⟩, (by first | omega | (dsimp only; omega))⟩
      · obtain rfl : i = 4 := by omega
        have hdi : decide (((4 : Nat) : Int) < 4) = false := by decide
        have e4 : (nxt k j).take 4 = nxt k j := List.take_of_length_le (by omega)
        have hRn : Kon Try.prog 19 [.g (.one (.ro 1 4 (cV (nxt k j))))] [] (vI (rkM (nxt k j))) [] [] := by
          have h := k_rank (nxt k j) n2 n3
          rwa [ro_n n2] at h
        have hH : Kon Try.prog 22 [.g (.one (.ro 1 n (cV A))), vI (rkM (nxt k j))] [] (vB (inB (stj k j) (nxt k j))) [] [] := by
          have h := k_has A (rkM (nxt k j)) (by omega)
          rwa [ro_n hAl, hA, stj_has k hk24 j h8, ← hA] at h
        have hDk : D.getD (k : Int).toNat Cel.no = (dsA S24 k : Int) := by rw [hD]; exact dss_at f1 f3
        have hd4 := (at24 k hk24).2.2
        have hjs := stj_s k hk24 j h8
        rw [e4]
        cases hi : inB (stj k j) (nxt k j) with
        | true =>
          rw [hi] at hH
          rw [if_pos hi] at hjs
          (repeat (first | refine gq_LTS ?_ | (refine ga0A ?_; intro _hq)))
          rw [← hjs] at hA hL hD hn
          exact ⟨⟨j + 1, u, c, n, A, L, D⟩, ⟨h8, ⟨hA, hL, hD, hn, hc⟩⟩, ⟨(by (try dsimp only [LSt.E, LSt.G]); rw [hL]; simp only [onB, List.all_cons, List.all_nil, List.all_append, List.cons_append, List.nil_append, AV.on, AG.on, AC.on, Ent.on, bx_on, Bool.true_and, Bool.and_true]; rfl), zHE, zHE⟩, (by first | omega | (dsimp only; omega))⟩
        | false =>
          rw [hi] at hH
          rw [if_neg (by rw [hi]; decide)] at hjs
          (repeat refine gcA ?_)
          (repeat (first | refine gs_LTS ?_ | (refine ga0A ?_; intro _hq)))
          (repeat refine gcA ?_)
          (repeat (first | refine gs_LTS ?_ | (refine ga0A ?_; intro _hq)))
          (refine aw_freeze 720 (by rfl) (by rfl) ?_; refine aw_slot 9 1 (by rfl) (by rfl) (by first | exact trivial | omega | exact cvB (fun w => rfl) | ((repeat (any_goals (first | exact rfl | exact cV_len _ | exact cV_ln rfl (by omega) | exact Cel.pos | omega | exact trivial | refine And.intro ?_ ?_))); first | done | fail) | (simp [*]; first | done | fail)) ?_)
          (repeat refine gcA ?_)
          (repeat (first | refine gs_LTS ?_ | (refine ga0A ?_; intro _hq)))
          refine aw_seq ?_
          refine wx_region ?_
          refine wx_run 3 T0ok cfU_ok (by rfl) ?_
          (repeat (first | refine gs_LTS ?_ | (refine ga0A ?_; intro _hq)))
          refine wx_pushbox T0ok (by rfl) (by rfl) (by rfl) (by rfl) (by rfl) (by rw [hL, List.length_map]; exact hLl) (by rfl) (by rfl) (by rfl) (by rfl) (by omega) (fun c' hc' => ?_)
          refine wx_end T0ok cfU_ok (i := 4) (by rfl) ?_
          (repeat (first | refine gq_LTS ?_ | (refine ga0A ?_; intro _hq)))
          have hL' : L ++ [.ro 1 4 (cV (nxt k j))] = (tbs (stj k (j + 1))).map roL := by
            rw [hjs, tbs_snoc, List.map_append, ← hL, List.map_cons, List.map_nil]
            show _ = L ++ [AC.ro 1 (nxt k j).length _]
            rw [n2]
          have hok : LSt.ok ⟨j + 1, u + 1, c', n + 1, A ++ [rkM (nxt k j)], L ++ [.ro 1 4 (cV (nxt k j))], D ++ [D.getD (k : Int).toNat Cel.no + 1]⟩ (stj k (j + 1)) :=
            ⟨by rw [hjs, rks_snoc, ← hA], hL', by rw [hjs, dss_snoc, ← hD, hDk]; rfl, by rw [hjs, List.length_append, ← hn]; rfl, hc'⟩
          exact ⟨⟨j + 1, u + 1, c', n + 1, A ++ [rkM (nxt k j)], L ++ [.ro 1 4 (cV (nxt k j))], D ++ [D.getD (k : Int).toNat Cel.no + 1]⟩, ⟨h8, hok⟩, ⟨(by (try dsimp only [LSt.E, LSt.G]); rw [hL']; simp only [onB, List.all_cons, List.all_nil, List.all_append, List.cons_append, List.nil_append, AV.on, AG.on, AC.on, Ent.on, bx_on, Bool.true_and, Bool.and_true]; rfl), ⟨by rfl, ⟨Eq.trans (b := some (.g (.one (.sl 256 (u + 1) (A ++ [rkM (nxt k j)]).length)))) (by rfl) (by rw [List.length_append, hAl]; rfl), ⟨by rfl, ⟨Eq.trans (b := some (.g (.one (.sl 304 (u + 1) (D ++ [D.getD (k : Int).toNat Cel.no + 1]).length)))) (by rfl) (by rw [List.length_append, hDl]; rfl), zHE⟩⟩⟩⟩, zHE⟩, (by first | omega | (dsimp only; omega))⟩
    · obtain rfl : j = 5 := by omega
      rw [stj_5] at hA hL hD hn
      have hd5 : decide (((5 : Nat) : Int) < ((5 : Nat) : Int)) = false := by decide
      (repeat (first | refine gq_LTS ?_ | (refine ga0A ?_; intro _hq)))
      exact ⟨⟨k + 1, u, c, n, A, L, D⟩, ⟨h7, ⟨hA, hL, hD, hn, hc⟩⟩, ⟨(by (try dsimp only [LSt.E, LSt.G]); rw [hL]; simp only [onB, List.all_cons, List.all_nil, List.all_append, List.cons_append, List.nil_append, AV.on, AG.on, AC.on, Ent.on, bx_on, Bool.true_and, Bool.and_true]; rfl), zHE, zHE⟩, (by first | omega | (dsimp only; omega))⟩
  · obtain rfl : k = k0 := by omega
    have hyk : (rkM (tbA S24 k) == rkM t) = true := by rw [hne]; simp
    have hDk : D.getD (k : Int).toNat Cel.no = (dsA S24 k : Int) := by rw [hD]; exact dss_at f1 f3
    clear hne
    (repeat (first | refine gq_LTS ?_ | (refine ga0A ?_; intro _hq)))
    (refine rtA ?_; try rfl)
    exact congrArg vI hDk
end Go.Proofs.Ytfbcblknahicdaa
