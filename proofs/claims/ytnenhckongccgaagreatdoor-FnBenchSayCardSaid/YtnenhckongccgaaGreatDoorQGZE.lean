/- LNM: laid into one text. -/
import Derived.Test.YtnenhckongccgaaGreatDoorQGZ
import Derived.Test.YtnenhckongccgaaGreatDoorQGZD

namespace Go.Proofs.YtnenhckongccgaaGreatDoor
set_option linter.unusedVariables false
set_option linter.unusedSimpArgs false
set_option maxRecDepth 20000
open Go.RowKit
attribute [local irreducible] runA runX AW
def wsTLM : WsT := (40, ([0], true)) :: (39, ([0], true)) :: (87, ([0], true)) :: (10, ([], true)) :: (8, ([], true)) :: wsT
def wsZLM : List (Nat × Nat) := [(40, 4), (87, 4), (9, 4), (10, 4), (11, 4), (13, 4), (12, 4), (15, 4), (999999, 0)]
theorem gq_LNM {H G : Prop} (k : H) (h : Hid H → G := by (intro hh; repeat1' (first | (first | (refine nxA ?_; (first | (first | refine r_seq (by rfl) (by rfl) (by rfl) ?_ | refine r_sne (by rfl) (by rfl) (by rfl) ?_) | ((first | (refine z_op (by rfl) ?_; first | refine z_ok ?_ ?_ | refine z_ex ?_ (by first | exact zL1 | ((first | fail); exact zWW) | exact zL2 | exact rw_c (List UInt8) rfl | exact zL3 | fail) ?_) | ((first | refine q_callE wsTLM wsZLM (by rfl) ?_ | refine q_callVE wsTLM (by rfl) (by rfl) ?_); refine ⟨_, _, _, (by first | assumption | exact k_alive | exact k_open _ (by omega) | exact k_pick _ _ _ (by omega)), _, by rfl, ?_, ?_⟩)); focus (first | exact trivial | fail | exact zQZ)) | fail)) | refine swA ?_) | refine awA ?_); exact hh.out)) : G := h ⟨k⟩
theorem gs_LNM {H G : Prop} (k : H) (h : Hid H → G := by (intro hh; repeat1' (first | (refine nxA ?_; (first | (first | refine r_seq (by rfl) (by rfl) (by rfl) ?_ | refine r_sne (by rfl) (by rfl) (by rfl) ?_) | ((first | (refine z_op (by rfl) ?_; first | refine z_ok ?_ ?_ | refine z_ex ?_ (by first | exact zL1 | ((first | fail); exact zWW) | exact zL2 | exact rw_c (List UInt8) rfl | exact zL3 | fail) ?_) | ((first | refine q_callE wsTLM wsZLM (by rfl) ?_ | refine q_callVE wsTLM (by rfl) (by rfl) ?_); refine ⟨_, _, _, (by first | assumption | exact k_alive | exact k_open _ (by omega) | exact k_pick _ _ _ (by omega)), _, by rfl, ?_, ?_⟩)); focus (first | exact trivial | fail | exact zQZ)) | fail)) | refine swA ?_); exact hh.out)) : G := h ⟨k⟩
abbrev saidA : List (List UInt8) := [wWord, wEnd, wAt, wCost, wDep, wGat, wOdd, wHome]
abbrev saidB : List (List UInt8) := [[], [102, 111, 114, 116, 104], [98, 97, 99, 107, 32, 48, 49], [112, 117, 116], [32, 119, 111, 114, 100], [116, 97, 107, 101, 32, 49], [112, 117, 116, 32, 110, 111, 116], [102, 111, 114, 116, 104, 32, 48]]
theorem ex_said (l : List UInt8) (c n f w a : Int) (gs : List Gt) (h : 0 ≤ c ∧ c ≤ 80000 ∧ l.length ≤ 2000) (hg : gs.length ≤ 25) : ∃ (s : List UInt8) (c' : Int), s.length ≤ 20 ∧ (c ≤ c' ∧ c' ≤ c + 30) ∧ Kon Tryz.prog 40 [p0, bG n gs f w a] [rdE l c] (vS s) [] [rdE l c'] := by
  have p4 := pickI_lt (l := l) (c := c) (n := 4) (by omega)
  have p8 := pickI_lt (l := l) (c := c + 1) (n := 8) (by omega)
  have key : ∀ L : List (List UInt8), L.length = 8 → (∀ x ∈ L, x.length ≤ 20) → (L.getD (pickI l (c + 1) 8).toNat Cel.no).length ≤ 20 := fun L h8 hL => by
    have hi : (pickI l (c + 1) 8).toNat < L.length := by omega
    have e : L.getD (pickI l (c + 1) 8).toNat Cel.no = L[(pickI l (c + 1) 8).toNat] := by simp [List.getD_eq_getElem?_getD, hi]
    rw [e]
    exact hL _ (List.getElem_mem hi)
  by_cases h0 : pickI l c 4 = 0
  · have hb0 : (pickI l c 4 == 0) = true := beq_iff_eq.2 h0
    refine ⟨saidA.getD (pickI l (c + 1) 8).toNat Cel.no, c + 1 + 1, key saidA rfl (by decide), by omega, ?_⟩
    (refine kM Tryz.func40 rfl ?_; intro hfit hfe)
    (repeat (first | refine gq_LNM ?_ | (refine ga0A ?_; intro _hq) | refine gdA ?_))
    (refine rtA ?_; try rfl)
  have hb0 : (pickI l c 4 == 0) = false := beq_eq_false_iff_ne.2 h0
  by_cases h1 : pickI l c 4 = 1
  · have hb1 : (pickI l c 4 == 1) = true := beq_iff_eq.2 h1
    refine ⟨saidB.getD (pickI l (c + 1) 8).toNat Cel.no, c + 1 + 1, key saidB rfl (by decide), by omega, ?_⟩
    (refine kM Tryz.func40 rfl ?_; intro hfit hfe)
    (repeat (first | refine gq_LNM ?_ | (refine ga0A ?_; intro _hq) | refine gdA ?_))
    (refine rtA ?_; try rfl)
  have hb1 : (pickI l c 4 == 1) = false := beq_eq_false_iff_ne.2 h1
  have hd := k_deed l (c + 1) n f w a gs (by omega) (by omega)
  have hbd := ddM_bd l n gs (c + 1)
  rcases hx : ddM l n gs (c + 1) with ⟨d, c2⟩
  rw [hx] at hd hbd
  dsimp only at hd hbd
  have hT := (k_dt d.k d.n d.p).2
  have htl := dtx_len d.k d.n d.p
  refine ⟨dtx d.k d.n d.p, c2, htl, by omega, ?_⟩
  clear key hx
  (refine kM Tryz.func40 rfl ?_; intro hfit hfe)
  (repeat (first | refine gq_LNM ?_ | (refine ga0A ?_; intro _hq) | refine gdA ?_))
  (refine rtA ?_; try rfl)
abbrev oR (L f : Int) : Option BS → AG
  | some b => .agg (bCr L b.1 f b.2.1 b.2.2)
  | none => .agg [.v (.int .i64 0), .v (.slice none 0 0), .v (.int .i64 0), .v (.int .i64 0), .v (.int .i64 0)]
theorem ex_dBL (l : List UInt8) (hl : l.length ≤ 100000000) : ∃ (L f : Int) (x : Option BS) (s : List UInt8), (1 ≤ L ∧ L ≤ 5) ∧ (0 ≤ f ∧ f ≤ 256) ∧ (∀ b, x = some b → b.1.length ≤ 25 ∧ (0 ≤ b.2.1 ∧ b.2.1 ≤ 257) ∧ b.2.2 ≤ 25) ∧ s.length ≤ 20 ∧ Kon Tryz.prog 8 [roA l] [] (.tup [oR L f x, .one (.v (.string (str s)))]) [] [] := by
  have h2 : (l.take 2000).length ≤ 2000 := by simp; omega
  obtain ⟨L, f, x, c', h3, h4, h5, h6, h7, hK⟩ := ex_bench (l.take 2000) 0 12 (by omega) (by omega)
  rcases x with _ | ⟨gs, w, A⟩
  · obtain ⟨s, c2, hs, hc2, hS⟩ := ex_said (l.take 2000) c' 0 0 0 0 [] (by omega) (by simp)
    refine ⟨L, f, none, s, h3, h4, fun b hb => ⟨(h6 b hb).1, (h6 b hb).2.1, (h6 b hb).2.2.1⟩, hs, ?_⟩
    clear h6 h7
    (refine kM Tryz.func8 rfl ?_; intro hfit hfe)
    (repeat (first | refine gq_LNM ?_ | (refine ga0A ?_; intro _hq)))
    (refine aw_draw mixed T0ok cfU_ok [(112, [3]), (32, [4])] (by rfl) (by kernel_rfl) ?_)
    (repeat (first | refine gq_LNM ?_ | (refine ga0A ?_; intro _hq)))
    (refine rtA ?_; try rfl)
  · have hg : gs.length ≤ 25 := (h6 _ rfl).1
    obtain ⟨s, c2, hs, hc2, hS⟩ := ex_said (l.take 2000) c' L f w A gs (by omega) hg
    refine ⟨L, f, some (gs, w, A), s, h3, h4, fun b hb => ⟨(h6 b hb).1, (h6 b hb).2.1, (h6 b hb).2.2.1⟩, hs, ?_⟩
    clear h6 h7
    (refine kM Tryz.func8 rfl ?_; intro hfit hfe)
    (repeat refine gcA ?_)
    (repeat (first | refine gs_LNM ?_ | (refine ga0A ?_; intro _hq)))
    (repeat refine gcA ?_)
    (repeat (first | refine gs_LNM ?_ | (refine ga0A ?_; intro _hq)))
    (repeat refine gcA ?_)
    (repeat (first | refine gs_LNM ?_ | (refine ga0A ?_; intro _hq)))
    (refine aw_freeze 144 (by rfl) (by rfl) ?_; refine aw_box 80 1 (by rfl) (by rfl) (by first | exact trivial | ((repeat' (first | exact rfl | exact cV_len _ | exact cV_ln rfl (by omega) | exact Cel.pos | omega | exact trivial | refine And.intro ?_ ?_)); first | done | fail)) (by rfl) ?_)
    (repeat (first | refine gq_LNM ?_ | (refine ga0A ?_; intro _hq)))
    (refine aw_draw mixed T0ok cfU_ok [(112, [3]), (32, [4])] (by rfl) (by kernel_rfl) ?_)
    (repeat (first | refine gq_LNM ?_ | (refine ga0A ?_; intro _hq)))
    (refine rtA ?_; try rfl)
theorem k_nbZ : Kon Tryz.prog 13 [bG 0 [] 0 0 0] [] (vB true) [] [] := by
  have hS := k_sb 0 [] 0 0 0 (by simp)
  (refine kM Tryz.func13 rfl ?_; intro hfit hfe)
  (repeat (first | refine gq_LNM ?_ | (refine ga0A ?_; intro _hq)))
  (refine rtA ?_; try rfl)
set_option maxHeartbeats 8000000 in
theorem k_lawBL (l : List UInt8) : Kon Tryz.prog 3 [roA l] [] (vB true) [] [] := by
  rcases Nat.lt_or_ge 1048576 l.length with h0 | h0
  · have hd : decide ((l.length : Int) > 1048576) = true := decide_eq_true (by omega)
    (refine kM Tryz.func3 rfl ?_; intro hfit hfe)
    (repeat (first | refine gq_LNM ?_ | (refine ga0A ?_; intro _hq)))
    (refine rtA ?_; try rfl)
  have hd : decide ((l.length : Int) > 1048576) = false := decide_eq_false (by omega)
  have hz := k_sb 0 [] 0 0 0 (by simp)
  have hnz := k_nbZ
  obtain ⟨L, f, x, s, hL, hf, hx, hs, hD⟩ := ex_dBL l (by omega)
  rcases x with _ | ⟨gs, w, A⟩
  · have e : bok 0 [] 0 0 0 = false := by decide
    have hI := k_blI0 0 [] 0 0 0 s (by simp) (by omega) e
    have hS := k_blS0 0 [] 0 0 0 s (by simp) (by omega) e
    have hV := k_bvS 0 [] 0 0 0 (by simp) (by omega)
    rw [e] at hV
    clear hx
    (refine kM Tryz.func3 rfl ?_; intro hfit hfe)
    (repeat (first | refine gq_LNM ?_ | (refine ga0A ?_; intro _hq)))
    (refine rtA ?_; try rfl)
  · obtain ⟨hgl, hw, hA⟩ := hx _ rfl
    dsimp only at hgl hw hA
    clear hx
    have hV := k_bvS L gs f w A (by omega) (by omega)
    cases hb : bok L gs f w A with
    | false =>
      have hI := k_blI0 L gs f w A s (by omega) (by omega) hb
      have hS := k_blS0 L gs f w A s (by omega) (by omega) hb
      rw [hb] at hV
      (refine kM Tryz.func3 rfl ?_; intro hfit hfe)
      (repeat (first | refine gq_LNM ?_ | (refine ga0A ?_; intro _hq)))
      (refine rtA ?_; try rfl)
    | true =>
      rw [hb] at hV
      rcases hR : lnF L f gs w A s with ⟨⟨l', w', A'⟩, ans⟩
      have hI := kn_blI hb (by omega) hR
      have hS := kn_lineS hb (by omega) hR
      have hI2 := kn_blI hb (s := [32]) (by simp) (lnF_sp L f gs w A)
      have hb' := lnF_okB hb s
      rw [hR] at hb'
      dsimp only at hb'
      have hn' := bok_nums L l' f w' A' hb'
      have hn0 := bok_nums L gs f w A hb
      have hV' := k_bv L l' f w' A' (by omega) (by omega)
      rw [hb'] at hV'
      have hq1 := k_sb L l' f w' A' (by omega)
      have hq2 := k_sb L gs f w A (by omega)
      have hmm : (!(ans == ans)) = false := by simp
      cases ho : (ans == wOk) with
      | true =>
        clear hR hb hb'
        (refine kM Tryz.func3 rfl ?_; intro hfit hfe)
        (repeat (first | refine gq_LNM ?_ | (refine ga0A ?_; intro _hq)))
        (refine rtA ?_; try rfl)
      | false =>
        have hsame := lnF_no (n := L) (f := f) (l := gs) (w := w) (A := A) (s := s) (by rw [hR]; exact beq_eq_false_iff_ne.1 ho)
        rw [hR] at hsame
        dsimp only at hsame
        obtain ⟨rfl, h3⟩ := Prod.mk.inj hsame
        obtain ⟨rfl, rfl⟩ := Prod.mk.inj h3
        clear hR hb hb' hsame h3
        (refine kM Tryz.func3 rfl ?_; intro hfit hfe)
        (repeat (first | refine gq_LNM ?_ | (refine ga0A ?_; intro _hq)))
        (refine rtA ?_; try rfl)
end Go.Proofs.YtnenhckongccgaaGreatDoor
