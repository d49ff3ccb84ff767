/- KML: laid into one text. -/
import Derived.Test.YtnenhckongccgaaGreatDoorQHF
import Derived.Test.YtnenhckongccgaaGreatDoorQHU
import Derived.Test.YtnenhckongccgaaGreatDoorQHX

namespace Go.Proofs.YtnenhckongccgaaGreatDoor
set_option linter.unusedVariables false
set_option linter.unusedSimpArgs false
set_option maxRecDepth 20000
open Go.RowKit
attribute [local irreducible] runA runX AW
theorem gq_KML {H G : Prop} (k : H) (h : Hid H → G := by (intro hh; repeat1' (first | (first | (refine nxA ?_; (first | fail | ((first | (refine z_op (by rfl) ?_; first | refine z_ok ?_ ?_ | refine z_ex ?_ (by first | exact zL1 | ((first | fail); exact zWW) | exact zL2 | exact rw_c Int rfl | exact zL3 | fail) ?_) | ((first | refine q_callE wsT wsZ (by rfl) ?_ | refine q_callVE wsT (by rfl) (by rfl) ?_); refine ⟨_, _, _, (by first | assumption | exact k_pick _ _ _ (by omega) | exact k_odd _ _ _ (by omega)), _, by rfl, ?_, ?_⟩)); focus (first | exact trivial | fail | exact zQZ)) | fail)) | refine swA ?_) | refine awA ?_); exact hh.out)) : G := h ⟨k⟩
theorem gs_KML {H G : Prop} (k : H) (h : Hid H → G := by (intro hh; repeat1' (first | (refine nxA ?_; (first | fail | ((first | (refine z_op (by rfl) ?_; first | refine z_ok ?_ ?_ | refine z_ex ?_ (by first | exact zL1 | ((first | fail); exact zWW) | exact zL2 | exact rw_c Int rfl | exact zL3 | fail) ?_) | ((first | refine q_callE wsT wsZ (by rfl) ?_ | refine q_callVE wsT (by rfl) (by rfl) ?_); refine ⟨_, _, _, (by first | assumption | exact k_pick _ _ _ (by omega) | exact k_odd _ _ _ (by omega)), _, by rfl, ?_, ?_⟩)); focus (first | exact trivial | fail | exact zQZ)) | fail)) | refine swA ?_); exact hh.out)) : G := h ⟨k⟩
abbrev tK9 (l : List UInt8) (c : Int) : Int := ([0, 0, 1, 1, 2, 2, 2, 3, 4] : List Int).getD (pickI l c 9).toNat Cel.no
theorem tK9_bd (l : List UInt8) (c : Int) (h : 0 ≤ pickI l c 9 ∧ pickI l c 9 < 9) : 0 ≤ ([0, 0, 1, 1, 2, 2, 2, 3, 4] : List Int).getD (pickI l c 9).toNat Cel.no ∧ ([0, 0, 1, 1, 2, 2, 2, 3, 4] : List Int).getD (pickI l c 9).toNat Cel.no ≤ 4 := by
  obtain ⟨k, hk⟩ : ∃ k, (pickI l c 9).toNat = k := ⟨_, rfl⟩
  have h9 : k < 9 := by omega
  rw [hk]
  obtain rfl | rfl | rfl | rfl | rfl | rfl | rfl | rfl | rfl : k = 0 ∨ k = 1 ∨ k = 2 ∨ k = 3 ∨ k = 4 ∨ k = 5 ∨ k = 6 ∨ k = 7 ∨ k = 8 := by omega
  all_goals decide
def ddA (l : List UInt8) (c : Int) : Dd × Int := (⟨tK9 l c + pickI l (c + 1) 60 / 59 * 5, 0, gZ⟩, c + 1 + 1)
def ddG (l : List UInt8) (gs : List Gt) (x : Dd × Int) : Dd × Int :=
  bif decide ((gs.length : Int) > 0) then (bif pickI l x.2 3 == 0 then (⟨x.1.k, x.1.n, gs.getD (pickI l (x.2 + 1) gs.length).toNat Cel.no⟩, x.2 + 1 + 1) else (x.1, x.2 + 1)) else x
def ddB (l : List UInt8) (n : Int) (gs : List Gt) (x : Dd × Int) : Dd × Int :=
  bif x.1.k == 0 || x.1.k == 1 then (⟨x.1.k, 1 + pickI l x.2 3, x.1.p⟩, x.2 + 1)
  else bif x.1.k == 2 then ddG l gs (⟨x.1.k, x.1.n, (gtN l x.2 (nE n) 12 (gnM n)).1⟩, (gtN l x.2 (nE n) 12 (gnM n)).2)
  else x
def ddC (l : List UInt8) (x : Dd × Int) : Dd × Int := bif pickI l x.2 30 == 29 then (⟨x.1.k, x.1.n + pickI l (x.2 + 1) 30 - 5, x.1.p⟩, x.2 + 1 + 1) else (x.1, x.2 + 1)
def ddM (l : List UInt8) (n : Int) (gs : List Gt) (c : Int) : Dd × Int := ddC l (ddB l n gs (ddA l c))
theorem ddB_bd (l : List UInt8) (n : Int) (gs : List Gt) (x : Dd × Int) : x.2 ≤ (ddB l n gs x).2 ∧ (ddB l n gs x).2 ≤ x.2 + 23 ∧ (ddB l n gs x).1.k = x.1.k ∧ ((ddB l n gs x).1.n = x.1.n ∨ (1 ≤ (ddB l n gs x).1.n ∧ (ddB l n gs x).1.n ≤ 3)) := by
  have hp3 := pickI_lt (l := l) (c := x.2) (n := 3) (by omega)
  have hGb := gtN_bd l x.2 (nE n) 12 (gnM n) (nE_bd n) (gnM_bd n)
  unfold gbd at hGb
  unfold ddB
  cases (x.1.k == 0 || x.1.k == 1)
  · dsimp only [cond_false]
    cases (x.1.k == 2)
    · exact ⟨Int.le_refl _, by dsimp only [cond_false]; omega, rfl, .inl rfl⟩
    · dsimp only [cond_true]
      unfold ddG
      dsimp only
      cases decide ((gs.length : Int) > 0)
      · dsimp only [cond_false]
        exact ⟨by omega, by omega, rfl, .inl rfl⟩
      · dsimp only [cond_true]
        cases (pickI l (gtN l x.2 (nE n) 12 (gnM n)).2 3 == 0)
        · dsimp only [cond_false]
          exact ⟨by omega, by omega, rfl, .inl rfl⟩
        · dsimp only [cond_true]
          exact ⟨by omega, by omega, rfl, .inl rfl⟩
  · dsimp only [cond_true]
    exact ⟨by omega, by omega, rfl, .inr ⟨by omega, by omega⟩⟩
theorem ddM_bd (l : List UInt8) (n : Int) (gs : List Gt) (c : Int) : c ≤ (ddM l n gs c).2 ∧ (ddM l n gs c).2 ≤ c + 27 := by
  have hb := ddB_bd l n gs (ddA l c)
  have ha : (ddA l c).2 = c + 1 + 1 := rfl
  unfold ddM ddC
  cases (pickI l (ddB l n gs (ddA l c)).2 30 == 29)
  · dsimp only [cond_false]; omega
  · dsimp only [cond_true]; omega
set_option maxRecDepth 1000000 in
set_option maxHeartbeats 4000000 in
theorem k_deed (l : List UInt8) (c n f w a : Int) (gs : List Gt) (h : 0 ≤ c ∧ c ≤ 90000 ∧ l.length ≤ 2000) (hgs : gs.length ≤ 1000) : Kon Tryz.prog 87 [p0, .g (.agg [.v (.int .i64 n), roG gs, .v (.int .i64 f), .v (.int .i64 w), .v (.int .i64 a)])] ([rdE l c] ++ []) (dV (ddM l n gs c).1) [] ([rdE l (ddM l n gs c).2] ++ []) := by
  have hp9 := pickI_lt (l := l) (c := c) (n := 9) (by omega)
  have hp60 := pickI_lt (l := l) (c := c + 1) (n := 60) (by omega)
  have hk9 := tK9_bd l c hp9
  rw [ddM]
  (refine kM Tryz.func87 rfl ?_; intro hfit hfe)
  (repeat refine gcA ?_)
  (repeat (first | refine gs_KML ?_ | (refine ga1A ?_; intro _q ⟨_he, _hq⟩)))
  refine aw_cutg [0, 3, 4] [48, 64] (fun g : Dd × Int => [(5, .g (.one (.ptr 80 0 0)))]) (fun g => [(80, (0, .box (dCs g.1))), (100000, (0, rdE l g.2))]) (fun g => g = ddA l c) (by rfl) (by rfl) ?_ ?_
  · (refine aw_draw mixed T0ok cfU_ok [(100000, [2, 6]), (96, [0, 3, 4]), (80, [11, 12])] (by rfl) (by kernel_rfl) ?_)
    (repeat (first | refine gq_KML ?_ | (refine ga1A ?_; intro _q ⟨_he, _hq⟩)))
    subst _he
    exact ⟨ddA l c, rfl, ⟨by rfl, zHE, zHE⟩⟩
  rintro ⟨d1, c1⟩ he
  have hc1 : c1 = c + 2 ∧ (0 ≤ d1.k ∧ d1.k ≤ 9) ∧ d1.n = 0 := by
    rw [ddA] at he
    obtain ⟨h1, h2⟩ := Prod.mk.inj he
    have hk9' : 0 ≤ tK9 l c ∧ tK9 l c ≤ 4 := hk9
    rw [h1]
    dsimp only
    omega
  rw [← he]
  clear he
  obtain ⟨hc1, hk1, hn1⟩ := hc1
  dsimp only
  refine aw_cutg [0, 3, 4, 5] [48, 64] (fun g : Dd × Int => []) (fun g => [(80, (0, .box (dCs g.1))), (100000, (0, rdE l g.2))]) (fun g => g = ddB l n gs (d1, c1)) (by rfl) (by rfl) ?_ ?_
  · have hp3 := pickI_lt (l := l) (c := c1) (n := 3) (by omega)
    cases h0 : (d1.k == 0)
    rotate_left
    · (repeat (first | refine gq_KML ?_ | (refine ga1A ?_; intro _q ⟨_he, _hq⟩)))
      exact ⟨(⟨d1.k, 1 + pickI l c1 3, d1.p⟩, c1 + 1), by rw [ddB]; dsimp only; rw [h0]; rfl, ⟨by rfl, zHE, zHE⟩⟩
    cases h1 : (d1.k == 1)
    rotate_left
    · (repeat (first | refine gq_KML ?_ | (refine ga1A ?_; intro _q ⟨_he, _hq⟩)))
      exact ⟨(⟨d1.k, 1 + pickI l c1 3, d1.p⟩, c1 + 1), by rw [ddB]; dsimp only; rw [h0, h1]; rfl, ⟨by rfl, zHE, zHE⟩⟩
    cases h2 : (d1.k == 2)
    · (repeat (first | refine gq_KML ?_ | (refine ga1A ?_; intro _q ⟨_he, _hq⟩)))
      exact ⟨(d1, c1), by simp [ddB, h0, h1, h2], ⟨by rfl, zHE, zHE⟩⟩
    · have hG := k_gate l c1 (nE n) 12 (gnM n) (gnM_eq n) (nE_bd n) (by omega) (by omega)
      have hGb := gtN_bd l c1 (nE n) 12 (gnM n) (nE_bd n) (gnM_bd n)
      rcases hx : gtN l c1 (nE n) 12 (gnM n) with ⟨g, c2⟩
      rw [hx] at hG hGb
      unfold gbd at hGb
      dsimp only at hG hGb
      have eB : ddB l n gs (d1, c1) = ddG l gs (⟨d1.k, d1.n, g⟩, c2) := by rw [ddB]; dsimp only; rw [h0, h1, h2]; dsimp only [cond_true, cond_false, Bool.or_false]; rw [hx]; rfl
      rw [eB]
      have hp32 := pickI_lt (l := l) (c := c2) (n := 3) (by omega)
      cases hl0 : decide ((gs.length : Int) > 0) with
      | false =>
        (repeat (first | refine gq_KML ?_ | (refine ga1A ?_; intro _q ⟨_he, _hq⟩)))
        exact ⟨(⟨d1.k, d1.n, g⟩, c2), by rw [ddG, hl0]; rfl, ⟨by rfl, zHE, zHE⟩⟩
      | true =>
        have hl1 : (gs.length : Int) > 0 := of_decide_eq_true hl0
        cases hq : (pickI l c2 3 == 0) with
        | false =>
          (repeat (first | refine gq_KML ?_ | (refine ga1A ?_; intro _q ⟨_he, _hq⟩)))
          exact ⟨(⟨d1.k, d1.n, g⟩, c2 + 1), by rw [ddG, hl0]; dsimp only [cond_true]; rw [hq]; rfl, ⟨by rfl, zHE, zHE⟩⟩
        | true =>
          have hpl := pickI_lt (l := l) (c := c2 + 1) (n := (gs.length : Int)) (by omega)
          (repeat (first | refine gq_KML ?_ | (refine ga1A ?_; intro _q ⟨_he, _hq⟩)))
          (refine aw_draw mixed T0ok cfU_ok [(100000, [6]), (80, [9, 10])] (by rfl) (by kernel_rfl) ?_)
          (repeat (first | refine gq_KML ?_ | (refine ga1A ?_; intro _q ⟨_he, _hq⟩)))
          exact ⟨(⟨d1.k, d1.n, gs.getD (pickI l (c2 + 1) gs.length).toNat Cel.no⟩, c2 + 1 + 1), by rw [ddG, hl0]; dsimp only [cond_true]; rw [hq]; rfl, ⟨by rfl, zHE, zHE⟩⟩
  rintro ⟨d2, c2⟩ he
  have hc2 : c1 ≤ c2 ∧ c2 ≤ c1 + 23 ∧ (0 ≤ d2.n ∧ d2.n ≤ 3) := by
    have := ddB_bd l n gs (d1, c1)
    rw [← he] at this
    dsimp only at this
    omega
  rw [← he]
  clear he
  dsimp only
  have hp30 := pickI_lt (l := l) (c := c2) (n := 30) (by omega)
  have hp30' := pickI_lt (l := l) (c := c2 + 1) (n := 30) (by omega)
  cases hv : (pickI l c2 30 == 30 - 1) with
  | false =>
    have e : ddC l (d2, c2) = (d2, c2 + 1) := by rw [ddC]; dsimp only; rw [show (pickI l c2 30 == 29) = false from hv]; rfl
    rw [e]
    clear e
    (repeat (first | refine gq_KML ?_ | (refine ga1A ?_; intro _q ⟨_he, _hq⟩)))
    (refine rtA ?_; try rfl)
  | true =>
    have e : ddC l (d2, c2) = (⟨d2.k, d2.n + pickI l (c2 + 1) 30 - 5, d2.p⟩, c2 + 1 + 1) := by rw [ddC]; dsimp only; rw [show (pickI l c2 30 == 29) = true from hv]; rfl
    rw [e]
    clear e
    (repeat (first | refine gq_KML ?_ | (refine ga1A ?_; intro _q ⟨_he, _hq⟩)))
    (refine aw_draw mixed T0ok cfU_ok [(100000, [3]), (80, [0, 1, 6, 7])] (by rfl) (by kernel_rfl) ?_)
    (repeat (first | refine gq_KML ?_ | (refine ga1A ?_; intro _q ⟨_he, _hq⟩)))
    (refine rtA ?_; try rfl)
set_option maxRecDepth 1000000 in
set_option maxHeartbeats 4000000 in
theorem k_deedO (l : List UInt8) (c n f w a : Int) (gs : List Gt) (h : 0 ≤ c ∧ c ≤ 90000 ∧ l.length ≤ 2000) (hgs : gs.length ≤ 1000) : Kon Tryz.prog 87 [p0, .g (.agg [.v (.int .i64 n), .sl 100001 0 gs.length, .v (.int .i64 f), .v (.int .i64 w), .v (.int .i64 a)])] ([rdE l c] ++ [gRow gs]) (dV (ddM l n gs c).1) [] ([rdE l (ddM l n gs c).2] ++ [gRow gs]) := by
  have hp9 := pickI_lt (l := l) (c := c) (n := 9) (by omega)
  have hp60 := pickI_lt (l := l) (c := c + 1) (n := 60) (by omega)
  have hk9 := tK9_bd l c hp9
  rw [ddM]
  (refine kM Tryz.func87 rfl ?_; intro hfit hfe)
  (repeat refine gcA ?_)
  (repeat (first | refine gs_KML ?_ | (refine ga1A ?_; intro _q ⟨_he, _hq⟩)))
  refine aw_cutg [0, 3, 4] [48, 64, 100001] (fun g : Dd × Int => [(5, .g (.one (.ptr 80 0 0)))]) (fun g => [(80, (0, .box (dCs g.1))), (100000, (0, rdE l g.2))]) (fun g => g = ddA l c) (by rfl) (by rfl) ?_ ?_
  · (refine aw_draw mixed T0ok cfU_ok [(100000, [2, 6]), (96, [0, 3, 4]), (80, [11, 12])] (by rfl) (by kernel_rfl) ?_)
    (repeat (first | refine gq_KML ?_ | (refine ga1A ?_; intro _q ⟨_he, _hq⟩)))
    subst _he
    exact ⟨ddA l c, rfl, ⟨by rfl, zHE, zHE⟩⟩
  rintro ⟨d1, c1⟩ he
  have hc1 : c1 = c + 2 ∧ (0 ≤ d1.k ∧ d1.k ≤ 9) ∧ d1.n = 0 := by
    rw [ddA] at he
    obtain ⟨h1, h2⟩ := Prod.mk.inj he
    have hk9' : 0 ≤ tK9 l c ∧ tK9 l c ≤ 4 := hk9
    rw [h1]
    dsimp only
    omega
  rw [← he]
  clear he
  obtain ⟨hc1, hk1, hn1⟩ := hc1
  dsimp only
  refine aw_cutg [0, 3, 4, 5] [48, 64, 100001] (fun g : Dd × Int => []) (fun g => [(80, (0, .box (dCs g.1))), (100000, (0, rdE l g.2))]) (fun g => g = ddB l n gs (d1, c1)) (by rfl) (by rfl) ?_ ?_
  · have hp3 := pickI_lt (l := l) (c := c1) (n := 3) (by omega)
    cases h0 : (d1.k == 0)
    rotate_left
    · (repeat (first | refine gq_KML ?_ | (refine ga1A ?_; intro _q ⟨_he, _hq⟩)))
      exact ⟨(⟨d1.k, 1 + pickI l c1 3, d1.p⟩, c1 + 1), by rw [ddB]; dsimp only; rw [h0]; rfl, ⟨by rfl, zHE, zHE⟩⟩
    cases h1 : (d1.k == 1)
    rotate_left
    · (repeat (first | refine gq_KML ?_ | (refine ga1A ?_; intro _q ⟨_he, _hq⟩)))
      exact ⟨(⟨d1.k, 1 + pickI l c1 3, d1.p⟩, c1 + 1), by rw [ddB]; dsimp only; rw [h0, h1]; rfl, ⟨by rfl, zHE, zHE⟩⟩
    cases h2 : (d1.k == 2)
    · (repeat (first | refine gq_KML ?_ | (refine ga1A ?_; intro _q ⟨_he, _hq⟩)))
      exact ⟨(d1, c1), by simp [ddB, h0, h1, h2], ⟨by rfl, zHE, zHE⟩⟩
    · have hG := k_gate l c1 (nE n) 12 (gnM n) (gnM_eq n) (nE_bd n) (by omega) (by omega)
      have hGb := gtN_bd l c1 (nE n) 12 (gnM n) (nE_bd n) (gnM_bd n)
      rcases hx : gtN l c1 (nE n) 12 (gnM n) with ⟨g, c2⟩
      rw [hx] at hG hGb
      unfold gbd at hGb
      dsimp only at hG hGb
      have eB : ddB l n gs (d1, c1) = ddG l gs (⟨d1.k, d1.n, g⟩, c2) := by rw [ddB]; dsimp only; rw [h0, h1, h2]; dsimp only [cond_true, cond_false, Bool.or_false]; rw [hx]; rfl
      rw [eB]
      have hp32 := pickI_lt (l := l) (c := c2) (n := 3) (by omega)
      cases hl0 : decide ((gs.length : Int) > 0) with
      | false =>
        (repeat (first | refine gq_KML ?_ | (refine ga1A ?_; intro _q ⟨_he, _hq⟩)))
        exact ⟨(⟨d1.k, d1.n, g⟩, c2), by rw [ddG, hl0]; rfl, ⟨by rfl, zHE, zHE⟩⟩
      | true =>
        have hl1 : (gs.length : Int) > 0 := of_decide_eq_true hl0
        cases hq : (pickI l c2 3 == 0) with
        | false =>
          (repeat (first | refine gq_KML ?_ | (refine ga1A ?_; intro _q ⟨_he, _hq⟩)))
          exact ⟨(⟨d1.k, d1.n, g⟩, c2 + 1), by rw [ddG, hl0]; dsimp only [cond_true]; rw [hq]; rfl, ⟨by rfl, zHE, zHE⟩⟩
        | true =>
          have hpl := pickI_lt (l := l) (c := c2 + 1) (n := (gs.length : Int)) (by omega)
          (repeat (first | refine gq_KML ?_ | (refine ga1A ?_; intro _q ⟨_he, _hq⟩)))
          (refine aw_draw mixed T0ok cfU_ok [(100000, [6]), (80, [9, 10])] (by rfl) (by kernel_rfl) ?_)
          (repeat (first | refine gq_KML ?_ | (refine ga1A ?_; intro _q ⟨_he, _hq⟩)))
          exact ⟨(⟨d1.k, d1.n, gs.getD (pickI l (c2 + 1) gs.length).toNat Cel.no⟩, c2 + 1 + 1), by rw [ddG, hl0]; dsimp only [cond_true]; rw [hq]; rfl, ⟨by rfl, zHE, zHE⟩⟩
  rintro ⟨d2, c2⟩ he
  have hc2 : c1 ≤ c2 ∧ c2 ≤ c1 + 23 ∧ (0 ≤ d2.n ∧ d2.n ≤ 3) := by
    have := ddB_bd l n gs (d1, c1)
    rw [← he] at this
    dsimp only at this
    omega
  rw [← he]
  clear he
  dsimp only
  have hp30 := pickI_lt (l := l) (c := c2) (n := 30) (by omega)
  have hp30' := pickI_lt (l := l) (c := c2 + 1) (n := 30) (by omega)
  cases hv : (pickI l c2 30 == 30 - 1) with
  | false =>
    have e : ddC l (d2, c2) = (d2, c2 + 1) := by rw [ddC]; dsimp only; rw [show (pickI l c2 30 == 29) = false from hv]; rfl
    rw [e]
    clear e
    (repeat (first | refine gq_KML ?_ | (refine ga1A ?_; intro _q ⟨_he, _hq⟩)))
    (refine rtA ?_; try rfl)
  | true =>
    have e : ddC l (d2, c2) = (⟨d2.k, d2.n + pickI l (c2 + 1) 30 - 5, d2.p⟩, c2 + 1 + 1) := by rw [ddC]; dsimp only; rw [show (pickI l c2 30 == 29) = true from hv]; rfl
    rw [e]
    clear e
    (repeat (first | refine gq_KML ?_ | (refine ga1A ?_; intro _q ⟨_he, _hq⟩)))
    (refine aw_draw mixed T0ok cfU_ok [(100000, [3]), (80, [0, 1, 6, 7])] (by rfl) (by kernel_rfl) ?_)
    (repeat (first | refine gq_KML ?_ | (refine ga1A ?_; intro _q ⟨_he, _hq⟩)))
    (refine rtA ?_; try rfl)
end Go.Proofs.YtnenhckongccgaaGreatDoor
