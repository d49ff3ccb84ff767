/- TRL: laid into one text. -/
import Derived.Test.YtgjnnlgeggamjaaQXEM

namespace Go.Proofs.Ytgjnnlgeggamjaa
set_option linter.unusedVariables false
set_option linter.unusedSimpArgs false
set_option maxRecDepth 20000
open Go.RowKit
attribute [local irreducible] runA runX AW
theorem gq_TRL {H G : Prop} (k : H) (h : Hid H → G := by (intro hh; repeat1' (first | (first | (refine nxA ?_; (first | fail | ((first | (refine z_op (by rfl) ?_; first | refine z_ok ?_ ?_ | refine z_ex ?_ (by first | exact zL1 | ((first | (first | refine mk_0 Gt rfl rfl ?_ | refine mk_c Gt rfl rfl rfl ?_)); exact zWW) | exact zL2 | (first | exact rw_c Gt rfl | exact rw_c Int rfl) | exact zL3 | fail) ?_) | ((first | refine q_callE wsTP wsZ (by rfl) ?_ | refine q_callVE wsTP (by rfl) (by rfl) ?_); refine ⟨_, _, _, (by first | assumption | exact k_pick _ _ _ (by omega) | exact k_odd _ _ _ (by omega) | exact k_open _ (by omega)), _, by rfl, ?_, ?_⟩)); focus (first | exact trivial | fail | exact zQZ)) | fail)) | refine swA ?_) | refine awA ?_); exact hh.out)) : G := h ⟨k⟩
open Classical in
noncomputable def pt0 (l : List UInt8) (c : Int) : DS := if h : 0 ≤ c ∧ c ≤ 800000 ∧ l.length ≤ 2000 then Classical.choose (part0 l c h) else ([], c)
theorem pt0_ok (l : List UInt8) (c : Int) (h : 0 ≤ c ∧ c ≤ 800000 ∧ l.length ≤ 2000) : PT l 0 2 7 c (pt0 l c) := by
  unfold pt0; rw [dif_pos h]; exact Classical.choose_spec (part0 l c h)
theorem part1 (l : List UInt8) (c : Int) (h : 0 ≤ c ∧ c ≤ 700000 ∧ l.length ≤ 2000) : ∃ y, PT l 1 16 39 c y :=
  partD l 1 2 7 800000 (by decide) (by decide) (by decide) (by decide) h.2.2 (pt0 l) (fun c h1 h2 => pt0_ok l c ⟨h1, h2, h.2.2⟩) c (by omega)
open Classical in
noncomputable def pt1 (l : List UInt8) (c : Int) : DS := if h : 0 ≤ c ∧ c ≤ 700000 ∧ l.length ≤ 2000 then Classical.choose (part1 l c h) else ([], c)
theorem pt1_ok (l : List UInt8) (c : Int) (h : 0 ≤ c ∧ c ≤ 700000 ∧ l.length ≤ 2000) : PT l 1 16 39 c (pt1 l c) := by
  unfold pt1; rw [dif_pos h]; exact Classical.choose_spec (part1 l c h)
theorem part2 (l : List UInt8) (c : Int) (h : 0 ≤ c ∧ c ≤ 600000 ∧ l.length ≤ 2000) : ∃ y, PT l 2 72 167 c y :=
  partD l 2 16 39 700000 (by decide) (by decide) (by decide) (by decide) h.2.2 (pt1 l) (fun c h1 h2 => pt1_ok l c ⟨h1, h2, h.2.2⟩) c (by omega)
set_option maxHeartbeats 4000000 in
theorem ex_prog (l : List UInt8) (c n : Int) (h : 0 ≤ c ∧ c ≤ 500000 ∧ l.length ≤ 2000) (hn : 0 < n ∧ n ≤ 1000) : ∃ (xs : List Gt) (c' : Int), (xs.length ≤ 100) ∧ (c ≤ c' ∧ c' ≤ c + 400) ∧ Kon Try.prog 40 [p0, vI n] [rdE l c] (slA 0 0 xs) [rwE 47 xs] [rdE l c'] := by
  obtain ⟨⟨ys, c1⟩, y1, y2, hY⟩ := part2 l c (by omega)
  obtain ⟨⟨zs, c2⟩, z1, z2, hZ⟩ := part1 l c1 (by dsimp only at y1; omega)
  dsimp only at y1 y2 z1 z2 hY hZ
  rcases Nat.lt_or_ge 16 ys.length with h16 | h16
  · have g1 : decide ((ys.length : Int) > 16) = true := decide_eq_true (by omega)
    have g2 : decide ((zs.length : Int) > 16) = false := decide_eq_false (by omega)
    cases ho : (pickI l c2 n == n - 1) with
    | false =>
      refine ⟨zs, c2 + 1, by omega, by omega, ?_⟩
      (refine kM Try.func40 rfl ?_; intro hfit hfe)
      (repeat (first | refine gq_TRL ?_ | (refine ga0A ?_; intro _hq)))
      refine aw_unroll 2 ?_
      (repeat (first | refine gq_TRL ?_ | (refine ga0A ?_; intro _hq)))
      (refine rtA ?_; try rfl)
    | true =>
      cases d0 : (pickI l (c2 + 1) 4 == 0) with
      | true =>
        refine ⟨zs ++ [⟨5, 0, 0, 0⟩], c2 + 1 + 1, by (simp only [List.length_append, List.length_cons, List.length_nil]; omega), by omega, ?_⟩
        (refine kM Try.func40 rfl ?_; intro hfit hfe)
        (repeat (first | refine gq_TRL ?_ | (refine ga0A ?_; intro _hq)))
        refine aw_unroll 2 ?_
        (repeat (first | refine gq_TRL ?_ | (refine ga0A ?_; intro _hq)))
        (refine rtA ?_; try rfl)
      | false =>
        cases d1 : (pickI l (c2 + 1) 4 == 1) with
        | true =>
          refine ⟨zs ++ [⟨6, 0, 0, 0⟩], c2 + 1 + 1, by (simp only [List.length_append, List.length_cons, List.length_nil]; omega), by omega, ?_⟩
          (refine kM Try.func40 rfl ?_; intro hfit hfe)
          (repeat (first | refine gq_TRL ?_ | (refine ga0A ?_; intro _hq)))
          refine aw_unroll 2 ?_
          (repeat (first | refine gq_TRL ?_ | (refine ga0A ?_; intro _hq)))
          (refine rtA ?_; try rfl)
        | false =>
          cases d2 : (pickI l (c2 + 1) 4 == 2) with
          | true =>
            refine ⟨zs ++ [⟨0, 1, 1, 0⟩], c2 + 1 + 1, by (simp only [List.length_append, List.length_cons, List.length_nil]; omega), by omega, ?_⟩
            (refine kM Try.func40 rfl ?_; intro hfit hfe)
            (repeat (first | refine gq_TRL ?_ | (refine ga0A ?_; intro _hq)))
            refine aw_unroll 2 ?_
            (repeat (first | refine gq_TRL ?_ | (refine ga0A ?_; intro _hq)))
            (refine rtA ?_; try rfl)
          | false =>
            refine ⟨List.replicate 17 (Cel.no : Gt), c2 + 1 + 1, by (rw [List.length_replicate]; omega), by omega, ?_⟩
            (refine kM Try.func40 rfl ?_; intro hfit hfe)
            (repeat (first | refine gq_TRL ?_ | (refine ga0A ?_; intro _hq)))
            refine aw_unroll 2 ?_
            (repeat (first | refine gq_TRL ?_ | (refine ga0A ?_; intro _hq)))
            (refine rtA ?_; try rfl)
  · have g1 : decide ((ys.length : Int) > 16) = false := decide_eq_false (by omega)
    clear hZ z1 z2
    cases ho : (pickI l c1 n == n - 1) with
    | false =>
      refine ⟨ys, c1 + 1, by omega, by omega, ?_⟩
      (refine kM Try.func40 rfl ?_; intro hfit hfe)
      (repeat (first | refine gq_TRL ?_ | (refine ga0A ?_; intro _hq)))
      refine aw_unroll 2 ?_
      (repeat (first | refine gq_TRL ?_ | (refine ga0A ?_; intro _hq)))
      (refine rtA ?_; try rfl)
    | true =>
      cases d0 : (pickI l (c1 + 1) 4 == 0) with
      | true =>
        refine ⟨ys ++ [⟨5, 0, 0, 0⟩], c1 + 1 + 1, by (simp only [List.length_append, List.length_cons, List.length_nil]; omega), by omega, ?_⟩
        (refine kM Try.func40 rfl ?_; intro hfit hfe)
        (repeat (first | refine gq_TRL ?_ | (refine ga0A ?_; intro _hq)))
        refine aw_unroll 2 ?_
        (repeat (first | refine gq_TRL ?_ | (refine ga0A ?_; intro _hq)))
        (refine rtA ?_; try rfl)
      | false =>
        cases d1 : (pickI l (c1 + 1) 4 == 1) with
        | true =>
          refine ⟨ys ++ [⟨6, 0, 0, 0⟩], c1 + 1 + 1, by (simp only [List.length_append, List.length_cons, List.length_nil]; omega), by omega, ?_⟩
          (refine kM Try.func40 rfl ?_; intro hfit hfe)
          (repeat (first | refine gq_TRL ?_ | (refine ga0A ?_; intro _hq)))
          refine aw_unroll 2 ?_
          (repeat (first | refine gq_TRL ?_ | (refine ga0A ?_; intro _hq)))
          (refine rtA ?_; try rfl)
        | false =>
          cases d2 : (pickI l (c1 + 1) 4 == 2) with
          | true =>
            refine ⟨ys ++ [⟨0, 1, 1, 0⟩], c1 + 1 + 1, by (simp only [List.length_append, List.length_cons, List.length_nil]; omega), by omega, ?_⟩
            (refine kM Try.func40 rfl ?_; intro hfit hfe)
            (repeat (first | refine gq_TRL ?_ | (refine ga0A ?_; intro _hq)))
            refine aw_unroll 2 ?_
            (repeat (first | refine gq_TRL ?_ | (refine ga0A ?_; intro _hq)))
            (refine rtA ?_; try rfl)
          | false =>
            refine ⟨List.replicate 17 (Cel.no : Gt), c1 + 1 + 1, by (rw [List.length_replicate]; omega), by omega, ?_⟩
            (refine kM Try.func40 rfl ?_; intro hfit hfe)
            (repeat (first | refine gq_TRL ?_ | (refine ga0A ?_; intro _hq)))
            refine aw_unroll 2 ?_
            (repeat (first | refine gq_TRL ?_ | (refine ga0A ?_; intro _hq)))
            (refine rtA ?_; try rfl)
end Go.Proofs.Ytgjnnlgeggamjaa
