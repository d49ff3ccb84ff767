/- TJC: laid into one text. -/
import Derived.Test.YtgjnnlgeggamjaaQXEN

namespace Go.Proofs.Ytgjnnlgeggamjaa
set_option linter.unusedVariables false
set_option linter.unusedSimpArgs false
set_option maxRecDepth 20000
open Go.RowKit
attribute [local irreducible] runA runX AW
theorem gq_TJC {H G : Prop} (k : H) (h : Hid H → G := by (intro hh; repeat1' (first | (first | (refine nxA ?_; (first | fail | ((first | (refine z_op (by rfl) ?_; first | refine z_ok ?_ ?_ | refine z_ex ?_ (by first | exact zL1 | ((first | (first | refine mk_0 Gt rfl rfl ?_ | refine mk_c Gt rfl rfl rfl ?_)); exact zWW) | exact zL2 | (first | exact rw_c Gt rfl | exact rw_c Int rfl) | exact zL3 | fail) ?_) | ((first | refine q_callE wsTP wsZ (by rfl) ?_ | refine q_callVE wsTP (by rfl) (by rfl) ?_); refine ⟨_, _, _, (by first | assumption | exact k_pick _ _ _ (by omega) | exact k_odd _ _ _ (by omega) | exact k_open _ (by omega)), _, by rfl, ?_, ?_⟩)); focus (first | exact trivial | fail | exact zQZ)) | fail)) | refine swA ?_) | refine awA ?_); exact hh.out)) : G := h ⟨k⟩
theorem gs_TJC {H G : Prop} (k : H) (h : Hid H → G := by (intro hh; repeat1' (first | (refine nxA ?_; (first | fail | ((first | (refine z_op (by rfl) ?_; first | refine z_ok ?_ ?_ | refine z_ex ?_ (by first | exact zL1 | ((first | (first | refine mk_0 Gt rfl rfl ?_ | refine mk_c Gt rfl rfl rfl ?_)); exact zWW) | exact zL2 | (first | exact rw_c Gt rfl | exact rw_c Int rfl) | exact zL3 | fail) ?_) | ((first | refine q_callE wsTP wsZ (by rfl) ?_ | refine q_callVE wsTP (by rfl) (by rfl) ?_); refine ⟨_, _, _, (by first | assumption | exact k_pick _ _ _ (by omega) | exact k_odd _ _ _ (by omega) | exact k_open _ (by omega)), _, by rfl, ?_, ?_⟩)); focus (first | exact trivial | fail | exact zQZ)) | fail)) | refine swA ?_); exact hh.out)) : G := h ⟨k⟩
set_option maxHeartbeats 4000000 in
theorem ex_regs (l : List UInt8) (c n : Int) (h : 0 ≤ c ∧ c ≤ 900000 ∧ l.length ≤ 2000) (hn : 0 < n ∧ n ≤ 1000) : ∃ (rs : List Int) (c' : Int), rs.length ≤ 4 ∧ (c ≤ c' ∧ c' ≤ c + 8) ∧ Kon Try.prog 49 [p0, vI n] [rdE l c] (roA rs) [] [rdE l c'] := by
  obtain ⟨a0, _, ha0, hA0⟩ := ex_pick l c 4 (by omega)
  obtain ⟨a1, _, ha1, hA1⟩ := ex_pick l (c + 1) 4 (by omega)
  obtain ⟨a2, _, ha2, hA2⟩ := ex_pick l (c + 1 + 1) 64 (by omega)
  obtain ⟨a3, _, ha3, hA3⟩ := ex_pick l (c + 1 + 1 + 1) 9 (by omega)
  obtain ⟨a4, _, ha4, hA4⟩ := ex_pick l (c + 1 + 1 + 1 + 1) 64 (by omega)
  have ha3' := ha3 (by decide)
  have ha4' := ha4 (by decide)
  have ha0' := ha0 (by decide)
  have ha1' := ha1 (by decide)
  have ha2' := ha2 (by decide)
  have hdv : 0 ≤ a3 / 8 ∧ a3 / 8 ≤ 1 := by omega
  have hmu : 0 ≤ a3 / 8 * a4 ∧ a3 / 8 * a4 ≤ 64 := by
    have : a3 / 8 = 0 ∨ a3 / 8 = 1 := by omega
    rcases this with h | h <;> rw [h] <;> omega
  obtain ⟨o, hO⟩ := ex_odd l (c + 1 + 1 + 1 + 1 + 1) n (by omega)
  cases o with
  | false =>
    refine ⟨[a0, a1, a2, a3 / 8 * a4], c + 1 + 1 + 1 + 1 + 1 + 1, Nat.le_refl _, by omega, ?_⟩
    (refine kM Try.func49 rfl ?_; intro hfit hfe)
    (repeat (first | refine gq_TJC ?_ | (refine ga0A ?_; intro _hq)))
    (refine aw_freeze (nid 18 0) (by rfl) (by rfl) ?_; refine aw_slot 4 1 (by rfl) (by rfl) (by first | exact trivial | omega | exact cvB (fun w => rfl) | ((repeat (any_goals (first | exact rfl | exact cV_len _ | exact cV_ln rfl (by omega) | exact Cel.pos | omega | exact trivial | refine And.intro ?_ ?_))); first | done | fail) | (simp [*]; first | done | fail)) ?_)
    (refine rtA ?_; try rfl)
  | true =>
    obtain ⟨q, _, hq, hQ⟩ := ex_pick l (c + 1 + 1 + 1 + 1 + 1 + 1) 2 (by omega)
    cases hq0 : (q == 0) with
    | true =>
      refine ⟨[a0, a1, a2], c + 1 + 1 + 1 + 1 + 1 + 1 + 1, by simp, by omega, ?_⟩
      (refine kM Try.func49 rfl ?_; intro hfit hfe)
      (repeat refine gcA ?_)
      (repeat (first | refine gs_TJC ?_ | (refine ga0A ?_; intro _hq)))
      (repeat refine gcA ?_)
      (repeat (first | refine gs_TJC ?_ | (refine ga0A ?_; intro _hq)))
      (refine aw_freeze (nid 18 0) (by rfl) (by rfl) ?_; refine aw_slot 5 1 (by rfl) (by rfl) (by first | exact trivial | omega | exact cvB (fun w => rfl) | ((repeat (any_goals (first | exact rfl | exact cV_len _ | exact cV_ln rfl (by omega) | exact Cel.pos | omega | exact trivial | refine And.intro ?_ ?_))); first | done | fail) | (simp [*]; first | done | fail)) ?_)
      (repeat (first | refine gq_TJC ?_ | (refine ga0A ?_; intro _hq)))
      (refine rtA ?_; try rfl)
    | false =>
      obtain ⟨q2, _, hq2, hQ2⟩ := ex_pick l (c + 1 + 1 + 1 + 1 + 1 + 1 + 1) 2 (by omega)
      have hq2' := hq2 (by decide)
      refine ⟨[a0, ([-1, 64] : List Int).getD q2.toNat Cel.no, a2, a3 / 8 * a4], c + 1 + 1 + 1 + 1 + 1 + 1 + 1 + 1, Nat.le_refl _, by omega, ?_⟩
      (refine kM Try.func49 rfl ?_; intro hfit hfe)
      (repeat (first | refine gq_TJC ?_ | (refine ga0A ?_; intro _hq)))
      (refine aw_freeze (nid 18 0) (by rfl) (by rfl) ?_; refine aw_slot 4 1 (by rfl) (by rfl) (by first | exact trivial | omega | exact cvB (fun w => rfl) | ((repeat (any_goals (first | exact rfl | exact cV_len _ | exact cV_ln rfl (by omega) | exact Cel.pos | omega | exact trivial | refine And.intro ?_ ?_))); first | done | fail) | (simp [*]; first | done | fail)) ?_)
      (refine rtA ?_; try rfl)
theorem ex_dPR (l : List UInt8) (hl : l.length ≤ 100000000) : ∃ (P : List Gt) (r : List Int), P.length ≤ 100 ∧ r.length ≤ 4 ∧ Kon Try.prog 29 [roA l] [] (.tup [.one (.sl 0 0 P.length), .one (.ro (Cel.sz Int) r.length (cV r))]) [rwE 47 P] [] := by
  have h2 : (l.take 2000).length ≤ 2000 := by simp; omega
  obtain ⟨P, c1, h3, h4, hK⟩ := ex_prog (l.take 2000) 0 12 (by omega) (by decide)
  obtain ⟨r, c2, h5, h6, hR⟩ := ex_regs (l.take 2000) c1 12 (by omega) (by decide)
  refine ⟨P, r, h3, h5, ?_⟩
  (refine kM Try.func29 rfl ?_; intro hfit hfe)
  (repeat (first | refine gq_TJC ?_ | (refine ga0A ?_; intro _hq)))
  (refine rtA ?_; try rfl)
end Go.Proofs.Ytgjnnlgeggamjaa
