/- DU: laid into one text. -/
import Derived.Test.YtnenhckongccgaaGreatDoorQHZB
import Derived.Test.YtnenhckongccgaaGreatDoorQHZC

namespace Go.Proofs.YtnenhckongccgaaGreatDoor
set_option linter.unusedVariables false
set_option linter.unusedSimpArgs false
set_option maxRecDepth 20000
open Go.RowKit
attribute [local irreducible] runA runX AW
def wsTU : WsT := (75, ([0], true)) :: (74, ([0], true)) :: (39, ([0], true)) :: (87, ([0, 1], true)) :: (79, ([0], true)) :: wsT
def wsZU : List (Nat × Nat) := [(87, 4), (79, 4), (999999, 0)]
theorem gq_DU {H G : Prop} (k : H) (h : Hid H → G := by (intro hh; repeat1' (first | (first | (refine nxA ?_; (first | (first | refine r_slen (by rfl) Tryz.underlying9 (by rfl) ?_ | refine r_seq (by rfl) (by rfl) (by rfl) ?_ | refine r_sne (by rfl) (by rfl) (by rfl) ?_ | refine r_sadd (by rfl) (by rfl) (by first | omega | (simp only [List.length_append, List.length_cons, List.length_nil, List.length_take, List.length_drop]; omega)) (by rfl) ?_ | refine r_spiece (q := z) (by rfl) (by rfl) (by rfl) Tryz.underlying9 (.inl ⟨rfl, rfl⟩) (.inr rfl) (by omega) (by rfl) ?_ | refine r_spiece (p := z + 1) (by rfl) (by rfl) (by rfl) Tryz.underlying9 (.inr rfl) (.inl ⟨rfl, rfl⟩) (by omega) (by rfl) ?_) | ((first | (refine z_op (by rfl) ?_; first | refine z_ok ?_ ?_ | refine z_ex ?_ (by first | exact zL1 | ((first | fail); exact zWW) | exact zL2 | (first | exact rw_c (List UInt8) rfl | exact rw_c Dd rfl) | exact zL3 | fail) ?_) | ((first | refine q_callE wsTU wsZU (by rfl) ?_ | refine q_callVE wsTU (by rfl) (by rfl) ?_); refine ⟨_, _, _, (by first | assumption | exact k_open _ (by omega) | exact (k_dt _ _ _).2), _, by rfl, ?_, ?_⟩)); focus (first | exact trivial | fail | exact zQZ)) | fail)) | refine swA ?_) | refine awA ?_); exact hh.out)) : G := h ⟨k⟩
theorem ex_spoil (l : List UInt8) (c : Int) (t : List UInt8) (h : 0 ≤ c ∧ c ≤ 900000 ∧ l.length ≤ 2000) (ht : t.length ≤ 1000) : ∃ (s : List UInt8) (c' : Int), s.length ≤ t.length + 4 ∧ Kon Tryz.prog 75 [p0, vS t] [rdE l c] (vS s) [] [rdE l c'] := by
  rcases Nat.eq_zero_or_pos t.length with h0 | h0
  · have hb : ((t.length : Int) == 0) = true := by rw [beq_iff_eq]; omega
    refine ⟨[10], c, by simp, ?_⟩
    (refine kM Tryz.func75 rfl ?_; intro hfit hfe)
    (repeat (first | refine gq_DU ?_ | (refine ga0A ?_; intro _hq)))
    (refine rtA ?_; try rfl)
  · have hb : ((t.length : Int) == 0) = false := by rw [beq_eq_false_iff_ne]; omega
    obtain ⟨q, _, hq, hQ⟩ := ex_pick l c (t.length : Int) (by omega)
    have hq' := hq (by omega)
    obtain ⟨z, rfl⟩ : ∃ z : Nat, q = (z : Int) := ⟨q.toNat, by omega⟩
    obtain ⟨y, _, hy, hY⟩ := ex_pick l (c + 1) 6 (by omega)
    have hy' := hy (by decide)
    obtain ⟨e, he, hel⟩ : ∃ e : List UInt8, ([[], [48], [32], [10], [49], [116, 97, 107, 101]] : List (List UInt8)).getD y.toNat Cel.no = e ∧ e.length ≤ 4 := by
      refine ⟨_, rfl, ?_⟩
      have : y.toNat = 0 ∨ y.toNat = 1 ∨ y.toNat = 2 ∨ y.toNat = 3 ∨ y.toNat = 4 ∨ y.toNat = 5 := by omega
      rcases this with h | h | h | h | h | h <;> rw [h] <;> decide
    refine ⟨((t.drop 0).take (z - 0)) ++ ([[], [48], [32], [10], [49], [116, 97, 107, 101]] : List (List UInt8)).getD y.toNat Cel.no ++ ((t.drop (z + 1)).take (t.length - (z + 1))), c + 1 + 1, ?_, ?_⟩
    · rw [he]; simp only [List.length_append, List.length_take, List.length_drop]; omega
    have hel2 : (([[], [48], [32], [10], [49], [116, 97, 107, 101]] : List (List UInt8)).getD y.toNat Cel.no).length ≤ 4 := by rw [he]; exact hel
    clear he
    (refine kM Tryz.func75 rfl ?_; intro hfit hfe)
    (repeat (first | refine gq_DU ?_ | (refine ga0A ?_; intro _hq)))
    (refine aw_draw mixed T0ok cfU_ok [(100000, [5]), (256, [3, 6, 7])] (by rfl) (by kernel_rfl) ?_)
    (repeat (first | refine gq_DU ?_ | (refine ga0A ?_; intro _hq)))
    (refine rtA ?_; try rfl)
def wrt (l : List Dd) : List Dd := l.filter (fun d => !(dT d == []))
theorem wrt_snoc {l : List Dd} {k : Nat} (h : k < l.length) : wrt (l.take (k + 1)) = if (dT (l.getD k Cel.no) == []) = true then wrt (l.take k) else wrt (l.take k) ++ [l.getD k Cel.no] := by
  rw [take_d h]
  unfold wrt
  rw [List.filter_append]
  cases hb : (dT (l.getD k Cel.no) == []) with
  | true => simp only [List.filter_cons, hb]; simp
  | false => simp only [List.filter_cons, hb]; simp
theorem wrt_len (l : List Dd) (k : Nat) : (wrt (l.take k)).length ≤ l.length := by
  have h1 : (wrt (l.take k)).length ≤ (l.take k).length := List.length_filter_le _ _
  rw [List.length_take] at h1; omega
set_option maxHeartbeats 4000000 in
theorem ex_written (l : List UInt8) (c : Int) (h : 0 ≤ c ∧ c ≤ 1000 ∧ l.length ≤ 2000) : ∃ (ds : List Dd) (c' : Int), ds.length ≤ 14 ∧ (0 ≤ c' ∧ c' ≤ 90000) ∧ Kon Tryz.prog 74 [p0] [rdE l c] (slA 0 0 ds) [dRow ds] [rdE l c'] := by
  obtain ⟨L, f, x, c', h3, h4, h5, h6, h7, hK⟩ := ex_bench l c 0 (by omega) (by omega)
  rcases x with _ | ⟨gs, w, A⟩
  · exact absurd rfl (h7 (by omega))
  have hg : gs.length ≤ 25 := (h6 _ rfl).1
  obtain ⟨b, hb⟩ : ∃ b, bok L gs f w (A : Int) = b := ⟨_, rfl⟩
  have hD := k_deeds l c' b L f w A gs (by omega) (by omega) hg hb
  have hp14 := pickI_lt (l := l) (c := c') (n := 14) (by omega)
  have hok := dsN_ok l b L f (((gs, w, A), []), c' + 1) hb hg (pickI l c' 14).toNat
  rcases hx : dsN l b L (((gs, w, A), []), c' + 1) (pickI l c' 14).toNat with ⟨⟨b2, ds⟩, c2⟩
  rw [hx] at hD hok
  dsimp only at hD hok
  obtain ⟨_, _, hdl, hc1, hc2⟩ := hok
  simp only [List.length_nil, Nat.zero_add] at hdl
  refine ⟨wrt ds, c2, ?_, by omega, ?_⟩
  · have := wrt_len ds ds.length
    rw [List.take_length] at this; omega
  clear hx hb h6 h7
  have hdl2 : ds.length ≤ 14 := by omega
  clear hdl
  (refine kM Tryz.func74 rfl ?_; intro hfit hfe)
  (repeat (first | refine gq_DU ?_ | (refine ga0A ?_; intro _hq)))
  (refine aw_rd [0, 4] [160, 100000] (fun g : Nat × Nat × List Dd => [(3, .g (.one (.sl 96 g.2.1 g.2.2.length))), (5, vI g.1)]) (fun g => [(96, (g.2.1, dRow g.2.2))]) (fun g => g.1 ≤ ds.length ∧ g.2.2 = wrt (ds.take g.1)) (fun g => ds.length - g.1) (0, 0, []) (by rfl) (by rfl) ?_ (by rfl) zHE zHE ?_)
  · exact ⟨Nat.zero_le _, rfl⟩
  rintro ⟨k, u, o⟩ ⟨h1, h2⟩
  dsimp only at h1 h2 ⊢
  rcases Nat.lt_or_ge k ds.length with h5 | h5
  · have hd : decide ((k : Int) < (ds.length : Int)) = true := decide_eq_true (by omega)
    have hol := wrt_len ds k
    rw [← h2] at hol
    have hsn := wrt_snoc h5
    rw [← h2] at hsn
    have ht : dT (ds.getD k Cel.no) = dtx (ds.getD (k : Int).toNat Cel.no).k (ds.getD (k : Int).toNat Cel.no).n (ds.getD (k : Int).toNat Cel.no).p := rfl
    cases hb : (dT (ds.getD k Cel.no) == []) with
    | true =>
      rw [hb, if_pos rfl] at hsn
      rw [ht] at hb
      have hb2 : (!(dtx (ds.getD (k : Int).toNat Cel.no).k (ds.getD (k : Int).toNat Cel.no).n (ds.getD (k : Int).toNat Cel.no).p == [])) = false := by rw [hb]; rfl
      have hinv : k + 1 ≤ ds.length ∧ o = wrt (ds.take (k + 1)) := ⟨h5, hsn.symm⟩
      clear h2 hsn ht hb
      (repeat (first | refine gq_DU ?_ | (refine ga0A ?_; intro _hq)))
      exact ⟨(k + 1, u, o), hinv, ⟨by rfl, zHE, zHE⟩, (by first | omega | (dsimp only; omega))⟩
    | false =>
      rw [hb, if_neg (by decide)] at hsn
      rw [ht] at hb
      have hb2 : (!(dtx (ds.getD (k : Int).toNat Cel.no).k (ds.getD (k : Int).toNat Cel.no).n (ds.getD (k : Int).toNat Cel.no).p == [])) = true := by rw [hb]; rfl
      have hinv : k + 1 ≤ ds.length ∧ o ++ [ds.getD (k : Int).toNat Cel.no] = wrt (ds.take (k + 1)) := ⟨h5, hsn.symm⟩
      clear h2 hsn ht hb
      (repeat (first | refine gq_DU ?_ | (refine ga0A ?_; intro _hq)))
      exact ⟨(k + 1, u + 1, o ++ [ds.getD (k : Int).toNat Cel.no]), hinv, ⟨by rfl, zHE, zHE⟩, (by first | omega | (dsimp only; omega))⟩
  · have hd : decide ((k : Int) < (ds.length : Int)) = false := decide_eq_false (by omega)
    obtain rfl : k = ds.length := by omega
    rw [List.take_length] at h2
    rw [← h2]
    clear h2
    (repeat (first | refine gq_DU ?_ | (refine ga0A ?_; intro _hq)))
    (refine rtA ?_; try rfl)
end Go.Proofs.YtnenhckongccgaaGreatDoor
