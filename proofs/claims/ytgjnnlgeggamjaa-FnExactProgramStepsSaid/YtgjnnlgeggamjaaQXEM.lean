/- TRK: laid into one text. -/
import Derived.Test.YtgjnnlgeggamjaaQXEE
import Derived.Test.YtgjnnlgeggamjaaQXEL

namespace Go.Proofs.Ytgjnnlgeggamjaa
set_option linter.unusedVariables false
set_option linter.unusedSimpArgs false
set_option maxRecDepth 20000
open Go.RowKit
attribute [local irreducible] runA runX AW
def wsTP : WsT := [(63, ([0], true)), (62, ([0], true)), (73, ([0], true)), (61, ([0], true)), (40, ([0], true)), (49, ([0], true))] ++ wsT
theorem gq_TRK {H G : Prop} (k : H) (h : Hid H → G := by (intro hh; repeat1' (first | (first | (refine nxA ?_; (first | fail | ((first | (refine z_op (by rfl) ?_; first | refine z_ok ?_ ?_ | refine z_ex ?_ (by first | exact zL1 | ((first | (first | refine mk_0 Gt rfl rfl ?_ | refine mk_c Gt rfl rfl rfl ?_)); exact zWW) | exact zL2 | (first | exact rw_c Gt rfl | exact rw_c Int rfl) | exact zL3 | fail) ?_) | ((first | refine q_callE wsTP wsZ (by rfl) ?_ | refine q_callVE wsTP (by rfl) (by rfl) ?_); refine ⟨_, _, _, (by first | assumption | exact k_pick _ _ _ (by omega) | exact k_odd _ _ _ (by omega) | exact k_open _ (by omega)), _, by rfl, ?_, ?_⟩)); focus (first | exact trivial | fail | exact zQZ)) | fail)) | refine swA ?_) | refine awA ?_); exact hh.out)) : G := h ⟨k⟩
abbrev PL (l : List UInt8) (c : Int) (x : Gt × Int) : Prop := (c ≤ x.2 ∧ x.2 ≤ c + 3) ∧ Kon Try.prog 73 [p0] [rdE l c] (lV x.1.k x.1.a x.1.b x.1.c) [] [rdE l x.2]
theorem ex_plain (l : List UInt8) (c : Int) (h : 0 ≤ c ∧ c ≤ 900000 ∧ l.length ≤ 2000) : ∃ x, PL l c x := by
  obtain ⟨a, _, ha, hA⟩ := ex_pick l c 3 (by omega)
  obtain ⟨q, _, hq, hQ⟩ := ex_pick l (c + 1) 4 (by omega)
  have ha' := ha (by decide)
  have hq' := hq (by decide)
  have hc : q = 0 ∨ q = 1 ∨ q = 2 ∨ q = 3 := by omega
  rcases hc with rfl | rfl | rfl | rfl
  · obtain ⟨m, _, hm, hM⟩ := ex_pick l (c + 1 + 1) 64 (by omega)
    have hm' := hm (by decide)
    refine ⟨(⟨2, a, 0, m⟩, c + 1 + 1 + 1), ⟨by dsimp only; omega, by dsimp only; omega⟩, ?_⟩
    dsimp only
    (refine kM Try.func73 rfl ?_; intro hfit hfe)
    (repeat (first | refine gq_TRK ?_ | (refine ga0A ?_; intro _hq)))
    (refine rtA ?_; try rfl)
  · obtain ⟨m, _, hm, hM⟩ := ex_pick l (c + 1 + 1) 2 (by omega)
    have hm' := hm (by decide)
    refine ⟨(⟨3, a, (a + 1 + m) % 3, 0⟩, c + 1 + 1 + 1), ⟨by dsimp only; omega, by dsimp only; omega⟩, ?_⟩
    dsimp only
    (refine kM Try.func73 rfl ?_; intro hfit hfe)
    (repeat (first | refine gq_TRK ?_ | (refine ga0A ?_; intro _hq)))
    (refine rtA ?_; try rfl)
  · obtain ⟨m, _, hm, hM⟩ := ex_pick l (c + 1 + 1) 2 (by omega)
    have hm' := hm (by decide)
    refine ⟨(⟨1, a, (a + 1 + m) % 3, 0⟩, c + 1 + 1 + 1), ⟨by dsimp only; omega, by dsimp only; omega⟩, ?_⟩
    dsimp only
    (refine kM Try.func73 rfl ?_; intro hfit hfe)
    (repeat (first | refine gq_TRK ?_ | (refine ga0A ?_; intro _hq)))
    (refine rtA ?_; try rfl)
  · obtain ⟨m, _, hm, hM⟩ := ex_pick l (c + 1 + 1) 3 (by omega)
    have hm' := hm (by decide)
    refine ⟨(⟨0, a, (a + 1 + m) % 4, 0⟩, c + 1 + 1 + 1), ⟨by dsimp only; omega, by dsimp only; omega⟩, ?_⟩
    dsimp only
    (refine kM Try.func73 rfl ?_; intro hfit hfe)
    (repeat (first | refine gq_TRK ?_ | (refine ga0A ?_; intro _hq)))
    (refine rtA ?_; try rfl)
open Classical in
noncomputable def plF (l : List UInt8) (c : Int) : Gt × Int := if h : 0 ≤ c ∧ c ≤ 900000 ∧ l.length ≤ 2000 then Classical.choose (ex_plain l c h) else (gz, c)
theorem plF_ok (l : List UInt8) (c : Int) (h : 0 ≤ c ∧ c ≤ 900000 ∧ l.length ≤ 2000) : PL l c (plF l c) := by
  unfold plF
  rw [dif_pos h]
  exact Classical.choose_spec (ex_plain l c h)
abbrev DS := List Gt × Int
def itD (f : DS → DS) : Nat → DS → DS
  | 0, x => x
  | n + 1, x => f (itD f n x)
noncomputable def rd0 (l : List UInt8) (x : DS) : DS := (x.1 ++ [(plF l x.2).1], (plF l x.2).2)
noncomputable def rdD (l : List UInt8) (P : Int → DS) (x : DS) : DS :=
  cond (pickI l x.2 3 == 0) (x.1 ++ [⟨4, 0, 0, pickI l (x.2 + 1) 4⟩] ++ (P (x.2 + 1 + 1)).1 ++ [⟨5, 0, 0, 0⟩], (P (x.2 + 1 + 1)).2)
    (cond (pickI l (x.2 + 1) 3 == 0) (x.1 ++ [⟨6, pickI l (x.2 + 1 + 1) 3, 0, pickI l (x.2 + 1 + 1 + 1) 3⟩] ++ (P (x.2 + 1 + 1 + 1 + 1)).1 ++ [⟨7, 0, 0, 0⟩] ++ (P (P (x.2 + 1 + 1 + 1 + 1)).2).1 ++ [⟨2, 3, 0, 1⟩, ⟨8, 3, 0, 1⟩], (P (P (x.2 + 1 + 1 + 1 + 1)).2).2)
      (x.1 ++ [(plF l (x.2 + 1 + 1)).1], (plF l (x.2 + 1 + 1)).2))
abbrev PT (l : List UInt8) (dd : Int) (N M : Int) (c : Int) (y : DS) : Prop := (c ≤ y.2 ∧ y.2 ≤ c + M) ∧ (y.1.length : Int) ≤ N ∧ Kon Try.prog 61 [p0, vI dd] [rdE l c] (slA 0 0 y.1) [rwE 47 y.1] [rdE l y.2]
theorem part0 (l : List UInt8) (c : Int) (h : 0 ≤ c ∧ c ≤ 800000 ∧ l.length ≤ 2000) : ∃ y, PT l 0 2 7 c y := by
  have h2 := pickI_lt (l := l) (c := c) (n := 2) (by omega)
  obtain ⟨m, hm⟩ : ∃ m : Nat, 1 + pickI l c 2 = (m : Int) := ⟨(1 + pickI l c 2).toNat, by omega⟩
  have hb : ∀ i : Nat, i ≤ 2 → (itD (rd0 l) i ([], c + 1)).1.length = i ∧ c + 1 ≤ (itD (rd0 l) i ([], c + 1)).2 ∧ (itD (rd0 l) i ([], c + 1)).2 ≤ c + 1 + 3 * (i : Int) := by
    intro i
    induction i with
    | zero => intro _; exact ⟨rfl, by simp [itD]⟩
    | succ i ih =>
      intro hi
      obtain ⟨a1, a2, a3⟩ := ih (by omega)
      have := (plF_ok l (itD (rd0 l) i ([], c + 1)).2 (by omega)).1
      rw [itD, rd0]
      refine ⟨by simp [a1], by dsimp only; omega, by dsimp only; omega⟩
  obtain ⟨g1, g2, g3⟩ := hb m (by omega)
  refine ⟨itD (rd0 l) m ([], c + 1), by omega, by omega, ?_⟩
  clear g1 g2 g3
  (refine kM Try.func61 rfl ?_; intro hfit hfe)
  (repeat (first | refine gq_TRK ?_ | (refine ga0A ?_; intro _hq)))
  rw [hm]
  (refine aw_rd [0, 1] [] (fun i : Nat × Nat × Int => [(5, .g (.one (.sl 112 i.2.1 (itD (rd0 l) i.1 ([], c + 1)).1.length))), (6, vI i.2.2)]) (fun i => [(112, (i.2.1, rwE 47 (itD (rd0 l) i.1 ([], c + 1)).1)), (100000, (0, rdE l (itD (rd0 l) i.1 ([], c + 1)).2))]) (fun i => i.1 ≤ m ∧ i.2.2 = (m : Int) - (i.1 : Int)) (fun i => m - i.1) (0, 0, (m : Int)) (by rfl) (by rfl) ?_ (by rfl) zHE zHE ?_)
  · exact ⟨Nat.zero_le _, by simp⟩
  rintro ⟨i, u, j⟩ ⟨hi, hj⟩
  dsimp only at hi hj
  obtain ⟨g1, g2, g3⟩ := hb i (by omega)
  have hs : itD (rd0 l) (i + 1) ([], c + 1) = rd0 l (itD (rd0 l) i ([], c + 1)) := rfl
  dsimp only
  rcases Nat.lt_or_ge i m with h5 | h5
  · have hd : decide (j > 0) = true := decide_eq_true (by omega)
    generalize itD (rd0 l) i ([], c + 1) = x at *
    obtain ⟨ss, c1⟩ := x
    rw [rd0] at hs
    dsimp only at g1 g2 g3 hs ⊢
    have hP := plF_ok l c1 (by omega)
    obtain ⟨_, hP⟩ := hP
    (repeat (first | refine gq_TRK ?_ | (refine ga0A ?_; intro _hq)))
    refine ⟨(i + 1, u + 1, j - 1), ⟨h5, (by dsimp only; omega)⟩, ?_, (by first | omega | (dsimp only; omega))⟩
    dsimp only
    rw [hs]
    exact ⟨by rfl, ⟨by rfl, zHE⟩, zHE⟩
  · have hd : decide (j > 0) = false := decide_eq_false (by omega)
    obtain rfl : i = m := by omega
    (repeat (first | refine gq_TRK ?_ | (refine ga0A ?_; intro _hq)))
    (refine rtA ?_; try rfl)
theorem rdD_bd (l : List UInt8) (P : Int → DS) (N M C : Int) (hN : 0 ≤ N) (hM : 0 ≤ M) (hC : C ≤ 800000) (hl : l.length ≤ 2000) (hP : ∀ c, 0 ≤ c → c ≤ C → (c ≤ (P c).2 ∧ (P c).2 ≤ c + M) ∧ ((P c).1.length : Int) ≤ N) (x : DS) (h0 : 0 ≤ x.2) (h1 : x.2 + 4 + M ≤ C) :
    ((rdD l P x).1.length : Int) ≤ x.1.length + (4 + 2 * N) ∧ x.2 ≤ (rdD l P x).2 ∧ (rdD l P x).2 ≤ x.2 + (5 + 2 * M) := by
  unfold rdD
  have e1 := hP (x.2 + 1 + 1) (by omega) (by omega)
  have e2 := hP (x.2 + 1 + 1 + 1 + 1) (by omega) (by omega)
  have e3 := hP (P (x.2 + 1 + 1 + 1 + 1)).2 (by omega) (by omega)
  have e4 := (plF_ok l (x.2 + 1 + 1) (by omega)).1
  cases (pickI l x.2 3 == 0) with
  | true =>
    refine ⟨?_, ?_, ?_⟩
    · simp only [cond_true, List.length_append, List.length_cons, List.length_nil]; omega
    · simp only [cond_true]; omega
    · simp only [cond_true]; omega
  | false =>
    cases (pickI l (x.2 + 1) 3 == 0) with
    | true =>
      refine ⟨?_, ?_, ?_⟩
      · simp only [cond_true, cond_false, List.length_append, List.length_cons, List.length_nil]; omega
      · simp only [cond_true, cond_false]; omega
      · simp only [cond_true, cond_false]; omega
    | false =>
      refine ⟨?_, ?_, ?_⟩
      · simp only [cond_true, cond_false, List.length_append, List.length_cons, List.length_nil]; omega
      · simp only [cond_true, cond_false]; omega
      · simp only [cond_true, cond_false]; omega
set_option maxHeartbeats 8000000 in
theorem partD (l : List UInt8) (dd N M C : Int) (hdd : 0 < dd ∧ dd ≤ 10) (hN : 0 ≤ N ∧ N ≤ 1000) (hM : 0 ≤ M ∧ M ≤ 1000) (hC : C ≤ 800000) (hl : l.length ≤ 2000) (P : Int → DS) (hP : ∀ c, 0 ≤ c → c ≤ C → PT l (dd - 1) N M c (P c)) (c : Int) (h : 0 ≤ c ∧ c + 30 + 5 * M ≤ C) : ∃ y, PT l dd (8 + 4 * N) (11 + 4 * M) c y := by
  have h2 := pickI_lt (l := l) (c := c) (n := 2) (by omega)
  obtain ⟨m, hm⟩ : ∃ m : Nat, 1 + pickI l c 2 = (m : Int) := ⟨(1 + pickI l c 2).toNat, by omega⟩
  have hP1 := fun c h1 h2 => (⟨(hP c h1 h2).1, (hP c h1 h2).2.1⟩ : (c ≤ (P c).2 ∧ (P c).2 ≤ c + M) ∧ ((P c).1.length : Int) ≤ N)
  have hb : ∀ i : Nat, i ≤ 2 → ((itD (rdD l P) i ([], c + 1)).1.length : Int) ≤ i * (4 + 2 * N) ∧ c + 1 ≤ (itD (rdD l P) i ([], c + 1)).2 ∧ (itD (rdD l P) i ([], c + 1)).2 ≤ c + 1 + i * (5 + 2 * M) := by
    intro i hi
    have b0 : ((itD (rdD l P) 0 ([], c + 1)).1.length : Int) ≤ 0 ∧ c + 1 ≤ (itD (rdD l P) 0 ([], c + 1)).2 ∧ (itD (rdD l P) 0 ([], c + 1)).2 ≤ c + 1 := by simp [itD]
    have b1 := rdD_bd l P N M C hN.1 hM.1 hC hl hP1 (itD (rdD l P) 0 ([], c + 1)) (by omega) (by omega)
    have b2 := rdD_bd l P N M C hN.1 hM.1 hC hl hP1 (itD (rdD l P) 1 ([], c + 1)) (by rw [show itD (rdD l P) 1 ([], c + 1) = rdD l P (itD (rdD l P) 0 ([], c + 1)) from rfl]; omega) (by rw [show itD (rdD l P) 1 ([], c + 1) = rdD l P (itD (rdD l P) 0 ([], c + 1)) from rfl]; omega)
    have h3 : i = 0 ∨ i = 1 ∨ i = 2 := by omega
    rcases h3 with rfl | rfl | rfl
    · simp only [Int.natCast_zero, Int.zero_mul, Int.add_zero]; exact b0
    · rw [show itD (rdD l P) 1 ([], c + 1) = rdD l P (itD (rdD l P) 0 ([], c + 1)) from rfl]; omega
    · rw [show itD (rdD l P) 1 ([], c + 1) = rdD l P (itD (rdD l P) 0 ([], c + 1)) from rfl] at b2
      rw [show itD (rdD l P) 2 ([], c + 1) = rdD l P (rdD l P (itD (rdD l P) 0 ([], c + 1))) from rfl]; omega
  obtain ⟨g1, g2, g3⟩ := hb m (by omega)
  have hmc : m = 1 ∨ m = 2 := by omega
  refine ⟨itD (rdD l P) m ([], c + 1), by rcases hmc with rfl | rfl <;> omega, by rcases hmc with rfl | rfl <;> omega, ?_⟩
  clear g1 g2 g3 hmc
  have hdp : decide (dd > 0) = true := decide_eq_true (by omega)
  (refine kM Try.func61 rfl ?_; intro hfit hfe)
  (repeat (first | refine gq_TRK ?_ | (refine ga0A ?_; intro _hq)))
  rw [hm]
  (refine aw_rd [0, 1] [] (fun i : Nat × Nat × Int => [(5, .g (.one (.sl 112 i.2.1 (itD (rdD l P) i.1 ([], c + 1)).1.length))), (6, vI i.2.2)]) (fun i => [(112, (i.2.1, rwE 47 (itD (rdD l P) i.1 ([], c + 1)).1)), (100000, (0, rdE l (itD (rdD l P) i.1 ([], c + 1)).2))]) (fun i => i.1 ≤ m ∧ i.2.2 = (m : Int) - (i.1 : Int)) (fun i => m - i.1) (0, 0, (m : Int)) (by rfl) (by rfl) ?_ (by rfl) zHE zHE ?_)
  · exact ⟨Nat.zero_le _, by simp⟩
  rintro ⟨i, u, j⟩ ⟨hi, hj⟩
  dsimp only at hi hj
  obtain ⟨g1, g2, g3⟩ := hb i (by omega)
  have hic : i = 0 ∨ i = 1 ∨ i = 2 := by omega
  have hs : itD (rdD l P) (i + 1) ([], c + 1) = rdD l P (itD (rdD l P) i ([], c + 1)) := rfl
  have g4 : ((itD (rdD l P) i ([], c + 1)).1.length : Int) ≤ 10000 := by rcases hic with rfl | rfl | rfl <;> omega
  have g5 : (itD (rdD l P) i ([], c + 1)).2 ≤ c + 1 + 5 + 2 * M ∨ i = m := by rcases hic with rfl | rfl | rfl <;> omega
  clear g1 g3 hb hic
  dsimp only
  rcases Nat.lt_or_ge i m with h5 | h5
  · have hd : decide (j > 0) = true := decide_eq_true (by omega)
    generalize itD (rdD l P) i ([], c + 1) = x at *
    obtain ⟨ss, c1⟩ := x
    rw [rdD] at hs
    dsimp only at g2 g4 g5 hs ⊢
    have g6 : 0 ≤ c1 ∧ c1 + 4 + M ≤ C := by omega
    have p0' := pickI_lt (l := l) (c := c1) (n := 3) (by omega)
    obtain ⟨y1, y2, hY⟩ := hP (c1 + 1 + 1) (by omega) (by omega)
    obtain ⟨z1, z2, hZ⟩ := hP (c1 + 1 + 1 + 1 + 1) (by omega) (by omega)
    obtain ⟨w1, w2, hW⟩ := hP (P (c1 + 1 + 1 + 1 + 1)).2 (by omega) (by omega)
    obtain ⟨_, hL⟩ := plF_ok l (c1 + 1 + 1) (by omega)
    clear hP hP1 g5
    generalize P (c1 + 1 + 1) = Y at *
    generalize P (c1 + 1 + 1 + 1 + 1) = Z at *
    generalize P Z.2 = W at *
    cases d0 : (pickI l c1 3 == 0) with
    | true =>
      rw [d0, cond_true] at hs
      (repeat (first | refine gq_TRK ?_ | (refine ga0A ?_; intro _hq)))
      refine ⟨(i + 1, u + 1 + 1 + 1, j - 1), ⟨h5, (by dsimp only; omega)⟩, ?_, (by first | omega | (dsimp only; omega))⟩
      dsimp only
      rw [hs]
      exact ⟨by rfl, ⟨by rfl, zHE⟩, zHE⟩
    | false =>
      rw [d0, cond_false] at hs
      cases d1 : (pickI l (c1 + 1) 3 == 0) with
      | true =>
        rw [d1, cond_true] at hs
        (repeat (first | refine gq_TRK ?_ | (refine ga0A ?_; intro _hq)))
        refine ⟨(i + 1, u + 1 + 1 + 1 + 1 + 1, j - 1), ⟨h5, (by dsimp only; omega)⟩, ?_, (by first | omega | (dsimp only; omega))⟩
        dsimp only
        rw [hs]
        exact ⟨by rfl, ⟨by rfl, zHE⟩, zHE⟩
      | false =>
        rw [d1, cond_false] at hs
        (repeat (first | refine gq_TRK ?_ | (refine ga0A ?_; intro _hq)))
        refine ⟨(i + 1, u + 1, j - 1), ⟨h5, (by dsimp only; omega)⟩, ?_, (by first | omega | (dsimp only; omega))⟩
        dsimp only
        rw [hs]
        exact ⟨by rfl, ⟨by rfl, zHE⟩, zHE⟩
  · have hd : decide (j > 0) = false := decide_eq_false (by omega)
    obtain rfl : i = m := by omega
    (repeat (first | refine gq_TRK ?_ | (refine ga0A ?_; intro _hq)))
    (refine rtA ?_; try rfl)
end Go.Proofs.Ytgjnnlgeggamjaa
