/- KGQ: laid into one text. -/
import Derived.Test.YtfbcblknahicdaaQXFU
import Derived.Test.YtfbcblknahicdaaQXFX

namespace Go.Proofs.Ytfbcblknahicdaa
set_option linter.unusedVariables false
set_option linter.unusedSimpArgs false
set_option maxRecDepth 20000
open Go.RowKit
attribute [local irreducible] runA runX AW
theorem gq_KGQ {H G : Prop} (k : H) (h : Hid H → G := by (intro hh; repeat1' (first | (first | (refine nxA ?_; (first | fail | ((first | (refine z_op (by rfl) ?_; first | refine z_ok ?_ ?_ | refine z_ex ?_ (by first | exact zL1 | ((first | fail); exact zWW) | exact zL2 | exact rw_c Gt rfl | exact zL3 | fail) ?_) | ((first | refine q_callE wsT wsZ (by rfl) ?_ | refine q_callVE wsT (by rfl) (by rfl) ?_); refine ⟨_, _, _, (by first | assumption | exact k_pick _ _ _ (by omega) | exact k_odd0 _ _ _ (by omega) | exact k_odd _ _ _ (by omega)), _, by rfl, ?_, ?_⟩)); focus (first | exact trivial | fail | exact zQZ)) | fail)) | refine swA ?_) | refine awA ?_); exact hh.out)) : G := h ⟨k⟩
def nE (n : Int) : Int := if 8 < (if 1 > n then 1 else n) then 8 else (if 1 > n then 1 else n)
theorem nE_bd (n : Int) : 1 ≤ nE n ∧ nE n ≤ 8 := by unfold nE; omega
def gnM (n : Int) : Nat := if (3 : Int) > nE n then 3 else (nE n).toNat
theorem gnM_eq (n : Int) : (if (3 : Int) > nE n then 3 else nE n) = (gnM n : Int) := by
  have h := nE_bd n
  unfold gnM
  split <;> omega
theorem gnM_bd (n : Int) : 3 ≤ gnM n ∧ gnM n ≤ 8 := by
  have h := nE_bd n
  unfold gnM
  split <;> omega
def gNx (l : List UInt8) (n : Int) (c : Int) : Gt × Int := gtN l c (nE n) 0 (gnM n)
theorem k_gNx (l : List UInt8) (n c : Int) (h : 0 ≤ c ∧ c ≤ 100000 ∧ l.length ≤ 2000) : Kon Try.prog 42 [p0, vI (nE n), vI 0] [rdE l c] (gV (gNx l n c).1) [] [rdE l (gNx l n c).2] :=
  k_gate l c (nE n) 0 (gnM n) (gnM_eq n) (nE_bd n) h (by omega)
theorem gNx_bd (l : List UInt8) (n c : Int) : gbd (gNx l n c) c 20 := gtN_bd l c (nE n) 0 (gnM n) (nE_bd n) (gnM_bd n)
def ciS (l : List UInt8) (n : Int) (x : List Gt × Int) : List Gt × Int :=
  bif decide ((x.1.length : Int) > 0) then (bif pickI l (gNx l n x.2).2 4 == 0 then (x.1 ++ [x.1.getD (pickI l ((gNx l n x.2).2 + 1) x.1.length).toNat Cel.no], (gNx l n x.2).2 + 1 + 1) else (x.1 ++ [(gNx l n x.2).1], (gNx l n x.2).2 + 1))
  else (x.1 ++ [(gNx l n x.2).1], (gNx l n x.2).2)
def ciN (l : List UInt8) (n c : Int) : Nat → List Gt × Int
  | 0 => ([], c)
  | i + 1 => ciS l n (ciN l n c i)
def gtb (g : Gt) : Prop := (-1 ≤ g.k ∧ g.k ≤ 9) ∧ (-1 ≤ g.a ∧ g.a ≤ 8) ∧ (-1 ≤ g.b ∧ g.b ≤ 8) ∧ (-1 ≤ g.c ∧ g.c ≤ 8)
theorem ciS_bd (l : List UInt8) (n : Int) (x : List Gt × Int) (h : ∀ g ∈ x.1, gtb g) : (ciS l n x).1.length = x.1.length + 1 ∧ (∀ g ∈ (ciS l n x).1, gtb g) ∧ x.2 ≤ (ciS l n x).2 ∧ (ciS l n x).2 ≤ x.2 + 22 := by
  have hg := gNx_bd l n x.2
  unfold gbd at hg
  have hgb : gtb (gNx l n x.2).1 := by unfold gtb; omega
  have one : ∀ y : Gt, gtb y → ∀ g ∈ x.1 ++ [y], gtb g := fun y hy g hm => by
    rcases List.mem_append.1 hm with hm | hm
    · exact h g hm
    · rw [List.mem_singleton.1 hm]; exact hy
  unfold ciS
  cases hd : decide ((x.1.length : Int) > 0)
  · dsimp only [cond_false]
    refine ⟨by simp, one _ hgb, by omega, by omega⟩
  · dsimp only [cond_true]
    have hl : (x.1.length : Int) > 0 := of_decide_eq_true hd
    cases hp : (pickI l (gNx l n x.2).2 4 == 0)
    · dsimp only [cond_false]
      refine ⟨by simp, one _ hgb, by omega, by omega⟩
    · dsimp only [cond_true]
      refine ⟨by simp, one _ ?_, by omega, by omega⟩
      have hq := pickI_lt (l := l) (c := (gNx l n x.2).2 + 1) (n := (x.1.length : Int)) (by omega)
      have hi : (pickI l ((gNx l n x.2).2 + 1) x.1.length).toNat < x.1.length := by omega
      have e : x.1.getD (pickI l ((gNx l n x.2).2 + 1) x.1.length).toNat Cel.no = x.1[(pickI l ((gNx l n x.2).2 + 1) x.1.length).toNat] := by simp [List.getD_eq_getElem?_getD, hi]
      rw [e]
      exact h _ (List.getElem_mem hi)
theorem ciN_bd (l : List UInt8) (n c : Int) : ∀ i, (ciN l n c i).1.length = i ∧ (∀ g ∈ (ciN l n c i).1, gtb g) ∧ c ≤ (ciN l n c i).2 ∧ (ciN l n c i).2 ≤ c + 22 * (i : Int)
  | 0 => by
    refine ⟨rfl, fun g hg => ?_, ?_, ?_⟩
    · cases hg
    · exact Int.le_refl c
    · show c ≤ c + 22 * ((0 : Nat) : Int); omega
  | i + 1 => by
    obtain ⟨h1, h2, h3, h4⟩ := ciN_bd l n c i
    obtain ⟨q1, q2, q3, q4⟩ := ciS_bd l n _ h2
    exact ⟨by rw [ciN, q1, h1], q2, by rw [ciN]; omega, by rw [ciN]; omega⟩
def coN (l : List UInt8) (q : Int) (x : List Gt × Int) : List Gt × Int :=
  bif decide (q > 0) then (bif pickI l x.2 q == q - 1 then (bif pickI l (x.2 + 1) 2 == 0 then (x.1 ++ [⟨9, 0, 0, 0⟩], x.2 + 1 + 1) else (x.1 ++ List.replicate (25 - x.1.length) ⟨0, 0, 0, 0⟩, x.2 + 1 + 1)) else (x.1, x.2 + 1)) else x
theorem coN_bd (l : List UInt8) (q : Int) (x : List Gt × Int) (hl : x.1.length ≤ 30) (h : ∀ g ∈ x.1, gtb g) : (coN l q x).1.length ≤ 31 ∧ (∀ g ∈ (coN l q x).1, gtb g) ∧ x.2 ≤ (coN l q x).2 ∧ (coN l q x).2 ≤ x.2 + 2 := by
  have more : ∀ L : List Gt, (∀ y ∈ L, gtb y) → ∀ g ∈ x.1 ++ L, gtb g := fun L hL g hm => by
    rcases List.mem_append.1 hm with hm | hm
    · exact h g hm
    · exact hL g hm
  unfold coN
  cases decide (q > 0)
  · exact ⟨by dsimp only [cond_false]; omega, h, Int.le_refl _, by dsimp only [cond_false]; omega⟩
  cases (pickI l x.2 q == q - 1)
  · exact ⟨by dsimp only [cond_true, cond_false]; omega, h, by dsimp only [cond_true, cond_false]; omega, by dsimp only [cond_true, cond_false]; omega⟩
  cases (pickI l (x.2 + 1) 2 == 0)
  · dsimp only [cond_true, cond_false]
    refine ⟨by rw [List.length_append, List.length_replicate]; omega, more _ fun y hy => ?_, by omega, by omega⟩
    rw [List.eq_of_mem_replicate hy]; unfold gtb; decide
  · dsimp only [cond_true, cond_false]
    refine ⟨by simp; omega, more _ fun y hy => ?_, by omega, by omega⟩
    rw [List.mem_singleton.1 hy]; unfold gtb; decide
theorem ordN_nd (l : List UInt8) (c : Int) : ∀ k, (ordN l c k).Nodup
  | 0 => List.nodup_nil
  | k + 1 => by
    rw [ordN, List.append_assoc]
    refine (List.perm_middle (a := (k : Int))).nodup_iff.2 ?_
    change ((k : Int) :: (List.take (pickI l (c + (k : Int)) ((k : Int) + 1)).toNat (ordN l c k) ++ List.drop (pickI l (c + (k : Int)) ((k : Int) + 1)).toNat (ordN l c k))).Nodup
    rw [List.take_append_drop]
    exact List.nodup_cons.2 ⟨fun hm => by have := ordN_bd l c k _ hm; omega, ordN_nd l c k⟩
theorem ordN_ne (l : List UInt8) (c : Int) {k i j : Nat} (hij : i < j) (hj : j < k) : (ordN l c k).getD i 0 ≠ (ordN l c k).getD j 0 := by
  have hl := ordN_len l c k
  have h := List.pairwise_iff_getElem.1 (ordN_nd l c k) i j (by omega) (by omega) hij
  simpa [List.getD_eq_getElem?_getD, hl, hj, Nat.lt_trans hij hj] using h
theorem gtN_0 (l : List UInt8) (c n : Int) (M : Nat) : gtN l c n 0 M = gtE (gtD (gtC l n (gtB n (gtA l c M)))) := rfl
theorem gtN_ok (l : List UInt8) (c n : Int) (M : Nat) (hn : 1 ≤ n ∧ n ≤ 8) (hM : (if (3 : Int) > n then 3 else n) = (M : Int)) : gok n (gtN l c n 0 M).1 = true := by
  rw [gtN_0]
  by_cases h1 : n = 1
  · subst h1; rfl
  by_cases h2 : n = 2
  · subst h2
    have e : gtB 2 (gtA l c M) = gtA l c M := rfl
    rw [e]
    obtain ⟨g, c1⟩ := gtA l c M
    have p3 := pickI_lt (l := l) (c := c1) (n := 3) (by omega)
    have p2 := pickI_lt (l := l) (c := c1 + 1) (n := 2) (by omega)
    have e2 : gtC l 2 (g, c1) = (⟨([0, 1, 3] : List Int).getD (pickI l c1 3).toNat 0, pickI l (c1 + 1) 2, 1 - pickI l (c1 + 1) 2, 0⟩, c1 + 1 + 1) := rfl
    rw [e2]
    generalize pickI l c1 3 = x at *
    generalize pickI l (c1 + 1) 2 = y at *
    obtain rfl | rfl | rfl : x = 0 ∨ x = 1 ∨ x = 2 := by omega
    all_goals (obtain rfl | rfl : y = 0 ∨ y = 1 := by omega)
    all_goals rfl
  have b1 : (n == 1) = false := beq_eq_false_iff_ne.2 h1
  have b2 : (n == 2) = false := beq_eq_false_iff_ne.2 h2
  have hMn : (M : Int) = n := by rw [← hM]; split <;> omega
  have eB : gtB n (gtA l c M) = gtA l c M := by unfold gtB; rw [b1]; rfl
  have eC : gtC l n (gtA l c M) = gtA l c M := by unfold gtC; rw [b2]; rfl
  rw [eB, eC]
  have p5 := pickI_lt (l := l) (c := c + (M : Int)) (n := 5) (by omega)
  have a0 := ordN_at l c M 0 (by omega)
  have a1 := ordN_at l c M 1 (by omega)
  have a2 := ordN_at l c M 2 (by omega)
  have n1 := ordN_ne l c (k := M) (i := 0) (j := 1) (by omega) (by omega)
  have n2 := ordN_ne l c (k := M) (i := 0) (j := 2) (by omega) (by omega)
  have n3 := ordN_ne l c (k := M) (i := 1) (j := 2) (by omega) (by omega)
  unfold gtA
  generalize (ordN l c M).getD 0 0 = x at *
  generalize (ordN l c M).getD 1 0 = y at *
  generalize (ordN l c M).getD 2 0 = z at *
  generalize pickI l (c + (M : Int)) 5 = k at *
  have d1 : decide (n ≥ 1) = true := decide_eq_true (by omega)
  have d2 : decide (n ≤ 8) = true := decide_eq_true (by omega)
  have i1 : in8 n x = true := by unfold in8; rw [decide_eq_true (show 0 ≤ x by omega), decide_eq_true (show x < n by omega)]; rfl
  have i2 : in8 n y = true := by unfold in8; rw [decide_eq_true (show 0 ≤ y by omega), decide_eq_true (show y < n by omega)]; rfl
  have i3 : in8 n z = true := by unfold in8; rw [decide_eq_true (show 0 ≤ z by omega), decide_eq_true (show z < n by omega)]; rfl
  have q1 : (y != x) = true := bne_iff_ne.2 (fun e => n1 e.symm)
  have q2 : (z != x) = true := bne_iff_ne.2 (fun e => n2 e.symm)
  have q3 : (z != y) = true := bne_iff_ne.2 (fun e => n3 e.symm)
  clear n1 n2 n3 eB eC b1 b2 hM
  obtain rfl | rfl | rfl | rfl | rfl : k = 0 ∨ k = 1 ∨ k = 2 ∨ k = 3 ∨ k = 4 := by omega
  · show gok n ⟨0, x, 0, 0⟩ = true
    unfold gok okLn gokL; dsimp only; rw [d1, d2, if_pos rfl, i1]; rfl
  · show gok n ⟨1, x, y, 0⟩ = true
    unfold gok okLn gokL; dsimp only; rw [d1, d2, if_neg (by decide), if_pos (by decide), i1, i2, q1]; rfl
  · show gok n ⟨2, x, y, z⟩ = true
    unfold gok okLn gokL; dsimp only; rw [d1, d2, if_neg (by decide), if_neg (by decide), if_pos (by decide), i1, i2, i3, q1, q2, q3]; rfl
  · show gok n ⟨3, x, y, 0⟩ = true
    unfold gok okLn gokL; dsimp only; rw [d1, d2, if_neg (by decide), if_pos (by decide), i1, i2, q1]; rfl
  · show gok n ⟨4, x, y, z⟩ = true
    unfold gok okLn gokL; dsimp only; rw [d1, d2, if_neg (by decide), if_neg (by decide), if_pos (by decide), i1, i2, i3, q1, q2, q3]; rfl
theorem gNx_ok (l : List UInt8) (n c : Int) (hn : 1 ≤ n ∧ n ≤ 8) : gok n (gNx l n c).1 = true := by
  have e : nE n = n := by unfold nE; split <;> split <;> omega
  have h := gtN_ok l c (nE n) (gnM n) (nE_bd n) (gnM_eq n)
  unfold gNx
  rw [e] at h ⊢
  exact h
theorem ciN_ok (l : List UInt8) (n c : Int) (hn : 1 ≤ n ∧ n ≤ 8) : ∀ i, (ciN l n c i).1.all (gok n) = true
  | 0 => rfl
  | i + 1 => by
    have ih := ciN_ok l n c hn i
    rw [ciN]
    generalize ciN l n c i = x at ih
    have hg := gNx_ok l n x.2 hn
    have one : ∀ y : Gt, gok n y = true → (x.1 ++ [y]).all (gok n) = true := fun y hy => by rw [List.all_append, ih]; simp [hy]
    unfold ciS
    cases hd : decide ((x.1.length : Int) > 0)
    · exact one _ hg
    · cases hp : (pickI l (gNx l n x.2).2 4 == 0)
      · exact one _ hg
      · refine one _ ?_
        have hl : (x.1.length : Int) > 0 := of_decide_eq_true hd
        have hq := pickI_lt (l := l) (c := (gNx l n x.2).2 + 1) (n := (x.1.length : Int)) (by omega)
        have hi : (pickI l ((gNx l n x.2).2 + 1) x.1.length).toNat < x.1.length := by omega
        have e : x.1.getD (pickI l ((gNx l n x.2).2 + 1) x.1.length).toNat Cel.no = x.1[(pickI l ((gNx l n x.2).2 + 1) x.1.length).toNat] := by simp [List.getD_eq_getElem?_getD, hi]
        rw [e]
        exact List.all_eq_true.1 ih _ (List.getElem_mem hi)
set_option maxHeartbeats 4000000 in
theorem ex_circ2 (l : List UInt8) (c n most q : Int) (h : 0 ≤ c ∧ c ≤ 90000 ∧ l.length ≤ 2000) (hm : 0 ≤ most ∧ most ≤ 30) (hq : q ≤ 1000) : ∃ (cs : List Gt) (c' : Int), cs.length ≤ 31 ∧ (∀ g ∈ cs, gtb g) ∧ (c ≤ c' ∧ c' ≤ c + 700) ∧ (q ≤ 0 → (cs.length : Int) ≤ most ∧ (1 ≤ n ∧ n ≤ 8 → cs.all (gok n) = true)) ∧ Kon Try.prog 36 [p0, vI n, vI most, vI q] [rdE l c] (slA 0 0 cs) [gRow cs] [rdE l c'] := by
  obtain ⟨m, hmm⟩ : ∃ m : Nat, pickI l c (most + 1) = (m : Int) := ⟨(pickI l c (most + 1)).toNat, by have := pickI_lt (l := l) (c := c) (n := most + 1) (by omega); omega⟩
  obtain ⟨d1, d2, d3, d4⟩ := ciN_bd l n (c + 1) m
  have hpm0 := pickI_lt (l := l) (c := c) (n := most + 1) (by omega)
  obtain ⟨cs', c', hr, x1, x2, x3⟩ : ∃ cs' c', coN l q (ciN l n (c + 1) m) = (cs', c') ∧ cs'.length ≤ 31 ∧ (∀ g ∈ cs', gtb g) ∧ (c ≤ c' ∧ c' ≤ c + 700) := by
    have := coN_bd l q (ciN l n (c + 1) m) (by omega) d2
    have t3 := this.2.2.1
    have t4 := this.2.2.2
    exact ⟨(coN l q (ciN l n (c + 1) m)).1, (coN l q (ciN l n (c + 1) m)).2, rfl, this.1, this.2.1, by omega⟩
  refine ⟨cs', c', x1, x2, x3, fun hq0 => ?_, ?_⟩
  · have e : coN l q (ciN l n (c + 1) m) = ciN l n (c + 1) m := by unfold coN; rw [decide_eq_false (show ¬ q > 0 by omega)]; rfl
    rw [e] at hr
    have e1 : cs' = (ciN l n (c + 1) m).1 := by rw [hr]
    rw [e1]
    exact ⟨by omega, fun hn => ciN_ok l n (c + 1) hn m⟩
  have hpm := pickI_lt (l := l) (c := c) (n := most + 1) (by omega)
  (refine kM Try.func36 rfl ?_; intro hfit hfe)
  (repeat (first | refine gq_KGQ ?_ | (refine ga0A ?_; intro _hq)))
  rw [hmm]
  have e0 : (ciN l n (c + 1) 0).2 = c + 1 := rfl
  refine aw_rd [0, 1, 2, 3] [] (fun i : Nat => [(9, .g (.one (.sl 192 i i))), (10, vI ((m : Int) - i))]) (fun i => [(192, (i, gRow (ciN l n (c + 1) i).1)), (100000, (0, rdE l (ciN l n (c + 1) i).2))]) (fun i => i ≤ m) (fun i => m - i) 0 (by rfl) (by rfl) ?_ (by rfl) ⟨by rfl, vI_of (by rfl) (by omega), zHE⟩ ⟨by rfl, by rfl, trivial⟩ ?_
  · exact Nat.zero_le _
  rintro i hi
  obtain ⟨b1, b2, b3, b4⟩ := ciN_bd l n (c + 1) i
  rcases hx : ciN l n (c + 1) i with ⟨cs, c1⟩
  rw [hx] at b1 b2 b3 b4
  dsimp only at b1 b2 b3 b4 ⊢
  rcases Nat.lt_or_ge i m with h5 | h5
  · have hd : decide ((m : Int) - (i : Int) > 0) = true := decide_eq_true (by omega)
    have hG := k_gNx l n c1 (by omega)
    subst b1
    have hpos : ∀ w : Int, (cs.length : Int) > 0 → 0 ≤ pickI l w cs.length ∧ pickI l w cs.length < cs.length := fun w hw => pickI_lt (by omega)
    have hgb := gNx_bd l n c1
    unfold gbd at hgb
    cases d0 : decide ((cs.length : Int) > 0) with
    | false =>
      have hn : ciN l n (c + 1) (cs.length + 1) = (cs ++ [(gNx l n c1).1], (gNx l n c1).2) := by rw [ciN, hx, ciS]; dsimp only; rw [d0]; rfl
      (repeat (first | refine gq_KGQ ?_ | (refine ga0A ?_; intro _hq)))
      exact ⟨cs.length + 1, h5, ⟨by rfl, ⟨Eq.trans (b := some (.g (.one (.sl 192 (cs.length + 1) (cs ++ [(gNx l n c1).1]).length)))) (by rfl) (by rw [List.length_append]; rfl), vI_of (by rfl) (by omega), zHE⟩, ⟨Eq.trans (b := some (cs.length + 1, gRow (cs ++ [(gNx l n c1).1]))) (by rfl) (by rw [hn]), Eq.trans (b := some (0, rdE l (gNx l n c1).2)) (by rfl) (by rw [hn]), trivial⟩⟩, (by first | omega | (dsimp only; omega))⟩
    | true =>
      have hq4 := pickI_lt (l := l) (c := (gNx l n c1).2) (n := 4) (by omega)
      cases d1 : (pickI l (gNx l n c1).2 4 == 0) with
      | false =>
        have hn : ciN l n (c + 1) (cs.length + 1) = (cs ++ [(gNx l n c1).1], (gNx l n c1).2 + 1) := by rw [ciN, hx, ciS]; dsimp only; rw [d0]; dsimp only [cond_true]; rw [d1]; rfl
        (repeat (first | refine gq_KGQ ?_ | (refine ga0A ?_; intro _hq)))
        exact ⟨cs.length + 1, h5, ⟨by rfl, ⟨Eq.trans (b := some (.g (.one (.sl 192 (cs.length + 1) (cs ++ [(gNx l n c1).1]).length)))) (by rfl) (by rw [List.length_append]; rfl), vI_of (by rfl) (by omega), zHE⟩, ⟨Eq.trans (b := some (cs.length + 1, gRow (cs ++ [(gNx l n c1).1]))) (by rfl) (by rw [hn]), Eq.trans (b := some (0, rdE l ((gNx l n c1).2 + 1))) (by rfl) (by rw [hn]), trivial⟩⟩, (by first | omega | (dsimp only; omega))⟩
      | true =>
        have hn : ciN l n (c + 1) (cs.length + 1) = (cs ++ [cs.getD (pickI l ((gNx l n c1).2 + 1) cs.length).toNat Cel.no], (gNx l n c1).2 + 1 + 1) := by rw [ciN, hx, ciS]; dsimp only; rw [d0]; dsimp only [cond_true]; rw [d1]; rfl
        have hp1 := hpos ((gNx l n c1).2 + 1) (of_decide_eq_true d0)
        (repeat (first | refine gq_KGQ ?_ | (refine ga0A ?_; intro _hq)))
        exact ⟨cs.length + 1, h5, ⟨by rfl, ⟨Eq.trans (b := some (.g (.one (.sl 192 (cs.length + 1) (cs ++ [(cs.getD (pickI l ((gNx l n c1).2 + 1) cs.length).toNat Cel.no)]).length)))) (by rfl) (by rw [List.length_append]; rfl), vI_of (by rfl) (by omega), zHE⟩, ⟨Eq.trans (b := some (cs.length + 1, gRow (cs ++ [(cs.getD (pickI l ((gNx l n c1).2 + 1) cs.length).toNat Cel.no)]))) (by rfl) (by rw [hn]), Eq.trans (b := some (0, rdE l ((gNx l n c1).2 + 1 + 1))) (by rfl) (by rw [hn]), trivial⟩⟩, (by first | omega | (dsimp only; omega))⟩
  · have hd : decide ((m : Int) - (i : Int) > 0) = false := decide_eq_false (by omega)
    obtain rfl : i = m := by omega
    rw [hx] at hr
    subst b1
    have hcl : (cV cs).length = cs.length * Cel.sz Gt := cV_len cs
    cases q0 : decide (q > 0) with
    | false =>
      have hq1 : q ≤ 0 := by have := of_decide_eq_false q0; omega
      rw [coN, q0] at hr
      obtain ⟨rfl, rfl⟩ := Prod.mk.inj hr
      clear hr
      (repeat (first | refine gq_KGQ ?_ | (refine ga0A ?_; intro _hq)))
      (refine rtA ?_; try rfl)
    | true =>
      have hq1 : 0 < q := of_decide_eq_true q0
      rw [coN, q0] at hr
      dsimp only [cond_true] at hr
      cases hv : (pickI l c1 q == q - 1) with
      | false =>
        rw [hv] at hr
        obtain ⟨rfl, rfl⟩ := Prod.mk.inj hr
        clear hr
        (repeat (first | refine gq_KGQ ?_ | (refine ga0A ?_; intro _hq)))
        (refine rtA ?_; try rfl)
      | true =>
        rw [hv] at hr
        dsimp only [cond_true] at hr
        have hp2 := pickI_lt (l := l) (c := c1 + 1) (n := 2) (by omega)
        cases h0 : (pickI l (c1 + 1) 2 == 0) with
        | true =>
          rw [h0] at hr
          obtain ⟨rfl, rfl⟩ := Prod.mk.inj hr
          clear hr
          (repeat (first | refine gq_KGQ ?_ | (refine ga0A ?_; intro _hq)))
          (refine rtA ?_; try rfl)
        | false =>
          rw [h0] at hr
          obtain ⟨rfl, rfl⟩ := Prod.mk.inj hr
          clear hr
          (repeat (first | refine gq_KGQ ?_ | (refine ga0A ?_; intro _hq)))
          refine aw_rd [] [] (fun j : Nat => [(9, .g (.one (.sl 192 (cs.length + j) (cs.length + j))))]) (fun j => [(192, (cs.length + j, gRow (cs ++ List.replicate j ⟨0, 0, 0, 0⟩))), (100000, (0, rdE l (c1 + 1 + 1)))]) (fun j => j ≤ 25 - cs.length) (fun j => 25 - cs.length - j) 0 (by rfl) (by rfl) ?_ (by rfl) ⟨by rfl, trivial⟩ ⟨Eq.trans (b := some (cs.length, gRow cs)) (by rfl) (by rw [List.replicate_zero, List.append_nil]; rfl), by rfl, trivial⟩ ?_
          · exact Nat.zero_le _
          rintro j hj
          have hlj : (cs ++ List.replicate j (⟨0, 0, 0, 0⟩ : Gt)).length = cs.length + j := by rw [List.length_append, List.length_replicate]
          have hcj : (cV (cs ++ List.replicate j (⟨0, 0, 0, 0⟩ : Gt))).length = (cs.length + j) * Cel.sz Gt := by rw [cV_len, hlj]
          rcases Nat.lt_or_ge j (25 - cs.length) with h7 | h7
          · have hd7 : decide (((cs.length + j : Nat) : Int) ≤ 24) = true := decide_eq_true (by omega)
            have hn : cs ++ List.replicate j (⟨0, 0, 0, 0⟩ : Gt) ++ [(⟨0, 0, 0, 0⟩ : Gt)] = cs ++ List.replicate (j + 1) (⟨0, 0, 0, 0⟩ : Gt) := by rw [List.append_assoc, List.replicate_succ']
            (repeat (first | refine gq_KGQ ?_ | (refine ga0A ?_; intro _hq)))
            exact ⟨j + 1, h7, ⟨by rfl, ⟨Eq.trans (b := some (.g (.one (.sl 192 (cs.length + j + 1) (cs ++ List.replicate j (⟨0, 0, 0, 0⟩ : Gt) ++ [(⟨0, 0, 0, 0⟩ : Gt)]).length)))) (by rfl) (by rw [List.length_append, hlj]; rfl), trivial⟩, ⟨Eq.trans (b := some (cs.length + j + 1, gRow (cs ++ List.replicate j (⟨0, 0, 0, 0⟩ : Gt) ++ [(⟨0, 0, 0, 0⟩ : Gt)]))) (by rfl) (by rw [hn]; rfl), by rfl, trivial⟩⟩, (by first | omega | (dsimp only; omega))⟩
          · obtain rfl : j = 25 - cs.length := by omega
            have hd7 : decide (((cs.length + (25 - cs.length) : Nat) : Int) ≤ 24) = false := decide_eq_false (by omega)
            (repeat (first | refine gq_KGQ ?_ | (refine ga0A ?_; intro _hq)))
            (refine rtA ?_; try rfl)
            exact congrArg (fun n => AV.g (.one (.sl 0 0 n))) hlj.symm
theorem ex_circ (l : List UInt8) (c n most q : Int) (h : 0 ≤ c ∧ c ≤ 90000 ∧ l.length ≤ 2000) (hm : 0 ≤ most ∧ most ≤ 30) (hq : q ≤ 1000) : ∃ (cs : List Gt) (c' : Int), cs.length ≤ 31 ∧ (∀ g ∈ cs, gtb g) ∧ (c ≤ c' ∧ c' ≤ c + 700) ∧ Kon Try.prog 36 [p0, vI n, vI most, vI q] [rdE l c] (slA 0 0 cs) [gRow cs] [rdE l c'] := by
  obtain ⟨cs, c', x1, x2, x3, _, x4⟩ := ex_circ2 l c n most q h hm hq
  exact ⟨cs, c', x1, x2, x3, x4⟩
theorem ex_lined (l : List UInt8) (c n : Int) (h : 0 ≤ c ∧ c ≤ 80000 ∧ l.length ≤ 2000) (hn : 0 < n ∧ n ≤ 400) : ∃ (L : Int) (cs : List Gt) (c' : Int), (-1 ≤ L ∧ L ≤ 9) ∧ cs.length ≤ 31 ∧ (∀ g ∈ cs, gtb g) ∧ (c ≤ c' ∧ c' ≤ c + 710) ∧ Kon Try.prog 23 [p0, vI n] [rdE l c] (.tup [.one (.v (.int .i64 L)), .one (.sl 0 0 cs.length)]) [gRow cs] [rdE l c'] := by
  obtain ⟨L, hL, hK1⟩ := ex_lines l c (2 * n) (by omega)
  obtain ⟨cs, c', h1, h2, h3, hK2⟩ := ex_circ l (c + 1 + 1) L 10 (2 * n) (by omega) (by omega) (by omega)
  refine ⟨L, cs, c', hL, h1, h2, by omega, ?_⟩
  (refine kM Try.func23 rfl ?_; intro hfit hfe)
  (repeat (first | refine gq_KGQ ?_ | (refine ga0A ?_; intro _hq)))
  (refine rtA ?_; try rfl)
end Go.Proofs.Ytfbcblknahicdaa
