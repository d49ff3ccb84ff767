/- KGQ: laid into one text. -/
import Derived.Test.YthdniogjiokekaaQRM
import Derived.Test.YthdniogjiokekaaQRN

/- Drawn circuits. -/
namespace Go.Proofs.Ythdniogjiokekaa
set_option linter.unusedVariables false
set_option linter.unusedSimpArgs false
set_option maxRecDepth 20000
open Go.RowKit
attribute [local irreducible] runA runX AW
theorem gq_KGQ {H G : Prop} (k : H) (h : Hid H → G := by (intro hh; (first | (first | ((first | refine r_none ?_ | refine r_gt (by rfl) (by rfl) (by first | rfl | assumption | omega | (simp only [*, Bool.not_false, Bool.not_true]; first | done | fail) | (simp [*]; first | done | fail)) (by rfl) ?_ | refine r_gf (by rfl) (by rfl) (by first | rfl | assumption | omega | (simp only [*, Bool.not_false, Bool.not_true]; first | done | fail) | (simp [*]; first | done | fail)) (by rfl) ?_); (first | fail | ((first | (refine z_op (by rfl) ?_; first | refine z_ok ?_ ?_ | refine z_ex ?_ (by first | exact ft_raw rfl rfl | ((first | refine ft_rp rfl rfl rfl ?_ | refine ft_row rfl rfl rfl ?_ | refine ft_rpF rfl rfl rfl ?_ | refine ft_rowF rfl rfl rfl ?_ | refine up_row rfl rfl ?_ | refine up_rowF rfl rfl rfl ?_ | refine ct_0 rfl ?_ | refine ct_r rfl rfl ?_ | refine ct_c rfl rfl rfl ?_ | refine cu_all rfl ?_ | refine cu_to rfl ?_ | refine cu_from rfl ?_ | refine cu_p rfl ?_ | fail); (first | omega | (simp only [List.length_append, List.length_replicate, List.length_cons, List.length_nil, List.length_set, List.length_take, List.length_drop, true_and]; omega))) | exact up_raw rfl | exact pk_t (by first | rfl | assumption | omega | (simp only [*, Bool.not_false, Bool.not_true]; first | done | fail) | (simp [*]; first | done | fail)) rfl | exact pk_f (by first | rfl | assumption | omega | (simp only [*, Bool.not_false, Bool.not_true]; first | done | fail) | (simp [*]; first | done | fail)) rfl | exact rw_c Gt rfl | exact rw_raw | exact pu_cv (fun w => rfl) (by omega) | exact pu_of (fun w => rfl) rfl | exact be_of (fun w => rfl) | exact nc_of (fun _ _ _ _ => rfl) rfl | exact bu_of (fun w => rfl) rfl | fail) ?_) | ((first | refine q_callE wsT wsZ (by rfl) ?_ | refine q_callVE wsT (by rfl) (by rfl) ?_); refine ⟨_, _, _, (by first | assumption | exact k_pick _ _ _ (by omega) | exact k_odd0 _ _ _ (by omega) | exact k_odd _ _ _ (by omega)), _, by rfl, ?_, ?_⟩)); focus (first | exact trivial | fail | exact rfl | (first | omega | (simp only [List.length_append, List.length_replicate, List.length_cons, List.length_nil, List.length_set, List.length_take, List.length_drop, true_and]; omega)) | exact cvB (fun w => rfl) | ((repeat' (first | exact rfl | exact cV_len _ | exact cV_ln rfl (by omega) | exact Cel.pos | omega | exact trivial | refine And.intro ?_ ?_)); done) | (simp [*]; done) | (simp; omega))) | fail)) | refine r_nt (by rfl) (by rfl) (by first | rfl | assumption | omega | (simp only [*, Bool.not_false, Bool.not_true]; first | done | fail) | (simp [*]; first | done | fail)) (by rfl) ?_ | refine r_nf (by rfl) (by rfl) (by first | rfl | assumption | omega | (simp only [*, Bool.not_false, Bool.not_true]; first | done | fail) | (simp [*]; first | done | fail)) (by rfl) ?_ | refine r_gu (by rfl) (by rfl) (by rfl) ?_ | refine r_nil ?_) | (first | refine aw_seq ?_ | refine aw_ct (by rfl) (by first | rfl | assumption | omega | (simp only [*, Bool.not_false, Bool.not_true]; first | done | fail) | (simp [*]; first | done | fail)) ?_ | refine aw_cf (by rfl) (by first | rfl | assumption | omega | (simp only [*, Bool.not_false, Bool.not_true]; first | done | fail) | (simp [*]; first | done | fail)) ?_ | refine aw_block ?_ | refine aw_region T0ok cfU_ok (by rfl) ?_ | refine aw_skip ?_ | refine aw_exit ?_ | refine ra_step ?_)); (repeat (first | (first | ((first | refine r_none ?_ | refine r_gt (by rfl) (by rfl) (by first | rfl | assumption | omega | (simp only [*, Bool.not_false, Bool.not_true]; first | done | fail) | (simp [*]; first | done | fail)) (by rfl) ?_ | refine r_gf (by rfl) (by rfl) (by first | rfl | assumption | omega | (simp only [*, Bool.not_false, Bool.not_true]; first | done | fail) | (simp [*]; first | done | fail)) (by rfl) ?_); (first | fail | ((first | (refine z_op (by rfl) ?_; first | refine z_ok ?_ ?_ | refine z_ex ?_ (by first | exact ft_raw rfl rfl | ((first | refine ft_rp rfl rfl rfl ?_ | refine ft_row rfl rfl rfl ?_ | refine ft_rpF rfl rfl rfl ?_ | refine ft_rowF rfl rfl rfl ?_ | refine up_row rfl rfl ?_ | refine up_rowF rfl rfl rfl ?_ | refine ct_0 rfl ?_ | refine ct_r rfl rfl ?_ | refine ct_c rfl rfl rfl ?_ | refine cu_all rfl ?_ | refine cu_to rfl ?_ | refine cu_from rfl ?_ | refine cu_p rfl ?_ | fail); (first | omega | (simp only [List.length_append, List.length_replicate, List.length_cons, List.length_nil, List.length_set, List.length_take, List.length_drop, true_and]; omega))) | exact up_raw rfl | exact pk_t (by first | rfl | assumption | omega | (simp only [*, Bool.not_false, Bool.not_true]; first | done | fail) | (simp [*]; first | done | fail)) rfl | exact pk_f (by first | rfl | assumption | omega | (simp only [*, Bool.not_false, Bool.not_true]; first | done | fail) | (simp [*]; first | done | fail)) rfl | exact rw_c Gt rfl | exact rw_raw | exact pu_cv (fun w => rfl) (by omega) | exact pu_of (fun w => rfl) rfl | exact be_of (fun w => rfl) | exact nc_of (fun _ _ _ _ => rfl) rfl | exact bu_of (fun w => rfl) rfl | fail) ?_) | ((first | refine q_callE wsT wsZ (by rfl) ?_ | refine q_callVE wsT (by rfl) (by rfl) ?_); refine ⟨_, _, _, (by first | assumption | exact k_pick _ _ _ (by omega) | exact k_odd0 _ _ _ (by omega) | exact k_odd _ _ _ (by omega)), _, by rfl, ?_, ?_⟩)); focus (first | exact trivial | fail | exact rfl | (first | omega | (simp only [List.length_append, List.length_replicate, List.length_cons, List.length_nil, List.length_set, List.length_take, List.length_drop, true_and]; omega)) | exact cvB (fun w => rfl) | ((repeat' (first | exact rfl | exact cV_len _ | exact cV_ln rfl (by omega) | exact Cel.pos | omega | exact trivial | refine And.intro ?_ ?_)); done) | (simp [*]; done) | (simp; omega))) | fail)) | refine r_nt (by rfl) (by rfl) (by first | rfl | assumption | omega | (simp only [*, Bool.not_false, Bool.not_true]; first | done | fail) | (simp [*]; first | done | fail)) (by rfl) ?_ | refine r_nf (by rfl) (by rfl) (by first | rfl | assumption | omega | (simp only [*, Bool.not_false, Bool.not_true]; first | done | fail) | (simp [*]; first | done | fail)) (by rfl) ?_ | refine r_gu (by rfl) (by rfl) (by rfl) ?_ | refine r_nil ?_) | (first | refine aw_seq ?_ | refine aw_ct (by rfl) (by first | rfl | assumption | omega | (simp only [*, Bool.not_false, Bool.not_true]; first | done | fail) | (simp [*]; first | done | fail)) ?_ | refine aw_cf (by rfl) (by first | rfl | assumption | omega | (simp only [*, Bool.not_false, Bool.not_true]; first | done | fail) | (simp [*]; first | done | fail)) ?_ | refine aw_block ?_ | refine aw_region T0ok cfU_ok (by rfl) ?_ | refine aw_skip ?_ | refine aw_exit ?_ | refine ra_step ?_))); exact hh.out)) : G := h ⟨k⟩
theorem ga_KGQ {H G : Prop} (k : H) (h : Hid H → G := by (intro hh; (first | refine r_none ?_ | refine r_gt (by rfl) (by rfl) (by first | rfl | assumption | omega | (simp only [*, Bool.not_false, Bool.not_true]; first | done | fail) | (simp [*]; first | done | fail)) (by rfl) ?_ | refine r_gf (by rfl) (by rfl) (by first | rfl | assumption | omega | (simp only [*, Bool.not_false, Bool.not_true]; first | done | fail) | (simp [*]; first | done | fail)) (by rfl) ?_); refine z_op (by rfl) ?_; refine z_alV ?_ hh.out; focus (first | exact trivial | fail | exact rfl | (first | omega | (simp only [List.length_append, List.length_replicate, List.length_cons, List.length_nil, List.length_set, List.length_take, List.length_drop, true_and]; omega)) | exact cvB (fun w => rfl) | ((repeat' (first | exact rfl | exact cV_len _ | exact cV_ln rfl (by omega) | exact Cel.pos | omega | exact trivial | refine And.intro ?_ ?_)); done) | (simp [*]; done) | (simp; omega)))) : G := h ⟨k⟩
def nE (n : Int) : Int := if 8 < (if 1 > n then 1 else n) then 8 else (if 1 > n then 1 else n)
theorem nE_bd (n : Int) : 1 ≤ nE n ∧ nE n ≤ 8 := by unfold nE; omega
def gnM (n : Int) : Nat := if (3 : Int) > nE n then 3 else (nE n).toNat
theorem gnM_eq (n : Int) : (if (3 : Int) > nE n then 3 else nE n) = (gnM n : Int) := by
  have h := nE_bd n
  unfold gnM
  split <;> omega
theorem gnM_bd (n : Int) : 3 ≤ gnM n ∧ gnM n ≤ 8 := by
  have h := nE_bd n
  unfold gnM
  split <;> omega
def gN (l : List UInt8) (n : Int) (c : Int) : Gt × Int := gtN l c (nE n) 0 (gnM n)
theorem k_gN (l : List UInt8) (n c : Int) (h : 0 ≤ c ∧ c ≤ 100000 ∧ l.length ≤ 2000) : Kon Try.prog 37 [p0, vI (nE n), vI 0] [rdE l c] (gV (gN l n c).1) [] [rdE l (gN l n c).2] :=
  k_gate l c (nE n) 0 (gnM n) (gnM_eq n) (nE_bd n) h (by omega)
theorem gN_bd (l : List UInt8) (n c : Int) : gbd (gN l n c) c 20 := gtN_bd l c (nE n) 0 (gnM n) (nE_bd n) (gnM_bd n)
/-- One gate more. -/
def ciS (l : List UInt8) (n : Int) (x : List Gt × Int) : List Gt × Int :=
  bif decide ((x.1.length : Int) > 0) then (bif pickI l (gN l n x.2).2 4 == 0 then (x.1 ++ [x.1.getD (pickI l ((gN l n x.2).2 + 1) x.1.length).toNat Cel.no], (gN l n x.2).2 + 1 + 1) else (x.1 ++ [(gN l n x.2).1], (gN l n x.2).2 + 1))
  else (x.1 ++ [(gN l n x.2).1], (gN l n x.2).2)
def ciN (l : List UInt8) (n c : Int) : Nat → List Gt × Int
  | 0 => ([], c)
  | i + 1 => ciS l n (ciN l n c i)
def gtb (g : Gt) : Prop := (-1 ≤ g.k ∧ g.k ≤ 9) ∧ (-1 ≤ g.a ∧ g.a ≤ 8) ∧ (-1 ≤ g.b ∧ g.b ≤ 8) ∧ (-1 ≤ g.c ∧ g.c ≤ 8)
theorem ciS_bd (l : List UInt8) (n : Int) (x : List Gt × Int) (h : ∀ g ∈ x.1, gtb g) : (ciS l n x).1.length = x.1.length + 1 ∧ (∀ g ∈ (ciS l n x).1, gtb g) ∧ x.2 ≤ (ciS l n x).2 ∧ (ciS l n x).2 ≤ x.2 + 22 := by
  have hg := gN_bd l n x.2
  unfold gbd at hg
  have hgb : gtb (gN l n x.2).1 := by unfold gtb; omega
  have one : ∀ y : Gt, gtb y → ∀ g ∈ x.1 ++ [y], gtb g := fun y hy g hm => by
    rcases List.mem_append.1 hm with hm | hm
    · exact h g hm
    · rw [List.mem_singleton.1 hm]; exact hy
  unfold ciS
  cases hd : decide ((x.1.length : Int) > 0)
  · dsimp only [cond_false]
    refine ⟨by simp, one _ hgb, by omega, by omega⟩
  · dsimp only [cond_true]
    have hl : (x.1.length : Int) > 0 := of_decide_eq_true hd
    cases hp : (pickI l (gN l n x.2).2 4 == 0)
    · dsimp only [cond_false]
      refine ⟨by simp, one _ hgb, by omega, by omega⟩
    · dsimp only [cond_true]
      refine ⟨by simp, one _ ?_, by omega, by omega⟩
      have hq := pickI_lt (l := l) (c := (gN l n x.2).2 + 1) (n := (x.1.length : Int)) (by omega)
      have hi : (pickI l ((gN l n x.2).2 + 1) x.1.length).toNat < x.1.length := by omega
      have e : x.1.getD (pickI l ((gN l n x.2).2 + 1) x.1.length).toNat Cel.no = x.1[(pickI l ((gN l n x.2).2 + 1) x.1.length).toNat] := by simp [List.getD_eq_getElem?_getD, hi]
      rw [e]
      exact h _ (List.getElem_mem hi)
theorem ciN_bd (l : List UInt8) (n c : Int) : ∀ i, (ciN l n c i).1.length = i ∧ (∀ g ∈ (ciN l n c i).1, gtb g) ∧ c ≤ (ciN l n c i).2 ∧ (ciN l n c i).2 ≤ c + 22 * (i : Int)
  | 0 => by
    refine ⟨rfl, fun g hg => ?_, ?_, ?_⟩
    · cases hg
    · exact Int.le_refl c
    · show c ≤ c + 22 * ((0 : Nat) : Int); omega
  | i + 1 => by
    obtain ⟨h1, h2, h3, h4⟩ := ciN_bd l n c i
    obtain ⟨q1, q2, q3, q4⟩ := ciS_bd l n _ h2
    exact ⟨by rw [ciN, q1, h1], q2, by rw [ciN]; omega, by rw [ciN]; omega⟩
/-- A fault put into a circuit. -/
def coN (l : List UInt8) (q : Int) (x : List Gt × Int) : List Gt × Int :=
  bif decide (q > 0) then (bif pickI l x.2 q == q - 1 then (bif pickI l (x.2 + 1) 2 == 0 then (x.1 ++ [⟨9, 0, 0, 0⟩], x.2 + 1 + 1) else (x.1 ++ List.replicate (25 - x.1.length) ⟨0, 0, 0, 0⟩, x.2 + 1 + 1)) else (x.1, x.2 + 1)) else x
theorem coN_bd (l : List UInt8) (q : Int) (x : List Gt × Int) (hl : x.1.length ≤ 30) (h : ∀ g ∈ x.1, gtb g) : (coN l q x).1.length ≤ 31 ∧ (∀ g ∈ (coN l q x).1, gtb g) ∧ x.2 ≤ (coN l q x).2 ∧ (coN l q x).2 ≤ x.2 + 2 := by
  have more : ∀ L : List Gt, (∀ y ∈ L, gtb y) → ∀ g ∈ x.1 ++ L, gtb g := fun L hL g hm => by
    rcases List.mem_append.1 hm with hm | hm
    · exact h g hm
    · exact hL g hm
  unfold coN
  cases decide (q > 0)
  · exact ⟨by dsimp only [cond_false]; omega, h, Int.le_refl _, by dsimp only [cond_false]; omega⟩
  cases (pickI l x.2 q == q - 1)
  · exact ⟨by dsimp only [cond_true, cond_false]; omega, h, by dsimp only [cond_true, cond_false]; omega, by dsimp only [cond_true, cond_false]; omega⟩
  cases (pickI l (x.2 + 1) 2 == 0)
  · dsimp only [cond_true, cond_false]
    refine ⟨by rw [List.length_append, List.length_replicate]; omega, more _ fun y hy => ?_, by omega, by omega⟩
    rw [List.eq_of_mem_replicate hy]; unfold gtb; decide
  · dsimp only [cond_true, cond_false]
    refine ⟨by simp; omega, more _ fun y hy => ?_, by omega, by omega⟩
    rw [List.mem_singleton.1 hy]; unfold gtb; decide
set_option maxHeartbeats 4000000 in
theorem ex_circ (l : List UInt8) (c n most q : Int) (h : 0 ≤ c ∧ c ≤ 90000 ∧ l.length ≤ 2000) (hm : 0 ≤ most ∧ most ≤ 30) (hq : q ≤ 1000) : ∃ (cs : List Gt) (c' : Int), cs.length ≤ 31 ∧ (∀ g ∈ cs, gtb g) ∧ (c ≤ c' ∧ c' ≤ c + 700) ∧ Kon Try.prog 29 [p0, vI n, vI most, vI q] [rdE l c] (slA 0 0 cs) [gRow cs] [rdE l c'] := by
  obtain ⟨m, hmm⟩ : ∃ m : Nat, pickI l c (most + 1) = (m : Int) := ⟨(pickI l c (most + 1)).toNat, by have := pickI_lt (l := l) (c := c) (n := most + 1) (by omega); omega⟩
  obtain ⟨d1, d2, d3, d4⟩ := ciN_bd l n (c + 1) m
  have hpm0 := pickI_lt (l := l) (c := c) (n := most + 1) (by omega)
  obtain ⟨cs', c', hr, x1, x2, x3⟩ : ∃ cs' c', coN l q (ciN l n (c + 1) m) = (cs', c') ∧ cs'.length ≤ 31 ∧ (∀ g ∈ cs', gtb g) ∧ (c ≤ c' ∧ c' ≤ c + 700) := by
    have := coN_bd l q (ciN l n (c + 1) m) (by omega) d2
    have t3 := this.2.2.1
    have t4 := this.2.2.2
    exact ⟨(coN l q (ciN l n (c + 1) m)).1, (coN l q (ciN l n (c + 1) m)).2, rfl, this.1, this.2.1, by omega⟩
  refine ⟨cs', c', x1, x2, x3, ?_⟩
  have hpm := pickI_lt (l := l) (c := c) (n := most + 1) (by omega)
  (refine kon_mk T0ok (fn := Try.f29) (c := Try.f29.body.get rfl) Try.func29 rfl (by rfl) (by rfl) (by rfl) ?_; intro hfit hfe)
  (repeat (first | refine gq_KGQ ?_ | (refine ga_KGQ ?_; intro _hq)))
  rw [hmm]
  have e0 : (ciN l n (c + 1) 0).2 = c + 1 := rfl
  refine aw_rd [0, 1, 2, 3] [] (fun i : Nat => [(9, .g (.one (.sl 192 i i))), (10, vI ((m : Int) - i))]) (fun i => [(192, (i, gRow (ciN l n (c + 1) i).1)), (100000, (0, rdE l (ciN l n (c + 1) i).2))]) (fun i => i ≤ m) (fun i => m - i) 0 (by rfl) (by rfl) ?_ (by rfl) ⟨by rfl, vI_of (by rfl) (by omega), (by repeat (first | exact trivial | refine ⟨by rfl, ?_⟩ | refine ⟨vI_of (by rfl) (by omega), ?_⟩))⟩ ⟨by rfl, by rfl, trivial⟩ ?_
  · exact Nat.zero_le _
  rintro i hi
  obtain ⟨b1, b2, b3, b4⟩ := ciN_bd l n (c + 1) i
  rcases hx : ciN l n (c + 1) i with ⟨cs, c1⟩
  rw [hx] at b1 b2 b3 b4
  dsimp only at b1 b2 b3 b4 ⊢
  rcases Nat.lt_or_ge i m with h5 | h5
  · have hd : decide ((m : Int) - (i : Int) > 0) = true := decide_eq_true (by omega)
    have hG := k_gN l n c1 (by omega)
    subst b1
    have hpos : ∀ w : Int, (cs.length : Int) > 0 → 0 ≤ pickI l w cs.length ∧ pickI l w cs.length < cs.length := fun w hw => pickI_lt (by omega)
    have hgb := gN_bd l n c1
    unfold gbd at hgb
    cases d0 : decide ((cs.length : Int) > 0) with
    | false =>
      have hn : ciN l n (c + 1) (cs.length + 1) = (cs ++ [(gN l n c1).1], (gN l n c1).2) := by rw [ciN, hx, ciS]; dsimp only; rw [d0]; rfl
      (repeat (first | refine gq_KGQ ?_ | (refine ga_KGQ ?_; intro _hq)))
      exact ⟨cs.length + 1, h5, ⟨by rfl, ⟨Eq.trans (b := some (.g (.one (.sl 192 (cs.length + 1) (cs ++ [(gN l n c1).1]).length)))) (by rfl) (by rw [List.length_append]; rfl), vI_of (by rfl) (by omega), (by repeat (first | exact trivial | refine ⟨by rfl, ?_⟩ | refine ⟨vI_of (by rfl) (by omega), ?_⟩))⟩, ⟨Eq.trans (b := some (cs.length + 1, gRow (cs ++ [(gN l n c1).1]))) (by rfl) (by rw [hn]), Eq.trans (b := some (0, rdE l (gN l n c1).2)) (by rfl) (by rw [hn]), trivial⟩⟩, (by first | omega | (dsimp only; omega))⟩
    | true =>
      have hq4 := pickI_lt (l := l) (c := (gN l n c1).2) (n := 4) (by omega)
      cases d1 : (pickI l (gN l n c1).2 4 == 0) with
      | false =>
        have hn : ciN l n (c + 1) (cs.length + 1) = (cs ++ [(gN l n c1).1], (gN l n c1).2 + 1) := by rw [ciN, hx, ciS]; dsimp only; rw [d0]; dsimp only [cond_true]; rw [d1]; rfl
        (repeat (first | refine gq_KGQ ?_ | (refine ga_KGQ ?_; intro _hq)))
        exact ⟨cs.length + 1, h5, ⟨by rfl, ⟨Eq.trans (b := some (.g (.one (.sl 192 (cs.length + 1) (cs ++ [(gN l n c1).1]).length)))) (by rfl) (by rw [List.length_append]; rfl), vI_of (by rfl) (by omega), (by repeat (first | exact trivial | refine ⟨by rfl, ?_⟩ | refine ⟨vI_of (by rfl) (by omega), ?_⟩))⟩, ⟨Eq.trans (b := some (cs.length + 1, gRow (cs ++ [(gN l n c1).1]))) (by rfl) (by rw [hn]), Eq.trans (b := some (0, rdE l ((gN l n c1).2 + 1))) (by rfl) (by rw [hn]), trivial⟩⟩, (by first | omega | (dsimp only; omega))⟩
      | true =>
        have hn : ciN l n (c + 1) (cs.length + 1) = (cs ++ [cs.getD (pickI l ((gN l n c1).2 + 1) cs.length).toNat Cel.no], (gN l n c1).2 + 1 + 1) := by rw [ciN, hx, ciS]; dsimp only; rw [d0]; dsimp only [cond_true]; rw [d1]; rfl
        have hp1 := hpos ((gN l n c1).2 + 1) (of_decide_eq_true d0)
        (repeat (first | refine gq_KGQ ?_ | (refine ga_KGQ ?_; intro _hq)))
        exact ⟨cs.length + 1, h5, ⟨by rfl, ⟨Eq.trans (b := some (.g (.one (.sl 192 (cs.length + 1) (cs ++ [(cs.getD (pickI l ((gN l n c1).2 + 1) cs.length).toNat Cel.no)]).length)))) (by rfl) (by rw [List.length_append]; rfl), vI_of (by rfl) (by omega), (by repeat (first | exact trivial | refine ⟨by rfl, ?_⟩ | refine ⟨vI_of (by rfl) (by omega), ?_⟩))⟩, ⟨Eq.trans (b := some (cs.length + 1, gRow (cs ++ [(cs.getD (pickI l ((gN l n c1).2 + 1) cs.length).toNat Cel.no)]))) (by rfl) (by rw [hn]), Eq.trans (b := some (0, rdE l ((gN l n c1).2 + 1 + 1))) (by rfl) (by rw [hn]), trivial⟩⟩, (by first | omega | (dsimp only; omega))⟩
  · have hd : decide ((m : Int) - (i : Int) > 0) = false := decide_eq_false (by omega)
    obtain rfl : i = m := by omega
    rw [hx] at hr
    subst b1
    have hcl : (cV cs).length = cs.length * Cel.sz Gt := cV_len cs
    cases q0 : decide (q > 0) with
    | false =>
      have hq1 : q ≤ 0 := by have := of_decide_eq_false q0; omega
      rw [coN, q0] at hr
      obtain ⟨rfl, rfl⟩ := Prod.mk.inj hr
      clear hr
      (repeat (first | refine gq_KGQ ?_ | (refine ga_KGQ ?_; intro _hq)))
      ((try refine aw_ret ?_); refine ret_auto2 (by rfl) (by rfl) (by rfl) (by repeat (first | exact trivial | refine ⟨by first | rfl | omega, ?_⟩)) ?_ (by repeat (first | exact trivial | refine ⟨by rfl, by rfl, ?_⟩)) (by repeat (first | exact trivial | refine ⟨by rfl, by rfl, ?_⟩)); try rfl)
    | true =>
      have hq1 : 0 < q := of_decide_eq_true q0
      rw [coN, q0] at hr
      dsimp only [cond_true] at hr
      cases hv : (pickI l c1 q == q - 1) with
      | false =>
        rw [hv] at hr
        obtain ⟨rfl, rfl⟩ := Prod.mk.inj hr
        clear hr
        (repeat (first | refine gq_KGQ ?_ | (refine ga_KGQ ?_; intro _hq)))
        ((try refine aw_ret ?_); refine ret_auto2 (by rfl) (by rfl) (by rfl) (by repeat (first | exact trivial | refine ⟨by first | rfl | omega, ?_⟩)) ?_ (by repeat (first | exact trivial | refine ⟨by rfl, by rfl, ?_⟩)) (by repeat (first | exact trivial | refine ⟨by rfl, by rfl, ?_⟩)); try rfl)
      | true =>
        rw [hv] at hr
        dsimp only [cond_true] at hr
        have hp2 := pickI_lt (l := l) (c := c1 + 1) (n := 2) (by omega)
        cases h0 : (pickI l (c1 + 1) 2 == 0) with
        | true =>
          rw [h0] at hr
          obtain ⟨rfl, rfl⟩ := Prod.mk.inj hr
          clear hr
          (repeat (first | refine gq_KGQ ?_ | (refine ga_KGQ ?_; intro _hq)))
          ((try refine aw_ret ?_); refine ret_auto2 (by rfl) (by rfl) (by rfl) (by repeat (first | exact trivial | refine ⟨by first | rfl | omega, ?_⟩)) ?_ (by repeat (first | exact trivial | refine ⟨by rfl, by rfl, ?_⟩)) (by repeat (first | exact trivial | refine ⟨by rfl, by rfl, ?_⟩)); try rfl)
        | false =>
          rw [h0] at hr
          obtain ⟨rfl, rfl⟩ := Prod.mk.inj hr
          clear hr
          (repeat (first | refine gq_KGQ ?_ | (refine ga_KGQ ?_; intro _hq)))
          refine aw_rd [] [] (fun j : Nat => [(9, .g (.one (.sl 192 (cs.length + j) (cs.length + j))))]) (fun j => [(192, (cs.length + j, gRow (cs ++ List.replicate j ⟨0, 0, 0, 0⟩))), (100000, (0, rdE l (c1 + 1 + 1)))]) (fun j => j ≤ 25 - cs.length) (fun j => 25 - cs.length - j) 0 (by rfl) (by rfl) ?_ (by rfl) ⟨by rfl, trivial⟩ ⟨Eq.trans (b := some (cs.length, gRow cs)) (by rfl) (by rw [List.replicate_zero, List.append_nil]; rfl), by rfl, trivial⟩ ?_
          · exact Nat.zero_le _
          rintro j hj
          have hlj : (cs ++ List.replicate j (⟨0, 0, 0, 0⟩ : Gt)).length = cs.length + j := by rw [List.length_append, List.length_replicate]
          have hcj : (cV (cs ++ List.replicate j (⟨0, 0, 0, 0⟩ : Gt))).length = (cs.length + j) * Cel.sz Gt := by rw [cV_len, hlj]
          rcases Nat.lt_or_ge j (25 - cs.length) with h7 | h7
          · have hd7 : decide (((cs.length + j : Nat) : Int) ≤ 24) = true := decide_eq_true (by omega)
            have hn : cs ++ List.replicate j (⟨0, 0, 0, 0⟩ : Gt) ++ [(⟨0, 0, 0, 0⟩ : Gt)] = cs ++ List.replicate (j + 1) (⟨0, 0, 0, 0⟩ : Gt) := by rw [List.append_assoc, List.replicate_succ']
            (repeat (first | refine gq_KGQ ?_ | (refine ga_KGQ ?_; intro _hq)))
            exact ⟨j + 1, h7, ⟨by rfl, ⟨Eq.trans (b := some (.g (.one (.sl 192 (cs.length + j + 1) (cs ++ List.replicate j (⟨0, 0, 0, 0⟩ : Gt) ++ [(⟨0, 0, 0, 0⟩ : Gt)]).length)))) (by rfl) (by rw [List.length_append, hlj]; rfl), trivial⟩, ⟨Eq.trans (b := some (cs.length + j + 1, gRow (cs ++ List.replicate j (⟨0, 0, 0, 0⟩ : Gt) ++ [(⟨0, 0, 0, 0⟩ : Gt)]))) (by rfl) (by rw [hn]; rfl), by rfl, trivial⟩⟩, (by first | omega | (dsimp only; omega))⟩
          · obtain rfl : j = 25 - cs.length := by omega
            have hd7 : decide (((cs.length + (25 - cs.length) : Nat) : Int) ≤ 24) = false := decide_eq_false (by omega)
            (repeat (first | refine gq_KGQ ?_ | (refine ga_KGQ ?_; intro _hq)))
            ((try refine aw_ret ?_); refine ret_auto2 (by rfl) (by rfl) (by rfl) (by repeat (first | exact trivial | refine ⟨by first | rfl | omega, ?_⟩)) ?_ (by repeat (first | exact trivial | refine ⟨by rfl, by rfl, ?_⟩)) (by repeat (first | exact trivial | refine ⟨by rfl, by rfl, ?_⟩)); try rfl)
            exact congrArg (fun n => AV.g (.one (.sl 0 0 n))) hlj.symm
/-- Lines and a circuit are drawn. -/
theorem ex_lined (l : List UInt8) (c n : Int) (h : 0 ≤ c ∧ c ≤ 80000 ∧ l.length ≤ 2000) (hn : 0 < n ∧ n ≤ 400) : ∃ (L : Int) (cs : List Gt) (c' : Int), (-1 ≤ L ∧ L ≤ 9) ∧ cs.length ≤ 31 ∧ (∀ g ∈ cs, gtb g) ∧ (c ≤ c' ∧ c' ≤ c + 710) ∧ Kon Try.prog 14 [p0, vI n] [rdE l c] (.tup [.one (.v (.int .i64 L)), .one (.sl 0 0 cs.length)]) [gRow cs] [rdE l c'] := by
  obtain ⟨L, hL, hK1⟩ := ex_lines l c (2 * n) (by omega)
  obtain ⟨cs, c', h1, h2, h3, hK2⟩ := ex_circ l (c + 1 + 1) L 10 (2 * n) (by omega) (by omega) (by omega)
  refine ⟨L, cs, c', hL, h1, h2, by omega, ?_⟩
  (refine kon_mk T0ok (fn := Try.f14) (c := Try.f14.body.get rfl) Try.func14 rfl (by rfl) (by rfl) (by rfl) ?_; intro hfit hfe)
  (repeat (first | refine gq_KGQ ?_ | (refine ga_KGQ ?_; intro _hq)))
  ((try refine aw_ret ?_); refine ret_auto2 (by rfl) (by rfl) (by rfl) (by repeat (first | exact trivial | refine ⟨by first | rfl | omega, ?_⟩)) ?_ (by repeat (first | exact trivial | refine ⟨by rfl, by rfl, ?_⟩)) (by repeat (first | exact trivial | refine ⟨by rfl, by rfl, ?_⟩)); try rfl)
end Go.Proofs.Ythdniogjiokekaa
