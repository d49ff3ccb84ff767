/- FTF: laid into one text. -/
import Derived.Test.YtfoobfelgbcknaaDoorQFG
import Derived.Test.YtfoobfelgbcknaaDoorQFL

namespace Go.Proofs.YtfoobfelgbcknaaDoor
set_option linter.unusedVariables false
set_option linter.unusedSimpArgs false
set_option maxRecDepth 20000
open Go.RowKit
attribute [local irreducible] runA runX AW
theorem gq_FTF {H G : Prop} (k : H) (h : Hid H → G := by (intro hh; repeat1' (first | (first | (refine nxA ?_; (first | (first | refine r_slen (by rfl) Tryd.underlying9 (by rfl) ?_ | refine r_sidx (by rfl) (by rfl) Tryd.underlying9 (by omega) (by rfl) ?_ | refine r_sne (by rfl) (by rfl) (by rfl) ?_) | ((first | (refine z_op (by rfl) ?_; first | refine z_ok ?_ ?_ | refine z_ex ?_ (by first | exact zL1 | ((first | fail); exact zWW) | exact zL2 | exact rw_c Bool rfl | exact zL3 | fail) ?_) | ((first | refine q_callE wsT wsZF (by rfl) ?_ | refine q_callVE wsT (by rfl) (by rfl) ?_); refine ⟨_, _, _, (by first | assumption | exact k_cutP _ | exact k_splitS _ (by omega) | exact k_backS _ (by omega) | exact k_ftI _ _ _ | exact Kon.of con_valid (cValid_at _ _ _)), _, by rfl, ?_, ?_⟩)); focus (first | exact trivial | fail | exact zQZ)) | fail)) | refine swA ?_) | refine awA ?_); exact hh.out)) : G := h ⟨k⟩
abbrev oCell (o : Option (Nat × List Bool)) : AC := match o with
  | none => .v (.slice none 0 0)
  | some (v, l) => .sl 656 v l.length
abbrev oBlk (o : Option (Nat × List Bool)) : List (Nat × (Nat × Ent)) := match o with
  | none => []
  | some (v, l) => [(656, (v, bRow l))]
def oL (o : Option (Nat × List Bool)) : List Bool := match o with
  | none => []
  | some (v, l) => l
def wsZF : List (Nat × Nat) := [(9, 1), (7, 1), (999999, 0)]
set_option maxHeartbeats 4000000 in
theorem k_rfI (s : List UInt8) (hs : s.length ≤ 1100000) (h : fdK s = true) : Kon Tryd.prog 11 [vS s] [] (.tup [.agg [.v (.int .i64 (fdF s).s), .sl 0 0 (fdF s).l.length, .v (.bool (fdF s).b)], .one (.v (.bool true))]) [bRow (fdF s).l] [] := by
  have hE := fdK_t h
  have hCP := k_cutP s
  rw [show (s.head? == some 33) = fdH s from rfl, show (if fdH s then s.drop 1 else s) = fdB s from rfl] at hCP
  have hBl : (fdB s).length ≤ s.length := by unfold fdB; split <;> simp
  have hSP := k_splitS (fdB s) (by omega)
  have hcl := cutA_len 47 (fdB s) []
  have hBK := k_backS (cutA 47 [] (fdB s)) (by omega)
  have hRl : (fdR s).length ≤ 1100001 := by unfold fdR; rw [List.length_reverse]; omega
  rw [show (cutA 47 [] (fdB s)).reverse = fdR s from rfl] at hBK
  have hfl := fdR_flat s
  have hall := flB_all s
  have hFF : fdF s = ⟨((fdR s).length : Int), fdL s, fdH s⟩ := rfl
  (refine kM Tryd.func11 rfl ?_; intro hfit hfe)
  (repeat (first | refine gq_FTF ?_ | (refine ga0A ?_; intro _hq)))
  generalize hR : fdR s = R at *
  (refine aw_rd [0, 2, 3, 7, 23, 24] [32, 288] (fun g : Nat × Option (Nat × List Bool) => [(25, vI g.1)]) (fun g => [(112, (0, .box [.v (.int .i64 (R.length : Int)), oCell g.2, .v (.bool (fdH s))]))] ++ oBlk g.2) (fun g => g.1 ≤ R.length ∧ oL g.2 = flB R g.1) (fun g => R.length - g.1) (0, none) (by rfl) (by rfl) ?_ (by rfl) zHE zHE ?_)
  · exact ⟨Nat.zero_le _, rfl⟩
  rintro ⟨i, o⟩ ⟨hi, ho⟩
  dsimp only at hi ho ⊢
  rcases Nat.lt_or_ge i R.length with h5 | h5
  · have hd : decide ((i : Int) < (R.length : Int)) = true := decide_eq_true (by omega)
    have hnx := flB_next h5
    have hfl2 := flB_len R (i + 1)
    obtain ⟨x, hx⟩ : ∃ x, R.getD (i : Int).toNat Cel.no = x := ⟨_, rfl⟩
    have hx' : R.getD i [] = x := hx
    rw [hx'] at hnx
    have hxl : x.length ≤ 1100000 := by
      rw [hnx, List.length_append, List.length_map] at hfl2
      omega
    rcases o with _ | ⟨v, l⟩
    · (repeat (first | refine gq_FTF ?_ | (refine ga0A ?_; intro _hq)))
      rw [hx]
      (repeat (first | refine gq_FTF ?_ | (refine ga0A ?_; intro _hq)))
      (refine aw_rd [0, 2, 3, 7, 9, 23, 24, 25, 30] [32, 288] (fun g : Nat × Option (Nat × List Bool) => [(31, vI g.1)]) (fun g => [(112, (0, .box [.v (.int .i64 (R.length : Int)), oCell g.2, .v (.bool (fdH s))]))] ++ oBlk g.2) (fun g => g.1 ≤ x.length ∧ oL g.2 = flB R i ++ (x.take g.1).map eo) (fun g => x.length - g.1) (0, none) (by rfl) (by rfl) ?_ (by rfl) zHE zHE ?_)
      · exact ⟨Nat.zero_le _, by rw [List.take_zero, List.map_nil, List.append_nil]; exact ho⟩
      clear ho
      rintro ⟨j, o⟩ ⟨hj, ho⟩
      dsimp only at hj ho ⊢
      have hlo : (oL o).length ≤ 1100000 := by
        rw [ho, List.length_append, List.length_map, List.length_take]
        rw [hnx, List.length_append, List.length_map] at hfl2
        omega
      rcases Nat.lt_or_ge j x.length with h6 | h6
      · have hdj : decide ((j : Int) < (x.length : Int)) = true := decide_eq_true (by omega)
        have hsn := mapT_snoc h6
        rcases o with _ | ⟨u, m⟩
        · have hinv : j + 1 ≤ x.length ∧ oL (some (0, [eo (x.getD j 0)])) = flB R i ++ (x.take (j + 1)).map eo := ⟨h6, by rw [hsn, ← List.append_assoc, ← ho]; rfl⟩
          clear ho hsn
          (repeat (first | refine gq_FTF ?_ | (refine ga0A ?_; intro _hq)))
          (refine aw_draw mixed T0ok cfU_ok [(112, [0, 1, 8, 9]), (656, [7]), (640, [6, 7])] (by rfl) (by kernel_rfl) ?_)
          (repeat (first | refine gq_FTF ?_ | (refine ga0A ?_; intro _hq)))
          exact ⟨(j + 1, some (0, [eo (x.getD (j : Int).toNat 0)])), hinv, ⟨by rfl, zHE, zHE⟩, (by first | omega | (dsimp only; omega))⟩
        · have hml : m.length ≤ 1100000 := hlo
          have hinv : j + 1 ≤ x.length ∧ oL (some (u + 1, m ++ [eo (x.getD j 0)])) = flB R i ++ (x.take (j + 1)).map eo := ⟨h6, by rw [hsn, ← List.append_assoc, ← ho]; rfl⟩
          clear ho hsn
          (repeat (first | refine gq_FTF ?_ | (refine ga0A ?_; intro _hq)))
          (refine aw_draw mixed T0ok cfU_ok [(112, [0, 1, 8, 9]), (656, [7]), (640, [6, 7])] (by rfl) (by kernel_rfl) ?_)
          (repeat (first | refine gq_FTF ?_ | (refine ga0A ?_; intro _hq)))
          exact ⟨(j + 1, some (u + 1, m ++ [eo (x.getD (j : Int).toNat 0)])), hinv, ⟨by rfl, zHE, zHE⟩, (by first | omega | (dsimp only; omega))⟩
      · have hdj : decide ((j : Int) < (x.length : Int)) = false := decide_eq_false (by omega)
        obtain rfl : j = x.length := by omega
        rw [List.take_length, ← hnx] at ho
        have hinv : i + 1 ≤ R.length ∧ oL o = flB R (i + 1) := ⟨h5, ho⟩
        clear ho
        rcases o with _ | ⟨u, m⟩
        · (repeat (first | refine gq_FTF ?_ | (refine ga0A ?_; intro _hq)))
          exact ⟨(i + 1, none), hinv, ⟨by rfl, zHE, zHE⟩, (by first | omega | (dsimp only; omega))⟩
        · (repeat (first | refine gq_FTF ?_ | (refine ga0A ?_; intro _hq)))
          exact ⟨(i + 1, some (u, m)), hinv, ⟨by rfl, zHE, zHE⟩, (by first | omega | (dsimp only; omega))⟩
    · (repeat (first | refine gq_FTF ?_ | (refine ga0A ?_; intro _hq)))
      rw [hx]
      (repeat (first | refine gq_FTF ?_ | (refine ga0A ?_; intro _hq)))
      (refine aw_rd [0, 2, 3, 7, 9, 23, 24, 25, 30] [32, 288] (fun g : Nat × Option (Nat × List Bool) => [(31, vI g.1)]) (fun g => [(112, (0, .box [.v (.int .i64 (R.length : Int)), oCell g.2, .v (.bool (fdH s))]))] ++ oBlk g.2) (fun g => g.1 ≤ x.length ∧ oL g.2 = flB R i ++ (x.take g.1).map eo) (fun g => x.length - g.1) (0, some (v, l)) (by rfl) (by rfl) ?_ (by rfl) zHE zHE ?_)
      · exact ⟨Nat.zero_le _, by rw [List.take_zero, List.map_nil, List.append_nil]; exact ho⟩
      clear ho
      rintro ⟨j, o⟩ ⟨hj, ho⟩
      dsimp only at hj ho ⊢
      have hlo : (oL o).length ≤ 1100000 := by
        rw [ho, List.length_append, List.length_map, List.length_take]
        rw [hnx, List.length_append, List.length_map] at hfl2
        omega
      rcases Nat.lt_or_ge j x.length with h6 | h6
      · have hdj : decide ((j : Int) < (x.length : Int)) = true := decide_eq_true (by omega)
        have hsn := mapT_snoc h6
        rcases o with _ | ⟨u, m⟩
        · have hinv : j + 1 ≤ x.length ∧ oL (some (0, [eo (x.getD j 0)])) = flB R i ++ (x.take (j + 1)).map eo := ⟨h6, by rw [hsn, ← List.append_assoc, ← ho]; rfl⟩
          clear ho hsn
          (repeat (first | refine gq_FTF ?_ | (refine ga0A ?_; intro _hq)))
          (refine aw_draw mixed T0ok cfU_ok [(112, [0, 1, 8, 9]), (656, [7]), (640, [6, 7])] (by rfl) (by kernel_rfl) ?_)
          (repeat (first | refine gq_FTF ?_ | (refine ga0A ?_; intro _hq)))
          exact ⟨(j + 1, some (0, [eo (x.getD (j : Int).toNat 0)])), hinv, ⟨by rfl, zHE, zHE⟩, (by first | omega | (dsimp only; omega))⟩
        · have hml : m.length ≤ 1100000 := hlo
          have hinv : j + 1 ≤ x.length ∧ oL (some (u + 1, m ++ [eo (x.getD j 0)])) = flB R i ++ (x.take (j + 1)).map eo := ⟨h6, by rw [hsn, ← List.append_assoc, ← ho]; rfl⟩
          clear ho hsn
          (repeat (first | refine gq_FTF ?_ | (refine ga0A ?_; intro _hq)))
          (refine aw_draw mixed T0ok cfU_ok [(112, [0, 1, 8, 9]), (656, [7]), (640, [6, 7])] (by rfl) (by kernel_rfl) ?_)
          (repeat (first | refine gq_FTF ?_ | (refine ga0A ?_; intro _hq)))
          exact ⟨(j + 1, some (u + 1, m ++ [eo (x.getD (j : Int).toNat 0)])), hinv, ⟨by rfl, zHE, zHE⟩, (by first | omega | (dsimp only; omega))⟩
      · have hdj : decide ((j : Int) < (x.length : Int)) = false := decide_eq_false (by omega)
        obtain rfl : j = x.length := by omega
        rw [List.take_length, ← hnx] at ho
        have hinv : i + 1 ≤ R.length ∧ oL o = flB R (i + 1) := ⟨h5, ho⟩
        clear ho
        rcases o with _ | ⟨u, m⟩
        · (repeat (first | refine gq_FTF ?_ | (refine ga0A ?_; intro _hq)))
          exact ⟨(i + 1, none), hinv, ⟨by rfl, zHE, zHE⟩, (by first | omega | (dsimp only; omega))⟩
        · (repeat (first | refine gq_FTF ?_ | (refine ga0A ?_; intro _hq)))
          exact ⟨(i + 1, some (u, m)), hinv, ⟨by rfl, zHE, zHE⟩, (by first | omega | (dsimp only; omega))⟩
  · have hd : decide ((i : Int) < (R.length : Int)) = false := decide_eq_false (by omega)
    obtain rfl : i = R.length := by omega
    rw [hall] at ho
    have hLL : (fdL s).length ≤ 1100000 := by
      have := flB_len R R.length
      rw [hall] at this
      omega
    try rw [hFF] at hE
    rw [hFF]
    obtain ⟨hk, hft⟩ := hE
    obtain ⟨k1, k2, k3, k4, _⟩ := Fld.ok_facts hk
    have hpos : 0 < (fdL s).length := by
      have h8 : (R.length : Int) = 2 ∨ (R.length : Int) = 4 ∨ (R.length : Int) = 6 ∨ (R.length : Int) = 8 := by omega
      rcases h8 with e | e | e | e <;> rw [e] at k3 <;> omega
    rcases o with _ | ⟨v, l⟩
    · have e : fdL s = [] := ho.symm
      rw [e] at hpos
      exact absurd hpos (by decide)
    · have e : l = fdL s := ho
      rw [← e] at hk hft hpos k4 ⊢
      clear e ho hLL hall hfl
      have hV : Kon Tryd.prog 9 [fAx (R.length : Int) l (fdH s)] [] (vB true) [] [] := by
        have := Kon.of con_valid (cValid_at (R.length : Int) l (fdH s))
        rw [hk] at this
        exact this
      have hT := k_ftI (R.length : Int) l (fdH s)
      rw [hft] at hT
      have hC := k_copyO (R.length : Int) l (fdH s) (by omega)
      have hne : (!(s == s)) = false := by simp
      clear hk hft
      (repeat (first | refine gq_FTF ?_ | (refine ga0A ?_; intro _hq)))
      (refine rtA ?_; try rfl)
set_option maxHeartbeats 4000000 in
theorem k_rfI0 (s : List UInt8) (hs : s.length ≤ 1100000) (h : fdK s = false) : Kon Tryd.prog 11 [vS s] [] (.tup [.agg [.v (.int .i64 0), .v (.slice none 0 0), .v (.bool false)], .one (.v (.bool false))]) [] [] := by
  have hE : fdF s = fdF s := rfl
  have hCP := k_cutP s
  rw [show (s.head? == some 33) = fdH s from rfl, show (if fdH s then s.drop 1 else s) = fdB s from rfl] at hCP
  have hBl : (fdB s).length ≤ s.length := by unfold fdB; split <;> simp
  have hSP := k_splitS (fdB s) (by omega)
  have hcl := cutA_len 47 (fdB s) []
  have hBK := k_backS (cutA 47 [] (fdB s)) (by omega)
  have hRl : (fdR s).length ≤ 1100001 := by unfold fdR; rw [List.length_reverse]; omega
  rw [show (cutA 47 [] (fdB s)).reverse = fdR s from rfl] at hBK
  have hfl := fdR_flat s
  have hall := flB_all s
  have hFF : fdF s = ⟨((fdR s).length : Int), fdL s, fdH s⟩ := rfl
  (refine kM Tryd.func11 rfl ?_; intro hfit hfe)
  (repeat (first | refine gq_FTF ?_ | (refine ga0A ?_; intro _hq)))
  generalize hR : fdR s = R at *
  (refine aw_rd [0, 2, 3, 7, 23, 24] [32, 288] (fun g : Nat × Option (Nat × List Bool) => [(25, vI g.1)]) (fun g => [(112, (0, .box [.v (.int .i64 (R.length : Int)), oCell g.2, .v (.bool (fdH s))]))] ++ oBlk g.2) (fun g => g.1 ≤ R.length ∧ oL g.2 = flB R g.1) (fun g => R.length - g.1) (0, none) (by rfl) (by rfl) ?_ (by rfl) zHE zHE ?_)
  · exact ⟨Nat.zero_le _, rfl⟩
  rintro ⟨i, o⟩ ⟨hi, ho⟩
  dsimp only at hi ho ⊢
  rcases Nat.lt_or_ge i R.length with h5 | h5
  · have hd : decide ((i : Int) < (R.length : Int)) = true := decide_eq_true (by omega)
    have hnx := flB_next h5
    have hfl2 := flB_len R (i + 1)
    obtain ⟨x, hx⟩ : ∃ x, R.getD (i : Int).toNat Cel.no = x := ⟨_, rfl⟩
    have hx' : R.getD i [] = x := hx
    rw [hx'] at hnx
    have hxl : x.length ≤ 1100000 := by
      rw [hnx, List.length_append, List.length_map] at hfl2
      omega
    rcases o with _ | ⟨v, l⟩
    · (repeat (first | refine gq_FTF ?_ | (refine ga0A ?_; intro _hq)))
      rw [hx]
      (repeat (first | refine gq_FTF ?_ | (refine ga0A ?_; intro _hq)))
      (refine aw_rd [0, 2, 3, 7, 9, 23, 24, 25, 30] [32, 288] (fun g : Nat × Option (Nat × List Bool) => [(31, vI g.1)]) (fun g => [(112, (0, .box [.v (.int .i64 (R.length : Int)), oCell g.2, .v (.bool (fdH s))]))] ++ oBlk g.2) (fun g => g.1 ≤ x.length ∧ oL g.2 = flB R i ++ (x.take g.1).map eo) (fun g => x.length - g.1) (0, none) (by rfl) (by rfl) ?_ (by rfl) zHE zHE ?_)
      · exact ⟨Nat.zero_le _, by rw [List.take_zero, List.map_nil, List.append_nil]; exact ho⟩
      clear ho
      rintro ⟨j, o⟩ ⟨hj, ho⟩
      dsimp only at hj ho ⊢
      have hlo : (oL o).length ≤ 1100000 := by
        rw [ho, List.length_append, List.length_map, List.length_take]
        rw [hnx, List.length_append, List.length_map] at hfl2
        omega
      rcases Nat.lt_or_ge j x.length with h6 | h6
      · have hdj : decide ((j : Int) < (x.length : Int)) = true := decide_eq_true (by omega)
        have hsn := mapT_snoc h6
        rcases o with _ | ⟨u, m⟩
        · have hinv : j + 1 ≤ x.length ∧ oL (some (0, [eo (x.getD j 0)])) = flB R i ++ (x.take (j + 1)).map eo := ⟨h6, by rw [hsn, ← List.append_assoc, ← ho]; rfl⟩
          clear ho hsn
          (repeat (first | refine gq_FTF ?_ | (refine ga0A ?_; intro _hq)))
          (refine aw_draw mixed T0ok cfU_ok [(112, [0, 1, 8, 9]), (656, [7]), (640, [6, 7])] (by rfl) (by kernel_rfl) ?_)
          (repeat (first | refine gq_FTF ?_ | (refine ga0A ?_; intro _hq)))
          exact ⟨(j + 1, some (0, [eo (x.getD (j : Int).toNat 0)])), hinv, ⟨by rfl, zHE, zHE⟩, (by first | omega | (dsimp only; omega))⟩
        · have hml : m.length ≤ 1100000 := hlo
          have hinv : j + 1 ≤ x.length ∧ oL (some (u + 1, m ++ [eo (x.getD j 0)])) = flB R i ++ (x.take (j + 1)).map eo := ⟨h6, by rw [hsn, ← List.append_assoc, ← ho]; rfl⟩
          clear ho hsn
          (repeat (first | refine gq_FTF ?_ | (refine ga0A ?_; intro _hq)))
          (refine aw_draw mixed T0ok cfU_ok [(112, [0, 1, 8, 9]), (656, [7]), (640, [6, 7])] (by rfl) (by kernel_rfl) ?_)
          (repeat (first | refine gq_FTF ?_ | (refine ga0A ?_; intro _hq)))
          exact ⟨(j + 1, some (u + 1, m ++ [eo (x.getD (j : Int).toNat 0)])), hinv, ⟨by rfl, zHE, zHE⟩, (by first | omega | (dsimp only; omega))⟩
      · have hdj : decide ((j : Int) < (x.length : Int)) = false := decide_eq_false (by omega)
        obtain rfl : j = x.length := by omega
        rw [List.take_length, ← hnx] at ho
        have hinv : i + 1 ≤ R.length ∧ oL o = flB R (i + 1) := ⟨h5, ho⟩
        clear ho
        rcases o with _ | ⟨u, m⟩
        · (repeat (first | refine gq_FTF ?_ | (refine ga0A ?_; intro _hq)))
          exact ⟨(i + 1, none), hinv, ⟨by rfl, zHE, zHE⟩, (by first | omega | (dsimp only; omega))⟩
        · (repeat (first | refine gq_FTF ?_ | (refine ga0A ?_; intro _hq)))
          exact ⟨(i + 1, some (u, m)), hinv, ⟨by rfl, zHE, zHE⟩, (by first | omega | (dsimp only; omega))⟩
    · (repeat (first | refine gq_FTF ?_ | (refine ga0A ?_; intro _hq)))
      rw [hx]
      (repeat (first | refine gq_FTF ?_ | (refine ga0A ?_; intro _hq)))
      (refine aw_rd [0, 2, 3, 7, 9, 23, 24, 25, 30] [32, 288] (fun g : Nat × Option (Nat × List Bool) => [(31, vI g.1)]) (fun g => [(112, (0, .box [.v (.int .i64 (R.length : Int)), oCell g.2, .v (.bool (fdH s))]))] ++ oBlk g.2) (fun g => g.1 ≤ x.length ∧ oL g.2 = flB R i ++ (x.take g.1).map eo) (fun g => x.length - g.1) (0, some (v, l)) (by rfl) (by rfl) ?_ (by rfl) zHE zHE ?_)
      · exact ⟨Nat.zero_le _, by rw [List.take_zero, List.map_nil, List.append_nil]; exact ho⟩
      clear ho
      rintro ⟨j, o⟩ ⟨hj, ho⟩
      dsimp only at hj ho ⊢
      have hlo : (oL o).length ≤ 1100000 := by
        rw [ho, List.length_append, List.length_map, List.length_take]
        rw [hnx, List.length_append, List.length_map] at hfl2
        omega
      rcases Nat.lt_or_ge j x.length with h6 | h6
      · have hdj : decide ((j : Int) < (x.length : Int)) = true := decide_eq_true (by omega)
        have hsn := mapT_snoc h6
        rcases o with _ | ⟨u, m⟩
        · have hinv : j + 1 ≤ x.length ∧ oL (some (0, [eo (x.getD j 0)])) = flB R i ++ (x.take (j + 1)).map eo := ⟨h6, by rw [hsn, ← List.append_assoc, ← ho]; rfl⟩
          clear ho hsn
          (repeat (first | refine gq_FTF ?_ | (refine ga0A ?_; intro _hq)))
          (refine aw_draw mixed T0ok cfU_ok [(112, [0, 1, 8, 9]), (656, [7]), (640, [6, 7])] (by rfl) (by kernel_rfl) ?_)
          (repeat (first | refine gq_FTF ?_ | (refine ga0A ?_; intro _hq)))
          exact ⟨(j + 1, some (0, [eo (x.getD (j : Int).toNat 0)])), hinv, ⟨by rfl, zHE, zHE⟩, (by first | omega | (dsimp only; omega))⟩
        · have hml : m.length ≤ 1100000 := hlo
          have hinv : j + 1 ≤ x.length ∧ oL (some (u + 1, m ++ [eo (x.getD j 0)])) = flB R i ++ (x.take (j + 1)).map eo := ⟨h6, by rw [hsn, ← List.append_assoc, ← ho]; rfl⟩
          clear ho hsn
          (repeat (first | refine gq_FTF ?_ | (refine ga0A ?_; intro _hq)))
          (refine aw_draw mixed T0ok cfU_ok [(112, [0, 1, 8, 9]), (656, [7]), (640, [6, 7])] (by rfl) (by kernel_rfl) ?_)
          (repeat (first | refine gq_FTF ?_ | (refine ga0A ?_; intro _hq)))
          exact ⟨(j + 1, some (u + 1, m ++ [eo (x.getD (j : Int).toNat 0)])), hinv, ⟨by rfl, zHE, zHE⟩, (by first | omega | (dsimp only; omega))⟩
      · have hdj : decide ((j : Int) < (x.length : Int)) = false := decide_eq_false (by omega)
        obtain rfl : j = x.length := by omega
        rw [List.take_length, ← hnx] at ho
        have hinv : i + 1 ≤ R.length ∧ oL o = flB R (i + 1) := ⟨h5, ho⟩
        clear ho
        rcases o with _ | ⟨u, m⟩
        · (repeat (first | refine gq_FTF ?_ | (refine ga0A ?_; intro _hq)))
          exact ⟨(i + 1, none), hinv, ⟨by rfl, zHE, zHE⟩, (by first | omega | (dsimp only; omega))⟩
        · (repeat (first | refine gq_FTF ?_ | (refine ga0A ?_; intro _hq)))
          exact ⟨(i + 1, some (u, m)), hinv, ⟨by rfl, zHE, zHE⟩, (by first | omega | (dsimp only; omega))⟩
  · have hd : decide ((i : Int) < (R.length : Int)) = false := decide_eq_false (by omega)
    obtain rfl : i = R.length := by omega
    rw [hall] at ho
    have hLL : (fdL s).length ≤ 1100000 := by
      have := flB_len R R.length
      rw [hall] at this
      omega
    try rw [hFF] at hE
    skip
    clear hall hfl
    unfold fdK at h
    rw [hFF] at h
    have hT := k_ftI (R.length : Int) (fdL s) (fdH s)
    have hV : Kon Tryd.prog 9 [fAx (R.length : Int) (fdL s) (fdH s)] [] (vB (Fld.ok ⟨(R.length : Int), fdL s, fdH s⟩)) [] [] := Kon.of con_valid (cValid_at (R.length : Int) (fdL s) (fdH s))
    cases hk : Fld.ok ⟨(R.length : Int), fdL s, fdH s⟩ with
    | false =>
      rw [hk] at hV
      rcases o with _ | ⟨v, l⟩
      · have e : [] = fdL s := ho
        rw [← e] at hV hT
        clear hE hFF h e ho
        (repeat (first | refine gq_FTF ?_ | (refine ga0A ?_; intro _hq)))
        (refine rtA ?_; try rfl)
      · have e : l = fdL s := ho
        rw [← e] at hV hT
        clear hE hFF h e ho
        (repeat (first | refine gq_FTF ?_ | (refine ga0A ?_; intro _hq)))
        (refine rtA ?_; try rfl)
    | true =>
      rw [hk, Bool.true_and] at h
      rw [hk] at hV
      have hne : (!(ftx ⟨(R.length : Int), fdL s, fdH s⟩ == s)) = true := by rw [h]; rfl
      generalize ftx ⟨(R.length : Int), fdL s, fdH s⟩ = T at *
      rcases o with _ | ⟨v, l⟩
      · have e : [] = fdL s := ho
        rw [← e] at hV hT
        clear hE hFF h e ho hk
        (repeat (first | refine gq_FTF ?_ | (refine ga0A ?_; intro _hq)))
        (refine rtA ?_; try rfl)
      · have e : l = fdL s := ho
        rw [← e] at hV hT
        clear hE hFF h e ho hk
        (repeat (first | refine gq_FTF ?_ | (refine ga0A ?_; intro _hq)))
        (refine rtA ?_; try rfl)
end Go.Proofs.YtfoobfelgbcknaaDoor
