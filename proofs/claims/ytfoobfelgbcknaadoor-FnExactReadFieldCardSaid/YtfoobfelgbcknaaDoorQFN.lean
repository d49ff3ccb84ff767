/- FTG: laid into one text. -/
import Derived.Test.YtfoobfelgbcknaaDoorQFF
import Derived.Test.YtfoobfelgbcknaaDoorQFJ

namespace Go.Proofs.YtfoobfelgbcknaaDoor
set_option linter.unusedVariables false
set_option linter.unusedSimpArgs false
set_option maxRecDepth 20000
open Go.RowKit
attribute [local irreducible] runA runX AW
theorem gq_FTG {H G : Prop} (k : H) (h : Hid H → G := by (intro hh; repeat1' (first | (first | (refine nxA ?_; (first | (first | refine r_slen (by rfl) Tryd.underlying9 (by rfl) ?_ | refine r_sidx (by rfl) (by rfl) Tryd.underlying9 (by omega) (by rfl) ?_ | refine r_sne (by rfl) (by rfl) (by rfl) ?_ | refine r_seq (by rfl) (by rfl) (by rfl) ?_ | refine r_spiece (p := 1) (by rfl) (by rfl) (by rfl) Tryd.underlying9 (.inr rfl) (.inl ⟨rfl, rfl⟩) (by omega) (by rfl) ?_) | ((first | (refine z_op (by rfl) ?_; first | refine z_ok ?_ ?_ | refine z_ex ?_ (by first | exact zL1 | ((first | fail); exact zWW) | exact zL2 | exact rw_c Bool rfl | exact zL3 | fail) ?_) | ((first | refine q_callE wsT wsZG (by rfl) ?_ | refine q_callVE wsT (by rfl) (by rfl) ?_); refine ⟨_, _, _, (by first | assumption | exact k_cutS _ (by omega) | exact k_ftS _ _ _), _, by rfl, ?_, ?_⟩)); focus (first | exact trivial | fail | exact zQZ)) | fail)) | refine swA ?_) | refine awA ?_); exact hh.out)) : G := h ⟨k⟩
def wsZG : List (Nat × Nat) := [(8, 1), (999999, 0)]
abbrev qCell (o : Option (Nat × List Bool)) : AC := match o with
  | none => .v (.slice none 0 0)
  | some (v, l) => .sl 832 v l.length
abbrev qBlk (o : Option (Nat × List Bool)) : List (Nat × (Nat × Ent)) := match o with
  | none => []
  | some (v, l) => [(832, (v, rwE 4 l))]
def qL (o : Option (Nat × List Bool)) : List Bool := match o with
  | none => []
  | some (v, l) => l
theorem rev_at (C : List (List UInt8)) (r : Nat) (h : r < C.length) : C.reverse.getD (C.length - (r + 1)) [] = C.getD r [] := by
  have h1 : C.length - (r + 1) < C.reverse.length := by rw [List.length_reverse]; omega
  have h2 : C.length - 1 - (C.length - (r + 1)) = r := by omega
  rw [List.getD_eq_getElem?_getD, List.getElem?_eq_getElem h1, List.getElem_reverse, List.getD_eq_getElem?_getD, List.getElem?_eq_getElem h]
  simp only [h2]
set_option maxHeartbeats 8000000 in
theorem k_rfS (s : List UInt8) (hs : s.length ≤ 1100000) (h : fdK s = true) : Kon Tryd.prog 13 [vS s] [] (.tup [.agg [.v (.int .i64 (fdF s).s), .sl 0 0 (fdF s).l.length, .v (.bool (fdF s).b)], .one (.v (.bool true))]) [rwE 4 (fdF s).l] [] := by
  have hE := fdK_t h
  have hBl : (fdB s).length ≤ s.length := by unfold fdB; split <;> simp
  rcases s with _ | ⟨c, s⟩
  · exact absurd hE.1 (by decide)
  have hlen : (c :: s).length = s.length + 1 := rfl
  have hne : (!(c :: s == ([] : List UInt8))) = true := rfl
  have hne2 : (c :: s == ([] : List UInt8)) = false := rfl
  cases hc : ((c.toNat : Int) == 33) with
  | true =>
    have hc' : ((((c :: s).getD (0 : Int).toNat 0).toNat : Int) == 33) = true := hc
    have hH : fdH (c :: s) = true := by
      have e : c = 33 := UInt8.toNat_inj.1 (by have : (33 : UInt8).toNat = 33 := rfl; rw [beq_iff_eq] at hc; omega)
      rw [e]; rfl
    have hdr : ((c :: s).drop 1).take ((c :: s).length - 1) = fdB (c :: s) := by
      unfold fdB; rw [hH, if_pos rfl]
      exact List.take_of_length_le (by simp)
    (refine kM Tryd.func13 rfl ?_; intro hfit hfe)
    (repeat (first | refine gq_FTG ?_ | (refine ga0A ?_; intro _hq)))
    rw [hdr]
    have hall := flB_all (c :: s)
    have hFF : fdF (c :: s) = ⟨((fdR (c :: s)).length : Int), fdL (c :: s), fdH (c :: s)⟩ := rfl
    have hfl := fdR_flat (c :: s)
    have hcl := cutA_len 47 (fdB (c :: s)) []
    have hRR : fdR (c :: s) = (cutA 47 [] (fdB (c :: s))).reverse := rfl
    rw [hRR] at hfl hall hFF
    have hCT := k_cutS (fdB (c :: s)) (by omega)
    generalize cutA 47 [] (fdB (c :: s)) = C at *
    rw [List.length_reverse] at hall hFF
    rw [hH] at hFF
    clear hdr
    (repeat (first | refine gq_FTG ?_ | (refine ga0A ?_; intro _hq)))
    (refine aw_rd [0, 2, 3, 4, 6] [32, 352] (fun g : Nat × Option (Nat × List Bool) => [(7, vI ((g.1 : Int) - 1))]) (fun g => [(64, (0, .box [.v (.int .i64 (C.length : Int)), qCell g.2, .v (.bool true)]))] ++ qBlk g.2) (fun g => g.1 ≤ C.length ∧ qL g.2 = flB C.reverse (C.length - g.1)) (fun g => g.1) (C.length, none) (by rfl) (by rfl) ?_ (by rfl) zHE zHE ?_)
    · exact ⟨Nat.le_refl _, by rw [Nat.sub_self]; rfl⟩
    rintro ⟨r, o⟩ ⟨hi, ho⟩
    dsimp only at hi ho ⊢
    rcases r with _ | r
    · have hd : decide (((0 : Nat) : Int) - 1 ≥ 0) = false := by decide
      rw [Nat.sub_zero, hall] at ho
      have hLL : (fdL (c :: s)).length ≤ 1100000 := by
        have := flB_len C.reverse C.length
        rw [hall] at this
        omega
      try rw [hFF] at hE
      obtain ⟨hk, hft⟩ := hE
      obtain ⟨k1, k2, k3, k4, _⟩ := Fld.ok_facts hk
      have hpos : 0 < (fdL (c :: s)).length := by
        have h8 : (C.length : Int) = 2 ∨ (C.length : Int) = 4 ∨ (C.length : Int) = 6 ∨ (C.length : Int) = 8 := by omega
        rcases h8 with e | e | e | e <;> rw [e] at k3 <;> omega
      rw [hFF]
      rcases o with _ | ⟨v, l⟩
      · have e : fdL (c :: s) = [] := ho.symm
        rw [e] at hpos
        exact absurd hpos (by decide)
      · have e : l = fdL (c :: s) := ho
        rw [← e] at hft k4 ⊢
        clear e ho hLL hall hfl hk k3 hpos hFF h hH
        have hT := k_ftS (C.length : Int) l true
        rw [hft] at hT
        have hnn : (!(c :: s == c :: s)) = false := by simp
        clear hft
        (repeat (first | refine gq_FTG ?_ | (refine ga0A ?_; intro _hq)))
        (refine rtA ?_; try rfl)
    · have hd : decide (((r + 1 : Nat) : Int) - 1 ≥ 0) = true := decide_eq_true (by omega)
      have hlr : C.length - (r + 1) < C.reverse.length := by rw [List.length_reverse]; omega
      have hnx := flB_next hlr
      rw [rev_at C r (by omega)] at hnx
      have hfl2 := flB_len C.reverse (C.length - (r + 1) + 1)
      obtain ⟨x, hx⟩ : ∃ x, C.getD (((r + 1 : Nat) : Int) - 1).toNat Cel.no = x := ⟨_, rfl⟩
      have hx' : C.getD r [] = x := by
        rw [show (((r + 1 : Nat) : Int) - 1).toNat = r by omega] at hx
        exact hx
      rw [hx'] at hnx
      have hxl : x.length ≤ 1100000 := by
        rw [hnx, List.length_append, List.length_map] at hfl2
        omega
      rcases o with _ | ⟨v, l⟩
      (repeat (first | refine gq_FTG ?_ | (refine ga0A ?_; intro _hq)))
      (refine aw_rd [0, 2, 3, 4, 6, 7] [32, 352] (fun g : Nat × Option (Nat × List Bool) => [(8, vI g.1)]) (fun g => [(64, (0, .box [.v (.int .i64 (C.length : Int)), qCell g.2, .v (.bool true)]))] ++ qBlk g.2) (fun g => g.1 ≤ x.length ∧ qL g.2 = flB C.reverse (C.length - (r + 1)) ++ (x.take g.1).map eo) (fun g => x.length - g.1) (0, none) (by rfl) (by rfl) ?_ (by rfl) zHE zHE ?_)
      · exact ⟨Nat.zero_le _, by rw [List.take_zero, List.map_nil, List.append_nil]; exact ho⟩
      clear ho
      rintro ⟨j, o⟩ ⟨hj, ho⟩
      dsimp only at hj ho ⊢
      have hlo : (qL o).length ≤ 1100000 := by
        rw [ho, List.length_append, List.length_map, List.length_take]
        rw [hnx, List.length_append, List.length_map] at hfl2
        omega
      rcases Nat.lt_or_ge j x.length with h6 | h6
      · have hdj : decide ((j : Int) < (x.length : Int)) = true := decide_eq_true (by omega)
        have hsn := mapT_snoc h6
        rcases o with _ | ⟨u, m⟩
        · have hinv : j + 1 ≤ x.length ∧ qL (some (0, [eo (x.getD j 0)])) = flB C.reverse (C.length - (r + 1)) ++ (x.take (j + 1)).map eo := ⟨h6, by rw [hsn, ← List.append_assoc, ← ho]; rfl⟩
          clear ho hsn
          (repeat (first | refine gq_FTG ?_ | (refine ga0A ?_; intro _hq)))
          rw [hx]
          (repeat (first | refine gq_FTG ?_ | (refine ga0A ?_; intro _hq)))
          (refine aw_draw mixed T0ok cfU_ok [(64, [0, 1, 11, 12]), (832, [10]), (816, [9, 10])] (by rfl) (by kernel_rfl) ?_)
          (repeat (first | refine gq_FTG ?_ | (refine ga0A ?_; intro _hq)))
          rw [hx]
          (repeat (first | refine gq_FTG ?_ | (refine ga0A ?_; intro _hq)))
          exact ⟨(j + 1, some (0, [eo (x.getD (j : Int).toNat 0)])), hinv, ⟨by rfl, zHE, zHE⟩, (by first | omega | (dsimp only; omega))⟩
        · have hml : m.length ≤ 1100000 := hlo
          have hinv : j + 1 ≤ x.length ∧ qL (some (u + 1, m ++ [eo (x.getD j 0)])) = flB C.reverse (C.length - (r + 1)) ++ (x.take (j + 1)).map eo := ⟨h6, by rw [hsn, ← List.append_assoc, ← ho]; rfl⟩
          clear ho hsn
          (repeat (first | refine gq_FTG ?_ | (refine ga0A ?_; intro _hq)))
          rw [hx]
          (repeat (first | refine gq_FTG ?_ | (refine ga0A ?_; intro _hq)))
          (refine aw_draw mixed T0ok cfU_ok [(64, [0, 1, 11, 12]), (832, [10]), (816, [9, 10])] (by rfl) (by kernel_rfl) ?_)
          (repeat (first | refine gq_FTG ?_ | (refine ga0A ?_; intro _hq)))
          rw [hx]
          (repeat (first | refine gq_FTG ?_ | (refine ga0A ?_; intro _hq)))
          exact ⟨(j + 1, some (u + 1, m ++ [eo (x.getD (j : Int).toNat 0)])), hinv, ⟨by rfl, zHE, zHE⟩, (by first | omega | (dsimp only; omega))⟩
      · have hdj : decide ((j : Int) < (x.length : Int)) = false := decide_eq_false (by omega)
        obtain rfl : j = x.length := by omega
        rw [List.take_length, ← hnx] at ho
        have hinv : r ≤ C.length ∧ qL o = flB C.reverse (C.length - r) := ⟨by omega, by rw [ho, show C.length - (r + 1) + 1 = C.length - r by omega]⟩
        have e3 : ((r + 1 : Nat) : Int) - 1 - 1 = (r : Int) - 1 := by omega
        clear ho
        rcases o with _ | ⟨u, m⟩
        · (repeat (first | refine gq_FTG ?_ | (refine ga0A ?_; intro _hq)))
          rw [hx]
          (repeat (first | refine gq_FTG ?_ | (refine ga0A ?_; intro _hq)))
          exact ⟨(r, none), hinv, ⟨by rfl, ⟨vI_of (by rfl) e3, zHE⟩, zHE⟩, (by first | omega | (dsimp only; omega))⟩
        · (repeat (first | refine gq_FTG ?_ | (refine ga0A ?_; intro _hq)))
          rw [hx]
          (repeat (first | refine gq_FTG ?_ | (refine ga0A ?_; intro _hq)))
          exact ⟨(r, some (u, m)), hinv, ⟨by rfl, ⟨vI_of (by rfl) e3, zHE⟩, zHE⟩, (by first | omega | (dsimp only; omega))⟩
      (repeat (first | refine gq_FTG ?_ | (refine ga0A ?_; intro _hq)))
      (refine aw_rd [0, 2, 3, 4, 6, 7] [32, 352] (fun g : Nat × Option (Nat × List Bool) => [(8, vI g.1)]) (fun g => [(64, (0, .box [.v (.int .i64 (C.length : Int)), qCell g.2, .v (.bool true)]))] ++ qBlk g.2) (fun g => g.1 ≤ x.length ∧ qL g.2 = flB C.reverse (C.length - (r + 1)) ++ (x.take g.1).map eo) (fun g => x.length - g.1) (0, some (v, l)) (by rfl) (by rfl) ?_ (by rfl) zHE zHE ?_)
      · exact ⟨Nat.zero_le _, by rw [List.take_zero, List.map_nil, List.append_nil]; exact ho⟩
      clear ho
      rintro ⟨j, o⟩ ⟨hj, ho⟩
      dsimp only at hj ho ⊢
      have hlo : (qL o).length ≤ 1100000 := by
        rw [ho, List.length_append, List.length_map, List.length_take]
        rw [hnx, List.length_append, List.length_map] at hfl2
        omega
      rcases Nat.lt_or_ge j x.length with h6 | h6
      · have hdj : decide ((j : Int) < (x.length : Int)) = true := decide_eq_true (by omega)
        have hsn := mapT_snoc h6
        rcases o with _ | ⟨u, m⟩
        · have hinv : j + 1 ≤ x.length ∧ qL (some (0, [eo (x.getD j 0)])) = flB C.reverse (C.length - (r + 1)) ++ (x.take (j + 1)).map eo := ⟨h6, by rw [hsn, ← List.append_assoc, ← ho]; rfl⟩
          clear ho hsn
          (repeat (first | refine gq_FTG ?_ | (refine ga0A ?_; intro _hq)))
          rw [hx]
          (repeat (first | refine gq_FTG ?_ | (refine ga0A ?_; intro _hq)))
          (refine aw_draw mixed T0ok cfU_ok [(64, [0, 1, 11, 12]), (832, [10]), (816, [9, 10])] (by rfl) (by kernel_rfl) ?_)
          (repeat (first | refine gq_FTG ?_ | (refine ga0A ?_; intro _hq)))
          rw [hx]
          (repeat (first | refine gq_FTG ?_ | (refine ga0A ?_; intro _hq)))
          exact ⟨(j + 1, some (0, [eo (x.getD (j : Int).toNat 0)])), hinv, ⟨by rfl, zHE, zHE⟩, (by first | omega | (dsimp only; omega))⟩
        · have hml : m.length ≤ 1100000 := hlo
          have hinv : j + 1 ≤ x.length ∧ qL (some (u + 1, m ++ [eo (x.getD j 0)])) = flB C.reverse (C.length - (r + 1)) ++ (x.take (j + 1)).map eo := ⟨h6, by rw [hsn, ← List.append_assoc, ← ho]; rfl⟩
          clear ho hsn
          (repeat (first | refine gq_FTG ?_ | (refine ga0A ?_; intro _hq)))
          rw [hx]
          (repeat (first | refine gq_FTG ?_ | (refine ga0A ?_; intro _hq)))
          (refine aw_draw mixed T0ok cfU_ok [(64, [0, 1, 11, 12]), (832, [10]), (816, [9, 10])] (by rfl) (by kernel_rfl) ?_)
          (repeat (first | refine gq_FTG ?_ | (refine ga0A ?_; intro _hq)))
          rw [hx]
          (repeat (first | refine gq_FTG ?_ | (refine ga0A ?_; intro _hq)))
          exact ⟨(j + 1, some (u + 1, m ++ [eo (x.getD (j : Int).toNat 0)])), hinv, ⟨by rfl, zHE, zHE⟩, (by first | omega | (dsimp only; omega))⟩
      · have hdj : decide ((j : Int) < (x.length : Int)) = false := decide_eq_false (by omega)
        obtain rfl : j = x.length := by omega
        rw [List.take_length, ← hnx] at ho
        have hinv : r ≤ C.length ∧ qL o = flB C.reverse (C.length - r) := ⟨by omega, by rw [ho, show C.length - (r + 1) + 1 = C.length - r by omega]⟩
        have e3 : ((r + 1 : Nat) : Int) - 1 - 1 = (r : Int) - 1 := by omega
        clear ho
        rcases o with _ | ⟨u, m⟩
        · (repeat (first | refine gq_FTG ?_ | (refine ga0A ?_; intro _hq)))
          rw [hx]
          (repeat (first | refine gq_FTG ?_ | (refine ga0A ?_; intro _hq)))
          exact ⟨(r, none), hinv, ⟨by rfl, ⟨vI_of (by rfl) e3, zHE⟩, zHE⟩, (by first | omega | (dsimp only; omega))⟩
        · (repeat (first | refine gq_FTG ?_ | (refine ga0A ?_; intro _hq)))
          rw [hx]
          (repeat (first | refine gq_FTG ?_ | (refine ga0A ?_; intro _hq)))
          exact ⟨(r, some (u, m)), hinv, ⟨by rfl, ⟨vI_of (by rfl) e3, zHE⟩, zHE⟩, (by first | omega | (dsimp only; omega))⟩
  | false =>
    have hc' : ((((c :: s).getD (0 : Int).toNat 0).toNat : Int) == 33) = false := hc
    have hH : fdH (c :: s) = false := by
      unfold fdH
      rw [List.head?_cons, beq_eq_false_iff_ne]
      intro e
      cases e
      rw [beq_eq_false_iff_ne] at hc
      exact hc rfl
    have hdr : fdB (c :: s) = c :: s := by unfold fdB; rw [hH, if_neg (by decide)]
    have hcd : cutA 47 [] (c :: s) = cutA 47 [] (fdB (c :: s)) := by rw [hdr]
    (refine kM Tryd.func13 rfl ?_; intro hfit hfe)
    (repeat (first | refine gq_FTG ?_ | (refine ga0A ?_; intro _hq)))
    rw [hcd]
    have hall := flB_all (c :: s)
    have hFF : fdF (c :: s) = ⟨((fdR (c :: s)).length : Int), fdL (c :: s), fdH (c :: s)⟩ := rfl
    have hfl := fdR_flat (c :: s)
    have hcl := cutA_len 47 (fdB (c :: s)) []
    have hRR : fdR (c :: s) = (cutA 47 [] (fdB (c :: s))).reverse := rfl
    rw [hRR] at hfl hall hFF
    have hCT := k_cutS (fdB (c :: s)) (by omega)
    generalize cutA 47 [] (fdB (c :: s)) = C at *
    rw [List.length_reverse] at hall hFF
    rw [hH] at hFF
    clear hdr hcd
    (repeat (first | refine gq_FTG ?_ | (refine ga0A ?_; intro _hq)))
    (refine aw_rd [0, 2, 3, 4, 6] [32, 352] (fun g : Nat × Option (Nat × List Bool) => [(7, vI ((g.1 : Int) - 1))]) (fun g => [(64, (0, .box [.v (.int .i64 (C.length : Int)), qCell g.2, .v (.bool false)]))] ++ qBlk g.2) (fun g => g.1 ≤ C.length ∧ qL g.2 = flB C.reverse (C.length - g.1)) (fun g => g.1) (C.length, none) (by rfl) (by rfl) ?_ (by rfl) zHE zHE ?_)
    · exact ⟨Nat.le_refl _, by rw [Nat.sub_self]; rfl⟩
    rintro ⟨r, o⟩ ⟨hi, ho⟩
    dsimp only at hi ho ⊢
    rcases r with _ | r
    · have hd : decide (((0 : Nat) : Int) - 1 ≥ 0) = false := by decide
      rw [Nat.sub_zero, hall] at ho
      have hLL : (fdL (c :: s)).length ≤ 1100000 := by
        have := flB_len C.reverse C.length
        rw [hall] at this
        omega
      try rw [hFF] at hE
      obtain ⟨hk, hft⟩ := hE
      obtain ⟨k1, k2, k3, k4, _⟩ := Fld.ok_facts hk
      have hpos : 0 < (fdL (c :: s)).length := by
        have h8 : (C.length : Int) = 2 ∨ (C.length : Int) = 4 ∨ (C.length : Int) = 6 ∨ (C.length : Int) = 8 := by omega
        rcases h8 with e | e | e | e <;> rw [e] at k3 <;> omega
      rw [hFF]
      rcases o with _ | ⟨v, l⟩
      · have e : fdL (c :: s) = [] := ho.symm
        rw [e] at hpos
        exact absurd hpos (by decide)
      · have e : l = fdL (c :: s) := ho
        rw [← e] at hft k4 ⊢
        clear e ho hLL hall hfl hk k3 hpos hFF h hH
        have hT := k_ftS (C.length : Int) l false
        rw [hft] at hT
        have hnn : (!(c :: s == c :: s)) = false := by simp
        clear hft
        (repeat (first | refine gq_FTG ?_ | (refine ga0A ?_; intro _hq)))
        (refine rtA ?_; try rfl)
    · have hd : decide (((r + 1 : Nat) : Int) - 1 ≥ 0) = true := decide_eq_true (by omega)
      have hlr : C.length - (r + 1) < C.reverse.length := by rw [List.length_reverse]; omega
      have hnx := flB_next hlr
      rw [rev_at C r (by omega)] at hnx
      have hfl2 := flB_len C.reverse (C.length - (r + 1) + 1)
      obtain ⟨x, hx⟩ : ∃ x, C.getD (((r + 1 : Nat) : Int) - 1).toNat Cel.no = x := ⟨_, rfl⟩
      have hx' : C.getD r [] = x := by
        rw [show (((r + 1 : Nat) : Int) - 1).toNat = r by omega] at hx
        exact hx
      rw [hx'] at hnx
      have hxl : x.length ≤ 1100000 := by
        rw [hnx, List.length_append, List.length_map] at hfl2
        omega
      rcases o with _ | ⟨v, l⟩
      (repeat (first | refine gq_FTG ?_ | (refine ga0A ?_; intro _hq)))
      (refine aw_rd [0, 2, 3, 4, 6, 7] [32, 352] (fun g : Nat × Option (Nat × List Bool) => [(8, vI g.1)]) (fun g => [(64, (0, .box [.v (.int .i64 (C.length : Int)), qCell g.2, .v (.bool false)]))] ++ qBlk g.2) (fun g => g.1 ≤ x.length ∧ qL g.2 = flB C.reverse (C.length - (r + 1)) ++ (x.take g.1).map eo) (fun g => x.length - g.1) (0, none) (by rfl) (by rfl) ?_ (by rfl) zHE zHE ?_)
      · exact ⟨Nat.zero_le _, by rw [List.take_zero, List.map_nil, List.append_nil]; exact ho⟩
      clear ho
      rintro ⟨j, o⟩ ⟨hj, ho⟩
      dsimp only at hj ho ⊢
      have hlo : (qL o).length ≤ 1100000 := by
        rw [ho, List.length_append, List.length_map, List.length_take]
        rw [hnx, List.length_append, List.length_map] at hfl2
        omega
      rcases Nat.lt_or_ge j x.length with h6 | h6
      · have hdj : decide ((j : Int) < (x.length : Int)) = true := decide_eq_true (by omega)
        have hsn := mapT_snoc h6
        rcases o with _ | ⟨u, m⟩
        · have hinv : j + 1 ≤ x.length ∧ qL (some (0, [eo (x.getD j 0)])) = flB C.reverse (C.length - (r + 1)) ++ (x.take (j + 1)).map eo := ⟨h6, by rw [hsn, ← List.append_assoc, ← ho]; rfl⟩
          clear ho hsn
          (repeat (first | refine gq_FTG ?_ | (refine ga0A ?_; intro _hq)))
          rw [hx]
          (repeat (first | refine gq_FTG ?_ | (refine ga0A ?_; intro _hq)))
          (refine aw_draw mixed T0ok cfU_ok [(64, [0, 1, 11, 12]), (832, [10]), (816, [9, 10])] (by rfl) (by kernel_rfl) ?_)
          (repeat (first | refine gq_FTG ?_ | (refine ga0A ?_; intro _hq)))
          rw [hx]
          (repeat (first | refine gq_FTG ?_ | (refine ga0A ?_; intro _hq)))
          exact ⟨(j + 1, some (0, [eo (x.getD (j : Int).toNat 0)])), hinv, ⟨by rfl, zHE, zHE⟩, (by first | omega | (dsimp only; omega))⟩
        · have hml : m.length ≤ 1100000 := hlo
          have hinv : j + 1 ≤ x.length ∧ qL (some (u + 1, m ++ [eo (x.getD j 0)])) = flB C.reverse (C.length - (r + 1)) ++ (x.take (j + 1)).map eo := ⟨h6, by rw [hsn, ← List.append_assoc, ← ho]; rfl⟩
          clear ho hsn
          (repeat (first | refine gq_FTG ?_ | (refine ga0A ?_; intro _hq)))
          rw [hx]
          (repeat (first | refine gq_FTG ?_ | (refine ga0A ?_; intro _hq)))
          (refine aw_draw mixed T0ok cfU_ok [(64, [0, 1, 11, 12]), (832, [10]), (816, [9, 10])] (by rfl) (by kernel_rfl) ?_)
          (repeat (first | refine gq_FTG ?_ | (refine ga0A ?_; intro _hq)))
          rw [hx]
          (repeat (first | refine gq_FTG ?_ | (refine ga0A ?_; intro _hq)))
          exact ⟨(j + 1, some (u + 1, m ++ [eo (x.getD (j : Int).toNat 0)])), hinv, ⟨by rfl, zHE, zHE⟩, (by first | omega | (dsimp only; omega))⟩
      · have hdj : decide ((j : Int) < (x.length : Int)) = false := decide_eq_false (by omega)
        obtain rfl : j = x.length := by omega
        rw [List.take_length, ← hnx] at ho
        have hinv : r ≤ C.length ∧ qL o = flB C.reverse (C.length - r) := ⟨by omega, by rw [ho, show C.length - (r + 1) + 1 = C.length - r by omega]⟩
        have e3 : ((r + 1 : Nat) : Int) - 1 - 1 = (r : Int) - 1 := by omega
        clear ho
        rcases o with _ | ⟨u, m⟩
        · (repeat (first | refine gq_FTG ?_ | (refine ga0A ?_; intro _hq)))
          rw [hx]
          (repeat (first | refine gq_FTG ?_ | (refine ga0A ?_; intro _hq)))
          exact ⟨(r, none), hinv, ⟨by rfl, ⟨vI_of (by rfl) e3, zHE⟩, zHE⟩, (by first | omega | (dsimp only; omega))⟩
        · (repeat (first | refine gq_FTG ?_ | (refine ga0A ?_; intro _hq)))
          rw [hx]
          (repeat (first | refine gq_FTG ?_ | (refine ga0A ?_; intro _hq)))
          exact ⟨(r, some (u, m)), hinv, ⟨by rfl, ⟨vI_of (by rfl) e3, zHE⟩, zHE⟩, (by first | omega | (dsimp only; omega))⟩
      (repeat (first | refine gq_FTG ?_ | (refine ga0A ?_; intro _hq)))
      (refine aw_rd [0, 2, 3, 4, 6, 7] [32, 352] (fun g : Nat × Option (Nat × List Bool) => [(8, vI g.1)]) (fun g => [(64, (0, .box [.v (.int .i64 (C.length : Int)), qCell g.2, .v (.bool false)]))] ++ qBlk g.2) (fun g => g.1 ≤ x.length ∧ qL g.2 = flB C.reverse (C.length - (r + 1)) ++ (x.take g.1).map eo) (fun g => x.length - g.1) (0, some (v, l)) (by rfl) (by rfl) ?_ (by rfl) zHE zHE ?_)
      · exact ⟨Nat.zero_le _, by rw [List.take_zero, List.map_nil, List.append_nil]; exact ho⟩
      clear ho
      rintro ⟨j, o⟩ ⟨hj, ho⟩
      dsimp only at hj ho ⊢
      have hlo : (qL o).length ≤ 1100000 := by
        rw [ho, List.length_append, List.length_map, List.length_take]
        rw [hnx, List.length_append, List.length_map] at hfl2
        omega
      rcases Nat.lt_or_ge j x.length with h6 | h6
      · have hdj : decide ((j : Int) < (x.length : Int)) = true := decide_eq_true (by omega)
        have hsn := mapT_snoc h6
        rcases o with _ | ⟨u, m⟩
        · have hinv : j + 1 ≤ x.length ∧ qL (some (0, [eo (x.getD j 0)])) = flB C.reverse (C.length - (r + 1)) ++ (x.take (j + 1)).map eo := ⟨h6, by rw [hsn, ← List.append_assoc, ← ho]; rfl⟩
          clear ho hsn
          (repeat (first | refine gq_FTG ?_ | (refine ga0A ?_; intro _hq)))
          rw [hx]
          (repeat (first | refine gq_FTG ?_ | (refine ga0A ?_; intro _hq)))
          (refine aw_draw mixed T0ok cfU_ok [(64, [0, 1, 11, 12]), (832, [10]), (816, [9, 10])] (by rfl) (by kernel_rfl) ?_)
          (repeat (first | refine gq_FTG ?_ | (refine ga0A ?_; intro _hq)))
          rw [hx]
          (repeat (first | refine gq_FTG ?_ | (refine ga0A ?_; intro _hq)))
          exact ⟨(j + 1, some (0, [eo (x.getD (j : Int).toNat 0)])), hinv, ⟨by rfl, zHE, zHE⟩, (by first | omega | (dsimp only; omega))⟩
        · have hml : m.length ≤ 1100000 := hlo
          have hinv : j + 1 ≤ x.length ∧ qL (some (u + 1, m ++ [eo (x.getD j 0)])) = flB C.reverse (C.length - (r + 1)) ++ (x.take (j + 1)).map eo := ⟨h6, by rw [hsn, ← List.append_assoc, ← ho]; rfl⟩
          clear ho hsn
          (repeat (first | refine gq_FTG ?_ | (refine ga0A ?_; intro _hq)))
          rw [hx]
          (repeat (first | refine gq_FTG ?_ | (refine ga0A ?_; intro _hq)))
          (refine aw_draw mixed T0ok cfU_ok [(64, [0, 1, 11, 12]), (832, [10]), (816, [9, 10])] (by rfl) (by kernel_rfl) ?_)
          (repeat (first | refine gq_FTG ?_ | (refine ga0A ?_; intro _hq)))
          rw [hx]
          (repeat (first | refine gq_FTG ?_ | (refine ga0A ?_; intro _hq)))
          exact ⟨(j + 1, some (u + 1, m ++ [eo (x.getD (j : Int).toNat 0)])), hinv, ⟨by rfl, zHE, zHE⟩, (by first | omega | (dsimp only; omega))⟩
      · have hdj : decide ((j : Int) < (x.length : Int)) = false := decide_eq_false (by omega)
        obtain rfl : j = x.length := by omega
        rw [List.take_length, ← hnx] at ho
        have hinv : r ≤ C.length ∧ qL o = flB C.reverse (C.length - r) := ⟨by omega, by rw [ho, show C.length - (r + 1) + 1 = C.length - r by omega]⟩
        have e3 : ((r + 1 : Nat) : Int) - 1 - 1 = (r : Int) - 1 := by omega
        clear ho
        rcases o with _ | ⟨u, m⟩
        · (repeat (first | refine gq_FTG ?_ | (refine ga0A ?_; intro _hq)))
          rw [hx]
          (repeat (first | refine gq_FTG ?_ | (refine ga0A ?_; intro _hq)))
          exact ⟨(r, none), hinv, ⟨by rfl, ⟨vI_of (by rfl) e3, zHE⟩, zHE⟩, (by first | omega | (dsimp only; omega))⟩
        · (repeat (first | refine gq_FTG ?_ | (refine ga0A ?_; intro _hq)))
          rw [hx]
          (repeat (first | refine gq_FTG ?_ | (refine ga0A ?_; intro _hq)))
          exact ⟨(r, some (u, m)), hinv, ⟨by rfl, ⟨vI_of (by rfl) e3, zHE⟩, zHE⟩, (by first | omega | (dsimp only; omega))⟩
set_option maxHeartbeats 8000000 in
theorem k_rfS0 (s : List UInt8) (hs : s.length ≤ 1100000) (h : fdK s = false) : Kon Tryd.prog 13 [vS s] [] (.tup [.agg [.v (.int .i64 0), .v (.slice none 0 0), .v (.bool false)], .one (.v (.bool false))]) [] [] := by
  have hE : (0 : Int) = 0 := rfl
  have hBl : (fdB s).length ≤ s.length := by unfold fdB; split <;> simp
  rcases s with _ | ⟨c, s⟩
  · have hb0 : (!(([] : List UInt8) == [])) = false := rfl
    have hb1 : (([] : List UInt8) == []) = true := rfl
    have hC := k_cutS [] (by decide)
    rw [show cutA 47 [] ([] : List UInt8) = [[]] from rfl] at hC
    clear h hE hBl
    (refine kM Tryd.func13 rfl ?_; intro hfit hfe)
    (repeat (first | refine gq_FTG ?_ | (refine ga0A ?_; intro _hq)))
    refine aw_unroll 3 ?_
    (repeat (first | refine gq_FTG ?_ | (refine ga0A ?_; intro _hq)))
    refine aw_unroll 3 ?_
    (repeat (first | refine gq_FTG ?_ | (refine ga0A ?_; intro _hq)))
    (refine rtA ?_; try rfl)
  have hlen : (c :: s).length = s.length + 1 := rfl
  have hne : (!(c :: s == ([] : List UInt8))) = true := rfl
  have hne2 : (c :: s == ([] : List UInt8)) = false := rfl
  cases hc : ((c.toNat : Int) == 33) with
  | true =>
    have hc' : ((((c :: s).getD (0 : Int).toNat 0).toNat : Int) == 33) = true := hc
    have hH : fdH (c :: s) = true := by
      have e : c = 33 := UInt8.toNat_inj.1 (by have : (33 : UInt8).toNat = 33 := rfl; rw [beq_iff_eq] at hc; omega)
      rw [e]; rfl
    have hdr : ((c :: s).drop 1).take ((c :: s).length - 1) = fdB (c :: s) := by
      unfold fdB; rw [hH, if_pos rfl]
      exact List.take_of_length_le (by simp)
    (refine kM Tryd.func13 rfl ?_; intro hfit hfe)
    (repeat (first | refine gq_FTG ?_ | (refine ga0A ?_; intro _hq)))
    rw [hdr]
    have hall := flB_all (c :: s)
    have hFF : fdF (c :: s) = ⟨((fdR (c :: s)).length : Int), fdL (c :: s), fdH (c :: s)⟩ := rfl
    have hfl := fdR_flat (c :: s)
    have hcl := cutA_len 47 (fdB (c :: s)) []
    have hRR : fdR (c :: s) = (cutA 47 [] (fdB (c :: s))).reverse := rfl
    rw [hRR] at hfl hall hFF
    have hCT := k_cutS (fdB (c :: s)) (by omega)
    generalize cutA 47 [] (fdB (c :: s)) = C at *
    rw [List.length_reverse] at hall hFF
    rw [hH] at hFF
    clear hdr
    (repeat (first | refine gq_FTG ?_ | (refine ga0A ?_; intro _hq)))
    (refine aw_rd [0, 2, 3, 4, 6] [32, 352] (fun g : Nat × Option (Nat × List Bool) => [(7, vI ((g.1 : Int) - 1))]) (fun g => [(64, (0, .box [.v (.int .i64 (C.length : Int)), qCell g.2, .v (.bool true)]))] ++ qBlk g.2) (fun g => g.1 ≤ C.length ∧ qL g.2 = flB C.reverse (C.length - g.1)) (fun g => g.1) (C.length, none) (by rfl) (by rfl) ?_ (by rfl) zHE zHE ?_)
    · exact ⟨Nat.le_refl _, by rw [Nat.sub_self]; rfl⟩
    rintro ⟨r, o⟩ ⟨hi, ho⟩
    dsimp only at hi ho ⊢
    rcases r with _ | r
    · have hd : decide (((0 : Nat) : Int) - 1 ≥ 0) = false := by decide
      rw [Nat.sub_zero, hall] at ho
      have hLL : (fdL (c :: s)).length ≤ 1100000 := by
        have := flB_len C.reverse C.length
        rw [hall] at this
        omega
      try rw [hFF] at hE
      have hnn : (!(ftx ⟨(C.length : Int), fdL (c :: s), true⟩ == c :: s)) = true := by
        unfold fdK at h
        rw [hFF] at h
        cases hk : Fld.ok ⟨(C.length : Int), fdL (c :: s), true⟩ with
        | false => unfold ftx; rw [hk]; rfl
        | true => rw [hk, Bool.true_and] at h; rw [h]; rfl
      have hT := k_ftS (C.length : Int) (fdL (c :: s)) true
      generalize ftx ⟨(C.length : Int), fdL (c :: s), true⟩ = T at *
      clear h hE hFF hH hall hfl
      rcases o with _ | ⟨v, l⟩
      · have e : [] = fdL (c :: s) := ho
        rw [← e] at hT
        clear e ho
        (repeat (first | refine gq_FTG ?_ | (refine ga0A ?_; intro _hq)))
        (refine rtA ?_; try rfl)
      · have e : l = fdL (c :: s) := ho
        rw [← e] at hT
        clear e ho
        (repeat (first | refine gq_FTG ?_ | (refine ga0A ?_; intro _hq)))
        (refine rtA ?_; try rfl)
    · have hd : decide (((r + 1 : Nat) : Int) - 1 ≥ 0) = true := decide_eq_true (by omega)
      have hlr : C.length - (r + 1) < C.reverse.length := by rw [List.length_reverse]; omega
      have hnx := flB_next hlr
      rw [rev_at C r (by omega)] at hnx
      have hfl2 := flB_len C.reverse (C.length - (r + 1) + 1)
      obtain ⟨x, hx⟩ : ∃ x, C.getD (((r + 1 : Nat) : Int) - 1).toNat Cel.no = x := ⟨_, rfl⟩
      have hx' : C.getD r [] = x := by
        rw [show (((r + 1 : Nat) : Int) - 1).toNat = r by omega] at hx
        exact hx
      rw [hx'] at hnx
      have hxl : x.length ≤ 1100000 := by
        rw [hnx, List.length_append, List.length_map] at hfl2
        omega
      rcases o with _ | ⟨v, l⟩
      (repeat (first | refine gq_FTG ?_ | (refine ga0A ?_; intro _hq)))
      (refine aw_rd [0, 2, 3, 4, 6, 7] [32, 352] (fun g : Nat × Option (Nat × List Bool) => [(8, vI g.1)]) (fun g => [(64, (0, .box [.v (.int .i64 (C.length : Int)), qCell g.2, .v (.bool true)]))] ++ qBlk g.2) (fun g => g.1 ≤ x.length ∧ qL g.2 = flB C.reverse (C.length - (r + 1)) ++ (x.take g.1).map eo) (fun g => x.length - g.1) (0, none) (by rfl) (by rfl) ?_ (by rfl) zHE zHE ?_)
      · exact ⟨Nat.zero_le _, by rw [List.take_zero, List.map_nil, List.append_nil]; exact ho⟩
      clear ho
      rintro ⟨j, o⟩ ⟨hj, ho⟩
      dsimp only at hj ho ⊢
      have hlo : (qL o).length ≤ 1100000 := by
        rw [ho, List.length_append, List.length_map, List.length_take]
        rw [hnx, List.length_append, List.length_map] at hfl2
        omega
      rcases Nat.lt_or_ge j x.length with h6 | h6
      · have hdj : decide ((j : Int) < (x.length : Int)) = true := decide_eq_true (by omega)
        have hsn := mapT_snoc h6
        rcases o with _ | ⟨u, m⟩
        · have hinv : j + 1 ≤ x.length ∧ qL (some (0, [eo (x.getD j 0)])) = flB C.reverse (C.length - (r + 1)) ++ (x.take (j + 1)).map eo := ⟨h6, by rw [hsn, ← List.append_assoc, ← ho]; rfl⟩
          clear ho hsn
          (repeat (first | refine gq_FTG ?_ | (refine ga0A ?_; intro _hq)))
          rw [hx]
          (repeat (first | refine gq_FTG ?_ | (refine ga0A ?_; intro _hq)))
          (refine aw_draw mixed T0ok cfU_ok [(64, [0, 1, 11, 12]), (832, [10]), (816, [9, 10])] (by rfl) (by kernel_rfl) ?_)
          (repeat (first | refine gq_FTG ?_ | (refine ga0A ?_; intro _hq)))
          rw [hx]
          (repeat (first | refine gq_FTG ?_ | (refine ga0A ?_; intro _hq)))
          exact ⟨(j + 1, some (0, [eo (x.getD (j : Int).toNat 0)])), hinv, ⟨by rfl, zHE, zHE⟩, (by first | omega | (dsimp only; omega))⟩
        · have hml : m.length ≤ 1100000 := hlo
          have hinv : j + 1 ≤ x.length ∧ qL (some (u + 1, m ++ [eo (x.getD j 0)])) = flB C.reverse (C.length - (r + 1)) ++ (x.take (j + 1)).map eo := ⟨h6, by rw [hsn, ← List.append_assoc, ← ho]; rfl⟩
          clear ho hsn
          (repeat (first | refine gq_FTG ?_ | (refine ga0A ?_; intro _hq)))
          rw [hx]
          (repeat (first | refine gq_FTG ?_ | (refine ga0A ?_; intro _hq)))
          (refine aw_draw mixed T0ok cfU_ok [(64, [0, 1, 11, 12]), (832, [10]), (816, [9, 10])] (by rfl) (by kernel_rfl) ?_)
          (repeat (first | refine gq_FTG ?_ | (refine ga0A ?_; intro _hq)))
          rw [hx]
          (repeat (first | refine gq_FTG ?_ | (refine ga0A ?_; intro _hq)))
          exact ⟨(j + 1, some (u + 1, m ++ [eo (x.getD (j : Int).toNat 0)])), hinv, ⟨by rfl, zHE, zHE⟩, (by first | omega | (dsimp only; omega))⟩
      · have hdj : decide ((j : Int) < (x.length : Int)) = false := decide_eq_false (by omega)
        obtain rfl : j = x.length := by omega
        rw [List.take_length, ← hnx] at ho
        have hinv : r ≤ C.length ∧ qL o = flB C.reverse (C.length - r) := ⟨by omega, by rw [ho, show C.length - (r + 1) + 1 = C.length - r by omega]⟩
        have e3 : ((r + 1 : Nat) : Int) - 1 - 1 = (r : Int) - 1 := by omega
        clear ho
        rcases o with _ | ⟨u, m⟩
        · (repeat (first | refine gq_FTG ?_ | (refine ga0A ?_; intro _hq)))
          rw [hx]
          (repeat (first | refine gq_FTG ?_ | (refine ga0A ?_; intro _hq)))
          exact ⟨(r, none), hinv, ⟨by rfl, ⟨vI_of (by rfl) e3, zHE⟩, zHE⟩, (by first | omega | (dsimp only; omega))⟩
        · (repeat (first | refine gq_FTG ?_ | (refine ga0A ?_; intro _hq)))
          rw [hx]
          (repeat (first | refine gq_FTG ?_ | (refine ga0A ?_; intro _hq)))
          exact ⟨(r, some (u, m)), hinv, ⟨by rfl, ⟨vI_of (by rfl) e3, zHE⟩, zHE⟩, (by first | omega | (dsimp only; omega))⟩
      (repeat (first | refine gq_FTG ?_ | (refine ga0A ?_; intro _hq)))
      (refine aw_rd [0, 2, 3, 4, 6, 7] [32, 352] (fun g : Nat × Option (Nat × List Bool) => [(8, vI g.1)]) (fun g => [(64, (0, .box [.v (.int .i64 (C.length : Int)), qCell g.2, .v (.bool true)]))] ++ qBlk g.2) (fun g => g.1 ≤ x.length ∧ qL g.2 = flB C.reverse (C.length - (r + 1)) ++ (x.take g.1).map eo) (fun g => x.length - g.1) (0, some (v, l)) (by rfl) (by rfl) ?_ (by rfl) zHE zHE ?_)
      · exact ⟨Nat.zero_le _, by rw [List.take_zero, List.map_nil, List.append_nil]; exact ho⟩
      clear ho
      rintro ⟨j, o⟩ ⟨hj, ho⟩
      dsimp only at hj ho ⊢
      have hlo : (qL o).length ≤ 1100000 := by
        rw [ho, List.length_append, List.length_map, List.length_take]
        rw [hnx, List.length_append, List.length_map] at hfl2
        omega
      rcases Nat.lt_or_ge j x.length with h6 | h6
      · have hdj : decide ((j : Int) < (x.length : Int)) = true := decide_eq_true (by omega)
        have hsn := mapT_snoc h6
        rcases o with _ | ⟨u, m⟩
        · have hinv : j + 1 ≤ x.length ∧ qL (some (0, [eo (x.getD j 0)])) = flB C.reverse (C.length - (r + 1)) ++ (x.take (j + 1)).map eo := ⟨h6, by rw [hsn, ← List.append_assoc, ← ho]; rfl⟩
          clear ho hsn
          (repeat (first | refine gq_FTG ?_ | (refine ga0A ?_; intro _hq)))
          rw [hx]
          (repeat (first | refine gq_FTG ?_ | (refine ga0A ?_; intro _hq)))
          (refine aw_draw mixed T0ok cfU_ok [(64, [0, 1, 11, 12]), (832, [10]), (816, [9, 10])] (by rfl) (by kernel_rfl) ?_)
          (repeat (first | refine gq_FTG ?_ | (refine ga0A ?_; intro _hq)))
          rw [hx]
          (repeat (first | refine gq_FTG ?_ | (refine ga0A ?_; intro _hq)))
          exact ⟨(j + 1, some (0, [eo (x.getD (j : Int).toNat 0)])), hinv, ⟨by rfl, zHE, zHE⟩, (by first | omega | (dsimp only; omega))⟩
        · have hml : m.length ≤ 1100000 := hlo
          have hinv : j + 1 ≤ x.length ∧ qL (some (u + 1, m ++ [eo (x.getD j 0)])) = flB C.reverse (C.length - (r + 1)) ++ (x.take (j + 1)).map eo := ⟨h6, by rw [hsn, ← List.append_assoc, ← ho]; rfl⟩
          clear ho hsn
          (repeat (first | refine gq_FTG ?_ | (refine ga0A ?_; intro _hq)))
          rw [hx]
          (repeat (first | refine gq_FTG ?_ | (refine ga0A ?_; intro _hq)))
          (refine aw_draw mixed T0ok cfU_ok [(64, [0, 1, 11, 12]), (832, [10]), (816, [9, 10])] (by rfl) (by kernel_rfl) ?_)
          (repeat (first | refine gq_FTG ?_ | (refine ga0A ?_; intro _hq)))
          rw [hx]
          (repeat (first | refine gq_FTG ?_ | (refine ga0A ?_; intro _hq)))
          exact ⟨(j + 1, some (u + 1, m ++ [eo (x.getD (j : Int).toNat 0)])), hinv, ⟨by rfl, zHE, zHE⟩, (by first | omega | (dsimp only; omega))⟩
      · have hdj : decide ((j : Int) < (x.length : Int)) = false := decide_eq_false (by omega)
        obtain rfl : j = x.length := by omega
        rw [List.take_length, ← hnx] at ho
        have hinv : r ≤ C.length ∧ qL o = flB C.reverse (C.length - r) := ⟨by omega, by rw [ho, show C.length - (r + 1) + 1 = C.length - r by omega]⟩
        have e3 : ((r + 1 : Nat) : Int) - 1 - 1 = (r : Int) - 1 := by omega
        clear ho
        rcases o with _ | ⟨u, m⟩
        · (repeat (first | refine gq_FTG ?_ | (refine ga0A ?_; intro _hq)))
          rw [hx]
          (repeat (first | refine gq_FTG ?_ | (refine ga0A ?_; intro _hq)))
          exact ⟨(r, none), hinv, ⟨by rfl, ⟨vI_of (by rfl) e3, zHE⟩, zHE⟩, (by first | omega | (dsimp only; omega))⟩
        · (repeat (first | refine gq_FTG ?_ | (refine ga0A ?_; intro _hq)))
          rw [hx]
          (repeat (first | refine gq_FTG ?_ | (refine ga0A ?_; intro _hq)))
          exact ⟨(r, some (u, m)), hinv, ⟨by rfl, ⟨vI_of (by rfl) e3, zHE⟩, zHE⟩, (by first | omega | (dsimp only; omega))⟩
  | false =>
    have hc' : ((((c :: s).getD (0 : Int).toNat 0).toNat : Int) == 33) = false := hc
    have hH : fdH (c :: s) = false := by
      unfold fdH
      rw [List.head?_cons, beq_eq_false_iff_ne]
      intro e
      cases e
      rw [beq_eq_false_iff_ne] at hc
      exact hc rfl
    have hdr : fdB (c :: s) = c :: s := by unfold fdB; rw [hH, if_neg (by decide)]
    have hcd : cutA 47 [] (c :: s) = cutA 47 [] (fdB (c :: s)) := by rw [hdr]
    (refine kM Tryd.func13 rfl ?_; intro hfit hfe)
    (repeat (first | refine gq_FTG ?_ | (refine ga0A ?_; intro _hq)))
    rw [hcd]
    have hall := flB_all (c :: s)
    have hFF : fdF (c :: s) = ⟨((fdR (c :: s)).length : Int), fdL (c :: s), fdH (c :: s)⟩ := rfl
    have hfl := fdR_flat (c :: s)
    have hcl := cutA_len 47 (fdB (c :: s)) []
    have hRR : fdR (c :: s) = (cutA 47 [] (fdB (c :: s))).reverse := rfl
    rw [hRR] at hfl hall hFF
    have hCT := k_cutS (fdB (c :: s)) (by omega)
    generalize cutA 47 [] (fdB (c :: s)) = C at *
    rw [List.length_reverse] at hall hFF
    rw [hH] at hFF
    clear hdr hcd
    (repeat (first | refine gq_FTG ?_ | (refine ga0A ?_; intro _hq)))
    (refine aw_rd [0, 2, 3, 4, 6] [32, 352] (fun g : Nat × Option (Nat × List Bool) => [(7, vI ((g.1 : Int) - 1))]) (fun g => [(64, (0, .box [.v (.int .i64 (C.length : Int)), qCell g.2, .v (.bool false)]))] ++ qBlk g.2) (fun g => g.1 ≤ C.length ∧ qL g.2 = flB C.reverse (C.length - g.1)) (fun g => g.1) (C.length, none) (by rfl) (by rfl) ?_ (by rfl) zHE zHE ?_)
    · exact ⟨Nat.le_refl _, by rw [Nat.sub_self]; rfl⟩
    rintro ⟨r, o⟩ ⟨hi, ho⟩
    dsimp only at hi ho ⊢
    rcases r with _ | r
    · have hd : decide (((0 : Nat) : Int) - 1 ≥ 0) = false := by decide
      rw [Nat.sub_zero, hall] at ho
      have hLL : (fdL (c :: s)).length ≤ 1100000 := by
        have := flB_len C.reverse C.length
        rw [hall] at this
        omega
      try rw [hFF] at hE
      have hnn : (!(ftx ⟨(C.length : Int), fdL (c :: s), false⟩ == c :: s)) = true := by
        unfold fdK at h
        rw [hFF] at h
        cases hk : Fld.ok ⟨(C.length : Int), fdL (c :: s), false⟩ with
        | false => unfold ftx; rw [hk]; rfl
        | true => rw [hk, Bool.true_and] at h; rw [h]; rfl
      have hT := k_ftS (C.length : Int) (fdL (c :: s)) false
      generalize ftx ⟨(C.length : Int), fdL (c :: s), false⟩ = T at *
      clear h hE hFF hH hall hfl
      rcases o with _ | ⟨v, l⟩
      · have e : [] = fdL (c :: s) := ho
        rw [← e] at hT
        clear e ho
        (repeat (first | refine gq_FTG ?_ | (refine ga0A ?_; intro _hq)))
        (refine rtA ?_; try rfl)
      · have e : l = fdL (c :: s) := ho
        rw [← e] at hT
        clear e ho
        (repeat (first | refine gq_FTG ?_ | (refine ga0A ?_; intro _hq)))
        (refine rtA ?_; try rfl)
    · have hd : decide (((r + 1 : Nat) : Int) - 1 ≥ 0) = true := decide_eq_true (by omega)
      have hlr : C.length - (r + 1) < C.reverse.length := by rw [List.length_reverse]; omega
      have hnx := flB_next hlr
      rw [rev_at C r (by omega)] at hnx
      have hfl2 := flB_len C.reverse (C.length - (r + 1) + 1)
      obtain ⟨x, hx⟩ : ∃ x, C.getD (((r + 1 : Nat) : Int) - 1).toNat Cel.no = x := ⟨_, rfl⟩
      have hx' : C.getD r [] = x := by
        rw [show (((r + 1 : Nat) : Int) - 1).toNat = r by omega] at hx
        exact hx
      rw [hx'] at hnx
      have hxl : x.length ≤ 1100000 := by
        rw [hnx, List.length_append, List.length_map] at hfl2
        omega
      rcases o with _ | ⟨v, l⟩
      (repeat (first | refine gq_FTG ?_ | (refine ga0A ?_; intro _hq)))
      (refine aw_rd [0, 2, 3, 4, 6, 7] [32, 352] (fun g : Nat × Option (Nat × List Bool) => [(8, vI g.1)]) (fun g => [(64, (0, .box [.v (.int .i64 (C.length : Int)), qCell g.2, .v (.bool false)]))] ++ qBlk g.2) (fun g => g.1 ≤ x.length ∧ qL g.2 = flB C.reverse (C.length - (r + 1)) ++ (x.take g.1).map eo) (fun g => x.length - g.1) (0, none) (by rfl) (by rfl) ?_ (by rfl) zHE zHE ?_)
      · exact ⟨Nat.zero_le _, by rw [List.take_zero, List.map_nil, List.append_nil]; exact ho⟩
      clear ho
      rintro ⟨j, o⟩ ⟨hj, ho⟩
      dsimp only at hj ho ⊢
      have hlo : (qL o).length ≤ 1100000 := by
        rw [ho, List.length_append, List.length_map, List.length_take]
        rw [hnx, List.length_append, List.length_map] at hfl2
        omega
      rcases Nat.lt_or_ge j x.length with h6 | h6
      · have hdj : decide ((j : Int) < (x.length : Int)) = true := decide_eq_true (by omega)
        have hsn := mapT_snoc h6
        rcases o with _ | ⟨u, m⟩
        · have hinv : j + 1 ≤ x.length ∧ qL (some (0, [eo (x.getD j 0)])) = flB C.reverse (C.length - (r + 1)) ++ (x.take (j + 1)).map eo := ⟨h6, by rw [hsn, ← List.append_assoc, ← ho]; rfl⟩
          clear ho hsn
          (repeat (first | refine gq_FTG ?_ | (refine ga0A ?_; intro _hq)))
          rw [hx]
          (repeat (first | refine gq_FTG ?_ | (refine ga0A ?_; intro _hq)))
          (refine aw_draw mixed T0ok cfU_ok [(64, [0, 1, 11, 12]), (832, [10]), (816, [9, 10])] (by rfl) (by kernel_rfl) ?_)
          (repeat (first | refine gq_FTG ?_ | (refine ga0A ?_; intro _hq)))
          rw [hx]
          (repeat (first | refine gq_FTG ?_ | (refine ga0A ?_; intro _hq)))
          exact ⟨(j + 1, some (0, [eo (x.getD (j : Int).toNat 0)])), hinv, ⟨by rfl, zHE, zHE⟩, (by first | omega | (dsimp only; omega))⟩
        · have hml : m.length ≤ 1100000 := hlo
          have hinv : j + 1 ≤ x.length ∧ qL (some (u + 1, m ++ [eo (x.getD j 0)])) = flB C.reverse (C.length - (r + 1)) ++ (x.take (j + 1)).map eo := ⟨h6, by rw [hsn, ← List.append_assoc, ← ho]; rfl⟩
          clear ho hsn
          (repeat (first | refine gq_FTG ?_ | (refine ga0A ?_; intro _hq)))
          rw [hx]
          (repeat (first | refine gq_FTG ?_ | (refine ga0A ?_; intro _hq)))
          (refine aw_draw mixed T0ok cfU_ok [(64, [0, 1, 11, 12]), (832, [10]), (816, [9, 10])] (by rfl) (by kernel_rfl) ?_)
          (repeat (first | refine gq_FTG ?_ | (refine ga0A ?_; intro _hq)))
          rw [hx]
          (repeat (first | refine gq_FTG ?_ | (refine ga0A ?_; intro _hq)))
          exact ⟨(j + 1, some (u + 1, m ++ [eo (x.getD (j : Int).toNat 0)])), hinv, ⟨by rfl, zHE, zHE⟩, (by first | omega | (dsimp only; omega))⟩
      · have hdj : decide ((j : Int) < (x.length : Int)) = false := decide_eq_false (by omega)
        obtain rfl : j = x.length := by omega
        rw [List.take_length, ← hnx] at ho
        have hinv : r ≤ C.length ∧ qL o = flB C.reverse (C.length - r) := ⟨by omega, by rw [ho, show C.length - (r + 1) + 1 = C.length - r by omega]⟩
        have e3 : ((r + 1 : Nat) : Int) - 1 - 1 = (r : Int) - 1 := by omega
        clear ho
        rcases o with _ | ⟨u, m⟩
        · (repeat (first | refine gq_FTG ?_ | (refine ga0A ?_; intro _hq)))
          rw [hx]
          (repeat (first | refine gq_FTG ?_ | (refine ga0A ?_; intro _hq)))
          exact ⟨(r, none), hinv, ⟨by rfl, ⟨vI_of (by rfl) e3, zHE⟩, zHE⟩, (by first | omega | (dsimp only; omega))⟩
        · (repeat (first | refine gq_FTG ?_ | (refine ga0A ?_; intro _hq)))
          rw [hx]
          (repeat (first | refine gq_FTG ?_ | (refine ga0A ?_; intro _hq)))
          exact ⟨(r, some (u, m)), hinv, ⟨by rfl, ⟨vI_of (by rfl) e3, zHE⟩, zHE⟩, (by first | omega | (dsimp only; omega))⟩
      (repeat (first | refine gq_FTG ?_ | (refine ga0A ?_; intro _hq)))
      (refine aw_rd [0, 2, 3, 4, 6, 7] [32, 352] (fun g : Nat × Option (Nat × List Bool) => [(8, vI g.1)]) (fun g => [(64, (0, .box [.v (.int .i64 (C.length : Int)), qCell g.2, .v (.bool false)]))] ++ qBlk g.2) (fun g => g.1 ≤ x.length ∧ qL g.2 = flB C.reverse (C.length - (r + 1)) ++ (x.take g.1).map eo) (fun g => x.length - g.1) (0, some (v, l)) (by rfl) (by rfl) ?_ (by rfl) zHE zHE ?_)
      · exact ⟨Nat.zero_le _, by rw [List.take_zero, List.map_nil, List.append_nil]; exact ho⟩
      clear ho
      rintro ⟨j, o⟩ ⟨hj, ho⟩
      dsimp only at hj ho ⊢
      have hlo : (qL o).length ≤ 1100000 := by
        rw [ho, List.length_append, List.length_map, List.length_take]
        rw [hnx, List.length_append, List.length_map] at hfl2
        omega
      rcases Nat.lt_or_ge j x.length with h6 | h6
      · have hdj : decide ((j : Int) < (x.length : Int)) = true := decide_eq_true (by omega)
        have hsn := mapT_snoc h6
        rcases o with _ | ⟨u, m⟩
        · have hinv : j + 1 ≤ x.length ∧ qL (some (0, [eo (x.getD j 0)])) = flB C.reverse (C.length - (r + 1)) ++ (x.take (j + 1)).map eo := ⟨h6, by rw [hsn, ← List.append_assoc, ← ho]; rfl⟩
          clear ho hsn
          (repeat (first | refine gq_FTG ?_ | (refine ga0A ?_; intro _hq)))
          rw [hx]
          (repeat (first | refine gq_FTG ?_ | (refine ga0A ?_; intro _hq)))
          (refine aw_draw mixed T0ok cfU_ok [(64, [0, 1, 11, 12]), (832, [10]), (816, [9, 10])] (by rfl) (by kernel_rfl) ?_)
          (repeat (first | refine gq_FTG ?_ | (refine ga0A ?_; intro _hq)))
          rw [hx]
          (repeat (first | refine gq_FTG ?_ | (refine ga0A ?_; intro _hq)))
          exact ⟨(j + 1, some (0, [eo (x.getD (j : Int).toNat 0)])), hinv, ⟨by rfl, zHE, zHE⟩, (by first | omega | (dsimp only; omega))⟩
        · have hml : m.length ≤ 1100000 := hlo
          have hinv : j + 1 ≤ x.length ∧ qL (some (u + 1, m ++ [eo (x.getD j 0)])) = flB C.reverse (C.length - (r + 1)) ++ (x.take (j + 1)).map eo := ⟨h6, by rw [hsn, ← List.append_assoc, ← ho]; rfl⟩
          clear ho hsn
          (repeat (first | refine gq_FTG ?_ | (refine ga0A ?_; intro _hq)))
          rw [hx]
          (repeat (first | refine gq_FTG ?_ | (refine ga0A ?_; intro _hq)))
          (refine aw_draw mixed T0ok cfU_ok [(64, [0, 1, 11, 12]), (832, [10]), (816, [9, 10])] (by rfl) (by kernel_rfl) ?_)
          (repeat (first | refine gq_FTG ?_ | (refine ga0A ?_; intro _hq)))
          rw [hx]
          (repeat (first | refine gq_FTG ?_ | (refine ga0A ?_; intro _hq)))
          exact ⟨(j + 1, some (u + 1, m ++ [eo (x.getD (j : Int).toNat 0)])), hinv, ⟨by rfl, zHE, zHE⟩, (by first | omega | (dsimp only; omega))⟩
      · have hdj : decide ((j : Int) < (x.length : Int)) = false := decide_eq_false (by omega)
        obtain rfl : j = x.length := by omega
        rw [List.take_length, ← hnx] at ho
        have hinv : r ≤ C.length ∧ qL o = flB C.reverse (C.length - r) := ⟨by omega, by rw [ho, show C.length - (r + 1) + 1 = C.length - r by omega]⟩
        have e3 : ((r + 1 : Nat) : Int) - 1 - 1 = (r : Int) - 1 := by omega
        clear ho
        rcases o with _ | ⟨u, m⟩
        · (repeat (first | refine gq_FTG ?_ | (refine ga0A ?_; intro _hq)))
          rw [hx]
          (repeat (first | refine gq_FTG ?_ | (refine ga0A ?_; intro _hq)))
          exact ⟨(r, none), hinv, ⟨by rfl, ⟨vI_of (by rfl) e3, zHE⟩, zHE⟩, (by first | omega | (dsimp only; omega))⟩
        · (repeat (first | refine gq_FTG ?_ | (refine ga0A ?_; intro _hq)))
          rw [hx]
          (repeat (first | refine gq_FTG ?_ | (refine ga0A ?_; intro _hq)))
          exact ⟨(r, some (u, m)), hinv, ⟨by rfl, ⟨vI_of (by rfl) e3, zHE⟩, zHE⟩, (by first | omega | (dsimp only; omega))⟩
end Go.Proofs.YtfoobfelgbcknaaDoor
