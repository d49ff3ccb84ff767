/- FTE, FnG, FnH: laid into one text. -/
import Derived.Test.YtfoobfelgbcknaaDoorQFI
import Derived.Test.YtfoobfelgbcknaaDoorQFK

namespace Go.Proofs.YtfoobfelgbcknaaDoor
set_option linter.unusedVariables false
set_option linter.unusedSimpArgs false
set_option maxRecDepth 20000
open Go.RowKit
attribute [local irreducible] runA runX AW
theorem gq_FTE {H G : Prop} (k : H) (h : Hid H → G := by (intro hh; repeat1' (first | (first | (refine nxA ?_; (first | fail | ((first | (refine z_op (by rfl) ?_; first | refine z_ok ?_ ?_ | refine z_ex ?_ (by first | exact zL1 | ((first | fail); exact zWW) | exact zL2 | fail | exact zL3 | fail) ?_) | ((first | refine q_callE wsT wsZ (by rfl) ?_ | refine q_callVE wsT (by rfl) (by rfl) ?_); refine ⟨_, _, _, (by first | assumption), _, by rfl, ?_, ?_⟩)); focus (first | exact trivial | fail | exact zQZ)) | fail)) | refine swA ?_) | refine awA ?_); exact hh.out)) : G := h ⟨k⟩
theorem k_ftI (s : Int) (l : List Bool) (b : Bool) : Kon Tryd.prog 7 [fAx s l b] [] (vS (ftx ⟨s, l, b⟩)) [] [] := by
  cases hok : Fld.ok ⟨s, l, b⟩ with
  | false =>
    have hV : Kon Tryd.prog 9 [fAx s l b] [] (vB false) [] [] := by
      have := Kon.of con_valid (cValid_at s l b)
      rw [hok] at this
      exact this
    have hf : ftx ⟨s, l, b⟩ = [] := by unfold ftx; rw [hok]; rfl
    rw [hf]
    (refine kM Tryd.func7 rfl ?_; intro hfit hfe)
    (repeat (first | refine gq_FTE ?_ | (refine ga0A ?_; intro _hq)))
    (refine rtA ?_; try rfl)
  | true =>
    obtain ⟨h1, h2, h3, h4, _⟩ := Fld.ok_facts hok
    obtain ⟨n, rfl⟩ : ∃ n : Nat, s = (n : Int) := ⟨s.toNat, by omega⟩
    have h5 : n = 2 ∨ n = 4 ∨ n = 6 ∨ n = 8 := by omega
    have hN : n * n = l.length := by
      rcases h5 with rfl | rfl | rfl | rfl <;> omega
    have hpos : 0 < l.length := by
      rcases h5 with rfl | rfl | rfl | rfl <;> omega
    refine kon_pureZ (Go.Proofs.enters_of Tryd.func7 (by kernel_rfl) rfl) rfl rfl ?_
    intro w ok vs hg hz hoks hsz hargs
    obtain ⟨z0, hz0, hr0⟩ := hargs 0 _ rfl
    have hv : vs = #[z0] := by
      obtain ⟨xs⟩ := vs
      match xs, hsz with
      | [y], _ => cases hz0; rfl
    subst hv
    obtain ⟨us, rfl, hus, hc⟩ := hr0
    obtain ⟨y0, hy0, hr0⟩ := hc 0 _ rfl
    obtain ⟨y1, hy1, hr1⟩ := hc 1 _ rfl
    obtain ⟨y2, hy2, hr2⟩ := hc 2 _ rfl
    have hu : us = #[.int .i64 (n : Int), y1, .bool b] := by
      obtain ⟨xs⟩ := us
      match xs, hus with
      | [a0, a1, a2], _ =>
        cases hy0; cases hy1; cases hy2
        rw [show a0 = .int .i64 (n : Int) from hr0.1, show a2 = .bool b from hr2.1]
        rfl
    subst hu
    obtain ⟨⟨hlen, hone⟩, A, c, rfl, hnc, hc2, hcells⟩ := hr1
    obtain ⟨bb, off, rfl, hb, hcell⟩ := hcells hpos
    refine (callsIn_wide.1 (ft_in Fence.wide rfl (fun _ => trivial) (fun m h => callsIn_wide.2 h) 5 (Nat.le_refl _) n l b (by omega) hok l.length hN h4 rfl bb off c ⟨hnc, hc2⟩ w hg hz (hoks bb hb) ?_)).mono ?_
    · intro j hj
      have h2 := hcell _ _ (cV_cell (l := l) (j := j) (o := 0) hj (v := .bool (l.getD j false)) rfl)
      rw [show j * Cel.sz Bool + 0 = j from Nat.mul_one j] at h2
      exact h2
    · rintro e w' ⟨rfl, hB⟩
      exact ⟨_, rfl, hB, fun β G ok' => ⟨rfl, rfl⟩⟩
abbrev fA (s : Int) (l : List Bool) (b : Bool) : AV := .g (.agg [.v (.int .i64 s), roC l, .v (.bool b)])
abbrev fO (s : Int) (l : List Bool) (b : Bool) : AV := .g (.agg [.v (.int .i64 s), slC 0 0 l, .v (.bool b)])
abbrev bRow (l : List Bool) : Ent := rwE 4 l
abbrev f0 : AV := .g (.agg [.v (.int .i64 0), .v (.slice none 0 0), .v (.bool false)])
def drawRow (l : List UInt8) : Nat → Int → List Bool → List Bool
  | 0, _, r => r
  | n + 1, c, r => drawRow l n (c + 1) (r.set (pickI l c r.length).toNat true)
theorem drawRow_len (l : List UInt8) : ∀ (n : Nat) (c : Int) (r : List Bool), (drawRow l n c r).length = r.length
  | 0, c, r => rfl
  | n + 1, c, r => by rw [drawRow, drawRow_len l n]; simp
def trues : Nat → List Bool
  | 0 => List.replicate 36 false
  | i + 1 => (trues i).set i true
theorem trues_len : ∀ i, (trues i).length = 36
  | 0 => by simp [trues]
  | i + 1 => by simp [trues, trues_len i]
def outF : Option Fld → AV × List Ent
  | some f => (fO f.s f.l f.b, [bRow f.l])
  | none => (f0, [])
theorem ex_l20F (l : List UInt8) (c n : Int) (h : 0 ≤ c ∧ c ≤ 100000 ∧ l.length ≤ 2000 ∧ 0 < n ∧ n ≤ 1000) : ∃ (o : Option Fld) (c' : Int), (c ≤ c' ∧ c' ≤ c + 20) ∧ (∀ f, o = some f → f.l.length ≤ 100 ∧ -10 ≤ f.s ∧ f.s ≤ 10) ∧ Kon Tryd.prog 19 [p0, vI n] [rdE l c] (outF o).1 (outF o).2 [rdE l c'] := by
  obtain ⟨a, _, ha, hK1⟩ := ex_pick l c 4 (by omega)
  obtain ⟨b, _, hb, hK2⟩ := ex_pick l (c + 1) 2 (by omega)
  obtain ⟨m, _, hm, hK3⟩ := ex_pick l (c + 1 + 1) 9 (by omega)
  replace ha := ha (by omega)
  replace hm := hm (by omega)
  obtain ⟨v, hK4⟩ := ex_odd l (c + 1 + 1 + 1 + m) n (by omega)
  obtain ⟨t, _, ht, hK5⟩ := ex_pick l (c + 1 + 1 + 1 + m + 1) 4 (by omega)
  replace ht := ht (by omega)
  have q1 : 4 ≤ (2 + 2 * a) * (2 + 2 * a) ∧ (2 + 2 * a) * (2 + 2 * a) ≤ 64 := by
    have h5 : a = 0 ∨ a = 1 ∨ a = 2 ∨ a = 3 := by omega
    rcases h5 with h | h | h | h <;> rw [h] <;> omega
  obtain ⟨N, hN⟩ : ∃ N, N = (List.replicate ((2 + 2 * a) * (2 + 2 * a)).toNat (Cel.no : Bool)).length := ⟨_, rfl⟩
  have hN2 : N = ((2 + 2 * a) * (2 + 2 * a)).toNat := by rw [hN, List.length_replicate]
  obtain ⟨r, hr⟩ : ∃ r, r = drawRow l m.toNat (c + 1 + 1 + 1) (List.replicate ((2 + 2 * a) * (2 + 2 * a)).toNat (Cel.no : Bool)) := ⟨_, rfl⟩
  have hrl : r.length = N := by rw [hr, drawRow_len, hN]
  obtain ⟨o, ho⟩ : ∃ o : Option Fld, o = if v = true then (if (t == 0) = true then some ⟨2 + 2 * a, r ++ [false], b == 0⟩ else if (t == 1) = true then none else if (t == 2) = true then some ⟨3, List.replicate 9 false, false⟩ else some ⟨6, trues 13, false⟩) else some ⟨2 + 2 * a, r, b == 0⟩ := ⟨_, rfl⟩
  refine ⟨o, if v = true then c + 1 + 1 + 1 + m + 1 + 1 else c + 1 + 1 + 1 + m + 1, by split <;> omega, ?_, ?_⟩
  · intro f hf
    have := trues_len 13
    rw [ho] at hf
    repeat' split at hf
    all_goals first | (cases hf; done) | (cases hf; simp only [List.length_append, List.length_cons, List.length_nil, List.length_replicate]; omega)
  subst hN
  (refine kM Tryd.func19 rfl ?_; intro hfit hfe)
  (repeat (first | (first | ((first | refine r_none ?_ | refine r_gt (by rfl) (by rfl) zDD (by rfl) ?_ | refine r_gf (by rfl) (by rfl) zDD (by rfl) ?_); (first | fail | ((first | (refine z_op (by rfl) ?_; first | refine z_ok ?_ ?_ | refine z_ex ?_ (by first | exact zL1 | ((first | refine mk_c Bool rfl rfl rfl ?_); exact zWW) | exact zL2 | exact rw_c Bool rfl | exact zL3 | fail) ?_ | refine z_al ?_ (fun _q ⟨_he, _hq⟩ => ?_)) | ((first | refine q_callE wsT wsZ (by rfl) ?_ | refine q_callVE wsT (by rfl) (by rfl) ?_); refine ⟨_, _, _, (by first | assumption | exact k_pick _ _ _ (by omega) | exact k_open _ (by omega)), _, by rfl, ?_, ?_⟩)); focus (first | exact trivial | fail | exact zQZ)) | fail)) | refine r_nt (by rfl) (by rfl) zDD (by rfl) ?_ | refine r_nf (by rfl) (by rfl) zDD (by rfl) ?_ | refine r_gu (by rfl) (by rfl) (by rfl) ?_ | refine r_nil ?_) | (first | refine aw_seq ?_ | refine aw_ct (by rfl) zDD ?_ | refine aw_cf (by rfl) zDD ?_ | refine aw_block ?_ | refine aw_region T0ok cfU_ok (by rfl) ?_ | refine aw_skip ?_ | refine aw_exit ?_ | refine ra_step ?_)))
  (refine aw_rd [0, 1, 4, 5] [64] (fun g : Nat × Int × List Bool => [(6, vI g.1)]) (fun g => [(80, (0, .box [.v (.int .i64 (2 + 2 * a)), .sl 336 0 (List.replicate ((2 + 2 * a) * (2 + 2 * a)).toNat (Cel.no : Bool)).length, .v (.bool (b == 0))])), (336, (0, bRow g.2.2)), (100000, (0, rdE l g.2.1))]) (fun g => g.2.1 + g.1 = c + 1 + 1 + 1 + m ∧ c ≤ g.2.1 ∧ g.1 ≤ 9 ∧ g.2.2.length = (List.replicate ((2 + 2 * a) * (2 + 2 * a)).toNat (Cel.no : Bool)).length ∧ drawRow l g.1 g.2.1 g.2.2 = r) (fun g => g.1) (m.toNat, c + 1 + 1 + 1, List.replicate ((2 + 2 * a) * (2 + 2 * a)).toNat (Cel.no : Bool)) (by rfl) (by rfl) ?_ (by rfl) zHE zHE ?_)
  · refine ⟨?_, ?_, ?_, ?_, ?_⟩
    · dsimp only; omega
    · dsimp only; omega
    · dsimp only; omega
    · rfl
    · exact hr.symm
  rintro ⟨k, c', r'⟩ ⟨e1, e2, e3, e4, e5⟩
  dsimp only at e1 e2 e3 e4 e5 ⊢
  rcases Nat.eq_zero_or_pos k with h5 | h5
  · subst h5
    have e6 : r' = r := e5
    have e7 : c' = c + 1 + 1 + 1 + m := by omega
    subst e6 e7
    have hd : decide (((0 : Nat) : Int) > 0) = false := rfl
    cases v with
    | false =>
      have ho' : o = some ⟨2 + 2 * a, r', b == 0⟩ := ho
      subst ho'
      (repeat (first | (first | ((first | refine r_none ?_ | refine r_gt (by rfl) (by rfl) zDD (by rfl) ?_ | refine r_gf (by rfl) (by rfl) zDD (by rfl) ?_); (first | fail | ((first | (refine z_op (by rfl) ?_; first | refine z_ok ?_ ?_ | refine z_ex ?_ (by first | exact zL1 | ((first | refine mk_c Bool rfl rfl rfl ?_); exact zWW) | exact zL2 | exact rw_c Bool rfl | exact zL3 | fail) ?_ | refine z_al ?_ (fun _q ⟨_he, _hq⟩ => ?_)) | ((first | refine q_callE wsT wsZ (by rfl) ?_ | refine q_callVE wsT (by rfl) (by rfl) ?_); refine ⟨_, _, _, (by first | assumption | exact k_pick _ _ _ (by omega) | exact k_open _ (by omega)), _, by rfl, ?_, ?_⟩)); focus (first | exact trivial | fail | exact zQZ)) | fail)) | refine r_nt (by rfl) (by rfl) zDD (by rfl) ?_ | refine r_nf (by rfl) (by rfl) zDD (by rfl) ?_ | refine r_gu (by rfl) (by rfl) (by rfl) ?_ | refine r_nil ?_) | (first | refine aw_seq ?_ | refine aw_ct (by rfl) zDD ?_ | refine aw_cf (by rfl) zDD ?_ | refine aw_block ?_ | refine aw_region T0ok cfU_ok (by rfl) ?_ | refine aw_skip ?_ | refine aw_exit ?_ | refine ra_step ?_)))
      (refine rtA ?_; try rfl)
      show _ = AV.g (.agg [.v (.int .i64 (2 + 2 * a)), .sl 0 0 r'.length, .v (.bool (b == 0))])
      rw [hrl]; rfl
    | true =>
      have h2 : r'.length + ([false] : List Bool).length ≤ 100000000 := by simp only [List.length_cons, List.length_nil]; omega
      cases h7 : (t == 0) with
      | true =>
        rw [h7] at ho
        have ho' : o = some ⟨2 + 2 * a, r' ++ [false], b == 0⟩ := ho
        subst ho'
        (repeat (first | (first | ((first | refine r_none ?_ | refine r_gt (by rfl) (by rfl) zDD (by rfl) ?_ | refine r_gf (by rfl) (by rfl) zDD (by rfl) ?_); (first | fail | ((first | (refine z_op (by rfl) ?_; first | refine z_ok ?_ ?_ | refine z_ex ?_ (by first | exact zL1 | ((first | refine mk_c Bool rfl rfl rfl ?_); exact zWW) | exact zL2 | exact rw_c Bool rfl | exact zL3 | fail) ?_ | refine z_al ?_ (fun _q ⟨_he, _hq⟩ => ?_)) | ((first | refine q_callE wsT wsZ (by rfl) ?_ | refine q_callVE wsT (by rfl) (by rfl) ?_); refine ⟨_, _, _, (by first | assumption | exact k_pick _ _ _ (by omega) | exact k_open _ (by omega)), _, by rfl, ?_, ?_⟩)); focus (first | exact trivial | fail | exact zQZ)) | fail)) | refine r_nt (by rfl) (by rfl) zDD (by rfl) ?_ | refine r_nf (by rfl) (by rfl) zDD (by rfl) ?_ | refine r_gu (by rfl) (by rfl) (by rfl) ?_ | refine r_nil ?_) | (first | refine aw_seq ?_ | refine aw_ct (by rfl) zDD ?_ | refine aw_cf (by rfl) zDD ?_ | refine aw_block ?_ | refine aw_region T0ok cfU_ok (by rfl) ?_ | refine aw_skip ?_ | refine aw_exit ?_ | refine ra_step ?_)))
        (refine rtA ?_; try rfl)
      | false =>
        cases h8 : (t == 1) with
        | true =>
          rw [h7, h8] at ho
          have ho' : o = none := ho
          subst ho'
          (repeat (first | (first | ((first | refine r_none ?_ | refine r_gt (by rfl) (by rfl) zDD (by rfl) ?_ | refine r_gf (by rfl) (by rfl) zDD (by rfl) ?_); (first | fail | ((first | (refine z_op (by rfl) ?_; first | refine z_ok ?_ ?_ | refine z_ex ?_ (by first | exact zL1 | ((first | refine mk_c Bool rfl rfl rfl ?_); exact zWW) | exact zL2 | exact rw_c Bool rfl | exact zL3 | fail) ?_ | refine z_al ?_ (fun _q ⟨_he, _hq⟩ => ?_)) | ((first | refine q_callE wsT wsZ (by rfl) ?_ | refine q_callVE wsT (by rfl) (by rfl) ?_); refine ⟨_, _, _, (by first | assumption | exact k_pick _ _ _ (by omega) | exact k_open _ (by omega)), _, by rfl, ?_, ?_⟩)); focus (first | exact trivial | fail | exact zQZ)) | fail)) | refine r_nt (by rfl) (by rfl) zDD (by rfl) ?_ | refine r_nf (by rfl) (by rfl) zDD (by rfl) ?_ | refine r_gu (by rfl) (by rfl) (by rfl) ?_ | refine r_nil ?_) | (first | refine aw_seq ?_ | refine aw_ct (by rfl) zDD ?_ | refine aw_cf (by rfl) zDD ?_ | refine aw_block ?_ | refine aw_region T0ok cfU_ok (by rfl) ?_ | refine aw_skip ?_ | refine aw_exit ?_ | refine ra_step ?_)))
          (refine rtA ?_; try rfl)
        | false =>
          cases h9 : (t == 2) with
          | true =>
            rw [h7, h8, h9] at ho
            have ho' : o = some ⟨3, List.replicate 9 false, false⟩ := ho
            subst ho'
            (repeat (first | (first | ((first | refine r_none ?_ | refine r_gt (by rfl) (by rfl) zDD (by rfl) ?_ | refine r_gf (by rfl) (by rfl) zDD (by rfl) ?_); (first | fail | ((first | (refine z_op (by rfl) ?_; first | refine z_ok ?_ ?_ | refine z_ex ?_ (by first | exact zL1 | ((first | refine mk_c Bool rfl rfl rfl ?_); exact zWW) | exact zL2 | exact rw_c Bool rfl | exact zL3 | fail) ?_ | refine z_al ?_ (fun _q ⟨_he, _hq⟩ => ?_)) | ((first | refine q_callE wsT wsZ (by rfl) ?_ | refine q_callVE wsT (by rfl) (by rfl) ?_); refine ⟨_, _, _, (by first | assumption | exact k_pick _ _ _ (by omega) | exact k_open _ (by omega)), _, by rfl, ?_, ?_⟩)); focus (first | exact trivial | fail | exact zQZ)) | fail)) | refine r_nt (by rfl) (by rfl) zDD (by rfl) ?_ | refine r_nf (by rfl) (by rfl) zDD (by rfl) ?_ | refine r_gu (by rfl) (by rfl) (by rfl) ?_ | refine r_nil ?_) | (first | refine aw_seq ?_ | refine aw_ct (by rfl) zDD ?_ | refine aw_cf (by rfl) zDD ?_ | refine aw_block ?_ | refine aw_region T0ok cfU_ok (by rfl) ?_ | refine aw_skip ?_ | refine aw_exit ?_ | refine ra_step ?_)))
            (refine rtA ?_; try rfl)
          | false =>
            rw [h7, h8, h9] at ho
            have ho' : o = some ⟨6, trues 13, false⟩ := ho
            subst ho'
            (repeat (first | (first | ((first | refine r_none ?_ | refine r_gt (by rfl) (by rfl) zDD (by rfl) ?_ | refine r_gf (by rfl) (by rfl) zDD (by rfl) ?_); (first | fail | ((first | (refine z_op (by rfl) ?_; first | refine z_ok ?_ ?_ | refine z_ex ?_ (by first | exact zL1 | ((first | refine mk_c Bool rfl rfl rfl ?_); exact zWW) | exact zL2 | exact rw_c Bool rfl | exact zL3 | fail) ?_ | refine z_al ?_ (fun _q ⟨_he, _hq⟩ => ?_)) | ((first | refine q_callE wsT wsZ (by rfl) ?_ | refine q_callVE wsT (by rfl) (by rfl) ?_); refine ⟨_, _, _, (by first | assumption | exact k_pick _ _ _ (by omega) | exact k_open _ (by omega)), _, by rfl, ?_, ?_⟩)); focus (first | exact trivial | fail | exact zQZ)) | fail)) | refine r_nt (by rfl) (by rfl) zDD (by rfl) ?_ | refine r_nf (by rfl) (by rfl) zDD (by rfl) ?_ | refine r_gu (by rfl) (by rfl) (by rfl) ?_ | refine r_nil ?_) | (first | refine aw_seq ?_ | refine aw_ct (by rfl) zDD ?_ | refine aw_cf (by rfl) zDD ?_ | refine aw_block ?_ | refine aw_region T0ok cfU_ok (by rfl) ?_ | refine aw_skip ?_ | refine aw_exit ?_ | refine ra_step ?_)))
            (refine aw_rd [4, 5] [64, 80, 100000] (fun g : Nat => [(7, vI g)]) (fun g => [(672, (0, bRow (trues g)))]) (fun g => g ≤ 13) (fun g => 13 - g) 0 (by rfl) (by rfl) ?_ (by rfl) zHE zHE ?_)
            · exact Nat.zero_le _
            rintro i hi
            have hm := trues_len i
            rcases Nat.lt_or_ge 12 i with hc | hc
            · have hc' : i = 13 := by omega
              subst hc'
              have hd : decide (((13 : Nat) : Int) ≤ 12) = false := rfl
              (repeat (first | (first | ((first | refine r_none ?_ | refine r_gt (by rfl) (by rfl) zDD (by rfl) ?_ | refine r_gf (by rfl) (by rfl) zDD (by rfl) ?_); (first | fail | ((first | (refine z_op (by rfl) ?_; first | refine z_ok ?_ ?_ | refine z_ex ?_ (by first | exact zL1 | ((first | refine mk_c Bool rfl rfl rfl ?_); exact zWW) | exact zL2 | exact rw_c Bool rfl | exact zL3 | fail) ?_ | refine z_al ?_ (fun _q ⟨_he, _hq⟩ => ?_)) | ((first | refine q_callE wsT wsZ (by rfl) ?_ | refine q_callVE wsT (by rfl) (by rfl) ?_); refine ⟨_, _, _, (by first | assumption | exact k_pick _ _ _ (by omega) | exact k_open _ (by omega)), _, by rfl, ?_, ?_⟩)); focus (first | exact trivial | fail | exact zQZ)) | fail)) | refine r_nt (by rfl) (by rfl) zDD (by rfl) ?_ | refine r_nf (by rfl) (by rfl) zDD (by rfl) ?_ | refine r_gu (by rfl) (by rfl) (by rfl) ?_ | refine r_nil ?_) | (first | refine aw_seq ?_ | refine aw_ct (by rfl) zDD ?_ | refine aw_cf (by rfl) zDD ?_ | refine aw_block ?_ | refine aw_region T0ok cfU_ok (by rfl) ?_ | refine aw_skip ?_ | refine aw_exit ?_ | refine ra_step ?_)))
              (refine rtA ?_; try rfl)
            · have hd : decide ((i : Int) ≤ 12) = true := by simp; omega
              (repeat (first | (first | ((first | refine r_none ?_ | refine r_gt (by rfl) (by rfl) zDD (by rfl) ?_ | refine r_gf (by rfl) (by rfl) zDD (by rfl) ?_); (first | fail | ((first | (refine z_op (by rfl) ?_; first | refine z_ok ?_ ?_ | refine z_ex ?_ (by first | exact zL1 | ((first | refine mk_c Bool rfl rfl rfl ?_); exact zWW) | exact zL2 | exact rw_c Bool rfl | exact zL3 | fail) ?_ | refine z_al ?_ (fun _q ⟨_he, _hq⟩ => ?_)) | ((first | refine q_callE wsT wsZ (by rfl) ?_ | refine q_callVE wsT (by rfl) (by rfl) ?_); refine ⟨_, _, _, (by first | assumption | exact k_pick _ _ _ (by omega) | exact k_open _ (by omega)), _, by rfl, ?_, ?_⟩)); focus (first | exact trivial | fail | exact zQZ)) | fail)) | refine r_nt (by rfl) (by rfl) zDD (by rfl) ?_ | refine r_nf (by rfl) (by rfl) zDD (by rfl) ?_ | refine r_gu (by rfl) (by rfl) (by rfl) ?_ | refine r_nil ?_) | (first | refine aw_seq ?_ | refine aw_ct (by rfl) zDD ?_ | refine aw_cf (by rfl) zDD ?_ | refine aw_block ?_ | refine aw_region T0ok cfU_ok (by rfl) ?_ | refine aw_skip ?_ | refine aw_exit ?_ | refine ra_step ?_)))
              have e : (trues i).set (i : Int).toNat true = trues (i + 1) := rfl
              rw [e]
              have hinv : i + 1 ≤ 13 := by omega
              exact ⟨i + 1, hinv, ⟨by rfl, zHE, zHE⟩, (by first | omega | (dsimp only; omega))⟩
  · obtain ⟨k', rfl⟩ : ∃ k', k = k' + 1 := ⟨k - 1, by omega⟩
    have hd : decide (((k' + 1 : Nat) : Int) > 0) = true := decide_eq_true (by omega)
    have p4 := pickI_lt (l := l) (c := c') (n := (((List.replicate ((2 + 2 * a) * (2 + 2 * a)).toNat (Cel.no : Bool)).length : Nat) : Int)) (by omega)
    (repeat (first | (first | ((first | refine r_none ?_ | refine r_gt (by rfl) (by rfl) zDD (by rfl) ?_ | refine r_gf (by rfl) (by rfl) zDD (by rfl) ?_); (first | fail | ((first | (refine z_op (by rfl) ?_; first | refine z_ok ?_ ?_ | refine z_ex ?_ (by first | exact zL1 | ((first | refine mk_c Bool rfl rfl rfl ?_); exact zWW) | exact zL2 | exact rw_c Bool rfl | exact zL3 | fail) ?_ | refine z_al ?_ (fun _q ⟨_he, _hq⟩ => ?_)) | ((first | refine q_callE wsT wsZ (by rfl) ?_ | refine q_callVE wsT (by rfl) (by rfl) ?_); refine ⟨_, _, _, (by first | assumption | exact k_pick _ _ _ (by omega) | exact k_open _ (by omega)), _, by rfl, ?_, ?_⟩)); focus (first | exact trivial | fail | exact zQZ)) | fail)) | refine r_nt (by rfl) (by rfl) zDD (by rfl) ?_ | refine r_nf (by rfl) (by rfl) zDD (by rfl) ?_ | refine r_gu (by rfl) (by rfl) (by rfl) ?_ | refine r_nil ?_) | (first | refine aw_seq ?_ | refine aw_ct (by rfl) zDD ?_ | refine aw_cf (by rfl) zDD ?_ | refine aw_block ?_ | refine aw_region T0ok cfU_ok (by rfl) ?_ | refine aw_skip ?_ | refine aw_exit ?_ | refine ra_step ?_)))
    (refine aw_draw mixed T0ok cfU_ok [(100000, [5, 6, 7, 8]), (336, [5, 6, 7, 8])] (by rfl) (by kernel_rfl) ?_)
    (repeat (first | (first | ((first | refine r_none ?_ | refine r_gt (by rfl) (by rfl) zDD (by rfl) ?_ | refine r_gf (by rfl) (by rfl) zDD (by rfl) ?_); (first | fail | ((first | (refine z_op (by rfl) ?_; first | refine z_ok ?_ ?_ | refine z_ex ?_ (by first | exact zL1 | ((first | refine mk_c Bool rfl rfl rfl ?_); exact zWW) | exact zL2 | exact rw_c Bool rfl | exact zL3 | fail) ?_ | refine z_al ?_ (fun _q ⟨_he, _hq⟩ => ?_)) | ((first | refine q_callE wsT wsZ (by rfl) ?_ | refine q_callVE wsT (by rfl) (by rfl) ?_); refine ⟨_, _, _, (by first | assumption | exact k_pick _ _ _ (by omega) | exact k_open _ (by omega)), _, by rfl, ?_, ?_⟩)); focus (first | exact trivial | fail | exact zQZ)) | fail)) | refine r_nt (by rfl) (by rfl) zDD (by rfl) ?_ | refine r_nf (by rfl) (by rfl) zDD (by rfl) ?_ | refine r_gu (by rfl) (by rfl) (by rfl) ?_ | refine r_nil ?_) | (first | refine aw_seq ?_ | refine aw_ct (by rfl) zDD ?_ | refine aw_cf (by rfl) zDD ?_ | refine aw_block ?_ | refine aw_region T0ok cfU_ok (by rfl) ?_ | refine aw_skip ?_ | refine aw_exit ?_ | refine ra_step ?_)))
    have e6 : drawRow l (k' + 1) c' r' = drawRow l k' (c' + 1) (r'.set (pickI l c' ((List.replicate ((2 + 2 * a) * (2 + 2 * a)).toNat (Cel.no : Bool)).length : Nat)).toNat true) := by rw [drawRow, e4]
    have hinv : c' + 1 + (k' : Int) = c + 1 + 1 + 1 + m ∧ c ≤ c' + 1 ∧ k' ≤ 9 ∧ (r'.set (pickI l c' ((List.replicate ((2 + 2 * a) * (2 + 2 * a)).toNat (Cel.no : Bool)).length : Nat)).toNat true).length = (List.replicate ((2 + 2 * a) * (2 + 2 * a)).toNat (Cel.no : Bool)).length ∧ drawRow l k' (c' + 1) (r'.set (pickI l c' ((List.replicate ((2 + 2 * a) * (2 + 2 * a)).toNat (Cel.no : Bool)).length : Nat)).toNat true) = r := ⟨by omega, by omega, by omega, by rw [List.length_set, e4], by rw [← e5, e6]⟩
    exact ⟨(k', c' + 1, r'.set (pickI l c' ((List.replicate ((2 + 2 * a) * (2 + 2 * a)).toNat (Cel.no : Bool)).length : Nat)).toNat true), hinv, ⟨by rfl, zHE, zHE⟩, (by first | omega | (dsimp only; omega))⟩
end Go.Proofs.YtfoobfelgbcknaaDoor
namespace Go.Proofs.YtfoobfelgbcknaaDoor
set_option linter.unusedVariables false
set_option linter.unusedSimpArgs false
set_option maxRecDepth 20000
open Go.RowKit
set_option maxHeartbeats 400000 in
theorem clipB : IsClip Tryd.prog 50 := by
  refine isClip_mk Tryd.func50 rfl (by rfl) fun A n c w hn hm => ?_
  go_enter Tryd.func50, Tryd.ntmps50
  go_wp2
  go_ret
  exact ⟨rfl, rfl⟩
attribute [local irreducible] runA runX AW
theorem k_clone (l : List Bool) (h : 0 < l.length ∧ l.length ≤ 1000000) : Kon Tryd.prog 51 [roA l] [] (slA 0 0 l) [bRow l] [] := by
  (refine kM Tryd.func51 rfl ?_; intro hfit hfe)
  (repeat (first | (first | ((first | refine r_none ?_ | refine r_gt (by rfl) (by rfl) zDD (by rfl) ?_ | refine r_gf (by rfl) (by rfl) zDD (by rfl) ?_); (first | fail | ((first | (refine z_op (by rfl) ?_; first | refine z_ok ?_ ?_ | refine z_ex ?_ (by first | exact zL1 | ((first | refine mk_0 Int rfl rfl ?_ | refine mk_c Int rfl rfl rfl ?_ | refine mk_c Bool rfl rfl rfl ?_); exact zWW) | exact zL2 | exact rw_c Int rfl | exact rw_c Bool rfl | exact zL3 | fail) ?_ | refine z_al ?_ (fun _q ⟨_he, _hq⟩ => ?_)) | ((first | refine q_callE wsT wsZ (by rfl) ?_ | refine q_callVE wsT (by rfl) (by rfl) ?_); refine ⟨_, _, _, (by first | exact k_clone _ (by omega)), _, by rfl, ?_, ?_⟩)); focus (first | exact trivial | fail | exact zQZ)) | refine q_clip (by rfl) clipB (by first | exact trivial | omega | exact cvB (fun w => rfl) | ((repeat (any_goals (first | exact rfl | exact cV_len _ | exact cV_ln rfl (by omega) | exact Cel.pos | omega | exact trivial | refine And.intro ?_ ?_))); first | done | fail) | (simp [*]; first | done | fail)) ?_)) | refine r_nt (by rfl) (by rfl) zDD (by rfl) ?_ | refine r_nf (by rfl) (by rfl) zDD (by rfl) ?_ | refine r_gu (by rfl) (by rfl) (by rfl) ?_ | refine r_nil ?_) | (first | refine aw_seq ?_ | refine aw_ct (by rfl) zDD ?_ | refine aw_cf (by rfl) zDD ?_ | refine aw_block ?_ | refine aw_region T0ok cfU_ok (by rfl) ?_ | refine aw_skip ?_ | refine aw_exit ?_ | refine ra_step ?_)))
  (refine rtA ?_; try rfl)
theorem k_copyO (s : Int) (l : List Bool) (b : Bool) (h : 0 < l.length ∧ l.length ≤ 1000000) : Kon Tryd.prog 32 [fA s l b] [] (fO s l b) [bRow l] [] := by
  (refine kM Tryd.func32 rfl ?_; intro hfit hfe)
  (repeat (first | (first | ((first | refine r_none ?_ | refine r_gt (by rfl) (by rfl) zDD (by rfl) ?_ | refine r_gf (by rfl) (by rfl) zDD (by rfl) ?_); (first | fail | ((first | (refine z_op (by rfl) ?_; first | refine z_ok ?_ ?_ | refine z_ex ?_ (by first | exact zL1 | ((first | refine mk_0 Int rfl rfl ?_ | refine mk_c Int rfl rfl rfl ?_ | refine mk_c Bool rfl rfl rfl ?_); exact zWW) | exact zL2 | exact rw_c Int rfl | exact rw_c Bool rfl | exact zL3 | fail) ?_ | refine z_al ?_ (fun _q ⟨_he, _hq⟩ => ?_)) | ((first | refine q_callE wsT wsZ (by rfl) ?_ | refine q_callVE wsT (by rfl) (by rfl) ?_); refine ⟨_, _, _, (by first | exact k_clone _ (by omega)), _, by rfl, ?_, ?_⟩)); focus (first | exact trivial | fail | exact zQZ)) | refine q_clip (by rfl) clipB (by first | exact trivial | omega | exact cvB (fun w => rfl) | ((repeat (any_goals (first | exact rfl | exact cV_len _ | exact cV_ln rfl (by omega) | exact Cel.pos | omega | exact trivial | refine And.intro ?_ ?_))); first | done | fail) | (simp [*]; first | done | fail)) ?_)) | refine r_nt (by rfl) (by rfl) zDD (by rfl) ?_ | refine r_nf (by rfl) (by rfl) zDD (by rfl) ?_ | refine r_gu (by rfl) (by rfl) (by rfl) ?_ | refine r_nil ?_) | (first | refine aw_seq ?_ | refine aw_ct (by rfl) zDD ?_ | refine aw_cf (by rfl) zDD ?_ | refine aw_block ?_ | refine aw_region T0ok cfU_ok (by rfl) ?_ | refine aw_skip ?_ | refine aw_exit ?_ | refine ra_step ?_)))
  (refine rtA ?_; try rfl)
end Go.Proofs.YtfoobfelgbcknaaDoor
