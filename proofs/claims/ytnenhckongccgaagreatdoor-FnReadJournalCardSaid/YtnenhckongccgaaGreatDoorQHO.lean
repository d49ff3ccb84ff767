/- DI, ED, DM, DX, ShlC, DC, DS, DO, KBL: laid into one text. -/
import Derived.Test.YtnenhckongccgaaGreatDoorQHE
import Derived.Test.YtnenhckongccgaaGreatDoorQHF
import Derived.Test.YtnenhckongccgaaGreatDoorQHJ
import Derived.Test.YtnenhckongccgaaGreatDoorQHN
import Derived.Shelf.Lays
import Derived.Shelf.Strings.Cut
import Derived.Test.YtnenhckongccgaaGreatDoorProg
import Derived.RangeFuncNested
import Derived.RangeFuncBox
import Derived.RangeFuncLeaves
import Derived.Shelf.Abstract
import Derived.WalkKit
import Derived.OwnWalkIn
import Derived.TacticsInMore
import Derived.LoopNIn
import Derived.LoopIn
import Derived.Maps.AppendAt

namespace Go.Proofs.YtnenhckongccgaaGreatDoor
set_option linter.unusedVariables false
set_option linter.unusedSimpArgs false
set_option maxRecDepth 20000
open Go.RowKit
open Go.Lib (decDigits)
abbrev natAll : Value := .agg #[.string ⟨#[110, 111, 116]⟩, .int .i64 1, .int .i64 1, .int .i64 1, .string ⟨#[99, 111, 112, 121]⟩, .int .i64 3, .int .i64 2, .int .i64 1, .string ⟨#[98, 111, 116, 104]⟩, .int .i64 7, .int .i64 4, .int .i64 5, .string ⟨#[115, 119, 97, 112]⟩, .int .i64 3, .int .i64 3, .int .i64 3, .string ⟨#[105, 102]⟩, .int .i64 7, .int .i64 6, .int .i64 7]
def nkL (k : Int) : Int := if k = 0 then 1 else if k = 1 then 3 else if k = 2 then 7 else if k = 3 then 3 else 7
def nkM (k : Int) : Int := if k = 0 then 1 else if k = 1 then 2 else if k = 2 then 4 else if k = 3 then 3 else 6
def nkC (k : Int) : Int := if k = 0 then 1 else if k = 1 then 1 else if k = 2 then 5 else if k = 3 then 3 else 7
abbrev nkV (k : Int) : Value := .agg #[.string (str (gnm k)), .int .i64 (nkL k), .int .i64 (nkM k), .int .i64 (nkC k)]
theorem nat_idx (j : Int) (h : 0 ≤ j ∧ j ≤ 4) (w : World) : (Instr.index 156 natAll (.int .i64 j)).run Tryz.prog w = .ok (nkV j) w := by
  have e0 : ∀ w, (Instr.index 156 natAll (.int .i64 0)).run Tryz.prog w = .ok (nkV 0) w := fun w => by kernel_rfl
  have e1 : ∀ w, (Instr.index 156 natAll (.int .i64 1)).run Tryz.prog w = .ok (nkV 1) w := fun w => by kernel_rfl
  have e2 : ∀ w, (Instr.index 156 natAll (.int .i64 2)).run Tryz.prog w = .ok (nkV 2) w := fun w => by kernel_rfl
  have e3 : ∀ w, (Instr.index 156 natAll (.int .i64 3)).run Tryz.prog w = .ok (nkV 3) w := fun w => by kernel_rfl
  have e4 : ∀ w, (Instr.index 156 natAll (.int .i64 4)).run Tryz.prog w = .ok (nkV 4) w := fun w => by kernel_rfl
  have h' : j = 0 ∨ j = 1 ∨ j = 2 ∨ j = 3 ∨ j = 4 := by omega
  rcases h' with rfl | rfl | rfl | rfl | rfl
  · exact e0 w
  · exact e1 w
  · exact e2 w
  · exact e3 w
  · exact e4 w
theorem k_natV : Kon Tryz.prog 152 [] [] (ofv natAll) [] [] := k_natures
section
variable {T : Tab} {cf : FuncId → Option (List AV → Option Tmp → AM)} {Fs : Nat → Ft} {i : Nat} {rest : List Oper} {S : St} {K : St → Prop} {ops : Array Oper} {d : Tmp} {x y : Operand} {ty : TypeId} {pos : String} {af : Array Edge} {g : Option (Nat × Bool)}
theorem r_natG {j : Int} (hx : rdV (Fs i) S x = some natAll) (hy : rdV (Fs i) S y = some (.int .i64 j)) (h : 0 ≤ j ∧ j ≤ 4) (hw : (Fs i).sw d = true)
    (k : runX Fs Tryz.prog T cf ops (i + 1) rest (S.put d (some (.g (.agg [.v (.string (str (gnm j))), .v (.int .i64 (nkL j)), .v (.int .i64 (nkM j)), .v (.int .i64 (nkC j))])))) K) : runA Fs Tryz.prog T cf ops i ⟨some d, .index 156 x y, ty, pos, af, g⟩ rest S K := r_index hx hy (r := nkV j) (fun w => nat_idx j h w) rfl hw k
end
attribute [local irreducible] runA runX AW
theorem gq_DI {H G : Prop} (k : H) (h : Hid H → G := by (intro hh; repeat1' (first | (first | (refine nxA ?_; (first | (first | refine r_natG (by rfl) (by rfl) (by omega) (by rfl) ?_ | refine r_buildSb (by rfl) (by rfl) (by rfl) (by rfl) (by rfl) (by rfl) (by rfl) (by rfl) (by rfl) (by rfl) (by rfl) (by rfl) (by rfl) ?_ | refine r_indexAddr_sb (by rfl) (by rfl) (by rfl) (by rfl) (by rfl) (by rfl) (by omega) ?_ | refine r_len_sb (by rfl) (by rfl) (by rfl) (by rfl) (by rfl) ?_ | refine r_slen (by rfl) Tryz.underlying9 (by rfl) ?_ | refine r_sidx (by rfl) (by rfl) Tryz.underlying9 (by omega) (by rfl) ?_ | refine r_b2i (by rfl) (fun w => by rfl) (by omega) (by rfl) ?_ | refine r_seq (by rfl) (by rfl) (by rfl) ?_ | refine r_sne (by rfl) (by rfl) (by rfl) ?_) | ((first | (refine z_op (by rfl) ?_; first | refine z_ok ?_ ?_ | refine z_ex ?_ (by first | exact zL1 | ((first | fail); exact zWW) | exact zL2 | fail | exact zL3 | fail) ?_) | ((first | refine q_callE wsT wsZ (by rfl) ?_ | refine q_callVE wsT (by rfl) (by rfl) ?_); refine ⟨_, _, _, (by first | assumption), _, by rfl, ?_, ?_⟩)); focus (first | exact trivial | fail | exact zQZ)) | fail)) | refine swA ?_) | refine awA ?_); exact hh.out)) : G := h ⟨k⟩
theorem wdO_y {ws : List (List UInt8)} {m : Nat} (h1 : m < ws.length) (h2 : (ws.getD m []).length = 1) : wdO ws m = (((ws.getD m []).getD 0 0).toNat : Int) - 48 := by unfold wdO; rw [if_pos ⟨h1, h2⟩]
theorem wdO_n {ws : List (List UInt8)} {m : Nat} (h2 : (ws.getD m []).length ≠ 1) : wdO ws m = 0 := by unfold wdO; rw [if_neg (fun h => h2 h.2)]
def At (ws : List (List UInt8)) (m i : Nat) : Int := if m ≤ i then wdO ws m else 0
set_option maxHeartbeats 8000000 in
theorem k_rgI0 (s : List UInt8) (hs : s.length ≤ 7000000) (hno : ∀ (j : Nat) (a b c : Int), gnm (j : Int) = (cutA 32 [] s).getD 0 [] → (gtx ⟨(j : Int), a, b, c⟩ == s) = false) : Kon Tryz.prog 115 [vS s] [] (tupG g0 false) [] [] := by
  have hS := k_split s hs
  have hN := k_natV
  have hw := (cutA_len 32 s []).1
  generalize cutA 32 [] s = ws at *
  (refine kM Tryz.func115 rfl ?_; intro hfit hfe)
  (repeat (first | refine gq_DI ?_ | (refine ga0A ?_; intro _hq) | refine gdA ?_))
  (refine aw_rd [0, 2, 4, 12] [32, 176] (fun j : Nat => [(13, vI j)]) (fun _ => []) (fun j => j ≤ 5) (fun j => 5 - j) 0 (by rfl) (by rfl) ?_ (by rfl) zHE zHE ?_)
  · exact Nat.zero_le _
  rintro j hj
  rcases Nat.lt_or_ge j 5 with h1 | h1
  · have hd : decide ((j : Int) < 5) = true := decide_eq_true (by omega)
    have hinv5 : j + 1 ≤ 5 := h1
    cases hb : (gnm (j : Int) == ws.getD (0 : Int).toNat Cel.no) with
    | false =>
      have hb2 : (!(gnm (j : Int) == ws.getD (0 : Int).toNat Cel.no)) = true := by rw [hb]; rfl
      (repeat (first | refine gq_DI ?_ | (refine ga0A ?_; intro _hq) | refine gdA ?_))
      exact ⟨j + 1, hinv5, ⟨by rfl, zHE, zHE⟩, (by first | omega | (dsimp only; omega))⟩
    | true =>
      have hb2 : (!(gnm (j : Int) == ws.getD (0 : Int).toNat Cel.no)) = false := by rw [hb]; rfl
      (repeat (first | refine gq_DI ?_ | (refine ga0A ?_; intro _hq) | refine gdA ?_))
      (refine aw_rd [0, 2, 4, 5, 7, 12, 13, 28, 29] [32, 176, 448] (fun g : Nat × Int × Int × Int => [(30, vI g.1)]) (fun g => [(112, (0, .box (gCs ⟨(j : Int), g.2.1, g.2.2.1, g.2.2.2⟩)))]) (fun g => g.1 ≤ 3 ∧ g.2.1 = At ws 1 g.1 ∧ g.2.2.1 = At ws 2 g.1 ∧ g.2.2.2 = At ws 3 g.1) (fun g => 3 - g.1) (0, 0, 0, 0) (by rfl) (by rfl) ?_ (by rfl) zHE zHE ?_)
      · exact ⟨Nat.zero_le _, rfl, rfl, rfl⟩
      rintro ⟨i, a, b, c⟩ ⟨hi, ea, eb, ec⟩
      dsimp only at hi ea eb ec ⊢
      have hi' : i = 0 ∨ i = 1 ∨ i = 2 ∨ i = 3 := by omega
      rcases hi' with rfl | rfl | rfl | rfl
      · have hg : decide (((0 : Nat) : Int) < ((3 : Nat) : Int)) = true := by decide
        rcases Nat.lt_or_ge 1 ws.length with l1 | l1
        · have dl : decide (((0 : Nat) : Int) + 1 < (ws.length : Int)) = true := decide_eq_true (by omega)
          by_cases l2 : (ws.getD 1 []).length = 1
          · have d2 : (((ws.getD (((0 : Nat) : Int) + 1).toNat Cel.no).length : Int) == 1) = true := by rw [show (ws.getD (((0 : Nat) : Int) + 1).toNat Cel.no).length = 1 from l2]; rfl
            have l3 : 0 < (ws.getD (((0 : Nat) : Int) + 1).toNat Cel.no).length := by rw [show (ws.getD (((0 : Nat) : Int) + 1).toNat Cel.no).length = 1 from l2]; decide
            have hle := ((ws.getD (((0 : Nat) : Int) + 1).toNat Cel.no).getD (0 : Int).toNat 0).toNat_lt
            have hinv : 1 ≤ 3 ∧ ((((ws.getD 1 []).getD 0 0).toNat : Int) - 48) = At ws 1 1 ∧ b = At ws 2 1 ∧ c = At ws 3 1 := ⟨by decide, (wdO_y l1 l2).symm, eb, ec⟩
            (repeat (first | refine gq_DI ?_ | (refine ga0A ?_; intro _hq) | refine gdA ?_))
            exact ⟨(1, ((((ws.getD 1 []).getD 0 0).toNat : Int) - 48), b, c), hinv, ⟨by rfl, zHE, zHE⟩, (by first | omega | (dsimp only; omega))⟩
          · have d2 : (((ws.getD (((0 : Nat) : Int) + 1).toNat Cel.no).length : Int) == 1) = false := by rw [beq_eq_false_iff_ne]; intro h; exact l2 (by have : ((ws.getD 1 []).length : Int) = 1 := h; omega)
            have hinv : 1 ≤ 3 ∧ a = At ws 1 1 ∧ b = At ws 2 1 ∧ c = At ws 3 1 := ⟨by decide, (show a = wdO ws 1 from ea.trans (wdO_n l2).symm), eb, ec⟩
            (repeat (first | refine gq_DI ?_ | (refine ga0A ?_; intro _hq) | refine gdA ?_))
            exact ⟨(1, a, b, c), hinv, ⟨by rfl, zHE, zHE⟩, (by first | omega | (dsimp only; omega))⟩
        · have dl : decide (((0 : Nat) : Int) + 1 < (ws.length : Int)) = false := decide_eq_false (by omega)
          have hinv : 1 ≤ 3 ∧ a = At ws 1 1 ∧ b = At ws 2 1 ∧ c = At ws 3 1 := ⟨by decide, (show a = wdO ws 1 from ea.trans (wdO_no l1).symm), eb, ec⟩
          (repeat (first | refine gq_DI ?_ | (refine ga0A ?_; intro _hq) | refine gdA ?_))
          exact ⟨(1, a, b, c), hinv, ⟨by rfl, zHE, zHE⟩, (by first | omega | (dsimp only; omega))⟩
      · have hg : decide (((1 : Nat) : Int) < ((3 : Nat) : Int)) = true := by decide
        rcases Nat.lt_or_ge 2 ws.length with l1 | l1
        · have dl : decide (((1 : Nat) : Int) + 1 < (ws.length : Int)) = true := decide_eq_true (by omega)
          by_cases l2 : (ws.getD 2 []).length = 1
          · have d2 : (((ws.getD (((1 : Nat) : Int) + 1).toNat Cel.no).length : Int) == 1) = true := by rw [show (ws.getD (((1 : Nat) : Int) + 1).toNat Cel.no).length = 1 from l2]; rfl
            have l3 : 0 < (ws.getD (((1 : Nat) : Int) + 1).toNat Cel.no).length := by rw [show (ws.getD (((1 : Nat) : Int) + 1).toNat Cel.no).length = 1 from l2]; decide
            have hle := ((ws.getD (((1 : Nat) : Int) + 1).toNat Cel.no).getD (0 : Int).toNat 0).toNat_lt
            have hinv : 2 ≤ 3 ∧ a = At ws 1 2 ∧ ((((ws.getD 2 []).getD 0 0).toNat : Int) - 48) = At ws 2 2 ∧ c = At ws 3 2 := ⟨by decide, ea, (wdO_y l1 l2).symm, ec⟩
            (repeat (first | refine gq_DI ?_ | (refine ga0A ?_; intro _hq) | refine gdA ?_))
            exact ⟨(2, a, ((((ws.getD 2 []).getD 0 0).toNat : Int) - 48), c), hinv, ⟨by rfl, zHE, zHE⟩, (by first | omega | (dsimp only; omega))⟩
          · have d2 : (((ws.getD (((1 : Nat) : Int) + 1).toNat Cel.no).length : Int) == 1) = false := by rw [beq_eq_false_iff_ne]; intro h; exact l2 (by have : ((ws.getD 2 []).length : Int) = 1 := h; omega)
            have hinv : 2 ≤ 3 ∧ a = At ws 1 2 ∧ b = At ws 2 2 ∧ c = At ws 3 2 := ⟨by decide, ea, (show b = wdO ws 2 from eb.trans (wdO_n l2).symm), ec⟩
            (repeat (first | refine gq_DI ?_ | (refine ga0A ?_; intro _hq) | refine gdA ?_))
            exact ⟨(2, a, b, c), hinv, ⟨by rfl, zHE, zHE⟩, (by first | omega | (dsimp only; omega))⟩
        · have dl : decide (((1 : Nat) : Int) + 1 < (ws.length : Int)) = false := decide_eq_false (by omega)
          have hinv : 2 ≤ 3 ∧ a = At ws 1 2 ∧ b = At ws 2 2 ∧ c = At ws 3 2 := ⟨by decide, ea, (show b = wdO ws 2 from eb.trans (wdO_no l1).symm), ec⟩
          (repeat (first | refine gq_DI ?_ | (refine ga0A ?_; intro _hq) | refine gdA ?_))
          exact ⟨(2, a, b, c), hinv, ⟨by rfl, zHE, zHE⟩, (by first | omega | (dsimp only; omega))⟩
      · have hg : decide (((2 : Nat) : Int) < ((3 : Nat) : Int)) = true := by decide
        rcases Nat.lt_or_ge 3 ws.length with l1 | l1
        · have dl : decide (((2 : Nat) : Int) + 1 < (ws.length : Int)) = true := decide_eq_true (by omega)
          by_cases l2 : (ws.getD 3 []).length = 1
          · have d2 : (((ws.getD (((2 : Nat) : Int) + 1).toNat Cel.no).length : Int) == 1) = true := by rw [show (ws.getD (((2 : Nat) : Int) + 1).toNat Cel.no).length = 1 from l2]; rfl
            have l3 : 0 < (ws.getD (((2 : Nat) : Int) + 1).toNat Cel.no).length := by rw [show (ws.getD (((2 : Nat) : Int) + 1).toNat Cel.no).length = 1 from l2]; decide
            have hle := ((ws.getD (((2 : Nat) : Int) + 1).toNat Cel.no).getD (0 : Int).toNat 0).toNat_lt
            have hinv : 3 ≤ 3 ∧ a = At ws 1 3 ∧ b = At ws 2 3 ∧ ((((ws.getD 3 []).getD 0 0).toNat : Int) - 48) = At ws 3 3 := ⟨by decide, ea, eb, (wdO_y l1 l2).symm⟩
            (repeat (first | refine gq_DI ?_ | (refine ga0A ?_; intro _hq) | refine gdA ?_))
            exact ⟨(3, a, b, ((((ws.getD 3 []).getD 0 0).toNat : Int) - 48)), hinv, ⟨by rfl, zHE, zHE⟩, (by first | omega | (dsimp only; omega))⟩
          · have d2 : (((ws.getD (((2 : Nat) : Int) + 1).toNat Cel.no).length : Int) == 1) = false := by rw [beq_eq_false_iff_ne]; intro h; exact l2 (by have : ((ws.getD 3 []).length : Int) = 1 := h; omega)
            have hinv : 3 ≤ 3 ∧ a = At ws 1 3 ∧ b = At ws 2 3 ∧ c = At ws 3 3 := ⟨by decide, ea, eb, (show c = wdO ws 3 from ec.trans (wdO_n l2).symm)⟩
            (repeat (first | refine gq_DI ?_ | (refine ga0A ?_; intro _hq) | refine gdA ?_))
            exact ⟨(3, a, b, c), hinv, ⟨by rfl, zHE, zHE⟩, (by first | omega | (dsimp only; omega))⟩
        · have dl : decide (((2 : Nat) : Int) + 1 < (ws.length : Int)) = false := decide_eq_false (by omega)
          have hinv : 3 ≤ 3 ∧ a = At ws 1 3 ∧ b = At ws 2 3 ∧ c = At ws 3 3 := ⟨by decide, ea, eb, (show c = wdO ws 3 from ec.trans (wdO_no l1).symm)⟩
          (repeat (first | refine gq_DI ?_ | (refine ga0A ?_; intro _hq) | refine gdA ?_))
          exact ⟨(3, a, b, c), hinv, ⟨by rfl, zHE, zHE⟩, (by first | omega | (dsimp only; omega))⟩
      · have hg : decide (((3 : Nat) : Int) < ((3 : Nat) : Int)) = false := by decide
        replace ea : a = wdO ws 1 := ea
        replace eb : b = wdO ws 2 := eb
        replace ec : c = wdO ws 3 := ec
        have hG := k_gtI ⟨(j : Int), a, b, c⟩
        have ht := hno j a b c (eq_of_beq hb)
        (repeat (first | refine gq_DI ?_ | (refine ga0A ?_; intro _hq) | refine gdA ?_))
        exact ⟨j + 1, hinv5, ⟨by rfl, zHE, zHE⟩, (by first | omega | (dsimp only; omega))⟩
  · obtain rfl : j = 5 := by omega
    have hd : decide (((5 : Nat) : Int) < 5) = false := by decide
    (repeat (first | refine gq_DI ?_ | (refine ga0A ?_; intro _hq) | refine gdA ?_))
    (refine rtA ?_; try rfl)
set_option maxHeartbeats 8000000 in
theorem k_rgI1 (s : List UInt8) (hs : s.length ≤ 7000000) (kk : Nat) (hk : kk ≤ 4) (hm : (cutA 32 [] s).getD 0 [] = gnm (kk : Int)) (ht : (gtx (rdI (kk : Int) s) == s) = true) : Kon Tryz.prog 115 [vS s] [] (tupG (rdI (kk : Int) s) true) [] [] := by
  have hS := k_split s hs
  have hN := k_natV
  have hw := (cutA_len 32 s []).1
  unfold rdI at ht ⊢
  generalize cutA 32 [] s = ws at *
  have hG := k_gtI ⟨(kk : Int), wdO ws 1, wdO ws 2, wdO ws 3⟩
  (refine kM Tryz.func115 rfl ?_; intro hfit hfe)
  (repeat (first | refine gq_DI ?_ | (refine ga0A ?_; intro _hq) | refine gdA ?_))
  (refine aw_rd [0, 2, 4, 12] [32, 176] (fun j : Nat => [(13, vI j)]) (fun _ => []) (fun j => j ≤ kk) (fun j => 5 - j) 0 (by rfl) (by rfl) ?_ (by rfl) zHE zHE ?_)
  · exact Nat.zero_le _
  rintro j hj
  have hd : decide ((j : Int) < 5) = true := decide_eq_true (by omega)
  rcases Nat.lt_or_ge j kk with h1 | h1
  · have hb2 : (!(gnm (j : Int) == ws.getD (0 : Int).toNat Cel.no)) = true := by
      rw [Bool.not_eq_true', beq_eq_false_iff_ne]
      intro h
      have h2 := gnm_inj (by omega) (by omega) (h.trans hm)
      omega
    (repeat (first | refine gq_DI ?_ | (refine ga0A ?_; intro _hq) | refine gdA ?_))
    exact ⟨j + 1, h1, ⟨by rfl, zHE, zHE⟩, (by dsimp only; omega)⟩
  · obtain rfl : j = kk := by omega
    have hb2 : (!(gnm (j : Int) == ws.getD (0 : Int).toNat Cel.no)) = false := by
      rw [Bool.not_eq_false', beq_iff_eq]
      exact hm.symm
    (repeat (first | refine gq_DI ?_ | (refine ga0A ?_; intro _hq) | refine gdA ?_))
    (refine aw_rd [0, 2, 4, 5, 7, 12, 13, 28, 29] [32, 176, 448] (fun g : Nat × Int × Int × Int => [(30, vI g.1)]) (fun g => [(112, (0, .box (gCs ⟨(j : Int), g.2.1, g.2.2.1, g.2.2.2⟩)))]) (fun g => g.1 ≤ 3 ∧ g.2.1 = At ws 1 g.1 ∧ g.2.2.1 = At ws 2 g.1 ∧ g.2.2.2 = At ws 3 g.1) (fun g => 3 - g.1) (0, 0, 0, 0) (by rfl) (by rfl) ?_ (by rfl) zHE zHE ?_)
    · exact ⟨Nat.zero_le _, rfl, rfl, rfl⟩
    rintro ⟨i, a, b, c⟩ ⟨hi, ea, eb, ec⟩
    dsimp only at hi ea eb ec ⊢
    have hi' : i = 0 ∨ i = 1 ∨ i = 2 ∨ i = 3 := by omega
    rcases hi' with rfl | rfl | rfl | rfl
    · have hg : decide (((0 : Nat) : Int) < ((3 : Nat) : Int)) = true := by decide
      rcases Nat.lt_or_ge 1 ws.length with l1 | l1
      · have dl : decide (((0 : Nat) : Int) + 1 < (ws.length : Int)) = true := decide_eq_true (by omega)
        by_cases l2 : (ws.getD 1 []).length = 1
        · have d2 : (((ws.getD (((0 : Nat) : Int) + 1).toNat Cel.no).length : Int) == 1) = true := by rw [show (ws.getD (((0 : Nat) : Int) + 1).toNat Cel.no).length = 1 from l2]; rfl
          have l3 : 0 < (ws.getD (((0 : Nat) : Int) + 1).toNat Cel.no).length := by rw [show (ws.getD (((0 : Nat) : Int) + 1).toNat Cel.no).length = 1 from l2]; decide
          have hle := ((ws.getD (((0 : Nat) : Int) + 1).toNat Cel.no).getD (0 : Int).toNat 0).toNat_lt
          have hinv : 1 ≤ 3 ∧ ((((ws.getD 1 []).getD 0 0).toNat : Int) - 48) = At ws 1 1 ∧ b = At ws 2 1 ∧ c = At ws 3 1 := ⟨by decide, (wdO_y l1 l2).symm, eb, ec⟩
          (repeat (first | refine gq_DI ?_ | (refine ga0A ?_; intro _hq) | refine gdA ?_))
          exact ⟨(1, ((((ws.getD 1 []).getD 0 0).toNat : Int) - 48), b, c), hinv, ⟨by rfl, zHE, zHE⟩, (by first | omega | (dsimp only; omega))⟩
        · have d2 : (((ws.getD (((0 : Nat) : Int) + 1).toNat Cel.no).length : Int) == 1) = false := by rw [beq_eq_false_iff_ne]; intro h; exact l2 (by have : ((ws.getD 1 []).length : Int) = 1 := h; omega)
          have hinv : 1 ≤ 3 ∧ a = At ws 1 1 ∧ b = At ws 2 1 ∧ c = At ws 3 1 := ⟨by decide, (show a = wdO ws 1 from ea.trans (wdO_n l2).symm), eb, ec⟩
          (repeat (first | refine gq_DI ?_ | (refine ga0A ?_; intro _hq) | refine gdA ?_))
          exact ⟨(1, a, b, c), hinv, ⟨by rfl, zHE, zHE⟩, (by first | omega | (dsimp only; omega))⟩
      · have dl : decide (((0 : Nat) : Int) + 1 < (ws.length : Int)) = false := decide_eq_false (by omega)
        have hinv : 1 ≤ 3 ∧ a = At ws 1 1 ∧ b = At ws 2 1 ∧ c = At ws 3 1 := ⟨by decide, (show a = wdO ws 1 from ea.trans (wdO_no l1).symm), eb, ec⟩
        (repeat (first | refine gq_DI ?_ | (refine ga0A ?_; intro _hq) | refine gdA ?_))
        exact ⟨(1, a, b, c), hinv, ⟨by rfl, zHE, zHE⟩, (by first | omega | (dsimp only; omega))⟩
    · have hg : decide (((1 : Nat) : Int) < ((3 : Nat) : Int)) = true := by decide
      rcases Nat.lt_or_ge 2 ws.length with l1 | l1
      · have dl : decide (((1 : Nat) : Int) + 1 < (ws.length : Int)) = true := decide_eq_true (by omega)
        by_cases l2 : (ws.getD 2 []).length = 1
        · have d2 : (((ws.getD (((1 : Nat) : Int) + 1).toNat Cel.no).length : Int) == 1) = true := by rw [show (ws.getD (((1 : Nat) : Int) + 1).toNat Cel.no).length = 1 from l2]; rfl
          have l3 : 0 < (ws.getD (((1 : Nat) : Int) + 1).toNat Cel.no).length := by rw [show (ws.getD (((1 : Nat) : Int) + 1).toNat Cel.no).length = 1 from l2]; decide
          have hle := ((ws.getD (((1 : Nat) : Int) + 1).toNat Cel.no).getD (0 : Int).toNat 0).toNat_lt
          have hinv : 2 ≤ 3 ∧ a = At ws 1 2 ∧ ((((ws.getD 2 []).getD 0 0).toNat : Int) - 48) = At ws 2 2 ∧ c = At ws 3 2 := ⟨by decide, ea, (wdO_y l1 l2).symm, ec⟩
          (repeat (first | refine gq_DI ?_ | (refine ga0A ?_; intro _hq) | refine gdA ?_))
          exact ⟨(2, a, ((((ws.getD 2 []).getD 0 0).toNat : Int) - 48), c), hinv, ⟨by rfl, zHE, zHE⟩, (by first | omega | (dsimp only; omega))⟩
        · have d2 : (((ws.getD (((1 : Nat) : Int) + 1).toNat Cel.no).length : Int) == 1) = false := by rw [beq_eq_false_iff_ne]; intro h; exact l2 (by have : ((ws.getD 2 []).length : Int) = 1 := h; omega)
          have hinv : 2 ≤ 3 ∧ a = At ws 1 2 ∧ b = At ws 2 2 ∧ c = At ws 3 2 := ⟨by decide, ea, (show b = wdO ws 2 from eb.trans (wdO_n l2).symm), ec⟩
          (repeat (first | refine gq_DI ?_ | (refine ga0A ?_; intro _hq) | refine gdA ?_))
          exact ⟨(2, a, b, c), hinv, ⟨by rfl, zHE, zHE⟩, (by first | omega | (dsimp only; omega))⟩
      · have dl : decide (((1 : Nat) : Int) + 1 < (ws.length : Int)) = false := decide_eq_false (by omega)
        have hinv : 2 ≤ 3 ∧ a = At ws 1 2 ∧ b = At ws 2 2 ∧ c = At ws 3 2 := ⟨by decide, ea, (show b = wdO ws 2 from eb.trans (wdO_no l1).symm), ec⟩
        (repeat (first | refine gq_DI ?_ | (refine ga0A ?_; intro _hq) | refine gdA ?_))
        exact ⟨(2, a, b, c), hinv, ⟨by rfl, zHE, zHE⟩, (by first | omega | (dsimp only; omega))⟩
    · have hg : decide (((2 : Nat) : Int) < ((3 : Nat) : Int)) = true := by decide
      rcases Nat.lt_or_ge 3 ws.length with l1 | l1
      · have dl : decide (((2 : Nat) : Int) + 1 < (ws.length : Int)) = true := decide_eq_true (by omega)
        by_cases l2 : (ws.getD 3 []).length = 1
        · have d2 : (((ws.getD (((2 : Nat) : Int) + 1).toNat Cel.no).length : Int) == 1) = true := by rw [show (ws.getD (((2 : Nat) : Int) + 1).toNat Cel.no).length = 1 from l2]; rfl
          have l3 : 0 < (ws.getD (((2 : Nat) : Int) + 1).toNat Cel.no).length := by rw [show (ws.getD (((2 : Nat) : Int) + 1).toNat Cel.no).length = 1 from l2]; decide
          have hle := ((ws.getD (((2 : Nat) : Int) + 1).toNat Cel.no).getD (0 : Int).toNat 0).toNat_lt
          have hinv : 3 ≤ 3 ∧ a = At ws 1 3 ∧ b = At ws 2 3 ∧ ((((ws.getD 3 []).getD 0 0).toNat : Int) - 48) = At ws 3 3 := ⟨by decide, ea, eb, (wdO_y l1 l2).symm⟩
          (repeat (first | refine gq_DI ?_ | (refine ga0A ?_; intro _hq) | refine gdA ?_))
          exact ⟨(3, a, b, ((((ws.getD 3 []).getD 0 0).toNat : Int) - 48)), hinv, ⟨by rfl, zHE, zHE⟩, (by first | omega | (dsimp only; omega))⟩
        · have d2 : (((ws.getD (((2 : Nat) : Int) + 1).toNat Cel.no).length : Int) == 1) = false := by rw [beq_eq_false_iff_ne]; intro h; exact l2 (by have : ((ws.getD 3 []).length : Int) = 1 := h; omega)
          have hinv : 3 ≤ 3 ∧ a = At ws 1 3 ∧ b = At ws 2 3 ∧ c = At ws 3 3 := ⟨by decide, ea, eb, (show c = wdO ws 3 from ec.trans (wdO_n l2).symm)⟩
          (repeat (first | refine gq_DI ?_ | (refine ga0A ?_; intro _hq) | refine gdA ?_))
          exact ⟨(3, a, b, c), hinv, ⟨by rfl, zHE, zHE⟩, (by first | omega | (dsimp only; omega))⟩
      · have dl : decide (((2 : Nat) : Int) + 1 < (ws.length : Int)) = false := decide_eq_false (by omega)
        have hinv : 3 ≤ 3 ∧ a = At ws 1 3 ∧ b = At ws 2 3 ∧ c = At ws 3 3 := ⟨by decide, ea, eb, (show c = wdO ws 3 from ec.trans (wdO_no l1).symm)⟩
        (repeat (first | refine gq_DI ?_ | (refine ga0A ?_; intro _hq) | refine gdA ?_))
        exact ⟨(3, a, b, c), hinv, ⟨by rfl, zHE, zHE⟩, (by first | omega | (dsimp only; omega))⟩
    · have hg : decide (((3 : Nat) : Int) < ((3 : Nat) : Int)) = false := by decide
      replace ea : a = wdO ws 1 := ea
      replace eb : b = wdO ws 2 := eb
      replace ec : c = wdO ws 3 := ec
      subst ea eb ec
      (repeat (first | refine gq_DI ?_ | (refine ga0A ?_; intro _hq) | refine gdA ?_))
      (refine rtA ?_; try rfl)
theorem rg_ex (s : List UInt8) (hs : s.length ≤ 7000000) : ∃ g b, RG s g b ∧ Kon Tryz.prog 95 [vS s] [] (tupG g b) [] [] ∧ Kon Tryz.prog 115 [vS s] [] (tupG g b) [] [] := by
  obtain ⟨g, b, h⟩ := rg_all s
  refine ⟨g, b, h, ?_⟩
  rcases h with ⟨rfl, h⟩ | ⟨rfl, rfl, h⟩
  · have hne : s ≠ [] := fun e => gok_nil g (e ▸ h)
    obtain ⟨e1, e2, e3⟩ := gk_rd h
    obtain ⟨_, hk, _⟩ := gok_bd h.1
    have ht : (gtx g == s) = true := (gtx_eq hne).2 h
    have hkk : ((g.k.toNat : Nat) : Int) = g.k := by omega
    refine ⟨?_, ?_⟩
    · have := k_rgSfalse s hs (by rw [beq_eq_false_iff_ne]; exact hne) (by rw [e1, ht]; rfl)
      rw [e1] at this
      exact this
    · have := k_rgI1 s hs g.k.toNat (by omega) (by rw [hkk]; exact e3) (by rw [hkk, e2]; exact ht)
      rw [hkk, e2] at this
      exact this
  · by_cases hne : s = []
    · subst hne
      exact ⟨k_rgSe, k_rgI0 [] hs fun j a b c e => absurd (congrArg List.length e) (by have := (gnm_len (j : Int)).1; have h2 : ((cutA 32 [] []).getD 0 []).length = 0 := rfl; omega)⟩
    · exact ⟨k_rgStrue s hs (by rw [beq_eq_false_iff_ne]; exact hne) (by rw [no_gtx hne h]; rfl), k_rgI0 s hs fun j a b c _ => no_gtx hne h _⟩
end Go.Proofs.YtnenhckongccgaaGreatDoor
namespace Go.Proofs.YtnenhckongccgaaGreatDoor
set_option linter.unusedVariables false
set_option linter.unusedSimpArgs false
set_option maxRecDepth 20000
open Go.RowKit
structure Dd where
  k : Int
  n : Int
  p : Gt
instance : Cel Dd where
  f d := [.int .i64 d.k, .int .i64 d.n, .int .i64 d.p.k, .int .i64 d.p.a, .int .i64 d.p.b, .int .i64 d.p.c]
  un vs := match vs with
    | [.int .i64 x, .int .i64 y, .int .i64 k, .int .i64 a, .int .i64 b, .int .i64 c] => some ⟨x, y, ⟨k, a, b, c⟩⟩
    | _ => none
  sz := 6
  no := ⟨0, 0, ⟨0, 0, 0, 0⟩⟩
  pos := by omega
  len _ := rfl
  one _ := rfl
  unf vs a h := by
    split at h
    · cases h; rfl
    · cases h
abbrev dCs (d : Dd) : List AC := [.v (.int .i64 d.k), .v (.int .i64 d.n), .v (.int .i64 d.p.k), .v (.int .i64 d.p.a), .v (.int .i64 d.p.b), .v (.int .i64 d.p.c)]
abbrev dV (d : Dd) : AV := .g (.agg (dCs d))
abbrev dRow (l : List Dd) : Ent := rwE 58 l
theorem equal_gate9 (k a b c k' a' b' c' : Int) (w : World) : (Op.equalIn 9999 56 (.agg #[.int .i64 k, .int .i64 a, .int .i64 b, .int .i64 c]) (.agg #[.int .i64 k', .int .i64 a', .int .i64 b', .int .i64 c'])).run Tryz.prog w = .ok (k == k' && (a == a' && (b == b' && c == c'))) w := by
  rw [run_equalIn_agg (ht := by kernel_rfl) (hp := by kernel_rfl)]
  have hc : chk4 3 (Tryz.prog.fieldsOf 56).toList = true := by kernel_rfl
  have hi : Tryz.prog.underlying 3 = some (.int .i64) := by kernel_rfl
  have hz : ∀ (xs : Array Value) (k : Nat) (v : Value) (w : World), xs[k]? = some v → (part 3 xs k).run Tryz.prog w = .ok v w := fun xs k v w h => run_part_plain w (by kernel_rfl) h
  have z0 := fun w => hz #[.int .i64 k, .int .i64 a, .int .i64 b, .int .i64 c] 0 _ w rfl
  have y0 := fun w => hz #[.int .i64 k', .int .i64 a', .int .i64 b', .int .i64 c'] 0 _ w rfl
  have z1 := fun w => hz #[.int .i64 k, .int .i64 a, .int .i64 b, .int .i64 c] 1 _ w rfl
  have y1 := fun w => hz #[.int .i64 k', .int .i64 a', .int .i64 b', .int .i64 c'] 1 _ w rfl
  have z2 := fun w => hz #[.int .i64 k, .int .i64 a, .int .i64 b, .int .i64 c] 2 _ w rfl
  have y2 := fun w => hz #[.int .i64 k', .int .i64 a', .int .i64 b', .int .i64 c'] 2 _ w rfl
  have z3 := fun w => hz #[.int .i64 k, .int .i64 a, .int .i64 b, .int .i64 c] 3 _ w rfl
  have y3 := fun w => hz #[.int .i64 k', .int .i64 a', .int .i64 b', .int .i64 c'] 3 _ w rfl
  have e : ∀ (x y : Int) w, (Op.equalIn 9998 3 (.int .i64 x) (.int .i64 y)).run Tryz.prog w = .ok (x == y) w := fun x y w => run_equalIn_int (P := Tryz.prog) w 9997 3 .i64 .i64 x y hi
  clear hz
  generalize (Tryz.prog.fieldsOf 56).toList = fs at hc ⊢
  unfold chk4 at hc
  split at hc
  · rename_i f f' f'' f3
    simp only [Bool.and_eq_true, bne_iff_ne, beq_iff_eq] at hc
    obtain ⟨⟨⟨⟨⟨h1, h2⟩, h3⟩, ⟨⟨h4, h5⟩, h6⟩⟩, ⟨⟨h7, h8⟩, h9⟩⟩, ⟨⟨g1, g2⟩, g3⟩⟩ := hc
    simp only [Op.eqFields, h1, h2, h3, h4, h5, h6, h7, h8, h9, g1, g2, g3, if_true, ne_eq, not_false_eq_true, Sem.run_bind, z0, y0, Result.andThen_ok]
    erw [e k k' w]
    cases (k == k')
    · rfl
    simp only [Result.andThen_ok, Bool.not_true, Bool.false_eq_true, if_false, Sem.run_bind, z1, y1]
    erw [e a a' w]
    cases (a == a')
    · rfl
    simp only [Result.andThen_ok, Bool.not_true, Bool.false_eq_true, if_false, Sem.run_bind, z2, y2]
    erw [e b b' w]
    cases (b == b')
    · rfl
    simp only [Result.andThen_ok, Bool.not_true, Bool.false_eq_true, if_false, Sem.run_bind, z3, y3]
    erw [e c c' w]
    cases (c == c') <;> rfl
  · cases hc
def chk3 (ti tg : TypeId) : List Field → Bool
  | [f, f', f''] => (f.name != "_") && (f.type == ti) && (f.offset == 0) && ((f'.name != "_") && (f'.type == ti) && (f'.offset == 1)) && ((f''.name != "_") && (f''.type == tg) && (f''.offset == 2))
  | _ => false
abbrev dA (k n g a b c : Int) : Value := .agg #[.int .i64 k, .int .i64 n, .int .i64 g, .int .i64 a, .int .i64 b, .int .i64 c]
theorem equal_deed (k n g a b c k' n' g' a' b' c' : Int) (w : World) : (Op.equalIn 10000 58 (dA k n g a b c) (dA k' n' g' a' b' c')).run Tryz.prog w = .ok (k == k' && (n == n' && (g == g' && (a == a' && (b == b' && c == c'))))) w := by
  rw [run_equalIn_agg (ht := by kernel_rfl) (hp := by kernel_rfl)]
  have hc : chk3 3 56 (Tryz.prog.fieldsOf 58).toList = true := by kernel_rfl
  have hi : Tryz.prog.underlying 3 = some (.int .i64) := by kernel_rfl
  have hz : ∀ (xs : Array Value) (k : Nat) (v : Value) (w : World), xs[k]? = some v → (part 3 xs k).run Tryz.prog w = .ok v w := fun xs k v w h => run_part_plain w (by kernel_rfl) h
  have z0 := fun w => hz #[.int .i64 k, .int .i64 n, .int .i64 g, .int .i64 a, .int .i64 b, .int .i64 c] 0 _ w rfl
  have y0 := fun w => hz #[.int .i64 k', .int .i64 n', .int .i64 g', .int .i64 a', .int .i64 b', .int .i64 c'] 0 _ w rfl
  have z1 := fun w => hz #[.int .i64 k, .int .i64 n, .int .i64 g, .int .i64 a, .int .i64 b, .int .i64 c] 1 _ w rfl
  have y1 := fun w => hz #[.int .i64 k', .int .i64 n', .int .i64 g', .int .i64 a', .int .i64 b', .int .i64 c'] 1 _ w rfl
  have z2 : ∀ w, (part 56 #[.int .i64 k, .int .i64 n, .int .i64 g, .int .i64 a, .int .i64 b, .int .i64 c] 2).run Tryz.prog w = .ok (.agg #[.int .i64 g, .int .i64 a, .int .i64 b, .int .i64 c]) w := fun w => by kernel_rfl
  have y2 : ∀ w, (part 56 #[.int .i64 k', .int .i64 n', .int .i64 g', .int .i64 a', .int .i64 b', .int .i64 c'] 2).run Tryz.prog w = .ok (.agg #[.int .i64 g', .int .i64 a', .int .i64 b', .int .i64 c']) w := fun w => by kernel_rfl
  have e : ∀ (x y : Int) w, (Op.equalIn 9999 3 (.int .i64 x) (.int .i64 y)).run Tryz.prog w = .ok (x == y) w := fun x y w => run_equalIn_int (P := Tryz.prog) w 9998 3 .i64 .i64 x y hi
  clear hz
  generalize (Tryz.prog.fieldsOf 58).toList = fs at hc ⊢
  unfold chk3 at hc
  split at hc
  · rename_i f f' f''
    simp only [Bool.and_eq_true, bne_iff_ne, beq_iff_eq] at hc
    obtain ⟨⟨⟨⟨h1, h2⟩, h3⟩, ⟨⟨h4, h5⟩, h6⟩⟩, ⟨⟨h7, h8⟩, h9⟩⟩ := hc
    simp only [Op.eqFields, h1, h2, h3, h4, h5, h6, h7, h8, h9, if_true, ne_eq, not_false_eq_true, Sem.run_bind, z0, y0, Result.andThen_ok]
    erw [e k k' w]
    cases (k == k')
    · rfl
    simp only [Result.andThen_ok, Bool.not_true, Bool.false_eq_true, if_false, Sem.run_bind, z1, y1]
    erw [e n n' w]
    cases (n == n')
    · rfl
    simp only [Result.andThen_ok, Bool.not_true, Bool.false_eq_true, if_false, Sem.run_bind, z2, y2]
    erw [equal_gate9 g a b c g' a' b' c' w]
    cases (g == g' && (a == a' && (b == b' && c == c'))) <;> rfl
  · cases hc
theorem eq_deed (x y : Operand) (k n g a b c k' n' g' a' b' c' : Int) (w : World) : (do eqGuard .eql 58 x y (dA k n g a b c) (dA k' n' g' a' b' c'); binOp .eql 58 (dA k n g a b c) (dA k' n' g' a' b' c') : Sem Value).run Tryz.prog w = .ok (.bool (k == k' && (n == n' && (g == g' && (a == a' && (b == b' && c == c')))))) w := by
  rw [Sem.run_bind, run_eqGuard_agg (hm := by kernel_rfl)]
  simp only [Result.andThen_ok]
  rw [run_eql_struct, equal_deed]; rfl
theorem neq_deed (x y : Operand) (k n g a b c k' n' g' a' b' c' : Int) (w : World) : (do eqGuard .neq 58 x y (dA k n g a b c) (dA k' n' g' a' b' c'); binOp .neq 58 (dA k n g a b c) (dA k' n' g' a' b' c') : Sem Value).run Tryz.prog w = .ok (.bool (!(k == k' && (n == n' && (g == g' && (a == a' && (b == b' && c == c'))))))) w := by
  rw [Sem.run_bind, run_eqGuard_agg (hm := by kernel_rfl)]
  simp only [Result.andThen_ok]
  rw [run_neq_struct, equal_deed]; rfl
end Go.Proofs.YtnenhckongccgaaGreatDoor
namespace Go.Proofs.YtnenhckongccgaaGreatDoor
set_option linter.unusedVariables false
set_option linter.unusedSimpArgs false
set_option maxRecDepth 20000
open Go.RowKit
attribute [local irreducible] runA runX AW
theorem gq_DM {H G : Prop} (k : H) (h : Hid H → G := by (intro hh; repeat1' (first | (first | (refine nxA ?_; (first | fail | ((first | (refine z_op (by rfl) ?_; first | refine z_ok ?_ ?_ | refine z_ex ?_ (by first | exact zL1 | ((first | fail); exact zWW) | exact zL2 | fail | exact zL3 | (first | exact pu_of (fun w => eq_gate _ _ _ _ _ _ _ _ _ _ w) rfl)) ?_) | ((first | refine q_callE wsT wsZ (by rfl) ?_ | refine q_callVE wsT (by rfl) (by rfl) ?_); refine ⟨_, _, _, (by first | assumption), _, by rfl, ?_, ?_⟩)); focus (first | exact trivial | fail | exact zQZ)) | fail)) | refine swA ?_) | refine awA ?_); exact hh.out)) : G := h ⟨k⟩
def nmD (d : Dd) : Bool :=
  if d.k = 0 ∨ d.k = 1 then (d.p.k == 0 && (d.p.a == 0 && (d.p.b == 0 && d.p.c == 0)))
  else if d.k = 2 then d.n == 0
  else if d.k = 3 ∨ d.k = 4 then d.n == 0 && (d.p.k == 0 && (d.p.a == 0 && (d.p.b == 0 && d.p.c == 0)))
  else false
theorem k_named0 (d : Dd) (h : d.k = 0) : Kon Tryz.prog 96 [dV d] [] (vB (nmD d)) [] [] := by
  obtain ⟨k, n, p⟩ := d
  obtain rfl : k = 0 := h
  (refine kM Tryz.func96 rfl ?_; intro hfit hfe)
  (repeat (first | refine gq_DM ?_ | (refine ga1A ?_; intro _q ⟨_he, _hq⟩)))
  (refine rtA ?_; try rfl)
theorem k_named1 (d : Dd) (h : d.k = 1) : Kon Tryz.prog 96 [dV d] [] (vB (nmD d)) [] [] := by
  obtain ⟨k, n, p⟩ := d
  obtain rfl : k = 1 := h
  (refine kM Tryz.func96 rfl ?_; intro hfit hfe)
  (repeat (first | refine gq_DM ?_ | (refine ga1A ?_; intro _q ⟨_he, _hq⟩)))
  (refine rtA ?_; try rfl)
theorem k_named2 (d : Dd) (h : d.k = 2) : Kon Tryz.prog 96 [dV d] [] (vB (nmD d)) [] [] := by
  obtain ⟨k, n, p⟩ := d
  obtain rfl : k = 2 := h
  (refine kM Tryz.func96 rfl ?_; intro hfit hfe)
  (repeat (first | refine gq_DM ?_ | (refine ga1A ?_; intro _q ⟨_he, _hq⟩)))
  (refine rtA ?_; try rfl)
theorem k_named3 (d : Dd) (h : d.k = 3) : Kon Tryz.prog 96 [dV d] [] (vB (nmD d)) [] [] := by
  obtain ⟨k, n, p⟩ := d
  obtain rfl : k = 3 := h
  cases hx : (n == 0) with
  | true =>
    have e : nmD ⟨3, n, p⟩ = (p.k == 0 && (p.a == 0 && (p.b == 0 && p.c == 0))) := by simp [nmD, hx]
    rw [e]
    (refine kM Tryz.func96 rfl ?_; intro hfit hfe)
    (repeat (first | refine gq_DM ?_ | (refine ga1A ?_; intro _q ⟨_he, _hq⟩)))
    (refine rtA ?_; try rfl)
  | false =>
    have e : nmD ⟨3, n, p⟩ = false := by simp [nmD, hx]
    rw [e]
    (refine kM Tryz.func96 rfl ?_; intro hfit hfe)
    (repeat (first | refine gq_DM ?_ | (refine ga1A ?_; intro _q ⟨_he, _hq⟩)))
    (refine rtA ?_; try rfl)
theorem k_named4 (d : Dd) (h : d.k = 4) : Kon Tryz.prog 96 [dV d] [] (vB (nmD d)) [] [] := by
  obtain ⟨k, n, p⟩ := d
  obtain rfl : k = 4 := h
  cases hx : (n == 0) with
  | true =>
    have e : nmD ⟨4, n, p⟩ = (p.k == 0 && (p.a == 0 && (p.b == 0 && p.c == 0))) := by simp [nmD, hx]
    rw [e]
    (refine kM Tryz.func96 rfl ?_; intro hfit hfe)
    (repeat (first | refine gq_DM ?_ | (refine ga1A ?_; intro _q ⟨_he, _hq⟩)))
    (refine rtA ?_; try rfl)
  | false =>
    have e : nmD ⟨4, n, p⟩ = false := by simp [nmD, hx]
    rw [e]
    (refine kM Tryz.func96 rfl ?_; intro hfit hfe)
    (repeat (first | refine gq_DM ?_ | (refine ga1A ?_; intro _q ⟨_he, _hq⟩)))
    (refine rtA ?_; try rfl)
theorem k_namedX (d : Dd) (h : d.k < 0 ∨ 4 < d.k) : Kon Tryz.prog 96 [dV d] [] (vB false) [] [] := by
  obtain ⟨k, n, p⟩ := d
  dsimp only at h
  have h0 : (k == 0) = false := by rw [beq_eq_false_iff_ne]; omega
  have h1 : (k == 1) = false := by rw [beq_eq_false_iff_ne]; omega
  have h2 : (k == 2) = false := by rw [beq_eq_false_iff_ne]; omega
  have h3 : (k == 3) = false := by rw [beq_eq_false_iff_ne]; omega
  have h4 : (k == 4) = false := by rw [beq_eq_false_iff_ne]; omega
  (refine kM Tryz.func96 rfl ?_; intro hfit hfe)
  (repeat (first | refine gq_DM ?_ | (refine ga1A ?_; intro _q ⟨_he, _hq⟩)))
  (refine rtA ?_; try rfl)
end Go.Proofs.YtnenhckongccgaaGreatDoor
namespace Go.Proofs.YtnenhckongccgaaGreatDoor
set_option linter.unusedVariables false
set_option linter.unusedSimpArgs false
set_option maxRecDepth 20000
open Go.RowKit
open Go.Lib (decDigits)
attribute [local irreducible] runA runX AW
theorem gq_DX {H G : Prop} (k : H) (h : Hid H → G := by (intro hh; repeat1' (first | (first | (refine nxA ?_; (first | (first | refine r_slen (by rfl) Tryz.underlying9 (by rfl) ?_ | refine r_seq (by rfl) (by rfl) (by rfl) ?_ | refine r_sne (by rfl) (by rfl) (by rfl) ?_ | refine r_sadd (by rfl) (by rfl) (by first | omega | (simp only [List.length_append, List.length_cons, List.length_nil]; omega)) (by rfl) ?_) | ((first | (refine z_op (by rfl) ?_; first | refine z_ok ?_ ?_ | refine z_ex ?_ (by first | exact zL1 | ((first | fail); exact zWW) | exact zL2 | (first | exact rw_c (List UInt8) rfl) | exact zL3 | (first | exact pu_of (fun w => eq_gate _ _ _ _ _ _ _ _ _ _ w) rfl | exact pu_of (fun w => eq_deed _ _ _ _ _ _ _ _ _ _ _ _ _ _ w) rfl)) ?_) | ((first | refine q_callE wsT wsZ (by rfl) ?_ | refine q_callVE wsT (by rfl) (by rfl) ?_); refine ⟨_, _, _, (by first | assumption | exact k_itoa _ (by omega) | exact k_num _ (by omega) | exact k_within _ _ _ | exact k_l1In _ _ _), _, by rfl, ?_, ?_⟩)); focus (first | exact trivial | fail | exact zQZ)) | fail)) | refine swA ?_) | refine awA ?_); exact hh.out)) : G := h ⟨k⟩
def gz (p : Gt) : Bool := p.k == 0 && (p.a == 0 && (p.b == 0 && p.c == 0))
theorem gz_iff (p : Gt) : gz p = true ↔ p = g0 := by
  obtain ⟨k, a, b, c⟩ := p
  unfold gz g0
  simp only [Bool.and_eq_true, beq_iff_eq, Gt.mk.injEq]
theorem dtx01 (k n : Int) (p : Gt) (hk : k = 0 ∨ k = 1) : dtx k n p = if (gz p && btw n 1 99) = true then dnm k ++ [32] ++ dx n else [] := by
  unfold dtx
  rw [if_pos hk]
  have e : (gz p && btw n 1 99) = true ↔ (p = g0 ∧ 1 ≤ n ∧ n ≤ 99) := by
    rw [Bool.and_eq_true, gz_iff]; unfold btw
    rw [Bool.and_eq_true, decide_eq_true_eq, decide_eq_true_eq]
  by_cases h : (gz p && btw n 1 99) = true
  · rw [if_pos h, if_pos (e.1 h)]
  · rw [if_neg h, if_neg (fun h2 => h (e.2 h2))]
theorem dtx2 (n : Int) (p : Gt) : dtx 2 n p = if (n == 0 && gok 8 p) = true then dnm 2 ++ [32] ++ gtT p else [] := by
  unfold dtx
  rw [if_neg (by omega), if_pos rfl]
  have e : (n == 0 && gok 8 p) = true ↔ (n = 0 ∧ gok 8 p = true) := by rw [Bool.and_eq_true, beq_iff_eq]
  by_cases h : (n == 0 && gok 8 p) = true
  · rw [if_pos h, if_pos (e.1 h)]
  · rw [if_neg h, if_neg (fun h2 => h (e.2 h2))]
theorem dtx34 (k n : Int) (p : Gt) (hk : k = 3 ∨ k = 4) : dtx k n p = if (n == 0 && gz p) = true then dnm k else [] := by
  unfold dtx
  rw [if_neg (by omega), if_neg (by omega), if_pos hk]
  have e : (n == 0 && gz p) = true ↔ (n = 0 ∧ p = g0) := by rw [Bool.and_eq_true, beq_iff_eq, gz_iff]
  by_cases h : (n == 0 && gz p) = true
  · rw [if_pos h, if_pos (e.1 h)]
  · rw [if_neg h, if_neg (fun h2 => h (e.2 h2))]
theorem dtxX (k n : Int) (p : Gt) (h : k < 0 ∨ 4 < k) : dtx k n p = [] := by
  unfold dtx
  rw [if_neg (by omega), if_neg (by omega), if_neg (by omega)]
theorem dx_len2 {n : Int} (h : btw n 1 99 = true) : (1 ≤ n ∧ n ≤ 99) ∧ (decDigits n.toNat).length ≤ 2 := by
  have h2 := btw_t h
  have : 1 ≤ (dx n).length ∧ (dx n).length ≤ 2 := (dd2_of (n := n.toNat) (by omega)).2.2.2
  exact ⟨h2, this.2⟩
theorem k_dtI0 (n : Int) (p : Gt) : Kon Tryz.prog 35 [dV ⟨0, n, p⟩] [] (vS (dtx 0 n p)) [] [] := by
  rw [dtx01 0 n p (by omega)]
  have hW := k_within n 1 99
  cases hz : gz p with
  | false =>
    rw [Bool.false_and, if_neg (by decide)]
    unfold gz at hz
    obtain ⟨pk, a, b, c⟩ := p
    dsimp only at hz
    (refine kM Tryz.func35 rfl ?_; intro hfit hfe)
    (repeat (first | refine gq_DX ?_ | (refine ga0A ?_; intro _hq)))
    (refine rtA ?_; try rfl)
  | true =>
    rw [Bool.true_and]
    unfold gz at hz
    obtain ⟨pk, a, b, c⟩ := p
    dsimp only at hz
    cases hb : btw n 1 99 with
    | false =>
      rw [hb] at hW
      rw [if_neg (by decide)]
      (refine kM Tryz.func35 rfl ?_; intro hfit hfe)
      (repeat (first | refine gq_DX ?_ | (refine ga0A ?_; intro _hq)))
      (refine rtA ?_; try rfl)
    | true =>
      rw [hb] at hW
      rw [if_pos rfl]
      obtain ⟨h2, hl⟩ := dx_len2 hb
      have hI := k_itoa n (by omega)
      (refine kM Tryz.func35 rfl ?_; intro hfit hfe)
      (repeat (first | refine gq_DX ?_ | (refine ga0A ?_; intro _hq)))
      (refine rtA ?_; try rfl)
theorem k_dtS0 (n : Int) (p : Gt) : Kon Tryz.prog 88 [dV ⟨0, n, p⟩] [] (vS (dtx 0 n p)) [] [] := by
  rw [dtx01 0 n p (by omega)]
  have hW := k_l1In n 1 99
  have hN := k_named0 ⟨0, n, p⟩ rfl
  rw [show nmD ⟨0, n, p⟩ = gz p from rfl] at hN
  cases hz : gz p with
  | false =>
    rw [hz] at hN
    rw [Bool.false_and, if_neg (by decide)]
    (refine kM Tryz.func88 rfl ?_; intro hfit hfe)
    (repeat (first | refine gq_DX ?_ | (refine ga0A ?_; intro _hq) | refine gdA ?_))
    (refine rtA ?_; try rfl)
  | true =>
    rw [hz] at hN
    rw [Bool.true_and]
    cases hb : btw n 1 99 with
    | false =>
      rw [hb] at hW
      rw [if_neg (by decide)]
      (refine kM Tryz.func88 rfl ?_; intro hfit hfe)
      (repeat (first | refine gq_DX ?_ | (refine ga0A ?_; intro _hq) | refine gdA ?_))
      (refine rtA ?_; try rfl)
    | true =>
      rw [hb] at hW
      rw [if_pos rfl]
      obtain ⟨h2, hl⟩ := dx_len2 hb
      have hI := k_num n (by omega)
      (refine kM Tryz.func88 rfl ?_; intro hfit hfe)
      (repeat (first | refine gq_DX ?_ | (refine ga0A ?_; intro _hq) | refine gdA ?_))
      (refine rtA ?_; try rfl)
theorem k_dtI1 (n : Int) (p : Gt) : Kon Tryz.prog 35 [dV ⟨1, n, p⟩] [] (vS (dtx 1 n p)) [] [] := by
  rw [dtx01 1 n p (by omega)]
  have hW := k_within n 1 99
  cases hz : gz p with
  | false =>
    rw [Bool.false_and, if_neg (by decide)]
    unfold gz at hz
    obtain ⟨pk, a, b, c⟩ := p
    dsimp only at hz
    (refine kM Tryz.func35 rfl ?_; intro hfit hfe)
    (repeat (first | refine gq_DX ?_ | (refine ga0A ?_; intro _hq)))
    (refine rtA ?_; try rfl)
  | true =>
    rw [Bool.true_and]
    unfold gz at hz
    obtain ⟨pk, a, b, c⟩ := p
    dsimp only at hz
    cases hb : btw n 1 99 with
    | false =>
      rw [hb] at hW
      rw [if_neg (by decide)]
      (refine kM Tryz.func35 rfl ?_; intro hfit hfe)
      (repeat (first | refine gq_DX ?_ | (refine ga0A ?_; intro _hq)))
      (refine rtA ?_; try rfl)
    | true =>
      rw [hb] at hW
      rw [if_pos rfl]
      obtain ⟨h2, hl⟩ := dx_len2 hb
      have hI := k_itoa n (by omega)
      (refine kM Tryz.func35 rfl ?_; intro hfit hfe)
      (repeat (first | refine gq_DX ?_ | (refine ga0A ?_; intro _hq)))
      (refine rtA ?_; try rfl)
theorem k_dtS1 (n : Int) (p : Gt) : Kon Tryz.prog 88 [dV ⟨1, n, p⟩] [] (vS (dtx 1 n p)) [] [] := by
  rw [dtx01 1 n p (by omega)]
  have hW := k_l1In n 1 99
  have hN := k_named1 ⟨1, n, p⟩ rfl
  rw [show nmD ⟨1, n, p⟩ = gz p from rfl] at hN
  cases hz : gz p with
  | false =>
    rw [hz] at hN
    rw [Bool.false_and, if_neg (by decide)]
    (refine kM Tryz.func88 rfl ?_; intro hfit hfe)
    (repeat (first | refine gq_DX ?_ | (refine ga0A ?_; intro _hq) | refine gdA ?_))
    (refine rtA ?_; try rfl)
  | true =>
    rw [hz] at hN
    rw [Bool.true_and]
    cases hb : btw n 1 99 with
    | false =>
      rw [hb] at hW
      rw [if_neg (by decide)]
      (refine kM Tryz.func88 rfl ?_; intro hfit hfe)
      (repeat (first | refine gq_DX ?_ | (refine ga0A ?_; intro _hq) | refine gdA ?_))
      (refine rtA ?_; try rfl)
    | true =>
      rw [hb] at hW
      rw [if_pos rfl]
      obtain ⟨h2, hl⟩ := dx_len2 hb
      have hI := k_num n (by omega)
      (refine kM Tryz.func88 rfl ?_; intro hfit hfe)
      (repeat (first | refine gq_DX ?_ | (refine ga0A ?_; intro _hq) | refine gdA ?_))
      (refine rtA ?_; try rfl)
theorem k_dtI2 (n : Int) (p : Gt) : Kon Tryz.prog 35 [dV ⟨2, n, p⟩] [] (vS (dtx 2 n p)) [] [] := by
  rw [dtx2 n p]
  have hG := k_gtI p
  cases hz : (n == 0) with
  | false =>
    rw [Bool.false_and, if_neg (by decide)]
    cases hg : (!(gtx p == [])) with
    | false =>
      (refine kM Tryz.func35 rfl ?_; intro hfit hfe)
      (repeat (first | refine gq_DX ?_ | (refine ga0A ?_; intro _hq)))
      (refine rtA ?_; try rfl)
    | true =>
      (refine kM Tryz.func35 rfl ?_; intro hfit hfe)
      (repeat (first | refine gq_DX ?_ | (refine ga0A ?_; intro _hq)))
      (refine rtA ?_; try rfl)
  | true =>
    rw [Bool.true_and]
    unfold gtx at hG
    cases hg : gok 8 p with
    | false =>
      rw [hg, if_neg (by decide)] at hG
      rw [if_neg (by decide)]
      have hn : (!(([] : List UInt8) == [])) = false := rfl
      (refine kM Tryz.func35 rfl ?_; intro hfit hfe)
      (repeat (first | refine gq_DX ?_ | (refine ga0A ?_; intro _hq)))
      (refine rtA ?_; try rfl)
    | true =>
      rw [hg, if_pos rfl] at hG
      rw [if_pos rfl]
      have hn : (!(gtT p == [])) = true := by rw [Bool.not_eq_true', beq_eq_false_iff_ne]; exact gtT_ne p
      have hl := gtT_len hg
      (refine kM Tryz.func35 rfl ?_; intro hfit hfe)
      (repeat (first | refine gq_DX ?_ | (refine ga0A ?_; intro _hq)))
      (refine rtA ?_; try rfl)
theorem k_dtS2 (n : Int) (p : Gt) : Kon Tryz.prog 88 [dV ⟨2, n, p⟩] [] (vS (dtx 2 n p)) [] [] := by
  rw [dtx2 n p]
  have hG := k_gtS p
  have hN := k_named2 ⟨2, n, p⟩ rfl
  rw [show nmD ⟨2, n, p⟩ = (n == 0) from rfl] at hN
  cases hz : (n == 0) with
  | false =>
    rw [hz] at hN
    rw [Bool.false_and, if_neg (by decide)]
    (refine kM Tryz.func88 rfl ?_; intro hfit hfe)
    (repeat (first | refine gq_DX ?_ | (refine ga0A ?_; intro _hq)))
    (refine rtA ?_; try rfl)
  | true =>
    rw [hz] at hN
    rw [Bool.true_and]
    unfold gtx at hG
    cases hg : gok 8 p with
    | false =>
      rw [hg, if_neg (by decide)] at hG
      rw [if_neg (by decide)]
      have hn : (!(([] : List UInt8) == [])) = false := rfl
      (refine kM Tryz.func88 rfl ?_; intro hfit hfe)
      (repeat (first | refine gq_DX ?_ | (refine ga0A ?_; intro _hq)))
      (refine rtA ?_; try rfl)
    | true =>
      rw [hg, if_pos rfl] at hG
      rw [if_pos rfl]
      have hn : (!(gtT p == [])) = true := by rw [Bool.not_eq_true', beq_eq_false_iff_ne]; exact gtT_ne p
      have hl := gtT_len hg
      (refine kM Tryz.func88 rfl ?_; intro hfit hfe)
      (repeat (first | refine gq_DX ?_ | (refine ga0A ?_; intro _hq)))
      (refine rtA ?_; try rfl)
theorem k_dtI3 (n : Int) (p : Gt) : Kon Tryz.prog 35 [dV ⟨3, n, p⟩] [] (vS (dtx 3 n p)) [] [] := by
  rw [dtx34 3 n p (by omega)]
  cases hz : (n == 0 && gz p) with
  | false =>
    rw [if_neg (by decide)]
    unfold gz at hz
    obtain ⟨pk, a, b, c⟩ := p
    dsimp only at hz
    have hz2 : ((3 : Int) == 3 && (n == 0 && (pk == 0 && (a == 0 && (b == 0 && c == 0))))) = false := by rw [show ((3 : Int) == 3) = true from rfl, Bool.true_and]; exact hz
    (refine kM Tryz.func35 rfl ?_; intro hfit hfe)
    (repeat (first | refine gq_DX ?_ | (refine ga0A ?_; intro _hq)))
    (refine rtA ?_; try rfl)
  | true =>
    rw [if_pos rfl]
    unfold gz at hz
    obtain ⟨pk, a, b, c⟩ := p
    dsimp only at hz
    have hz2 : ((3 : Int) == 3 && (n == 0 && (pk == 0 && (a == 0 && (b == 0 && c == 0))))) = true := by rw [show ((3 : Int) == 3) = true from rfl, Bool.true_and]; exact hz
    (refine kM Tryz.func35 rfl ?_; intro hfit hfe)
    (repeat (first | refine gq_DX ?_ | (refine ga0A ?_; intro _hq)))
    (refine rtA ?_; try rfl)
theorem k_dtS3 (n : Int) (p : Gt) : Kon Tryz.prog 88 [dV ⟨3, n, p⟩] [] (vS (dtx 3 n p)) [] [] := by
  rw [dtx34 3 n p (by omega)]
  have hN := k_named3 ⟨3, n, p⟩ rfl
  rw [show nmD ⟨3, n, p⟩ = (n == 0 && gz p) from rfl] at hN
  cases hz : (n == 0 && gz p) with
  | false =>
    rw [hz] at hN
    rw [if_neg (by decide)]
    (refine kM Tryz.func88 rfl ?_; intro hfit hfe)
    (repeat (first | refine gq_DX ?_ | (refine ga0A ?_; intro _hq)))
    (refine rtA ?_; try rfl)
  | true =>
    rw [hz] at hN
    rw [if_pos rfl]
    (refine kM Tryz.func88 rfl ?_; intro hfit hfe)
    (repeat (first | refine gq_DX ?_ | (refine ga0A ?_; intro _hq)))
    (refine rtA ?_; try rfl)
theorem k_dtI4 (n : Int) (p : Gt) : Kon Tryz.prog 35 [dV ⟨4, n, p⟩] [] (vS (dtx 4 n p)) [] [] := by
  rw [dtx34 4 n p (by omega)]
  cases hz : (n == 0 && gz p) with
  | false =>
    rw [if_neg (by decide)]
    unfold gz at hz
    obtain ⟨pk, a, b, c⟩ := p
    dsimp only at hz
    have hz2 : ((4 : Int) == 4 && (n == 0 && (pk == 0 && (a == 0 && (b == 0 && c == 0))))) = false := by rw [show ((4 : Int) == 4) = true from rfl, Bool.true_and]; exact hz
    (refine kM Tryz.func35 rfl ?_; intro hfit hfe)
    (repeat (first | refine gq_DX ?_ | (refine ga0A ?_; intro _hq)))
    (refine rtA ?_; try rfl)
  | true =>
    rw [if_pos rfl]
    unfold gz at hz
    obtain ⟨pk, a, b, c⟩ := p
    dsimp only at hz
    have hz2 : ((4 : Int) == 4 && (n == 0 && (pk == 0 && (a == 0 && (b == 0 && c == 0))))) = true := by rw [show ((4 : Int) == 4) = true from rfl, Bool.true_and]; exact hz
    (refine kM Tryz.func35 rfl ?_; intro hfit hfe)
    (repeat (first | refine gq_DX ?_ | (refine ga0A ?_; intro _hq)))
    (refine rtA ?_; try rfl)
theorem k_dtS4 (n : Int) (p : Gt) : Kon Tryz.prog 88 [dV ⟨4, n, p⟩] [] (vS (dtx 4 n p)) [] [] := by
  rw [dtx34 4 n p (by omega)]
  have hN := k_named4 ⟨4, n, p⟩ rfl
  rw [show nmD ⟨4, n, p⟩ = (n == 0 && gz p) from rfl] at hN
  cases hz : (n == 0 && gz p) with
  | false =>
    rw [hz] at hN
    rw [if_neg (by decide)]
    (refine kM Tryz.func88 rfl ?_; intro hfit hfe)
    (repeat (first | refine gq_DX ?_ | (refine ga0A ?_; intro _hq)))
    (refine rtA ?_; try rfl)
  | true =>
    rw [hz] at hN
    rw [if_pos rfl]
    (refine kM Tryz.func88 rfl ?_; intro hfit hfe)
    (repeat (first | refine gq_DX ?_ | (refine ga0A ?_; intro _hq)))
    (refine rtA ?_; try rfl)
theorem k_dtX (k n : Int) (p : Gt) (h : k < 0 ∨ 4 < k) : Kon Tryz.prog 35 [dV ⟨k, n, p⟩] [] (vS []) [] [] ∧ Kon Tryz.prog 88 [dV ⟨k, n, p⟩] [] (vS []) [] [] := by
  have h0 : (k == 0) = false := by rw [beq_eq_false_iff_ne]; omega
  have h1 : (k == 1) = false := by rw [beq_eq_false_iff_ne]; omega
  have h2 : (k == 2) = false := by rw [beq_eq_false_iff_ne]; omega
  have h3 : (k == 3) = false := by rw [beq_eq_false_iff_ne]; omega
  have h4 : (k == 4) = false := by rw [beq_eq_false_iff_ne]; omega
  have hN := k_namedX ⟨k, n, p⟩ h
  obtain ⟨pk, a, b, c⟩ := p
  refine ⟨?_, ?_⟩
  · (refine kM Tryz.func35 rfl ?_; intro hfit hfe)
    (repeat (first | refine gq_DX ?_ | (refine ga0A ?_; intro _hq)))
    (refine rtA ?_; try rfl)
  · (refine kM Tryz.func88 rfl ?_; intro hfit hfe)
    (repeat (first | refine gq_DX ?_ | (refine ga0A ?_; intro _hq)))
    (refine rtA ?_; try rfl)
theorem k_dt (k n : Int) (p : Gt) : Kon Tryz.prog 35 [dV ⟨k, n, p⟩] [] (vS (dtx k n p)) [] [] ∧ Kon Tryz.prog 88 [dV ⟨k, n, p⟩] [] (vS (dtx k n p)) [] [] := by
  by_cases h : k < 0 ∨ 4 < k
  · rw [dtxX k n p h]; exact k_dtX k n p h
  have h' : k = 0 ∨ k = 1 ∨ k = 2 ∨ k = 3 ∨ k = 4 := by omega
  rcases h' with rfl | rfl | rfl | rfl | rfl
  · exact ⟨k_dtI0 n p, k_dtS0 n p⟩
  · exact ⟨k_dtI1 n p, k_dtS1 n p⟩
  · exact ⟨k_dtI2 n p, k_dtS2 n p⟩
  · exact ⟨k_dtI3 n p, k_dtS3 n p⟩
  · exact ⟨k_dtI4 n p, k_dtS4 n p⟩
end Go.Proofs.YtnenhckongccgaaGreatDoor
namespace Go.Proofs.YtnenhckongccgaaGreatDoor
set_option linter.unusedVariables false
open Go.Shelf Go.RowKit Go.Lib
def Tryz.lays145_ren : Go.Shelf.Ren := ⟨fun | 145 => 76 | 220 => 113 | 219 => 148 | 217 => 164 | 225 => 165 | 224 => 166 | 267 => 167 | 266 => 183 | 314 => 184 | n => n, fun | 9 => 9 | 4 => 4 | 59 => 96 | 3 => 3 | 5 => 5 | 46 => 171 | 146 => 192 | 51 => 191 | n => n, fun | 1 => 0 | n => n⟩
theorem Tryz.lays145 : Go.Proofs.Lays.n145 Tryz.prog Tryz.lays145_ren := {
  mixed := by kernel_rfl
  f145 := Tryz.func76.trans (congrArg some (by kernel_rfl))
  f217 := Tryz.func164.trans (congrArg some (by kernel_rfl))
  f219 := Tryz.func148.trans (congrArg some (by kernel_rfl))
  f220 := Tryz.func113.trans (congrArg some (by kernel_rfl))
  f224 := Tryz.func166.trans (congrArg some (by kernel_rfl))
  f225 := Tryz.func165.trans (congrArg some (by kernel_rfl))
  f266 := Tryz.func183.trans (congrArg some (by kernel_rfl))
  f267 := Tryz.func167.trans (congrArg some (by kernel_rfl))
  f314 := Tryz.func184.trans (congrArg some (by kernel_rfl))
  t3 := Tryz.underlying3
  a3 := Tryz.isAgg3
  z3 := Tryz.sizeOf3
  v3 := Tryz.zeroValue3
  t4 := Tryz.underlying4
  a4 := Tryz.isAgg4
  z4 := Tryz.sizeOf4
  v4 := Tryz.zeroValue4
  t5 := Tryz.underlying5
  a5 := Tryz.isAgg5
  z5 := Tryz.sizeOf5
  v5 := Tryz.zeroValue5
  t9 := Tryz.underlying9
  a9 := Tryz.isAgg9
  z9 := Tryz.sizeOf9
  v9 := Tryz.zeroValue9
  t46 := Tryz.underlying171
  a46 := Tryz.isAgg171
  z46 := Tryz.sizeOf171
  v46 := Tryz.zeroValue171
  t51 := Tryz.underlying191
  a51 := Tryz.isAgg191
  z51 := Tryz.sizeOf191
  v51 := Tryz.zeroValue191
  t59 := Tryz.underlying96
  a59 := Tryz.isAgg96
  z59 := Tryz.sizeOf96
  v59 := Tryz.zeroValue96
  t146 := Tryz.underlying192
  a146 := Tryz.isAgg192
  z146 := Tryz.sizeOf192
  v146 := Tryz.zeroValue192
  g1 := by kernel_rfl }
theorem Tryz.strings_Cut (s sep : ByteArray) (m : Int) (w : World) (hs : s.size < 4294967281) (hm : w.cell? ⟨0, 0, none⟩ = some (.int .i64 m)) :
    Calls Tryz.prog 76 #[.string s, .string sep] w fun e w' => e = .returned (.tuple #[.string ⟨(Lib.cut s.data.toList sep.data.toList).1.toArray⟩, .string ⟨(Lib.cut s.data.toList sep.data.toList).2.1.toArray⟩, .bool (Lib.cut s.data.toList sep.data.toList).2.2]) ∧ ∃ n, w' = w.drewN n := Any.strings_Cut Tryz.lays145 s sep m w hs hm
end Go.Proofs.YtnenhckongccgaaGreatDoor
namespace Go.Proofs.YtnenhckongccgaaGreatDoor
set_option linter.unusedVariables false
set_option linter.unusedSimpArgs false
set_option maxRecDepth 20000
open Go.RowKit
open Go.Lib (decDigits)
attribute [local irreducible] runA runX AW
theorem gq_DC {H G : Prop} (k : H) (h : Hid H → G := by (intro hh; repeat1' (first | (first | (refine nxA ?_; (first | (first | refine r_seq (by rfl) (by rfl) (by rfl) ?_ | refine r_sne (by rfl) (by rfl) (by rfl) ?_) | ((first | (refine z_op (by rfl) ?_; first | refine z_ok ?_ ?_ | refine z_ex ?_ (by first | exact zL1 | ((first | fail); exact zWW) | exact zL2 | fail | exact zL3 | fail) ?_) | ((first | refine q_callE wsT wsZ (by rfl) ?_ | refine q_callVE wsT (by rfl) (by rfl) ?_); refine ⟨_, _, _, (by first | assumption), _, by rfl, ?_, ?_⟩)); focus (first | exact trivial | fail | exact zQZ)) | fail)) | refine swA ?_) | refine awA ?_); exact hh.out)) : G := h ⟨k⟩
theorem ct_cases (c : UInt8) (s : List UInt8) : (Go.Lib.cut s [c] = (s, [], false) ∧ cutA c [] s = [s]) ∨ (∃ i, i < s.length ∧ Go.Lib.cut s [c] = (s.take i, s.drop (i + 1), true) ∧ cutA c [] s = s.take i :: cutA c [] (s.drop (i + 1))) := by
  rcases cut_idx c s [] with ⟨h1, h2⟩ | ⟨i, h1, h2, h3⟩
  · refine .inl ⟨?_, h2⟩
    unfold Go.Lib.cut
    rw [h1, if_neg (by decide)]
  · refine .inr ⟨i, h2, ?_, h3⟩
    unfold Go.Lib.cut
    rw [h1, if_pos (by omega)]
    rfl
abbrev tupC (x : List UInt8 × List UInt8 × Bool) : AV := .tup [.one (.v (.string (str x.1))), .one (.v (.string (str x.2.1))), .one (.v (.bool x.2.2))]
theorem k_scut (c : UInt8) (s : List UInt8) (hs : s.length ≤ 7000000) : Kon Tryz.prog 76 [vS s, vS [c]] [] (tupC (Go.Lib.cut s [c])) [] [] := by
  refine kon_pure (Go.Proofs.enters_of Tryz.func76 (by kernel_rfl) rfl) rfl rfl ?_
  intro w ok vs hg hok hsz hargs
  obtain rfl := args2 hsz hargs
  obtain ⟨⟨m, hm⟩, _⟩ := hg.old
  have h1 : (str s).size = s.length := rfl
  refine (Tryz.strings_Cut (str s) (str [c]) m w (by rw [h1]; omega) hm).mono ?_
  rintro en W' ⟨rfl, n, rfl⟩
  refine ⟨_, rfl, ⟨rfl, rfl, rfl, Nat.le_refl _, fun _ _ => rfl⟩, fun β G ok' => ⟨_, rfl, rfl, ?_⟩⟩
  intro j x hj
  rcases j with _ | _ | _ | j
  · cases hj; exact ⟨_, rfl, rfl, rfl⟩
  · cases hj; exact ⟨_, rfl, rfl, rfl⟩
  · cases hj; exact ⟨_, rfl, rfl, rfl⟩
  · simp at hj
theorem ex_atoi (s : List UInt8) (hs : s.length ≤ 7000000) : ∃ (n : Int) (e : AC), (e = .v .nilIface ∨ e = .er) ∧ (∀ v, Go.Lib.atoiAll s = .ok v → n = v) ∧ Kon Tryz.prog 114 [vS s] [] (tupI n e) [] [] := by
  by_cases h : ∃ v, Go.Lib.atoiAll s = .ok v
  · obtain ⟨v, h⟩ := h
    exact ⟨v, _, .inl rfl, fun v' h' => by rw [h] at h'; cases h'; rfl, k_atoiOk s v hs h⟩
  · obtain ⟨n, hK⟩ := k_atoiNo s hs (fun v hv => h ⟨v, hv⟩)
    exact ⟨n, _, .inr rfl, fun v hv => absurd ⟨v, hv⟩ h, hK⟩
abbrev tupD (d : Dd) (b : Bool) : AV := .tup [.agg (dCs d), .one (.v (.bool b))]
abbrev dZ : Dd := ⟨0, 0, g0⟩
theorem k_rdI0Ntrue (s a b : List UInt8) (f : Bool) (n : Int) (hC : Kon Tryz.prog 76 [vS s, vS [32]] [] (tupC (a, b, f)) [] []) (ha : a = dnm 0) (hA : Kon Tryz.prog 114 [vS b] [] (tupI n (.v .nilIface)) [] []) (hne : (s == []) = false) (ht : (!(dtx 0 n g0 == s)) = true) : Kon Tryz.prog 77 [vS s] [] (tupD (if true = true then dZ else ⟨0, n, g0⟩) (!true)) [] [] := by
  subst ha
  have hT := (k_dt 0 n g0).1
  (refine kM Tryz.func77 rfl ?_; intro hfit hfe)
  (repeat (first | refine gq_DC ?_ | (refine ga0A ?_; intro _hq)))
  (repeat (first | refine gq_DC ?_ | (refine ga0A ?_; intro _hq) | refine gdA ?_))
  (refine rtA ?_; try rfl)
theorem k_rdI0Nfalse (s a b : List UInt8) (f : Bool) (n : Int) (hC : Kon Tryz.prog 76 [vS s, vS [32]] [] (tupC (a, b, f)) [] []) (ha : a = dnm 0) (hA : Kon Tryz.prog 114 [vS b] [] (tupI n (.v .nilIface)) [] []) (hne : (s == []) = false) (ht : (!(dtx 0 n g0 == s)) = false) : Kon Tryz.prog 77 [vS s] [] (tupD (if false = true then dZ else ⟨0, n, g0⟩) (!false)) [] [] := by
  subst ha
  have hT := (k_dt 0 n g0).1
  (refine kM Tryz.func77 rfl ?_; intro hfit hfe)
  (repeat (first | refine gq_DC ?_ | (refine ga0A ?_; intro _hq)))
  (repeat (first | refine gq_DC ?_ | (refine ga0A ?_; intro _hq) | refine gdA ?_))
  (refine rtA ?_; try rfl)
theorem k_rdI0Etrue (s a b : List UInt8) (f : Bool) (n : Int) (hC : Kon Tryz.prog 76 [vS s, vS [32]] [] (tupC (a, b, f)) [] []) (ha : a = dnm 0) (hA : Kon Tryz.prog 114 [vS b] [] (tupI n .er) [] []) (hne : (s == []) = false) (ht : (!(dtx 0 n g0 == s)) = true) : Kon Tryz.prog 77 [vS s] [] (tupD (if true = true then dZ else ⟨0, n, g0⟩) (!true)) [] [] := by
  subst ha
  have hT := (k_dt 0 n g0).1
  (refine kM Tryz.func77 rfl ?_; intro hfit hfe)
  (repeat (first | refine gq_DC ?_ | (refine ga0A ?_; intro _hq)))
  (repeat (first | refine gq_DC ?_ | (refine ga0A ?_; intro _hq) | refine gdA ?_))
  (refine rtA ?_; try rfl)
theorem k_rdI1Ntrue (s a b : List UInt8) (f : Bool) (n : Int) (hC : Kon Tryz.prog 76 [vS s, vS [32]] [] (tupC (a, b, f)) [] []) (ha : a = dnm 1) (hA : Kon Tryz.prog 114 [vS b] [] (tupI n (.v .nilIface)) [] []) (hne : (s == []) = false) (ht : (!(dtx 1 n g0 == s)) = true) : Kon Tryz.prog 77 [vS s] [] (tupD (if true = true then dZ else ⟨1, n, g0⟩) (!true)) [] [] := by
  subst ha
  have hT := (k_dt 1 n g0).1
  (refine kM Tryz.func77 rfl ?_; intro hfit hfe)
  (repeat (first | refine gq_DC ?_ | (refine ga0A ?_; intro _hq)))
  (repeat (first | refine gq_DC ?_ | (refine ga0A ?_; intro _hq) | refine gdA ?_))
  (refine rtA ?_; try rfl)
theorem k_rdI1Nfalse (s a b : List UInt8) (f : Bool) (n : Int) (hC : Kon Tryz.prog 76 [vS s, vS [32]] [] (tupC (a, b, f)) [] []) (ha : a = dnm 1) (hA : Kon Tryz.prog 114 [vS b] [] (tupI n (.v .nilIface)) [] []) (hne : (s == []) = false) (ht : (!(dtx 1 n g0 == s)) = false) : Kon Tryz.prog 77 [vS s] [] (tupD (if false = true then dZ else ⟨1, n, g0⟩) (!false)) [] [] := by
  subst ha
  have hT := (k_dt 1 n g0).1
  (refine kM Tryz.func77 rfl ?_; intro hfit hfe)
  (repeat (first | refine gq_DC ?_ | (refine ga0A ?_; intro _hq)))
  (repeat (first | refine gq_DC ?_ | (refine ga0A ?_; intro _hq) | refine gdA ?_))
  (refine rtA ?_; try rfl)
theorem k_rdI1Etrue (s a b : List UInt8) (f : Bool) (n : Int) (hC : Kon Tryz.prog 76 [vS s, vS [32]] [] (tupC (a, b, f)) [] []) (ha : a = dnm 1) (hA : Kon Tryz.prog 114 [vS b] [] (tupI n .er) [] []) (hne : (s == []) = false) (ht : (!(dtx 1 n g0 == s)) = true) : Kon Tryz.prog 77 [vS s] [] (tupD (if true = true then dZ else ⟨1, n, g0⟩) (!true)) [] [] := by
  subst ha
  have hT := (k_dt 1 n g0).1
  (refine kM Tryz.func77 rfl ?_; intro hfit hfe)
  (repeat (first | refine gq_DC ?_ | (refine ga0A ?_; intro _hq)))
  (repeat (first | refine gq_DC ?_ | (refine ga0A ?_; intro _hq) | refine gdA ?_))
  (refine rtA ?_; try rfl)
theorem k_rdI2true (s a b : List UInt8) (f : Bool) (p : Gt) (q : Bool) (hC : Kon Tryz.prog 76 [vS s, vS [32]] [] (tupC (a, b, f)) [] []) (ha : a = dnm 2) (hA : Kon Tryz.prog 115 [vS b] [] (tupG p q) [] []) (hne : (s == []) = false) (ht : (!(dtx 2 0 p == s)) = true) : Kon Tryz.prog 77 [vS s] [] (tupD (if true = true then dZ else ⟨2, 0, p⟩) (!true)) [] [] := by
  subst ha
  have hT := (k_dt 2 0 p).1
  (refine kM Tryz.func77 rfl ?_; intro hfit hfe)
  (repeat (first | refine gq_DC ?_ | (refine ga0A ?_; intro _hq)))
  (repeat (first | refine gq_DC ?_ | (refine ga0A ?_; intro _hq) | refine gdA ?_))
  (refine rtA ?_; try rfl)
theorem k_rdI3true (s a b : List UInt8) (f : Bool) (hC : Kon Tryz.prog 76 [vS s, vS [32]] [] (tupC (a, b, f)) [] []) (ha : a = dnm 3) (hne : (s == []) = false) (ht : (!(dtx 3 0 g0 == s)) = true) : Kon Tryz.prog 77 [vS s] [] (tupD (if true = true then dZ else ⟨3, 0, g0⟩) (!true)) [] [] := by
  subst ha
  have hT := (k_dt 3 0 g0).1
  (refine kM Tryz.func77 rfl ?_; intro hfit hfe)
  (repeat (first | refine gq_DC ?_ | (refine ga0A ?_; intro _hq)))
  (repeat (first | refine gq_DC ?_ | (refine ga0A ?_; intro _hq) | refine gdA ?_))
  (refine rtA ?_; try rfl)
theorem k_rdI4true (s a b : List UInt8) (f : Bool) (hC : Kon Tryz.prog 76 [vS s, vS [32]] [] (tupC (a, b, f)) [] []) (ha : a = dnm 4) (hne : (s == []) = false) (ht : (!(dtx 4 0 g0 == s)) = true) : Kon Tryz.prog 77 [vS s] [] (tupD (if true = true then dZ else ⟨4, 0, g0⟩) (!true)) [] [] := by
  subst ha
  have hT := (k_dt 4 0 g0).1
  (refine kM Tryz.func77 rfl ?_; intro hfit hfe)
  (repeat (first | refine gq_DC ?_ | (refine ga0A ?_; intro _hq)))
  (repeat (first | refine gq_DC ?_ | (refine ga0A ?_; intro _hq) | refine gdA ?_))
  (refine rtA ?_; try rfl)
theorem k_rdI2false (s a b : List UInt8) (f : Bool) (p : Gt) (q : Bool) (hC : Kon Tryz.prog 76 [vS s, vS [32]] [] (tupC (a, b, f)) [] []) (ha : a = dnm 2) (hA : Kon Tryz.prog 115 [vS b] [] (tupG p q) [] []) (hne : (s == []) = false) (ht : (!(dtx 2 0 p == s)) = false) : Kon Tryz.prog 77 [vS s] [] (tupD (if false = true then dZ else ⟨2, 0, p⟩) (!false)) [] [] := by
  subst ha
  have hT := (k_dt 2 0 p).1
  (refine kM Tryz.func77 rfl ?_; intro hfit hfe)
  (repeat (first | refine gq_DC ?_ | (refine ga0A ?_; intro _hq)))
  (repeat (first | refine gq_DC ?_ | (refine ga0A ?_; intro _hq) | refine gdA ?_))
  (refine rtA ?_; try rfl)
theorem k_rdI3false (s a b : List UInt8) (f : Bool) (hC : Kon Tryz.prog 76 [vS s, vS [32]] [] (tupC (a, b, f)) [] []) (ha : a = dnm 3) (hne : (s == []) = false) (ht : (!(dtx 3 0 g0 == s)) = false) : Kon Tryz.prog 77 [vS s] [] (tupD (if false = true then dZ else ⟨3, 0, g0⟩) (!false)) [] [] := by
  subst ha
  have hT := (k_dt 3 0 g0).1
  (refine kM Tryz.func77 rfl ?_; intro hfit hfe)
  (repeat (first | refine gq_DC ?_ | (refine ga0A ?_; intro _hq)))
  (repeat (first | refine gq_DC ?_ | (refine ga0A ?_; intro _hq) | refine gdA ?_))
  (refine rtA ?_; try rfl)
theorem k_rdI4false (s a b : List UInt8) (f : Bool) (hC : Kon Tryz.prog 76 [vS s, vS [32]] [] (tupC (a, b, f)) [] []) (ha : a = dnm 4) (hne : (s == []) = false) (ht : (!(dtx 4 0 g0 == s)) = false) : Kon Tryz.prog 77 [vS s] [] (tupD (if false = true then dZ else ⟨4, 0, g0⟩) (!false)) [] [] := by
  subst ha
  have hT := (k_dt 4 0 g0).1
  (refine kM Tryz.func77 rfl ?_; intro hfit hfe)
  (repeat (first | refine gq_DC ?_ | (refine ga0A ?_; intro _hq)))
  (repeat (first | refine gq_DC ?_ | (refine ga0A ?_; intro _hq) | refine gdA ?_))
  (refine rtA ?_; try rfl)
theorem k_rdIx (s a b : List UInt8) (f : Bool) (hC : Kon Tryz.prog 76 [vS s, vS [32]] [] (tupC (a, b, f)) [] []) (h0 : (a == [102, 111, 114, 116, 104]) = false) (h1 : (a == [98, 97, 99, 107]) = false) (h2 : (a == [112, 117, 116]) = false) (h3 : (a == [116, 97, 107, 101]) = false) (h4 : (a == [115, 104, 111, 114, 116]) = false) (hne : (s == []) = false) : Kon Tryz.prog 77 [vS s] [] (tupD dZ false) [] [] := by
  have hT : Kon Tryz.prog 35 [dV ⟨0, 0, g0⟩] [] (vS []) [] [] := (k_dt 0 0 g0).1
  have ht : (!(([] : List UInt8) == s)) = true := by
    rw [Bool.not_eq_true', beq_eq_false_iff_ne] at *
    exact fun e => hne e.symm
  (refine kM Tryz.func77 rfl ?_; intro hfit hfe)
  (repeat (first | refine gq_DC ?_ | (refine ga0A ?_; intro _hq)))
  (repeat (first | refine gq_DC ?_ | (refine ga0A ?_; intro _hq) | refine gdA ?_))
  (refine rtA ?_; try rfl)
theorem k_rdI_nil : Kon Tryz.prog 77 [vS []] [] (tupD dZ false) [] [] := by
  have hC := k_scut 32 [] (by decide)
  have e : Go.Lib.cut ([] : List UInt8) [32] = ([], [], false) := by decide
  rw [e] at hC
  have hne : (([] : List UInt8) == []) = true := rfl
  have h0 : (([] : List UInt8) == [102, 111, 114, 116, 104]) = false := rfl
  have h1 : (([] : List UInt8) == [98, 97, 99, 107]) = false := rfl
  have h2 : (([] : List UInt8) == [112, 117, 116]) = false := rfl
  have h3 : (([] : List UInt8) == [116, 97, 107, 101]) = false := rfl
  have h4 : (([] : List UInt8) == [115, 104, 111, 114, 116]) = false := rfl
  (refine kM Tryz.func77 rfl ?_; intro hfit hfe)
  (repeat (first | refine gq_DC ?_ | (refine ga0A ?_; intro _hq)))
  (repeat (first | refine gq_DC ?_ | (refine ga0A ?_; intro _hq) | refine gdA ?_))
  (refine rtA ?_; try rfl)
theorem gq_DS {H G : Prop} (k : H) (h : Hid H → G := by (intro hh; repeat1' (first | (first | (refine nxA ?_; (first | (first | refine r_slen (by rfl) Tryz.underlying9 (by rfl) ?_ | refine r_seq (by rfl) (by rfl) (by rfl) ?_ | refine r_sne (by rfl) (by rfl) (by rfl) ?_ | refine r_spiece (p := 4) (by rfl) (by rfl) (by rfl) Tryz.underlying9 (.inr rfl) (.inl ⟨rfl, rfl⟩) (by omega) (by rfl) ?_) | ((first | (refine z_op (by rfl) ?_; first | refine z_ok ?_ ?_ | refine z_ex ?_ (by first | exact zL1 | ((first | fail); exact zWW) | exact zL2 | (first | exact rw_c Dd rfl) | exact zL3 | fail) ?_) | ((first | refine q_callE wsT wsZ (by rfl) ?_ | refine q_callVE wsT (by rfl) (by rfl) ?_); refine ⟨_, _, _, (by first | assumption | exact (k_dt _ _ _).2), _, by rfl, ?_, ?_⟩)); focus (first | exact trivial | fail | exact zQZ)) | fail)) | refine swA ?_) | refine awA ?_); exact hh.out)) : G := h ⟨k⟩
theorem gs_DS {H G : Prop} (k : H) (h : Hid H → G := by (intro hh; repeat1' (first | (refine nxA ?_; (first | (first | refine r_slen (by rfl) Tryz.underlying9 (by rfl) ?_ | refine r_seq (by rfl) (by rfl) (by rfl) ?_ | refine r_sne (by rfl) (by rfl) (by rfl) ?_ | refine r_spiece (p := 4) (by rfl) (by rfl) (by rfl) Tryz.underlying9 (.inr rfl) (.inl ⟨rfl, rfl⟩) (by omega) (by rfl) ?_) | ((first | (refine z_op (by rfl) ?_; first | refine z_ok ?_ ?_ | refine z_ex ?_ (by first | exact zL1 | ((first | fail); exact zWW) | exact zL2 | (first | exact rw_c Dd rfl) | exact zL3 | fail) ?_) | ((first | refine q_callE wsT wsZ (by rfl) ?_ | refine q_callVE wsT (by rfl) (by rfl) ?_); refine ⟨_, _, _, (by first | assumption | exact (k_dt _ _ _).2), _, by rfl, ?_, ?_⟩)); focus (first | exact trivial | fail | exact zQZ)) | fail)) | refine swA ?_); exact hh.out)) : G := h ⟨k⟩
def fnd (s : List UInt8) : List Dd → Dd × Bool
  | [] => (dZ, false)
  | d :: l => if (dtx d.k d.n d.p == s) = true then (d, true) else fnd s l
def lstD (s : List UInt8) (p : Gt) : List Dd :=
  [⟨3, 0, g0⟩, ⟨4, 0, g0⟩] ++ (if (cutA 32 [] s).length = 2 then [⟨0, dgs ((cutA 32 [] s).getD 1 []), g0⟩, ⟨1, dgs ((cutA 32 [] s).getD 1 []), g0⟩] else []) ++ (if 4 < s.length then [⟨2, 0, p⟩] else [])
theorem fnd_drop {s : List UInt8} {L : List Dd} {k : Nat} (h : k < L.length) : fnd s (L.drop k) = if (dtx (L.getD k Cel.no).k (L.getD k Cel.no).n (L.getD k Cel.no).p == s) = true then (L.getD k Cel.no, true) else fnd s (L.drop (k + 1)) := by
  rw [List.drop_eq_getElem_cons h, fnd]
  simp [List.getD_eq_getElem?_getD, h]
set_option maxHeartbeats 8000000 in
theorem k_rdS (s : List UInt8) (p : Gt) (q : Bool) (hs : s.length ≤ 7000000) (hne : (s == []) = false) (hG : 4 < s.length → Kon Tryz.prog 95 [vS ((s.drop 4).take (s.length - 4))] [] (tupG p q) [] []) : Kon Tryz.prog 43 [vS s] [] (tupD (fnd s (lstD s p)).1 (fnd s (lstD s p)).2) [] [] := by
  have hC := k_cut s hs
  have hw := (cutA_len 32 s []).1
  have eL : ∃ L, lstD s p = L ∧ L.length ≤ 5 := ⟨_, rfl, by unfold lstD; split <;> split <;> simp⟩
  obtain ⟨L, eL, hL5⟩ := eL
  rw [eL]
  unfold lstD at eL
  generalize cutA 32 [] s = ws at *
  have hD := k_dig (ws.getD (1 : Int).toNat Cel.no)
  have hne2 : (!(s == [])) = true := by rw [hne]; rfl
  (refine kM Tryz.func43 rfl ?_; intro hfit hfe)
  (repeat (first | refine gs_DS ?_ | (refine ga0A ?_; intro _hq)))
  (repeat refine gcA ?_)
  (repeat (first | refine gs_DS ?_ | (refine ga0A ?_; intro _hq)))
  (repeat refine gcA ?_)
  (repeat (first | refine gs_DS ?_ | (refine ga0A ?_; intro _hq)))
  (repeat refine gcA ?_)
  (repeat (first | refine gs_DS ?_ | (refine ga0A ?_; intro _hq)))
  refine aw_cutg [0, 2, 3] [32] (fun g : Nat × List Dd => [(5, .g (.one (.sl 208 g.1 g.2.length)))]) (fun g => [(208, (g.1, dRow g.2))]) (fun g => g.2 = [⟨3, 0, g0⟩, ⟨4, 0, g0⟩] ++ (if ws.length = 2 then [⟨0, dgs (ws.getD 1 []), g0⟩, ⟨1, dgs (ws.getD 1 []), g0⟩] else [])) (by rfl) (by rfl) ?_ ?_
  · rcases Nat.lt_or_ge ws.length 2 with h | h
    · have d1 : ((ws.length : Int) == 2) = false := by rw [beq_eq_false_iff_ne]; omega
      (repeat (first | refine gq_DS ?_ | (refine ga0A ?_; intro _hq)))
      exact ⟨(0, [⟨3, 0, g0⟩, ⟨4, 0, g0⟩]), (by dsimp only; rw [if_neg (by omega)]; rfl), ⟨by rfl, zHE, zHE⟩⟩
    rcases Nat.lt_or_ge 2 ws.length with h2 | h2
    · have d1 : ((ws.length : Int) == 2) = false := by rw [beq_eq_false_iff_ne]; omega
      (repeat (first | refine gq_DS ?_ | (refine ga0A ?_; intro _hq)))
      exact ⟨(0, [⟨3, 0, g0⟩, ⟨4, 0, g0⟩]), (by dsimp only; rw [if_neg (by omega)]; rfl), ⟨by rfl, zHE, zHE⟩⟩
    · have d1 : ((ws.length : Int) == 2) = true := by rw [beq_iff_eq]; omega
      (repeat (first | refine gq_DS ?_ | (refine ga0A ?_; intro _hq)))
      (refine aw_draw mixed T0ok cfU_ok [(208, [0, 12, 13]), (448, [11, 12])] (by rfl) (by kernel_rfl) ?_)
      (repeat (first | refine gq_DS ?_ | (refine ga0A ?_; intro _hq)))
      exact ⟨(1, [⟨3, 0, g0⟩, ⟨4, 0, g0⟩, ⟨0, dgs (ws.getD 1 []), g0⟩, ⟨1, dgs (ws.getD 1 []), g0⟩]), (by dsimp only; rw [if_pos (by omega)]; rfl), ⟨by rfl, zHE, zHE⟩⟩
  rintro ⟨v, L1⟩ he
  dsimp only at he ⊢
  rw [← he] at eL
  have hL1 : L1.length ≤ 4 := by rw [he]; split <;> simp
  clear he
  refine aw_cutg [0, 2, 3] [32] (fun g : Nat => [(5, .g (.one (.sl 208 g L.length)))]) (fun g => [(208, (g, dRow L))]) (fun g => True) (by rfl) (by rfl) ?_ ?_
  · rcases Nat.lt_or_ge 4 s.length with h | h
    · have d1 : decide ((s.length : Int) > 4) = true := decide_eq_true (by omega)
      rw [if_pos h] at eL
      subst eL
      have hG2 := hG h
      (repeat (first | refine gq_DS ?_ | (refine ga0A ?_; intro _hq)))
      exact ⟨v + 1, trivial, ⟨by rfl, zHE, zHE⟩⟩
    · have d1 : decide ((s.length : Int) > 4) = false := decide_eq_false (by omega)
      rw [if_neg (by omega), List.append_nil] at eL
      subst eL
      (repeat (first | refine gq_DS ?_ | (refine ga0A ?_; intro _hq)))
      exact ⟨v, trivial, ⟨by rfl, zHE, zHE⟩⟩
  rintro v2 -
  (repeat (first | refine gq_DS ?_ | (refine ga0A ?_; intro _hq)))
  (refine aw_rd [0, 2, 3, 5] [32, 208] (fun k : Nat => [(8, vI k)]) (fun _ => []) (fun k => k ≤ L.length ∧ fnd s (L.drop k) = fnd s L) (fun k => L.length - k) 0 (by rfl) (by rfl) ?_ (by rfl) zHE zHE ?_)
  · exact ⟨Nat.zero_le _, rfl⟩
  rintro k ⟨hk, hf⟩
  rcases Nat.lt_or_ge k L.length with h | h
  · have hd : decide ((k : Int) < (L.length : Int)) = true := decide_eq_true (by omega)
    rw [fnd_drop h] at hf
    cases ht : (dtx (L.getD k Cel.no).k (L.getD k Cel.no).n (L.getD k Cel.no).p == s) with
    | true =>
      rw [ht, if_pos rfl] at hf
      rw [← hf]
      clear hf
      (repeat (first | refine gq_DS ?_ | (refine ga0A ?_; intro _hq)))
      (refine rtA ?_; try rfl)
    | false =>
      rw [ht, if_neg (by decide)] at hf
      have hinv : k + 1 ≤ L.length ∧ fnd s (L.drop (k + 1)) = fnd s L := ⟨h, hf⟩
      clear hf
      (repeat (first | refine gq_DS ?_ | (refine ga0A ?_; intro _hq)))
      exact ⟨k + 1, hinv, ⟨by rfl, zHE, zHE⟩, (by first | omega | (dsimp only; omega))⟩
  · obtain rfl : k = L.length := by omega
    have hd : decide ((L.length : Int) < (L.length : Int)) = false := decide_eq_false (by omega)
    rw [List.drop_of_length_le (Nat.le_refl _), fnd] at hf
    rw [← hf]
    clear hf
    (repeat (first | refine gq_DS ?_ | (refine ga0A ?_; intro _hq)))
    (refine rtA ?_; try rfl)
theorem k_rdS_nil : Kon Tryz.prog 43 [vS []] [] (tupD dZ false) [] [] := by
  have hC := k_cut [] (by decide)
  have e : cutA 32 [] [] = [[]] := rfl
  rw [e] at hC
  have hne : (!(([] : List UInt8) == [])) = false := rfl
  (refine kM Tryz.func43 rfl ?_; intro hfit hfe)
  (repeat (first | refine gq_DS ?_ | (refine ga0A ?_; intro _hq)))
  refine aw_unroll 3 ?_
  (repeat (first | refine gq_DS ?_ | (refine ga0A ?_; intro _hq)))
  (refine rtA ?_; try rfl)
end Go.Proofs.YtnenhckongccgaaGreatDoor
namespace Go.Proofs.YtnenhckongccgaaGreatDoor
set_option linter.unusedVariables false
set_option linter.unusedSimpArgs false
set_option maxRecDepth 20000
open Go.RowKit
open Go.Lib (decDigits)
def RDd (s : List UInt8) (d : Dd) (b : Bool) : Prop := (b = true ∧ DOk s d.k d.n d.p) ∨ (b = false ∧ d = dZ ∧ ∀ k n p, ¬ DOk s k n p)
theorem Dd_ext {d e : Dd} (h1 : d.k = e.k) (h2 : d.n = e.n) (h3 : d.p = e.p) : d = e := by
  obtain ⟨a, b, c⟩ := d
  obtain ⟨a', b', c'⟩ := e
  dsimp only at h1 h2 h3
  rw [h1, h2, h3]
theorem no_dtx {s : List UInt8} (hs : s ≠ []) (h : ∀ k n p, ¬ DOk s k n p) (k n : Int) (p : Gt) : (dtx k n p == s) = false := by
  rw [Bool.eq_false_iff]
  intro e
  exact h _ _ _ ((dtx_eq hs).1 e)
theorem fnd_no {s : List UInt8} (hs : s ≠ []) (h : ∀ k n p, ¬ DOk s k n p) : ∀ L, fnd s L = (dZ, false)
  | [] => rfl
  | d :: L => by rw [fnd, no_dtx hs h, if_neg (by decide)]; exact fnd_no hs h L
theorem fnd_yes {s : List UInt8} (hs : s ≠ []) {d : Dd} (h : DOk s d.k d.n d.p) : ∀ L : List Dd, d ∈ L → fnd s L = (d, true)
  | e :: L, hm => by
    rw [fnd]
    by_cases h2 : (dtx e.k e.n e.p == s) = true
    · rw [if_pos h2]
      obtain ⟨a, b, c⟩ := d_uni ((dtx_eq hs).1 h2) h
      rw [Dd_ext a b c]
    · rw [if_neg h2]
      rcases List.mem_cons.1 hm with rfl | hm
      · exact absurd ((dtx_eq hs).2 h) h2
      · exact fnd_yes hs h L hm
theorem cut_of {a b s : List UInt8} (ha : a.contains 32 = false) (e : s = a ++ 32 :: b) : Go.Lib.cut s [32] = (a, b, true) := by
  have hc : cutA 32 [] s = a :: cutA 32 [] b := by rw [e, cutA_app ha]; rfl
  have hb := (cutA_len 32 b []).1
  rcases ct_cases 32 s with ⟨_, h2⟩ | ⟨i, hi, h1, h2⟩
  · rw [hc] at h2
    have := congrArg List.length h2
    simp only [List.length_cons, List.length_nil] at this
    omega
  · rw [hc] at h2
    have h3 := (List.cons.inj h2).1
    have hl : a.length = i := by rw [h3, List.length_take]; omega
    rw [h1, ← h3]
    refine Prod.ext rfl (Prod.ext ?_ rfl)
    dsimp only
    rw [e, ← hl, show a.length + 1 = a.length + (32 :: ([] : List UInt8)).length from rfl, show a ++ 32 :: b = (a ++ [32]) ++ b by simp]
    rw [show a.length + (32 :: ([] : List UInt8)).length = (a ++ [32]).length by simp]
    exact List.drop_left
theorem cut_no {a : List UInt8} (ha : a.contains 32 = false) : Go.Lib.cut a [32] = (a, [], false) := by
  have hc : cutA 32 [] a = [a] := by rw [cutA_end ha]; rfl
  rcases ct_cases 32 a with ⟨h1, _⟩ | ⟨i, hi, h1, h2⟩
  · exact h1
  · rw [hc] at h2
    have := congrArg List.length h2
    have hb := (cutA_len 32 (a.drop (i + 1)) []).1
    simp only [List.length_cons, List.length_nil] at this
    omega
theorem bne_of (b : Bool) (h : b = false) : (!b) = true := by rw [h]; rfl
theorem bnt_of (b : Bool) (h : b = true) : (!b) = false := by rw [h]; rfl
theorem nm_ne {a : List UInt8} {k : Int} (h : ¬ a = dnm k) : (a == dnm k) = false := by rw [beq_eq_false_iff_ne]; exact h
theorem dnm_dec (a : List UInt8) : (∃ k : Int, (0 ≤ k ∧ k ≤ 4) ∧ a = dnm k) ∨ (¬ a = dnm 0 ∧ ¬ a = dnm 1 ∧ ¬ a = dnm 2 ∧ ¬ a = dnm 3 ∧ ¬ a = dnm 4) := by
  by_cases h0 : a = dnm 0
  · exact .inl ⟨0, by decide, h0⟩
  by_cases h1 : a = dnm 1
  · exact .inl ⟨1, by decide, h1⟩
  by_cases h2 : a = dnm 2
  · exact .inl ⟨2, by decide, h2⟩
  by_cases h3 : a = dnm 3
  · exact .inl ⟨3, by decide, h3⟩
  by_cases h4 : a = dnm 4
  · exact .inl ⟨4, by decide, h4⟩
  exact .inr ⟨h0, h1, h2, h3, h4⟩
theorem rdI_no (s : List UInt8) (hs : s.length ≤ 7000000) (h : ∀ k n p, ¬ DOk s k n p) : Kon Tryz.prog 77 [vS s] [] (tupD dZ false) [] [] := by
  by_cases hne : s = []
  · subst hne; exact k_rdI_nil
  have hne2 : (s == []) = false := by rw [beq_eq_false_iff_ne]; exact hne
  have hC := k_scut 32 s hs
  have hct := ct_cases 32 s
  rcases hx : Go.Lib.cut s [32] with ⟨a, b, f⟩
  rw [hx] at hC hct
  have hbl : b.length ≤ 7000000 := by
    rcases hct with ⟨h1, _⟩ | ⟨i, _, h1, _⟩
    · obtain ⟨rfl, h2⟩ := Prod.mk.inj h1
      rw [(Prod.mk.inj h2).1]; simp
    · rw [(Prod.mk.inj (Prod.mk.inj h1).2).1, List.length_drop]; omega
  have hn := fun k n p => bne_of _ (no_dtx hne h k n p)
  rcases dnm_dec a with ⟨k, hk, ha⟩ | ⟨h0, h1, h2, h3, h4⟩
  · have h' : k = 0 ∨ k = 1 ∨ k = 2 ∨ k = 3 ∨ k = 4 := by omega
    rcases h' with rfl | rfl | rfl | rfl | rfl
    · obtain ⟨n, e, he, _, hA⟩ := ex_atoi b hbl
      rcases he with rfl | rfl
      · exact k_rdI0Ntrue s a b f n hC ha hA hne2 (hn 0 n g0)
      · exact k_rdI0Etrue s a b f n hC ha hA hne2 (hn 0 n g0)
    · obtain ⟨n, e, he, _, hA⟩ := ex_atoi b hbl
      rcases he with rfl | rfl
      · exact k_rdI1Ntrue s a b f n hC ha hA hne2 (hn 1 n g0)
      · exact k_rdI1Etrue s a b f n hC ha hA hne2 (hn 1 n g0)
    · obtain ⟨p, q, _, _, hA⟩ := rg_ex b hbl
      exact k_rdI2true s a b f p q hC ha hA hne2 (hn 2 0 p)
    · exact k_rdI3true s a b f hC ha hne2 (hn 3 0 g0)
    · exact k_rdI4true s a b f hC ha hne2 (hn 4 0 g0)
  · exact k_rdIx s a b f hC (nm_ne (k := 0) h0) (nm_ne (k := 1) h1) (nm_ne (k := 2) h2) (nm_ne (k := 3) h3) (nm_ne (k := 4) h4) hne2
theorem dnm3 : (dnm 2).length = 3 := rfl
theorem rd_yes (s : List UInt8) (hs : s.length ≤ 7000000) (d : Dd) (h : DOk s d.k d.n d.p) : Kon Tryz.prog 43 [vS s] [] (tupD d true) [] [] ∧ Kon Tryz.prog 77 [vS s] [] (tupD d true) [] [] := by
  have hne := h.2
  have hne2 : (s == []) = false := by rw [beq_eq_false_iff_ne]; exact hne
  have hC := k_scut 32 s hs
  have ht := bnt_of _ ((dtx_eq hne).2 h)
  have hG : ∃ p q, (4 < s.length → RG ((s.drop 4).take (s.length - 4)) p q ∧ Kon Tryz.prog 95 [vS ((s.drop 4).take (s.length - 4))] [] (tupG p q) [] []) := by
    obtain ⟨p, q, h1, h2, _⟩ := rg_ex ((s.drop 4).take (s.length - 4)) (by rw [List.length_take, List.length_drop]; omega)
    exact ⟨p, q, fun _ => ⟨h1, h2⟩⟩
  obtain ⟨p, q, hG⟩ := hG
  have hS := k_rdS s p q hs hne2 (fun hl => (hG hl).2)
  have fin : d ∈ lstD s p → Kon Tryz.prog 43 [vS s] [] (tupD d true) [] [] := fun hm => by
    rw [fnd_yes hne h _ hm] at hS
    exact hS
  clear hS
  obtain ⟨k, n, p'⟩ := d
  dsimp only at h ht
  rcases d_cases h with ⟨hk, rfl, hn, e, ec⟩ | ⟨rfl, rfl, hg, e, ec⟩ | ⟨hk, rfl, rfl, e, ec⟩
  · have hcut := cut_of (dnm_no k) e
    rw [hcut] at hC
    have hdx := dx_dg (x := n) (by omega)
    have hat : Go.Lib.atoiAll (dx n) = .ok n := by
      have := (dd2_of (n := n.toNat) (by omega)).2.1
      rw [this]; congr 1; omega
    have hdl : (dx n).length ≤ 7000000 := by
      have := (dd2_of (n := n.toNat) (by omega)).2.2.2.2
      show (decDigits n.toNat).length ≤ 7000000
      omega
    have hA := k_atoiOk (dx n) n hdl hat
    refine ⟨fin ?_, ?_⟩
    · unfold lstD
      rw [ec, if_pos (show [dnm k, dx n].length = 2 from rfl)]
      have e1 : dgs ([dnm k, dx n].getD 1 []) = n := hdx
      rw [e1]
      rcases hk with rfl | rfl <;> simp
    · rcases hk with rfl | rfl
      · exact k_rdI0Nfalse s _ _ _ n hC rfl hA hne2 ht
      · exact k_rdI1Nfalse s _ _ _ n hC rfl hA hne2 ht
  · have hcut := cut_of (dnm_no 2) e
    rw [hcut] at hC
    have hgl := gtT_len hg
    have hsl : 4 < s.length := by rw [e, List.length_append, dnm3, List.length_cons]; omega
    have hrest : (s.drop 4).take (s.length - 4) = gtT p' := by
      have h4 : s.drop 4 = gtT p' := by rw [e]; rfl
      rw [h4, List.take_of_length_le]
      rw [e, List.length_append, dnm3, List.length_cons]; omega
    obtain ⟨hRG, _⟩ := hG hsl
    rw [hrest] at hRG
    have hp : p = p' := by
      rcases hRG with ⟨_, h2⟩ | ⟨_, _, h2⟩
      · exact gk_uni h2 ⟨hg, rfl⟩
      · exact absurd ⟨hg, rfl⟩ (h2 p')
    subst hp
    obtain ⟨p2, q2, h2, _, hA⟩ := rg_ex (gtT p) (by omega)
    have hp2 : p2 = p := by
      rcases h2 with ⟨_, h2⟩ | ⟨_, _, h2⟩
      · exact gk_uni h2 ⟨hg, rfl⟩
      · exact absurd ⟨hg, rfl⟩ (h2 p)
    subst hp2
    refine ⟨fin ?_, k_rdI2false s _ _ _ p2 q2 hC rfl hA hne2 ht⟩
    unfold lstD
    rw [if_pos hsl]
    simp
  · have hcut := cut_no (dnm_no k)
    rw [← e] at hcut
    rw [hcut] at hC
    refine ⟨fin ?_, ?_⟩
    · unfold lstD
      rcases hk with rfl | rfl <;> simp
    · rcases hk with rfl | rfl
      · exact k_rdI3false s _ _ _ hC e hne2 ht
      · exact k_rdI4false s _ _ _ hC e hne2 ht
theorem rd_no (s : List UInt8) (hs : s.length ≤ 7000000) (h : ∀ k n p, ¬ DOk s k n p) : Kon Tryz.prog 43 [vS s] [] (tupD dZ false) [] [] := by
  by_cases hne : s = []
  · subst hne; exact k_rdS_nil
  have hne2 : (s == []) = false := by rw [beq_eq_false_iff_ne]; exact hne
  obtain ⟨p, q, _, h2, _⟩ := rg_ex ((s.drop 4).take (s.length - 4)) (by rw [List.length_take, List.length_drop]; omega)
  have hS := k_rdS s p q hs hne2 (fun _ => h2)
  rw [fnd_no hne h] at hS
  exact hS
theorem rd_all (s : List UInt8) : ∃ d b, RDd s d b := by
  by_cases h : ∃ d : Dd, DOk s d.k d.n d.p
  · obtain ⟨d, h⟩ := h; exact ⟨d, true, .inl ⟨rfl, h⟩⟩
  · exact ⟨dZ, false, .inr ⟨rfl, rfl, fun k n p hg => h ⟨⟨k, n, p⟩, hg⟩⟩⟩
theorem rd_ex (s : List UInt8) (hs : s.length ≤ 7000000) : ∃ d b, RDd s d b ∧ Kon Tryz.prog 43 [vS s] [] (tupD d b) [] [] ∧ Kon Tryz.prog 77 [vS s] [] (tupD d b) [] [] := by
  obtain ⟨d, b, h⟩ := rd_all s
  refine ⟨d, b, h, ?_⟩
  rcases h with ⟨rfl, h⟩ | ⟨rfl, rfl, h⟩
  · exact rd_yes s hs d h
  · exact ⟨rd_no s hs h, rdI_no s hs h⟩
end Go.Proofs.YtnenhckongccgaaGreatDoor
namespace Go.Proofs.YtnenhckongccgaaGreatDoor
set_option linter.unusedVariables false
set_option linter.unusedSimpArgs false
open Go.RowKit Go.Shelf
attribute [local go_sem] Oper.semAt_some
abbrev gvl (g : Gt) : Value := .agg #[.int .i64 g.k, .int .i64 g.a, .int .i64 g.b, .int .i64 g.c]
def upto {α : Type} (f : Nat → α) (k : Nat) : List α := (List.range k).map f
theorem upto_succ {α : Type} (f : Nat → α) (k : Nat) : upto f (k + 1) = upto f k ++ [f k] := by simp [upto, List.range_succ]
theorem upto_length {α : Type} (f : Nat → α) (k : Nat) : (upto f k).length = k := by simp [upto]
def K2 (n₀ Bs : Nat) (W W' : World) : Prop := Below n₀ W W' ∧ ∀ v, Boxed W Bs 23 v → Boxed W' Bs 23 v
theorem K2.refl (n₀ Bs : Nat) (W : World) : K2 n₀ Bs W W := ⟨Below.refl _ _, fun _ h => h⟩
theorem K2.trans {n₀ Bs : Nat} {A B C : World} (h : K2 n₀ Bs A B) (k : K2 n₀ Bs B C) : K2 n₀ Bs A C := ⟨h.1.trans k.1, fun v b => k.2 v (h.2 v b)⟩
theorem K2_t {n₀ Bs : Nat} {A B C : World} (h : K2 n₀ Bs A B) (k : K2 n₀ Bs B C) : K2 n₀ Bs A C := h.trans k
theorem K2_b {n₀ Bs : Nat} {w : World} (hn : n₀ ≤ w.heap.size) (W : World) (l : Nat) (o o' : Obj) (hl : w.heap.size ≤ l) (h : W.heap[l]? = some o) (ho : o.isCells = false) (hw : o.isWalk = false) : K2 n₀ Bs W (W.putObj l o') :=
  ⟨belowK_b hn W l o o' hl h ho hw, fun v b => b.kept (grownBy_putObj' W l o') (fun e => by cases e; rw [show W.heap[Bs]? = _ from b] at h; cases h; cases ho)⟩
set_option maxRecDepth 100000 in
set_option maxHeartbeats 2000000 in
theorem bw1_in (F : Fence) (n : Nat) (h7 : F.fn 197) (hro : F.round = none) (hn : 1 ≤ n) (l Bs n₀ b off len cap : Nat) (f : Nat → Gt) (hreach : len * 32 ≤ 140737488351232) (hb : b < n₀) (J Jx : List (Int × Gt) → World → Prop)
    (hY : ∀ pre x W, J pre W → pre.length < len → YieldAt F (n - 1) Tryz.prog l #[.int .i64 x.1, gvl x.2] W fun e W' =>
      (e = .returned (.bool true) ∧ J (pre ++ [x]) W' ∧ K2 n₀ Bs W W') ∨ (e = .returned (.bool false) ∧ Jx (pre ++ [x]) W'))
    (W : World) (hBs : Boxed W Bs 23 (.slice (some ⟨b, off, none⟩) len cap)) (hc : ∀ j, j < len → W.cell? ⟨b, off + j * 4, none⟩ = some (.int .i64 (f j).k) ∧ W.cell? ⟨b, off + j * 4 + 1, none⟩ = some (.int .i64 (f j).a) ∧ W.cell? ⟨b, off + j * 4 + 2, none⟩ = some (.int .i64 (f j).b) ∧ W.cell? ⟨b, off + j * 4 + 3, none⟩ = some (.int .i64 (f j).c)) (h0 : J [] W) :
    CallsIn F n Tryz.prog 197 #[.func (.yield l) #[] #[], .pointer (some ⟨Bs, 0, none⟩)] W fun e W' => (∃ v, e = .returned v) ∧
      ((∃ ys, ys = upto (fun j => ((len : Int) - 1 - j, f (len - 1 - j))) len ∧ J ys W') ∨ (∃ pre, (∃ k, k ≤ len ∧ pre = upto (fun j => ((len : Int) - 1 - j, f (len - 1 - j))) k) ∧ Jx pre W')) := by
  refine callsIn_of_wp Tryz.func197 rfl h7 ?_ hro
  simp only [Tryz.ntmps197, List.size_toArray, List.length_cons, List.length_nil, Nat.reduceAdd, Nat.reduceSub, Array.replicate_succ, Array.replicate_zero, List.push_toArray, List.append_toArray, List.nil_append, List.cons_append]
  have hBs0 := hBs.cell
  gi_wp2
  gi_loopw [3] (fun i wr => ∃ k : Nat, k ≤ len ∧ i = .int .i64 ((len : Int) - 1 - k) ∧ J (upto (fun j => ((len : Int) - 1 - j, f (len - 1 - j))) k) wr ∧ K2 n₀ Bs W wr)
    (fun i _ => (intOf i + 1).toNat)
  case atStart => exact ⟨0, Nat.zero_le _, by simp, h0, K2.refl _ _ _⟩
  case round =>
    obtain ⟨k, hk, rfl, hJs, hnx⟩ := hrel
    have hBs' := (hnx.2 _ hBs).cell
    by_cases hlt : k < len
    · obtain ⟨fn, tmps, assign, body, hy, hR⟩ := hY _ ((len : Int) - 1 - k, f (len - 1 - k)) wr hJs (by rw [upto_length]; exact hlt)
      dsimp only at hy
      obtain ⟨m, hm⟩ : ∃ m : Nat, len - 1 - k = m := ⟨_, rfl⟩
      have hm2 : (len : Int) - 1 - k = (m : Int) := by omega
      rw [hm2, hm] at hy
      obtain ⟨c0, c1, c2, c3⟩ := hc m (by omega)
      have c0 := (hnx.1.cell (p := ⟨b, off + m * 4, none⟩) hb).trans c0
      have c1 := (hnx.1.cell (p := ⟨b, off + m * 4 + 1, none⟩) hb).trans c1
      have c2 := (hnx.1.cell (p := ⟨b, off + m * 4 + 2, none⟩) hb).trans c2
      have c3 := (hnx.1.cell (p := ⟨b, off + m * 4 + 3, none⟩) hb).trans c3
      rw [hm2]
      gi_wp2
      refine hR.mono ?_
      rintro e W3 (⟨rfl, hJ3, hk3⟩ | ⟨rfl, hJx3⟩)
      · gi_wp2
        go_roundw
        case rel => exact ⟨k + 1, by omega, by simp; omega, by rw [upto_succ]; exact hJ3, hnx.trans hk3⟩
        case measure => simp [intOf]
      · gi_wp2
        refine bodyPost_ret (results_none rfl _ _ _) rfl ?_
        exact ⟨⟨_, rfl⟩, .inr ⟨_, ⟨k + 1, by omega, (upto_succ _ _).symm⟩, hJx3⟩⟩
    · obtain rfl : k = len := by omega
      rw [show (k : Int) - 1 - k = -1 by omega]
      gi_wp2
      go_end0
      exact ⟨⟨_, rfl⟩, .inl ⟨_, rfl, hJs⟩⟩
set_option maxRecDepth 100000 in
set_option maxHeartbeats 1000000 in
theorem bw1_nil_in (F : Fence) (n : Nat) (h7 : F.fn 197) (hro : F.round = none) (l Bs cap : Nat) (A : Option Addr) (J : List (Int × Gt) → World → Prop) (W : World) (hBs : W.cell? ⟨Bs, 0, none⟩ = some (.slice A 0 cap)) (h0 : J [] W) :
    CallsIn F n Tryz.prog 197 #[.func (.yield l) #[] #[], .pointer (some ⟨Bs, 0, none⟩)] W fun e W' => (∃ v, e = .returned v) ∧ J [] W' := by
  refine callsIn_of_wp Tryz.func197 rfl h7 ?_ hro
  simp only [Tryz.ntmps197, List.size_toArray, List.length_cons, List.length_nil, Nat.reduceAdd, Nat.reduceSub, Array.replicate_succ, Array.replicate_zero, List.push_toArray, List.append_toArray, List.nil_append, List.cons_append]
  gi_wp2
  gi_loopw [3] (fun i wr => i = .int .i64 (-1) ∧ J [] wr) (fun _ _ => 0)
  case atStart => exact ⟨rfl, h0⟩
  case round =>
    obtain ⟨rfl, hJs⟩ := hrel
    gi_wp2
    go_end0
    exact ⟨⟨_, rfl⟩, hJs⟩
set_option maxHeartbeats 1000000 in
theorem bw_in (F : Fence) (n : Nat) (h5 : F.fn 179) (hro : F.round = none) (a : Option Addr) (len cap : Nat) (w : World) :
    CallsIn F n Tryz.prog 179 #[.slice a len cap] w fun e w' => e = .returned (.func (.func 197) #[] #[.pointer (some ⟨w.heap.size, 0, none⟩)]) ∧ w' = w.alloc (.cells #[.slice a len cap] 23) := by
  refine callsIn_of_wp Tryz.func179 rfl h5 ?_ hro
  simp only [Tryz.ntmps179, List.size_toArray, List.length_cons, List.length_nil, Nat.reduceAdd, Nat.reduceSub, Array.replicate_succ, Array.replicate_zero, List.push_toArray, List.append_toArray, List.nil_append, List.cons_append]
  gi_wp2
  go_ret
  exact ⟨rfl, rfl⟩
def HoldsG (n₀ : Nat) (W : World) (sv : Value) (len : Nat) (f : Nat → Gt) : Prop :=
  (∃ A cap, sv = .slice A 0 cap ∧ len = 0) ∨ ∃ b off cap, sv = .slice (some ⟨b, off, none⟩) len cap ∧ b < n₀ ∧ ∀ j, j < len → W.cell? ⟨b, off + j * 4, none⟩ = some (.int .i64 (f j).k) ∧ W.cell? ⟨b, off + j * 4 + 1, none⟩ = some (.int .i64 (f j).a) ∧ W.cell? ⟨b, off + j * 4 + 2, none⟩ = some (.int .i64 (f j).b) ∧ W.cell? ⟨b, off + j * 4 + 3, none⟩ = some (.int .i64 (f j).c)
theorem HoldsG.below {n₀ : Nat} {A B : World} (h : Below n₀ A B) {sv : Value} {len : Nat} {f : Nat → Gt} : HoldsG n₀ A sv len f → HoldsG n₀ B sv len f
  | .inl e => .inl e
  | .inr ⟨b, off, cap, e, hb, hc⟩ => .inr ⟨b, off, cap, e, hb, fun j hj => by
    obtain ⟨c0, c1, c2, c3⟩ := hc j hj
    exact ⟨(h.cell (p := ⟨b, off + j * 4, none⟩) hb).trans c0, (h.cell (p := ⟨b, off + j * 4 + 1, none⟩) hb).trans c1, (h.cell (p := ⟨b, off + j * 4 + 2, none⟩) hb).trans c2, (h.cell (p := ⟨b, off + j * 4 + 3, none⟩) hb).trans c3⟩⟩
def bwL (len : Nat) (f : Nat → Gt) (k : Nat) : List (Int × Gt) := upto (fun j => ((len : Int) - 1 - j, f (len - 1 - j))) k
theorem bw_stops (F : Fence) (n : Nat) (h7 : F.fn 197) (hro : F.round = none) (hn : 1 ≤ n) (Bs n₀ : Nat) (sv : Value) (len : Nat) (f : Nat → Gt) (hreach : len * 32 ≤ 140737488351232) (w : World) (hBs : Bs < w.heap.size) (hn₀ : n₀ ≤ w.heap.size)
    (hc : Boxed w Bs 23 sv) (hI : HoldsG n₀ w sv len f) :
    SeqStopsK F n Tryz.prog 197 #[.pointer (some ⟨Bs, 0, none⟩)] (fun x : Int × Gt => #[.int .i64 x.1, gvl x.2]) (K2 n₀ Bs) (fun ys => ys = bwL len f len) (fun pre => ∃ k, k ≤ len ∧ pre = bwL len f k) len w := fun l J Jx W hW _ _ hY h0 => by
  have hc' : Boxed W Bs _ _ := (hW.block Bs hBs).trans hc
  rcases hI.below (hW.mono hn₀) with ⟨A, cap, rfl, rfl⟩ | ⟨b, off, cap, rfl, hb, hcs⟩
  · exact (bw1_nil_in F n h7 hro l Bs cap A J W hc'.cell h0).mono fun e W' ⟨he, hj⟩ => ⟨he, .inl ⟨_, rfl, hj⟩⟩
  · exact bw1_in F n h7 hro hn l Bs n₀ b off len cap f hreach hb J Jx hY W hc' hcs h0
theorem infoG : (Tryz.prog.info? 56).map (fun i => (i.zero, i.size, i.bytes)) = some (some (gvl ⟨0, 0, 0, 0⟩), 4, 32) := by kernel_rfl
theorem cells4_new (w : World) (k a b c : Value) (t : TypeId) : ∀ j u, [k, a, b, c][j]? = some u → (w.alloc (.cells #[k, a, b, c] t)).cell? ((⟨w.heap.size, 0, none⟩ : Addr).add j) = some u := by
  intro j u hj
  match j, hj with
  | 0, hj => simp at hj; subst hj; simp [Addr.add]
  | 1, hj => simp at hj; subst hj; simp [Addr.add]
  | 2, hj => simp at hj; subst hj; simp [Addr.add]
  | 3, hj => simp at hj; subst hj; simp [Addr.add]
  | j + 4, hj => simp at hj
theorem cells4_own {k a b c : Value} {t Bx : Nat} {X Y : World} {row : Option Nat} (h : X.heap[Bx]? = some (.cells #[k, a, b, c] t (0, 0))) (hg : X.grownBy Y row) (hr : ∀ r, row = some r → ∃ o : Obj, X.heap[r]? = some o ∧ o.isCells = false) : Y.heap[Bx]? = some (.cells #[k, a, b, c] t (0, 0)) :=
  (hg.block Bx (Array.getElem?_eq_some_iff.1 h).1 (fun e => by obtain ⟨o, h1, h2⟩ := hr Bx e.symm; rw [h] at h1; cases h1; cases h2)).trans h
set_option maxRecDepth 100000 in
set_option maxHeartbeats 2000000 in
theorem back_in (F : Fence) (n : Nat) (h3 : F.fn 155) (h4 : F.fn 179) (h5 : F.fn 197) (hro : F.round = none) (hn : 3 ≤ n) (A : Option Addr) (len cap : Nat) (f : Nat → Gt) (hlen : len ≤ 1000000) (w : World) (hL : HoldsG w.heap.size w (.slice A len cap) len f) :
    CallsIn F n Tryz.prog 155 #[.slice A len cap] w fun e W' => ∃ v, e = .returned v ∧ W'.ownsRow w.heap.size 56 4 v len (cV ((bwL len f len).map (·.2))) ∧ Below w.heap.size w W' := by
  have h1 : 1 ≤ n := by omega
  obtain ⟨i0, hi, hz0, hz1, hz2⟩ := info_parts infoG
  obtain ⟨M, hM⟩ : ∃ M, madeCells (gvl ⟨0, 0, 0, 0⟩).cells (len * i0.size) = M := ⟨_, rfl⟩
  have hmk : (Instr.makeSlice 23 (.int .i64 0) (.int .i64 len)).run Tryz.prog w = .ok (.slice (some ⟨w.heap.size, 0, none⟩) 0 len) (w.alloc (.cells M 56)) := by
    have := run_make (P := Tryz.prog) w 23 56 i0 (gvl ⟨0, 0, 0, 0⟩) Tryz.underlying23 hi hz0 .i64 .i64 0 (len : Nat) (by omega) (by omega) (by rw [hz2]; omega) (by omega)
    rw [← hM]
    simpa using this
  refine callsIn_of_wp_marks Tryz.func155 rfl h3 ?_ hro
  simp only [Tryz.ntmps155, List.size_toArray, List.length_cons, List.length_nil, Nat.reduceAdd, Nat.reduceSub, Array.replicate_succ, Array.replicate_zero, List.push_toArray, List.append_toArray, List.nil_append, List.cons_append]
  gi_wp2_with (gi_at_call 179; refine (bw_in F (n - 1) h4 hro _ _ _ _).mono ?_; rintro e w' ⟨rfl, rfl⟩)
  have bO := (Boxed.new (w.alloc (.cells M 56)) 23 (.slice (some ⟨w.heap.size, 0, none⟩) 0 len)).alloc (.cells #[.slice A len cap] 23)
  have bN := Boxed.new ((w.alloc (.cells M 56)).alloc (.cells #[.slice (some ⟨w.heap.size, 0, none⟩) 0 len] 23)) 23 (.slice A len cap)
  have bR : (((w.alloc (.cells M 56)).alloc (.cells #[.slice (some ⟨w.heap.size, 0, none⟩) 0 len] 23)).alloc (.cells #[.slice A len cap] 23)).ownsRow w.heap.size 56 4 (.slice (some ⟨w.heap.size, 0, none⟩) 0 len) 0 [] := World.ownsRow.alloc (World.ownsRow.alloc ⟨rfl, .inr ⟨_, len, M, rfl, Nat.le_refl _, World.alloc_heap_new w _, Nat.zero_le _, by simp [maxLen]; omega, by rw [← hM, size_madeCells, hz1], by simp⟩⟩ _) _
  have hB0 : Below w.heap.size w (((w.alloc (.cells M 56)).alloc (.cells #[.slice (some ⟨w.heap.size, 0, none⟩) 0 len] 23)).alloc (.cells #[.slice A len cap] 23)) := (((Below.refl _ w).alloc (Nat.le_refl _) _).alloc (by simp) _).alloc (by simp; omega) _
  simp only [World.size_alloc] at bO bN
  have hsz : (((w.alloc (.cells M 56)).alloc (.cells #[.slice (some ⟨w.heap.size, 0, none⟩) 0 len] 23)).alloc (.cells #[.slice A len cap] 23)).heap.size = w.heap.size + 3 := by simp
  obtain ⟨W0, hW0⟩ : ∃ W0, ((w.alloc (.cells M 56)).alloc (.cells #[.slice (some ⟨w.heap.size, 0, none⟩) 0 len] 23)).alloc (.cells #[.slice A len cap] 23) = W0 := ⟨_, rfl⟩
  rw [hW0] at bO bN bR hB0 hsz ⊢
  clear hW0
  refine wpIn_rangeFunc_ownH hro h1 (gf := 197) (lb := #[.pointer (some ⟨w.heap.size + 1 + 1, 0, none⟩)]) rfl h5 (Go.Proofs.enters_of Tryz.func197 (by kernel_rfl) rfl)
    (bw_stops F (n - 1) h5 hro (by omega) (w.heap.size + 1 + 1) w.heap.size _ len f (by omega) W0 (by omega) (by omega) bN (hL.below hB0)) K2_t (K2_b (by omega)) (Below.refl _ _) (fun _ => rfl)
    (fun pre W => ((∃ v, Boxed W (w.heap.size + 1) 23 v ∧ W.ownsRow w.heap.size 56 4 v pre.length (cV (pre.map (·.2))) ∧ True) ∧ Boxed W (w.heap.size + 1 + 1) 23 (.slice A len cap)) ∧ Below w.heap.size w W)
    (fun _ _ _ => False)
    (OwnFrom.and (OwnFrom.and (Own.from (holdsRow_own w.heap.size (w.heap.size + 1) 23 56 4 (fun (pre : List (Int × Gt)) => pre.length) (fun pre => cV (pre.map (·.2))) (fun _ _ => True)) _) (Own.from (boxed_own _ _ _) _)) (ownFrom_below (Nat.le_refl _) (by omega)))
    (fun _ _ _ _ _ hs _ _ => hs)
    ⟨⟨⟨_, bO, bR, trivial⟩, bN⟩, hB0⟩
    (fun x a' W => ∃ Bx, w.heap.size + 1 + 1 < Bx ∧ W.heap[Bx]? = some (.cells #[.int .i64 x.2.k, .int .i64 x.2.a, .int .i64 x.2.b, .int .i64 x.2.c] 56 (0, 0)) ∧ a' = { tmps := #[.slice A len cap, undef, .slice none 0 0, .pointer (some ⟨w.heap.size + 1, 0, none⟩), undef, .pointer (some ⟨Bx, 0, none⟩), .slice A len cap, .int .i64 len, .slice (some ⟨w.heap.size, 0, none⟩) 0 len, .slice A len cap, .func (.func 197) #[] #[.pointer (some ⟨w.heap.size + 1 + 1, 0, none⟩)], .int .i64 x.1, gvl x.2, undef, undef, undef, undef, undef], defers := [] })
    (fun x a' _ X Y row hs hg hr => by obtain ⟨Bx, h1, h2, h3⟩ := hs; exact ⟨Bx, h1, cells4_own h2 hg (fun r e => (hr r e).2), h3⟩)
    ?assign ?body ?done ?stop
  case assign =>
    rintro l pre x W K ⟨⟨⟨v, bO1, bR1, _⟩, bN1⟩, hB1⟩ hK
    gi_wp2
    have hkb : ∀ v, Boxed W (w.heap.size + 1 + 1) 23 v → Boxed (W.alloc (.cells #[.int .i64 x.2.k, .int .i64 x.2.a, .int .i64 x.2.b, .int .i64 x.2.c] 56)) (w.heap.size + 1 + 1) 23 v := fun v b => b.alloc _
    exact hK _ _ ((KeepsOthers.alloc _ _).from _) ⟨(Below.refl _ W).alloc hB1.size _, hkb⟩ ⟨⟨⟨_, bO1.alloc _, bR1.alloc _, trivial⟩, hkb _ bN1⟩, hB1.alloc hB1.size _⟩ ⟨W.heap.size, bN1.lt, World.alloc_heap_new W _, rfl⟩
  case body =>
    rintro l pre x a' W hl ⟨r, hr⟩ ⟨⟨⟨v, bO1, bR1, _⟩, bN1⟩, hB1⟩ ⟨Bx, hBx, bX, rfl⟩ hlt
    have cO := bO1.cell
    have c0 : W.cell? ⟨Bx, 0, none⟩ = some (.int .i64 x.2.k) := by simp [World.cell?, bX]
    have c1 : W.cell? ⟨Bx, 1, none⟩ = some (.int .i64 x.2.a) := by simp [World.cell?, bX]
    have c2 : W.cell? ⟨Bx, 2, none⟩ = some (.int .i64 x.2.b) := by simp [World.cell?, bX]
    have c3 : W.cell? ⟨Bx, 3, none⟩ = some (.int .i64 x.2.c) := by simp [World.cell?, bX]
    gi_wp2_with (gi_at_builtin; refine wpListIn_append_own _ rfl _ _ 23 rfl w.heap.size 56 i0 (gvl ⟨0, 0, 0, 0⟩) 4 32 Tryz.underlying23 hi hz0 hz1 hz2 rfl (by decide) _ _ _ rfl (bR1.alloc _) ⟨W.heap.size, 0, none⟩ 1 1 [.int .i64 x.2.k, .int .i64 x.2.a, .int .i64 x.2.b, .int .i64 x.2.c] rfl rfl (cells4_new _ _ _ _ _ _) (by simp [Value.oneCell']) (by simp [maxLen]; omega) (by omega) (by have := hB1.size; simp; omega) ?_; intro v' w1 hown' hgrow _; obtain ⟨g', cap', rfl⟩ := ownsRow_succ hown'; obtain ⟨hv1, hv2, hr2, hk2, hb2⟩ := bO1.appended (by decide) bR1 hB1.size (by omega) hown' hgrow; have hc1 := hv1.cell; have hf1 := hv1.frozen)
    have hbk : ∀ v, Boxed W (w.heap.size + 1 + 1) 23 v → Boxed (w1.setCell ⟨w.heap.size + 1, 0, none⟩ (.slice (some ⟨g', 0, none⟩) (pre.length + 1) cap')) (w.heap.size + 1 + 1) 23 v := fun v b => ((b.alloc _).kept hgrow (b.not_row (by decide) bR1)).other (by omega) _
    exact ⟨hk2.from _, ⟨hb2, hbk⟩, ⟨⟨_, hv2, by simp only [List.map_append, List.length_append, ← cV_append]; exact hr2, trivial⟩, hbk _ bN1⟩, hB1.trans hb2⟩
  case done =>
    rintro D zs W hD rfl ⟨⟨⟨v, bO1, bR1, _⟩, bN1⟩, hB1⟩ hK
    have cO := bO1.cell
    gi_wp2
    refine ⟨by simp, .inl ⟨_, _, rfl, run_takeDeferred hK, ?_⟩⟩
    refine ⟨_, results_tmp rfl _ _ _, v, rfl, ?_, hB1.trans (belowK_b (w := w) (Nat.le_refl _) W D _ _ (by omega) hK rfl rfl)⟩
    have := ownsRow_putObj bR1 (.deferred none) hK rfl
    rwa [show (bwL len f len).length = len from upto_length _ _] at this
  case stop =>
    rintro D c pre W _ _ h _
    exact h.elim
theorem kon_fresh {P : Program} {f : FuncId} {e : TypeId} {l r : List Gt} (hent : ∀ args w, (callFunc f args).run P w = .ok (.enter f args) w)
    (h : ∀ (w : World) (ok : Nat → Prop) (y : Value), (∀ b, ok b → b < w.heap.size) → RoRep w ok 4 l.length (cV l) y → Calls P f #[y] w fun en W' => ∃ v, en = .returned v ∧ W'.ownsRow w.heap.size e 4 v r.length (cV r) ∧ Below w.heap.size w W') :
    Kon P f [roA l] [] (slA 0 0 r) [rwE e r] [] := by
  refine ⟨cOf (fun _ : Unit => ([roA l], [])) (fun _ => (slA 0 0 r, [rwE e r], [])), ⟨hent, ?_⟩, cOf_at (A := fun _ : Unit => ([roA l], [])) (R := fun _ => (slA 0 0 r, [rwE e r], [])) (fun _ _ _ => rfl) ()⟩
  intro aa es out news es' hC w vs β N hN hs hvs
  obtain ⟨_, rfl, rfl, rfl, rfl, rfl⟩ := cOf_some hC
  have hv := (hs.env 0 (roA l) rfl).2
  obtain ⟨y, rfl⟩ : ∃ y, vs = #[y] := by
    obtain ⟨xs⟩ := vs
    match xs, hvs with
    | [y], _ => exact ⟨y, rfl⟩
  refine (h w _ y (fun b hb => hb.1) hv).mono ?_
  rintro en W' ⟨v, rfl, hown, hB⟩
  have hblk : ∀ b, blk? v = some b → b < W'.heap.size ∧ w.heap.size ≤ b := by
    intro b hb
    rcases hown.2 with ⟨rfl, _⟩ | ⟨g, cap, cur, rfl, hg, hgb, _⟩
    · cases hb
    · cases hb
      exact ⟨(Array.getElem?_eq_some_iff.1 hgb).1, hg⟩
  have hG : ∀ {i r1 e1}, Gout [rwE e r] [] i = some (r1, e1) → i = 0 ∧ r1 = 0 ∧ e1 = rwE e r := by
    intro i r1 e1 hi
    unfold Gout at hi
    split at hi
    · simp at hi
    · match i, hi with
      | 0, hi => simp at hi; exact ⟨rfl, hi.1.symm, hi.2.symm⟩
      | i + 1, hi => simp at hi
  obtain ⟨hown1, hown2⟩ := hown
  have hsl : ∃ A c, v = .slice A r.length c := by
    rcases hown2 with ⟨rfl, h0⟩ | ⟨g, cap, cur, rfl, _⟩
    · rw [h0]; exact ⟨_, _, rfl⟩
    · exact ⟨_, _, rfl⟩
  obtain ⟨A, c, rfl⟩ := hsl
  refine ⟨_, fun _ => .slice A r.length c, rfl, ?_, ?_, rfl, rfl, ?_⟩
  · refine { os := hB.os, tape := hB.tape, output := hB.output, glo := hs.glo, size := hB.size, block := fun k hk _ => hB.block k hk, ents := ?_, apart := ?_, fresh := ?_, pin := ?_, wide := rfl, env := ?_ }
    · intro i r1 e1 hi
      obtain ⟨rfl, rfl, rfl⟩ := hG hi
      refine ⟨?_, e, r.length, fun x hx => by cases hx; rfl, hown1, ?_⟩
      · exact cV_one r
      · exact hown2.imp id fun ⟨g, cap, cur, h1, h2, h3, h4, h5, h6, h7⟩ => ⟨g, cap, cur, h1, Nat.zero_le _, h3, h4, h5, Nat.le_of_eq h6.symm, h7⟩
    · intro i j r1 e1 r2 e2 b hi _ hj _ _ _
      rw [(hG hi).1, (hG hj).1]
    · intro i r1 e1 b hi _ hb
      exact ⟨(hblk b hb).1, .inl (hblk b hb).2⟩
    · intro i e1 hi hg
      have := (hG hg).1
      omega
    · intro i a hi; cases hi
  · exact ⟨rfl, 0, rwE e r, rfl, Nat.le_refl _, fun _ => ⟨A, _, c, rfl, Nat.le_refl _, rfl⟩⟩
  · intro p hp
    simp [AV.refs, AG.refs, AC.refs] at hp
    subst hp
    exact ⟨_, rfl⟩
theorem bwL_rev (l : List Gt) : (bwL l.length (fun j => l.getD j Cel.no) l.length).map (·.2) = l.reverse := by
  apply List.ext_getElem
  · simp [bwL, upto_length]
  · intro i h1 h2
    have hi : i < l.length := by simpa using h2
    have h3 : l.length - 1 - i < l.length := by omega
    simp [bwL, upto, List.getElem_reverse, List.getD_eq_getElem?_getD, h3]
theorem k_backwards (l : List Gt) (hl : l.length ≤ 1000000) : Kon Tryz.prog 155 [roA l] [] (slA 0 0 l.reverse) [gRow l.reverse] [] := by
  refine kon_fresh (Go.Proofs.enters_of Tryz.func155 (by kernel_rfl) rfl) ?_
  rintro w ok y hok ⟨⟨hn, hone⟩, A, c, rfl, hc1, hc2, hcs⟩
  have hL : HoldsG w.heap.size w (.slice A l.length c) l.length (fun j => l.getD j Cel.no) := by
    rcases Nat.eq_zero_or_pos l.length with h0 | h0
    · exact .inl ⟨A, c, by rw [h0], h0⟩
    · obtain ⟨b, off, rfl, hb, hcell⟩ := hcs h0
      refine .inr ⟨b, off, c, rfl, hok b hb, fun j hj => ?_⟩
      have hx : ∀ (o : Nat) (v : Value), (Cel.f (l.getD j (Cel.no : Gt)))[o]? = some v → w.cell? ⟨b, off + j * 4 + o, none⟩ = some v := fun o v hv => by
        have := hcell _ _ (cV_cell hj hv)
        rwa [← Nat.add_assoc] at this
      exact ⟨hx 0 _ rfl, hx 1 _ rfl, hx 2 _ rfl, hx 3 _ rfl⟩
  refine (callsIn_wide.1 (back_in Fence.wide 3 trivial trivial trivial rfl (Nat.le_refl _) A l.length c _ hl w hL)).mono ?_
  rintro en W' ⟨v, rfl, hown, hB⟩
  rw [bwL_rev] at hown
  exact ⟨v, rfl, by rw [List.length_reverse]; exact hown, hB⟩
end Go.Proofs.YtnenhckongccgaaGreatDoor
