/- KGJ, EQ, KGR, PTC0, PD, KRA, KRC, PI, KGS, KBA, LI, DR, ShlB, LJ: laid into one text. -/
import Derived.Test.YtnenhckongccgaaGreatDoorQHE
import Derived.Test.YtnenhckongccgaaGreatDoorQHF
import Derived.Test.YtnenhckongccgaaGreatDoorQHI
import Derived.Test.YtnenhckongccgaaGreatDoorQHJ
import Derived.Test.YtnenhckongccgaaGreatDoorQHK
import Derived.Test.YtnenhckongccgaaGreatDoorQHM
import Derived.ChangeKeysEq
import Derived.Shelf.Lays
import Derived.Shelf.LaysC
import Derived.Shelf.Strconv.AtoiAll
import Derived.Shelf.Strings.Split
import Derived.Test.YtnenhckongccgaaGreatDoorProg
import Derived.Lib.AtoiErrMem

namespace Go.Proofs.YtnenhckongccgaaGreatDoor
set_option linter.unusedVariables false
set_option linter.unusedSimpArgs false
set_option maxRecDepth 20000
open Go.RowKit
attribute [local irreducible] runA runX AW
theorem gq_KGJ {H G : Prop} (k : H) (h : Hid H → G := by (intro hh; repeat1' (first | (first | (refine nxA ?_; (first | fail | ((first | (refine z_op (by rfl) ?_; first | refine z_ok ?_ ?_ | refine z_ex ?_ (by first | exact zL1 | ((first | fail); exact zWW) | exact zL2 | fail | exact zL3 | fail) ?_) | ((first | refine q_callE wsT wsZ (by rfl) ?_ | refine q_callVE wsT (by rfl) (by rfl) ?_); refine ⟨_, _, _, (by first | assumption | exact k_okL _ | exact k_l1In _ _ _ | exact k_wvS2 _ _ | exact k_wv _ _ | exact k_gv _ _ | exact k_gvS _ _ (by omega) | exact k_cv1 _ _ | exact k_idxV _ _ (by omega) | exact k_contV _ _ (by omega) | exact k_cv _ _ (by omega) | exact k_cvS _ _ (by omega) (by omega)), _, by rfl, ?_, ?_⟩)); focus (first | exact trivial | fail | exact zQZ)) | fail)) | refine swA ?_) | refine awA ?_); exact hh.out)) : G := h ⟨k⟩
abbrev capA : AV := .g (.one (.fn 108 [(100000, 0)]))
abbrev boxI (n : Int) : Ent := .rbx [.v (.int .i64 n)]
theorem k_cv1 (n : Int) (g : Gt) : Kon Tryz.prog 108 [gV g, .g (.one (.ptr 100000 0 0))] [boxI n] (vB (!(gok n g))) [] [boxI n] := by
  (refine kM Tryz.func108 rfl ?_; intro hfit hfe)
  (repeat (first | refine gq_KGJ ?_ | (refine ga0A ?_; intro _hq)))
  (refine rtA ?_; try rfl)
def badI (n : Int) : List Gt → Nat → Int
  | [], _ => -1
  | g :: l, i => if gok n g = true then badI n l (i + 1) else (i : Int)
theorem badI_all {n : Int} : ∀ (l : List Gt) (i : Nat), decide (badI n l i ≥ 0) = !(l.all (gok n))
  | [], i => rfl
  | g :: l, i => by
    cases h : gok n g with
    | true => simp only [badI, h, if_true, List.all_cons, Bool.true_and]; exact badI_all l (i + 1)
    | false => simp [badI, h]
theorem badI_drop {n : Int} {l : List Gt} {i : Nat} (hi : i < l.length) : badI n (l.drop i) i = if gok n (l.getD i Cel.no) = true then badI n (l.drop (i + 1)) (i + 1) else (i : Int) := by
  have e : l.getD i Cel.no = l[i] := by simp [List.getD_eq_getElem?_getD, hi]
  rw [List.drop_eq_getElem_cons hi, e]; rfl
theorem k_idxV (n : Int) (l : List Gt) (h : l.length ≤ 100000000) : Kon Tryz.prog 147 [roA l, capA] [boxI n] (vI (badI n l 0)) [] [boxI n] := by
  (refine kM Tryz.func147 rfl ?_; intro hfit hfe)
  (repeat (first | refine gq_KGJ ?_ | (refine ga0A ?_; intro _hq)))
  (refine aw_rd [0, 1, 7] [100000] (fun i : Nat => [(8, vI i)]) (fun _ => []) (fun i => i ≤ l.length ∧ badI n (l.drop i) i = badI n l 0) (fun i => l.length - i) 0 (by rfl) (by rfl) ?_ (by rfl) zHE zHE ?_)
  · exact ⟨Nat.zero_le _, by rw [List.drop_zero]⟩
  rintro i ⟨hi, hz⟩
  rcases Nat.lt_or_ge i l.length with h6 | h6
  · have hd : decide ((i : Int) < (l.length : Int)) = true := by simpa using h6
    rw [badI_drop h6] at hz
    have hK := k_cv1 n (l.getD (i : Int).toNat Cel.no)
    replace hz : (if gok n (l.getD (i : Int).toNat Cel.no) = true then badI n (l.drop (i + 1)) (i + 1) else (i : Int)) = badI n l 0 := hz
    cases hb : gok n (l.getD (i : Int).toNat Cel.no) with
    | false =>
      rw [hb, if_neg (by decide)] at hz
      rw [hb] at hK
      rw [← hz]
      clear hz
      (repeat (first | refine gq_KGJ ?_ | (refine ga0A ?_; intro _hq)))
      (refine rtA ?_; try rfl)
    | true =>
      rw [hb, if_pos rfl] at hz
      rw [hb] at hK
      have hinv : i + 1 ≤ l.length ∧ badI n (l.drop (i + 1)) (i + 1) = badI n l 0 := ⟨h6, hz⟩
      clear hz
      (repeat (first | refine gq_KGJ ?_ | (refine ga0A ?_; intro _hq)))
      exact ⟨i + 1, hinv, ⟨by rfl, zHE, zHE⟩, (by first | omega | (dsimp only; omega))⟩
  · have hd : decide ((i : Int) < (l.length : Int)) = false := by simp; omega
    rw [List.drop_of_length_le h6, badI] at hz
    rw [← hz]
    clear hz
    (repeat (first | refine gq_KGJ ?_ | (refine ga0A ?_; intro _hq)))
    (refine rtA ?_; try rfl)
theorem k_contV (n : Int) (l : List Gt) (h : l.length ≤ 100000000) : Kon Tryz.prog 107 [roA l, capA] [boxI n] (vB (!(l.all (gok n)))) [] [boxI n] := by
  rw [← badI_all l 0]
  (refine kM Tryz.func107 rfl ?_; intro hfit hfe)
  (repeat (first | refine gq_KGJ ?_ | (refine ga0A ?_; intro _hq)))
  (refine rtA ?_; try rfl)
def cokB (n : Int) (l : List Gt) : Bool := btw n 1 8 && (decide ((l.length : Int) ≤ 24) && l.all (gok n))
theorem k_cv (n : Int) (l : List Gt) (h : l.length ≤ 100000000) : Kon Tryz.prog 61 [vI n, roA l] [] (vB (cokB n l)) [] [] := by
  unfold cokB
  cases h1 : btw n 1 8 with
  | false =>
    (refine kM Tryz.func61 rfl ?_; intro hfit hfe)
    (repeat (first | refine gq_KGJ ?_ | (refine ga0A ?_; intro _hq)))
    (refine rtA ?_; try rfl)
  | true =>
    cases h2 : decide ((l.length : Int) ≤ 24) with
    | false =>
      (refine kM Tryz.func61 rfl ?_; intro hfit hfe)
      (repeat (first | refine gq_KGJ ?_ | (refine ga0A ?_; intro _hq)))
      (refine rtA ?_; try rfl)
    | true =>
      (refine kM Tryz.func61 rfl ?_; intro hfit hfe)
      (repeat (first | refine gq_KGJ ?_ | (refine ga0A ?_; intro _hq)))
      (refine rtA ?_; try rfl)
      rw [Bool.not_not]; rfl
theorem all_drop {p : Gt → Bool} {l : List Gt} {i : Nat} (hi : i < l.length) : (l.drop i).all p = (p (l.getD i Cel.no) && (l.drop (i + 1)).all p) := by
  have e : l.getD i Cel.no = l[i] := by simp [List.getD_eq_getElem?_getD, hi]
  rw [List.drop_eq_getElem_cons hi, e, List.all_cons]
theorem k_cvS (n : Int) (l : List Gt) (h : l.length ≤ 100000000) (hr : -9223372036854775808 ≤ n ∧ n ≤ 9223372036854775807) : Kon Tryz.prog 56 [vI n, roA l] [] (vB (cokB n l)) [] [] := by
  have e : cokB n l = (l.all (gok n) && (btw n 1 8 && decide ((l.length : Int) ≤ 24))) := by
    unfold cokB; cases btw n 1 8 <;> cases decide ((l.length : Int) ≤ 24) <;> cases l.all (gok n) <;> rfl
  rw [e]
  clear e
  (refine kM Tryz.func56 rfl ?_; intro hfit hfe)
  (repeat (first | refine gq_KGJ ?_ | (refine ga0A ?_; intro _hq)))
  (refine aw_rd [0, 1] [] (fun i : Nat => [(5, vI i)]) (fun _ => []) (fun i => i ≤ l.length ∧ (l.drop i).all (gok n) = l.all (gok n)) (fun i => l.length - i) 0 (by rfl) (by rfl) ?_ (by rfl) zHE zHE ?_)
  · exact ⟨Nat.zero_le _, by rw [List.drop_zero]⟩
  rintro i ⟨hi, hz⟩
  rcases Nat.lt_or_ge i l.length with h6 | h6
  · have hd : decide ((i : Int) < (l.length : Int)) = true := by simpa using h6
    rw [all_drop h6] at hz
    have hK := k_gvS n (l.getD (i : Int).toNat Cel.no) hr
    replace hz : (gok n (l.getD (i : Int).toNat Cel.no) && (l.drop (i + 1)).all (gok n)) = l.all (gok n) := hz
    cases hb : gok n (l.getD (i : Int).toNat Cel.no) with
    | false =>
      rw [hb, Bool.false_and] at hz
      rw [hb] at hK
      rw [← hz, Bool.false_and]
      clear hz
      (repeat (first | refine gq_KGJ ?_ | (refine ga0A ?_; intro _hq)))
      (refine rtA ?_; try rfl)
    | true =>
      rw [hb, Bool.true_and] at hz
      rw [hb] at hK
      have hinv : i + 1 ≤ l.length ∧ (l.drop (i + 1)).all (gok n) = l.all (gok n) := ⟨h6, hz⟩
      clear hz
      (repeat (first | refine gq_KGJ ?_ | (refine ga0A ?_; intro _hq)))
      exact ⟨i + 1, hinv, ⟨by rfl, zHE, zHE⟩, (by first | omega | (dsimp only; omega))⟩
  · have hd : decide ((i : Int) < (l.length : Int)) = false := by simp; omega
    rw [List.drop_of_length_le h6, List.all_nil] at hz
    rw [← hz, Bool.true_and]
    clear hz
    cases hn : btw n 1 8
    all_goals
      (repeat (first | refine gq_KGJ ?_ | (refine ga0A ?_; intro _hq)))
      (refine rtA ?_; try rfl)
theorem cr_drop {l : List Gt} {i : Nat} {w : Int} (hi : i < l.length) : cr (l.drop i) w = cr (l.drop (i + 1)) (gr (l.getD i Cel.no) w) := by
  have e : l.getD i Cel.no = l[i] := by simp [List.getD_eq_getElem?_getD, hi]
  rw [List.drop_eq_getElem_cons hi, e, cr_cons]
theorem all_at {p : Gt → Bool} {l : List Gt} (h : l.all p = true) {i : Nat} (hi : i < l.length) : p (l.getD i Cel.no) = true := by
  have e : l.getD i Cel.no = l[i] := by simp [List.getD_eq_getElem?_getD, hi]
  rw [e]; exact List.all_eq_true.1 h _ (List.getElem_mem hi)
theorem k_runAll (n : Int) (l : List Gt) (w : Int) (h : l.all (gok n) = true) (hl : l.length ≤ 100000000) (hw : wvB n w = true) : Kon Tryz.prog 63 [roA l, vI w] [] (vI (cr l w)) [] [] := by
  have hv := wvB_t hw
  (refine kM Tryz.func63 rfl ?_; intro hfit hfe)
  (repeat (first | refine gq_KGJ ?_ | (refine ga0A ?_; intro _hq)))
  (refine aw_rd [7, 8] [] (fun g : Nat × Int => [(9, vI g.1), (1, vI g.2)]) (fun _ => []) (fun g => g.1 ≤ l.length ∧ (0 ≤ g.2 ∧ g.2 < 2 ^ n.toNat) ∧ cr (l.drop g.1) g.2 = cr l w) (fun g => l.length - g.1) (0, w) (by rfl) (by rfl) ?_ (by rfl) zHE zHE ?_)
  · exact ⟨Nat.zero_le _, ⟨hv.2.1, hv.2.2.1⟩, by rw [List.drop_zero]⟩
  rintro ⟨i, v⟩ ⟨hi, hv2, hz⟩
  dsimp only at hi hv2 hz ⊢
  have h8 := pow_8 hv.1
  rcases Nat.lt_or_ge i l.length with h6 | h6
  · have hd : decide ((i : Int) < (l.length : Int)) = true := by simpa using h6
    rw [cr_drop h6] at hz
    have hg := all_at h h6
    have hK : Kon Tryz.prog 110 [gV (l.getD (i : Int).toNat Cel.no), vI v] [] (vI (gr (l.getD i Cel.no) v)) [] [] := k_run n (l.getD i Cel.no) v hg (by omega)
    have hinv : i + 1 ≤ l.length ∧ (0 ≤ gr (l.getD i Cel.no) v ∧ gr (l.getD i Cel.no) v < 2 ^ n.toNat) ∧ cr (l.drop (i + 1)) (gr (l.getD i Cel.no) v) = cr l w := ⟨h6, gr_lt hg hv2, hz⟩
    clear hz
    (repeat (first | refine gq_KGJ ?_ | (refine ga0A ?_; intro _hq)))
    exact ⟨(i + 1, gr (l.getD i Cel.no) v), hinv, ⟨by rfl, zHE, zHE⟩, (by first | omega | (dsimp only; omega))⟩
  · have hd : decide ((i : Int) < (l.length : Int)) = false := by simp; omega
    rw [List.drop_of_length_le h6] at hz
    rw [← hz]
    clear hz
    (repeat (first | refine gq_KGJ ?_ | (refine ga0A ?_; intro _hq)))
    (refine rtA ?_; try rfl)
theorem k_l2Run (n : Int) (l : List Gt) (w : Int) (h : l.all (gok n) = true) (hl : l.length ≤ 100000000) (hw : wvB n w = true) : Kon Tryz.prog 105 [vI n, roA l, vI w] [] (vI (cr l w)) [] [] := by
  have hv := wvB_t hw
  (refine kM Tryz.func105 rfl ?_; intro hfit hfe)
  (repeat (first | refine gq_KGJ ?_ | (refine ga0A ?_; intro _hq)))
  (refine aw_rd [0, 1] [] (fun g : Nat × Int => [(7, vI g.1), (2, vI g.2)]) (fun _ => []) (fun g => g.1 ≤ l.length ∧ (0 ≤ g.2 ∧ g.2 < 2 ^ n.toNat) ∧ cr (l.drop g.1) g.2 = cr l w) (fun g => l.length - g.1) (0, w) (by rfl) (by rfl) ?_ (by rfl) zHE zHE ?_)
  · exact ⟨Nat.zero_le _, ⟨hv.2.1, hv.2.2.1⟩, by rw [List.drop_zero]⟩
  rintro ⟨i, v⟩ ⟨hi, hv2, hz⟩
  dsimp only at hi hv2 hz ⊢
  rcases Nat.lt_or_ge i l.length with h6 | h6
  · have hd : decide ((i : Int) < (l.length : Int)) = true := by simpa using h6
    rw [cr_drop h6] at hz
    have hg := all_at h h6
    have hwv : wvB n v = true := by
      unfold wvB btw
      rw [decide_eq_true hv.1.1, decide_eq_true hv.1.2, decide_eq_true hv2.1, decide_eq_true (by omega)]; rfl
    have hK : Kon Tryz.prog 97 [vI n, gV (l.getD (i : Int).toNat Cel.no), vI v] [] (vI (gr (l.getD i Cel.no) v)) [] [] := k_grS1 n (l.getD i Cel.no) v hg hwv
    have hinv : i + 1 ≤ l.length ∧ (0 ≤ gr (l.getD i Cel.no) v ∧ gr (l.getD i Cel.no) v < 2 ^ n.toNat) ∧ cr (l.drop (i + 1)) (gr (l.getD i Cel.no) v) = cr l w := ⟨h6, gr_lt hg hv2, hz⟩
    clear hz
    (repeat (first | refine gq_KGJ ?_ | (refine ga0A ?_; intro _hq)))
    exact ⟨(i + 1, gr (l.getD i Cel.no) v), hinv, ⟨by rfl, zHE, zHE⟩, (by first | omega | (dsimp only; omega))⟩
  · have hd : decide ((i : Int) < (l.length : Int)) = false := by simp; omega
    rw [List.drop_of_length_le h6] at hz
    rw [← hz]
    clear hz
    (repeat (first | refine gq_KGJ ?_ | (refine ga0A ?_; intro _hq)))
    (refine rtA ?_; try rfl)
def crM (n : Int) (l : List Gt) (w : Int) : Int := if cokB n l && wvB n w then cr l w else -1
theorem cokB_t {n : Int} {l : List Gt} (h : cokB n l = true) : (1 ≤ n ∧ n ≤ 8) ∧ l.length ≤ 24 ∧ l.all (gok n) = true := by
  unfold cokB at h
  simp only [Bool.and_eq_true, decide_eq_true_eq] at h
  exact ⟨btw_t h.1, by omega, h.2.2⟩
theorem k_crunS (n : Int) (l : List Gt) (w : Int) (hl : l.length ≤ 100000000) (hr : -9223372036854775808 ≤ n ∧ n ≤ 9223372036854775807) : Kon Tryz.prog 59 [vI n, roA l, vI w] [] (vI (crM n l w)) [] [] := by
  unfold crM
  cases h1 : cokB n l with
  | false =>
    (refine kM Tryz.func59 rfl ?_; intro hfit hfe)
    (repeat (first | refine gq_KGJ ?_ | (refine ga0A ?_; intro _hq)))
    (refine rtA ?_; try rfl)
  | true =>
    cases h2 : wvB n w with
    | false =>
      (refine kM Tryz.func59 rfl ?_; intro hfit hfe)
      (repeat (first | refine gq_KGJ ?_ | (refine ga0A ?_; intro _hq)))
      (refine rtA ?_; try rfl)
    | true =>
      have hc := cokB_t h1
      have hK := k_l2Run n l w hc.2.2 hl h2
      (refine kM Tryz.func59 rfl ?_; intro hfit hfe)
      (repeat (first | refine gq_KGJ ?_ | (refine ga0A ?_; intro _hq)))
      (refine rtA ?_; try rfl)
end Go.Proofs.YtnenhckongccgaaGreatDoor
namespace Go.Proofs.YtnenhckongccgaaGreatDoor
set_option linter.unusedVariables false
set_option linter.unusedSimpArgs false
set_option maxRecDepth 20000
open Go.RowKit
def chk4 (ti : TypeId) : List Field → Bool
  | [f, f', f'', f3] => (f.name != "_") && (f.type == ti) && (f.offset == 0) && ((f'.name != "_") && (f'.type == ti) && (f'.offset == 1)) && ((f''.name != "_") && (f''.type == ti) && (f''.offset == 2)) && ((f3.name != "_") && (f3.type == ti) && (f3.offset == 3))
  | _ => false
theorem equal_gate (k a b c k' a' b' c' : Int) (w : World) : (Op.equalIn 10000 56 (.agg #[.int .i64 k, .int .i64 a, .int .i64 b, .int .i64 c]) (.agg #[.int .i64 k', .int .i64 a', .int .i64 b', .int .i64 c'])).run Tryz.prog w = .ok (k == k' && (a == a' && (b == b' && c == c'))) w := by
  rw [run_equalIn_agg (ht := by kernel_rfl) (hp := by kernel_rfl)]
  have hc : chk4 3 (Tryz.prog.fieldsOf 56).toList = true := by kernel_rfl
  have hi : Tryz.prog.underlying 3 = some (.int .i64) := by kernel_rfl
  have hz : ∀ (xs : Array Value) (k : Nat) (v : Value) (w : World), xs[k]? = some v → (part 3 xs k).run Tryz.prog w = .ok v w := fun xs k v w h => run_part_plain w (by kernel_rfl) h
  have z0 := fun w => hz #[.int .i64 k, .int .i64 a, .int .i64 b, .int .i64 c] 0 _ w rfl
  have y0 := fun w => hz #[.int .i64 k', .int .i64 a', .int .i64 b', .int .i64 c'] 0 _ w rfl
  have z1 := fun w => hz #[.int .i64 k, .int .i64 a, .int .i64 b, .int .i64 c] 1 _ w rfl
  have y1 := fun w => hz #[.int .i64 k', .int .i64 a', .int .i64 b', .int .i64 c'] 1 _ w rfl
  have z2 := fun w => hz #[.int .i64 k, .int .i64 a, .int .i64 b, .int .i64 c] 2 _ w rfl
  have y2 := fun w => hz #[.int .i64 k', .int .i64 a', .int .i64 b', .int .i64 c'] 2 _ w rfl
  have z3 := fun w => hz #[.int .i64 k, .int .i64 a, .int .i64 b, .int .i64 c] 3 _ w rfl
  have y3 := fun w => hz #[.int .i64 k', .int .i64 a', .int .i64 b', .int .i64 c'] 3 _ w rfl
  have e : ∀ (x y : Int) w, (Op.equalIn 9999 3 (.int .i64 x) (.int .i64 y)).run Tryz.prog w = .ok (x == y) w := fun x y w => run_equalIn_int (P := Tryz.prog) w 9998 3 .i64 .i64 x y hi
  clear hz
  generalize (Tryz.prog.fieldsOf 56).toList = fs at hc ⊢
  unfold chk4 at hc
  split at hc
  · rename_i f f' f'' f3
    simp only [Bool.and_eq_true, bne_iff_ne, beq_iff_eq] at hc
    obtain ⟨⟨⟨⟨⟨h1, h2⟩, h3⟩, ⟨⟨h4, h5⟩, h6⟩⟩, ⟨⟨h7, h8⟩, h9⟩⟩, ⟨⟨g1, g2⟩, g3⟩⟩ := hc
    simp only [Op.eqFields, h1, h2, h3, h4, h5, h6, h7, h8, h9, g1, g2, g3, if_true, ne_eq, not_false_eq_true, Sem.run_bind, z0, y0, Result.andThen_ok]
    erw [e k k' w]
    cases (k == k')
    · rfl
    simp only [Result.andThen_ok, Bool.not_true, Bool.false_eq_true, if_false, Sem.run_bind, z1, y1]
    erw [e a a' w]
    cases (a == a')
    · rfl
    simp only [Result.andThen_ok, Bool.not_true, Bool.false_eq_true, if_false, Sem.run_bind, z2, y2]
    erw [e b b' w]
    cases (b == b')
    · rfl
    simp only [Result.andThen_ok, Bool.not_true, Bool.false_eq_true, if_false, Sem.run_bind, z3, y3]
    erw [e c c' w]
    cases (c == c') <;> rfl
  · cases hc
theorem eq_gate (x y : Operand) (k a b c k' a' b' c' : Int) (w : World) : (do eqGuard .eql 56 x y (.agg #[.int .i64 k, .int .i64 a, .int .i64 b, .int .i64 c]) (.agg #[.int .i64 k', .int .i64 a', .int .i64 b', .int .i64 c']); binOp .eql 56 (.agg #[.int .i64 k, .int .i64 a, .int .i64 b, .int .i64 c]) (.agg #[.int .i64 k', .int .i64 a', .int .i64 b', .int .i64 c']) : Sem Value).run Tryz.prog w = .ok (.bool (k == k' && (a == a' && (b == b' && c == c')))) w := by
  rw [Sem.run_bind, run_eqGuard_agg (hm := by kernel_rfl)]
  simp only [Result.andThen_ok]
  rw [run_eql_struct, equal_gate]; rfl
theorem neq_gate (x y : Operand) (k a b c k' a' b' c' : Int) (w : World) : (do eqGuard .neq 56 x y (.agg #[.int .i64 k, .int .i64 a, .int .i64 b, .int .i64 c]) (.agg #[.int .i64 k', .int .i64 a', .int .i64 b', .int .i64 c']); binOp .neq 56 (.agg #[.int .i64 k, .int .i64 a, .int .i64 b, .int .i64 c]) (.agg #[.int .i64 k', .int .i64 a', .int .i64 b', .int .i64 c']) : Sem Value).run Tryz.prog w = .ok (.bool (!(k == k' && (a == a' && (b == b' && c == c'))))) w := by
  rw [Sem.run_bind, run_eqGuard_agg (hm := by kernel_rfl)]
  simp only [Result.andThen_ok]
  rw [run_neq_struct, equal_gate]; rfl
set_option maxHeartbeats 400000 in
theorem clipG : IsClip Tryz.prog 139 := by
  refine isClip_mk Tryz.func139 rfl (by rfl) fun A n c w hn hm => ?_
  go_enter Tryz.func139, Tryz.ntmps139
  go_wp2
  go_ret
  exact ⟨rfl, rfl⟩
attribute [local irreducible] runA runX AW
theorem gq_KGR {H G : Prop} (k : H) (h : Hid H → G := by (intro hh; repeat1' (first | (first | (refine nxA ?_; (first | fail | ((first | (refine z_op (by rfl) ?_; first | refine z_ok ?_ ?_ | refine z_ex ?_ (by first | exact zL1 | ((first | (first | refine mk_0 Int rfl rfl ?_ | refine mk_0 Gt rfl rfl ?_)); exact zWW) | exact zL2 | exact rw_c Int rfl | exact zL3 | (first | exact pu_of (fun w => neq_gate _ _ _ _ _ _ _ _ _ _ w) rfl | exact pu_of (fun w => eq_gate _ _ _ _ _ _ _ _ _ _ w) rfl)) ?_) | ((first | refine q_callE wsT wsZ (by rfl) ?_ | refine q_callVE wsT (by rfl) (by rfl) ?_); refine ⟨_, _, _, (by first | assumption | exact k_gv _ _ | exact k_cv _ _ (by omega)), _, by rfl, ?_, ?_⟩)); focus (first | exact trivial | fail | exact zQZ)) | fail)) | refine swA ?_) | refine awA ?_); exact hh.out)) : G := h ⟨k⟩
def geq (g h : Gt) : Bool := g.k == h.k && (g.a == h.a && (g.b == h.b && g.c == h.c))
theorem geq_refl (g : Gt) : geq g g = true := by simp [geq]
theorem geq_iff {g h : Gt} : geq g h = true ↔ g = h := by
  obtain ⟨k, a, b, c⟩ := g
  obtain ⟨k', a', b', c'⟩ := h
  simp [geq]
theorem k_sg (l : List Gt) (h : l.length ≤ 10000000) : Kon Tryz.prog 55 [roA l, roA l] [] (vB true) [] [] := by
  have h1 : ((l.length : Int) != (l.length : Int)) = false := by simp
  (refine kM Tryz.func55 rfl ?_; intro hfit hfe)
  (repeat (first | refine gq_KGR ?_ | (refine ga0A ?_; intro _hq)))
  (refine aw_rd [0, 1] [] (fun i : Nat => [(5, vI i)]) (fun _ => []) (fun i => i ≤ l.length) (fun i => l.length - i) 0 (by rfl) (by rfl) ?_ (by rfl) zHE zHE ?_)
  · exact Nat.zero_le _
  rintro i hi
  rcases Nat.lt_or_ge i l.length with h5 | h5
  · have hd : decide ((i : Int) < (l.length : Int)) = true := decide_eq_true (by omega)
    have hg : (!(geq (l.getD (i : Int).toNat Cel.no) (l.getD (i : Int).toNat Cel.no))) = false := by rw [geq_refl]; rfl
    unfold geq at hg
    (repeat (first | refine gq_KGR ?_ | (refine ga0A ?_; intro _hq) | refine gdA ?_))
    exact ⟨i + 1, h5, ⟨by rfl, zHE, zHE⟩, (by first | omega | (dsimp only; omega))⟩
  · have hd : decide ((i : Int) < (l.length : Int)) = false := decide_eq_false (by omega)
    (repeat (first | refine gq_KGR ?_ | (refine ga0A ?_; intro _hq) | refine gdA ?_))
    (refine rtA ?_; try rfl)
def tabN (l : List Gt) : Nat → List Int
  | 0 => []
  | i + 1 => tabN l i ++ [cr l (i : Int)]
theorem tabN_len (l : List Gt) : ∀ i, (tabN l i).length = i
  | 0 => rfl
  | i + 1 => by rw [tabN, List.length_append, tabN_len l i]; rfl
theorem tabN_get (l : List Gt) : ∀ (m i : Nat), i < m → (tabN l m).getD i 0 = cr l (i : Int)
  | m + 1, i, h => by
    rw [tabN, List.getD_eq_getElem?_getD]
    rcases Nat.lt_or_ge i m with h1 | h1
    · rw [List.getElem?_append_left (by rw [tabN_len]; exact h1), ← List.getD_eq_getElem?_getD, tabN_get l m i h1]
    · have : i = m := by omega
      subst this
      rw [List.getElem?_append_right (by rw [tabN_len]; exact Nat.le_refl _), tabN_len, Nat.sub_self]; rfl
theorem wv_of {n w : Int} (h1 : 1 ≤ n ∧ n ≤ 8) (h2 : 0 ≤ w ∧ w < 2 ^ n.toNat) : wvB n w = true := by
  unfold wvB btw
  rw [decide_eq_true h1.1, decide_eq_true h1.2, decide_eq_true h2.1, decide_eq_true (by omega)]; rfl
set_option maxHeartbeats 1000000 in
theorem k_tab (n : Int) (l : List Gt) (h : cokB n l = true) (N : Nat) (hN : (1 * 2 ^ n.toNat : Int) = (N : Int)) : Kon Tryz.prog 138 [vI n, roA l] [] (slA 0 0 (tabN l N)) [iRow (tabN l N)] [] := by
  obtain ⟨hn, hl, ha⟩ := cokB_t h
  have h8 := pow_8 hn
  have hN2 : (2 : Int) ^ n.toNat = (N : Int) := by rw [← hN, Int.one_mul]
  (refine kM Tryz.func138 rfl ?_; intro hfit hfe)
  (repeat (first | refine gq_KGR ?_ | (refine ga0A ?_; intro _hq)))
  rw [hN]
  (refine aw_rd [1, 11] [] (fun i : Nat => [(5, .g (.one (.sl 144 i i))), (12, vI i)]) (fun i => [(144, (i, iRow (tabN l i)))]) (fun i => i ≤ N) (fun i => N - i) 0 (by rfl) (by rfl) ?_ (by rfl) zHE zHE ?_)
  · exact Nat.zero_le _
  rintro i hi
  have hil := tabN_len l i
  rcases Nat.lt_or_ge i N with h5 | h5
  · have hd : decide ((i : Int) < (N : Int)) = true := decide_eq_true (by omega)
    have hR := k_runAll n l (i : Int) ha (by omega) (wv_of hn (by omega))
    (repeat (first | refine gq_KGR ?_ | (refine ga0A ?_; intro _hq)))
    exact ⟨i + 1, h5, ⟨by rfl, ⟨Eq.trans (b := some (.g (.one (.sl 144 (i + 1) (tabN l (i + 1)).length)))) (by rfl) (by rw [tabN_len]), zHE⟩, zHE⟩, (by first | omega | (dsimp only; omega))⟩
  · obtain rfl : i = N := by omega
    have hd : decide ((i : Int) < (i : Int)) = false := decide_eq_false (by omega)
    (repeat (first | refine gq_KGR ?_ | (refine ga0A ?_; intro _hq)))
    (refine rtA ?_; try rfl)
    exact congrArg (fun m => AV.g (.one (.sl 0 0 m))) hil.symm
end Go.Proofs.YtnenhckongccgaaGreatDoor
namespace Go.Proofs.YtnenhckongccgaaGreatDoor
set_option linter.unusedVariables false
set_option linter.unusedSimpArgs false
theorem pow_N {n : Int} {N : Nat} (hN : (2 ^ n.toNat : Int) = (N : Int)) : 2 ^ n.toNat = N := by
  have : ((2 ^ n.toNat : Nat) : Int) = (N : Int) := by rw [Int.natCast_pow]; exact hN
  exact Int.ofNat.inj this
theorem tab_valid {n : Int} {c : List Gt} {N : Nat} (h : cokB n c = true) (hN : (2 ^ n.toNat : Int) = (N : Int)) : tvB n (tabN c N) = true := by
  have hb := cokB_t h
  have hpn := pow_N hN
  have hl := tabN_len c N
  have hT := crN_tp hb.2.2
  rw [hpn] at hT
  have hbt : btw n 1 8 = true := by unfold btw; rw [decide_eq_true hb.1.1, decide_eq_true hb.1.2]; rfl
  have hg : ∀ i, i < N → (tabN c N).getD i 0 = ((crN c i : Nat) : Int) := fun i hi => by
    rw [tabN_get c N i hi]; exact ((crN_lt hb.2.2 (by rw [hpn]; exact hi)).2).symm
  unfold tvB
  rw [hbt, hl, Bool.true_and, beq_iff_eq.2 hN.symm, Bool.true_and]
  refine tvL_of (by rw [List.length_replicate]) (fun i hi => ?_) (fun i j hij hj => ?_)
  · rw [hl] at hi
    rw [hg i hi]
    have := hT.bd i hi
    refine ⟨by omega, ?_⟩
    rw [Int.toNat_natCast]
    simp [List.getD_eq_getElem?_getD, this]
  · rw [hl] at hj
    rw [hg i (by omega), hg j hj]
    intro e
    have := hT.inj i j (by omega) hj (Int.ofNat.inj e)
    omega
def mxD (a b : Int) : Int := if b > a then b else a
theorem mxD_le (a b : Int) : a ≤ mxD a b ∧ b ≤ mxD a b ∧ (mxD a b = a ∨ mxD a b = b) := by
  unfold mxD; split <;> omega
def stM (bz : List Int) : List Int → Int → Int
  | [], s => s
  | x :: l, s => stM bz l (mxD s (bz.getD x.toNat 0))
def upM (v : Int) : List Int → List Int → List Int
  | bz, [] => bz
  | bz, x :: l => upM v (bz.set x.toNat v) l
def stp : List Int → List Gt → List Int
  | _, [] => []
  | bz, g :: c => (stM bz (lns g) 0 + 1) :: stp (upM (stM bz (lns g) 0 + 1) bz (lns g)) c
def depM (l : List Int) : Int := l.foldl mxD 0
def meetB (a b : Gt) : Bool := (lns a).any (fun x => (lns b).contains x)
def sst (g : Gt) : List (Gt × Int) → Int → Int
  | [], s => s
  | p :: l, s => sst g l (if meetB p.1 g = true then mxD s (p.2 + 1) else s)
def stpS : List (Gt × Int) → List Gt → List Int
  | _, [] => []
  | pre, g :: c => sst g pre 1 :: stpS (pre ++ [(g, sst g pre 1)]) c
theorem stM_mx (bz : List Int) : ∀ (l : List Int) (s : Int), s ≤ stM bz l s ∧ (∀ x ∈ l, bz.getD x.toNat 0 ≤ stM bz l s) ∧ (stM bz l s = s ∨ ∃ x ∈ l, stM bz l s = bz.getD x.toNat 0)
  | [], s => ⟨Int.le_refl _, fun x h => (List.not_mem_nil h).elim, .inl rfl⟩
  | y :: l, s => by
    obtain ⟨h1, h2, h3⟩ := stM_mx bz l (mxD s (bz.getD y.toNat 0))
    obtain ⟨m1, m2, m3⟩ := mxD_le s (bz.getD y.toNat 0)
    rw [stM]
    refine ⟨by omega, fun x hx => ?_, ?_⟩
    · rcases List.mem_cons.1 hx with rfl | hx
      · omega
      · exact h2 x hx
    · rcases h3 with h3 | ⟨x, hx, h3⟩
      · rcases m3 with m3 | m3
        · exact .inl (h3.trans m3)
        · exact .inr ⟨y, List.mem_cons_self, h3.trans m3⟩
      · exact .inr ⟨x, List.mem_cons_of_mem _ hx, h3⟩
theorem sst_mx (g : Gt) : ∀ (l : List (Gt × Int)) (s : Int), s ≤ sst g l s ∧ (∀ p ∈ l, meetB p.1 g = true → p.2 + 1 ≤ sst g l s) ∧ (sst g l s = s ∨ ∃ p ∈ l, meetB p.1 g = true ∧ sst g l s = p.2 + 1)
  | [], s => ⟨Int.le_refl _, fun x h => (List.not_mem_nil h).elim, .inl rfl⟩
  | q :: l, s => by
    obtain ⟨h1, h2, h3⟩ := sst_mx g l (if meetB q.1 g = true then mxD s (q.2 + 1) else s)
    obtain ⟨m1, m2, m3⟩ := mxD_le s (q.2 + 1)
    rw [sst]
    cases hq : meetB q.1 g with
    | true =>
      simp only [hq, if_true] at h1 h2 h3 ⊢
      refine ⟨by omega, fun p hp hm => ?_, ?_⟩
      · rcases List.mem_cons.1 hp with rfl | hp
        · omega
        · exact h2 p hp hm
      · rcases h3 with h3 | ⟨p, hp, hm, h3⟩
        · rcases m3 with m3 | m3
          · exact .inl (h3.trans m3)
          · exact .inr ⟨q, List.mem_cons_self, hq, h3.trans m3⟩
        · exact .inr ⟨p, List.mem_cons_of_mem _ hp, hm, h3⟩
    | false =>
      simp only [hq, Bool.false_eq_true, if_false] at h1 h2 h3 ⊢
      refine ⟨h1, fun p hp hm => ?_, ?_⟩
      · rcases List.mem_cons.1 hp with rfl | hp
        · rw [hq] at hm; cases hm
        · exact h2 p hp hm
      · rcases h3 with h3 | ⟨p, hp, hm, h3⟩
        · exact .inl h3
        · exact .inr ⟨p, List.mem_cons_of_mem _ hp, hm, h3⟩
theorem upM_len (v : Int) : ∀ (l bz : List Int), (upM v bz l).length = bz.length
  | [], bz => rfl
  | x :: l, bz => by rw [upM, upM_len v l, List.length_set]
theorem upM_at (v : Int) (y : Nat) : ∀ (l bz : List Int), y < bz.length → (∀ x ∈ l, 0 ≤ x) → (upM v bz l).getD y 0 = if (y : Int) ∈ l then v else bz.getD y 0
  | [], bz, _, _ => by simp [upM]
  | x :: l, bz, hy, hl => by
    have hx := hl x List.mem_cons_self
    rw [upM, upM_at v y l _ (by rw [List.length_set]; exact hy) (fun z hz => hl z (List.mem_cons_of_mem _ hz))]
    by_cases h1 : (y : Int) ∈ l
    · rw [if_pos h1, if_pos (List.mem_cons_of_mem _ h1)]
    · rw [if_neg h1]
      by_cases h2 : x.toNat = y
      · rw [if_pos (by rw [← h2, Int.toNat_of_nonneg hx]; exact List.mem_cons_self)]
        rw [h2, List.getD_eq_getElem?_getD, List.getElem?_set_self hy]; rfl
      · have h3 : ¬ ((y : Int) ∈ x :: l) := by
          intro h
          rcases List.mem_cons.1 h with h | h
          · omega
          · exact h1 h
        rw [if_neg h3, List.getD_eq_getElem?_getD, List.getElem?_set_ne h2, ← List.getD_eq_getElem?_getD]
def Bz (bz : List Int) (pre : List (Gt × Int)) : Prop :=
  bz.length = 8 ∧ (∀ p ∈ pre, 1 ≤ p.2) ∧ (∀ y : Nat, y < 8 → (∀ p ∈ pre, (y : Int) ∈ lns p.1 → p.2 ≤ bz.getD y 0) ∧ (bz.getD y 0 = 0 ∨ ∃ p ∈ pre, (y : Int) ∈ lns p.1 ∧ bz.getD y 0 = p.2))
theorem lns_bd {n : Int} {g : Gt} (h : gok n g = true) : ∀ x ∈ lns g, 0 ≤ x ∧ x < n := by
  obtain ⟨_, hk, ha, hb, hc⟩ := gok_bd h
  intro x hx
  unfold lns at hx
  split at hx
  · simp only [List.mem_cons, List.not_mem_nil, or_false] at hx; subst hx; exact ha
  split at hx
  · simp only [List.mem_cons, List.not_mem_nil, or_false] at hx; rcases hx with rfl | rfl <;> assumption
  split at hx
  · simp only [List.mem_cons, List.not_mem_nil, or_false] at hx; rcases hx with rfl | rfl | rfl <;> assumption
  · simp at hx
theorem meet_iff (a b : Gt) : meetB a b = true ↔ ∃ x, x ∈ lns a ∧ x ∈ lns b := by
  unfold meetB
  rw [List.any_eq_true]
  constructor
  · rintro ⟨x, h1, h2⟩; exact ⟨x, h1, List.contains_iff_mem.1 h2⟩
  · rintro ⟨x, h1, h2⟩; exact ⟨x, h1, List.contains_iff_mem.2 h2⟩
theorem st_same {n : Int} (hn : n ≤ 8) {bz : List Int} {pre : List (Gt × Int)} (hB : Bz bz pre) (hp : ∀ p ∈ pre, gok n p.1 = true) {g : Gt} (h : gok n g = true) : stM bz (lns g) 0 + 1 = sst g pre 1 := by
  obtain ⟨h1, h2, h3⟩ := stM_mx bz (lns g) 0
  obtain ⟨s1, s2, s3⟩ := sst_mx g pre 1
  obtain ⟨_, hq, hB⟩ := hB
  have hb := lns_bd h
  apply Int.le_antisymm
  · rcases h3 with h3 | ⟨x, hx, h3⟩
    · omega
    · have hx8 := hb x hx
      obtain ⟨_, hB2⟩ := hB x.toNat (by omega)
      rcases hB2 with e | ⟨p, hpp, hpx, e⟩
      · omega
      · rw [Int.toNat_of_nonneg hx8.1] at hpx
        have := s2 p hpp ((meet_iff _ _).2 ⟨x, hpx, hx⟩)
        omega
  · rcases s3 with s3 | ⟨p, hpp, hm, s3⟩
    · omega
    · obtain ⟨x, hx1, hx2⟩ := (meet_iff _ _).1 hm
      have hx8 := hb x hx2
      have h4 := (hB x.toNat (by omega)).1 p hpp (by rw [Int.toNat_of_nonneg hx8.1]; exact hx1)
      have := h2 x hx2
      omega
theorem bz_more {n : Int} (hn : n ≤ 8) {bz : List Int} {pre : List (Gt × Int)} (hB : Bz bz pre) (hp : ∀ p ∈ pre, gok n p.1 = true) {g : Gt} (h : gok n g = true) : Bz (upM (stM bz (lns g) 0 + 1) bz (lns g)) (pre ++ [(g, sst g pre 1)]) := by
  have he := st_same hn hB hp h
  obtain ⟨h1, h2, h3⟩ := stM_mx bz (lns g) 0
  obtain ⟨hl, hq, hB⟩ := hB
  have hb := lns_bd h
  refine ⟨by rw [upM_len]; exact hl, fun p hpp => ?_, fun y hy => ?_⟩
  · rcases List.mem_append.1 hpp with hpp | hpp
    · exact hq p hpp
    · rw [List.mem_singleton] at hpp; subst hpp; dsimp only; omega
  · rw [upM_at _ _ _ _ (by omega) (fun x hx => (hb x hx).1)]
    obtain ⟨b1, b2⟩ := hB y hy
    by_cases hyg : (y : Int) ∈ lns g
    · rw [if_pos hyg]
      have h4 := h2 (y : Int) hyg
      rw [Int.toNat_natCast] at h4
      refine ⟨fun p hpp hpy => ?_, .inr ⟨(g, sst g pre 1), by simp, hyg, he⟩⟩
      rcases List.mem_append.1 hpp with hpp | hpp
      · have := b1 p hpp hpy; omega
      · rw [List.mem_singleton] at hpp; subst hpp; dsimp only; omega
    · rw [if_neg hyg]
      refine ⟨fun p hpp hpy => ?_, ?_⟩
      · rcases List.mem_append.1 hpp with hpp | hpp
        · exact b1 p hpp hpy
        · rw [List.mem_singleton] at hpp; subst hpp; exact absurd hpy hyg
      · rcases b2 with e | ⟨p, hpp, hpy, e⟩
        · exact .inl e
        · exact .inr ⟨p, List.mem_append_left _ hpp, hpy, e⟩
theorem stp_same {n : Int} (hn : n ≤ 8) : ∀ {c : List Gt} {bz : List Int} {pre : List (Gt × Int)}, c.all (gok n) = true → Bz bz pre → (∀ p ∈ pre, gok n p.1 = true) → stp bz c = stpS pre c
  | [], _, _, _, _, _ => rfl
  | g :: c, bz, pre, h, hB, hp => by
    rw [List.all_cons, Bool.and_eq_true] at h
    rw [stp, stpS, st_same hn hB hp h.1]
    rw [← st_same hn hB hp h.1]
    rw [stp_same hn h.2 (bz_more hn hB hp h.1) ?_]
    · rw [st_same hn hB hp h.1]
    · intro p hpp
      rcases List.mem_append.1 hpp with hpp | hpp
      · exact hp p hpp
      · rw [List.mem_singleton] at hpp; subst hpp; exact h.1
abbrev bz0 : List Int := [0, 0, 0, 0, 0, 0, 0, 0]
theorem bz_0 : Bz bz0 [] := ⟨rfl, fun p h => (List.not_mem_nil h).elim, fun y hy => ⟨fun p h => (List.not_mem_nil h).elim, .inl (by
  have : y = 0 ∨ y = 1 ∨ y = 2 ∨ y = 3 ∨ y = 4 ∨ y = 5 ∨ y = 6 ∨ y = 7 := by omega
  rcases this with rfl | rfl | rfl | rfl | rfl | rfl | rfl | rfl <;> rfl)⟩⟩
theorem stp_eq {n : Int} (hn : n ≤ 8) {c : List Gt} (h : c.all (gok n) = true) : stp bz0 c = stpS [] c := stp_same hn h bz_0 (fun p h => (List.not_mem_nil h).elim)
end Go.Proofs.YtnenhckongccgaaGreatDoor
namespace Go.Proofs.YtnenhckongccgaaGreatDoor
set_option linter.unusedVariables false
set_option linter.unusedSimpArgs false
set_option maxRecDepth 20000
open Go.RowKit
attribute [local irreducible] runA runX AW
theorem gq_KRC {H G : Prop} (k : H) (h : Hid H → G := by (intro hh; repeat1' (first | (first | (refine nxA ?_; (first | fail | ((first | (refine z_op (by rfl) ?_; first | refine z_ok ?_ ?_ | refine z_ex ?_ (by first | exact zL1 | ((first | refine mk_c Int rfl rfl rfl ?_); exact zWW) | exact zL2 | (first | exact rw_c Int rfl) | exact zL3 | fail) ?_) | ((first | refine q_callE wsT wsZ (by rfl) ?_ | refine q_callVE wsT (by rfl) (by rfl) ?_); refine ⟨_, _, _, (by first | assumption), _, by rfl, ?_, ?_⟩)); focus (first | exact trivial | fail | exact zQZ)) | fail)) | refine swA ?_) | refine awA ?_); exact hh.out)) : G := h ⟨k⟩
theorem list8 {l : List Int} (h : l.length = 8) : ∃ a b c d e f g i, l = [a, b, c, d, e, f, g, i] := by
  match l, h with
  | [a, b, c, d, e, f, g, i], _ => exact ⟨a, b, c, d, e, f, g, i, rfl⟩
theorem dropI {l : List Int} {k : Nat} (h : k < l.length) : l.drop k = l.getD k 0 :: l.drop (k + 1) := by
  rw [List.drop_eq_getElem_cons h]
  simp [List.getD_eq_getElem?_getD, h]
theorem dropG {l : List Gt} {k : Nat} (h : k < l.length) : l.drop k = l.getD k Cel.no :: l.drop (k + 1) := by
  rw [List.drop_eq_getElem_cons h]
  simp [List.getD_eq_getElem?_getD, h]
theorem bd_get {bz : List Int} {m : Int} (hm : 0 ≤ m) (h : ∀ v ∈ bz, 0 ≤ v ∧ v ≤ m) (k : Nat) : 0 ≤ bz.getD k 0 ∧ bz.getD k 0 ≤ m := by
  rcases Nat.lt_or_ge k bz.length with h1 | h1
  · have e : bz.getD k 0 = bz[k] := by simp [List.getD_eq_getElem?_getD, h1]
    rw [e]; exact h _ (List.getElem_mem h1)
  · rw [List.getD_eq_getElem?_getD, List.getElem?_eq_none h1]; exact ⟨Int.le_refl _, hm⟩
theorem bd_set {bz : List Int} {m v : Int} (h : ∀ v ∈ bz, 0 ≤ v ∧ v ≤ m) (hv : 0 ≤ v ∧ v ≤ m) (k : Nat) : ∀ w ∈ bz.set k v, 0 ≤ w ∧ w ≤ m := fun w hw => by
  rcases List.mem_or_eq_of_mem_set hw with h1 | rfl
  · exact h w h1
  · exact hv
theorem lns_l3 (g : Gt) : (lns g).length ≤ 3 := by unfold lns; split <;> (try split) <;> (try split) <;> simp
abbrev bxE (bz : List Int) : Ent := .box [.v (.int .i64 (bz.getD 0 0)), .v (.int .i64 (bz.getD 1 0)), .v (.int .i64 (bz.getD 2 0)), .v (.int .i64 (bz.getD 3 0)), .v (.int .i64 (bz.getD 4 0)), .v (.int .i64 (bz.getD 5 0)), .v (.int .i64 (bz.getD 6 0)), .v (.int .i64 (bz.getD 7 0))]
set_option maxHeartbeats 16000000 in
theorem k_steps (n : Int) (c : List Gt) (h : cokB n c = true) : Kon Tryz.prog 160 [vI n, roA c] [] (slA 0 0 (stp bz0 c)) [iRow (stp bz0 c)] [] := by
  have hb := cokB_t h
  have hK := k_cv n c (by omega)
  rw [h] at hK
  clear h
  (refine kM Tryz.func160 rfl ?_; intro hfit hfe)
  (repeat (first | refine gq_KRC ?_ | (refine ga0A ?_; intro _hq)))
  (refine aw_rd [0, 1, 6, 21, 22] [] (fun g : Nat × Nat × List Int × List Int => [(5, .g (.one (.sl 320 g.2.1 g.2.2.1.length))), (23, vI g.1)]) (fun g => [(320, (g.2.1, iRow g.2.2.1)), (96, (0, bxE g.2.2.2))]) (fun g => g.1 ≤ c.length ∧ g.2.2.2.length = 8 ∧ g.2.2.1.length = g.1 ∧ (∀ v ∈ g.2.2.2, 0 ≤ v ∧ v ≤ (g.1 : Int)) ∧ g.2.2.1 ++ stp g.2.2.2 (c.drop g.1) = stp bz0 c) (fun g => c.length - g.1) (0, 0, [], bz0) (by rfl) (by rfl) ?_ (by rfl) zHE zHE ?_)
  · exact ⟨Nat.zero_le _, rfl, rfl, by intro v hv; simp [bz0] at hv; omega, rfl⟩
  rintro ⟨j, u, o, bz⟩ ⟨hj, h8, hol, hbd, hz⟩
  dsimp only at hj h8 hol hbd hz ⊢
  rcases Nat.lt_or_ge j c.length with h6 | h6
  · have hd2 : decide ((j : Int) < (c.length : Int)) = true := by simpa using h6
    have hgk := all_at hb.2.2 h6
    have hlb := lns_bd hgk
    have hLn := k_lines (c.getD (j : Int).toNat Cel.no) (gok_bd hgk).2.1
    rw [dropG h6, stp] at hz
    rw [show lns (c.getD (j : Int).toNat Cel.no) = lns (c.getD j Cel.no) from rfl] at hLn
    have hL3 := lns_l3 (c.getD j Cel.no)
    generalize lns (c.getD j Cel.no) = L at hLn hlb hz hL3
    clear hgk
    (repeat (first | refine gq_KRC ?_ | (refine ga0A ?_; intro _hq)))
    (refine aw_rd [0, 1, 5, 6, 8, 21, 22, 23, 28, 29] [320, 96, 128, 448] (fun q : Nat × Int => [(9, vI q.2), (30, vI q.1)]) (fun _ => []) (fun q => q.1 ≤ L.length ∧ (0 ≤ q.2 ∧ q.2 ≤ (j : Int)) ∧ stM bz (L.drop q.1) q.2 = stM bz L 0) (fun q => L.length - q.1) (0, 0) (by rfl) (by rfl) ?_ (by rfl) zHE zHE ?_)
    · exact ⟨Nat.zero_le _, ⟨Int.le_refl _, Int.natCast_nonneg _⟩, by rw [List.drop_zero]⟩
    rintro ⟨i, s⟩ ⟨hi, hs, hy⟩
    dsimp only at hi hs hy ⊢
    rcases Nat.lt_or_ge i L.length with h5 | h5
    · have hd : decide ((i : Int) < (L.length : Int)) = true := by simpa using h5
      obtain ⟨x, hx⟩ : ∃ x, L.getD (i : Int).toNat (Cel.no : Int) = x := ⟨_, rfl⟩
      have hx' : L.getD i 0 = x := hx
      have hxb : 0 ≤ x ∧ x < n := hlb x (by rw [← hx', List.getD_eq_getElem?_getD, List.getElem?_eq_getElem h5]; exact List.getElem_mem h5)
      rw [dropI h5, hx', stM] at hy
      have hb2 := bd_get (Int.natCast_nonneg j) hbd x.toNat
      have hm := mxD_le s (bz.getD x.toNat 0)
      have hinv : i + 1 ≤ L.length ∧ (0 ≤ mxD s (bz.getD x.toNat 0) ∧ mxD s (bz.getD x.toNat 0) ≤ (j : Int)) ∧ stM bz (L.drop (i + 1)) (mxD s (bz.getD x.toNat 0)) = stM bz L 0 := ⟨h5, ⟨by omega, by omega⟩, hy⟩
      clear hy hz hlb hbd hol hm
      (repeat (first | refine gq_KRC ?_ | (refine ga0A ?_; intro _hq)))
      rw [hx]
      clear hx hx'
      obtain ⟨b0, b1, b2, b3, b4, b5, b6, b7, rfl⟩ := list8 h8
      have h' : x = 0 ∨ x = 1 ∨ x = 2 ∨ x = 3 ∨ x = 4 ∨ x = 5 ∨ x = 6 ∨ x = 7 := by omega
      rcases h' with rfl | rfl | rfl | rfl | rfl | rfl | rfl | rfl
      · (repeat (first | refine gq_KRC ?_ | (refine ga0A ?_; intro _hq)))
        exact ⟨(i + 1, mxD s b0), hinv, ⟨by rfl, zHE, zHE⟩, (by first | omega | (dsimp only; omega))⟩
      · (repeat (first | refine gq_KRC ?_ | (refine ga0A ?_; intro _hq)))
        exact ⟨(i + 1, mxD s b1), hinv, ⟨by rfl, zHE, zHE⟩, (by first | omega | (dsimp only; omega))⟩
      · (repeat (first | refine gq_KRC ?_ | (refine ga0A ?_; intro _hq)))
        exact ⟨(i + 1, mxD s b2), hinv, ⟨by rfl, zHE, zHE⟩, (by first | omega | (dsimp only; omega))⟩
      · (repeat (first | refine gq_KRC ?_ | (refine ga0A ?_; intro _hq)))
        exact ⟨(i + 1, mxD s b3), hinv, ⟨by rfl, zHE, zHE⟩, (by first | omega | (dsimp only; omega))⟩
      · (repeat (first | refine gq_KRC ?_ | (refine ga0A ?_; intro _hq)))
        exact ⟨(i + 1, mxD s b4), hinv, ⟨by rfl, zHE, zHE⟩, (by first | omega | (dsimp only; omega))⟩
      · (repeat (first | refine gq_KRC ?_ | (refine ga0A ?_; intro _hq)))
        exact ⟨(i + 1, mxD s b5), hinv, ⟨by rfl, zHE, zHE⟩, (by first | omega | (dsimp only; omega))⟩
      · (repeat (first | refine gq_KRC ?_ | (refine ga0A ?_; intro _hq)))
        exact ⟨(i + 1, mxD s b6), hinv, ⟨by rfl, zHE, zHE⟩, (by first | omega | (dsimp only; omega))⟩
      · (repeat (first | refine gq_KRC ?_ | (refine ga0A ?_; intro _hq)))
        exact ⟨(i + 1, mxD s b7), hinv, ⟨by rfl, zHE, zHE⟩, (by first | omega | (dsimp only; omega))⟩
    · have hd : decide ((i : Int) < (L.length : Int)) = false := by simp; omega
      rw [List.drop_of_length_le h5, stM] at hy
      rw [← hy] at hz
      clear hy
      (repeat (first | refine gq_KRC ?_ | (refine ga0A ?_; intro _hq)))
      (refine aw_rd [0, 1, 5, 6, 9, 21, 22, 23, 41, 42] [320, 656] (fun q : Nat × List Int => [(43, vI q.1)]) (fun q => [(96, (0, bxE q.2))]) (fun q => q.1 ≤ L.length ∧ q.2.length = 8 ∧ (∀ v ∈ q.2, 0 ≤ v ∧ v ≤ ((j + 1 : Nat) : Int)) ∧ upM (s + 1) q.2 (L.drop q.1) = upM (s + 1) bz L) (fun q => L.length - q.1) (0, bz) (by rfl) (by rfl) ?_ (by rfl) zHE zHE ?_)
      · exact ⟨Nat.zero_le _, h8, fun v hv => by have := hbd v hv; omega, by rw [List.drop_zero]⟩
      rintro ⟨i2, bq⟩ ⟨hi2, h82, hbd2, hu⟩
      dsimp only at hi2 h82 hbd2 hu ⊢
      rcases Nat.lt_or_ge i2 L.length with h7 | h7
      · have hd3 : decide ((i2 : Int) < (L.length : Int)) = true := by simpa using h7
        obtain ⟨x, hx⟩ : ∃ x, L.getD (i2 : Int).toNat (Cel.no : Int) = x := ⟨_, rfl⟩
        have hx' : L.getD i2 0 = x := hx
        have hxb : 0 ≤ x ∧ x < n := hlb x (by rw [← hx', List.getD_eq_getElem?_getD, List.getElem?_eq_getElem h7]; exact List.getElem_mem h7)
        rw [dropI h7, hx', upM] at hu
        have hinv : i2 + 1 ≤ L.length ∧ (bq.set x.toNat (s + 1)).length = 8 ∧ (∀ v ∈ bq.set x.toNat (s + 1), 0 ≤ v ∧ v ≤ ((j + 1 : Nat) : Int)) ∧ upM (s + 1) (bq.set x.toNat (s + 1)) (L.drop (i2 + 1)) = upM (s + 1) bz L := ⟨h7, by rw [List.length_set]; exact h82, bd_set hbd2 (by omega) _, hu⟩
        clear hu hz hlb hbd hbd2 hol
        (repeat (first | refine gq_KRC ?_ | (refine ga0A ?_; intro _hq)))
        rw [hx]
        clear hx hx'
        obtain ⟨b0, b1, b2, b3, b4, b5, b6, b7, rfl⟩ := list8 h82
        have h' : x = 0 ∨ x = 1 ∨ x = 2 ∨ x = 3 ∨ x = 4 ∨ x = 5 ∨ x = 6 ∨ x = 7 := by omega
        rcases h' with rfl | rfl | rfl | rfl | rfl | rfl | rfl | rfl
        · (repeat (first | refine gq_KRC ?_ | (refine ga0A ?_; intro _hq)))
          exact ⟨(i2 + 1, [s + 1, b1, b2, b3, b4, b5, b6, b7]), hinv, ⟨by rfl, zHE, zHE⟩, (by first | omega | (dsimp only; omega))⟩
        · (repeat (first | refine gq_KRC ?_ | (refine ga0A ?_; intro _hq)))
          exact ⟨(i2 + 1, [b0, s + 1, b2, b3, b4, b5, b6, b7]), hinv, ⟨by rfl, zHE, zHE⟩, (by first | omega | (dsimp only; omega))⟩
        · (repeat (first | refine gq_KRC ?_ | (refine ga0A ?_; intro _hq)))
          exact ⟨(i2 + 1, [b0, b1, s + 1, b3, b4, b5, b6, b7]), hinv, ⟨by rfl, zHE, zHE⟩, (by first | omega | (dsimp only; omega))⟩
        · (repeat (first | refine gq_KRC ?_ | (refine ga0A ?_; intro _hq)))
          exact ⟨(i2 + 1, [b0, b1, b2, s + 1, b4, b5, b6, b7]), hinv, ⟨by rfl, zHE, zHE⟩, (by first | omega | (dsimp only; omega))⟩
        · (repeat (first | refine gq_KRC ?_ | (refine ga0A ?_; intro _hq)))
          exact ⟨(i2 + 1, [b0, b1, b2, b3, s + 1, b5, b6, b7]), hinv, ⟨by rfl, zHE, zHE⟩, (by first | omega | (dsimp only; omega))⟩
        · (repeat (first | refine gq_KRC ?_ | (refine ga0A ?_; intro _hq)))
          exact ⟨(i2 + 1, [b0, b1, b2, b3, b4, s + 1, b6, b7]), hinv, ⟨by rfl, zHE, zHE⟩, (by first | omega | (dsimp only; omega))⟩
        · (repeat (first | refine gq_KRC ?_ | (refine ga0A ?_; intro _hq)))
          exact ⟨(i2 + 1, [b0, b1, b2, b3, b4, b5, s + 1, b7]), hinv, ⟨by rfl, zHE, zHE⟩, (by first | omega | (dsimp only; omega))⟩
        · (repeat (first | refine gq_KRC ?_ | (refine ga0A ?_; intro _hq)))
          exact ⟨(i2 + 1, [b0, b1, b2, b3, b4, b5, b6, s + 1]), hinv, ⟨by rfl, zHE, zHE⟩, (by first | omega | (dsimp only; omega))⟩
      · have hd3 : decide ((i2 : Int) < (L.length : Int)) = false := by simp; omega
        rw [List.drop_of_length_le h7, upM] at hu
        have hinv : j + 1 ≤ c.length ∧ bq.length = 8 ∧ (o ++ [s + 1]).length = j + 1 ∧ (∀ v ∈ bq, 0 ≤ v ∧ v ≤ ((j + 1 : Nat) : Int)) ∧ (o ++ [s + 1]) ++ stp bq (c.drop (j + 1)) = stp bz0 c := by
          refine ⟨h6, h82, by rw [List.length_append, hol]; rfl, hbd2, ?_⟩
          rw [hu, List.append_assoc]; exact hz
        clear hu hz hlb hbd hbd2
        (repeat (first | refine gq_KRC ?_ | (refine ga0A ?_; intro _hq)))
        exact ⟨(j + 1, u + 1, o ++ [s + 1], bq), hinv, ⟨by rfl, zHE, zHE⟩, (by first | omega | (dsimp only; omega))⟩
  · have hd2 : decide ((j : Int) < (c.length : Int)) = false := by simp; omega
    rw [List.drop_of_length_le h6] at hz
    replace hz : o = stp bz0 c := by rw [← hz]; simp [stp]
    subst hz
    (repeat (first | refine gq_KRC ?_ | (refine ga0A ?_; intro _hq)))
    (refine rtA ?_; try rfl)
theorem dep_drop {S : List Int} {i : Nat} {m : Int} (h : i < S.length) : (S.drop i).foldl mxD m = (S.drop (i + 1)).foldl mxD (mxD m (S.getD i 0)) := by rw [dropI h]; rfl
theorem stp_len : ∀ (c : List Gt) (bz : List Int), (stp bz c).length = c.length
  | [], _ => rfl
  | g :: c, bz => by rw [stp, List.length_cons, List.length_cons, stp_len c]
theorem k_depth (n : Int) (c : List Gt) (h : cokB n c = true) : Kon Tryz.prog 133 [vI n, roA c] [] (vI (depM (stp bz0 c))) [] [] := by
  have hS := k_steps n c h
  have hb := cokB_t h
  have hK := k_cv n c (by omega)
  rw [h] at hK
  clear h
  have hSl : (stp bz0 c).length ≤ 24 := by rw [stp_len]; exact hb.2.1
  generalize stp bz0 c = S at hS hSl ⊢
  (refine kM Tryz.func133 rfl ?_; intro hfit hfe)
  (repeat (first | refine gq_KRC ?_ | (refine ga0A ?_; intro _hq)))
  (refine aw_rd [0, 1, 14, 15] [224] (fun q : Nat × Int => [(5, vI q.2), (16, vI q.1)]) (fun _ => []) (fun q => q.1 ≤ S.length ∧ (S.drop q.1).foldl mxD q.2 = depM S) (fun q => S.length - q.1) (0, 0) (by rfl) (by rfl) ?_ (by rfl) zHE zHE ?_)
  · exact ⟨Nat.zero_le _, rfl⟩
  rintro ⟨i, m⟩ ⟨hi, hz⟩
  dsimp only at hi hz ⊢
  rcases Nat.lt_or_ge i S.length with h5 | h5
  · have hd : decide ((i : Int) < (S.length : Int)) = true := by simpa using h5
    rw [dep_drop h5] at hz
    have hinv : i + 1 ≤ S.length ∧ (S.drop (i + 1)).foldl mxD (mxD m (S.getD i 0)) = depM S := ⟨h5, hz⟩
    clear hz
    (repeat (first | refine gq_KRC ?_ | (refine ga0A ?_; intro _hq)))
    exact ⟨(i + 1, mxD m (S.getD i 0)), hinv, ⟨by rfl, zHE, zHE⟩, (by first | omega | (dsimp only; omega))⟩
  · have hd : decide ((i : Int) < (S.length : Int)) = false := by simp; omega
    rw [List.drop_of_length_le h5] at hz
    replace hz : m = depM S := hz
    rw [← hz]
    clear hz
    (repeat (first | refine gq_KRC ?_ | (refine ga0A ?_; intro _hq)))
    (refine rtA ?_; try rfl)
end Go.Proofs.YtnenhckongccgaaGreatDoor
namespace Go.Proofs.YtnenhckongccgaaGreatDoor
set_option linter.unusedVariables false
set_option linter.unusedSimpArgs false
def costK (k : Int) : Int := if k = 0 then 1 else if k = 1 then 1 else if k = 2 then 5 else if k = 3 then 3 else 7
def coL : List Gt → Int
  | [] => 0
  | g :: l => costK g.k + coL l
theorem coL_append : ∀ l m : List Gt, coL (l ++ m) = coL l + coL m
  | [], m => by simp [coL]
  | g :: l, m => by rw [List.cons_append, coL, coL, coL_append l m]; omega
theorem costK_bd (k : Int) : 1 ≤ costK k ∧ costK k ≤ 7 := by unfold costK; split <;> (try split) <;> (try split) <;> (try split) <;> omega
theorem coL_bd : ∀ l : List Gt, 0 ≤ coL l ∧ coL l ≤ 7 * (l.length : Int)
  | [] => by simp [coL]
  | g :: l => by
    have h1 := costK_bd g.k
    have h2 := coL_bd l
    rw [coL, List.length_cons]; omega
theorem coL_take {l : List Gt} {i : Nat} (hi : i < l.length) : coL (l.take (i + 1)) = coL (l.take i) + costK (l.getD i Cel.no).k := by
  have e : l.getD i Cel.no = l[i] := by simp [List.getD_eq_getElem?_getD, hi]
  rw [e, List.take_succ_eq_append_getElem hi, coL_append]
  simp [coL]
end Go.Proofs.YtnenhckongccgaaGreatDoor
namespace Go.Proofs.YtnenhckongccgaaGreatDoor
set_option linter.unusedVariables false
set_option linter.unusedSimpArgs false
set_option maxRecDepth 20000
open Go.RowKit
attribute [local irreducible] runA runX AW
theorem gq_KGS {H G : Prop} (k : H) (h : Hid H → G := by (intro hh; repeat1' (first | (first | (refine nxA ?_; (first | (refine z_op (by rfl) ?_; refine z_ex ?_ (pu_of hix rfl) ?_; focus (first | exact trivial | fail | exact zQZ)) | ((first | (refine z_op (by rfl) ?_; first | refine z_ok ?_ ?_ | refine z_ex ?_ (by first | exact zL1 | ((first | fail); exact zWW) | exact zL2 | fail | exact zL3 | fail) ?_) | ((first | refine q_callE wsT wsZ (by rfl) ?_ | refine q_callVE wsT (by rfl) (by rfl) ?_); refine ⟨_, _, _, (by first | assumption | exact k_natures | exact k_cv _ _ (by omega)), _, by rfl, ?_, ?_⟩)); focus (first | exact trivial | fail | exact zQZ)) | fail)) | refine swA ?_) | refine awA ?_); exact hh.out)) : G := h ⟨k⟩
def ntS (k : Int) : Value := .agg #[.string (if k = 0 then ⟨#[110, 111, 116]⟩ else if k = 1 then ⟨#[99, 111, 112, 121]⟩ else if k = 2 then ⟨#[98, 111, 116, 104]⟩ else if k = 3 then ⟨#[115, 119, 97, 112]⟩ else ⟨#[105, 102]⟩), .int .i64 (ntM k), .int .i64 (if k = 0 then 1 else if k = 1 then 2 else if k = 2 then 4 else if k = 3 then 3 else 6), .int .i64 (costK k)]
abbrev NV : Value := .agg #[.string ⟨#[110, 111, 116]⟩, .int .i64 1, .int .i64 1, .int .i64 1, .string ⟨#[99, 111, 112, 121]⟩, .int .i64 3, .int .i64 2, .int .i64 1, .string ⟨#[98, 111, 116, 104]⟩, .int .i64 7, .int .i64 4, .int .i64 5, .string ⟨#[115, 119, 97, 112]⟩, .int .i64 3, .int .i64 3, .int .i64 3, .string ⟨#[105, 102]⟩, .int .i64 7, .int .i64 6, .int .i64 7]
theorem idx_k (k : Int) (h : 0 ≤ k ∧ k ≤ 4) : ∀ w, (Instr.index 156 NV (.int .i64 k)).run Tryz.prog w = .ok (ntS k) w := by
  have h' : k = 0 ∨ k = 1 ∨ k = 2 ∨ k = 3 ∨ k = 4 := by omega
  intro w
  rcases h' with rfl | rfl | rfl | rfl | rfl
  · kernel_rfl
  · kernel_rfl
  · kernel_rfl
  · kernel_rfl
  · kernel_rfl
set_option maxHeartbeats 1000000 in
theorem k_cost (n : Int) (l : List Gt) (h : cokB n l = true) : Kon Tryz.prog 131 [vI n, roA l] [] (vI (coL l)) [] [] := by
  obtain ⟨hn, hl, ha⟩ := cokB_t h
  have hC := k_cv n l (by omega)
  rw [h] at hC
  have hix : ∀ w : World, (Op.unary .not (.bool true)).run Tryz.prog w = .ok (.bool false) w := hm0
  (refine kM Tryz.func131 rfl ?_; intro hfit hfe)
  (repeat (first | refine gq_KGS ?_ | (refine ga1A ?_; intro _q ⟨_he, _hq⟩)))
  (refine aw_rd [12, 13] [] (fun i : Nat => [(5, vI (coL (l.take i))), (14, vI i)]) (fun _ => []) (fun i => i ≤ l.length) (fun i => l.length - i) 0 (by rfl) (by rfl) ?_ (by rfl) zHE zHE ?_)
  · exact Nat.zero_le _
  rintro i hi
  rcases Nat.lt_or_ge i l.length with h6 | h6
  · have hd : decide ((i : Int) < (l.length : Int)) = true := by simpa using h6
    have hb := gok_bd (all_at ha h6)
    have hix := idx_k (l.getD i Cel.no).k (by omega)
    have e := coL_take h6
    have hbd := coL_bd (l.take i)
    have hbd2 := costK_bd (l.getD i Cel.no).k
    have hlt : ((l.take i).length : Int) ≤ 24 := by rw [List.length_take]; omega
    (repeat (first | refine gq_KGS ?_ | (refine ga1A ?_; intro _q ⟨_he, _hq⟩) | refine gdA ?_))
    exact ⟨i + 1, h6, ⟨by rfl, zHE, zHE⟩, (by first | omega | (dsimp only; omega))⟩
  · have hd : decide ((i : Int) < (l.length : Int)) = false := by simp; omega
    have e : l.take i = l := List.take_of_length_le h6
    rw [e]
    (repeat (first | refine gq_KGS ?_ | (refine ga1A ?_; intro _q ⟨_he, _hq⟩)))
    (refine rtA ?_; try rfl)
def prF (c : List Gt) : Nat → List (Gt × Int)
  | 0 => []
  | k + 1 => prF c k ++ [(c.getD k Cel.no, sst (c.getD k Cel.no) (prF c k) 1)]
theorem stpS_pr (c : List Gt) : ∀ k, k ≤ c.length → stpS [] c = (prF c k).map Prod.snd ++ stpS (prF c k) (c.drop k)
  | 0, _ => rfl
  | k + 1, hk => by
    rw [stpS_pr c k (by omega), dropG (show k < c.length by omega), stpS, prF, List.map_append, List.append_assoc]
    rfl
theorem stpS_all (c : List Gt) : stpS [] c = (prF c c.length).map Prod.snd := by
  rw [stpS_pr c c.length (Nat.le_refl _), List.drop_length, stpS, List.append_nil]
theorem sst_le (g : Gt) {m : Int} : ∀ (l : List (Gt × Int)) (s : Int), (∀ p ∈ l, p.2 ≤ m) → s ≤ m + 1 → sst g l s ≤ m + 1
  | [], s, _, h => h
  | p :: l, s, hl, h => by
    rw [sst]
    refine sst_le g l _ (fun q hq => hl q (List.mem_cons_of_mem _ hq)) ?_
    have := hl p List.mem_cons_self
    unfold mxD
    split <;> (try split) <;> omega
theorem prF_bd (c : List Gt) : ∀ k, ∀ p ∈ prF c k, 1 ≤ p.2 ∧ p.2 ≤ (k : Int)
  | 0, p, hp => by cases hp
  | k + 1, p, hp => by
    rw [prF, List.mem_append, List.mem_singleton] at hp
    rcases hp with hp | rfl
    · have := prF_bd c k p hp; omega
    · have h1 := (sst_mx (c.getD k Cel.no) (prF c k) 1).1
      have h2 := sst_le (c.getD k Cel.no) (m := (k : Int)) (prF c k) 1 (fun p hp => (prF_bd c k p hp).2) (by omega)
      dsimp only
      omega
theorem gq_LI {H G : Prop} (k : H) (h : Hid H → G := by (intro hh; repeat1' (first | (first | (refine nxA ?_; (first | (first | refine r_slen (by rfl) Tryz.underlying9 (by rfl) ?_ | refine r_sidx (by rfl) (by rfl) Tryz.underlying9 (by omega) (by rfl) ?_ | refine r_spiece (by rfl) (by rfl) (by rfl) Tryz.underlying9 (.inr rfl) (.inr rfl) (by omega) (by rfl) ?_ | refine r_spiece (by rfl) (by rfl) (by rfl) Tryz.underlying9 (.inr rfl) (.inl ⟨rfl, rfl⟩) (by omega) (by rfl) ?_ | refine r_bsub (by rfl) (by rfl) (fun w => by rfl) (by omega) (by rfl) ?_ | refine r_b2i (by rfl) (fun w => by rfl) (by omega) (by rfl) ?_) | ((first | (refine z_op (by rfl) ?_; first | refine z_ok ?_ ?_ | refine z_ex ?_ (by first | exact zL1 | ((first | fail); exact zWW) | exact zL2 | (first | exact rw_c (List UInt8) rfl) | exact zL3 | fail) ?_) | ((first | refine q_callE wsT wsZ (by rfl) ?_ | refine q_callVE wsT (by rfl) (by rfl) ?_); refine ⟨_, _, _, (by first | assumption | exact k_l1In _ _ _), _, by rfl, ?_, ?_⟩)); focus (first | exact trivial | fail | exact zQZ)) | fail)) | refine swA ?_) | refine awA ?_); exact hh.out)) : G := h ⟨k⟩
abbrev sRow (l : List (List UInt8)) : Ent := rwE 9 l
abbrev vU (n : Int) : AV := .g (.one (.v (.int .u8 n)))
theorem take_snoc {s : List UInt8} {f k : Nat} (hf : f ≤ k) (hk : k < s.length) : (s.drop f).take (k + 1 - f) = (s.drop f).take (k - f) ++ [s.getD k 0] := by
  have h1 : k - f < (s.drop f).length := by rw [List.length_drop]; omega
  rw [show k + 1 - f = k - f + 1 by omega, List.take_add_one, List.getElem?_drop, show f + (k - f) = k by omega]
  simp [List.getD_eq_getElem?_getD, hk]
theorem drop_cons {s : List UInt8} {k : Nat} (hk : k < s.length) : s.drop k = s.getD k 0 :: s.drop (k + 1) := by
  rw [List.drop_eq_getElem_cons hk]
  simp [List.getD_eq_getElem?_getD, hk]
theorem u8_eq (b : UInt8) : ((b.toNat : Int) == 32) = (b == 32) := by
  rw [Bool.eq_iff_iff, beq_iff_eq, beq_iff_eq]
  constructor
  · intro h; exact UInt8.toNat_inj.1 (by have : (32 : UInt8).toNat = 32 := rfl; omega)
  · rintro rfl; rfl
set_option maxHeartbeats 2000000 in
theorem k_cut (s : List UInt8) (hs : s.length ≤ 7000000) : Kon Tryz.prog 93 [vS s, vU 32] [] (slA 0 0 (cutA 32 [] s)) [sRow (cutA 32 [] s)] [] := by
  (refine kM Tryz.func93 rfl ?_; intro hfit hfe)
  (repeat (first | refine gq_LI ?_ | (refine ga0A ?_; intro _hq)))
  (refine aw_rd [0, 1, 4] [] (fun g : Nat × Nat × Nat × List (List UInt8) => [(5, .g (.one (.sl 128 g.2.2.1 g.2.2.2.length))), (6, vI g.2.1), (7, vI g.1)]) (fun g => [(128, (g.2.2.1, sRow g.2.2.2))]) (fun g => g.1 ≤ s.length ∧ g.2.1 ≤ g.1 ∧ g.2.2.2.length ≤ g.1 ∧ g.2.2.2 ++ cutA 32 ((s.drop g.2.1).take (g.1 - g.2.1)) (s.drop g.1) = cutA 32 [] s) (fun g => s.length - g.1) (0, 0, 0, []) (by rfl) (by rfl) ?_ (by rfl) zHE zHE ?_)
  · exact ⟨Nat.zero_le _, Nat.le_refl _, Nat.le_refl _, rfl⟩
  rintro ⟨k, f, u, o⟩ ⟨h1, h2, h3, hz⟩
  dsimp only at h1 h2 h3 hz ⊢
  rcases Nat.lt_or_ge k s.length with h5 | h5
  · have hd : decide ((k : Int) < (s.length : Int)) = true := decide_eq_true (by omega)
    have hq := u8_eq (s.getD (k : Int).toNat 0)
    rw [drop_cons h5, cutA] at hz
    cases hb : (s.getD k 0 == 32) with
    | true =>
      rw [hb, if_pos rfl] at hz
      rw [show s.getD (k : Int).toNat 0 = s.getD k 0 from rfl, hb] at hq
      have hinv : k + 1 ≤ s.length ∧ k + 1 ≤ k + 1 ∧ (o ++ [(s.drop f).take (k - f)]).length ≤ k + 1 ∧ (o ++ [(s.drop f).take (k - f)]) ++ cutA 32 ((s.drop (k + 1)).take (k + 1 - (k + 1))) (s.drop (k + 1)) = cutA 32 [] s := by
        refine ⟨h5, Nat.le_refl _, by simp; omega, ?_⟩
        rw [Nat.sub_self, List.take_zero, List.append_assoc]; exact hz
      clear hz
      (repeat (first | refine gq_LI ?_ | (refine ga0A ?_; intro _hq)))
      exact ⟨(k + 1, k + 1, u + 1, o ++ [(s.drop f).take (k - f)]), hinv, ⟨by rfl, zHE, zHE⟩, (by first | omega | (dsimp only; omega))⟩
    | false =>
      rw [hb, if_neg (by decide)] at hz
      rw [show s.getD (k : Int).toNat 0 = s.getD k 0 from rfl, hb] at hq
      have hinv : k + 1 ≤ s.length ∧ f ≤ k + 1 ∧ o.length ≤ k + 1 ∧ o ++ cutA 32 ((s.drop f).take (k + 1 - f)) (s.drop (k + 1)) = cutA 32 [] s := by
        refine ⟨h5, by omega, by omega, ?_⟩
        rw [take_snoc h2 h5]; exact hz
      clear hz
      (repeat (first | refine gq_LI ?_ | (refine ga0A ?_; intro _hq)))
      exact ⟨(k + 1, f, u, o), hinv, ⟨by rfl, zHE, zHE⟩, (by first | omega | (dsimp only; omega))⟩
  · have hd : decide ((k : Int) < (s.length : Int)) = false := decide_eq_false (by omega)
    obtain rfl : k = s.length := by omega
    rw [List.drop_of_length_le (Nat.le_refl _), cutA] at hz
    rw [← hz]
    clear hz
    (repeat (first | refine gq_LI ?_ | (refine ga0A ?_; intro _hq)))
    (refine rtA ?_; try rfl)
theorem u8_lt (b : UInt8) : decide ((b.toNat : Int) < 48) = decide (b < 48) := by
  have h : (48 : UInt8).toNat = 48 := rfl
  by_cases hb : b < 48
  · rw [decide_eq_true hb]
    have := UInt8.lt_iff_toNat_lt.1 hb
    exact decide_eq_true (by omega)
  · rw [decide_eq_false hb]
    have : ¬ b.toNat < (48 : UInt8).toNat := fun h => hb (UInt8.lt_iff_toNat_lt.2 h)
    exact decide_eq_false (by omega)
theorem u8_gt (b : UInt8) : decide ((b.toNat : Int) > 57) = decide (b > 57) := by
  have h : (57 : UInt8).toNat = 57 := rfl
  by_cases hb : b > 57
  · rw [decide_eq_true hb]
    have := UInt8.lt_iff_toNat_lt.1 hb
    exact decide_eq_true (by omega)
  · rw [decide_eq_false hb]
    have : ¬ (57 : UInt8).toNat < b.toNat := fun h => hb (UInt8.lt_iff_toNat_lt.2 h)
    exact decide_eq_false (by omega)
theorem dgA_drop {s : List UInt8} {k : Nat} {m : Int} (hk : k < s.length) : dgA m (s.drop k) = if s.getD k 0 < 48 || s.getD k 0 > 57 then -1 else dgA (10 * m + (((s.getD k 0).toNat : Int) - 48)) (s.drop (k + 1)) := by
  rw [drop_cons hk, dgA]
theorem k_dig (s : List UInt8) : Kon Tryz.prog 94 [vS s] [] (vI (dgs s)) [] [] := by
  have hI := k_l1In (s.length : Int) 1 4
  cases hb : btw (s.length : Int) 1 4 with
  | false =>
    have e : dgs s = -1 := by
      have h1 : (decide (1 ≤ s.length) && decide (s.length ≤ 4)) = false := by
        rw [← hb]; unfold btw
        rw [Bool.eq_iff_iff]; simp; omega
      unfold dgs; rw [h1]; rfl
    rw [e]
    rw [hb] at hI
    (refine kM Tryz.func94 rfl ?_; intro hfit hfe)
    (repeat (first | refine gq_LI ?_ | (refine ga0A ?_; intro _hq)))
    (refine rtA ?_; try rfl)
  | true =>
    have hl := btw_t hb
    rw [hb] at hI
    have h1 : (decide (1 ≤ s.length) && decide (s.length ≤ 4)) = true := by
      rw [← hb]; unfold btw
      rw [Bool.eq_iff_iff]; simp; omega
    have e : dgs s = if (decide (1 < s.length) && s.getD 0 0 == 48) = true then -1 else dgA 0 s := by
      unfold dgs; rw [h1]; rfl
    rw [e]
    clear e hb h1
    rcases Nat.lt_or_ge 1 s.length with h2 | h2
    · have hg : decide ((s.length : Int) > 1) = true := decide_eq_true (by omega)
      rw [decide_eq_true h2, Bool.true_and]
      have hq : (((s.getD (0 : Int).toNat 0).toNat : Int) == 48) = (s.getD 0 0 == 48) := by
        rw [Bool.eq_iff_iff, beq_iff_eq, beq_iff_eq]
        constructor
        · intro h; exact UInt8.toNat_inj.1 (by have : (48 : UInt8).toNat = 48 := rfl; have h' : ((s.getD 0 0).toNat : Int) = 48 := h; omega)
        · intro h; show ((s.getD 0 0).toNat : Int) = 48; rw [h]; rfl
      cases hz : (s.getD 0 0 == 48) with
      | true =>
        rw [hz] at hq
        rw [if_pos rfl]
        (refine kM Tryz.func94 rfl ?_; intro hfit hfe)
        (repeat (first | refine gq_LI ?_ | (refine ga0A ?_; intro _hq)))
        (refine rtA ?_; try rfl)
      | false =>
        rw [hz] at hq
        rw [if_neg (by decide)]
        (refine kM Tryz.func94 rfl ?_; intro hfit hfe)
        (repeat (first | refine gq_LI ?_ | (refine ga0A ?_; intro _hq)))
        (refine aw_rd [0, 2] [] (fun g : Nat × Int => [(3, vI g.2), (4, vI g.1)]) (fun _ => []) (fun g => g.1 ≤ s.length ∧ (0 ≤ g.2 ∧ g.2 < 10 ^ g.1) ∧ dgA g.2 (s.drop g.1) = dgA 0 s) (fun g => s.length - g.1) (0, 0) (by rfl) (by rfl) ?_ (by rfl) zHE zHE ?_)
        · exact ⟨Nat.zero_le _, ⟨Int.le_refl _, by decide⟩, rfl⟩
        rintro ⟨k, m⟩ ⟨h3, h4, hz3⟩
        dsimp only at h3 h4 hz3 ⊢
        rcases Nat.lt_or_ge k s.length with h5 | h5
        · have hd : decide ((k : Int) < (s.length : Int)) = true := decide_eq_true (by omega)
          have hp : (10 : Int) ^ (k + 1) = 10 ^ k * 10 := Int.pow_succ 10 k
          have hp3 : (10 : Int) ^ k ≤ 1000 := by
            have : k = 0 ∨ k = 1 ∨ k = 2 ∨ k = 3 := by omega
            rcases this with rfl | rfl | rfl | rfl <;> decide
          have hlo := u8_lt (s.getD (k : Int).toNat 0)
          have hhi := u8_gt (s.getD (k : Int).toNat 0)
          rw [dgA_drop h5] at hz3
          rw [show s.getD (k : Int).toNat 0 = s.getD k 0 from rfl] at hlo hhi
          have hle := (s.getD k 0).toNat_lt
          cases hx : decide (s.getD k 0 < 48) with
          | true =>
            rw [hx] at hlo hz3
            rw [Bool.true_or, if_pos rfl] at hz3
            rw [← hz3]
            clear hz3
            (repeat (first | refine gq_LI ?_ | (refine ga0A ?_; intro _hq)))
            (refine rtA ?_; try rfl)
          | false =>
            rw [hx] at hlo hz3
            rw [Bool.false_or] at hz3
            cases hy : decide (s.getD k 0 > 57) with
            | true =>
              rw [hy] at hhi hz3
              rw [if_pos rfl] at hz3
              rw [← hz3]
              clear hz3
              (repeat (first | refine gq_LI ?_ | (refine ga0A ?_; intro _hq)))
              (refine rtA ?_; try rfl)
            | false =>
              rw [hy] at hhi hz3
              rw [if_neg (by decide)] at hz3
              have g1 := of_decide_eq_false hlo
              have g2 := of_decide_eq_false hhi
              have g3 : ¬ ((s.getD (k : Int).toNat 0).toNat : Int) < 48 := g1
              have g4 : ¬ ((s.getD (k : Int).toNat 0).toNat : Int) > 57 := g2
              have hinv : k + 1 ≤ s.length ∧ (0 ≤ 10 * m + (((s.getD k 0).toNat : Int) - 48) ∧ 10 * m + (((s.getD k 0).toNat : Int) - 48) < 10 ^ (k + 1)) ∧ dgA (10 * m + (((s.getD k 0).toNat : Int) - 48)) (s.drop (k + 1)) = dgA 0 s := ⟨h5, ⟨by omega, by omega⟩, hz3⟩
              clear hz3
              (repeat (first | refine gq_LI ?_ | (refine ga0A ?_; intro _hq)))
              exact ⟨(k + 1, 10 * m + (((s.getD k 0).toNat : Int) - 48)), hinv, ⟨by rfl, zHE, zHE⟩, (by first | omega | (dsimp only; omega))⟩
        · have hd : decide ((k : Int) < (s.length : Int)) = false := decide_eq_false (by omega)
          obtain rfl : k = s.length := by omega
          rw [List.drop_of_length_le (Nat.le_refl _), dgA] at hz3
          rw [← hz3]
          clear hz3
          (repeat (first | refine gq_LI ?_ | (refine ga0A ?_; intro _hq)))
          (refine rtA ?_; try rfl)
    · have hg : decide ((s.length : Int) > 1) = false := decide_eq_false (by omega)
      rw [decide_eq_false (by omega), Bool.false_and, if_neg (by decide)]
      (refine kM Tryz.func94 rfl ?_; intro hfit hfe)
      (repeat (first | refine gq_LI ?_ | (refine ga0A ?_; intro _hq)))
      (refine aw_rd [0, 2] [] (fun g : Nat × Int => [(3, vI g.2), (4, vI g.1)]) (fun _ => []) (fun g => g.1 ≤ s.length ∧ (0 ≤ g.2 ∧ g.2 < 10 ^ g.1) ∧ dgA g.2 (s.drop g.1) = dgA 0 s) (fun g => s.length - g.1) (0, 0) (by rfl) (by rfl) ?_ (by rfl) zHE zHE ?_)
      · exact ⟨Nat.zero_le _, ⟨Int.le_refl _, by decide⟩, rfl⟩
      rintro ⟨k, m⟩ ⟨h3, h4, hz3⟩
      dsimp only at h3 h4 hz3 ⊢
      rcases Nat.lt_or_ge k s.length with h5 | h5
      · have hd : decide ((k : Int) < (s.length : Int)) = true := decide_eq_true (by omega)
        have hp : (10 : Int) ^ (k + 1) = 10 ^ k * 10 := Int.pow_succ 10 k
        have hp3 : (10 : Int) ^ k ≤ 1000 := by
          have : k = 0 ∨ k = 1 ∨ k = 2 ∨ k = 3 := by omega
          rcases this with rfl | rfl | rfl | rfl <;> decide
        have hlo := u8_lt (s.getD (k : Int).toNat 0)
        have hhi := u8_gt (s.getD (k : Int).toNat 0)
        rw [dgA_drop h5] at hz3
        rw [show s.getD (k : Int).toNat 0 = s.getD k 0 from rfl] at hlo hhi
        have hle := (s.getD k 0).toNat_lt
        cases hx : decide (s.getD k 0 < 48) with
        | true =>
          rw [hx] at hlo hz3
          rw [Bool.true_or, if_pos rfl] at hz3
          rw [← hz3]
          clear hz3
          (repeat (first | refine gq_LI ?_ | (refine ga0A ?_; intro _hq)))
          (refine rtA ?_; try rfl)
        | false =>
          rw [hx] at hlo hz3
          rw [Bool.false_or] at hz3
          cases hy : decide (s.getD k 0 > 57) with
          | true =>
            rw [hy] at hhi hz3
            rw [if_pos rfl] at hz3
            rw [← hz3]
            clear hz3
            (repeat (first | refine gq_LI ?_ | (refine ga0A ?_; intro _hq)))
            (refine rtA ?_; try rfl)
          | false =>
            rw [hy] at hhi hz3
            rw [if_neg (by decide)] at hz3
            have g1 := of_decide_eq_false hlo
            have g2 := of_decide_eq_false hhi
            have g3 : ¬ ((s.getD (k : Int).toNat 0).toNat : Int) < 48 := g1
            have g4 : ¬ ((s.getD (k : Int).toNat 0).toNat : Int) > 57 := g2
            have hinv : k + 1 ≤ s.length ∧ (0 ≤ 10 * m + (((s.getD k 0).toNat : Int) - 48) ∧ 10 * m + (((s.getD k 0).toNat : Int) - 48) < 10 ^ (k + 1)) ∧ dgA (10 * m + (((s.getD k 0).toNat : Int) - 48)) (s.drop (k + 1)) = dgA 0 s := ⟨h5, ⟨by omega, by omega⟩, hz3⟩
            clear hz3
            (repeat (first | refine gq_LI ?_ | (refine ga0A ?_; intro _hq)))
            exact ⟨(k + 1, 10 * m + (((s.getD k 0).toNat : Int) - 48)), hinv, ⟨by rfl, zHE, zHE⟩, (by first | omega | (dsimp only; omega))⟩
      · have hd : decide ((k : Int) < (s.length : Int)) = false := decide_eq_false (by omega)
        obtain rfl : k = s.length := by omega
        rw [List.drop_of_length_le (Nat.le_refl _), dgA] at hz3
        rw [← hz3]
        clear hz3
        (repeat (first | refine gq_LI ?_ | (refine ga0A ?_; intro _hq)))
        (refine rtA ?_; try rfl)
end Go.Proofs.YtnenhckongccgaaGreatDoor
namespace Go.Proofs.YtnenhckongccgaaGreatDoor
set_option linter.unusedVariables false
set_option linter.unusedSimpArgs false
set_option maxRecDepth 20000
open Go.RowKit
open Go.Lib (decDigits)
attribute [local irreducible] runA runX AW
theorem gq_DR {H G : Prop} (k : H) (h : Hid H → G := by (intro hh; repeat1' (first | (first | (refine nxA ?_; (first | (first | refine r_seq (by rfl) (by rfl) (by rfl) ?_ | refine r_sne (by rfl) (by rfl) (by rfl) ?_) | ((first | (refine z_op (by rfl) ?_; first | refine z_ok ?_ ?_ | refine z_ex ?_ (by first | exact zL1 | ((first | fail); exact zWW) | exact zL2 | (first | exact rw_c Int rfl) | exact zL3 | fail) ?_) | ((first | refine q_callE wsT wsZ (by rfl) ?_ | refine q_callVE wsT (by rfl) (by rfl) ?_); refine ⟨_, _, _, (by first | assumption), _, by rfl, ?_, ?_⟩)); focus (first | exact trivial | fail | exact zQZ)) | fail)) | refine swA ?_) | refine awA ?_); exact hh.out)) : G := h ⟨k⟩
abbrev tupG (g : Gt) (b : Bool) : AV := .tup [.agg (gCs g), .one (.v (.bool b))]
set_option maxHeartbeats 4000000 in
theorem k_rgStrue (s : List UInt8) (hs : s.length ≤ 7000000) (hne : (s == []) = false) (ht : (!(gtx (rdS s) == s)) = true) : Kon Tryz.prog 95 [vS s] [] (tupG (if true = true then g0 else rdS s) (!true)) [] [] := by
  have hC := k_cut s hs
  unfold rdS at ht ⊢
  have hw := (cutA_len 32 s []).1
  generalize cutA 32 [] s = ws at *
  have hG := k_gtS ⟨kfd (ws.getD 0 []), wdD ws 1, wdD ws 2, wdD ws 3⟩
  rw [← kft_5 (ws.getD 0 [])] at ht hG ⊢
  have hA := k_dig (ws.getD (1 : Int).toNat Cel.no)
  have hB := k_dig (ws.getD (2 : Int).toNat Cel.no)
  have hD := k_dig (ws.getD (3 : Int).toNat Cel.no)
  (refine kM Tryz.func95 rfl ?_; intro hfit hfe)
  (repeat (first | refine gq_DR ?_ | (refine ga0A ?_; intro _hq) | refine gdA ?_))
  (refine aw_rd [0, 2, 3, 4, 5, 6] [32, 160, 176] (fun g : Nat × Int => [(7, vI g.1)]) (fun g => [(96, (0, .box (gCs ⟨g.2, 0, 0, 0⟩)))]) (fun g => g.1 ≤ 5 ∧ g.2 = kft (ws.getD 0 []) g.1) (fun g => 5 - g.1) (0, -1) (by rfl) (by rfl) ?_ (by rfl) zHE zHE ?_)
  · exact ⟨Nat.zero_le _, rfl⟩
  rintro ⟨j, kk⟩ ⟨hj, ek⟩
  dsimp only at hj ek ⊢
  rcases Nat.lt_or_ge j 5 with h1 | h1
  · have hd : decide ((j : Int) ≤ 4) = true := decide_eq_true (by omega)
    have hK := k_kindS (j : Int) (by omega)
    have ek2 : kft (ws.getD 0 []) (j + 1) = if (ws.getD 0 [] == gnm (j : Int)) = true then (j : Int) else kft (ws.getD 0 []) j := rfl
    cases hb : (ws.getD 0 [] == gnm (j : Int)) with
    | true =>
      rw [hb, if_pos rfl] at ek2
      have hinv : j + 1 ≤ 5 ∧ (j : Int) = kft (ws.getD 0 []) (j + 1) := ⟨h1, ek2.symm⟩
      replace hb : (ws.getD (0 : Int).toNat Cel.no == gnm (j : Int)) = true := hb
      (repeat (first | refine gq_DR ?_ | (refine ga0A ?_; intro _hq) | refine gdA ?_))
      exact ⟨(j + 1, (j : Int)), hinv, ⟨by rfl, zHE, zHE⟩, (by first | omega | (dsimp only; omega))⟩
    | false =>
      rw [hb, if_neg (by decide)] at ek2
      have hinv : j + 1 ≤ 5 ∧ kk = kft (ws.getD 0 []) (j + 1) := ⟨h1, ek.trans ek2.symm⟩
      replace hb : (ws.getD (0 : Int).toNat Cel.no == gnm (j : Int)) = false := hb
      (repeat (first | refine gq_DR ?_ | (refine ga0A ?_; intro _hq) | refine gdA ?_))
      exact ⟨(j + 1, kk), hinv, ⟨by rfl, zHE, zHE⟩, (by first | omega | (dsimp only; omega))⟩
  · obtain rfl : j = 5 := by omega
    have hd : decide (((5 : Nat) : Int) ≤ 4) = false := by decide
    rw [← ek] at ht hG ⊢
    have hl1 : 1 ≤ ws.length := hw
    rcases Nat.lt_or_ge 1 ws.length with l1 | l1
    · have d1 : decide ((1 : Int) < (ws.length : Int)) = true := decide_eq_true (by omega)
      rw [show wdD ws 1 = dgs (ws.getD 1 []) from if_pos l1] at ht hG ⊢
      rcases Nat.lt_or_ge 2 ws.length with l2 | l2
      · have d2 : decide ((1 + 1 : Int) < (ws.length : Int)) = true := decide_eq_true (by omega)
        rw [show wdD ws 2 = dgs (ws.getD 2 []) from if_pos l2] at ht hG ⊢
        rcases Nat.lt_or_ge 3 ws.length with l3 | l3
        · have d3 : decide ((1 + 1 + 1 : Int) < (ws.length : Int)) = true := decide_eq_true (by omega)
          rw [show wdD ws 3 = dgs (ws.getD 3 []) from if_pos l3] at ht hG ⊢
          rcases Nat.lt_or_ge 4 ws.length with l4 | l4
          · have d4 : decide ((1 + 1 + 1 + 1 : Int) < (ws.length : Int)) = true := decide_eq_true (by omega)
            (repeat (first | refine gq_DR ?_ | (refine ga0A ?_; intro _hq) | refine gdA ?_))
            refine aw_unroll 4 ?_
            (repeat (first | refine gq_DR ?_ | (refine ga0A ?_; intro _hq) | refine gdA ?_))
            (refine rtA ?_; try rfl)
          · have d4 : decide ((1 + 1 + 1 + 1 : Int) < (ws.length : Int)) = false := decide_eq_false (by omega)
            (repeat (first | refine gq_DR ?_ | (refine ga0A ?_; intro _hq) | refine gdA ?_))
            refine aw_unroll 4 ?_
            (repeat (first | refine gq_DR ?_ | (refine ga0A ?_; intro _hq) | refine gdA ?_))
            (refine rtA ?_; try rfl)
        · have d3 : decide ((1 + 1 + 1 : Int) < (ws.length : Int)) = false := decide_eq_false (by omega)
          rw [show wdD ws 3 = 0 from if_neg (by omega)] at ht hG ⊢
          (repeat (first | refine gq_DR ?_ | (refine ga0A ?_; intro _hq) | refine gdA ?_))
          refine aw_unroll 4 ?_
          (repeat (first | refine gq_DR ?_ | (refine ga0A ?_; intro _hq) | refine gdA ?_))
          (refine rtA ?_; try rfl)
      · have d2 : decide ((1 + 1 : Int) < (ws.length : Int)) = false := decide_eq_false (by omega)
        rw [show wdD ws 2 = 0 from if_neg (by omega), show wdD ws 3 = 0 from if_neg (by omega)] at ht hG ⊢
        (repeat (first | refine gq_DR ?_ | (refine ga0A ?_; intro _hq) | refine gdA ?_))
        refine aw_unroll 4 ?_
        (repeat (first | refine gq_DR ?_ | (refine ga0A ?_; intro _hq) | refine gdA ?_))
        (refine rtA ?_; try rfl)
    · have d1 : decide ((1 : Int) < (ws.length : Int)) = false := decide_eq_false (by omega)
      rw [show wdD ws 1 = 0 from if_neg (by omega), show wdD ws 2 = 0 from if_neg (by omega), show wdD ws 3 = 0 from if_neg (by omega)] at ht hG ⊢
      (repeat (first | refine gq_DR ?_ | (refine ga0A ?_; intro _hq) | refine gdA ?_))
      refine aw_unroll 4 ?_
      (repeat (first | refine gq_DR ?_ | (refine ga0A ?_; intro _hq) | refine gdA ?_))
      (refine rtA ?_; try rfl)
set_option maxHeartbeats 4000000 in
theorem k_rgSfalse (s : List UInt8) (hs : s.length ≤ 7000000) (hne : (s == []) = false) (ht : (!(gtx (rdS s) == s)) = false) : Kon Tryz.prog 95 [vS s] [] (tupG (if false = true then g0 else rdS s) (!false)) [] [] := by
  have hC := k_cut s hs
  unfold rdS at ht ⊢
  have hw := (cutA_len 32 s []).1
  generalize cutA 32 [] s = ws at *
  have hG := k_gtS ⟨kfd (ws.getD 0 []), wdD ws 1, wdD ws 2, wdD ws 3⟩
  rw [← kft_5 (ws.getD 0 [])] at ht hG ⊢
  have hA := k_dig (ws.getD (1 : Int).toNat Cel.no)
  have hB := k_dig (ws.getD (2 : Int).toNat Cel.no)
  have hD := k_dig (ws.getD (3 : Int).toNat Cel.no)
  (refine kM Tryz.func95 rfl ?_; intro hfit hfe)
  (repeat (first | refine gq_DR ?_ | (refine ga0A ?_; intro _hq) | refine gdA ?_))
  (refine aw_rd [0, 2, 3, 4, 5, 6] [32, 160, 176] (fun g : Nat × Int => [(7, vI g.1)]) (fun g => [(96, (0, .box (gCs ⟨g.2, 0, 0, 0⟩)))]) (fun g => g.1 ≤ 5 ∧ g.2 = kft (ws.getD 0 []) g.1) (fun g => 5 - g.1) (0, -1) (by rfl) (by rfl) ?_ (by rfl) zHE zHE ?_)
  · exact ⟨Nat.zero_le _, rfl⟩
  rintro ⟨j, kk⟩ ⟨hj, ek⟩
  dsimp only at hj ek ⊢
  rcases Nat.lt_or_ge j 5 with h1 | h1
  · have hd : decide ((j : Int) ≤ 4) = true := decide_eq_true (by omega)
    have hK := k_kindS (j : Int) (by omega)
    have ek2 : kft (ws.getD 0 []) (j + 1) = if (ws.getD 0 [] == gnm (j : Int)) = true then (j : Int) else kft (ws.getD 0 []) j := rfl
    cases hb : (ws.getD 0 [] == gnm (j : Int)) with
    | true =>
      rw [hb, if_pos rfl] at ek2
      have hinv : j + 1 ≤ 5 ∧ (j : Int) = kft (ws.getD 0 []) (j + 1) := ⟨h1, ek2.symm⟩
      replace hb : (ws.getD (0 : Int).toNat Cel.no == gnm (j : Int)) = true := hb
      (repeat (first | refine gq_DR ?_ | (refine ga0A ?_; intro _hq) | refine gdA ?_))
      exact ⟨(j + 1, (j : Int)), hinv, ⟨by rfl, zHE, zHE⟩, (by first | omega | (dsimp only; omega))⟩
    | false =>
      rw [hb, if_neg (by decide)] at ek2
      have hinv : j + 1 ≤ 5 ∧ kk = kft (ws.getD 0 []) (j + 1) := ⟨h1, ek.trans ek2.symm⟩
      replace hb : (ws.getD (0 : Int).toNat Cel.no == gnm (j : Int)) = false := hb
      (repeat (first | refine gq_DR ?_ | (refine ga0A ?_; intro _hq) | refine gdA ?_))
      exact ⟨(j + 1, kk), hinv, ⟨by rfl, zHE, zHE⟩, (by first | omega | (dsimp only; omega))⟩
  · obtain rfl : j = 5 := by omega
    have hd : decide (((5 : Nat) : Int) ≤ 4) = false := by decide
    rw [← ek] at ht hG ⊢
    have hl1 : 1 ≤ ws.length := hw
    rcases Nat.lt_or_ge 1 ws.length with l1 | l1
    · have d1 : decide ((1 : Int) < (ws.length : Int)) = true := decide_eq_true (by omega)
      rw [show wdD ws 1 = dgs (ws.getD 1 []) from if_pos l1] at ht hG ⊢
      rcases Nat.lt_or_ge 2 ws.length with l2 | l2
      · have d2 : decide ((1 + 1 : Int) < (ws.length : Int)) = true := decide_eq_true (by omega)
        rw [show wdD ws 2 = dgs (ws.getD 2 []) from if_pos l2] at ht hG ⊢
        rcases Nat.lt_or_ge 3 ws.length with l3 | l3
        · have d3 : decide ((1 + 1 + 1 : Int) < (ws.length : Int)) = true := decide_eq_true (by omega)
          rw [show wdD ws 3 = dgs (ws.getD 3 []) from if_pos l3] at ht hG ⊢
          rcases Nat.lt_or_ge 4 ws.length with l4 | l4
          · have d4 : decide ((1 + 1 + 1 + 1 : Int) < (ws.length : Int)) = true := decide_eq_true (by omega)
            (repeat (first | refine gq_DR ?_ | (refine ga0A ?_; intro _hq) | refine gdA ?_))
            refine aw_unroll 4 ?_
            (repeat (first | refine gq_DR ?_ | (refine ga0A ?_; intro _hq) | refine gdA ?_))
            (refine rtA ?_; try rfl)
          · have d4 : decide ((1 + 1 + 1 + 1 : Int) < (ws.length : Int)) = false := decide_eq_false (by omega)
            (repeat (first | refine gq_DR ?_ | (refine ga0A ?_; intro _hq) | refine gdA ?_))
            refine aw_unroll 4 ?_
            (repeat (first | refine gq_DR ?_ | (refine ga0A ?_; intro _hq) | refine gdA ?_))
            (refine rtA ?_; try rfl)
        · have d3 : decide ((1 + 1 + 1 : Int) < (ws.length : Int)) = false := decide_eq_false (by omega)
          rw [show wdD ws 3 = 0 from if_neg (by omega)] at ht hG ⊢
          (repeat (first | refine gq_DR ?_ | (refine ga0A ?_; intro _hq) | refine gdA ?_))
          refine aw_unroll 4 ?_
          (repeat (first | refine gq_DR ?_ | (refine ga0A ?_; intro _hq) | refine gdA ?_))
          (refine rtA ?_; try rfl)
      · have d2 : decide ((1 + 1 : Int) < (ws.length : Int)) = false := decide_eq_false (by omega)
        rw [show wdD ws 2 = 0 from if_neg (by omega), show wdD ws 3 = 0 from if_neg (by omega)] at ht hG ⊢
        (repeat (first | refine gq_DR ?_ | (refine ga0A ?_; intro _hq) | refine gdA ?_))
        refine aw_unroll 4 ?_
        (repeat (first | refine gq_DR ?_ | (refine ga0A ?_; intro _hq) | refine gdA ?_))
        (refine rtA ?_; try rfl)
    · have d1 : decide ((1 : Int) < (ws.length : Int)) = false := decide_eq_false (by omega)
      rw [show wdD ws 1 = 0 from if_neg (by omega), show wdD ws 2 = 0 from if_neg (by omega), show wdD ws 3 = 0 from if_neg (by omega)] at ht hG ⊢
      (repeat (first | refine gq_DR ?_ | (refine ga0A ?_; intro _hq) | refine gdA ?_))
      refine aw_unroll 4 ?_
      (repeat (first | refine gq_DR ?_ | (refine ga0A ?_; intro _hq) | refine gdA ?_))
      (refine rtA ?_; try rfl)
theorem k_rgSe : Kon Tryz.prog 95 [vS []] [] (tupG g0 false) [] [] := by
  have hC := k_cut [] (by decide)
  have hne : (([] : List UInt8) == []) = true := rfl
  have e : cutA 32 [] [] = [[]] := rfl
  rw [e] at hC
  have n0 : (([] : List UInt8) == gnm 0) = false := by decide
  have n1 : (([] : List UInt8) == gnm 1) = false := by decide
  have n2 : (([] : List UInt8) == gnm 2) = false := by decide
  have n3 : (([] : List UInt8) == gnm 3) = false := by decide
  have n4 : (([] : List UInt8) == gnm 4) = false := by decide
  have hK0 := k_kindS 0 (by decide)
  have hK1 := k_kindS 1 (by decide)
  have hK2 := k_kindS 2 (by decide)
  have hK3 := k_kindS 3 (by decide)
  have hK4 := k_kindS 4 (by decide)
  (refine kM Tryz.func95 rfl ?_; intro hfit hfe)
  (repeat (first | refine gq_DR ?_ | (refine ga0A ?_; intro _hq) | refine gdA ?_))
  refine aw_unroll 6 ?_
  (repeat (first | refine gq_DR ?_ | (refine ga0A ?_; intro _hq) | refine gdA ?_))
  refine aw_unroll 2 ?_
  (repeat (first | refine gq_DR ?_ | (refine ga0A ?_; intro _hq) | refine gdA ?_))
  (refine rtA ?_; try rfl)
end Go.Proofs.YtnenhckongccgaaGreatDoor
namespace Go.Proofs.YtnenhckongccgaaGreatDoor
set_option linter.unusedVariables false
open Go.Shelf Go.RowKit Go.Lib
def Tryz.laysC172_ren : Go.Shelf.Ren := ⟨fun | 172 => 114 | 244 => 149 | 245 => 150 | 247 => 168 | 279 => 169 | 280 => 170 | 281 => 171 | 282 => 172 | 287 => 185 | 316 => 186 | 171 => 80 | 205 => 187 | 321 => 199 | 322 => 200 | 243 => 116 | 246 => 153 | 283 => 174 | 284 => 175 | 285 => 176 | 286 => 177 | 129 => 192 | 317 => 191 | 318 => 193 | 319 => 194 | 320 => 195 | 337 => 204 | 338 => 205 | n => n, fun | 9 => 9 | 3 => 3 | 75 => 105 | 76 => 106 | 4 => 4 | 5 => 5 | 167 => 172 | 37 => 22 | 0 => 0 | 85 => 173 | 2 => 2 | 168 => 175 | 53 => 180 | 175 => 194 | 46 => 171 | 210 => 198 | 127 => 140 | 145 => 210 | 143 => 208 | 21 => 21 | 171 => 179 | 173 => 183 | 212 => 202 | 51 => 191 | 20 => 20 | 213 => 203 | 232 => 216 | 233 => 217 | 80 => 109 | n => n, fun | 15 => 1 | 16 => 2 | 17 => 3 | 18 => 4 | 19 => 5 | n => n⟩
theorem Tryz.laysC172 : Go.Proofs.LaysC.n172 Tryz.prog Tryz.laysC172_ren := {
  mixed := by kernel_rfl
  f129 := Tryz.func192.trans (congrArg some (by kernel_rfl))
  f171 := Tryz.func80.trans (congrArg some (by kernel_rfl))
  f172 := Tryz.func114.trans (congrArg some (by kernel_rfl))
  f205 := Tryz.func187.trans (congrArg some (by kernel_rfl))
  f243 := Tryz.func116.trans (congrArg some (by kernel_rfl))
  f244 := Tryz.func149.trans (congrArg some (by kernel_rfl))
  f245 := Tryz.func150.trans (congrArg some (by kernel_rfl))
  f246 := Tryz.func153.trans (congrArg some (by kernel_rfl))
  f247 := Tryz.func168.trans (congrArg some (by kernel_rfl))
  f279 := Tryz.func169.trans (congrArg some (by kernel_rfl))
  f280 := Tryz.func170.trans (congrArg some (by kernel_rfl))
  f281 := Tryz.func171.trans (congrArg some (by kernel_rfl))
  f282 := Tryz.func172.trans (congrArg some (by kernel_rfl))
  f283 := Tryz.func174.trans (congrArg some (by kernel_rfl))
  f284 := Tryz.func175.trans (congrArg some (by kernel_rfl))
  f285 := Tryz.func176.trans (congrArg some (by kernel_rfl))
  f286 := Tryz.func177.trans (congrArg some (by kernel_rfl))
  f287 := Tryz.func185.trans (congrArg some (by kernel_rfl))
  f316 := Tryz.func186.trans (congrArg some (by kernel_rfl))
  f317 := Tryz.func191.trans (congrArg some (by kernel_rfl))
  f318 := Tryz.func193.trans (congrArg some (by kernel_rfl))
  f319 := Tryz.func194.trans (congrArg some (by kernel_rfl))
  f320 := Tryz.func195.trans (congrArg some (by kernel_rfl))
  f321 := Tryz.func199.trans (congrArg some (by kernel_rfl))
  f322 := Tryz.func200.trans (congrArg some (by kernel_rfl))
  f337 := Tryz.func204.trans (congrArg some (by kernel_rfl))
  f338 := Tryz.func205.trans (congrArg some (by kernel_rfl))
  t0 := Tryz.underlying0
  a0 := Tryz.isAgg0
  z0 := Tryz.sizeOf0
  v0 := Tryz.zeroValue0
  t2 := Tryz.underlying2
  a2 := Tryz.isAgg2
  z2 := Tryz.sizeOf2
  v2 := Tryz.zeroValue2
  t3 := Tryz.underlying3
  a3 := Tryz.isAgg3
  z3 := Tryz.sizeOf3
  v3 := Tryz.zeroValue3
  t4 := Tryz.underlying4
  a4 := Tryz.isAgg4
  z4 := Tryz.sizeOf4
  v4 := Tryz.zeroValue4
  t5 := Tryz.underlying5
  a5 := Tryz.isAgg5
  z5 := Tryz.sizeOf5
  v5 := Tryz.zeroValue5
  t9 := Tryz.underlying9
  a9 := Tryz.isAgg9
  z9 := Tryz.sizeOf9
  v9 := Tryz.zeroValue9
  t20 := Tryz.underlying20
  a20 := Tryz.isAgg20
  z20 := Tryz.sizeOf20
  v20 := Tryz.zeroValue20
  t21 := Tryz.underlying21
  a21 := Tryz.isAgg21
  z21 := Tryz.sizeOf21
  v21 := Tryz.zeroValue21
  t37 := Tryz.underlying22
  a37 := Tryz.isAgg22
  z37 := Tryz.sizeOf22
  v37 := Tryz.zeroValue22
  t46 := Tryz.underlying171
  a46 := Tryz.isAgg171
  z46 := Tryz.sizeOf171
  v46 := Tryz.zeroValue171
  t51 := Tryz.underlying191
  a51 := Tryz.isAgg191
  z51 := Tryz.sizeOf191
  v51 := Tryz.zeroValue191
  t53 := Tryz.underlying180
  a53 := Tryz.isAgg180
  z53 := Tryz.sizeOf180
  v53 := Tryz.zeroValue180
  t75 := Tryz.underlying105
  a75 := Tryz.isAgg105
  z75 := Tryz.sizeOf105
  v75 := Tryz.zeroValue105
  t76 := Tryz.underlying106
  a76 := Tryz.isAgg106
  z76 := Tryz.sizeOf106
  v76 := Tryz.zeroValue106
  t85 := Tryz.underlying173
  a85 := Tryz.isAgg173
  z85 := Tryz.sizeOf173
  v85 := Tryz.zeroValue173
  t127 := Tryz.underlying140
  a127 := Tryz.isAgg140
  z127 := Tryz.sizeOf140
  v127 := Tryz.zeroValue140
  t143 := Tryz.underlying208
  a143 := Tryz.isAgg208
  z143 := Tryz.sizeOf208
  v143 := Tryz.zeroValue208
  t145 := Tryz.underlying210
  a145 := Tryz.isAgg210
  z145 := Tryz.sizeOf210
  v145 := Tryz.zeroValue210
  t167 := Tryz.underlying172
  a167 := Tryz.isAgg172
  z167 := Tryz.sizeOf172
  v167 := Tryz.zeroValue172
  t168 := Tryz.underlying175
  a168 := Tryz.isAgg175
  z168 := Tryz.sizeOf175
  v168 := Tryz.zeroValue175
  t171 := Tryz.underlying179
  a171 := Tryz.isAgg179
  z171 := Tryz.sizeOf179
  v171 := Tryz.zeroValue179
  t173 := Tryz.underlying183
  a173 := Tryz.isAgg183
  z173 := Tryz.sizeOf183
  v173 := Tryz.zeroValue183
  t175 := Tryz.underlying194
  a175 := Tryz.isAgg194
  z175 := Tryz.sizeOf194
  v175 := Tryz.zeroValue194
  t210 := Tryz.underlying198
  a210 := Tryz.isAgg198
  z210 := Tryz.sizeOf198
  v210 := Tryz.zeroValue198
  t212 := Tryz.underlying202
  a212 := Tryz.isAgg202
  z212 := Tryz.sizeOf202
  v212 := Tryz.zeroValue202
  t213 := Tryz.underlying203
  a213 := Tryz.isAgg203
  z213 := Tryz.sizeOf203
  t232 := Tryz.underlying216
  a232 := Tryz.isAgg216
  z232 := Tryz.sizeOf216
  v232 := Tryz.zeroValue216
  t233 := Tryz.underlying217
  a233 := Tryz.isAgg217
  z233 := Tryz.sizeOf217
  v233 := Tryz.zeroValue217
  g15 := by kernel_rfl
  g16 := by kernel_rfl
  g17 := by kernel_rfl
  g18 := by kernel_rfl
  g19 := by kernel_rfl
  t80 := Tryz.underlying109
  a80 := Tryz.isAgg109
  z80 := Tryz.sizeOf109
  v80 := Tryz.zeroValue109
  i0 := by kernel_rfl
  i2 := by kernel_rfl
  i3 := by kernel_rfl
  i4 := by kernel_rfl
  i5 := by kernel_rfl
  i9 := by kernel_rfl
  i20 := by kernel_rfl
  i21 := by kernel_rfl
  i37 := by kernel_rfl
  i46 := by kernel_rfl
  i51 := by kernel_rfl
  i53 := by kernel_rfl
  i75 := by kernel_rfl
  i76 := by kernel_rfl
  i80 := by kernel_rfl
  i85 := by kernel_rfl
  i127 := by kernel_rfl
  i143 := by kernel_rfl
  i145 := by kernel_rfl
  i167 := by kernel_rfl
  i168 := by kernel_rfl
  i171 := by kernel_rfl
  i173 := by kernel_rfl
  i175 := by kernel_rfl
  i210 := by kernel_rfl
  i212 := by kernel_rfl
  i232 := by kernel_rfl
  i233 := by kernel_rfl
  m15 := by kernel_rfl
  m16 := by kernel_rfl
  m17 := by kernel_rfl
  m18 := by kernel_rfl
  m19 := by kernel_rfl
  c0 := by kernel_rfl
  c2 := by kernel_rfl
  c3 := by kernel_rfl
  c4 := by kernel_rfl
  c5 := by kernel_rfl
  c9 := by kernel_rfl
  c20 := by kernel_rfl
  c21 := by kernel_rfl
  c37 := by kernel_rfl
  c46 := by kernel_rfl
  c51 := by kernel_rfl
  c53 := by kernel_rfl
  c75 := by kernel_rfl
  c76 := by kernel_rfl
  c80 := by kernel_rfl
  c85 := by kernel_rfl
  c127 := by kernel_rfl
  c143 := by kernel_rfl
  c145 := by kernel_rfl
  c167 := by kernel_rfl
  c168 := by kernel_rfl
  c171 := by kernel_rfl
  c173 := by kernel_rfl
  c175 := by kernel_rfl
  c210 := by kernel_rfl
  c212 := by kernel_rfl
  c213 := by kernel_rfl
  c232 := by kernel_rfl
  c233 := by kernel_rfl }
theorem Tryz.strconv_Atoi_ok (s : ByteArray) (hmax : s.size ≤ 9223372036854775806) (v : Int) (h : Lib.atoiAll s.data.toList = .ok v) (w : World) :
    Calls Tryz.prog 114 #[.string s] w fun e w' => e = .returned (.tuple #[.int .i64 v, .nilIface]) ∧ (w' = w ∨ ∃ t, w' = Lib.bytesWorld w 5 t) := Any.strconv_Atoi_ok Tryz.laysC172 s hmax v h w
theorem Tryz.strconv_Atoi_syntax (s : ByteArray) (hlim : s.size ≤ 281474976710656) (h : Lib.atoiAll s.data.toList = Lib.atoiAll []) (ev : Value) (w : World) (hv : w.cell? ⟨1, 0, none⟩ = some ev) (hev : ev = .nilIface ∨ ∃ te pe, ev = .iface te pe) :
    Calls Tryz.prog 114 #[.string s] w fun e w' => ∃ N, e = .returned (.tuple #[.int .i64 (0), .iface 175 (.pointer (some ⟨N, 0, none⟩))]) ∧ w.heap.size ≤ N ∧ w'.heap[N]? = some (.cells #[.string ⟨#[65, 116, 111, 105]⟩, .string s, ev] 198 (0, 0)) ∧ Below w.heap.size w w' := Any.strconv_Atoi_syntax Tryz.laysC172 s hlim h ev w hv hev
theorem Tryz.strconv_Atoi_range (s : ByteArray) (hlim : s.size ≤ 281474976710656) (h : Lib.atoiAll s.data.toList = .range) (ev : Value) (w : World) (hv : w.cell? ⟨2, 0, none⟩ = some ev) (hev : ev = .nilIface ∨ ∃ te pe, ev = .iface te pe) :
    Calls Tryz.prog 114 #[.string s] w fun e w' => ∃ N, e = .returned (.tuple #[.int .i64 (Lib.atoiSat s.data.toList), .iface 175 (.pointer (some ⟨N, 0, none⟩))]) ∧ w.heap.size ≤ N ∧ w'.heap[N]? = some (.cells #[.string ⟨#[65, 116, 111, 105]⟩, .string s, ev] 198 (0, 0)) ∧ Below w.heap.size w w' := Any.strconv_Atoi_range Tryz.laysC172 s hlim h ev w hv hev
def Tryz.lays146_ren : Go.Shelf.Ren := ⟨fun | 146 => 151 | 221 => 173 | 268 => 188 | 138 => 189 | 143 => 190 | 195 => 201 | 197 => 202 | 218 => 203 | 219 => 148 | 260 => 210 | 217 => 164 | 225 => 165 | 224 => 166 | 267 => 167 | 266 => 183 | 314 => 184 | n => n, fun | 9 => 9 | 31 => 33 | 3 => 3 | 4 => 4 | 0 => 0 | 105 => 211 | 21 => 21 | 5 => 5 | 46 => 171 | 119 => 221 | 139 => 224 | 138 => 223 | 146 => 192 | 51 => 191 | n => n, fun | 1 => 0 | 3 => 6 | 4 => 7 | n => n⟩
theorem Tryz.lays146 : Go.Proofs.Lays.n146 Tryz.prog Tryz.lays146_ren := {
  mixed := by kernel_rfl
  f138 := Tryz.func189.trans (congrArg some (by kernel_rfl))
  f143 := Tryz.func190.trans (congrArg some (by kernel_rfl))
  f146 := Tryz.func151.trans (congrArg some (by kernel_rfl))
  f195 := Tryz.func201.trans (congrArg some (by kernel_rfl))
  f197 := Tryz.func202.trans (congrArg some (by kernel_rfl))
  f217 := Tryz.func164.trans (congrArg some (by kernel_rfl))
  f218 := Tryz.func203.trans (congrArg some (by kernel_rfl))
  f219 := Tryz.func148.trans (congrArg some (by kernel_rfl))
  f221 := Tryz.func173.trans (congrArg some (by kernel_rfl))
  f224 := Tryz.func166.trans (congrArg some (by kernel_rfl))
  f225 := Tryz.func165.trans (congrArg some (by kernel_rfl))
  f260 := Tryz.func210.trans (congrArg some (by kernel_rfl))
  f266 := Tryz.func183.trans (congrArg some (by kernel_rfl))
  f267 := Tryz.func167.trans (congrArg some (by kernel_rfl))
  f268 := Tryz.func188.trans (congrArg some (by kernel_rfl))
  f314 := Tryz.func184.trans (congrArg some (by kernel_rfl))
  t0 := Tryz.underlying0
  a0 := Tryz.isAgg0
  z0 := Tryz.sizeOf0
  v0 := Tryz.zeroValue0
  t3 := Tryz.underlying3
  a3 := Tryz.isAgg3
  z3 := Tryz.sizeOf3
  v3 := Tryz.zeroValue3
  t4 := Tryz.underlying4
  a4 := Tryz.isAgg4
  z4 := Tryz.sizeOf4
  v4 := Tryz.zeroValue4
  t5 := Tryz.underlying5
  a5 := Tryz.isAgg5
  z5 := Tryz.sizeOf5
  v5 := Tryz.zeroValue5
  t9 := Tryz.underlying9
  a9 := Tryz.isAgg9
  z9 := Tryz.sizeOf9
  v9 := Tryz.zeroValue9
  t21 := Tryz.underlying21
  a21 := Tryz.isAgg21
  z21 := Tryz.sizeOf21
  v21 := Tryz.zeroValue21
  t31 := Tryz.underlying33
  a31 := Tryz.isAgg33
  z31 := Tryz.sizeOf33
  v31 := Tryz.zeroValue33
  t46 := Tryz.underlying171
  a46 := Tryz.isAgg171
  z46 := Tryz.sizeOf171
  v46 := Tryz.zeroValue171
  t51 := Tryz.underlying191
  a51 := Tryz.isAgg191
  z51 := Tryz.sizeOf191
  v51 := Tryz.zeroValue191
  t105 := Tryz.underlying211
  a105 := Tryz.isAgg211
  z105 := Tryz.sizeOf211
  v105 := Tryz.zeroValue211
  t119 := Tryz.underlying221
  a119 := Tryz.isAgg221
  z119 := Tryz.sizeOf221
  t138 := Tryz.underlying223
  a138 := Tryz.isAgg223
  z138 := Tryz.sizeOf223
  v138 := Tryz.zeroValue223
  t139 := Tryz.underlying224
  a139 := Tryz.isAgg224
  z139 := Tryz.sizeOf224
  v139 := Tryz.zeroValue224
  t146 := Tryz.underlying192
  a146 := Tryz.isAgg192
  z146 := Tryz.sizeOf192
  v146 := Tryz.zeroValue192
  g1 := by kernel_rfl
  g3 := by kernel_rfl
  g4 := by kernel_rfl }
theorem Tryz.strings_Split (s sep : ByteArray) (m : Int) (w : World) (hs : s.size < 4294967281) (hm : w.cell? ⟨0, 0, none⟩ = some (.int .i64 m)) (h1 : 1 ≤ sep.size) :
    Calls Tryz.prog 151 #[.string s, .string sep] w fun e w' =>
      e = .returned (.slice (some ⟨w.heap.size, 0, none⟩) (Lib.countB s sep + 1) (Lib.countB s sep + 1)) ∧ w' = w.alloc (.cells ((Lib.splitB sep 0 (Lib.countB s sep) s).map Value.string).toArray 9) := Any.strings_Split Tryz.lays146 (by kernel_rfl) s sep m w hs hm h1
end Go.Proofs.YtnenhckongccgaaGreatDoor
namespace Go.Proofs.YtnenhckongccgaaGreatDoor
set_option linter.unusedVariables false
set_option linter.unusedSimpArgs false
set_option maxRecDepth 20000
open Go.RowKit
theorem str_data (b : ByteArray) : str b.data.toList = b := by
  obtain ⟨⟨l⟩⟩ := b
  rfl
theorem map_str {L : List ByteArray} {M : List (List UInt8)} (h : L.map (·.data.toList) = M) : L = M.map str := by
  rw [← h, List.map_map]
  conv => lhs; rw [← List.map_id L]
  apply List.map_congr_left
  intro a _
  exact (str_data a).symm
theorem cV_strs : ∀ M : List (List UInt8), cV M = M.map fun l => Value.string (str l)
  | [] => rfl
  | a :: M => by rw [cV_cons, cV_strs M]; rfl
theorem args1 {w : World} {ok : Nat → Prop} {x : Value} {vs : Array Value} (hsz : vs.size = [AV.g (.one (.v x))].length) (h : Args0 w ok [.g (.one (.v x))] vs) : vs = #[x] := by
  obtain ⟨z, hz, hr⟩ := h 0 _ rfl
  obtain ⟨xs⟩ := vs
  match xs, hsz with
  | [y], _ =>
    cases hz
    rw [show y = x from hr.1]
theorem args2 {w : World} {ok : Nat → Prop} {x x' : Value} {vs : Array Value} (hsz : vs.size = [AV.g (.one (.v x)), AV.g (.one (.v x'))].length) (h : Args0 w ok [.g (.one (.v x)), .g (.one (.v x'))] vs) : vs = #[x, x'] := by
  obtain ⟨z, hz, hr⟩ := h 0 _ rfl
  obtain ⟨z', hz', hr'⟩ := h 1 _ rfl
  obtain ⟨xs⟩ := vs
  match xs, hsz with
  | [y, y'], _ =>
    cases hz
    cases hz'
    rw [show y = x from hr.1, show y' = x' from hr'.1]
theorem alloc_new (w : World) (o : Obj) : (w.alloc o).heap[w.heap.size]? = some o := by
  show (w.heap.push o)[w.heap.size]? = _
  simp
theorem k_split (s : List UInt8) (hs : s.length ≤ 7000000) : Kon Tryz.prog 151 [vS s, vS [32]] [] (slA 0 0 (cutA 32 [] s)) [sRow (cutA 32 [] s)] [] := by
  refine kon_row (Go.Proofs.enters_of Tryz.func151 (by kernel_rfl) rfl) rfl ?_
  intro w ok vs hg hok hsz hargs
  obtain rfl := args2 hsz hargs
  obtain ⟨⟨m, hm⟩, _⟩ := hg.old
  have h1 : (str s).size = s.length := rfl
  have hK := Tryz.strings_Split (str s) (str [32]) m w (by rw [h1]; omega) hm (by decide)
  have e1 : (Go.Lib.splitB (str [32]) 0 (Go.Lib.countB (str s) (str [32])) (str s)) = (cutA 32 [] s).map str := by
    refine map_str ?_
    rw [Go.Lib.splitB_data]
    exact split_cut 32 s.length s (Nat.le_refl _)
  have e2 : Go.Lib.countB (str s) (str [32]) + 1 = (cutA 32 [] s).length := by
    have := Go.Lib.splitB_all (str [32]) (by decide) 0 _ (str s) rfl
    rw [e1, List.length_map] at this
    exact this.symm
  rw [e1, e2] at hK
  have hlen := cutA_len 32 s []
  refine hK.mono ?_
  rintro en W' ⟨rfl, rfl⟩
  refine ⟨_, rfl, ⟨cV_len _, .inr ⟨w.heap.size, (cutA 32 [] s).length, _, rfl, Nat.le_refl _, alloc_new w _, Nat.le_refl _, by unfold maxLen; omega, ?_, ?_⟩⟩, (Below.refl _ _).alloc (Nat.le_refl _) _⟩
  · simp [Cel.sz]
  · have e3 : (((cutA 32 [] s).map str).map Value.string).toArray.toList = cV (cutA 32 [] s) := by
      rw [cV_strs, List.map_map]; rfl
    rw [e3]
    exact List.take_of_length_le (Nat.le_of_eq (cV_len _))
abbrev tupI (n : Int) (e : AC) : AV := .tup [.one (.v (.int .i64 n)), .one e]
theorem k_atoiOk (s : List UInt8) (v : Int) (hs : s.length ≤ 7000000) (h : Go.Lib.atoiAll s = .ok v) : Kon Tryz.prog 114 [vS s] [] (tupI v (.v .nilIface)) [] [] := by
  refine kon_pure (Go.Proofs.enters_of Tryz.func114 (by kernel_rfl) rfl) rfl rfl ?_
  intro w ok vs hg hok hsz hargs
  obtain rfl := args1 hsz hargs
  have h1 : (str s).size = s.length := rfl
  refine (Tryz.strconv_Atoi_ok (str s) (by rw [h1]; omega) v h w).mono ?_
  rintro en W' ⟨rfl, hw⟩
  refine ⟨_, rfl, ?_, fun β G ok' => ⟨_, rfl, rfl, ?_⟩⟩
  · rcases hw with rfl | ⟨t, rfl⟩
    · exact Below.refl _ _
    · exact Go.Lib.bytesWorld_below _ _ _
  · intro j x hj
    rcases j with _ | _ | j
    · cases hj; exact ⟨_, rfl, rfl, rfl⟩
    · cases hj; exact ⟨_, rfl, rfl, rfl⟩
    · simp at hj
theorem k_atoiNo (s : List UInt8) (hs : s.length ≤ 7000000) (h : ∀ v, Go.Lib.atoiAll s ≠ .ok v) : ∃ n : Int, Kon Tryz.prog 114 [vS s] [] (tupI n .er) [] [] := by
  have h1 : (str s).size = s.length := rfl
  have fin : ∀ (w W' : World) (n : Int) (N : Nat) (t : TypeId) (en : Ending), en = .returned (.tuple #[.int .i64 n, .iface t (.pointer (some ⟨N, 0, none⟩))]) → Below w.heap.size w W' → ∃ v, en = .returned v ∧ Below w.heap.size w W' ∧ ∀ β G ok', (tupI n .er).rep W' β G ok' v := by
    rintro w W' n N t en rfl hB
    refine ⟨_, rfl, hB, fun β G ok' => ⟨_, rfl, rfl, ?_⟩⟩
    intro j x hj
    rcases j with _ | _ | j
    · cases hj; exact ⟨_, rfl, rfl, rfl⟩
    · cases hj; exact ⟨_, rfl, rfl, _, _, rfl⟩
    · simp at hj
  cases ha : Go.Lib.atoiAll s with
  | ok v => exact absurd ha (h v)
  | range =>
    refine ⟨Go.Lib.atoiSat s, kon_pure (Go.Proofs.enters_of Tryz.func114 (by kernel_rfl) rfl) rfl rfl ?_⟩
    intro w ok vs hg hok hsz hargs
    obtain rfl := args1 hsz hargs
    obtain ⟨_, _, ⟨t, p, hc⟩⟩ := hg.old
    refine (Tryz.strconv_Atoi_range (str s) (by rw [h1]; omega) ha _ w hc (.inr ⟨t, p, rfl⟩)).mono ?_
    rintro en W' ⟨N, he, _, _, hB⟩
    exact fin _ _ _ _ _ _ he hB
  | _ =>
    refine ⟨0, kon_pure (Go.Proofs.enters_of Tryz.func114 (by kernel_rfl) rfl) rfl rfl ?_⟩
    intro w ok vs hg hok hsz hargs
    obtain rfl := args1 hsz hargs
    obtain ⟨_, ⟨t, p, hc⟩, _⟩ := hg.old
    refine (Tryz.strconv_Atoi_syntax (str s) (by rw [h1]; omega) ha _ w hc (.inr ⟨t, p, rfl⟩)).mono ?_
    rintro en W' ⟨N, he, _, _, hB⟩
    exact fin _ _ _ _ _ _ he hB
end Go.Proofs.YtnenhckongccgaaGreatDoor
