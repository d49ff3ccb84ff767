/- DI, ShlC: laid into one text. -/
import Derived.Test.YtgphlcdinejmdaaGreatDoorQVS
import Derived.Shelf.Lays
import Derived.Shelf.Strings.Cut
import Derived.Test.YtgphlcdinejmdaaGreatDoorProg

/- ReadGate of the program. -/
namespace Go.Proofs.YtgphlcdinejmdaaGreatDoor
set_option linter.unusedVariables false
set_option linter.unusedSimpArgs false
set_option maxRecDepth 20000
open Go.RowKit
open Go.Lib (decDigits)
abbrev natAll : Value := .agg #[.string ⟨#[110, 111, 116]⟩, .int .i64 1, .int .i64 1, .int .i64 1, .string ⟨#[99, 111, 112, 121]⟩, .int .i64 3, .int .i64 2, .int .i64 1, .string ⟨#[98, 111, 116, 104]⟩, .int .i64 7, .int .i64 4, .int .i64 5, .string ⟨#[115, 119, 97, 112]⟩, .int .i64 3, .int .i64 3, .int .i64 3, .string ⟨#[105, 102]⟩, .int .i64 7, .int .i64 6, .int .i64 7]
def nkL (k : Int) : Int := if k = 0 then 1 else if k = 1 then 3 else if k = 2 then 7 else if k = 3 then 3 else 7
def nkM (k : Int) : Int := if k = 0 then 1 else if k = 1 then 2 else if k = 2 then 4 else if k = 3 then 3 else 6
def nkC (k : Int) : Int := if k = 0 then 1 else if k = 1 then 1 else if k = 2 then 5 else if k = 3 then 3 else 7
abbrev nkV (k : Int) : Value := .agg #[.string (str (gnm k)), .int .i64 (nkL k), .int .i64 (nkM k), .int .i64 (nkC k)]
theorem nat_idx (j : Int) (h : 0 ≤ j ∧ j ≤ 4) (w : World) : (Instr.index 90 natAll (.int .i64 j)).run Tryz.prog w = .ok (nkV j) w := by
  have e0 : ∀ w, (Instr.index 90 natAll (.int .i64 0)).run Tryz.prog w = .ok (nkV 0) w := fun w => by kernel_rfl
  have e1 : ∀ w, (Instr.index 90 natAll (.int .i64 1)).run Tryz.prog w = .ok (nkV 1) w := fun w => by kernel_rfl
  have e2 : ∀ w, (Instr.index 90 natAll (.int .i64 2)).run Tryz.prog w = .ok (nkV 2) w := fun w => by kernel_rfl
  have e3 : ∀ w, (Instr.index 90 natAll (.int .i64 3)).run Tryz.prog w = .ok (nkV 3) w := fun w => by kernel_rfl
  have e4 : ∀ w, (Instr.index 90 natAll (.int .i64 4)).run Tryz.prog w = .ok (nkV 4) w := fun w => by kernel_rfl
  have h' : j = 0 ∨ j = 1 ∨ j = 2 ∨ j = 3 ∨ j = 4 := by omega
  rcases h' with rfl | rfl | rfl | rfl | rfl
  · exact e0 w
  · exact e1 w
  · exact e2 w
  · exact e3 w
  · exact e4 w
theorem k_natV : Kon Tryz.prog 59 [] [] (ofv natAll) [] [] := k_natures
section
variable {T : Tab} {cf : FuncId → Option (List AV → Option Tmp → AM)} {Fs : Nat → Ft} {i : Nat} {rest : List Oper} {S : St} {K : St → Prop} {ops : Array Oper} {d : Tmp} {x y : Operand} {ty : TypeId} {pos : String} {af : Array Edge} {g : Option (Nat × Bool)}
theorem r_natG {j : Int} (hx : rdV (Fs i) S x = some natAll) (hy : rdV (Fs i) S y = some (.int .i64 j)) (h : 0 ≤ j ∧ j ≤ 4) (hw : (Fs i).sw d = true)
    (k : runX Fs Tryz.prog T cf ops (i + 1) rest (S.put d (some (.g (.agg [.v (.string (str (gnm j))), .v (.int .i64 (nkL j)), .v (.int .i64 (nkM j)), .v (.int .i64 (nkC j))])))) K) : runA Fs Tryz.prog T cf ops i ⟨some d, .index 90 x y, ty, pos, af, g⟩ rest S K := r_index hx hy (r := nkV j) (fun w => nat_idx j h w) rfl hw k
end
attribute [local irreducible] runA runX AW
theorem gq_DI {H G : Prop} (k : H) (h : Hid H → G := by (intro hh; (first | (first | ((first | refine r_none ?_ | refine r_gt (by rfl) (by rfl) (by first | rfl | assumption | omega | (simp only [*, Bool.not_false, Bool.not_true]; first | done | fail) | (simp [*]; first | done | fail)) (by rfl) ?_ | refine r_gf (by rfl) (by rfl) (by first | rfl | assumption | omega | (simp only [*, Bool.not_false, Bool.not_true]; first | done | fail) | (simp [*]; first | done | fail)) (by rfl) ?_); (first | (first | refine r_natG (by rfl) (by rfl) (by omega) (by rfl) ?_ | refine r_buildSb (by rfl) (by rfl) (by rfl) (by rfl) (by rfl) (by rfl) (by rfl) (by rfl) (by rfl) (by rfl) (by rfl) (by rfl) (by rfl) ?_ | refine r_indexAddr_sb (by rfl) (by rfl) (by rfl) (by rfl) (by rfl) (by rfl) (by omega) ?_ | refine r_len_sb (by rfl) (by rfl) (by rfl) (by rfl) (by rfl) ?_ | refine r_slen (by rfl) Tryz.underlying9 (by rfl) ?_ | refine r_sidx (by rfl) (by rfl) Tryz.underlying9 (by omega) (by rfl) ?_ | refine r_b2i (by rfl) (fun w => by rfl) (by omega) (by rfl) ?_ | refine r_seq (by rfl) (by rfl) (by rfl) ?_ | refine r_sne (by rfl) (by rfl) (by rfl) ?_) | ((first | (refine z_op (by rfl) ?_; first | refine z_ok ?_ ?_ | refine z_ex ?_ (by first | exact ft_raw rfl rfl | ((first | refine ft_rp rfl rfl rfl ?_ | refine ft_row rfl rfl rfl ?_ | refine ft_rpF rfl rfl rfl ?_ | refine ft_rowF rfl rfl rfl ?_ | refine up_row rfl rfl ?_ | refine up_rowF rfl rfl rfl ?_ | refine ct_0 rfl ?_ | refine ct_r rfl rfl ?_ | refine ct_c rfl rfl rfl ?_ | refine cu_all rfl ?_ | refine cu_to rfl ?_ | refine cu_from rfl ?_ | refine cu_p rfl ?_ | fail); (first | omega | (simp only [List.length_append, List.length_replicate, List.length_cons, List.length_nil, List.length_set, List.length_take, List.length_drop, true_and]; omega))) | exact up_raw rfl | exact pk_t (by first | rfl | assumption | omega | (simp only [*, Bool.not_false, Bool.not_true]; first | done | fail) | (simp [*]; first | done | fail)) rfl | exact pk_f (by first | rfl | assumption | omega | (simp only [*, Bool.not_false, Bool.not_true]; first | done | fail) | (simp [*]; first | done | fail)) rfl | fail | exact rw_raw | exact pu_cv (fun w => rfl) (by omega) | exact pu_of (fun w => rfl) rfl | exact be_of (fun w => rfl) | exact nc_of (fun _ _ _ _ => rfl) rfl | exact bu_of (fun w => rfl) rfl | fail) ?_) | ((first | refine q_callE wsT wsZ (by rfl) ?_ | refine q_callVE wsT (by rfl) (by rfl) ?_); refine ⟨_, _, _, (by first | assumption), _, by rfl, ?_, ?_⟩)); focus (first | exact trivial | fail | exact rfl | (first | omega | (simp only [List.length_append, List.length_replicate, List.length_cons, List.length_nil, List.length_set, List.length_take, List.length_drop, true_and]; omega)) | exact cvB (fun w => rfl) | ((repeat' (first | exact rfl | exact cV_len _ | exact cV_ln rfl (by omega) | exact Cel.pos | omega | exact trivial | refine And.intro ?_ ?_)); done) | (simp [*]; done) | (simp; omega))) | fail)) | refine r_nt (by rfl) (by rfl) (by first | rfl | assumption | omega | (simp only [*, Bool.not_false, Bool.not_true]; first | done | fail) | (simp [*]; first | done | fail)) (by rfl) ?_ | refine r_nf (by rfl) (by rfl) (by first | rfl | assumption | omega | (simp only [*, Bool.not_false, Bool.not_true]; first | done | fail) | (simp [*]; first | done | fail)) (by rfl) ?_ | refine r_gu (by rfl) (by rfl) (by rfl) ?_ | refine r_nil ?_) | (first | refine aw_seq ?_ | refine aw_ct (by rfl) (by first | rfl | assumption | omega | (simp only [*, Bool.not_false, Bool.not_true]; first | done | fail) | (simp [*]; first | done | fail)) ?_ | refine aw_cf (by rfl) (by first | rfl | assumption | omega | (simp only [*, Bool.not_false, Bool.not_true]; first | done | fail) | (simp [*]; first | done | fail)) ?_ | refine aw_block ?_ | refine aw_region T0ok cfU_ok (by rfl) ?_ | refine aw_skip ?_ | refine aw_exit ?_ | refine ra_step ?_)); (repeat (first | (first | ((first | refine r_none ?_ | refine r_gt (by rfl) (by rfl) (by first | rfl | assumption | omega | (simp only [*, Bool.not_false, Bool.not_true]; first | done | fail) | (simp [*]; first | done | fail)) (by rfl) ?_ | refine r_gf (by rfl) (by rfl) (by first | rfl | assumption | omega | (simp only [*, Bool.not_false, Bool.not_true]; first | done | fail) | (simp [*]; first | done | fail)) (by rfl) ?_); (first | (first | refine r_natG (by rfl) (by rfl) (by omega) (by rfl) ?_ | refine r_buildSb (by rfl) (by rfl) (by rfl) (by rfl) (by rfl) (by rfl) (by rfl) (by rfl) (by rfl) (by rfl) (by rfl) (by rfl) (by rfl) ?_ | refine r_indexAddr_sb (by rfl) (by rfl) (by rfl) (by rfl) (by rfl) (by rfl) (by omega) ?_ | refine r_len_sb (by rfl) (by rfl) (by rfl) (by rfl) (by rfl) ?_ | refine r_slen (by rfl) Tryz.underlying9 (by rfl) ?_ | refine r_sidx (by rfl) (by rfl) Tryz.underlying9 (by omega) (by rfl) ?_ | refine r_b2i (by rfl) (fun w => by rfl) (by omega) (by rfl) ?_ | refine r_seq (by rfl) (by rfl) (by rfl) ?_ | refine r_sne (by rfl) (by rfl) (by rfl) ?_) | ((first | (refine z_op (by rfl) ?_; first | refine z_ok ?_ ?_ | refine z_ex ?_ (by first | exact ft_raw rfl rfl | ((first | refine ft_rp rfl rfl rfl ?_ | refine ft_row rfl rfl rfl ?_ | refine ft_rpF rfl rfl rfl ?_ | refine ft_rowF rfl rfl rfl ?_ | refine up_row rfl rfl ?_ | refine up_rowF rfl rfl rfl ?_ | refine ct_0 rfl ?_ | refine ct_r rfl rfl ?_ | refine ct_c rfl rfl rfl ?_ | refine cu_all rfl ?_ | refine cu_to rfl ?_ | refine cu_from rfl ?_ | refine cu_p rfl ?_ | fail); (first | omega | (simp only [List.length_append, List.length_replicate, List.length_cons, List.length_nil, List.length_set, List.length_take, List.length_drop, true_and]; omega))) | exact up_raw rfl | exact pk_t (by first | rfl | assumption | omega | (simp only [*, Bool.not_false, Bool.not_true]; first | done | fail) | (simp [*]; first | done | fail)) rfl | exact pk_f (by first | rfl | assumption | omega | (simp only [*, Bool.not_false, Bool.not_true]; first | done | fail) | (simp [*]; first | done | fail)) rfl | fail | exact rw_raw | exact pu_cv (fun w => rfl) (by omega) | exact pu_of (fun w => rfl) rfl | exact be_of (fun w => rfl) | exact nc_of (fun _ _ _ _ => rfl) rfl | exact bu_of (fun w => rfl) rfl | fail) ?_) | ((first | refine q_callE wsT wsZ (by rfl) ?_ | refine q_callVE wsT (by rfl) (by rfl) ?_); refine ⟨_, _, _, (by first | assumption), _, by rfl, ?_, ?_⟩)); focus (first | exact trivial | fail | exact rfl | (first | omega | (simp only [List.length_append, List.length_replicate, List.length_cons, List.length_nil, List.length_set, List.length_take, List.length_drop, true_and]; omega)) | exact cvB (fun w => rfl) | ((repeat' (first | exact rfl | exact cV_len _ | exact cV_ln rfl (by omega) | exact Cel.pos | omega | exact trivial | refine And.intro ?_ ?_)); done) | (simp [*]; done) | (simp; omega))) | fail)) | refine r_nt (by rfl) (by rfl) (by first | rfl | assumption | omega | (simp only [*, Bool.not_false, Bool.not_true]; first | done | fail) | (simp [*]; first | done | fail)) (by rfl) ?_ | refine r_nf (by rfl) (by rfl) (by first | rfl | assumption | omega | (simp only [*, Bool.not_false, Bool.not_true]; first | done | fail) | (simp [*]; first | done | fail)) (by rfl) ?_ | refine r_gu (by rfl) (by rfl) (by rfl) ?_ | refine r_nil ?_) | (first | refine aw_seq ?_ | refine aw_ct (by rfl) (by first | rfl | assumption | omega | (simp only [*, Bool.not_false, Bool.not_true]; first | done | fail) | (simp [*]; first | done | fail)) ?_ | refine aw_cf (by rfl) (by first | rfl | assumption | omega | (simp only [*, Bool.not_false, Bool.not_true]; first | done | fail) | (simp [*]; first | done | fail)) ?_ | refine aw_block ?_ | refine aw_region T0ok cfU_ok (by rfl) ?_ | refine aw_skip ?_ | refine aw_exit ?_ | refine ra_step ?_))); exact hh.out)) : G := h ⟨k⟩
theorem ga_DI {H G : Prop} (k : H) (h : Hid H → G := by (intro hh; (first | refine r_none ?_ | refine r_gt (by rfl) (by rfl) (by first | rfl | assumption | omega | (simp only [*, Bool.not_false, Bool.not_true]; first | done | fail) | (simp [*]; first | done | fail)) (by rfl) ?_ | refine r_gf (by rfl) (by rfl) (by first | rfl | assumption | omega | (simp only [*, Bool.not_false, Bool.not_true]; first | done | fail) | (simp [*]; first | done | fail)) (by rfl) ?_); refine z_op (by rfl) ?_; refine z_alV ?_ hh.out; focus (first | exact trivial | fail | exact rfl | (first | omega | (simp only [List.length_append, List.length_replicate, List.length_cons, List.length_nil, List.length_set, List.length_take, List.length_drop, true_and]; omega)) | exact cvB (fun w => rfl) | ((repeat' (first | exact rfl | exact cV_len _ | exact cV_ln rfl (by omega) | exact Cel.pos | omega | exact trivial | refine And.intro ?_ ?_)); done) | (simp [*]; done) | (simp; omega)))) : G := h ⟨k⟩
theorem gd_DI {H G : Prop} (k : H) (h : Hid H → G := by (intro hh; (refine aw_draw mixed T0ok cfU_ok [] (by rfl) (by kernel_rfl) ?_); exact hh.out)) : G := h ⟨k⟩
theorem wdO_y {ws : List (List UInt8)} {m : Nat} (h1 : m < ws.length) (h2 : (ws.getD m []).length = 1) : wdO ws m = (((ws.getD m []).getD 0 0).toNat : Int) - 48 := by unfold wdO; rw [if_pos ⟨h1, h2⟩]
theorem wdO_n {ws : List (List UInt8)} {m : Nat} (h2 : (ws.getD m []).length ≠ 1) : wdO ws m = 0 := by unfold wdO; rw [if_neg (fun h => h2 h.2)]
/-- What the inner loop has found so far. -/
def At (ws : List (List UInt8)) (m i : Nat) : Int := if m ≤ i then wdO ws m else 0
set_option maxHeartbeats 8000000 in
theorem k_rgI0 (s : List UInt8) (hs : s.length ≤ 7000000) (hno : ∀ (j : Nat) (a b c : Int), gnm (j : Int) = (cutA 32 [] s).getD 0 [] → (gtx ⟨(j : Int), a, b, c⟩ == s) = false) : Kon Tryz.prog 31 [vS s] [] (tupG g0 false) [] [] := by
  have hS := k_split s hs
  have hN := k_natV
  have hw := (cutA_len 32 s []).1
  generalize cutA 32 [] s = ws at *
  (refine kon_mk T0ok (fn := Tryz.f31) (c := Tryz.f31.body.get rfl) Tryz.func31 rfl (by rfl) (by rfl) (by rfl) ?_; intro hfit hfe)
  (repeat (first | refine gq_DI ?_ | (refine ga_DI ?_; intro _hq) | refine gd_DI ?_))
  (refine aw_rd [0, 2, 4, 12] [32, 176] (fun j : Nat => [(13, vI j)]) (fun _ => []) (fun j => j ≤ 5) (fun j => 5 - j) 0 (by rfl) (by rfl) ?_ (by rfl) (by repeat (first | exact trivial | refine ⟨by rfl, ?_⟩ | refine ⟨vI_of (by rfl) (by omega), ?_⟩)) (by repeat (first | exact trivial | refine ⟨by rfl, ?_⟩ | refine ⟨vI_of (by rfl) (by omega), ?_⟩)) ?_)
  · exact Nat.zero_le _
  rintro j hj
  rcases Nat.lt_or_ge j 5 with h1 | h1
  · have hd : decide ((j : Int) < 5) = true := decide_eq_true (by omega)
    have hinv5 : j + 1 ≤ 5 := h1
    cases hb : (gnm (j : Int) == ws.getD (0 : Int).toNat Cel.no) with
    | false =>
      have hb2 : (!(gnm (j : Int) == ws.getD (0 : Int).toNat Cel.no)) = true := by rw [hb]; rfl
      (repeat (first | refine gq_DI ?_ | (refine ga_DI ?_; intro _hq) | refine gd_DI ?_))
      exact ⟨j + 1, hinv5, ⟨by rfl, (by repeat (first | exact trivial | refine ⟨by rfl, ?_⟩ | refine ⟨vI_of (by rfl) (by omega), ?_⟩)), (by repeat (first | exact trivial | refine ⟨by rfl, ?_⟩ | refine ⟨vI_of (by rfl) (by omega), ?_⟩))⟩, (by first | omega | (dsimp only; omega))⟩
    | true =>
      have hb2 : (!(gnm (j : Int) == ws.getD (0 : Int).toNat Cel.no)) = false := by rw [hb]; rfl
      (repeat (first | refine gq_DI ?_ | (refine ga_DI ?_; intro _hq) | refine gd_DI ?_))
      (refine aw_rd [0, 2, 4, 5, 7, 12, 13, 28, 29] [32, 176, 448] (fun g : Nat × Int × Int × Int => [(30, vI g.1)]) (fun g => [(112, (0, .box (gCs ⟨(j : Int), g.2.1, g.2.2.1, g.2.2.2⟩)))]) (fun g => g.1 ≤ 3 ∧ g.2.1 = At ws 1 g.1 ∧ g.2.2.1 = At ws 2 g.1 ∧ g.2.2.2 = At ws 3 g.1) (fun g => 3 - g.1) (0, 0, 0, 0) (by rfl) (by rfl) ?_ (by rfl) (by repeat (first | exact trivial | refine ⟨by rfl, ?_⟩ | refine ⟨vI_of (by rfl) (by omega), ?_⟩)) (by repeat (first | exact trivial | refine ⟨by rfl, ?_⟩ | refine ⟨vI_of (by rfl) (by omega), ?_⟩)) ?_)
      · exact ⟨Nat.zero_le _, rfl, rfl, rfl⟩
      rintro ⟨i, a, b, c⟩ ⟨hi, ea, eb, ec⟩
      dsimp only at hi ea eb ec ⊢
      have hi' : i = 0 ∨ i = 1 ∨ i = 2 ∨ i = 3 := by omega
      rcases hi' with rfl | rfl | rfl | rfl
      · have hg : decide (((0 : Nat) : Int) < ((3 : Nat) : Int)) = true := by decide
        rcases Nat.lt_or_ge 1 ws.length with l1 | l1
        · have dl : decide (((0 : Nat) : Int) + 1 < (ws.length : Int)) = true := decide_eq_true (by omega)
          by_cases l2 : (ws.getD 1 []).length = 1
          · have d2 : (((ws.getD (((0 : Nat) : Int) + 1).toNat Cel.no).length : Int) == 1) = true := by rw [show (ws.getD (((0 : Nat) : Int) + 1).toNat Cel.no).length = 1 from l2]; rfl
            have l3 : 0 < (ws.getD (((0 : Nat) : Int) + 1).toNat Cel.no).length := by rw [show (ws.getD (((0 : Nat) : Int) + 1).toNat Cel.no).length = 1 from l2]; decide
            have hle := ((ws.getD (((0 : Nat) : Int) + 1).toNat Cel.no).getD (0 : Int).toNat 0).toNat_lt
            have hinv : 1 ≤ 3 ∧ ((((ws.getD 1 []).getD 0 0).toNat : Int) - 48) = At ws 1 1 ∧ b = At ws 2 1 ∧ c = At ws 3 1 := ⟨by decide, (wdO_y l1 l2).symm, eb, ec⟩
            (repeat (first | refine gq_DI ?_ | (refine ga_DI ?_; intro _hq) | refine gd_DI ?_))
            exact ⟨(1, ((((ws.getD 1 []).getD 0 0).toNat : Int) - 48), b, c), hinv, ⟨by rfl, (by repeat (first | exact trivial | refine ⟨by rfl, ?_⟩ | refine ⟨vI_of (by rfl) (by omega), ?_⟩)), (by repeat (first | exact trivial | refine ⟨by rfl, ?_⟩ | refine ⟨vI_of (by rfl) (by omega), ?_⟩))⟩, (by first | omega | (dsimp only; omega))⟩
          · have d2 : (((ws.getD (((0 : Nat) : Int) + 1).toNat Cel.no).length : Int) == 1) = false := by rw [beq_eq_false_iff_ne]; intro h; exact l2 (by have : ((ws.getD 1 []).length : Int) = 1 := h; omega)
            have hinv : 1 ≤ 3 ∧ a = At ws 1 1 ∧ b = At ws 2 1 ∧ c = At ws 3 1 := ⟨by decide, (show a = wdO ws 1 from ea.trans (wdO_n l2).symm), eb, ec⟩
            (repeat (first | refine gq_DI ?_ | (refine ga_DI ?_; intro _hq) | refine gd_DI ?_))
            exact ⟨(1, a, b, c), hinv, ⟨by rfl, (by repeat (first | exact trivial | refine ⟨by rfl, ?_⟩ | refine ⟨vI_of (by rfl) (by omega), ?_⟩)), (by repeat (first | exact trivial | refine ⟨by rfl, ?_⟩ | refine ⟨vI_of (by rfl) (by omega), ?_⟩))⟩, (by first | omega | (dsimp only; omega))⟩
        · have dl : decide (((0 : Nat) : Int) + 1 < (ws.length : Int)) = false := decide_eq_false (by omega)
          have hinv : 1 ≤ 3 ∧ a = At ws 1 1 ∧ b = At ws 2 1 ∧ c = At ws 3 1 := ⟨by decide, (show a = wdO ws 1 from ea.trans (wdO_no l1).symm), eb, ec⟩
          (repeat (first | refine gq_DI ?_ | (refine ga_DI ?_; intro _hq) | refine gd_DI ?_))
          exact ⟨(1, a, b, c), hinv, ⟨by rfl, (by repeat (first | exact trivial | refine ⟨by rfl, ?_⟩ | refine ⟨vI_of (by rfl) (by omega), ?_⟩)), (by repeat (first | exact trivial | refine ⟨by rfl, ?_⟩ | refine ⟨vI_of (by rfl) (by omega), ?_⟩))⟩, (by first | omega | (dsimp only; omega))⟩
      · have hg : decide (((1 : Nat) : Int) < ((3 : Nat) : Int)) = true := by decide
        rcases Nat.lt_or_ge 2 ws.length with l1 | l1
        · have dl : decide (((1 : Nat) : Int) + 1 < (ws.length : Int)) = true := decide_eq_true (by omega)
          by_cases l2 : (ws.getD 2 []).length = 1
          · have d2 : (((ws.getD (((1 : Nat) : Int) + 1).toNat Cel.no).length : Int) == 1) = true := by rw [show (ws.getD (((1 : Nat) : Int) + 1).toNat Cel.no).length = 1 from l2]; rfl
            have l3 : 0 < (ws.getD (((1 : Nat) : Int) + 1).toNat Cel.no).length := by rw [show (ws.getD (((1 : Nat) : Int) + 1).toNat Cel.no).length = 1 from l2]; decide
            have hle := ((ws.getD (((1 : Nat) : Int) + 1).toNat Cel.no).getD (0 : Int).toNat 0).toNat_lt
            have hinv : 2 ≤ 3 ∧ a = At ws 1 2 ∧ ((((ws.getD 2 []).getD 0 0).toNat : Int) - 48) = At ws 2 2 ∧ c = At ws 3 2 := ⟨by decide, ea, (wdO_y l1 l2).symm, ec⟩
            (repeat (first | refine gq_DI ?_ | (refine ga_DI ?_; intro _hq) | refine gd_DI ?_))
            exact ⟨(2, a, ((((ws.getD 2 []).getD 0 0).toNat : Int) - 48), c), hinv, ⟨by rfl, (by repeat (first | exact trivial | refine ⟨by rfl, ?_⟩ | refine ⟨vI_of (by rfl) (by omega), ?_⟩)), (by repeat (first | exact trivial | refine ⟨by rfl, ?_⟩ | refine ⟨vI_of (by rfl) (by omega), ?_⟩))⟩, (by first | omega | (dsimp only; omega))⟩
          · have d2 : (((ws.getD (((1 : Nat) : Int) + 1).toNat Cel.no).length : Int) == 1) = false := by rw [beq_eq_false_iff_ne]; intro h; exact l2 (by have : ((ws.getD 2 []).length : Int) = 1 := h; omega)
            have hinv : 2 ≤ 3 ∧ a = At ws 1 2 ∧ b = At ws 2 2 ∧ c = At ws 3 2 := ⟨by decide, ea, (show b = wdO ws 2 from eb.trans (wdO_n l2).symm), ec⟩
            (repeat (first | refine gq_DI ?_ | (refine ga_DI ?_; intro _hq) | refine gd_DI ?_))
            exact ⟨(2, a, b, c), hinv, ⟨by rfl, (by repeat (first | exact trivial | refine ⟨by rfl, ?_⟩ | refine ⟨vI_of (by rfl) (by omega), ?_⟩)), (by repeat (first | exact trivial | refine ⟨by rfl, ?_⟩ | refine ⟨vI_of (by rfl) (by omega), ?_⟩))⟩, (by first | omega | (dsimp only; omega))⟩
        · have dl : decide (((1 : Nat) : Int) + 1 < (ws.length : Int)) = false := decide_eq_false (by omega)
          have hinv : 2 ≤ 3 ∧ a = At ws 1 2 ∧ b = At ws 2 2 ∧ c = At ws 3 2 := ⟨by decide, ea, (show b = wdO ws 2 from eb.trans (wdO_no l1).symm), ec⟩
          (repeat (first | refine gq_DI ?_ | (refine ga_DI ?_; intro _hq) | refine gd_DI ?_))
          exact ⟨(2, a, b, c), hinv, ⟨by rfl, (by repeat (first | exact trivial | refine ⟨by rfl, ?_⟩ | refine ⟨vI_of (by rfl) (by omega), ?_⟩)), (by repeat (first | exact trivial | refine ⟨by rfl, ?_⟩ | refine ⟨vI_of (by rfl) (by omega), ?_⟩))⟩, (by first | omega | (dsimp only; omega))⟩
      · have hg : decide (((2 : Nat) : Int) < ((3 : Nat) : Int)) = true := by decide
        rcases Nat.lt_or_ge 3 ws.length with l1 | l1
        · have dl : decide (((2 : Nat) : Int) + 1 < (ws.length : Int)) = true := decide_eq_true (by omega)
          by_cases l2 : (ws.getD 3 []).length = 1
          · have d2 : (((ws.getD (((2 : Nat) : Int) + 1).toNat Cel.no).length : Int) == 1) = true := by rw [show (ws.getD (((2 : Nat) : Int) + 1).toNat Cel.no).length = 1 from l2]; rfl
            have l3 : 0 < (ws.getD (((2 : Nat) : Int) + 1).toNat Cel.no).length := by rw [show (ws.getD (((2 : Nat) : Int) + 1).toNat Cel.no).length = 1 from l2]; decide
            have hle := ((ws.getD (((2 : Nat) : Int) + 1).toNat Cel.no).getD (0 : Int).toNat 0).toNat_lt
            have hinv : 3 ≤ 3 ∧ a = At ws 1 3 ∧ b = At ws 2 3 ∧ ((((ws.getD 3 []).getD 0 0).toNat : Int) - 48) = At ws 3 3 := ⟨by decide, ea, eb, (wdO_y l1 l2).symm⟩
            (repeat (first | refine gq_DI ?_ | (refine ga_DI ?_; intro _hq) | refine gd_DI ?_))
            exact ⟨(3, a, b, ((((ws.getD 3 []).getD 0 0).toNat : Int) - 48)), hinv, ⟨by rfl, (by repeat (first | exact trivial | refine ⟨by rfl, ?_⟩ | refine ⟨vI_of (by rfl) (by omega), ?_⟩)), (by repeat (first | exact trivial | refine ⟨by rfl, ?_⟩ | refine ⟨vI_of (by rfl) (by omega), ?_⟩))⟩, (by first | omega | (dsimp only; omega))⟩
          · have d2 : (((ws.getD (((2 : Nat) : Int) + 1).toNat Cel.no).length : Int) == 1) = false := by rw [beq_eq_false_iff_ne]; intro h; exact l2 (by have : ((ws.getD 3 []).length : Int) = 1 := h; omega)
            have hinv : 3 ≤ 3 ∧ a = At ws 1 3 ∧ b = At ws 2 3 ∧ c = At ws 3 3 := ⟨by decide, ea, eb, (show c = wdO ws 3 from ec.trans (wdO_n l2).symm)⟩
            (repeat (first | refine gq_DI ?_ | (refine ga_DI ?_; intro _hq) | refine gd_DI ?_))
            exact ⟨(3, a, b, c), hinv, ⟨by rfl, (by repeat (first | exact trivial | refine ⟨by rfl, ?_⟩ | refine ⟨vI_of (by rfl) (by omega), ?_⟩)), (by repeat (first | exact trivial | refine ⟨by rfl, ?_⟩ | refine ⟨vI_of (by rfl) (by omega), ?_⟩))⟩, (by first | omega | (dsimp only; omega))⟩
        · have dl : decide (((2 : Nat) : Int) + 1 < (ws.length : Int)) = false := decide_eq_false (by omega)
          have hinv : 3 ≤ 3 ∧ a = At ws 1 3 ∧ b = At ws 2 3 ∧ c = At ws 3 3 := ⟨by decide, ea, eb, (show c = wdO ws 3 from ec.trans (wdO_no l1).symm)⟩
          (repeat (first | refine gq_DI ?_ | (refine ga_DI ?_; intro _hq) | refine gd_DI ?_))
          exact ⟨(3, a, b, c), hinv, ⟨by rfl, (by repeat (first | exact trivial | refine ⟨by rfl, ?_⟩ | refine ⟨vI_of (by rfl) (by omega), ?_⟩)), (by repeat (first | exact trivial | refine ⟨by rfl, ?_⟩ | refine ⟨vI_of (by rfl) (by omega), ?_⟩))⟩, (by first | omega | (dsimp only; omega))⟩
      · have hg : decide (((3 : Nat) : Int) < ((3 : Nat) : Int)) = false := by decide
        replace ea : a = wdO ws 1 := ea
        replace eb : b = wdO ws 2 := eb
        replace ec : c = wdO ws 3 := ec
        have hG := k_gtI ⟨(j : Int), a, b, c⟩
        have ht := hno j a b c (eq_of_beq hb)
        (repeat (first | refine gq_DI ?_ | (refine ga_DI ?_; intro _hq) | refine gd_DI ?_))
        exact ⟨j + 1, hinv5, ⟨by rfl, (by repeat (first | exact trivial | refine ⟨by rfl, ?_⟩ | refine ⟨vI_of (by rfl) (by omega), ?_⟩)), (by repeat (first | exact trivial | refine ⟨by rfl, ?_⟩ | refine ⟨vI_of (by rfl) (by omega), ?_⟩))⟩, (by first | omega | (dsimp only; omega))⟩
  · obtain rfl : j = 5 := by omega
    have hd : decide (((5 : Nat) : Int) < 5) = false := by decide
    (repeat (first | refine gq_DI ?_ | (refine ga_DI ?_; intro _hq) | refine gd_DI ?_))
    ((try refine aw_ret ?_); refine ret_auto2 (by rfl) (by rfl) (by rfl) (by repeat (first | exact trivial | refine ⟨by first | rfl | omega, ?_⟩)) ?_ (by repeat (first | exact trivial | refine ⟨by rfl, by rfl, ?_⟩)) (by repeat (first | exact trivial | refine ⟨by rfl, by rfl, ?_⟩)); try rfl)
set_option maxHeartbeats 8000000 in
theorem k_rgI1 (s : List UInt8) (hs : s.length ≤ 7000000) (kk : Nat) (hk : kk ≤ 4) (hm : (cutA 32 [] s).getD 0 [] = gnm (kk : Int)) (ht : (gtx (rdI (kk : Int) s) == s) = true) : Kon Tryz.prog 31 [vS s] [] (tupG (rdI (kk : Int) s) true) [] [] := by
  have hS := k_split s hs
  have hN := k_natV
  have hw := (cutA_len 32 s []).1
  unfold rdI at ht ⊢
  generalize cutA 32 [] s = ws at *
  have hG := k_gtI ⟨(kk : Int), wdO ws 1, wdO ws 2, wdO ws 3⟩
  (refine kon_mk T0ok (fn := Tryz.f31) (c := Tryz.f31.body.get rfl) Tryz.func31 rfl (by rfl) (by rfl) (by rfl) ?_; intro hfit hfe)
  (repeat (first | refine gq_DI ?_ | (refine ga_DI ?_; intro _hq) | refine gd_DI ?_))
  (refine aw_rd [0, 2, 4, 12] [32, 176] (fun j : Nat => [(13, vI j)]) (fun _ => []) (fun j => j ≤ kk) (fun j => 5 - j) 0 (by rfl) (by rfl) ?_ (by rfl) (by repeat (first | exact trivial | refine ⟨by rfl, ?_⟩ | refine ⟨vI_of (by rfl) (by omega), ?_⟩)) (by repeat (first | exact trivial | refine ⟨by rfl, ?_⟩ | refine ⟨vI_of (by rfl) (by omega), ?_⟩)) ?_)
  · exact Nat.zero_le _
  rintro j hj
  have hd : decide ((j : Int) < 5) = true := decide_eq_true (by omega)
  rcases Nat.lt_or_ge j kk with h1 | h1
  · have hb2 : (!(gnm (j : Int) == ws.getD (0 : Int).toNat Cel.no)) = true := by
      rw [Bool.not_eq_true', beq_eq_false_iff_ne]
      intro h
      have h2 := gnm_inj (by omega) (by omega) (h.trans hm)
      omega
    (repeat (first | refine gq_DI ?_ | (refine ga_DI ?_; intro _hq) | refine gd_DI ?_))
    exact ⟨j + 1, h1, ⟨by rfl, (by repeat (first | exact trivial | refine ⟨by rfl, ?_⟩ | refine ⟨vI_of (by rfl) (by omega), ?_⟩)), (by repeat (first | exact trivial | refine ⟨by rfl, ?_⟩ | refine ⟨vI_of (by rfl) (by omega), ?_⟩))⟩, (by dsimp only; omega)⟩
  · obtain rfl : j = kk := by omega
    have hb2 : (!(gnm (j : Int) == ws.getD (0 : Int).toNat Cel.no)) = false := by
      rw [Bool.not_eq_false', beq_iff_eq]
      exact hm.symm
    (repeat (first | refine gq_DI ?_ | (refine ga_DI ?_; intro _hq) | refine gd_DI ?_))
    (refine aw_rd [0, 2, 4, 5, 7, 12, 13, 28, 29] [32, 176, 448] (fun g : Nat × Int × Int × Int => [(30, vI g.1)]) (fun g => [(112, (0, .box (gCs ⟨(j : Int), g.2.1, g.2.2.1, g.2.2.2⟩)))]) (fun g => g.1 ≤ 3 ∧ g.2.1 = At ws 1 g.1 ∧ g.2.2.1 = At ws 2 g.1 ∧ g.2.2.2 = At ws 3 g.1) (fun g => 3 - g.1) (0, 0, 0, 0) (by rfl) (by rfl) ?_ (by rfl) (by repeat (first | exact trivial | refine ⟨by rfl, ?_⟩ | refine ⟨vI_of (by rfl) (by omega), ?_⟩)) (by repeat (first | exact trivial | refine ⟨by rfl, ?_⟩ | refine ⟨vI_of (by rfl) (by omega), ?_⟩)) ?_)
    · exact ⟨Nat.zero_le _, rfl, rfl, rfl⟩
    rintro ⟨i, a, b, c⟩ ⟨hi, ea, eb, ec⟩
    dsimp only at hi ea eb ec ⊢
    have hi' : i = 0 ∨ i = 1 ∨ i = 2 ∨ i = 3 := by omega
    rcases hi' with rfl | rfl | rfl | rfl
    · have hg : decide (((0 : Nat) : Int) < ((3 : Nat) : Int)) = true := by decide
      rcases Nat.lt_or_ge 1 ws.length with l1 | l1
      · have dl : decide (((0 : Nat) : Int) + 1 < (ws.length : Int)) = true := decide_eq_true (by omega)
        by_cases l2 : (ws.getD 1 []).length = 1
        · have d2 : (((ws.getD (((0 : Nat) : Int) + 1).toNat Cel.no).length : Int) == 1) = true := by rw [show (ws.getD (((0 : Nat) : Int) + 1).toNat Cel.no).length = 1 from l2]; rfl
          have l3 : 0 < (ws.getD (((0 : Nat) : Int) + 1).toNat Cel.no).length := by rw [show (ws.getD (((0 : Nat) : Int) + 1).toNat Cel.no).length = 1 from l2]; decide
          have hle := ((ws.getD (((0 : Nat) : Int) + 1).toNat Cel.no).getD (0 : Int).toNat 0).toNat_lt
          have hinv : 1 ≤ 3 ∧ ((((ws.getD 1 []).getD 0 0).toNat : Int) - 48) = At ws 1 1 ∧ b = At ws 2 1 ∧ c = At ws 3 1 := ⟨by decide, (wdO_y l1 l2).symm, eb, ec⟩
          (repeat (first | refine gq_DI ?_ | (refine ga_DI ?_; intro _hq) | refine gd_DI ?_))
          exact ⟨(1, ((((ws.getD 1 []).getD 0 0).toNat : Int) - 48), b, c), hinv, ⟨by rfl, (by repeat (first | exact trivial | refine ⟨by rfl, ?_⟩ | refine ⟨vI_of (by rfl) (by omega), ?_⟩)), (by repeat (first | exact trivial | refine ⟨by rfl, ?_⟩ | refine ⟨vI_of (by rfl) (by omega), ?_⟩))⟩, (by first | omega | (dsimp only; omega))⟩
        · have d2 : (((ws.getD (((0 : Nat) : Int) + 1).toNat Cel.no).length : Int) == 1) = false := by rw [beq_eq_false_iff_ne]; intro h; exact l2 (by have : ((ws.getD 1 []).length : Int) = 1 := h; omega)
          have hinv : 1 ≤ 3 ∧ a = At ws 1 1 ∧ b = At ws 2 1 ∧ c = At ws 3 1 := ⟨by decide, (show a = wdO ws 1 from ea.trans (wdO_n l2).symm), eb, ec⟩
          (repeat (first | refine gq_DI ?_ | (refine ga_DI ?_; intro _hq) | refine gd_DI ?_))
          exact ⟨(1, a, b, c), hinv, ⟨by rfl, (by repeat (first | exact trivial | refine ⟨by rfl, ?_⟩ | refine ⟨vI_of (by rfl) (by omega), ?_⟩)), (by repeat (first | exact trivial | refine ⟨by rfl, ?_⟩ | refine ⟨vI_of (by rfl) (by omega), ?_⟩))⟩, (by first | omega | (dsimp only; omega))⟩
      · have dl : decide (((0 : Nat) : Int) + 1 < (ws.length : Int)) = false := decide_eq_false (by omega)
        have hinv : 1 ≤ 3 ∧ a = At ws 1 1 ∧ b = At ws 2 1 ∧ c = At ws 3 1 := ⟨by decide, (show a = wdO ws 1 from ea.trans (wdO_no l1).symm), eb, ec⟩
        (repeat (first | refine gq_DI ?_ | (refine ga_DI ?_; intro _hq) | refine gd_DI ?_))
        exact ⟨(1, a, b, c), hinv, ⟨by rfl, (by repeat (first | exact trivial | refine ⟨by rfl, ?_⟩ | refine ⟨vI_of (by rfl) (by omega), ?_⟩)), (by repeat (first | exact trivial | refine ⟨by rfl, ?_⟩ | refine ⟨vI_of (by rfl) (by omega), ?_⟩))⟩, (by first | omega | (dsimp only; omega))⟩
    · have hg : decide (((1 : Nat) : Int) < ((3 : Nat) : Int)) = true := by decide
      rcases Nat.lt_or_ge 2 ws.length with l1 | l1
      · have dl : decide (((1 : Nat) : Int) + 1 < (ws.length : Int)) = true := decide_eq_true (by omega)
        by_cases l2 : (ws.getD 2 []).length = 1
        · have d2 : (((ws.getD (((1 : Nat) : Int) + 1).toNat Cel.no).length : Int) == 1) = true := by rw [show (ws.getD (((1 : Nat) : Int) + 1).toNat Cel.no).length = 1 from l2]; rfl
          have l3 : 0 < (ws.getD (((1 : Nat) : Int) + 1).toNat Cel.no).length := by rw [show (ws.getD (((1 : Nat) : Int) + 1).toNat Cel.no).length = 1 from l2]; decide
          have hle := ((ws.getD (((1 : Nat) : Int) + 1).toNat Cel.no).getD (0 : Int).toNat 0).toNat_lt
          have hinv : 2 ≤ 3 ∧ a = At ws 1 2 ∧ ((((ws.getD 2 []).getD 0 0).toNat : Int) - 48) = At ws 2 2 ∧ c = At ws 3 2 := ⟨by decide, ea, (wdO_y l1 l2).symm, ec⟩
          (repeat (first | refine gq_DI ?_ | (refine ga_DI ?_; intro _hq) | refine gd_DI ?_))
          exact ⟨(2, a, ((((ws.getD 2 []).getD 0 0).toNat : Int) - 48), c), hinv, ⟨by rfl, (by repeat (first | exact trivial | refine ⟨by rfl, ?_⟩ | refine ⟨vI_of (by rfl) (by omega), ?_⟩)), (by repeat (first | exact trivial | refine ⟨by rfl, ?_⟩ | refine ⟨vI_of (by rfl) (by omega), ?_⟩))⟩, (by first | omega | (dsimp only; omega))⟩
        · have d2 : (((ws.getD (((1 : Nat) : Int) + 1).toNat Cel.no).length : Int) == 1) = false := by rw [beq_eq_false_iff_ne]; intro h; exact l2 (by have : ((ws.getD 2 []).length : Int) = 1 := h; omega)
          have hinv : 2 ≤ 3 ∧ a = At ws 1 2 ∧ b = At ws 2 2 ∧ c = At ws 3 2 := ⟨by decide, ea, (show b = wdO ws 2 from eb.trans (wdO_n l2).symm), ec⟩
          (repeat (first | refine gq_DI ?_ | (refine ga_DI ?_; intro _hq) | refine gd_DI ?_))
          exact ⟨(2, a, b, c), hinv, ⟨by rfl, (by repeat (first | exact trivial | refine ⟨by rfl, ?_⟩ | refine ⟨vI_of (by rfl) (by omega), ?_⟩)), (by repeat (first | exact trivial | refine ⟨by rfl, ?_⟩ | refine ⟨vI_of (by rfl) (by omega), ?_⟩))⟩, (by first | omega | (dsimp only; omega))⟩
      · have dl : decide (((1 : Nat) : Int) + 1 < (ws.length : Int)) = false := decide_eq_false (by omega)
        have hinv : 2 ≤ 3 ∧ a = At ws 1 2 ∧ b = At ws 2 2 ∧ c = At ws 3 2 := ⟨by decide, ea, (show b = wdO ws 2 from eb.trans (wdO_no l1).symm), ec⟩
        (repeat (first | refine gq_DI ?_ | (refine ga_DI ?_; intro _hq) | refine gd_DI ?_))
        exact ⟨(2, a, b, c), hinv, ⟨by rfl, (by repeat (first | exact trivial | refine ⟨by rfl, ?_⟩ | refine ⟨vI_of (by rfl) (by omega), ?_⟩)), (by repeat (first | exact trivial | refine ⟨by rfl, ?_⟩ | refine ⟨vI_of (by rfl) (by omega), ?_⟩))⟩, (by first | omega | (dsimp only; omega))⟩
    · have hg : decide (((2 : Nat) : Int) < ((3 : Nat) : Int)) = true := by decide
      rcases Nat.lt_or_ge 3 ws.length with l1 | l1
      · have dl : decide (((2 : Nat) : Int) + 1 < (ws.length : Int)) = true := decide_eq_true (by omega)
        by_cases l2 : (ws.getD 3 []).length = 1
        · have d2 : (((ws.getD (((2 : Nat) : Int) + 1).toNat Cel.no).length : Int) == 1) = true := by rw [show (ws.getD (((2 : Nat) : Int) + 1).toNat Cel.no).length = 1 from l2]; rfl
          have l3 : 0 < (ws.getD (((2 : Nat) : Int) + 1).toNat Cel.no).length := by rw [show (ws.getD (((2 : Nat) : Int) + 1).toNat Cel.no).length = 1 from l2]; decide
          have hle := ((ws.getD (((2 : Nat) : Int) + 1).toNat Cel.no).getD (0 : Int).toNat 0).toNat_lt
          have hinv : 3 ≤ 3 ∧ a = At ws 1 3 ∧ b = At ws 2 3 ∧ ((((ws.getD 3 []).getD 0 0).toNat : Int) - 48) = At ws 3 3 := ⟨by decide, ea, eb, (wdO_y l1 l2).symm⟩
          (repeat (first | refine gq_DI ?_ | (refine ga_DI ?_; intro _hq) | refine gd_DI ?_))
          exact ⟨(3, a, b, ((((ws.getD 3 []).getD 0 0).toNat : Int) - 48)), hinv, ⟨by rfl, (by repeat (first | exact trivial | refine ⟨by rfl, ?_⟩ | refine ⟨vI_of (by rfl) (by omega), ?_⟩)), (by repeat (first | exact trivial | refine ⟨by rfl, ?_⟩ | refine ⟨vI_of (by rfl) (by omega), ?_⟩))⟩, (by first | omega | (dsimp only; omega))⟩
        · have d2 : (((ws.getD (((2 : Nat) : Int) + 1).toNat Cel.no).length : Int) == 1) = false := by rw [beq_eq_false_iff_ne]; intro h; exact l2 (by have : ((ws.getD 3 []).length : Int) = 1 := h; omega)
          have hinv : 3 ≤ 3 ∧ a = At ws 1 3 ∧ b = At ws 2 3 ∧ c = At ws 3 3 := ⟨by decide, ea, eb, (show c = wdO ws 3 from ec.trans (wdO_n l2).symm)⟩
          (repeat (first | refine gq_DI ?_ | (refine ga_DI ?_; intro _hq) | refine gd_DI ?_))
          exact ⟨(3, a, b, c), hinv, ⟨by rfl, (by repeat (first | exact trivial | refine ⟨by rfl, ?_⟩ | refine ⟨vI_of (by rfl) (by omega), ?_⟩)), (by repeat (first | exact trivial | refine ⟨by rfl, ?_⟩ | refine ⟨vI_of (by rfl) (by omega), ?_⟩))⟩, (by first | omega | (dsimp only; omega))⟩
      · have dl : decide (((2 : Nat) : Int) + 1 < (ws.length : Int)) = false := decide_eq_false (by omega)
        have hinv : 3 ≤ 3 ∧ a = At ws 1 3 ∧ b = At ws 2 3 ∧ c = At ws 3 3 := ⟨by decide, ea, eb, (show c = wdO ws 3 from ec.trans (wdO_no l1).symm)⟩
        (repeat (first | refine gq_DI ?_ | (refine ga_DI ?_; intro _hq) | refine gd_DI ?_))
        exact ⟨(3, a, b, c), hinv, ⟨by rfl, (by repeat (first | exact trivial | refine ⟨by rfl, ?_⟩ | refine ⟨vI_of (by rfl) (by omega), ?_⟩)), (by repeat (first | exact trivial | refine ⟨by rfl, ?_⟩ | refine ⟨vI_of (by rfl) (by omega), ?_⟩))⟩, (by first | omega | (dsimp only; omega))⟩
    · have hg : decide (((3 : Nat) : Int) < ((3 : Nat) : Int)) = false := by decide
      replace ea : a = wdO ws 1 := ea
      replace eb : b = wdO ws 2 := eb
      replace ec : c = wdO ws 3 := ec
      subst ea eb ec
      (repeat (first | refine gq_DI ?_ | (refine ga_DI ?_; intro _hq) | refine gd_DI ?_))
      ((try refine aw_ret ?_); refine ret_auto2 (by rfl) (by rfl) (by rfl) (by repeat (first | exact trivial | refine ⟨by first | rfl | omega, ?_⟩)) ?_ (by repeat (first | exact trivial | refine ⟨by rfl, by rfl, ?_⟩)) (by repeat (first | exact trivial | refine ⟨by rfl, by rfl, ?_⟩)); try rfl)
/-- Both readers of gates answer alike. -/
theorem rg_ex (s : List UInt8) (hs : s.length ≤ 7000000) : ∃ g b, RG s g b ∧ Kon Tryz.prog 36 [vS s] [] (tupG g b) [] [] ∧ Kon Tryz.prog 31 [vS s] [] (tupG g b) [] [] := by
  obtain ⟨g, b, h⟩ := rg_all s
  refine ⟨g, b, h, ?_⟩
  rcases h with ⟨rfl, h⟩ | ⟨rfl, rfl, h⟩
  · have hne : s ≠ [] := fun e => gok_nil g (e ▸ h)
    obtain ⟨e1, e2, e3⟩ := gk_rd h
    obtain ⟨_, hk, _⟩ := gok_bd h.1
    have ht : (gtx g == s) = true := (gtx_eq hne).2 h
    have hkk : ((g.k.toNat : Nat) : Int) = g.k := by omega
    refine ⟨?_, ?_⟩
    · have := k_rgSfalse s hs (by rw [beq_eq_false_iff_ne]; exact hne) (by rw [e1, ht]; rfl)
      rw [e1] at this
      exact this
    · have := k_rgI1 s hs g.k.toNat (by omega) (by rw [hkk]; exact e3) (by rw [hkk, e2]; exact ht)
      rw [hkk, e2] at this
      exact this
  · by_cases hne : s = []
    · subst hne
      exact ⟨k_rgSe, k_rgI0 [] hs fun j a b c e => absurd (congrArg List.length e) (by have := (gnm_len (j : Int)).1; have h2 : ((cutA 32 [] []).getD 0 []).length = 0 := rfl; omega)⟩
    · exact ⟨k_rgStrue s hs (by rw [beq_eq_false_iff_ne]; exact hne) (by rw [no_gtx hne h]; rfl), k_rgI0 s hs fun j a b c _ => no_gtx hne h _⟩
end Go.Proofs.YtgphlcdinejmdaaGreatDoor

/- Contracts of Go's library at this program. -/
namespace Go.Proofs.YtgphlcdinejmdaaGreatDoor
set_option linter.unusedVariables false
open Go.Shelf Go.RowKit Go.Lib
def Tryz.lays145_ren : Go.Shelf.Ren := ⟨fun | 145 => 29 | 220 => 55 | 219 => 70 | 217 => 89 | 225 => 90 | 224 => 91 | 267 => 92 | 266 => 107 | 314 => 108 | n => n, fun | 9 => 9 | 4 => 4 | 59 => 53 | 3 => 3 | 5 => 5 | 46 => 127 | 146 => 142 | 51 => 138 | n => n, fun | 1 => 0 | n => n⟩
theorem Tryz.lays145 : Go.Proofs.Lays.n145 Tryz.prog Tryz.lays145_ren := {
  mixed := by kernel_rfl
  f145 := Tryz.func29.trans (congrArg some (by kernel_rfl))
  f217 := Tryz.func89.trans (congrArg some (by kernel_rfl))
  f219 := Tryz.func70.trans (congrArg some (by kernel_rfl))
  f220 := Tryz.func55.trans (congrArg some (by kernel_rfl))
  f224 := Tryz.func91.trans (congrArg some (by kernel_rfl))
  f225 := Tryz.func90.trans (congrArg some (by kernel_rfl))
  f266 := Tryz.func107.trans (congrArg some (by kernel_rfl))
  f267 := Tryz.func92.trans (congrArg some (by kernel_rfl))
  f314 := Tryz.func108.trans (congrArg some (by kernel_rfl))
  t3 := Tryz.underlying3
  a3 := Tryz.isAgg3
  z3 := Tryz.sizeOf3
  v3 := Tryz.zeroValue3
  t4 := Tryz.underlying4
  a4 := Tryz.isAgg4
  z4 := Tryz.sizeOf4
  v4 := Tryz.zeroValue4
  t5 := Tryz.underlying5
  a5 := Tryz.isAgg5
  z5 := Tryz.sizeOf5
  v5 := Tryz.zeroValue5
  t9 := Tryz.underlying9
  a9 := Tryz.isAgg9
  z9 := Tryz.sizeOf9
  v9 := Tryz.zeroValue9
  t46 := Tryz.underlying127
  a46 := Tryz.isAgg127
  z46 := Tryz.sizeOf127
  v46 := Tryz.zeroValue127
  t51 := Tryz.underlying138
  a51 := Tryz.isAgg138
  z51 := Tryz.sizeOf138
  v51 := Tryz.zeroValue138
  t59 := Tryz.underlying53
  a59 := Tryz.isAgg53
  z59 := Tryz.sizeOf53
  v59 := Tryz.zeroValue53
  t146 := Tryz.underlying142
  a146 := Tryz.isAgg142
  z146 := Tryz.sizeOf142
  v146 := Tryz.zeroValue142
  g1 := by kernel_rfl }
theorem Tryz.strings_Cut (s sep : ByteArray) (m : Int) (w : World) (hs : s.size < 4294967281) (hm : w.cell? ⟨0, 0, none⟩ = some (.int .i64 m)) :
    Calls Tryz.prog 29 #[.string s, .string sep] w fun e w' => e = .returned (.tuple #[.string ⟨(Lib.cut s.data.toList sep.data.toList).1.toArray⟩, .string ⟨(Lib.cut s.data.toList sep.data.toList).2.1.toArray⟩, .bool (Lib.cut s.data.toList sep.data.toList).2.2]) ∧ ∃ n, w' = w.drewN n := Any.strings_Cut Tryz.lays145 s sep m w hs hm
end Go.Proofs.YtgphlcdinejmdaaGreatDoor
