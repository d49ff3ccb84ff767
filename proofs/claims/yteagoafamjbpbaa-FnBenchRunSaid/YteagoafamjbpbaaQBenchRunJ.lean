/- KGP, KDL, KGQ, KML, KMM, KMN, KMS, KMP: laid into one text. -/
import Derived.Test.YteagoafamjbpbaaQBenchRunI

/- Drawn gates: the order of lines, a gate. -/
namespace Go.Proofs.Yteagoafamjbpbaa
set_option linter.unusedVariables false
set_option linter.unusedSimpArgs false
set_option maxRecDepth 20000
open Go.RowKit
attribute [local irreducible] runA runX AW
theorem gq_KGP {H G : Prop} (k : H) (h : Hid H → G := by (intro hh; (first | (first | ((first | refine r_none ?_ | refine r_gt (by rfl) (by rfl) (by first | rfl | assumption | omega | (simp only [*, Bool.not_false, Bool.not_true]; first | done | fail) | (simp [*]; first | done | fail)) (by rfl) ?_ | refine r_gf (by rfl) (by rfl) (by first | rfl | assumption | omega | (simp only [*, Bool.not_false, Bool.not_true]; first | done | fail) | (simp [*]; first | done | fail)) (by rfl) ?_); (first | fail | ((first | (refine z_op (by rfl) ?_; first | refine z_ok ?_ ?_ | refine z_ex ?_ (by first | exact ft_raw rfl rfl | ((first | refine ft_rp rfl rfl rfl ?_ | refine ft_row rfl rfl rfl ?_ | refine ft_rpF rfl rfl rfl ?_ | refine ft_rowF rfl rfl rfl ?_ | refine up_row rfl rfl ?_ | refine up_rowF rfl rfl rfl ?_ | refine ct_0 rfl ?_ | refine ct_r rfl rfl ?_ | refine ct_c rfl rfl rfl ?_ | refine cu_all rfl ?_ | refine cu_to rfl ?_ | refine cu_from rfl ?_ | refine cu_p rfl ?_ | fail); (first | omega | (simp only [List.length_append, List.length_replicate, List.length_cons, List.length_nil, List.length_set, List.length_take, List.length_drop, true_and]; omega))) | exact up_raw rfl | exact pk_t (by first | rfl | assumption | omega | (simp only [*, Bool.not_false, Bool.not_true]; first | done | fail) | (simp [*]; first | done | fail)) rfl | exact pk_f (by first | rfl | assumption | omega | (simp only [*, Bool.not_false, Bool.not_true]; first | done | fail) | (simp [*]; first | done | fail)) rfl | exact rw_c Int rfl | exact rw_raw | exact pu_cv (fun w => rfl) (by omega) | exact pu_of (fun w => rfl) rfl | exact be_of (fun w => rfl) | exact nc_of (fun _ _ _ _ => rfl) rfl | exact bu_of (fun w => rfl) rfl | exact ct_t (l := ordN l c k) rfl rfl rfl (by omega) (by rw [hl]; simp; omega)) ?_) | ((first | refine q_callE wsT wsZ (by rfl) ?_ | refine q_callVE wsT (by rfl) (by rfl) ?_); refine ⟨_, _, _, (by first | assumption | exact k_pick _ _ _ (by omega) | exact k_odd0 _ _ _ (by omega) | exact k_odd _ _ _ (by omega)), _, by rfl, ?_, ?_⟩)); focus (first | exact trivial | fail | exact rfl | (first | omega | (simp only [List.length_append, List.length_replicate, List.length_cons, List.length_nil, List.length_set, List.length_take, List.length_drop, true_and]; omega)) | exact cvB (fun w => rfl) | ((repeat' (first | exact rfl | exact cV_len _ | exact cV_ln rfl (by omega) | exact Cel.pos | omega | exact trivial | refine And.intro ?_ ?_)); done) | (simp [*]; done) | (simp; omega))) | fail)) | refine r_nt (by rfl) (by rfl) (by first | rfl | assumption | omega | (simp only [*, Bool.not_false, Bool.not_true]; first | done | fail) | (simp [*]; first | done | fail)) (by rfl) ?_ | refine r_nf (by rfl) (by rfl) (by first | rfl | assumption | omega | (simp only [*, Bool.not_false, Bool.not_true]; first | done | fail) | (simp [*]; first | done | fail)) (by rfl) ?_ | refine r_gu (by rfl) (by rfl) (by rfl) ?_ | refine r_nil ?_) | (first | refine aw_seq ?_ | refine aw_ct (by rfl) (by first | rfl | assumption | omega | (simp only [*, Bool.not_false, Bool.not_true]; first | done | fail) | (simp [*]; first | done | fail)) ?_ | refine aw_cf (by rfl) (by first | rfl | assumption | omega | (simp only [*, Bool.not_false, Bool.not_true]; first | done | fail) | (simp [*]; first | done | fail)) ?_ | refine aw_block ?_ | refine aw_region T0ok cfU_ok (by rfl) ?_ | refine aw_skip ?_ | refine aw_exit ?_ | refine ra_step ?_)); (repeat (first | (first | ((first | refine r_none ?_ | refine r_gt (by rfl) (by rfl) (by first | rfl | assumption | omega | (simp only [*, Bool.not_false, Bool.not_true]; first | done | fail) | (simp [*]; first | done | fail)) (by rfl) ?_ | refine r_gf (by rfl) (by rfl) (by first | rfl | assumption | omega | (simp only [*, Bool.not_false, Bool.not_true]; first | done | fail) | (simp [*]; first | done | fail)) (by rfl) ?_); (first | fail | ((first | (refine z_op (by rfl) ?_; first | refine z_ok ?_ ?_ | refine z_ex ?_ (by first | exact ft_raw rfl rfl | ((first | refine ft_rp rfl rfl rfl ?_ | refine ft_row rfl rfl rfl ?_ | refine ft_rpF rfl rfl rfl ?_ | refine ft_rowF rfl rfl rfl ?_ | refine up_row rfl rfl ?_ | refine up_rowF rfl rfl rfl ?_ | refine ct_0 rfl ?_ | refine ct_r rfl rfl ?_ | refine ct_c rfl rfl rfl ?_ | refine cu_all rfl ?_ | refine cu_to rfl ?_ | refine cu_from rfl ?_ | refine cu_p rfl ?_ | fail); (first | omega | (simp only [List.length_append, List.length_replicate, List.length_cons, List.length_nil, List.length_set, List.length_take, List.length_drop, true_and]; omega))) | exact up_raw rfl | exact pk_t (by first | rfl | assumption | omega | (simp only [*, Bool.not_false, Bool.not_true]; first | done | fail) | (simp [*]; first | done | fail)) rfl | exact pk_f (by first | rfl | assumption | omega | (simp only [*, Bool.not_false, Bool.not_true]; first | done | fail) | (simp [*]; first | done | fail)) rfl | exact rw_c Int rfl | exact rw_raw | exact pu_cv (fun w => rfl) (by omega) | exact pu_of (fun w => rfl) rfl | exact be_of (fun w => rfl) | exact nc_of (fun _ _ _ _ => rfl) rfl | exact bu_of (fun w => rfl) rfl | exact ct_t (l := ordN l c k) rfl rfl rfl (by omega) (by rw [hl]; simp; omega)) ?_) | ((first | refine q_callE wsT wsZ (by rfl) ?_ | refine q_callVE wsT (by rfl) (by rfl) ?_); refine ⟨_, _, _, (by first | assumption | exact k_pick _ _ _ (by omega) | exact k_odd0 _ _ _ (by omega) | exact k_odd _ _ _ (by omega)), _, by rfl, ?_, ?_⟩)); focus (first | exact trivial | fail | exact rfl | (first | omega | (simp only [List.length_append, List.length_replicate, List.length_cons, List.length_nil, List.length_set, List.length_take, List.length_drop, true_and]; omega)) | exact cvB (fun w => rfl) | ((repeat' (first | exact rfl | exact cV_len _ | exact cV_ln rfl (by omega) | exact Cel.pos | omega | exact trivial | refine And.intro ?_ ?_)); done) | (simp [*]; done) | (simp; omega))) | fail)) | refine r_nt (by rfl) (by rfl) (by first | rfl | assumption | omega | (simp only [*, Bool.not_false, Bool.not_true]; first | done | fail) | (simp [*]; first | done | fail)) (by rfl) ?_ | refine r_nf (by rfl) (by rfl) (by first | rfl | assumption | omega | (simp only [*, Bool.not_false, Bool.not_true]; first | done | fail) | (simp [*]; first | done | fail)) (by rfl) ?_ | refine r_gu (by rfl) (by rfl) (by rfl) ?_ | refine r_nil ?_) | (first | refine aw_seq ?_ | refine aw_ct (by rfl) (by first | rfl | assumption | omega | (simp only [*, Bool.not_false, Bool.not_true]; first | done | fail) | (simp [*]; first | done | fail)) ?_ | refine aw_cf (by rfl) (by first | rfl | assumption | omega | (simp only [*, Bool.not_false, Bool.not_true]; first | done | fail) | (simp [*]; first | done | fail)) ?_ | refine aw_block ?_ | refine aw_region T0ok cfU_ok (by rfl) ?_ | refine aw_skip ?_ | refine aw_exit ?_ | refine ra_step ?_))); exact hh.out)) : G := h ⟨k⟩
theorem ga_KGP {H G : Prop} (k : H) (h : Hid H → G := by (intro hh; (first | refine r_none ?_ | refine r_gt (by rfl) (by rfl) (by first | rfl | assumption | omega | (simp only [*, Bool.not_false, Bool.not_true]; first | done | fail) | (simp [*]; first | done | fail)) (by rfl) ?_ | refine r_gf (by rfl) (by rfl) (by first | rfl | assumption | omega | (simp only [*, Bool.not_false, Bool.not_true]; first | done | fail) | (simp [*]; first | done | fail)) (by rfl) ?_); refine z_op (by rfl) ?_; refine z_alV ?_ hh.out; focus (first | exact trivial | fail | exact rfl | (first | omega | (simp only [List.length_append, List.length_replicate, List.length_cons, List.length_nil, List.length_set, List.length_take, List.length_drop, true_and]; omega)) | exact cvB (fun w => rfl) | ((repeat' (first | exact rfl | exact cV_len _ | exact cV_ln rfl (by omega) | exact Cel.pos | omega | exact trivial | refine And.intro ?_ ?_)); done) | (simp [*]; done) | (simp; omega)))) : G := h ⟨k⟩
theorem gs_KGP {H G : Prop} (k : H) (h : Hid H → G := by (intro hh; (first | ((first | refine r_none ?_ | refine r_gt (by rfl) (by rfl) (by first | rfl | assumption | omega | (simp only [*, Bool.not_false, Bool.not_true]; first | done | fail) | (simp [*]; first | done | fail)) (by rfl) ?_ | refine r_gf (by rfl) (by rfl) (by first | rfl | assumption | omega | (simp only [*, Bool.not_false, Bool.not_true]; first | done | fail) | (simp [*]; first | done | fail)) (by rfl) ?_); (first | fail | ((first | (refine z_op (by rfl) ?_; first | refine z_ok ?_ ?_ | refine z_ex ?_ (by first | exact ft_raw rfl rfl | ((first | refine ft_rp rfl rfl rfl ?_ | refine ft_row rfl rfl rfl ?_ | refine ft_rpF rfl rfl rfl ?_ | refine ft_rowF rfl rfl rfl ?_ | refine up_row rfl rfl ?_ | refine up_rowF rfl rfl rfl ?_ | refine ct_0 rfl ?_ | refine ct_r rfl rfl ?_ | refine ct_c rfl rfl rfl ?_ | refine cu_all rfl ?_ | refine cu_to rfl ?_ | refine cu_from rfl ?_ | refine cu_p rfl ?_ | fail); (first | omega | (simp only [List.length_append, List.length_replicate, List.length_cons, List.length_nil, List.length_set, List.length_take, List.length_drop, true_and]; omega))) | exact up_raw rfl | exact pk_t (by first | rfl | assumption | omega | (simp only [*, Bool.not_false, Bool.not_true]; first | done | fail) | (simp [*]; first | done | fail)) rfl | exact pk_f (by first | rfl | assumption | omega | (simp only [*, Bool.not_false, Bool.not_true]; first | done | fail) | (simp [*]; first | done | fail)) rfl | exact rw_c Int rfl | exact rw_raw | exact pu_cv (fun w => rfl) (by omega) | exact pu_of (fun w => rfl) rfl | exact be_of (fun w => rfl) | exact nc_of (fun _ _ _ _ => rfl) rfl | exact bu_of (fun w => rfl) rfl | exact ct_t (l := ordN l c k) rfl rfl rfl (by omega) (by rw [hl]; simp; omega)) ?_) | ((first | refine q_callE wsT wsZ (by rfl) ?_ | refine q_callVE wsT (by rfl) (by rfl) ?_); refine ⟨_, _, _, (by first | assumption | exact k_pick _ _ _ (by omega) | exact k_odd0 _ _ _ (by omega) | exact k_odd _ _ _ (by omega)), _, by rfl, ?_, ?_⟩)); focus (first | exact trivial | fail | exact rfl | (first | omega | (simp only [List.length_append, List.length_replicate, List.length_cons, List.length_nil, List.length_set, List.length_take, List.length_drop, true_and]; omega)) | exact cvB (fun w => rfl) | ((repeat' (first | exact rfl | exact cV_len _ | exact cV_ln rfl (by omega) | exact Cel.pos | omega | exact trivial | refine And.intro ?_ ?_)); done) | (simp [*]; done) | (simp; omega))) | fail)) | refine r_nt (by rfl) (by rfl) (by first | rfl | assumption | omega | (simp only [*, Bool.not_false, Bool.not_true]; first | done | fail) | (simp [*]; first | done | fail)) (by rfl) ?_ | refine r_nf (by rfl) (by rfl) (by first | rfl | assumption | omega | (simp only [*, Bool.not_false, Bool.not_true]; first | done | fail) | (simp [*]; first | done | fail)) (by rfl) ?_ | refine r_gu (by rfl) (by rfl) (by rfl) ?_ | refine r_nil ?_); (repeat (first | ((first | refine r_none ?_ | refine r_gt (by rfl) (by rfl) (by first | rfl | assumption | omega | (simp only [*, Bool.not_false, Bool.not_true]; first | done | fail) | (simp [*]; first | done | fail)) (by rfl) ?_ | refine r_gf (by rfl) (by rfl) (by first | rfl | assumption | omega | (simp only [*, Bool.not_false, Bool.not_true]; first | done | fail) | (simp [*]; first | done | fail)) (by rfl) ?_); (first | fail | ((first | (refine z_op (by rfl) ?_; first | refine z_ok ?_ ?_ | refine z_ex ?_ (by first | exact ft_raw rfl rfl | ((first | refine ft_rp rfl rfl rfl ?_ | refine ft_row rfl rfl rfl ?_ | refine ft_rpF rfl rfl rfl ?_ | refine ft_rowF rfl rfl rfl ?_ | refine up_row rfl rfl ?_ | refine up_rowF rfl rfl rfl ?_ | refine ct_0 rfl ?_ | refine ct_r rfl rfl ?_ | refine ct_c rfl rfl rfl ?_ | refine cu_all rfl ?_ | refine cu_to rfl ?_ | refine cu_from rfl ?_ | refine cu_p rfl ?_ | fail); (first | omega | (simp only [List.length_append, List.length_replicate, List.length_cons, List.length_nil, List.length_set, List.length_take, List.length_drop, true_and]; omega))) | exact up_raw rfl | exact pk_t (by first | rfl | assumption | omega | (simp only [*, Bool.not_false, Bool.not_true]; first | done | fail) | (simp [*]; first | done | fail)) rfl | exact pk_f (by first | rfl | assumption | omega | (simp only [*, Bool.not_false, Bool.not_true]; first | done | fail) | (simp [*]; first | done | fail)) rfl | exact rw_c Int rfl | exact rw_raw | exact pu_cv (fun w => rfl) (by omega) | exact pu_of (fun w => rfl) rfl | exact be_of (fun w => rfl) | exact nc_of (fun _ _ _ _ => rfl) rfl | exact bu_of (fun w => rfl) rfl | exact ct_t (l := ordN l c k) rfl rfl rfl (by omega) (by rw [hl]; simp; omega)) ?_) | ((first | refine q_callE wsT wsZ (by rfl) ?_ | refine q_callVE wsT (by rfl) (by rfl) ?_); refine ⟨_, _, _, (by first | assumption | exact k_pick _ _ _ (by omega) | exact k_odd0 _ _ _ (by omega) | exact k_odd _ _ _ (by omega)), _, by rfl, ?_, ?_⟩)); focus (first | exact trivial | fail | exact rfl | (first | omega | (simp only [List.length_append, List.length_replicate, List.length_cons, List.length_nil, List.length_set, List.length_take, List.length_drop, true_and]; omega)) | exact cvB (fun w => rfl) | ((repeat' (first | exact rfl | exact cV_len _ | exact cV_ln rfl (by omega) | exact Cel.pos | omega | exact trivial | refine And.intro ?_ ?_)); done) | (simp [*]; done) | (simp; omega))) | fail)) | refine r_nt (by rfl) (by rfl) (by first | rfl | assumption | omega | (simp only [*, Bool.not_false, Bool.not_true]; first | done | fail) | (simp [*]; first | done | fail)) (by rfl) ?_ | refine r_nf (by rfl) (by rfl) (by first | rfl | assumption | omega | (simp only [*, Bool.not_false, Bool.not_true]; first | done | fail) | (simp [*]; first | done | fail)) (by rfl) ?_ | refine r_gu (by rfl) (by rfl) (by rfl) ?_ | refine r_nil ?_)); exact hh.out)) : G := h ⟨k⟩
theorem put_far (S : St) (i : Nat) (x : Option AV) : (S.put i x).G 100000 = S.G 100000 := rfl
theorem lay_far (S : St) {i : Nat} (x : Option (Nat × Ent)) (h : Nat.blt i 100000 = true) : (S.lay i x).G 100000 = S.G 100000 := upd_ne S.G x (by have := blt_lt h; omega)
theorem gin0 (e : Ent) (es : List Ent) : Gin (e :: es) 100000 = some (0, e) := by simp [Gin]
theorem wx_pieceC {P : Program} {T : Tab} {S : St} {nt : Nat} {K : St → Prop} {α : Type} [Cel α] (hT : TabOk P T) {t e sz by' j r n i r2 n2 d1 d2 tx tl ty ty1 ty2 : Nat} {p : Int} {pos pos2 : String} {af af2 : Array Edge} {agg : Bool} {z : List Value} {l l2 : List α} {ops : Array Oper} {rest : List Oper}
    (hd : (Nat.blt d1 nt && Nat.blt d2 nt && !(Nat.beq d1 ty)) = true) (hl : find1 T.elt t = some (none, e, agg, sz, by')) (hz : find1 T.zer e = some z) (hzl : z.length = sz) (hx : S.E tx = some (.g (.one (.sl j r n)))) (hp : S.E tl = some (vI p)) (hG : S.G j = some (r, .row (some e) sz (cV l))) (hy : S.E ty = some (.g (.one (.sl i r2 n2)))) (hG2 : S.G i = some (r2, .row (some e) sz (cV l2)))
    (hb : Nat.ble by' 1000 = true) (hs : sz = Cel.sz α) (h3 : n = l.length ∧ n2 = l2.length ∧ 0 ≤ p ∧ p ≤ n ∧ n ≤ 1000000 ∧ n2 ≤ 1000000)
    (hk : WX P nt ops rest (((S.put d1 none).lay i (some (r2 + 1, .row (some e) sz (cV (l2 ++ l.drop p.toNat))))).put d2 (some (.g (.one (.sl i (r2 + 1) ((l2 ++ l.drop p.toNat).length)))))) K) :
    WX P nt ops (⟨some d1, .slice t (.tmp tx) (some (.tmp tl)) none none, ty1, pos, af, none⟩ :: ⟨some d2, .call { callee := .builtin .append, args := #[.tmp ty, .tmp d1], argTypes := #[t, t] }, ty2, pos2, af2, none⟩ :: rest) S K := by
  obtain ⟨rfl, rfl, h3⟩ := h3
  subst hs
  refine wx_piece hT hd hl hz hzl hx hp hG hy hG2 hb (cV_len l) (cV_len l2) h3 ?_
  have ec : cV l2 ++ cV (l.drop p.toNat) = cV (l2 ++ l.drop p.toNat) := cV_append _ _
  rw [cV_drop, ec]
  have e : l2.length + ((l.length : Int) - p).toNat = (l2 ++ l.drop p.toNat).length := by rw [List.length_append, List.length_drop]; omega
  rw [e]
  exact hk
/-- Lines in some order. -/
def ordN (l : List UInt8) (c : Int) : Nat → List Int
  | 0 => []
  | k + 1 => ((ordN l c k).take (pickI l (c + (k : Int)) ((k : Int) + 1)).toNat ++ [(k : Int)]) ++ (ordN l c k).drop (pickI l (c + (k : Int)) ((k : Int) + 1)).toNat
theorem ordN_len (l : List UInt8) (c : Int) : ∀ k, (ordN l c k).length = k
  | 0 => rfl
  | k + 1 => by
    have h := pickI_lt (l := l) (c := c + (k : Int)) (n := (k : Int) + 1) (by omega)
    simp only [ordN, List.length_append, List.length_take, List.length_drop, List.length_cons, List.length_nil, ordN_len l c k]
    omega
theorem ordN_bd (l : List UInt8) (c : Int) : ∀ k, ∀ x ∈ ordN l c k, 0 ≤ x ∧ x < (k : Int)
  | 0 => fun x hx => by cases hx
  | k + 1 => fun x hx => by
    simp only [ordN, List.mem_append, List.mem_cons, List.not_mem_nil, or_false] at hx
    rcases hx with (hx | hx) | hx
    · have := ordN_bd l c k x (List.mem_of_mem_take hx); omega
    · omega
    · have := ordN_bd l c k x (List.mem_of_mem_drop hx); omega
theorem ordN_at (l : List UInt8) (c : Int) (k i : Nat) (h : i < k) : 0 ≤ (ordN l c k).getD i 0 ∧ (ordN l c k).getD i 0 < (k : Int) := by
  have hi : i < (ordN l c k).length := by rw [ordN_len]; exact h
  have e : (ordN l c k).getD i 0 = (ordN l c k)[i] := by simp [List.getD_eq_getElem?_getD, hi]
  rw [e]
  exact ordN_bd l c k _ (List.getElem_mem hi)
/-- A drawn gate, step by step; with each the place of the reader. -/
def gtA (l : List UInt8) (c : Int) (M : Nat) : Gt × Int := (⟨pickI l (c + (M : Int)) 5, (ordN l c M).getD 0 0, (ordN l c M).getD 1 0, (ordN l c M).getD 2 0⟩, c + (M : Int) + 1)
def gtB (n : Int) (x : Gt × Int) : Gt × Int := bif n == 1 then (⟨0, 0, 0, 0⟩, x.2) else x
def gtC (l : List UInt8) (n : Int) (x : Gt × Int) : Gt × Int := bif n == 2 then (⟨([0, 1, 3] : List Int).getD (pickI l x.2 3).toNat 0, pickI l (x.2 + 1) 2, 1 - pickI l (x.2 + 1) 2, 0⟩, x.2 + 1 + 1) else x
def gtD (x : Gt × Int) : Gt × Int := bif x.1.k == 0 then (⟨x.1.k, x.1.a, 0, x.1.c⟩, x.2) else x
def gtE (x : Gt × Int) : Gt × Int := bif (x.1.k == 0) || ((x.1.k == 1) || (x.1.k == 3)) then (⟨x.1.k, x.1.a, x.1.b, 0⟩, x.2) else x
/-- A fault put in. -/
def gtF (l : List UInt8) (n : Int) (x : Gt × Int) : Gt × Int :=
  bif pickI l x.2 4 == 0 then (⟨([-1, 5] : List Int).getD (pickI l (x.2 + 1) 2).toNat 0, x.1.a, x.1.b, x.1.c⟩, x.2 + 1 + 1)
  else bif pickI l x.2 4 == 1 then (⟨x.1.k, n, x.1.b, x.1.c⟩, x.2 + 1)
  else bif pickI l x.2 4 == 2 then (⟨x.1.k, x.1.a, x.1.a, x.1.c⟩, x.2 + 1)
  else (⟨x.1.k, x.1.a, x.1.b, -1⟩, x.2 + 1)
def gtG (l : List UInt8) (n q : Int) (x : Gt × Int) : Gt × Int := bif decide (q > 0) then (bif pickI l x.2 q == q - 1 then gtF l n (x.1, x.2 + 1) else (x.1, x.2 + 1)) else x
def gtN (l : List UInt8) (c n q : Int) (M : Nat) : Gt × Int := gtG l n q (gtE (gtD (gtC l n (gtB n (gtA l c M)))))
theorem k_odd0 (l : List UInt8) (c n : Int) (h : n ≤ 0) : Kon Try.prog 83 [p0, vI n] [rdE l c] (vB false) [] [rdE l c] := by
  have hd : decide (n > 0) = false := decide_eq_false (by omega)
  (refine kon_mk T0ok (fn := Try.f83) (c := Try.f83.body.get rfl) Try.func83 rfl (by rfl) (by rfl) (by rfl) ?_; intro hfit hfe)
  (repeat (first | refine gq_KGP ?_ | (refine ga_KGP ?_; intro _hq)))
  ((try refine aw_ret ?_); refine ret_auto2 (by rfl) (by rfl) (by rfl) (by repeat (first | exact trivial | refine ⟨by first | rfl | omega, ?_⟩)) ?_ (by repeat (first | exact trivial | refine ⟨by rfl, by rfl, ?_⟩)) (by repeat (first | exact trivial | refine ⟨by rfl, by rfl, ?_⟩)); try rfl)
set_option maxHeartbeats 4000000 in
theorem k_gate (l : List UInt8) (c n q : Int) (M : Nat) (hM : (if (3 : Int) > n then 3 else n) = (M : Int)) (hn : 1 ≤ n ∧ n ≤ 8) (h : 0 ≤ c ∧ c ≤ 100000 ∧ l.length ≤ 2000) (hq : q ≤ 1000) : Kon Try.prog 112 [p0, vI n, vI q] [rdE l c] (gV (gtN l c n q M).1) [] [rdE l (gtN l c n q M).2] := by
  (refine kon_mk T0ok (fn := Try.f112) (c := Try.f112.body.get rfl) Try.func112 rfl (by rfl) (by rfl) (by rfl) ?_; intro hfit hfe)
  (repeat (first | refine gq_KGP ?_ | (refine ga_KGP ?_; intro _hq)))
  have hc0 : c + ((0 : Nat) : Int) = c := by omega
  refine aw_rd [0, 1, 2, 6] [96] (fun k : Nat => [(7, .g (.one (.sl 192 (2 * k) k))), (8, vI k)]) (fun k => [(192, (2 * k, iRow (ordN l c k))), (100000, (0, rdE l (c + k)))]) (fun k => k ≤ M) (fun k => M - k) 0 (by rfl) (by rfl) ?_ (by rfl) (by repeat (first | exact trivial | refine ⟨by rfl, ?_⟩ | refine ⟨vI_of (by rfl) (by omega), ?_⟩)) ⟨by rfl, by rw [hc0]; (repeat (first | rw [put_far] | rw [lay_far _ _ (by rfl)])); exact gin0 (rdE l c) [], trivial⟩ ?_
  · exact Nat.zero_le _
  rintro k hk
  rcases Nat.lt_or_ge k M with h5 | h5
  · have hd : decide ((k : Int) < if (3 : Int) > n then 3 else n) = true := decide_eq_true (by omega)
    have hM8 : M ≤ 8 := by omega
    have hp := pickI_lt (l := l) (c := c + (k : Int)) (n := (k : Int) + 1) (by omega)
    have hl := ordN_len l c k
    have hcl : (cV (ordN l c k)).length = k := by rw [cV_len, hl]; exact Nat.mul_one k
    have hz1 : k * Cel.sz Int = k := Nat.mul_one k
    repeat (first | refine aw_seq ?_ | refine aw_ct (by rfl) (by first | rfl | assumption | omega | (simp only [*, Bool.not_false, Bool.not_true]; first | done | fail) | (simp [*]; first | done | fail)) ?_ | refine aw_cf (by rfl) (by first | rfl | assumption | omega | (simp only [*, Bool.not_false, Bool.not_true]; first | done | fail) | (simp [*]; first | done | fail)) ?_ | refine aw_block ?_ | refine aw_region T0ok cfU_ok (by rfl) ?_ | refine aw_skip ?_ | refine aw_exit ?_ | refine ra_step ?_)
    (repeat (first | refine gs_KGP ?_ | (refine ga_KGP ?_; intro _hq)))
    repeat (first | refine aw_seq ?_ | refine aw_ct (by rfl) (by first | rfl | assumption | omega | (simp only [*, Bool.not_false, Bool.not_true]; first | done | fail) | (simp [*]; first | done | fail)) ?_ | refine aw_cf (by rfl) (by first | rfl | assumption | omega | (simp only [*, Bool.not_false, Bool.not_true]; first | done | fail) | (simp [*]; first | done | fail)) ?_ | refine aw_block ?_ | refine aw_region T0ok cfU_ok (by rfl) ?_ | refine aw_skip ?_ | refine aw_exit ?_ | refine ra_step ?_)
    (repeat (first | refine gs_KGP ?_ | (refine ga_KGP ?_; intro _hq)))
    refine aw_seq ?_
    refine wx_region ?_
    refine wx_run 3 T0ok cfU_ok (by rfl) ?_
    (repeat (first | refine gs_KGP ?_ | (refine ga_KGP ?_; intro _hq)))
    refine wx_pieceC (α := Int) (l := ordN l c k) (l2 := []) T0ok (by rfl) (by rfl) (by rfl) (by rfl) (by rfl) (by rfl) (by rfl) (by rfl) (by rfl) (by rfl) (by rfl) ⟨hl.symm, rfl, by omega, by omega, by omega, by simp⟩ ?_
    refine wx_end T0ok cfU_ok (i := 5) (by rfl) ?_
    (repeat (first | refine gq_KGP ?_ | (refine ga_KGP ?_; intro _hq)))
    have hc1 : c + (k : Int) + 1 = c + ((k + 1 : Nat) : Int) := by omega
    exact ⟨k + 1, h5, ⟨by rfl, ⟨Eq.trans (b := some (.g (.one (.sl 192 (2 * (k + 1)) (ordN l c (k + 1)).length)))) (by rfl) (by rw [ordN_len]), (by repeat (first | exact trivial | refine ⟨by rfl, ?_⟩ | refine ⟨vI_of (by rfl) (by omega), ?_⟩))⟩, ⟨by rfl, Eq.trans (b := some (0, rdE l (c + (k : Int) + 1))) (by rfl) (by rw [hc1]), (by repeat (first | exact trivial | refine ⟨by rfl, ?_⟩ | refine ⟨vI_of (by rfl) (by omega), ?_⟩))⟩⟩, (by first | omega | (dsimp only; omega))⟩
  · have hd : decide ((k : Int) < if (3 : Int) > n then 3 else n) = false := decide_eq_false (by omega)
    obtain rfl : k = M := by omega
    have hl := ordN_len l c k
    have hk8 : 3 ≤ k ∧ k ≤ 8 := by omega
    (repeat (first | refine gq_KGP ?_ | (refine ga_KGP ?_; intro _hq)))
    (refine aw_draw mixed T0ok cfU_ok [(100000, [1]), (176, [12, 13])] (by rfl) (by kernel_rfl) ?_)
    (repeat (first | refine gs_KGP ?_ | (refine ga_KGP ?_; intro _hq)))
    change AW _ _ (Code.seq _ _) _ _
    refine aw_cutg [0, 1, 2, 6, 11] [96] (fun g : Gt × Int => []) (fun g => [(176, (0, .box (gCs g.1))), (100000, (0, rdE l g.2))]) (fun g => g = gtB n (gtA l c k)) (by rfl) (by rfl) ?_ ?_
    · cases h1 : (n == 1)
      all_goals (repeat (first | refine gq_KGP ?_ | (refine ga_KGP ?_; intro _hq)))
      · exact ⟨gtA l c k, by rw [gtB, h1]; rfl, ⟨by rfl, (by repeat (first | exact trivial | refine ⟨by rfl, ?_⟩ | refine ⟨vI_of (by rfl) (by omega), ?_⟩)), (by repeat (first | exact trivial | refine ⟨by rfl, ?_⟩ | refine ⟨vI_of (by rfl) (by omega), ?_⟩))⟩⟩
      · exact ⟨(⟨0, 0, 0, 0⟩, (gtA l c k).2), by rw [gtB, h1]; rfl, ⟨by rfl, (by repeat (first | exact trivial | refine ⟨by rfl, ?_⟩ | refine ⟨vI_of (by rfl) (by omega), ?_⟩)), (by repeat (first | exact trivial | refine ⟨by rfl, ?_⟩ | refine ⟨vI_of (by rfl) (by omega), ?_⟩))⟩⟩
    rintro ⟨g, c1⟩ he
    have hc1 : c ≤ c1 ∧ c1 ≤ c + 9 := by
      have : c1 = c + (k : Int) + 1 := by
        have h2 := congrArg Prod.snd he
        unfold gtB at h2
        cases h1 : (n == 1) <;> rw [h1] at h2 <;> exact h2
      omega
    rw [gtN, ← he]
    clear he
    dsimp only
    refine aw_cutg [0, 1, 2, 6, 11] [96] (fun g : Gt × Int => []) (fun g => [(176, (0, .box (gCs g.1))), (100000, (0, rdE l g.2))]) (fun x => x = gtC l n (g, c1)) (by rfl) (by rfl) ?_ ?_
    · have hp3 := pickI_lt (l := l) (c := c1) (n := 3) (by omega)
      have hp2 := pickI_lt (l := l) (c := c1 + 1) (n := 2) (by omega)
      cases h1 : (n == 2)
      · (repeat (first | refine gq_KGP ?_ | (refine ga_KGP ?_; intro _hq)))
        exact ⟨(g, c1), by rw [gtC, h1]; rfl, ⟨by rfl, (by repeat (first | exact trivial | refine ⟨by rfl, ?_⟩ | refine ⟨vI_of (by rfl) (by omega), ?_⟩)), (by repeat (first | exact trivial | refine ⟨by rfl, ?_⟩ | refine ⟨vI_of (by rfl) (by omega), ?_⟩))⟩⟩
      · (repeat (first | refine gq_KGP ?_ | (refine ga_KGP ?_; intro _hq)))
        (refine aw_draw mixed T0ok cfU_ok [(100000, [2, 6]), (176, [8])] (by rfl) (by kernel_rfl) ?_)
        (repeat (first | refine gq_KGP ?_ | (refine ga_KGP ?_; intro _hq)))
        exact ⟨(⟨([0, 1, 3] : List Int).getD (pickI l c1 3).toNat 0, pickI l (c1 + 1) 2, 1 - pickI l (c1 + 1) 2, 0⟩, c1 + 1 + 1), by rw [gtC, h1]; rfl, ⟨by rfl, (by repeat (first | exact trivial | refine ⟨by rfl, ?_⟩ | refine ⟨vI_of (by rfl) (by omega), ?_⟩)), (by repeat (first | exact trivial | refine ⟨by rfl, ?_⟩ | refine ⟨vI_of (by rfl) (by omega), ?_⟩))⟩⟩
    rintro ⟨g2, c2⟩ he
    have hc2 : c ≤ c2 ∧ c2 ≤ c + 11 := by
      have h2 := congrArg Prod.snd he
      unfold gtC at h2
      cases h1 : (n == 2) <;> rw [h1] at h2 <;> (dsimp only [cond_true, cond_false] at h2; omega)
    rw [← he]
    clear he
    dsimp only
    refine aw_cutg [0, 1, 2, 6, 11] [96] (fun g : Gt × Int => []) (fun g => [(176, (0, .box (gCs g.1))), (100000, (0, rdE l g.2))]) (fun x => x = gtD (g2, c2)) (by rfl) (by rfl) ?_ ?_
    · cases h1 : (g2.k == 0)
      all_goals (repeat (first | refine gq_KGP ?_ | (refine ga_KGP ?_; intro _hq)))
      · exact ⟨(g2, c2), by rw [gtD]; dsimp only; rw [h1]; rfl, ⟨by rfl, (by repeat (first | exact trivial | refine ⟨by rfl, ?_⟩ | refine ⟨vI_of (by rfl) (by omega), ?_⟩)), (by repeat (first | exact trivial | refine ⟨by rfl, ?_⟩ | refine ⟨vI_of (by rfl) (by omega), ?_⟩))⟩⟩
      · exact ⟨(⟨g2.k, g2.a, 0, g2.c⟩, c2), by rw [gtD]; dsimp only; rw [h1]; rfl, ⟨by rfl, (by repeat (first | exact trivial | refine ⟨by rfl, ?_⟩ | refine ⟨vI_of (by rfl) (by omega), ?_⟩)), (by repeat (first | exact trivial | refine ⟨by rfl, ?_⟩ | refine ⟨vI_of (by rfl) (by omega), ?_⟩))⟩⟩
    rintro ⟨g3, c3⟩ he
    have hc3 : c3 = c2 := by
      have h2 := congrArg Prod.snd he
      unfold gtD at h2
      cases h1 : (g2.k == 0) <;> rw [h1] at h2 <;> exact h2
    subst hc3
    rw [← he]
    clear he
    dsimp only
    refine aw_cutg [0, 1, 2, 6, 11] [96] (fun g : Gt × Int => []) (fun g => [(176, (0, .box (gCs g.1))), (100000, (0, rdE l g.2))]) (fun x => x = gtE (g3, c3)) (by rfl) (by rfl) ?_ ?_
    · cases h1 : (g3.k == 0) <;> cases h2 : (g3.k == 1) <;> cases h3 : (g3.k == 3)
      all_goals (repeat (first | refine gq_KGP ?_ | (refine ga_KGP ?_; intro _hq)))
      all_goals first | exact ⟨(g3, c3), by rw [gtE]; dsimp only; rw [h1, h2, h3]; rfl, ⟨by rfl, (by repeat (first | exact trivial | refine ⟨by rfl, ?_⟩ | refine ⟨vI_of (by rfl) (by omega), ?_⟩)), (by repeat (first | exact trivial | refine ⟨by rfl, ?_⟩ | refine ⟨vI_of (by rfl) (by omega), ?_⟩))⟩⟩ | exact ⟨(⟨g3.k, g3.a, g3.b, 0⟩, c3), by rw [gtE]; dsimp only; rw [h1]; (try rw [h2]); (try rw [h3]); rfl, ⟨by rfl, (by repeat (first | exact trivial | refine ⟨by rfl, ?_⟩ | refine ⟨vI_of (by rfl) (by omega), ?_⟩)), (by repeat (first | exact trivial | refine ⟨by rfl, ?_⟩ | refine ⟨vI_of (by rfl) (by omega), ?_⟩))⟩⟩
    rintro ⟨g4, c4⟩ he
    have hc4 : c4 = c3 := by
      have h2 := congrArg Prod.snd he
      unfold gtE at h2
      dsimp only at h2
      cases h1 : ((g3.k == 0) || ((g3.k == 1) || (g3.k == 3))) <;> rw [h1] at h2 <;> exact h2
    subst hc4
    rw [← he]
    clear he
    dsimp only
    cases hq0 : decide (q > 0) with
    | false =>
      have hq1 : q ≤ 0 := by have := of_decide_eq_false hq0; omega
      have e : gtG l n q (g4, c4) = (g4, c4) := by rw [gtG, hq0]; rfl
      rw [e]
      clear e
      (repeat (first | refine gq_KGP ?_ | (refine ga_KGP ?_; intro _hq)))
      ((try refine aw_ret ?_); refine ret_auto2 (by rfl) (by rfl) (by rfl) (by repeat (first | exact trivial | refine ⟨by first | rfl | omega, ?_⟩)) ?_ (by repeat (first | exact trivial | refine ⟨by rfl, by rfl, ?_⟩)) (by repeat (first | exact trivial | refine ⟨by rfl, by rfl, ?_⟩)); try rfl)
    | true =>
      have hq1 : 0 < q := of_decide_eq_true hq0
      cases hv : (pickI l c4 q == q - 1) with
      | false =>
        have e : gtG l n q (g4, c4) = (g4, c4 + 1) := by rw [gtG, hq0]; dsimp only [cond_true]; rw [hv]; rfl
        rw [e]
        clear e
        (repeat (first | refine gq_KGP ?_ | (refine ga_KGP ?_; intro _hq)))
        ((try refine aw_ret ?_); refine ret_auto2 (by rfl) (by rfl) (by rfl) (by repeat (first | exact trivial | refine ⟨by first | rfl | omega, ?_⟩)) ?_ (by repeat (first | exact trivial | refine ⟨by rfl, by rfl, ?_⟩)) (by repeat (first | exact trivial | refine ⟨by rfl, by rfl, ?_⟩)); try rfl)
      | true =>
        have e : gtG l n q (g4, c4) = gtF l n (g4, c4 + 1) := by rw [gtG, hq0]; dsimp only [cond_true]; rw [hv]; rfl
        rw [e]
        clear e
        have hp4 := pickI_lt (l := l) (c := c4 + 1) (n := 4) (by omega)
        have hp2 := pickI_lt (l := l) (c := c4 + 1 + 1) (n := 2) (by omega)
        cases f0 : (pickI l (c4 + 1) 4 == 0)
        rotate_left
        · have e : gtF l n (g4, c4 + 1) = (⟨([-1, 5] : List Int).getD (pickI l (c4 + 1 + 1) 2).toNat 0, g4.a, g4.b, g4.c⟩, c4 + 1 + 1 + 1) := by rw [gtF]; dsimp only; rw [f0]; rfl
          rw [e]
          clear e
          (repeat (first | refine gq_KGP ?_ | (refine ga_KGP ?_; intro _hq)))
          ((try refine aw_ret ?_); refine ret_auto2 (by rfl) (by rfl) (by rfl) (by repeat (first | exact trivial | refine ⟨by first | rfl | omega, ?_⟩)) ?_ (by repeat (first | exact trivial | refine ⟨by rfl, by rfl, ?_⟩)) (by repeat (first | exact trivial | refine ⟨by rfl, by rfl, ?_⟩)); try rfl)
        cases f1 : (pickI l (c4 + 1) 4 == 1)
        rotate_left
        · have e : gtF l n (g4, c4 + 1) = (⟨g4.k, n, g4.b, g4.c⟩, c4 + 1 + 1) := by rw [gtF]; dsimp only; rw [f0, f1]; rfl
          rw [e]
          clear e
          (repeat (first | refine gq_KGP ?_ | (refine ga_KGP ?_; intro _hq)))
          ((try refine aw_ret ?_); refine ret_auto2 (by rfl) (by rfl) (by rfl) (by repeat (first | exact trivial | refine ⟨by first | rfl | omega, ?_⟩)) ?_ (by repeat (first | exact trivial | refine ⟨by rfl, by rfl, ?_⟩)) (by repeat (first | exact trivial | refine ⟨by rfl, by rfl, ?_⟩)); try rfl)
        cases f2 : (pickI l (c4 + 1) 4 == 2)
        rotate_left
        · have e : gtF l n (g4, c4 + 1) = (⟨g4.k, g4.a, g4.a, g4.c⟩, c4 + 1 + 1) := by rw [gtF]; dsimp only; rw [f0, f1, f2]; rfl
          rw [e]
          clear e
          (repeat (first | refine gq_KGP ?_ | (refine ga_KGP ?_; intro _hq)))
          ((try refine aw_ret ?_); refine ret_auto2 (by rfl) (by rfl) (by rfl) (by repeat (first | exact trivial | refine ⟨by first | rfl | omega, ?_⟩)) ?_ (by repeat (first | exact trivial | refine ⟨by rfl, by rfl, ?_⟩)) (by repeat (first | exact trivial | refine ⟨by rfl, by rfl, ?_⟩)); try rfl)
        · have e : gtF l n (g4, c4 + 1) = (⟨g4.k, g4.a, g4.b, -1⟩, c4 + 1 + 1) := by rw [gtF]; dsimp only; rw [f0, f1, f2]; rfl
          rw [e]
          clear e
          (repeat (first | refine gq_KGP ?_ | (refine ga_KGP ?_; intro _hq)))
          ((try refine aw_ret ?_); refine ret_auto2 (by rfl) (by rfl) (by rfl) (by repeat (first | exact trivial | refine ⟨by first | rfl | omega, ?_⟩)) ?_ (by repeat (first | exact trivial | refine ⟨by rfl, by rfl, ?_⟩)) (by repeat (first | exact trivial | refine ⟨by rfl, by rfl, ?_⟩)); try rfl)
/-- What is known of drawn gates. -/
def gbd (x : Gt × Int) (c : Int) (d : Int) : Prop := (-1 ≤ x.1.k ∧ x.1.k ≤ 5) ∧ (-1 ≤ x.1.a ∧ x.1.a ≤ 8) ∧ (-1 ≤ x.1.b ∧ x.1.b ≤ 8) ∧ (-1 ≤ x.1.c ∧ x.1.c ≤ 8) ∧ c ≤ x.2 ∧ x.2 ≤ c + d
theorem gtN_bd (l : List UInt8) (c n q : Int) (M : Nat) (hn : 1 ≤ n ∧ n ≤ 8) (hM : 3 ≤ M ∧ M ≤ 8) : gbd (gtN l c n q M) c 20 := by
  have hA : gbd (gtA l c M) c 9 := by
    have h1 := pickI_lt (l := l) (c := c + (M : Int)) (n := 5) (by omega)
    have h2 := ordN_at l c M 0 (by omega)
    have h3 := ordN_at l c M 1 (by omega)
    have h4 := ordN_at l c M 2 (by omega)
    unfold gbd gtA
    dsimp only
    omega
  have hB : gbd (gtB n (gtA l c M)) c 9 := by
    unfold gtB
    cases (n == 1)
    · exact hA
    · unfold gbd at hA ⊢
      dsimp only [cond_true]
      omega
  have hC : gbd (gtC l n (gtB n (gtA l c M))) c 11 := by
    generalize gtB n (gtA l c M) = x at hB
    unfold gtC
    cases (n == 2)
    · unfold gbd at hB ⊢
      dsimp only [cond_false]
      omega
    · have h1 := pickI_lt (l := l) (c := x.2) (n := 3) (by omega)
      have h2 := pickI_lt (l := l) (c := x.2 + 1) (n := 2) (by omega)
      have h3 : 0 ≤ ([0, 1, 3] : List Int).getD (pickI l x.2 3).toNat 0 ∧ ([0, 1, 3] : List Int).getD (pickI l x.2 3).toNat 0 ≤ 3 := by
        obtain h | h | h : (pickI l x.2 3).toNat = 0 ∨ (pickI l x.2 3).toNat = 1 ∨ (pickI l x.2 3).toNat = 2 := by omega
        all_goals (rw [h]; decide)
      unfold gbd at hB ⊢
      dsimp only [cond_true]
      omega
  have hD : gbd (gtD (gtC l n (gtB n (gtA l c M)))) c 11 := by
    generalize gtC l n (gtB n (gtA l c M)) = x at hC
    unfold gtD
    cases (x.1.k == 0)
    · exact hC
    · unfold gbd at hC ⊢
      dsimp only [cond_true]
      omega
  have hE : gbd (gtE (gtD (gtC l n (gtB n (gtA l c M))))) c 11 := by
    generalize gtD (gtC l n (gtB n (gtA l c M))) = x at hD
    unfold gtE
    cases ((x.1.k == 0) || ((x.1.k == 1) || (x.1.k == 3)))
    · exact hD
    · unfold gbd at hD ⊢
      dsimp only [cond_true]
      omega
  unfold gtN
  generalize gtE (gtD (gtC l n (gtB n (gtA l c M)))) = x at hE
  unfold gtG
  cases decide (q > 0)
  · unfold gbd at hE ⊢
    dsimp only [cond_false]
    omega
  cases (pickI l x.2 q == q - 1)
  · unfold gbd at hE ⊢
    dsimp only [cond_true, cond_false]
    omega
  have h3 : -1 ≤ ([-1, 5] : List Int).getD (pickI l (x.2 + 1 + 1) 2).toNat 0 ∧ ([-1, 5] : List Int).getD (pickI l (x.2 + 1 + 1) 2).toNat 0 ≤ 5 := by
    have h1 := pickI_lt (l := l) (c := x.2 + 1 + 1) (n := 2) (by omega)
    obtain h | h : (pickI l (x.2 + 1 + 1) 2).toNat = 0 ∨ (pickI l (x.2 + 1 + 1) 2).toNat = 1 := by omega
    all_goals (rw [h]; decide)
  dsimp only [cond_true]
  unfold gtF
  unfold gbd at hE ⊢
  dsimp only
  cases (pickI l (x.2 + 1) 4 == 0) <;> cases (pickI l (x.2 + 1) 4 == 1) <;> cases (pickI l (x.2 + 1) 4 == 2) <;> dsimp only [cond_true, cond_false] <;> omega
end Go.Proofs.Yteagoafamjbpbaa

/- Drawn numbers of lines, drawn words. -/
namespace Go.Proofs.Yteagoafamjbpbaa
set_option linter.unusedVariables false
set_option linter.unusedSimpArgs false
set_option maxRecDepth 20000
open Go.RowKit
attribute [local irreducible] runA runX AW
end Go.Proofs.Yteagoafamjbpbaa

/- Drawn circuits. -/
namespace Go.Proofs.Yteagoafamjbpbaa
set_option linter.unusedVariables false
set_option linter.unusedSimpArgs false
set_option maxRecDepth 20000
open Go.RowKit
attribute [local irreducible] runA runX AW
def nE (n : Int) : Int := if 8 < (if 1 > n then 1 else n) then 8 else (if 1 > n then 1 else n)
theorem nE_bd (n : Int) : 1 ≤ nE n ∧ nE n ≤ 8 := by unfold nE; omega
def gnM (n : Int) : Nat := if (3 : Int) > nE n then 3 else (nE n).toNat
theorem gnM_eq (n : Int) : (if (3 : Int) > nE n then 3 else nE n) = (gnM n : Int) := by
  have h := nE_bd n
  unfold gnM
  split <;> omega
theorem gnM_bd (n : Int) : 3 ≤ gnM n ∧ gnM n ≤ 8 := by
  have h := nE_bd n
  unfold gnM
  split <;> omega
end Go.Proofs.Yteagoafamjbpbaa

/- Drawn deeds. -/
namespace Go.Proofs.Yteagoafamjbpbaa
set_option linter.unusedVariables false
set_option linter.unusedSimpArgs false
set_option maxRecDepth 20000
open Go.RowKit
attribute [local irreducible] runA runX AW
theorem gq_KML {H G : Prop} (k : H) (h : Hid H → G := by (intro hh; (first | (first | ((first | refine r_none ?_ | refine r_gt (by rfl) (by rfl) (by first | rfl | assumption | omega | (simp only [*, Bool.not_false, Bool.not_true]; first | done | fail) | (simp [*]; first | done | fail)) (by rfl) ?_ | refine r_gf (by rfl) (by rfl) (by first | rfl | assumption | omega | (simp only [*, Bool.not_false, Bool.not_true]; first | done | fail) | (simp [*]; first | done | fail)) (by rfl) ?_); (first | fail | ((first | (refine z_op (by rfl) ?_; first | refine z_ok ?_ ?_ | refine z_ex ?_ (by first | exact ft_raw rfl rfl | ((first | refine ft_rp rfl rfl rfl ?_ | refine ft_row rfl rfl rfl ?_ | refine ft_rpF rfl rfl rfl ?_ | refine ft_rowF rfl rfl rfl ?_ | refine up_row rfl rfl ?_ | refine up_rowF rfl rfl rfl ?_ | refine ct_0 rfl ?_ | refine ct_r rfl rfl ?_ | refine ct_c rfl rfl rfl ?_ | refine cu_all rfl ?_ | refine cu_to rfl ?_ | refine cu_from rfl ?_ | refine cu_p rfl ?_ | fail); (first | omega | (simp only [List.length_append, List.length_replicate, List.length_cons, List.length_nil, List.length_set, List.length_take, List.length_drop, true_and]; omega))) | exact up_raw rfl | exact pk_t (by first | rfl | assumption | omega | (simp only [*, Bool.not_false, Bool.not_true]; first | done | fail) | (simp [*]; first | done | fail)) rfl | exact pk_f (by first | rfl | assumption | omega | (simp only [*, Bool.not_false, Bool.not_true]; first | done | fail) | (simp [*]; first | done | fail)) rfl | exact rw_c Int rfl | exact rw_raw | exact pu_cv (fun w => rfl) (by omega) | exact pu_of (fun w => rfl) rfl | exact be_of (fun w => rfl) | exact nc_of (fun _ _ _ _ => rfl) rfl | exact bu_of (fun w => rfl) rfl | fail) ?_) | ((first | refine q_callE wsT wsZ (by rfl) ?_ | refine q_callVE wsT (by rfl) (by rfl) ?_); refine ⟨_, _, _, (by first | assumption | exact k_pick _ _ _ (by omega) | exact k_odd _ _ _ (by omega)), _, by rfl, ?_, ?_⟩)); focus (first | exact trivial | fail | exact rfl | (first | omega | (simp only [List.length_append, List.length_replicate, List.length_cons, List.length_nil, List.length_set, List.length_take, List.length_drop, true_and]; omega)) | exact cvB (fun w => rfl) | ((repeat' (first | exact rfl | exact cV_len _ | exact cV_ln rfl (by omega) | exact Cel.pos | omega | exact trivial | refine And.intro ?_ ?_)); done) | (simp [*]; done) | (simp; omega))) | fail)) | refine r_nt (by rfl) (by rfl) (by first | rfl | assumption | omega | (simp only [*, Bool.not_false, Bool.not_true]; first | done | fail) | (simp [*]; first | done | fail)) (by rfl) ?_ | refine r_nf (by rfl) (by rfl) (by first | rfl | assumption | omega | (simp only [*, Bool.not_false, Bool.not_true]; first | done | fail) | (simp [*]; first | done | fail)) (by rfl) ?_ | refine r_gu (by rfl) (by rfl) (by rfl) ?_ | refine r_nil ?_) | (first | refine aw_seq ?_ | refine aw_ct (by rfl) (by first | rfl | assumption | omega | (simp only [*, Bool.not_false, Bool.not_true]; first | done | fail) | (simp [*]; first | done | fail)) ?_ | refine aw_cf (by rfl) (by first | rfl | assumption | omega | (simp only [*, Bool.not_false, Bool.not_true]; first | done | fail) | (simp [*]; first | done | fail)) ?_ | refine aw_block ?_ | refine aw_region T0ok cfU_ok (by rfl) ?_ | refine aw_skip ?_ | refine aw_exit ?_ | refine ra_step ?_)); (repeat (first | (first | ((first | refine r_none ?_ | refine r_gt (by rfl) (by rfl) (by first | rfl | assumption | omega | (simp only [*, Bool.not_false, Bool.not_true]; first | done | fail) | (simp [*]; first | done | fail)) (by rfl) ?_ | refine r_gf (by rfl) (by rfl) (by first | rfl | assumption | omega | (simp only [*, Bool.not_false, Bool.not_true]; first | done | fail) | (simp [*]; first | done | fail)) (by rfl) ?_); (first | fail | ((first | (refine z_op (by rfl) ?_; first | refine z_ok ?_ ?_ | refine z_ex ?_ (by first | exact ft_raw rfl rfl | ((first | refine ft_rp rfl rfl rfl ?_ | refine ft_row rfl rfl rfl ?_ | refine ft_rpF rfl rfl rfl ?_ | refine ft_rowF rfl rfl rfl ?_ | refine up_row rfl rfl ?_ | refine up_rowF rfl rfl rfl ?_ | refine ct_0 rfl ?_ | refine ct_r rfl rfl ?_ | refine ct_c rfl rfl rfl ?_ | refine cu_all rfl ?_ | refine cu_to rfl ?_ | refine cu_from rfl ?_ | refine cu_p rfl ?_ | fail); (first | omega | (simp only [List.length_append, List.length_replicate, List.length_cons, List.length_nil, List.length_set, List.length_take, List.length_drop, true_and]; omega))) | exact up_raw rfl | exact pk_t (by first | rfl | assumption | omega | (simp only [*, Bool.not_false, Bool.not_true]; first | done | fail) | (simp [*]; first | done | fail)) rfl | exact pk_f (by first | rfl | assumption | omega | (simp only [*, Bool.not_false, Bool.not_true]; first | done | fail) | (simp [*]; first | done | fail)) rfl | exact rw_c Int rfl | exact rw_raw | exact pu_cv (fun w => rfl) (by omega) | exact pu_of (fun w => rfl) rfl | exact be_of (fun w => rfl) | exact nc_of (fun _ _ _ _ => rfl) rfl | exact bu_of (fun w => rfl) rfl | fail) ?_) | ((first | refine q_callE wsT wsZ (by rfl) ?_ | refine q_callVE wsT (by rfl) (by rfl) ?_); refine ⟨_, _, _, (by first | assumption | exact k_pick _ _ _ (by omega) | exact k_odd _ _ _ (by omega)), _, by rfl, ?_, ?_⟩)); focus (first | exact trivial | fail | exact rfl | (first | omega | (simp only [List.length_append, List.length_replicate, List.length_cons, List.length_nil, List.length_set, List.length_take, List.length_drop, true_and]; omega)) | exact cvB (fun w => rfl) | ((repeat' (first | exact rfl | exact cV_len _ | exact cV_ln rfl (by omega) | exact Cel.pos | omega | exact trivial | refine And.intro ?_ ?_)); done) | (simp [*]; done) | (simp; omega))) | fail)) | refine r_nt (by rfl) (by rfl) (by first | rfl | assumption | omega | (simp only [*, Bool.not_false, Bool.not_true]; first | done | fail) | (simp [*]; first | done | fail)) (by rfl) ?_ | refine r_nf (by rfl) (by rfl) (by first | rfl | assumption | omega | (simp only [*, Bool.not_false, Bool.not_true]; first | done | fail) | (simp [*]; first | done | fail)) (by rfl) ?_ | refine r_gu (by rfl) (by rfl) (by rfl) ?_ | refine r_nil ?_) | (first | refine aw_seq ?_ | refine aw_ct (by rfl) (by first | rfl | assumption | omega | (simp only [*, Bool.not_false, Bool.not_true]; first | done | fail) | (simp [*]; first | done | fail)) ?_ | refine aw_cf (by rfl) (by first | rfl | assumption | omega | (simp only [*, Bool.not_false, Bool.not_true]; first | done | fail) | (simp [*]; first | done | fail)) ?_ | refine aw_block ?_ | refine aw_region T0ok cfU_ok (by rfl) ?_ | refine aw_skip ?_ | refine aw_exit ?_ | refine ra_step ?_))); exact hh.out)) : G := h ⟨k⟩
theorem ga_KML {H G : Prop} (k : H) (h : Hid H → G := by (intro hh; (first | refine r_none ?_ | refine r_gt (by rfl) (by rfl) (by first | rfl | assumption | omega | (simp only [*, Bool.not_false, Bool.not_true]; first | done | fail) | (simp [*]; first | done | fail)) (by rfl) ?_ | refine r_gf (by rfl) (by rfl) (by first | rfl | assumption | omega | (simp only [*, Bool.not_false, Bool.not_true]; first | done | fail) | (simp [*]; first | done | fail)) (by rfl) ?_); refine z_op (by rfl) ?_; refine z_al ?_ hh.out; focus (first | exact trivial | fail | exact rfl | (first | omega | (simp only [List.length_append, List.length_replicate, List.length_cons, List.length_nil, List.length_set, List.length_take, List.length_drop, true_and]; omega)) | exact cvB (fun w => rfl) | ((repeat' (first | exact rfl | exact cV_len _ | exact cV_ln rfl (by omega) | exact Cel.pos | omega | exact trivial | refine And.intro ?_ ?_)); done) | (simp [*]; done) | (simp; omega)))) : G := h ⟨k⟩
theorem gs_KML {H G : Prop} (k : H) (h : Hid H → G := by (intro hh; (first | ((first | refine r_none ?_ | refine r_gt (by rfl) (by rfl) (by first | rfl | assumption | omega | (simp only [*, Bool.not_false, Bool.not_true]; first | done | fail) | (simp [*]; first | done | fail)) (by rfl) ?_ | refine r_gf (by rfl) (by rfl) (by first | rfl | assumption | omega | (simp only [*, Bool.not_false, Bool.not_true]; first | done | fail) | (simp [*]; first | done | fail)) (by rfl) ?_); (first | fail | ((first | (refine z_op (by rfl) ?_; first | refine z_ok ?_ ?_ | refine z_ex ?_ (by first | exact ft_raw rfl rfl | ((first | refine ft_rp rfl rfl rfl ?_ | refine ft_row rfl rfl rfl ?_ | refine ft_rpF rfl rfl rfl ?_ | refine ft_rowF rfl rfl rfl ?_ | refine up_row rfl rfl ?_ | refine up_rowF rfl rfl rfl ?_ | refine ct_0 rfl ?_ | refine ct_r rfl rfl ?_ | refine ct_c rfl rfl rfl ?_ | refine cu_all rfl ?_ | refine cu_to rfl ?_ | refine cu_from rfl ?_ | refine cu_p rfl ?_ | fail); (first | omega | (simp only [List.length_append, List.length_replicate, List.length_cons, List.length_nil, List.length_set, List.length_take, List.length_drop, true_and]; omega))) | exact up_raw rfl | exact pk_t (by first | rfl | assumption | omega | (simp only [*, Bool.not_false, Bool.not_true]; first | done | fail) | (simp [*]; first | done | fail)) rfl | exact pk_f (by first | rfl | assumption | omega | (simp only [*, Bool.not_false, Bool.not_true]; first | done | fail) | (simp [*]; first | done | fail)) rfl | exact rw_c Int rfl | exact rw_raw | exact pu_cv (fun w => rfl) (by omega) | exact pu_of (fun w => rfl) rfl | exact be_of (fun w => rfl) | exact nc_of (fun _ _ _ _ => rfl) rfl | exact bu_of (fun w => rfl) rfl | fail) ?_) | ((first | refine q_callE wsT wsZ (by rfl) ?_ | refine q_callVE wsT (by rfl) (by rfl) ?_); refine ⟨_, _, _, (by first | assumption | exact k_pick _ _ _ (by omega) | exact k_odd _ _ _ (by omega)), _, by rfl, ?_, ?_⟩)); focus (first | exact trivial | fail | exact rfl | (first | omega | (simp only [List.length_append, List.length_replicate, List.length_cons, List.length_nil, List.length_set, List.length_take, List.length_drop, true_and]; omega)) | exact cvB (fun w => rfl) | ((repeat' (first | exact rfl | exact cV_len _ | exact cV_ln rfl (by omega) | exact Cel.pos | omega | exact trivial | refine And.intro ?_ ?_)); done) | (simp [*]; done) | (simp; omega))) | fail)) | refine r_nt (by rfl) (by rfl) (by first | rfl | assumption | omega | (simp only [*, Bool.not_false, Bool.not_true]; first | done | fail) | (simp [*]; first | done | fail)) (by rfl) ?_ | refine r_nf (by rfl) (by rfl) (by first | rfl | assumption | omega | (simp only [*, Bool.not_false, Bool.not_true]; first | done | fail) | (simp [*]; first | done | fail)) (by rfl) ?_ | refine r_gu (by rfl) (by rfl) (by rfl) ?_ | refine r_nil ?_); (repeat (first | ((first | refine r_none ?_ | refine r_gt (by rfl) (by rfl) (by first | rfl | assumption | omega | (simp only [*, Bool.not_false, Bool.not_true]; first | done | fail) | (simp [*]; first | done | fail)) (by rfl) ?_ | refine r_gf (by rfl) (by rfl) (by first | rfl | assumption | omega | (simp only [*, Bool.not_false, Bool.not_true]; first | done | fail) | (simp [*]; first | done | fail)) (by rfl) ?_); (first | fail | ((first | (refine z_op (by rfl) ?_; first | refine z_ok ?_ ?_ | refine z_ex ?_ (by first | exact ft_raw rfl rfl | ((first | refine ft_rp rfl rfl rfl ?_ | refine ft_row rfl rfl rfl ?_ | refine ft_rpF rfl rfl rfl ?_ | refine ft_rowF rfl rfl rfl ?_ | refine up_row rfl rfl ?_ | refine up_rowF rfl rfl rfl ?_ | refine ct_0 rfl ?_ | refine ct_r rfl rfl ?_ | refine ct_c rfl rfl rfl ?_ | refine cu_all rfl ?_ | refine cu_to rfl ?_ | refine cu_from rfl ?_ | refine cu_p rfl ?_ | fail); (first | omega | (simp only [List.length_append, List.length_replicate, List.length_cons, List.length_nil, List.length_set, List.length_take, List.length_drop, true_and]; omega))) | exact up_raw rfl | exact pk_t (by first | rfl | assumption | omega | (simp only [*, Bool.not_false, Bool.not_true]; first | done | fail) | (simp [*]; first | done | fail)) rfl | exact pk_f (by first | rfl | assumption | omega | (simp only [*, Bool.not_false, Bool.not_true]; first | done | fail) | (simp [*]; first | done | fail)) rfl | exact rw_c Int rfl | exact rw_raw | exact pu_cv (fun w => rfl) (by omega) | exact pu_of (fun w => rfl) rfl | exact be_of (fun w => rfl) | exact nc_of (fun _ _ _ _ => rfl) rfl | exact bu_of (fun w => rfl) rfl | fail) ?_) | ((first | refine q_callE wsT wsZ (by rfl) ?_ | refine q_callVE wsT (by rfl) (by rfl) ?_); refine ⟨_, _, _, (by first | assumption | exact k_pick _ _ _ (by omega) | exact k_odd _ _ _ (by omega)), _, by rfl, ?_, ?_⟩)); focus (first | exact trivial | fail | exact rfl | (first | omega | (simp only [List.length_append, List.length_replicate, List.length_cons, List.length_nil, List.length_set, List.length_take, List.length_drop, true_and]; omega)) | exact cvB (fun w => rfl) | ((repeat' (first | exact rfl | exact cV_len _ | exact cV_ln rfl (by omega) | exact Cel.pos | omega | exact trivial | refine And.intro ?_ ?_)); done) | (simp [*]; done) | (simp; omega))) | fail)) | refine r_nt (by rfl) (by rfl) (by first | rfl | assumption | omega | (simp only [*, Bool.not_false, Bool.not_true]; first | done | fail) | (simp [*]; first | done | fail)) (by rfl) ?_ | refine r_nf (by rfl) (by rfl) (by first | rfl | assumption | omega | (simp only [*, Bool.not_false, Bool.not_true]; first | done | fail) | (simp [*]; first | done | fail)) (by rfl) ?_ | refine r_gu (by rfl) (by rfl) (by rfl) ?_ | refine r_nil ?_)); exact hh.out)) : G := h ⟨k⟩
theorem gc_KML {H G : Prop} (k : H) (h : Hid H → G := by (intro hh; (first | refine aw_seq ?_ | refine aw_ct (by rfl) (by first | rfl | assumption | omega | (simp only [*, Bool.not_false, Bool.not_true]; first | done | fail) | (simp [*]; first | done | fail)) ?_ | refine aw_cf (by rfl) (by first | rfl | assumption | omega | (simp only [*, Bool.not_false, Bool.not_true]; first | done | fail) | (simp [*]; first | done | fail)) ?_ | refine aw_block ?_ | refine aw_region T0ok cfU_ok (by rfl) ?_ | refine aw_skip ?_ | refine aw_exit ?_ | refine ra_step ?_); (repeat (first | refine aw_seq ?_ | refine aw_ct (by rfl) (by first | rfl | assumption | omega | (simp only [*, Bool.not_false, Bool.not_true]; first | done | fail) | (simp [*]; first | done | fail)) ?_ | refine aw_cf (by rfl) (by first | rfl | assumption | omega | (simp only [*, Bool.not_false, Bool.not_true]; first | done | fail) | (simp [*]; first | done | fail)) ?_ | refine aw_block ?_ | refine aw_region T0ok cfU_ok (by rfl) ?_ | refine aw_skip ?_ | refine aw_exit ?_ | refine ra_step ?_)); exact hh.out)) : G := h ⟨k⟩
abbrev tK9 (l : List UInt8) (c : Int) : Int := ([0, 0, 1, 1, 2, 2, 2, 3, 4] : List Int).getD (pickI l c 9).toNat Cel.no
theorem tK9_bd (l : List UInt8) (c : Int) (h : 0 ≤ pickI l c 9 ∧ pickI l c 9 < 9) : 0 ≤ ([0, 0, 1, 1, 2, 2, 2, 3, 4] : List Int).getD (pickI l c 9).toNat Cel.no ∧ ([0, 0, 1, 1, 2, 2, 2, 3, 4] : List Int).getD (pickI l c 9).toNat Cel.no ≤ 4 := by
  obtain ⟨k, hk⟩ : ∃ k, (pickI l c 9).toNat = k := ⟨_, rfl⟩
  have h9 : k < 9 := by omega
  rw [hk]
  obtain rfl | rfl | rfl | rfl | rfl | rfl | rfl | rfl | rfl : k = 0 ∨ k = 1 ∨ k = 2 ∨ k = 3 ∨ k = 4 ∨ k = 5 ∨ k = 6 ∨ k = 7 ∨ k = 8 := by omega
  all_goals decide
def ddA (l : List UInt8) (c : Int) : Dd × Int := (⟨tK9 l c + pickI l (c + 1) 60 / 59 * 5, 0, gZ⟩, c + 1 + 1)
def ddG (l : List UInt8) (gs : List Gt) (x : Dd × Int) : Dd × Int :=
  bif decide ((gs.length : Int) > 0) then (bif pickI l x.2 3 == 0 then (⟨x.1.k, x.1.n, gs.getD (pickI l (x.2 + 1) gs.length).toNat Cel.no⟩, x.2 + 1 + 1) else (x.1, x.2 + 1)) else x
def ddB (l : List UInt8) (n : Int) (gs : List Gt) (x : Dd × Int) : Dd × Int :=
  bif x.1.k == 0 || x.1.k == 1 then (⟨x.1.k, 1 + pickI l x.2 3, x.1.p⟩, x.2 + 1)
  else bif x.1.k == 2 then ddG l gs (⟨x.1.k, x.1.n, (gtN l x.2 (nE n) 12 (gnM n)).1⟩, (gtN l x.2 (nE n) 12 (gnM n)).2)
  else x
def ddC (l : List UInt8) (x : Dd × Int) : Dd × Int := bif pickI l x.2 30 == 29 then (⟨x.1.k, x.1.n + pickI l (x.2 + 1) 30 - 5, x.1.p⟩, x.2 + 1 + 1) else (x.1, x.2 + 1)
def ddM (l : List UInt8) (n : Int) (gs : List Gt) (c : Int) : Dd × Int := ddC l (ddB l n gs (ddA l c))
theorem ddB_bd (l : List UInt8) (n : Int) (gs : List Gt) (x : Dd × Int) : x.2 ≤ (ddB l n gs x).2 ∧ (ddB l n gs x).2 ≤ x.2 + 23 ∧ (ddB l n gs x).1.k = x.1.k ∧ ((ddB l n gs x).1.n = x.1.n ∨ (1 ≤ (ddB l n gs x).1.n ∧ (ddB l n gs x).1.n ≤ 3)) := by
  have hp3 := pickI_lt (l := l) (c := x.2) (n := 3) (by omega)
  have hGb := gtN_bd l x.2 (nE n) 12 (gnM n) (nE_bd n) (gnM_bd n)
  unfold gbd at hGb
  unfold ddB
  cases (x.1.k == 0 || x.1.k == 1)
  · dsimp only [cond_false]
    cases (x.1.k == 2)
    · exact ⟨Int.le_refl _, by dsimp only [cond_false]; omega, rfl, .inl rfl⟩
    · dsimp only [cond_true]
      unfold ddG
      dsimp only
      cases decide ((gs.length : Int) > 0)
      · dsimp only [cond_false]
        exact ⟨by omega, by omega, rfl, .inl rfl⟩
      · dsimp only [cond_true]
        cases (pickI l (gtN l x.2 (nE n) 12 (gnM n)).2 3 == 0)
        · dsimp only [cond_false]
          exact ⟨by omega, by omega, rfl, .inl rfl⟩
        · dsimp only [cond_true]
          exact ⟨by omega, by omega, rfl, .inl rfl⟩
  · dsimp only [cond_true]
    exact ⟨by omega, by omega, rfl, .inr ⟨by omega, by omega⟩⟩
theorem ddM_bd (l : List UInt8) (n : Int) (gs : List Gt) (c : Int) : c ≤ (ddM l n gs c).2 ∧ (ddM l n gs c).2 ≤ c + 27 := by
  have hb := ddB_bd l n gs (ddA l c)
  have ha : (ddA l c).2 = c + 1 + 1 := rfl
  unfold ddM ddC
  cases (pickI l (ddB l n gs (ddA l c)).2 30 == 29)
  · dsimp only [cond_false]; omega
  · dsimp only [cond_true]; omega
set_option maxRecDepth 1000000 in
set_option maxHeartbeats 4000000 in
theorem k_deed (l : List UInt8) (c n f w a : Int) (gs : List Gt) (h : 0 ≤ c ∧ c ≤ 90000 ∧ l.length ≤ 2000) (hgs : gs.length ≤ 1000) : Kon Try.prog 72 [p0, .g (.agg [.v (.int .i64 n), roG gs, .v (.int .i64 f), .v (.int .i64 w), .v (.int .i64 a)])] ([rdE l c] ++ []) (dV (ddM l n gs c).1) [] ([rdE l (ddM l n gs c).2] ++ []) := by
  have hp9 := pickI_lt (l := l) (c := c) (n := 9) (by omega)
  have hp60 := pickI_lt (l := l) (c := c + 1) (n := 60) (by omega)
  have hk9 := tK9_bd l c hp9
  rw [ddM]
  (refine kon_mk T0ok (fn := Try.f72) (c := Try.f72.body.get rfl) Try.func72 rfl (by rfl) (by rfl) (by rfl) ?_; intro hfit hfe)
  (repeat refine gc_KML ?_)
  (repeat (first | refine gs_KML ?_ | (refine ga_KML ?_; intro _q ⟨_he, _hq⟩)))
  refine aw_cutg [0, 3, 4] [48, 64] (fun g : Dd × Int => [(5, .g (.one (.ptr 80 0 0)))]) (fun g => [(80, (0, .box (dCs g.1))), (100000, (0, rdE l g.2))]) (fun g => g = ddA l c) (by rfl) (by rfl) ?_ ?_
  · (refine aw_draw mixed T0ok cfU_ok [(100000, [2, 6]), (96, [0, 3, 4]), (80, [11, 12])] (by rfl) (by kernel_rfl) ?_)
    (repeat (first | refine gq_KML ?_ | (refine ga_KML ?_; intro _q ⟨_he, _hq⟩)))
    subst _he
    exact ⟨ddA l c, rfl, ⟨by rfl, (by repeat (first | exact trivial | refine ⟨by rfl, ?_⟩ | refine ⟨vI_of (by rfl) (by omega), ?_⟩)), (by repeat (first | exact trivial | refine ⟨by rfl, ?_⟩ | refine ⟨vI_of (by rfl) (by omega), ?_⟩))⟩⟩
  rintro ⟨d1, c1⟩ he
  have hc1 : c1 = c + 2 ∧ (0 ≤ d1.k ∧ d1.k ≤ 9) ∧ d1.n = 0 := by
    rw [ddA] at he
    obtain ⟨h1, h2⟩ := Prod.mk.inj he
    have hk9' : 0 ≤ tK9 l c ∧ tK9 l c ≤ 4 := hk9
    rw [h1]
    dsimp only
    omega
  rw [← he]
  clear he
  obtain ⟨hc1, hk1, hn1⟩ := hc1
  dsimp only
  refine aw_cutg [0, 3, 4, 5] [48, 64] (fun g : Dd × Int => []) (fun g => [(80, (0, .box (dCs g.1))), (100000, (0, rdE l g.2))]) (fun g => g = ddB l n gs (d1, c1)) (by rfl) (by rfl) ?_ ?_
  · have hp3 := pickI_lt (l := l) (c := c1) (n := 3) (by omega)
    cases h0 : (d1.k == 0)
    rotate_left
    · (repeat (first | refine gq_KML ?_ | (refine ga_KML ?_; intro _q ⟨_he, _hq⟩)))
      exact ⟨(⟨d1.k, 1 + pickI l c1 3, d1.p⟩, c1 + 1), by rw [ddB]; dsimp only; rw [h0]; rfl, ⟨by rfl, (by repeat (first | exact trivial | refine ⟨by rfl, ?_⟩ | refine ⟨vI_of (by rfl) (by omega), ?_⟩)), (by repeat (first | exact trivial | refine ⟨by rfl, ?_⟩ | refine ⟨vI_of (by rfl) (by omega), ?_⟩))⟩⟩
    cases h1 : (d1.k == 1)
    rotate_left
    · (repeat (first | refine gq_KML ?_ | (refine ga_KML ?_; intro _q ⟨_he, _hq⟩)))
      exact ⟨(⟨d1.k, 1 + pickI l c1 3, d1.p⟩, c1 + 1), by rw [ddB]; dsimp only; rw [h0, h1]; rfl, ⟨by rfl, (by repeat (first | exact trivial | refine ⟨by rfl, ?_⟩ | refine ⟨vI_of (by rfl) (by omega), ?_⟩)), (by repeat (first | exact trivial | refine ⟨by rfl, ?_⟩ | refine ⟨vI_of (by rfl) (by omega), ?_⟩))⟩⟩
    cases h2 : (d1.k == 2)
    · (repeat (first | refine gq_KML ?_ | (refine ga_KML ?_; intro _q ⟨_he, _hq⟩)))
      exact ⟨(d1, c1), by simp [ddB, h0, h1, h2], ⟨by rfl, (by repeat (first | exact trivial | refine ⟨by rfl, ?_⟩ | refine ⟨vI_of (by rfl) (by omega), ?_⟩)), (by repeat (first | exact trivial | refine ⟨by rfl, ?_⟩ | refine ⟨vI_of (by rfl) (by omega), ?_⟩))⟩⟩
    · have hG := k_gate l c1 (nE n) 12 (gnM n) (gnM_eq n) (nE_bd n) (by omega) (by omega)
      have hGb := gtN_bd l c1 (nE n) 12 (gnM n) (nE_bd n) (gnM_bd n)
      rcases hx : gtN l c1 (nE n) 12 (gnM n) with ⟨g, c2⟩
      rw [hx] at hG hGb
      unfold gbd at hGb
      dsimp only at hG hGb
      have eB : ddB l n gs (d1, c1) = ddG l gs (⟨d1.k, d1.n, g⟩, c2) := by rw [ddB]; dsimp only; rw [h0, h1, h2]; dsimp only [cond_true, cond_false, Bool.or_false]; rw [hx]; rfl
      rw [eB]
      have hp32 := pickI_lt (l := l) (c := c2) (n := 3) (by omega)
      cases hl0 : decide ((gs.length : Int) > 0) with
      | false =>
        (repeat (first | refine gq_KML ?_ | (refine ga_KML ?_; intro _q ⟨_he, _hq⟩)))
        exact ⟨(⟨d1.k, d1.n, g⟩, c2), by rw [ddG, hl0]; rfl, ⟨by rfl, (by repeat (first | exact trivial | refine ⟨by rfl, ?_⟩ | refine ⟨vI_of (by rfl) (by omega), ?_⟩)), (by repeat (first | exact trivial | refine ⟨by rfl, ?_⟩ | refine ⟨vI_of (by rfl) (by omega), ?_⟩))⟩⟩
      | true =>
        have hl1 : (gs.length : Int) > 0 := of_decide_eq_true hl0
        cases hq : (pickI l c2 3 == 0) with
        | false =>
          (repeat (first | refine gq_KML ?_ | (refine ga_KML ?_; intro _q ⟨_he, _hq⟩)))
          exact ⟨(⟨d1.k, d1.n, g⟩, c2 + 1), by rw [ddG, hl0]; dsimp only [cond_true]; rw [hq]; rfl, ⟨by rfl, (by repeat (first | exact trivial | refine ⟨by rfl, ?_⟩ | refine ⟨vI_of (by rfl) (by omega), ?_⟩)), (by repeat (first | exact trivial | refine ⟨by rfl, ?_⟩ | refine ⟨vI_of (by rfl) (by omega), ?_⟩))⟩⟩
        | true =>
          have hpl := pickI_lt (l := l) (c := c2 + 1) (n := (gs.length : Int)) (by omega)
          (repeat (first | refine gq_KML ?_ | (refine ga_KML ?_; intro _q ⟨_he, _hq⟩)))
          (refine aw_draw mixed T0ok cfU_ok [(100000, [6]), (80, [9, 10])] (by rfl) (by kernel_rfl) ?_)
          (repeat (first | refine gq_KML ?_ | (refine ga_KML ?_; intro _q ⟨_he, _hq⟩)))
          exact ⟨(⟨d1.k, d1.n, gs.getD (pickI l (c2 + 1) gs.length).toNat Cel.no⟩, c2 + 1 + 1), by rw [ddG, hl0]; dsimp only [cond_true]; rw [hq]; rfl, ⟨by rfl, (by repeat (first | exact trivial | refine ⟨by rfl, ?_⟩ | refine ⟨vI_of (by rfl) (by omega), ?_⟩)), (by repeat (first | exact trivial | refine ⟨by rfl, ?_⟩ | refine ⟨vI_of (by rfl) (by omega), ?_⟩))⟩⟩
  rintro ⟨d2, c2⟩ he
  have hc2 : c1 ≤ c2 ∧ c2 ≤ c1 + 23 ∧ (0 ≤ d2.n ∧ d2.n ≤ 3) := by
    have := ddB_bd l n gs (d1, c1)
    rw [← he] at this
    dsimp only at this
    omega
  rw [← he]
  clear he
  dsimp only
  have hp30 := pickI_lt (l := l) (c := c2) (n := 30) (by omega)
  have hp30' := pickI_lt (l := l) (c := c2 + 1) (n := 30) (by omega)
  cases hv : (pickI l c2 30 == 30 - 1) with
  | false =>
    have e : ddC l (d2, c2) = (d2, c2 + 1) := by rw [ddC]; dsimp only; rw [show (pickI l c2 30 == 29) = false from hv]; rfl
    rw [e]
    clear e
    (repeat (first | refine gq_KML ?_ | (refine ga_KML ?_; intro _q ⟨_he, _hq⟩)))
    ((try refine aw_ret ?_); refine ret_auto2 (by rfl) (by rfl) (by rfl) (by repeat (first | exact trivial | refine ⟨by first | rfl | omega, ?_⟩)) ?_ (by repeat (first | exact trivial | refine ⟨by rfl, by rfl, ?_⟩)) (by repeat (first | exact trivial | refine ⟨by rfl, by rfl, ?_⟩)); try rfl)
  | true =>
    have e : ddC l (d2, c2) = (⟨d2.k, d2.n + pickI l (c2 + 1) 30 - 5, d2.p⟩, c2 + 1 + 1) := by rw [ddC]; dsimp only; rw [show (pickI l c2 30 == 29) = true from hv]; rfl
    rw [e]
    clear e
    (repeat (first | refine gq_KML ?_ | (refine ga_KML ?_; intro _q ⟨_he, _hq⟩)))
    (refine aw_draw mixed T0ok cfU_ok [(100000, [3]), (80, [0, 1, 6, 7])] (by rfl) (by kernel_rfl) ?_)
    (repeat (first | refine gq_KML ?_ | (refine ga_KML ?_; intro _q ⟨_he, _hq⟩)))
    ((try refine aw_ret ?_); refine ret_auto2 (by rfl) (by rfl) (by rfl) (by repeat (first | exact trivial | refine ⟨by first | rfl | omega, ?_⟩)) ?_ (by repeat (first | exact trivial | refine ⟨by rfl, by rfl, ?_⟩)) (by repeat (first | exact trivial | refine ⟨by rfl, by rfl, ?_⟩)); try rfl)
set_option maxRecDepth 1000000 in
set_option maxHeartbeats 4000000 in
theorem k_deedO (l : List UInt8) (c n f w a : Int) (gs : List Gt) (h : 0 ≤ c ∧ c ≤ 90000 ∧ l.length ≤ 2000) (hgs : gs.length ≤ 1000) : Kon Try.prog 72 [p0, .g (.agg [.v (.int .i64 n), .sl 100001 0 gs.length, .v (.int .i64 f), .v (.int .i64 w), .v (.int .i64 a)])] ([rdE l c] ++ [gRow gs]) (dV (ddM l n gs c).1) [] ([rdE l (ddM l n gs c).2] ++ [gRow gs]) := by
  have hp9 := pickI_lt (l := l) (c := c) (n := 9) (by omega)
  have hp60 := pickI_lt (l := l) (c := c + 1) (n := 60) (by omega)
  have hk9 := tK9_bd l c hp9
  rw [ddM]
  (refine kon_mk T0ok (fn := Try.f72) (c := Try.f72.body.get rfl) Try.func72 rfl (by rfl) (by rfl) (by rfl) ?_; intro hfit hfe)
  (repeat refine gc_KML ?_)
  (repeat (first | refine gs_KML ?_ | (refine ga_KML ?_; intro _q ⟨_he, _hq⟩)))
  refine aw_cutg [0, 3, 4] [48, 64, 100001] (fun g : Dd × Int => [(5, .g (.one (.ptr 80 0 0)))]) (fun g => [(80, (0, .box (dCs g.1))), (100000, (0, rdE l g.2))]) (fun g => g = ddA l c) (by rfl) (by rfl) ?_ ?_
  · (refine aw_draw mixed T0ok cfU_ok [(100000, [2, 6]), (96, [0, 3, 4]), (80, [11, 12])] (by rfl) (by kernel_rfl) ?_)
    (repeat (first | refine gq_KML ?_ | (refine ga_KML ?_; intro _q ⟨_he, _hq⟩)))
    subst _he
    exact ⟨ddA l c, rfl, ⟨by rfl, (by repeat (first | exact trivial | refine ⟨by rfl, ?_⟩ | refine ⟨vI_of (by rfl) (by omega), ?_⟩)), (by repeat (first | exact trivial | refine ⟨by rfl, ?_⟩ | refine ⟨vI_of (by rfl) (by omega), ?_⟩))⟩⟩
  rintro ⟨d1, c1⟩ he
  have hc1 : c1 = c + 2 ∧ (0 ≤ d1.k ∧ d1.k ≤ 9) ∧ d1.n = 0 := by
    rw [ddA] at he
    obtain ⟨h1, h2⟩ := Prod.mk.inj he
    have hk9' : 0 ≤ tK9 l c ∧ tK9 l c ≤ 4 := hk9
    rw [h1]
    dsimp only
    omega
  rw [← he]
  clear he
  obtain ⟨hc1, hk1, hn1⟩ := hc1
  dsimp only
  refine aw_cutg [0, 3, 4, 5] [48, 64, 100001] (fun g : Dd × Int => []) (fun g => [(80, (0, .box (dCs g.1))), (100000, (0, rdE l g.2))]) (fun g => g = ddB l n gs (d1, c1)) (by rfl) (by rfl) ?_ ?_
  · have hp3 := pickI_lt (l := l) (c := c1) (n := 3) (by omega)
    cases h0 : (d1.k == 0)
    rotate_left
    · (repeat (first | refine gq_KML ?_ | (refine ga_KML ?_; intro _q ⟨_he, _hq⟩)))
      exact ⟨(⟨d1.k, 1 + pickI l c1 3, d1.p⟩, c1 + 1), by rw [ddB]; dsimp only; rw [h0]; rfl, ⟨by rfl, (by repeat (first | exact trivial | refine ⟨by rfl, ?_⟩ | refine ⟨vI_of (by rfl) (by omega), ?_⟩)), (by repeat (first | exact trivial | refine ⟨by rfl, ?_⟩ | refine ⟨vI_of (by rfl) (by omega), ?_⟩))⟩⟩
    cases h1 : (d1.k == 1)
    rotate_left
    · (repeat (first | refine gq_KML ?_ | (refine ga_KML ?_; intro _q ⟨_he, _hq⟩)))
      exact ⟨(⟨d1.k, 1 + pickI l c1 3, d1.p⟩, c1 + 1), by rw [ddB]; dsimp only; rw [h0, h1]; rfl, ⟨by rfl, (by repeat (first | exact trivial | refine ⟨by rfl, ?_⟩ | refine ⟨vI_of (by rfl) (by omega), ?_⟩)), (by repeat (first | exact trivial | refine ⟨by rfl, ?_⟩ | refine ⟨vI_of (by rfl) (by omega), ?_⟩))⟩⟩
    cases h2 : (d1.k == 2)
    · (repeat (first | refine gq_KML ?_ | (refine ga_KML ?_; intro _q ⟨_he, _hq⟩)))
      exact ⟨(d1, c1), by simp [ddB, h0, h1, h2], ⟨by rfl, (by repeat (first | exact trivial | refine ⟨by rfl, ?_⟩ | refine ⟨vI_of (by rfl) (by omega), ?_⟩)), (by repeat (first | exact trivial | refine ⟨by rfl, ?_⟩ | refine ⟨vI_of (by rfl) (by omega), ?_⟩))⟩⟩
    · have hG := k_gate l c1 (nE n) 12 (gnM n) (gnM_eq n) (nE_bd n) (by omega) (by omega)
      have hGb := gtN_bd l c1 (nE n) 12 (gnM n) (nE_bd n) (gnM_bd n)
      rcases hx : gtN l c1 (nE n) 12 (gnM n) with ⟨g, c2⟩
      rw [hx] at hG hGb
      unfold gbd at hGb
      dsimp only at hG hGb
      have eB : ddB l n gs (d1, c1) = ddG l gs (⟨d1.k, d1.n, g⟩, c2) := by rw [ddB]; dsimp only; rw [h0, h1, h2]; dsimp only [cond_true, cond_false, Bool.or_false]; rw [hx]; rfl
      rw [eB]
      have hp32 := pickI_lt (l := l) (c := c2) (n := 3) (by omega)
      cases hl0 : decide ((gs.length : Int) > 0) with
      | false =>
        (repeat (first | refine gq_KML ?_ | (refine ga_KML ?_; intro _q ⟨_he, _hq⟩)))
        exact ⟨(⟨d1.k, d1.n, g⟩, c2), by rw [ddG, hl0]; rfl, ⟨by rfl, (by repeat (first | exact trivial | refine ⟨by rfl, ?_⟩ | refine ⟨vI_of (by rfl) (by omega), ?_⟩)), (by repeat (first | exact trivial | refine ⟨by rfl, ?_⟩ | refine ⟨vI_of (by rfl) (by omega), ?_⟩))⟩⟩
      | true =>
        have hl1 : (gs.length : Int) > 0 := of_decide_eq_true hl0
        cases hq : (pickI l c2 3 == 0) with
        | false =>
          (repeat (first | refine gq_KML ?_ | (refine ga_KML ?_; intro _q ⟨_he, _hq⟩)))
          exact ⟨(⟨d1.k, d1.n, g⟩, c2 + 1), by rw [ddG, hl0]; dsimp only [cond_true]; rw [hq]; rfl, ⟨by rfl, (by repeat (first | exact trivial | refine ⟨by rfl, ?_⟩ | refine ⟨vI_of (by rfl) (by omega), ?_⟩)), (by repeat (first | exact trivial | refine ⟨by rfl, ?_⟩ | refine ⟨vI_of (by rfl) (by omega), ?_⟩))⟩⟩
        | true =>
          have hpl := pickI_lt (l := l) (c := c2 + 1) (n := (gs.length : Int)) (by omega)
          (repeat (first | refine gq_KML ?_ | (refine ga_KML ?_; intro _q ⟨_he, _hq⟩)))
          (refine aw_draw mixed T0ok cfU_ok [(100000, [6]), (80, [9, 10])] (by rfl) (by kernel_rfl) ?_)
          (repeat (first | refine gq_KML ?_ | (refine ga_KML ?_; intro _q ⟨_he, _hq⟩)))
          exact ⟨(⟨d1.k, d1.n, gs.getD (pickI l (c2 + 1) gs.length).toNat Cel.no⟩, c2 + 1 + 1), by rw [ddG, hl0]; dsimp only [cond_true]; rw [hq]; rfl, ⟨by rfl, (by repeat (first | exact trivial | refine ⟨by rfl, ?_⟩ | refine ⟨vI_of (by rfl) (by omega), ?_⟩)), (by repeat (first | exact trivial | refine ⟨by rfl, ?_⟩ | refine ⟨vI_of (by rfl) (by omega), ?_⟩))⟩⟩
  rintro ⟨d2, c2⟩ he
  have hc2 : c1 ≤ c2 ∧ c2 ≤ c1 + 23 ∧ (0 ≤ d2.n ∧ d2.n ≤ 3) := by
    have := ddB_bd l n gs (d1, c1)
    rw [← he] at this
    dsimp only at this
    omega
  rw [← he]
  clear he
  dsimp only
  have hp30 := pickI_lt (l := l) (c := c2) (n := 30) (by omega)
  have hp30' := pickI_lt (l := l) (c := c2 + 1) (n := 30) (by omega)
  cases hv : (pickI l c2 30 == 30 - 1) with
  | false =>
    have e : ddC l (d2, c2) = (d2, c2 + 1) := by rw [ddC]; dsimp only; rw [show (pickI l c2 30 == 29) = false from hv]; rfl
    rw [e]
    clear e
    (repeat (first | refine gq_KML ?_ | (refine ga_KML ?_; intro _q ⟨_he, _hq⟩)))
    ((try refine aw_ret ?_); refine ret_auto2 (by rfl) (by rfl) (by rfl) (by repeat (first | exact trivial | refine ⟨by first | rfl | omega, ?_⟩)) ?_ (by repeat (first | exact trivial | refine ⟨by rfl, by rfl, ?_⟩)) (by repeat (first | exact trivial | refine ⟨by rfl, by rfl, ?_⟩)); try rfl)
  | true =>
    have e : ddC l (d2, c2) = (⟨d2.k, d2.n + pickI l (c2 + 1) 30 - 5, d2.p⟩, c2 + 1 + 1) := by rw [ddC]; dsimp only; rw [show (pickI l c2 30 == 29) = true from hv]; rfl
    rw [e]
    clear e
    (repeat (first | refine gq_KML ?_ | (refine ga_KML ?_; intro _q ⟨_he, _hq⟩)))
    (refine aw_draw mixed T0ok cfU_ok [(100000, [3]), (80, [0, 1, 6, 7])] (by rfl) (by kernel_rfl) ?_)
    (repeat (first | refine gq_KML ?_ | (refine ga_KML ?_; intro _q ⟨_he, _hq⟩)))
    ((try refine aw_ret ?_); refine ret_auto2 (by rfl) (by rfl) (by rfl) (by repeat (first | exact trivial | refine ⟨by first | rfl | omega, ?_⟩)) ?_ (by repeat (first | exact trivial | refine ⟨by rfl, by rfl, ?_⟩)) (by repeat (first | exact trivial | refine ⟨by rfl, by rfl, ?_⟩)); try rfl)
end Go.Proofs.Yteagoafamjbpbaa

/- Drawn benches. -/
namespace Go.Proofs.Yteagoafamjbpbaa
set_option linter.unusedVariables false
set_option linter.unusedSimpArgs false
set_option maxRecDepth 20000
open Go.RowKit
attribute [local irreducible] runA runX AW
def wsTQ : WsT := (72, ([0, 1], true)) :: wsT
theorem gq_KMM {H G : Prop} (k : H) (h : Hid H → G := by (intro hh; (first | (first | ((first | refine r_none ?_ | refine r_gt (by rfl) (by rfl) (by first | rfl | assumption | omega | (simp only [*, Bool.not_false, Bool.not_true]; first | done | fail) | (simp [*]; first | done | fail)) (by rfl) ?_ | refine r_gf (by rfl) (by rfl) (by first | rfl | assumption | omega | (simp only [*, Bool.not_false, Bool.not_true]; first | done | fail) | (simp [*]; first | done | fail)) (by rfl) ?_); (first | (refine q_callF wsTQ wsZ (by rfl) (by rfl) (by rfl) (by rfl) (by first | rfl | (simp [callB]; first | done | decide)) ?_; refine ⟨_, _, _, (by assumption), _, by rfl, ?_, ?_⟩; focus (first | exact trivial | fail | exact rfl | (first | omega | (simp only [List.length_append, List.length_replicate, List.length_cons, List.length_nil, List.length_set, List.length_take, List.length_drop, true_and]; omega)) | exact cvB (fun w => rfl) | ((repeat' (first | exact rfl | exact cV_len _ | exact cV_ln rfl (by omega) | exact Cel.pos | omega | exact trivial | refine And.intro ?_ ?_)); done) | (simp [*]; done) | (simp; omega))) | ((first | (refine z_op (by rfl) ?_; first | refine z_ok ?_ ?_ | refine z_ex ?_ (by first | exact ft_raw rfl rfl | ((first | refine ft_rp rfl rfl rfl ?_ | refine ft_row rfl rfl rfl ?_ | refine ft_rpF rfl rfl rfl ?_ | refine ft_rowF rfl rfl rfl ?_ | refine up_row rfl rfl ?_ | refine up_rowF rfl rfl rfl ?_ | refine ct_0 rfl ?_ | refine ct_r rfl rfl ?_ | refine ct_c rfl rfl rfl ?_ | refine cu_all rfl ?_ | refine cu_to rfl ?_ | refine cu_from rfl ?_ | refine cu_p rfl ?_ | fail); (first | omega | (simp only [List.length_append, List.length_replicate, List.length_cons, List.length_nil, List.length_set, List.length_take, List.length_drop, true_and]; omega))) | exact up_raw rfl | exact pk_t (by first | rfl | assumption | omega | (simp only [*, Bool.not_false, Bool.not_true]; first | done | fail) | (simp [*]; first | done | fail)) rfl | exact pk_f (by first | rfl | assumption | omega | (simp only [*, Bool.not_false, Bool.not_true]; first | done | fail) | (simp [*]; first | done | fail)) rfl | (first | exact rw_c Int rfl | exact rw_c Gt rfl) | exact rw_raw | exact pu_cv (fun w => rfl) (by omega) | exact pu_of (fun w => rfl) rfl | exact be_of (fun w => rfl) | exact nc_of (fun _ _ _ _ => rfl) rfl | exact bu_of (fun w => rfl) rfl | fail) ?_) | ((first | refine q_callE wsTQ wsZ (by rfl) ?_ | refine q_callVE wsTQ (by rfl) (by rfl) ?_); refine ⟨_, _, _, (by first | assumption | exact k_pick _ _ _ (by omega) | exact k_odd0 _ _ _ (by omega) | exact k_odd _ _ _ (by omega)), _, by rfl, ?_, ?_⟩)); focus (first | exact trivial | fail | exact rfl | (first | omega | (simp only [List.length_append, List.length_replicate, List.length_cons, List.length_nil, List.length_set, List.length_take, List.length_drop, true_and]; omega)) | exact cvB (fun w => rfl) | ((repeat' (first | exact rfl | exact cV_len _ | exact cV_ln rfl (by omega) | exact Cel.pos | omega | exact trivial | refine And.intro ?_ ?_)); done) | (simp [*]; done) | (simp; omega))) | fail)) | refine r_nt (by rfl) (by rfl) (by first | rfl | assumption | omega | (simp only [*, Bool.not_false, Bool.not_true]; first | done | fail) | (simp [*]; first | done | fail)) (by rfl) ?_ | refine r_nf (by rfl) (by rfl) (by first | rfl | assumption | omega | (simp only [*, Bool.not_false, Bool.not_true]; first | done | fail) | (simp [*]; first | done | fail)) (by rfl) ?_ | refine r_gu (by rfl) (by rfl) (by rfl) ?_ | refine r_nil ?_) | (first | refine aw_seq ?_ | refine aw_ct (by rfl) (by first | rfl | assumption | omega | (simp only [*, Bool.not_false, Bool.not_true]; first | done | fail) | (simp [*]; first | done | fail)) ?_ | refine aw_cf (by rfl) (by first | rfl | assumption | omega | (simp only [*, Bool.not_false, Bool.not_true]; first | done | fail) | (simp [*]; first | done | fail)) ?_ | refine aw_block ?_ | refine aw_region T0ok cfU_ok (by rfl) ?_ | refine aw_skip ?_ | refine aw_exit ?_ | refine ra_step ?_)); (repeat (first | (first | ((first | refine r_none ?_ | refine r_gt (by rfl) (by rfl) (by first | rfl | assumption | omega | (simp only [*, Bool.not_false, Bool.not_true]; first | done | fail) | (simp [*]; first | done | fail)) (by rfl) ?_ | refine r_gf (by rfl) (by rfl) (by first | rfl | assumption | omega | (simp only [*, Bool.not_false, Bool.not_true]; first | done | fail) | (simp [*]; first | done | fail)) (by rfl) ?_); (first | (refine q_callF wsTQ wsZ (by rfl) (by rfl) (by rfl) (by rfl) (by first | rfl | (simp [callB]; first | done | decide)) ?_; refine ⟨_, _, _, (by assumption), _, by rfl, ?_, ?_⟩; focus (first | exact trivial | fail | exact rfl | (first | omega | (simp only [List.length_append, List.length_replicate, List.length_cons, List.length_nil, List.length_set, List.length_take, List.length_drop, true_and]; omega)) | exact cvB (fun w => rfl) | ((repeat' (first | exact rfl | exact cV_len _ | exact cV_ln rfl (by omega) | exact Cel.pos | omega | exact trivial | refine And.intro ?_ ?_)); done) | (simp [*]; done) | (simp; omega))) | ((first | (refine z_op (by rfl) ?_; first | refine z_ok ?_ ?_ | refine z_ex ?_ (by first | exact ft_raw rfl rfl | ((first | refine ft_rp rfl rfl rfl ?_ | refine ft_row rfl rfl rfl ?_ | refine ft_rpF rfl rfl rfl ?_ | refine ft_rowF rfl rfl rfl ?_ | refine up_row rfl rfl ?_ | refine up_rowF rfl rfl rfl ?_ | refine ct_0 rfl ?_ | refine ct_r rfl rfl ?_ | refine ct_c rfl rfl rfl ?_ | refine cu_all rfl ?_ | refine cu_to rfl ?_ | refine cu_from rfl ?_ | refine cu_p rfl ?_ | fail); (first | omega | (simp only [List.length_append, List.length_replicate, List.length_cons, List.length_nil, List.length_set, List.length_take, List.length_drop, true_and]; omega))) | exact up_raw rfl | exact pk_t (by first | rfl | assumption | omega | (simp only [*, Bool.not_false, Bool.not_true]; first | done | fail) | (simp [*]; first | done | fail)) rfl | exact pk_f (by first | rfl | assumption | omega | (simp only [*, Bool.not_false, Bool.not_true]; first | done | fail) | (simp [*]; first | done | fail)) rfl | (first | exact rw_c Int rfl | exact rw_c Gt rfl) | exact rw_raw | exact pu_cv (fun w => rfl) (by omega) | exact pu_of (fun w => rfl) rfl | exact be_of (fun w => rfl) | exact nc_of (fun _ _ _ _ => rfl) rfl | exact bu_of (fun w => rfl) rfl | fail) ?_) | ((first | refine q_callE wsTQ wsZ (by rfl) ?_ | refine q_callVE wsTQ (by rfl) (by rfl) ?_); refine ⟨_, _, _, (by first | assumption | exact k_pick _ _ _ (by omega) | exact k_odd0 _ _ _ (by omega) | exact k_odd _ _ _ (by omega)), _, by rfl, ?_, ?_⟩)); focus (first | exact trivial | fail | exact rfl | (first | omega | (simp only [List.length_append, List.length_replicate, List.length_cons, List.length_nil, List.length_set, List.length_take, List.length_drop, true_and]; omega)) | exact cvB (fun w => rfl) | ((repeat' (first | exact rfl | exact cV_len _ | exact cV_ln rfl (by omega) | exact Cel.pos | omega | exact trivial | refine And.intro ?_ ?_)); done) | (simp [*]; done) | (simp; omega))) | fail)) | refine r_nt (by rfl) (by rfl) (by first | rfl | assumption | omega | (simp only [*, Bool.not_false, Bool.not_true]; first | done | fail) | (simp [*]; first | done | fail)) (by rfl) ?_ | refine r_nf (by rfl) (by rfl) (by first | rfl | assumption | omega | (simp only [*, Bool.not_false, Bool.not_true]; first | done | fail) | (simp [*]; first | done | fail)) (by rfl) ?_ | refine r_gu (by rfl) (by rfl) (by rfl) ?_ | refine r_nil ?_) | (first | refine aw_seq ?_ | refine aw_ct (by rfl) (by first | rfl | assumption | omega | (simp only [*, Bool.not_false, Bool.not_true]; first | done | fail) | (simp [*]; first | done | fail)) ?_ | refine aw_cf (by rfl) (by first | rfl | assumption | omega | (simp only [*, Bool.not_false, Bool.not_true]; first | done | fail) | (simp [*]; first | done | fail)) ?_ | refine aw_block ?_ | refine aw_region T0ok cfU_ok (by rfl) ?_ | refine aw_skip ?_ | refine aw_exit ?_ | refine ra_step ?_))); exact hh.out)) : G := h ⟨k⟩
theorem ga_KMM {H G : Prop} (k : H) (h : Hid H → G := by (intro hh; (first | refine r_none ?_ | refine r_gt (by rfl) (by rfl) (by first | rfl | assumption | omega | (simp only [*, Bool.not_false, Bool.not_true]; first | done | fail) | (simp [*]; first | done | fail)) (by rfl) ?_ | refine r_gf (by rfl) (by rfl) (by first | rfl | assumption | omega | (simp only [*, Bool.not_false, Bool.not_true]; first | done | fail) | (simp [*]; first | done | fail)) (by rfl) ?_); refine z_op (by rfl) ?_; refine z_al ?_ hh.out; focus (first | exact trivial | fail | exact rfl | (first | omega | (simp only [List.length_append, List.length_replicate, List.length_cons, List.length_nil, List.length_set, List.length_take, List.length_drop, true_and]; omega)) | exact cvB (fun w => rfl) | ((repeat' (first | exact rfl | exact cV_len _ | exact cV_ln rfl (by omega) | exact Cel.pos | omega | exact trivial | refine And.intro ?_ ?_)); done) | (simp [*]; done) | (simp; omega)))) : G := h ⟨k⟩
theorem gs_KMM {H G : Prop} (k : H) (h : Hid H → G := by (intro hh; (first | ((first | refine r_none ?_ | refine r_gt (by rfl) (by rfl) (by first | rfl | assumption | omega | (simp only [*, Bool.not_false, Bool.not_true]; first | done | fail) | (simp [*]; first | done | fail)) (by rfl) ?_ | refine r_gf (by rfl) (by rfl) (by first | rfl | assumption | omega | (simp only [*, Bool.not_false, Bool.not_true]; first | done | fail) | (simp [*]; first | done | fail)) (by rfl) ?_); (first | (refine q_callF wsTQ wsZ (by rfl) (by rfl) (by rfl) (by rfl) (by first | rfl | (simp [callB]; first | done | decide)) ?_; refine ⟨_, _, _, (by assumption), _, by rfl, ?_, ?_⟩; focus (first | exact trivial | fail | exact rfl | (first | omega | (simp only [List.length_append, List.length_replicate, List.length_cons, List.length_nil, List.length_set, List.length_take, List.length_drop, true_and]; omega)) | exact cvB (fun w => rfl) | ((repeat' (first | exact rfl | exact cV_len _ | exact cV_ln rfl (by omega) | exact Cel.pos | omega | exact trivial | refine And.intro ?_ ?_)); done) | (simp [*]; done) | (simp; omega))) | ((first | (refine z_op (by rfl) ?_; first | refine z_ok ?_ ?_ | refine z_ex ?_ (by first | exact ft_raw rfl rfl | ((first | refine ft_rp rfl rfl rfl ?_ | refine ft_row rfl rfl rfl ?_ | refine ft_rpF rfl rfl rfl ?_ | refine ft_rowF rfl rfl rfl ?_ | refine up_row rfl rfl ?_ | refine up_rowF rfl rfl rfl ?_ | refine ct_0 rfl ?_ | refine ct_r rfl rfl ?_ | refine ct_c rfl rfl rfl ?_ | refine cu_all rfl ?_ | refine cu_to rfl ?_ | refine cu_from rfl ?_ | refine cu_p rfl ?_ | fail); (first | omega | (simp only [List.length_append, List.length_replicate, List.length_cons, List.length_nil, List.length_set, List.length_take, List.length_drop, true_and]; omega))) | exact up_raw rfl | exact pk_t (by first | rfl | assumption | omega | (simp only [*, Bool.not_false, Bool.not_true]; first | done | fail) | (simp [*]; first | done | fail)) rfl | exact pk_f (by first | rfl | assumption | omega | (simp only [*, Bool.not_false, Bool.not_true]; first | done | fail) | (simp [*]; first | done | fail)) rfl | (first | exact rw_c Int rfl | exact rw_c Gt rfl) | exact rw_raw | exact pu_cv (fun w => rfl) (by omega) | exact pu_of (fun w => rfl) rfl | exact be_of (fun w => rfl) | exact nc_of (fun _ _ _ _ => rfl) rfl | exact bu_of (fun w => rfl) rfl | fail) ?_) | ((first | refine q_callE wsTQ wsZ (by rfl) ?_ | refine q_callVE wsTQ (by rfl) (by rfl) ?_); refine ⟨_, _, _, (by first | assumption | exact k_pick _ _ _ (by omega) | exact k_odd0 _ _ _ (by omega) | exact k_odd _ _ _ (by omega)), _, by rfl, ?_, ?_⟩)); focus (first | exact trivial | fail | exact rfl | (first | omega | (simp only [List.length_append, List.length_replicate, List.length_cons, List.length_nil, List.length_set, List.length_take, List.length_drop, true_and]; omega)) | exact cvB (fun w => rfl) | ((repeat' (first | exact rfl | exact cV_len _ | exact cV_ln rfl (by omega) | exact Cel.pos | omega | exact trivial | refine And.intro ?_ ?_)); done) | (simp [*]; done) | (simp; omega))) | fail)) | refine r_nt (by rfl) (by rfl) (by first | rfl | assumption | omega | (simp only [*, Bool.not_false, Bool.not_true]; first | done | fail) | (simp [*]; first | done | fail)) (by rfl) ?_ | refine r_nf (by rfl) (by rfl) (by first | rfl | assumption | omega | (simp only [*, Bool.not_false, Bool.not_true]; first | done | fail) | (simp [*]; first | done | fail)) (by rfl) ?_ | refine r_gu (by rfl) (by rfl) (by rfl) ?_ | refine r_nil ?_); (repeat (first | ((first | refine r_none ?_ | refine r_gt (by rfl) (by rfl) (by first | rfl | assumption | omega | (simp only [*, Bool.not_false, Bool.not_true]; first | done | fail) | (simp [*]; first | done | fail)) (by rfl) ?_ | refine r_gf (by rfl) (by rfl) (by first | rfl | assumption | omega | (simp only [*, Bool.not_false, Bool.not_true]; first | done | fail) | (simp [*]; first | done | fail)) (by rfl) ?_); (first | (refine q_callF wsTQ wsZ (by rfl) (by rfl) (by rfl) (by rfl) (by first | rfl | (simp [callB]; first | done | decide)) ?_; refine ⟨_, _, _, (by assumption), _, by rfl, ?_, ?_⟩; focus (first | exact trivial | fail | exact rfl | (first | omega | (simp only [List.length_append, List.length_replicate, List.length_cons, List.length_nil, List.length_set, List.length_take, List.length_drop, true_and]; omega)) | exact cvB (fun w => rfl) | ((repeat' (first | exact rfl | exact cV_len _ | exact cV_ln rfl (by omega) | exact Cel.pos | omega | exact trivial | refine And.intro ?_ ?_)); done) | (simp [*]; done) | (simp; omega))) | ((first | (refine z_op (by rfl) ?_; first | refine z_ok ?_ ?_ | refine z_ex ?_ (by first | exact ft_raw rfl rfl | ((first | refine ft_rp rfl rfl rfl ?_ | refine ft_row rfl rfl rfl ?_ | refine ft_rpF rfl rfl rfl ?_ | refine ft_rowF rfl rfl rfl ?_ | refine up_row rfl rfl ?_ | refine up_rowF rfl rfl rfl ?_ | refine ct_0 rfl ?_ | refine ct_r rfl rfl ?_ | refine ct_c rfl rfl rfl ?_ | refine cu_all rfl ?_ | refine cu_to rfl ?_ | refine cu_from rfl ?_ | refine cu_p rfl ?_ | fail); (first | omega | (simp only [List.length_append, List.length_replicate, List.length_cons, List.length_nil, List.length_set, List.length_take, List.length_drop, true_and]; omega))) | exact up_raw rfl | exact pk_t (by first | rfl | assumption | omega | (simp only [*, Bool.not_false, Bool.not_true]; first | done | fail) | (simp [*]; first | done | fail)) rfl | exact pk_f (by first | rfl | assumption | omega | (simp only [*, Bool.not_false, Bool.not_true]; first | done | fail) | (simp [*]; first | done | fail)) rfl | (first | exact rw_c Int rfl | exact rw_c Gt rfl) | exact rw_raw | exact pu_cv (fun w => rfl) (by omega) | exact pu_of (fun w => rfl) rfl | exact be_of (fun w => rfl) | exact nc_of (fun _ _ _ _ => rfl) rfl | exact bu_of (fun w => rfl) rfl | fail) ?_) | ((first | refine q_callE wsTQ wsZ (by rfl) ?_ | refine q_callVE wsTQ (by rfl) (by rfl) ?_); refine ⟨_, _, _, (by first | assumption | exact k_pick _ _ _ (by omega) | exact k_odd0 _ _ _ (by omega) | exact k_odd _ _ _ (by omega)), _, by rfl, ?_, ?_⟩)); focus (first | exact trivial | fail | exact rfl | (first | omega | (simp only [List.length_append, List.length_replicate, List.length_cons, List.length_nil, List.length_set, List.length_take, List.length_drop, true_and]; omega)) | exact cvB (fun w => rfl) | ((repeat' (first | exact rfl | exact cV_len _ | exact cV_ln rfl (by omega) | exact Cel.pos | omega | exact trivial | refine And.intro ?_ ?_)); done) | (simp [*]; done) | (simp; omega))) | fail)) | refine r_nt (by rfl) (by rfl) (by first | rfl | assumption | omega | (simp only [*, Bool.not_false, Bool.not_true]; first | done | fail) | (simp [*]; first | done | fail)) (by rfl) ?_ | refine r_nf (by rfl) (by rfl) (by first | rfl | assumption | omega | (simp only [*, Bool.not_false, Bool.not_true]; first | done | fail) | (simp [*]; first | done | fail)) (by rfl) ?_ | refine r_gu (by rfl) (by rfl) (by rfl) ?_ | refine r_nil ?_)); exact hh.out)) : G := h ⟨k⟩
theorem gc_KMM {H G : Prop} (k : H) (h : Hid H → G := by (intro hh; (first | refine aw_seq ?_ | refine aw_ct (by rfl) (by first | rfl | assumption | omega | (simp only [*, Bool.not_false, Bool.not_true]; first | done | fail) | (simp [*]; first | done | fail)) ?_ | refine aw_cf (by rfl) (by first | rfl | assumption | omega | (simp only [*, Bool.not_false, Bool.not_true]; first | done | fail) | (simp [*]; first | done | fail)) ?_ | refine aw_block ?_ | refine aw_region T0ok cfU_ok (by rfl) ?_ | refine aw_skip ?_ | refine aw_exit ?_ | refine ra_step ?_); (repeat (first | refine aw_seq ?_ | refine aw_ct (by rfl) (by first | rfl | assumption | omega | (simp only [*, Bool.not_false, Bool.not_true]; first | done | fail) | (simp [*]; first | done | fail)) ?_ | refine aw_cf (by rfl) (by first | rfl | assumption | omega | (simp only [*, Bool.not_false, Bool.not_true]; first | done | fail) | (simp [*]; first | done | fail)) ?_ | refine aw_block ?_ | refine aw_region T0ok cfU_ok (by rfl) ?_ | refine aw_skip ?_ | refine aw_exit ?_ | refine ra_step ?_)); exact hh.out)) : G := h ⟨k⟩
theorem k_newS (n w : Int) (h : wvB n w = true) : Kon Try.prog 102 [vI n, vI w] [] (bS n 0 w w 0) [gRow []] [] := by
  have hW := k_wvS2 n w
  rw [h] at hW
  (refine kon_mk T0ok (fn := Try.f102) (c := Try.f102.body.get rfl) Try.func102 rfl (by rfl) (by rfl) (by rfl) ?_; intro hfit hfe)
  (repeat (first | refine gq_KMM ?_ | (refine ga_KMM ?_; intro _q ⟨_he, _hq⟩)))
  ((try refine aw_ret ?_); refine ret_auto2 (by rfl) (by rfl) (by rfl) (by repeat (first | exact trivial | refine ⟨by first | rfl | omega, ?_⟩)) ?_ (by repeat (first | exact trivial | refine ⟨by rfl, by rfl, ?_⟩)) (by repeat (first | exact trivial | refine ⟨by rfl, by rfl, ?_⟩)); try rfl)
abbrev tK6 (l : List UInt8) (c : Int) : Int := ([1, 2, 3, 3, 4, 5] : List Int).getD (pickI l c 6).toNat Cel.no
theorem tK6_bd (l : List UInt8) (c : Int) : 1 ≤ tK6 l c ∧ tK6 l c ≤ 5 := by
  have h := pickI_lt (l := l) (c := c) (n := 6) (by omega)
  obtain ⟨k, hk⟩ : ∃ k, (pickI l c 6).toNat = k := ⟨_, rfl⟩
  have h9 : k < 6 := by omega
  unfold tK6
  rw [hk]
  obtain rfl | rfl | rfl | rfl | rfl | rfl : k = 0 ∨ k = 1 ∨ k = 2 ∨ k = 3 ∨ k = 4 ∨ k = 5 := by omega
  all_goals decide
/-- One deed more. -/
def bst (l : List UInt8) (L : Int) (x : BS × Int) : BS × Int := ((doR L x.1.1 x.1.2.1 x.1.2.2 (ddM l L x.1.1 x.2).1).1, (ddM l L x.1.1 x.2).2)
def bnN (l : List UInt8) (L : Int) (x : BS × Int) : Nat → BS × Int
  | 0 => x
  | i + 1 => bst l L (bnN l L x i)
theorem bnN_ok (l : List UInt8) (L f : Int) (x : BS × Int) (h : bok L x.1.1 f x.1.2.1 x.1.2.2 = true) : ∀ i, bok L (bnN l L x i).1.1 f (bnN l L x i).1.2.1 (bnN l L x i).1.2.2 = true ∧ x.2 ≤ (bnN l L x i).2 ∧ (bnN l L x i).2 ≤ x.2 + 27 * (i : Int)
  | 0 => ⟨h, Int.le_refl _, by show x.2 ≤ x.2 + 27 * ((0 : Nat) : Int); omega⟩
  | i + 1 => by
    obtain ⟨h1, h2, h3⟩ := bnN_ok l L f x h i
    rw [bnN]
    rcases hx : bnN l L x i with ⟨⟨gs, w, A⟩, c⟩
    rw [hx] at h1 h2 h3
    dsimp only at h1 h2 h3
    have hd := ddM_bd l L gs c
    rcases hr : doR L gs w A (ddM l L gs c).1 with ⟨⟨gs2, w2, A2⟩, ok⟩
    have h4 := doR_ok h1 hr
    unfold bst
    dsimp only
    rw [hr]
    exact ⟨h4, by omega, by omega⟩
abbrev kSeven : Gt := ⟨7, 0, 0, 0⟩
/-- A fault put into a bench; nothing: the zero value. -/
def endB (l : List UInt8) (q : Int) (x : BS × Int) : Option BS × Int :=
  bif decide (q > 0) then (bif pickI l x.2 q == q - 1 then (
    bif pickI l (x.2 + 1) 4 == 0 then (some (x.1.1, x.1.2.1 + 1, x.1.2.2), x.2 + 1 + 1)
    else bif pickI l (x.2 + 1) 4 == 1 then (some (x.1.1, x.1.2.1, x.1.1.length + 1), x.2 + 1 + 1)
    else bif pickI l (x.2 + 1) 4 == 2 then (some (x.1.1 ++ [kSeven], x.1.2.1, x.1.2.2), x.2 + 1 + 1)
    else (none, x.2 + 1 + 1)) else (some x.1, x.2 + 1)) else (some x.1, x.2)
def oB (L f : Int) : Option BS → AV
  | some b => bS L b.1.length f b.2.1 b.2.2
  | none => .g (.agg [.v (.int .i64 0), .v (.slice none 0 0), .v (.int .i64 0), .v (.int .i64 0), .v (.int .i64 0)])
def nB : Option BS → List Ent
  | some b => [gRow b.1]
  | none => []
abbrev bwd (l : List UInt8) (c L : Int) : Int := pickI l c (1 * 2 ^ L.toNat)
def bx0 (l : List UInt8) (c : Int) : BS × Int := (([], bwd l (c + 1) (tK6 l c), 0), c + 1 + 1 + 1)
set_option maxHeartbeats 8000000 in
theorem k_bench (l : List UInt8) (c q : Int) (h : 0 ≤ c ∧ c ≤ 80000 ∧ l.length ≤ 2000) (hq : q ≤ 1000) : Kon Try.prog 60 [p0, vI q] [rdE l c]
    (oB (tK6 l c) (bwd l (c + 1) (tK6 l c)) (endB l q (bnN l (tK6 l c) (bx0 l c) (pickI l (c + 1 + 1) 20).toNat)).1) (nB (endB l q (bnN l (tK6 l c) (bx0 l c) (pickI l (c + 1 + 1) 20).toNat)).1) [rdE l (endB l q (bnN l (tK6 l c) (bx0 l c) (pickI l (c + 1 + 1) 20).toNat)).2] := by
  have hp6 := pickI_lt (l := l) (c := c) (n := 6) (by omega)
  unfold bx0 bwd
  (refine kon_mk T0ok (fn := Try.f60) (c := Try.f60.body.get rfl) Try.func60 rfl (by rfl) (by rfl) (by rfl) ?_; intro hfit hfe)
  (repeat refine gc_KMM ?_)
  (repeat (first | refine gs_KMM ?_ | (refine ga_KMM ?_; intro _q ⟨_he, _hq⟩)))
  refine aw_cutg [0, 1, 4] [64] (fun g : Int × Int => [(5, vI g.1)]) (fun g => [(100000, (0, rdE l g.2))]) (fun g => g = (tK6 l c, c + 1)) (by rfl) (by rfl) ?_ ?_
  · (repeat (first | refine gq_KMM ?_ | (refine ga_KMM ?_; intro _q ⟨_he, _hq⟩)))
    exact ⟨(tK6 l c, c + 1), rfl, ⟨by rfl, (by repeat (first | exact trivial | refine ⟨by rfl, ?_⟩ | refine ⟨vI_of (by rfl) (by omega), ?_⟩)), (by repeat (first | exact trivial | refine ⟨by rfl, ?_⟩ | refine ⟨vI_of (by rfl) (by omega), ?_⟩))⟩⟩
  rintro ⟨L, c1⟩ he
  obtain ⟨e1, e2⟩ := Prod.mk.inj he
  have hLb := tK6_bd l c
  rw [← e1] at hLb ⊢
  subst e2
  clear he
  dsimp only
  have h2L := pow_8 (n := L) (by omega)
  have hpw := pickI_lt (l := l) (c := c + 1) (n := 1 * 2 ^ L.toNat) (by omega)
  have hwv : wvB L (pickI l (c + 1) (1 * 2 ^ L.toNat)) = true := by
    unfold wvB btw
    rw [decide_eq_true (by omega), decide_eq_true (by omega), decide_eq_true (by omega), decide_eq_true (by omega)]; rfl
  have hN := k_newS L (pickI l (c + 1) (1 * 2 ^ L.toNat)) hwv
  have hp20 := pickI_lt (l := l) (c := c + 1 + 1) (n := 20) (by omega)
  obtain ⟨wd, hwd⟩ : ∃ wd, pickI l (c + 1) (1 * 2 ^ L.toNat) = wd := ⟨_, rfl⟩
  obtain ⟨m, hm⟩ : ∃ m : Nat, pickI l (c + 1 + 1) 20 = (m : Int) := ⟨(pickI l (c + 1 + 1) 20).toNat, by omega⟩
  have hb0 : bok L [] wd wd ((0 : Nat) : Int) = true := bok_mk (by omega) (by simp) rfl (by rw [← hwd]; exact hwv) (Nat.le_refl _) rfl
  rw [hwd] at hN ⊢
  rw [hm, Int.toNat_natCast]
  (repeat refine gc_KMM ?_)
  (repeat (first | refine gs_KMM ?_ | (refine ga_KMM ?_; intro _q ⟨_he, _hq⟩)))
  subst _he
  rw [hwd]
  (repeat (first | refine gs_KMM ?_ | (refine ga_KMM ?_; intro _q ⟨_he, _hq⟩)))
  refine aw_mv 320 97 96 (by rfl) (by rfl) (by rfl) (by rfl) ?_
  (repeat refine gc_KMM ?_)
  (repeat (first | refine gs_KMM ?_ | (refine ga_KMM ?_; intro _q ⟨_he, _hq⟩)))
  rw [hm]
  (repeat refine gc_KMM ?_)
  (refine aw_rd [0, 1, 4, 5, 6] [64] (fun g : (BS × Int) × Nat × Nat => [(7, vI ((m : Int) - (g.2.1 : Int)))]) (fun g => [(96, (0, .box [.v (.int .i64 L), .sl 97 g.2.2 g.1.1.1.length, .v (.int .i64 wd), .v (.int .i64 g.1.1.2.1), .v (.int .i64 (g.1.1.2.2 : Int))])), (97, (g.2.2, gRow g.1.1.1)), (100000, (0, rdE l g.1.2))]) (fun g => g.2.1 ≤ m ∧ bnN l L (([], wd, 0), c + 1 + 1 + 1) g.2.1 = g.1) (fun g => m - g.2.1) ((([], wd, 0), c + 1 + 1 + 1), 0, 0) (by rfl) (by rfl) ?_ (by rfl) (by repeat (first | exact trivial | refine ⟨by rfl, ?_⟩ | refine ⟨vI_of (by rfl) (by omega), ?_⟩)) (by repeat (first | exact trivial | refine ⟨by rfl, ?_⟩ | refine ⟨vI_of (by rfl) (by omega), ?_⟩)) ?_)
  · exact ⟨Nat.zero_le _, rfl⟩
  rintro ⟨⟨⟨gs, w, A⟩, c1⟩, i, v⟩ ⟨hi, hx⟩
  dsimp only at hi hx ⊢
  have hok := bnN_ok l L wd (([], wd, 0), c + 1 + 1 + 1) hb0 i
  rw [hx] at hok
  dsimp only at hok
  obtain ⟨hbk, hc1, hc2⟩ := hok
  have hgl := (cokB_t (bok_t hbk).1).2.1
  have hwb : 0 ≤ w ∧ w ≤ 256 := by
    obtain ⟨q1, q2, q3, q4⟩ := bok_t hbk
    have hfv := wvB_t q2
    have := cr_lt (all_take (cokB_t q1).2.2 ((A : Int).toNat)) ⟨hfv.2.1, hfv.2.2.1⟩
    rw [← q4] at this
    omega
  rcases Nat.lt_or_ge i m with h5 | h5
  · have hd : decide ((m : Int) - (i : Int) > 0) = true := decide_eq_true (by omega)
    have hD := k_deedO l c1 L wd w A gs (by omega) (by omega)
    have hDb := ddM_bd l L gs c1
    rcases hd2 : ddM l L gs c1 with ⟨d, c2⟩
    rw [hd2] at hD hDb
    dsimp only at hD hDb
    rcases hr : doR L gs w A d with ⟨⟨gs2, w2, A2⟩, ok⟩
    have hB := kn_doS hbk hr
    have hgl2 := (cokB_t (bok_t (doR_ok hbk hr)).1).2.1
    have hinv : i + 1 ≤ m ∧ bnN l L (([], wd, 0), c + 1 + 1 + 1) (i + 1) = ((gs2, w2, A2), c2) := ⟨h5, by rw [bnN, hx]; unfold bst; dsimp only; rw [hd2]; dsimp only; rw [hr]⟩
    cases ok with
    | true =>
      clear hx hd2 hr
      (repeat (first | refine gq_KMM ?_ | (refine ga_KMM ?_; intro _q ⟨_he, _hq⟩)))
      (refine aw_draw mixed T0ok cfU_ok [(100000, [3]), (97, [3, 4]), (512, [4, 9]), (128, [8, 9])] (by rfl) (by kernel_rfl) ?_)
      (repeat (first | refine gs_KMM ?_ | (refine ga_KMM ?_; intro _q ⟨_he, _hq⟩)))
      (repeat refine gc_KMM ?_)
      (repeat (first | refine gs_KMM ?_ | (refine ga_KMM ?_; intro _q ⟨_he, _hq⟩)))
      (repeat refine gc_KMM ?_)
      (repeat (first | refine gs_KMM ?_ | (refine ga_KMM ?_; intro _q ⟨_he, _hq⟩)))
      change AW _ _ _ _ _
      refine aw_mv 512 97 96 (by rfl) (by rfl) (by rfl) (by rfl) ?_
      (repeat (first | refine gq_KMM ?_ | (refine ga_KMM ?_; intro _q ⟨_he, _hq⟩)))
      refine ⟨(((gs2, w2, A2), c2), i + 1, v + 1), hinv, ⟨by rfl, ⟨vI_of (by rfl) (by dsimp only; omega), (by repeat (first | exact trivial | refine ⟨by rfl, ?_⟩ | refine ⟨vI_of (by rfl) (by omega), ?_⟩))⟩, (by repeat (first | exact trivial | refine ⟨by rfl, ?_⟩ | refine ⟨vI_of (by rfl) (by omega), ?_⟩))⟩, (by first | omega | (dsimp only; omega))⟩
    | false =>
      obtain ⟨e1, e2, e3⟩ := doR_no hr
      rw [e1, e2, e3] at hinv
      clear hx hd2 hr e1 e2 e3
      (repeat (first | refine gq_KMM ?_ | (refine ga_KMM ?_; intro _q ⟨_he, _hq⟩)))
      (refine aw_draw mixed T0ok cfU_ok [(100000, [3]), (97, [3, 4]), (512, [4, 9]), (128, [8, 9])] (by rfl) (by kernel_rfl) ?_)
      (repeat (first | refine gq_KMM ?_ | (refine ga_KMM ?_; intro _q ⟨_he, _hq⟩)))
      refine ⟨(((gs, w, A), c2), i + 1, v), hinv, ⟨by rfl, ⟨vI_of (by rfl) (by dsimp only; omega), (by repeat (first | exact trivial | refine ⟨by rfl, ?_⟩ | refine ⟨vI_of (by rfl) (by omega), ?_⟩))⟩, (by repeat (first | exact trivial | refine ⟨by rfl, ?_⟩ | refine ⟨vI_of (by rfl) (by omega), ?_⟩))⟩, (by first | omega | (dsimp only; omega))⟩
  · obtain rfl : i = m := by omega
    have hd : decide ((i : Int) - (i : Int) > 0) = false := decide_eq_false (by omega)
    rw [hx]
    have hp4 := pickI_lt (l := l) (c := c1 + 1) (n := 4) (by omega)
    cases hq0 : decide (q > 0) with
    | false =>
      have hq1 : q ≤ 0 := by have := of_decide_eq_false hq0; omega
      have e : endB l q ((gs, w, A), c1) = (some (gs, w, A), c1) := by rw [endB, hq0]; rfl
      rw [e]
      clear e hx
      (repeat (first | refine gq_KMM ?_ | (refine ga_KMM ?_; intro _q ⟨_he, _hq⟩)))
      ((try refine aw_ret ?_); refine ret_auto2 (by rfl) (by rfl) (by rfl) (by repeat (first | exact trivial | refine ⟨by first | rfl | omega, ?_⟩)) ?_ (by repeat (first | exact trivial | refine ⟨by rfl, by rfl, ?_⟩)) (by repeat (first | exact trivial | refine ⟨by rfl, by rfl, ?_⟩)); try rfl)
    | true =>
      have hq1 : 0 < q := of_decide_eq_true hq0
      cases hv : (pickI l c1 q == q - 1) with
      | false =>
        have e : endB l q ((gs, w, A), c1) = (some (gs, w, A), c1 + 1) := by rw [endB, hq0]; dsimp only [cond_true]; rw [hv]; rfl
        rw [e]
        clear e hx
        (repeat (first | refine gq_KMM ?_ | (refine ga_KMM ?_; intro _q ⟨_he, _hq⟩)))
        ((try refine aw_ret ?_); refine ret_auto2 (by rfl) (by rfl) (by rfl) (by repeat (first | exact trivial | refine ⟨by first | rfl | omega, ?_⟩)) ?_ (by repeat (first | exact trivial | refine ⟨by rfl, by rfl, ?_⟩)) (by repeat (first | exact trivial | refine ⟨by rfl, by rfl, ?_⟩)); try rfl)
      | true =>
        cases h0 : (pickI l (c1 + 1) 4 == 0)
        rotate_left
        · have e : endB l q ((gs, w, A), c1) = (some (gs, w + 1, A), c1 + 1 + 1) := by rw [endB, hq0]; dsimp only [cond_true]; rw [hv]; dsimp only [cond_true]; rw [h0]; rfl
          rw [e]
          clear e hx
          (repeat (first | refine gq_KMM ?_ | (refine ga_KMM ?_; intro _q ⟨_he, _hq⟩)))
          ((try refine aw_ret ?_); refine ret_auto2 (by rfl) (by rfl) (by rfl) (by repeat (first | exact trivial | refine ⟨by first | rfl | omega, ?_⟩)) ?_ (by repeat (first | exact trivial | refine ⟨by rfl, by rfl, ?_⟩)) (by repeat (first | exact trivial | refine ⟨by rfl, by rfl, ?_⟩)); try rfl)
        cases h1 : (pickI l (c1 + 1) 4 == 1)
        rotate_left
        · have e : endB l q ((gs, w, A), c1) = (some (gs, w, gs.length + 1), c1 + 1 + 1) := by rw [endB, hq0]; dsimp only [cond_true]; rw [hv]; dsimp only [cond_true]; rw [h0, h1]; rfl
          rw [e]
          clear e hx
          (repeat (first | refine gq_KMM ?_ | (refine ga_KMM ?_; intro _q ⟨_he, _hq⟩)))
          ((try refine aw_ret ?_); refine ret_auto2 (by rfl) (by rfl) (by rfl) (by repeat (first | exact trivial | refine ⟨by first | rfl | omega, ?_⟩)) ?_ (by repeat (first | exact trivial | refine ⟨by rfl, by rfl, ?_⟩)) (by repeat (first | exact trivial | refine ⟨by rfl, by rfl, ?_⟩)); try rfl)
        cases h2 : (pickI l (c1 + 1) 4 == 2)
        rotate_left
        · have e : endB l q ((gs, w, A), c1) = (some (gs ++ [kSeven], w, A), c1 + 1 + 1) := by rw [endB, hq0]; dsimp only [cond_true]; rw [hv]; dsimp only [cond_true]; rw [h0, h1, h2]; rfl
          rw [e]
          clear e hx
          (repeat (first | refine gq_KMM ?_ | (refine ga_KMM ?_; intro _q ⟨_he, _hq⟩)))
          ((try refine aw_ret ?_); refine ret_auto2 (by rfl) (by rfl) (by rfl) (by repeat (first | exact trivial | refine ⟨by first | rfl | omega, ?_⟩)) ?_ (by repeat (first | exact trivial | refine ⟨by rfl, by rfl, ?_⟩)) (by repeat (first | exact trivial | refine ⟨by rfl, by rfl, ?_⟩)); try rfl)
        · have e : endB l q ((gs, w, A), c1) = (none, c1 + 1 + 1) := by rw [endB, hq0]; dsimp only [cond_true]; rw [hv]; dsimp only [cond_true]; rw [h0, h1, h2]; rfl
          rw [e]
          clear e hx
          (repeat (first | refine gq_KMM ?_ | (refine ga_KMM ?_; intro _q ⟨_he, _hq⟩)))
          ((try refine aw_ret ?_); refine ret_auto2 (by rfl) (by rfl) (by rfl) (by repeat (first | exact trivial | refine ⟨by first | rfl | omega, ?_⟩)) ?_ (by repeat (first | exact trivial | refine ⟨by rfl, by rfl, ?_⟩)) (by repeat (first | exact trivial | refine ⟨by rfl, by rfl, ?_⟩)); try rfl)
end Go.Proofs.Yteagoafamjbpbaa

/- The draws of benches; the law FnBenchValid. -/
namespace Go.Proofs.Yteagoafamjbpbaa
set_option linter.unusedVariables false
set_option linter.unusedSimpArgs false
set_option maxRecDepth 20000
open Go.RowKit
attribute [local irreducible] runA runX AW
theorem endB_bd (l : List UInt8) (q : Int) (x : BS × Int) (L f : Int) (h : bok L x.1.1 f x.1.2.1 x.1.2.2 = true) : x.2 ≤ (endB l q x).2 ∧ (endB l q x).2 ≤ x.2 + 2 ∧ (∀ b, (endB l q x).1 = some b → b.1.length ≤ 25 ∧ (0 ≤ b.2.1 ∧ b.2.1 ≤ 257) ∧ b.2.2 ≤ 25 ∧ (q ≤ 0 → bok L b.1 f b.2.1 b.2.2 = true)) ∧ (q ≤ 0 → (endB l q x).1 ≠ none) := by
  obtain ⟨⟨gs, w, A⟩, c⟩ := x
  dsimp only at h ⊢
  obtain ⟨q1, q2, q3, q4⟩ := bok_t h
  have hfv := wvB_t q2
  have hw := cr_lt (all_take (cokB_t q1).2.2 ((A : Int).toNat)) ⟨hfv.2.1, hfv.2.2.1⟩
  rw [← q4] at hw
  have h8 := (pow_8 (cokB_t q1).1).2
  have hl := (cokB_t q1).2.1
  unfold endB
  dsimp only
  cases hq : decide (q > 0) with
  | false =>
    have hq2 := of_decide_eq_false hq
    exact ⟨Int.le_refl _, by dsimp only [cond_false]; omega, fun b hb => by cases hb; exact ⟨by dsimp only; omega, by dsimp only; omega, by dsimp only; omega, fun _ => h⟩, fun _ hn => by cases hn⟩
  | true =>
    have hq2 := of_decide_eq_true hq
    dsimp only [cond_true]
    cases (pickI l c q == q - 1) with
    | false => exact ⟨by dsimp only [cond_false]; omega, by dsimp only [cond_false]; omega, fun b hb => by cases hb; exact ⟨by dsimp only; omega, by dsimp only; omega, by dsimp only; omega, fun _ => h⟩, fun hq3 => by omega⟩
    | true =>
      dsimp only [cond_true]
      cases (pickI l (c + 1) 4 == 0) with
      | true => exact ⟨by dsimp only [cond_true]; omega, by dsimp only [cond_true]; omega, fun b hb => by cases hb; exact ⟨by dsimp only; omega, by dsimp only; omega, by dsimp only; omega, fun hq3 => by omega⟩, fun hq3 => by omega⟩
      | false =>
        dsimp only [cond_false]
        cases (pickI l (c + 1) 4 == 1) with
        | true => exact ⟨by dsimp only [cond_true]; omega, by dsimp only [cond_true]; omega, fun b hb => by cases hb; exact ⟨by dsimp only; omega, by dsimp only; omega, by dsimp only; omega, fun hq3 => by omega⟩, fun hq3 => by omega⟩
        | false =>
          dsimp only [cond_false]
          cases (pickI l (c + 1) 4 == 2) with
          | true => exact ⟨by dsimp only [cond_true]; omega, by dsimp only [cond_true]; omega, fun b hb => by cases hb; exact ⟨by simp; omega, by dsimp only; omega, by dsimp only; omega, fun hq3 => by omega⟩, fun hq3 => by omega⟩
          | false => exact ⟨by dsimp only [cond_false]; omega, by dsimp only [cond_false]; omega, fun b hb => (by cases hb), fun hq3 => by omega⟩
theorem ex_bench (l : List UInt8) (c q : Int) (h : 0 ≤ c ∧ c ≤ 80000 ∧ l.length ≤ 2000) (hq : q ≤ 1000) : ∃ (L f : Int) (x : Option BS) (c' : Int), (1 ≤ L ∧ L ≤ 5) ∧ (0 ≤ f ∧ f ≤ 256) ∧ (c ≤ c' ∧ c' ≤ c + 600) ∧ (∀ b, x = some b → b.1.length ≤ 25 ∧ (0 ≤ b.2.1 ∧ b.2.1 ≤ 257) ∧ b.2.2 ≤ 25 ∧ (q ≤ 0 → bok L b.1 f b.2.1 b.2.2 = true)) ∧ (q ≤ 0 → x ≠ none) ∧
    Kon Try.prog 60 [p0, vI q] [rdE l c] (oB L f x) (nB x) [rdE l c'] := by
  have hL := tK6_bd l c
  have h2L := pow_8 (n := tK6 l c) (by omega)
  have hpw := pickI_lt (l := l) (c := c + 1) (n := 1 * 2 ^ (tK6 l c).toNat) (by omega)
  have hwv : wvB (tK6 l c) (bwd l (c + 1) (tK6 l c)) = true := by
    unfold wvB btw bwd
    rw [decide_eq_true (by omega), decide_eq_true (by omega), decide_eq_true (by omega), decide_eq_true (by omega)]; rfl
  have hp20 := pickI_lt (l := l) (c := c + 1 + 1) (n := 20) (by omega)
  have hb0 : bok (tK6 l c) (bx0 l c).1.1 (bwd l (c + 1) (tK6 l c)) (bx0 l c).1.2.1 ((bx0 l c).1.2.2 : Nat) = true := bok_mk (by omega) (by simp [bx0]) rfl hwv (Nat.le_refl _) rfl
  have hN := bnN_ok l (tK6 l c) _ (bx0 l c) hb0 (pickI l (c + 1 + 1) 20).toNat
  have hE := endB_bd l q _ (tK6 l c) _ hN.1
  have hc0 : (bx0 l c).2 = c + 1 + 1 + 1 := rfl
  have hfb : 0 ≤ bwd l (c + 1) (tK6 l c) ∧ bwd l (c + 1) (tK6 l c) ≤ 256 := by unfold bwd; omega
  exact ⟨_, _, _, _, by omega, hfb, by omega, hE.2.2.1, hE.2.2.2, k_bench l c q h hq⟩
end Go.Proofs.Yteagoafamjbpbaa

/- Drawn lists of deeds; the draw of FnBenchRun. -/
namespace Go.Proofs.Yteagoafamjbpbaa
set_option linter.unusedVariables false
set_option linter.unusedSimpArgs false
set_option maxRecDepth 20000
open Go.RowKit
attribute [local irreducible] runA runX AW
def wsTS2 : WsT := (60, ([0], true)) :: (72, ([0], true)) :: (84, ([0], true)) :: wsT
def wsZS2 : List (Nat × Nat) := [(84, 4), (999999, 0)]
theorem gq_KMS {H G : Prop} (k : H) (h : Hid H → G := by (intro hh; (first | (first | ((first | refine r_none ?_ | refine r_gt (by rfl) (by rfl) (by first | rfl | assumption | omega | (simp only [*, Bool.not_false, Bool.not_true]; first | done | fail) | (simp [*]; first | done | fail)) (by rfl) ?_ | refine r_gf (by rfl) (by rfl) (by first | rfl | assumption | omega | (simp only [*, Bool.not_false, Bool.not_true]; first | done | fail) | (simp [*]; first | done | fail)) (by rfl) ?_); (first | fail | ((first | (refine z_op (by rfl) ?_; first | refine z_ok ?_ ?_ | refine z_ex ?_ (by first | exact ft_raw rfl rfl | ((first | refine ft_rp rfl rfl rfl ?_ | refine ft_row rfl rfl rfl ?_ | refine ft_rpF rfl rfl rfl ?_ | refine ft_rowF rfl rfl rfl ?_ | refine up_row rfl rfl ?_ | refine up_rowF rfl rfl rfl ?_ | refine ct_0 rfl ?_ | refine ct_r rfl rfl ?_ | refine ct_c rfl rfl rfl ?_ | refine cu_all rfl ?_ | refine cu_to rfl ?_ | refine cu_from rfl ?_ | refine cu_p rfl ?_ | refine mk_c Dd rfl rfl rfl ?_); (first | omega | (simp only [List.length_append, List.length_replicate, List.length_cons, List.length_nil, List.length_set, List.length_take, List.length_drop, true_and]; omega))) | exact up_raw rfl | exact pk_t (by first | rfl | assumption | omega | (simp only [*, Bool.not_false, Bool.not_true]; first | done | fail) | (simp [*]; first | done | fail)) rfl | exact pk_f (by first | rfl | assumption | omega | (simp only [*, Bool.not_false, Bool.not_true]; first | done | fail) | (simp [*]; first | done | fail)) rfl | exact rw_c Dd rfl | exact rw_raw | exact pu_cv (fun w => rfl) (by omega) | exact pu_of (fun w => rfl) rfl | exact be_of (fun w => rfl) | exact nc_of (fun _ _ _ _ => rfl) rfl | exact bu_of (fun w => rfl) rfl | fail) ?_) | ((first | refine q_callE wsTS2 wsZS2 (by rfl) ?_ | refine q_callVE wsTS2 (by rfl) (by rfl) ?_); refine ⟨_, _, _, (by first | assumption | exact k_pick _ _ _ (by omega) | exact k_odd _ _ _ (by omega) | exact k_open _ (by omega)), _, by rfl, ?_, ?_⟩)); focus (first | exact trivial | fail | exact rfl | (first | omega | (simp only [List.length_append, List.length_replicate, List.length_cons, List.length_nil, List.length_set, List.length_take, List.length_drop, true_and]; omega)) | exact cvB (fun w => rfl) | ((repeat' (first | exact rfl | exact cV_len _ | exact cV_ln rfl (by omega) | exact Cel.pos | omega | exact trivial | refine And.intro ?_ ?_)); done) | (simp [*]; done) | (simp; omega))) | fail)) | refine r_nt (by rfl) (by rfl) (by first | rfl | assumption | omega | (simp only [*, Bool.not_false, Bool.not_true]; first | done | fail) | (simp [*]; first | done | fail)) (by rfl) ?_ | refine r_nf (by rfl) (by rfl) (by first | rfl | assumption | omega | (simp only [*, Bool.not_false, Bool.not_true]; first | done | fail) | (simp [*]; first | done | fail)) (by rfl) ?_ | refine r_gu (by rfl) (by rfl) (by rfl) ?_ | refine r_nil ?_) | (first | refine aw_seq ?_ | refine aw_ct (by rfl) (by first | rfl | assumption | omega | (simp only [*, Bool.not_false, Bool.not_true]; first | done | fail) | (simp [*]; first | done | fail)) ?_ | refine aw_cf (by rfl) (by first | rfl | assumption | omega | (simp only [*, Bool.not_false, Bool.not_true]; first | done | fail) | (simp [*]; first | done | fail)) ?_ | refine aw_block ?_ | refine aw_region T0ok cfU_ok (by rfl) ?_ | refine aw_skip ?_ | refine aw_exit ?_ | refine ra_step ?_)); (repeat (first | (first | ((first | refine r_none ?_ | refine r_gt (by rfl) (by rfl) (by first | rfl | assumption | omega | (simp only [*, Bool.not_false, Bool.not_true]; first | done | fail) | (simp [*]; first | done | fail)) (by rfl) ?_ | refine r_gf (by rfl) (by rfl) (by first | rfl | assumption | omega | (simp only [*, Bool.not_false, Bool.not_true]; first | done | fail) | (simp [*]; first | done | fail)) (by rfl) ?_); (first | fail | ((first | (refine z_op (by rfl) ?_; first | refine z_ok ?_ ?_ | refine z_ex ?_ (by first | exact ft_raw rfl rfl | ((first | refine ft_rp rfl rfl rfl ?_ | refine ft_row rfl rfl rfl ?_ | refine ft_rpF rfl rfl rfl ?_ | refine ft_rowF rfl rfl rfl ?_ | refine up_row rfl rfl ?_ | refine up_rowF rfl rfl rfl ?_ | refine ct_0 rfl ?_ | refine ct_r rfl rfl ?_ | refine ct_c rfl rfl rfl ?_ | refine cu_all rfl ?_ | refine cu_to rfl ?_ | refine cu_from rfl ?_ | refine cu_p rfl ?_ | refine mk_c Dd rfl rfl rfl ?_); (first | omega | (simp only [List.length_append, List.length_replicate, List.length_cons, List.length_nil, List.length_set, List.length_take, List.length_drop, true_and]; omega))) | exact up_raw rfl | exact pk_t (by first | rfl | assumption | omega | (simp only [*, Bool.not_false, Bool.not_true]; first | done | fail) | (simp [*]; first | done | fail)) rfl | exact pk_f (by first | rfl | assumption | omega | (simp only [*, Bool.not_false, Bool.not_true]; first | done | fail) | (simp [*]; first | done | fail)) rfl | exact rw_c Dd rfl | exact rw_raw | exact pu_cv (fun w => rfl) (by omega) | exact pu_of (fun w => rfl) rfl | exact be_of (fun w => rfl) | exact nc_of (fun _ _ _ _ => rfl) rfl | exact bu_of (fun w => rfl) rfl | fail) ?_) | ((first | refine q_callE wsTS2 wsZS2 (by rfl) ?_ | refine q_callVE wsTS2 (by rfl) (by rfl) ?_); refine ⟨_, _, _, (by first | assumption | exact k_pick _ _ _ (by omega) | exact k_odd _ _ _ (by omega) | exact k_open _ (by omega)), _, by rfl, ?_, ?_⟩)); focus (first | exact trivial | fail | exact rfl | (first | omega | (simp only [List.length_append, List.length_replicate, List.length_cons, List.length_nil, List.length_set, List.length_take, List.length_drop, true_and]; omega)) | exact cvB (fun w => rfl) | ((repeat' (first | exact rfl | exact cV_len _ | exact cV_ln rfl (by omega) | exact Cel.pos | omega | exact trivial | refine And.intro ?_ ?_)); done) | (simp [*]; done) | (simp; omega))) | fail)) | refine r_nt (by rfl) (by rfl) (by first | rfl | assumption | omega | (simp only [*, Bool.not_false, Bool.not_true]; first | done | fail) | (simp [*]; first | done | fail)) (by rfl) ?_ | refine r_nf (by rfl) (by rfl) (by first | rfl | assumption | omega | (simp only [*, Bool.not_false, Bool.not_true]; first | done | fail) | (simp [*]; first | done | fail)) (by rfl) ?_ | refine r_gu (by rfl) (by rfl) (by rfl) ?_ | refine r_nil ?_) | (first | refine aw_seq ?_ | refine aw_ct (by rfl) (by first | rfl | assumption | omega | (simp only [*, Bool.not_false, Bool.not_true]; first | done | fail) | (simp [*]; first | done | fail)) ?_ | refine aw_cf (by rfl) (by first | rfl | assumption | omega | (simp only [*, Bool.not_false, Bool.not_true]; first | done | fail) | (simp [*]; first | done | fail)) ?_ | refine aw_block ?_ | refine aw_region T0ok cfU_ok (by rfl) ?_ | refine aw_skip ?_ | refine aw_exit ?_ | refine ra_step ?_))); exact hh.out)) : G := h ⟨k⟩
theorem ga_KMS {H G : Prop} (k : H) (h : Hid H → G := by (intro hh; (first | refine r_none ?_ | refine r_gt (by rfl) (by rfl) (by first | rfl | assumption | omega | (simp only [*, Bool.not_false, Bool.not_true]; first | done | fail) | (simp [*]; first | done | fail)) (by rfl) ?_ | refine r_gf (by rfl) (by rfl) (by first | rfl | assumption | omega | (simp only [*, Bool.not_false, Bool.not_true]; first | done | fail) | (simp [*]; first | done | fail)) (by rfl) ?_); refine z_op (by rfl) ?_; refine z_al ?_ hh.out; focus (first | exact trivial | fail | exact rfl | (first | omega | (simp only [List.length_append, List.length_replicate, List.length_cons, List.length_nil, List.length_set, List.length_take, List.length_drop, true_and]; omega)) | exact cvB (fun w => rfl) | ((repeat' (first | exact rfl | exact cV_len _ | exact cV_ln rfl (by omega) | exact Cel.pos | omega | exact trivial | refine And.intro ?_ ?_)); done) | (simp [*]; done) | (simp; omega)))) : G := h ⟨k⟩
theorem gs_KMS {H G : Prop} (k : H) (h : Hid H → G := by (intro hh; (first | ((first | refine r_none ?_ | refine r_gt (by rfl) (by rfl) (by first | rfl | assumption | omega | (simp only [*, Bool.not_false, Bool.not_true]; first | done | fail) | (simp [*]; first | done | fail)) (by rfl) ?_ | refine r_gf (by rfl) (by rfl) (by first | rfl | assumption | omega | (simp only [*, Bool.not_false, Bool.not_true]; first | done | fail) | (simp [*]; first | done | fail)) (by rfl) ?_); (first | fail | ((first | (refine z_op (by rfl) ?_; first | refine z_ok ?_ ?_ | refine z_ex ?_ (by first | exact ft_raw rfl rfl | ((first | refine ft_rp rfl rfl rfl ?_ | refine ft_row rfl rfl rfl ?_ | refine ft_rpF rfl rfl rfl ?_ | refine ft_rowF rfl rfl rfl ?_ | refine up_row rfl rfl ?_ | refine up_rowF rfl rfl rfl ?_ | refine ct_0 rfl ?_ | refine ct_r rfl rfl ?_ | refine ct_c rfl rfl rfl ?_ | refine cu_all rfl ?_ | refine cu_to rfl ?_ | refine cu_from rfl ?_ | refine cu_p rfl ?_ | refine mk_c Dd rfl rfl rfl ?_); (first | omega | (simp only [List.length_append, List.length_replicate, List.length_cons, List.length_nil, List.length_set, List.length_take, List.length_drop, true_and]; omega))) | exact up_raw rfl | exact pk_t (by first | rfl | assumption | omega | (simp only [*, Bool.not_false, Bool.not_true]; first | done | fail) | (simp [*]; first | done | fail)) rfl | exact pk_f (by first | rfl | assumption | omega | (simp only [*, Bool.not_false, Bool.not_true]; first | done | fail) | (simp [*]; first | done | fail)) rfl | exact rw_c Dd rfl | exact rw_raw | exact pu_cv (fun w => rfl) (by omega) | exact pu_of (fun w => rfl) rfl | exact be_of (fun w => rfl) | exact nc_of (fun _ _ _ _ => rfl) rfl | exact bu_of (fun w => rfl) rfl | fail) ?_) | ((first | refine q_callE wsTS2 wsZS2 (by rfl) ?_ | refine q_callVE wsTS2 (by rfl) (by rfl) ?_); refine ⟨_, _, _, (by first | assumption | exact k_pick _ _ _ (by omega) | exact k_odd _ _ _ (by omega) | exact k_open _ (by omega)), _, by rfl, ?_, ?_⟩)); focus (first | exact trivial | fail | exact rfl | (first | omega | (simp only [List.length_append, List.length_replicate, List.length_cons, List.length_nil, List.length_set, List.length_take, List.length_drop, true_and]; omega)) | exact cvB (fun w => rfl) | ((repeat' (first | exact rfl | exact cV_len _ | exact cV_ln rfl (by omega) | exact Cel.pos | omega | exact trivial | refine And.intro ?_ ?_)); done) | (simp [*]; done) | (simp; omega))) | fail)) | refine r_nt (by rfl) (by rfl) (by first | rfl | assumption | omega | (simp only [*, Bool.not_false, Bool.not_true]; first | done | fail) | (simp [*]; first | done | fail)) (by rfl) ?_ | refine r_nf (by rfl) (by rfl) (by first | rfl | assumption | omega | (simp only [*, Bool.not_false, Bool.not_true]; first | done | fail) | (simp [*]; first | done | fail)) (by rfl) ?_ | refine r_gu (by rfl) (by rfl) (by rfl) ?_ | refine r_nil ?_); (repeat (first | ((first | refine r_none ?_ | refine r_gt (by rfl) (by rfl) (by first | rfl | assumption | omega | (simp only [*, Bool.not_false, Bool.not_true]; first | done | fail) | (simp [*]; first | done | fail)) (by rfl) ?_ | refine r_gf (by rfl) (by rfl) (by first | rfl | assumption | omega | (simp only [*, Bool.not_false, Bool.not_true]; first | done | fail) | (simp [*]; first | done | fail)) (by rfl) ?_); (first | fail | ((first | (refine z_op (by rfl) ?_; first | refine z_ok ?_ ?_ | refine z_ex ?_ (by first | exact ft_raw rfl rfl | ((first | refine ft_rp rfl rfl rfl ?_ | refine ft_row rfl rfl rfl ?_ | refine ft_rpF rfl rfl rfl ?_ | refine ft_rowF rfl rfl rfl ?_ | refine up_row rfl rfl ?_ | refine up_rowF rfl rfl rfl ?_ | refine ct_0 rfl ?_ | refine ct_r rfl rfl ?_ | refine ct_c rfl rfl rfl ?_ | refine cu_all rfl ?_ | refine cu_to rfl ?_ | refine cu_from rfl ?_ | refine cu_p rfl ?_ | refine mk_c Dd rfl rfl rfl ?_); (first | omega | (simp only [List.length_append, List.length_replicate, List.length_cons, List.length_nil, List.length_set, List.length_take, List.length_drop, true_and]; omega))) | exact up_raw rfl | exact pk_t (by first | rfl | assumption | omega | (simp only [*, Bool.not_false, Bool.not_true]; first | done | fail) | (simp [*]; first | done | fail)) rfl | exact pk_f (by first | rfl | assumption | omega | (simp only [*, Bool.not_false, Bool.not_true]; first | done | fail) | (simp [*]; first | done | fail)) rfl | exact rw_c Dd rfl | exact rw_raw | exact pu_cv (fun w => rfl) (by omega) | exact pu_of (fun w => rfl) rfl | exact be_of (fun w => rfl) | exact nc_of (fun _ _ _ _ => rfl) rfl | exact bu_of (fun w => rfl) rfl | fail) ?_) | ((first | refine q_callE wsTS2 wsZS2 (by rfl) ?_ | refine q_callVE wsTS2 (by rfl) (by rfl) ?_); refine ⟨_, _, _, (by first | assumption | exact k_pick _ _ _ (by omega) | exact k_odd _ _ _ (by omega) | exact k_open _ (by omega)), _, by rfl, ?_, ?_⟩)); focus (first | exact trivial | fail | exact rfl | (first | omega | (simp only [List.length_append, List.length_replicate, List.length_cons, List.length_nil, List.length_set, List.length_take, List.length_drop, true_and]; omega)) | exact cvB (fun w => rfl) | ((repeat' (first | exact rfl | exact cV_len _ | exact cV_ln rfl (by omega) | exact Cel.pos | omega | exact trivial | refine And.intro ?_ ?_)); done) | (simp [*]; done) | (simp; omega))) | fail)) | refine r_nt (by rfl) (by rfl) (by first | rfl | assumption | omega | (simp only [*, Bool.not_false, Bool.not_true]; first | done | fail) | (simp [*]; first | done | fail)) (by rfl) ?_ | refine r_nf (by rfl) (by rfl) (by first | rfl | assumption | omega | (simp only [*, Bool.not_false, Bool.not_true]; first | done | fail) | (simp [*]; first | done | fail)) (by rfl) ?_ | refine r_gu (by rfl) (by rfl) (by rfl) ?_ | refine r_nil ?_)); exact hh.out)) : G := h ⟨k⟩
theorem gc_KMS {H G : Prop} (k : H) (h : Hid H → G := by (intro hh; (first | refine aw_seq ?_ | refine aw_ct (by rfl) (by first | rfl | assumption | omega | (simp only [*, Bool.not_false, Bool.not_true]; first | done | fail) | (simp [*]; first | done | fail)) ?_ | refine aw_cf (by rfl) (by first | rfl | assumption | omega | (simp only [*, Bool.not_false, Bool.not_true]; first | done | fail) | (simp [*]; first | done | fail)) ?_ | refine aw_block ?_ | refine aw_region T0ok cfU_ok (by rfl) ?_ | refine aw_skip ?_ | refine aw_exit ?_ | refine ra_step ?_); (repeat (first | refine aw_seq ?_ | refine aw_ct (by rfl) (by first | rfl | assumption | omega | (simp only [*, Bool.not_false, Bool.not_true]; first | done | fail) | (simp [*]; first | done | fail)) ?_ | refine aw_cf (by rfl) (by first | rfl | assumption | omega | (simp only [*, Bool.not_false, Bool.not_true]; first | done | fail) | (simp [*]; first | done | fail)) ?_ | refine aw_block ?_ | refine aw_region T0ok cfU_ok (by rfl) ?_ | refine aw_skip ?_ | refine aw_exit ?_ | refine ra_step ?_)); exact hh.out)) : G := h ⟨k⟩
abbrev bCx (n : Int) (l : List Gt) (f w a : Int) : List AC := [.v (.int .i64 n), roG l, .v (.int .i64 f), .v (.int .i64 w), .v (.int .i64 a)]
theorem k_bdS9 (n : Int) (l : List Gt) (f w a : Int) (d : Dd) (hl : l.length ≤ 1000) (hr : -9223372036854775808 ≤ n ∧ n ≤ 9223372036854775807) (h : bok n l f w a = false) : Kon Try.prog 28 [bG n l f w a, dV d] [] (.tup [.agg [.v (.int .i64 0), .v (.slice none 0 0), .v (.int .i64 0), .v (.int .i64 0), .v (.int .i64 0)], .one (.v (.bool false))]) [] [] := k_bdo0 n l f w a d hl hr h
def dsT (l : List UInt8) (b : Bool) (L : Int) (x : (BS × List Dd) × Int) : (BS × List Dd) × Int :=
  ((bif b then (doR L x.1.1.1 x.1.1.2.1 x.1.1.2.2 (ddM l L x.1.1.1 x.2).1).1 else x.1.1, x.1.2 ++ [(ddM l L x.1.1.1 x.2).1]), (ddM l L x.1.1.1 x.2).2)
def dsN (l : List UInt8) (b : Bool) (L : Int) (x : (BS × List Dd) × Int) : Nat → (BS × List Dd) × Int
  | 0 => x
  | i + 1 => dsT l b L (dsN l b L x i)
theorem dsN_ok (l : List UInt8) (b : Bool) (L f : Int) (x : (BS × List Dd) × Int) (h : bok L x.1.1.1 f x.1.1.2.1 (x.1.1.2.2 : Int) = b) (hg : x.1.1.1.length ≤ 25) : ∀ i, bok L (dsN l b L x i).1.1.1 f (dsN l b L x i).1.1.2.1 ((dsN l b L x i).1.1.2.2 : Int) = b ∧ (dsN l b L x i).1.1.1.length ≤ 25 ∧ (dsN l b L x i).1.2.length = x.1.2.length + i ∧ x.2 ≤ (dsN l b L x i).2 ∧ (dsN l b L x i).2 ≤ x.2 + 27 * (i : Int)
  | 0 => ⟨h, hg, rfl, Int.le_refl _, by show x.2 ≤ x.2 + 27 * ((0 : Nat) : Int); omega⟩
  | i + 1 => by
    obtain ⟨h1, h2, h3, h4, h5⟩ := dsN_ok l b L f x h hg i
    rw [dsN]
    rcases hx : dsN l b L x i with ⟨⟨⟨gs, w, A⟩, ds⟩, c⟩
    rw [hx] at h1 h2 h3 h4 h5
    dsimp only at h1 h2 h3 h4 h5
    have hd := ddM_bd l L gs c
    unfold dsT
    dsimp only
    have hlen : (ds ++ [(ddM l L gs c).1]).length = x.1.2.length + (i + 1) := by rw [List.length_append]; simp; omega
    cases b with
    | false => exact ⟨h1, h2, hlen, by omega, by omega⟩
    | true =>
      rcases hr : doR L gs w A (ddM l L gs c).1 with ⟨⟨gs2, w2, A2⟩, ok⟩
      have h6 := doR_ok h1 hr
      have h7 := (cokB_t (bok_t h6).1).2.1
      exact ⟨h6, by dsimp only [cond_true]; omega, hlen, by omega, by omega⟩
set_option maxHeartbeats 8000000 in
theorem k_deeds (l : List UInt8) (c : Int) (b : Bool) (L f w : Int) (A : Nat) (gs : List Gt) (h : 0 ≤ c ∧ c ≤ 80000 ∧ l.length ≤ 2000) (hL : 0 ≤ L ∧ L ≤ 8) (hgs : gs.length ≤ 25) (hb : bok L gs f w (A : Int) = b) : Kon Try.prog 84 [p0, bG L gs f w (A : Int)] [rdE l c]
    (slA 0 0 (dsN l b L (((gs, w, A), []), c + 1) (pickI l c 14).toNat).1.2) [dRow (dsN l b L (((gs, w, A), []), c + 1) (pickI l c 14).toNat).1.2] [rdE l (dsN l b L (((gs, w, A), []), c + 1) (pickI l c 14).toNat).2] := by
  have hp := pickI_lt (l := l) (c := c) (n := 14) (by omega)
  obtain ⟨m, hm⟩ : ∃ m : Nat, pickI l c 14 = (m : Int) := ⟨(pickI l c 14).toNat, by omega⟩
  rw [hm, Int.toNat_natCast]
  (refine kon_mk T0ok (fn := Try.f84) (c := Try.f84.body.get rfl) Try.func84 rfl (by rfl) (by rfl) (by rfl) ?_; intro hfit hfe)
  (repeat (first | refine gq_KMS ?_ | (refine ga_KMS ?_; intro _q ⟨_he, _hq⟩)))
  rw [hm]
  (refine aw_rd [0] [48] (fun g : ((BS × List Dd) × Int) × Nat => [(5, .g (.one (.sl 176 g.2 g.1.1.2.length))), (6, .g (.one (.ptr 96 0 0))), (7, vI ((m : Int) - (g.2 : Int)))]) (fun g => [(96, (0, .box (bCx L g.1.1.1.1 f g.1.1.1.2.1 (g.1.1.1.2.2 : Int)))), (176, (g.2, dRow g.1.1.2)), (100000, (0, rdE l g.1.2))]) (fun g => g.2 ≤ m ∧ dsN l b L (((gs, w, A), []), c + 1) g.2 = g.1) (fun g => m - g.2) ((((gs, w, A), []), c + 1), 0) (by rfl) (by rfl) ?_ (by rfl) (by repeat (first | exact trivial | refine ⟨by rfl, ?_⟩ | refine ⟨vI_of (by rfl) (by omega), ?_⟩)) (by repeat (first | exact trivial | refine ⟨by rfl, ?_⟩ | refine ⟨vI_of (by rfl) (by omega), ?_⟩)) ?_)
  · exact ⟨Nat.zero_le _, rfl⟩
  rintro ⟨⟨⟨⟨x, v, B⟩, ds⟩, c1⟩, i⟩ ⟨hi, hx⟩
  dsimp only at hi hx ⊢
  have hok := dsN_ok l b L f (((gs, w, A), []), c + 1) hb hgs i
  rw [hx] at hok
  dsimp only at hok
  obtain ⟨hbk, hgl, hdl, hc1, hc2⟩ := hok
  simp only [List.length_nil, Nat.zero_add] at hdl
  rcases Nat.lt_or_ge i m with h5 | h5
  · have hd : decide ((m : Int) - (i : Int) > 0) = true := decide_eq_true (by omega)
    have hD := k_deed l c1 L f v B x (by omega) (by omega)
    have hDb := ddM_bd l L x c1
    rcases hd2 : ddM l L x c1 with ⟨d, c2⟩
    rw [hd2] at hD hDb
    dsimp only at hD hDb
    have ex : dsN l b L (((gs, w, A), []), c + 1) (i + 1) = ((bif b then (doR L x v B d).1 else (x, v, B), ds ++ [d]), c2) := by rw [dsN, hx]; unfold dsT; dsimp only; rw [hd2]
    cases b with
    | true =>
      rcases hr : doR L x v B d with ⟨⟨x2, v2, B2⟩, ok⟩
      have hB := kn_doS hbk hr
      have hgl2 := (cokB_t (bok_t (doR_ok hbk hr)).1).2.1
      rw [hr] at ex
      have hinv : i + 1 ≤ m ∧ dsN l true L (((gs, w, A), []), c + 1) (i + 1) = (((x2, v2, B2), ds ++ [d]), c2) := ⟨h5, ex⟩
      cases ok with
      | true =>
        clear hx hd2 hr ex
        (repeat refine gc_KMS ?_)
        (repeat (first | refine gs_KMS ?_ | (refine ga_KMS ?_; intro _q ⟨_he, _hq⟩)))
        (repeat refine gc_KMS ?_)
        (repeat (first | refine gs_KMS ?_ | (refine ga_KMS ?_; intro _q ⟨_he, _hq⟩)))
        (repeat refine gc_KMS ?_)
        (repeat (first | refine gs_KMS ?_ | (refine ga_KMS ?_; intro _q ⟨_he, _hq⟩)))
        (refine aw_freeze 400 (by rfl) (by rfl) ?_; refine aw_box 144 1 (by rfl) (by rfl) (by first | exact trivial | ((repeat' (first | exact rfl | exact cV_len _ | exact cV_ln rfl (by omega) | exact Cel.pos | omega | exact trivial | refine And.intro ?_ ?_)); first | done | fail)) (by rfl) ?_)
        (repeat (first | refine gq_KMS ?_ | (refine ga_KMS ?_; intro _q ⟨_he, _hq⟩)))
        refine ⟨((((x2, v2, B2), ds ++ [d]), c2), i + 1), hinv, ⟨by rfl, ⟨by rfl, ⟨by rfl, ⟨vI_of (by rfl) (by dsimp only; omega), (by repeat (first | exact trivial | refine ⟨by rfl, ?_⟩ | refine ⟨vI_of (by rfl) (by omega), ?_⟩))⟩⟩⟩, (by repeat (first | exact trivial | refine ⟨by rfl, ?_⟩ | refine ⟨vI_of (by rfl) (by omega), ?_⟩))⟩, (by first | omega | (dsimp only; omega))⟩
      | false =>
        obtain ⟨e1, e2, e3⟩ := doR_no hr
        rw [e1, e2, e3] at hinv
        clear hx hd2 hr ex e1 e2 e3
        (repeat refine gc_KMS ?_)
        (repeat (first | refine gs_KMS ?_ | (refine ga_KMS ?_; intro _q ⟨_he, _hq⟩)))
        (repeat refine gc_KMS ?_)
        (repeat (first | refine gs_KMS ?_ | (refine ga_KMS ?_; intro _q ⟨_he, _hq⟩)))
        (repeat refine gc_KMS ?_)
        (repeat (first | refine gs_KMS ?_ | (refine ga_KMS ?_; intro _q ⟨_he, _hq⟩)))
        (refine aw_freeze 400 (by rfl) (by rfl) ?_; refine aw_box 144 1 (by rfl) (by rfl) (by first | exact trivial | ((repeat' (first | exact rfl | exact cV_len _ | exact cV_ln rfl (by omega) | exact Cel.pos | omega | exact trivial | refine And.intro ?_ ?_)); first | done | fail)) (by rfl) ?_)
        (repeat (first | refine gq_KMS ?_ | (refine ga_KMS ?_; intro _q ⟨_he, _hq⟩)))
        refine ⟨((((x, v, B), ds ++ [d]), c2), i + 1), hinv, ⟨by rfl, ⟨by rfl, ⟨by rfl, ⟨vI_of (by rfl) (by dsimp only; omega), (by repeat (first | exact trivial | refine ⟨by rfl, ?_⟩ | refine ⟨vI_of (by rfl) (by omega), ?_⟩))⟩⟩⟩, (by repeat (first | exact trivial | refine ⟨by rfl, ?_⟩ | refine ⟨vI_of (by rfl) (by omega), ?_⟩))⟩, (by first | omega | (dsimp only; omega))⟩
    | false =>
      have hB := k_bdS9 L x f v B d (by omega) (by omega) hbk
      have hinv : i + 1 ≤ m ∧ dsN l false L (((gs, w, A), []), c + 1) (i + 1) = (((x, v, B), ds ++ [d]), c2) := ⟨h5, ex⟩
      clear hx hd2 ex
      (repeat (first | refine gq_KMS ?_ | (refine ga_KMS ?_; intro _q ⟨_he, _hq⟩)))
      refine ⟨((((x, v, B), ds ++ [d]), c2), i + 1), hinv, ⟨by rfl, ⟨by rfl, ⟨by rfl, ⟨vI_of (by rfl) (by dsimp only; omega), (by repeat (first | exact trivial | refine ⟨by rfl, ?_⟩ | refine ⟨vI_of (by rfl) (by omega), ?_⟩))⟩⟩⟩, (by repeat (first | exact trivial | refine ⟨by rfl, ?_⟩ | refine ⟨vI_of (by rfl) (by omega), ?_⟩))⟩, (by first | omega | (dsimp only; omega))⟩
  · obtain rfl : i = m := by omega
    have hd : decide ((i : Int) - (i : Int) > 0) = false := decide_eq_false (by omega)
    rw [hx]
    clear hx
    (repeat (first | refine gq_KMS ?_ | (refine ga_KMS ?_; intro _q ⟨_he, _hq⟩)))
    ((try refine aw_ret ?_); refine ret_auto2 (by rfl) (by rfl) (by rfl) (by repeat (first | exact trivial | refine ⟨by first | rfl | omega, ?_⟩)) ?_ (by repeat (first | exact trivial | refine ⟨by rfl, by rfl, ?_⟩)) (by repeat (first | exact trivial | refine ⟨by rfl, by rfl, ?_⟩)); try rfl)
theorem ex_dBR (l : List UInt8) (hl : l.length ≤ 100000000) : ∃ (L f w : Int) (A : Nat) (gs : List Gt) (ds : List Dd), (0 ≤ L ∧ L ≤ 5) ∧ (0 ≤ f ∧ f ≤ 256) ∧ gs.length ≤ 25 ∧ (0 ≤ w ∧ w ≤ 257) ∧ A ≤ 25 ∧ ds.length ≤ 41 ∧ Kon Try.prog 36 [roA l] [] (.tup [.agg (bCx L gs f w (A : Int)), .one (.sl 0 0 ds.length)]) [dRow ds] [] := by
  have h2 : (l.take 2000).length ≤ 2000 := by simp; omega
  obtain ⟨L, f, x, c', h3, h4, h5, h6, h7, hK⟩ := ex_bench (l.take 2000) 0 12 (by omega) (by omega)
  have hp30 := pickI_lt (l := l.take 2000) (c := c') (n := 30) (by omega)
  have hp14 := pickI_lt (l := l.take 2000) (c := c' + 1) (n := 14) (by omega)
  have eR : (List.replicate (41 : Int).toNat (Cel.no : Dd)).length = 41 := by simp
  rcases x with _ | ⟨gs, w, A⟩
  · clear h6 h7
    cases hv : (pickI (l.take 2000) c' 30 == 30 - 1) with
    | true =>
      refine ⟨0, 0, 0, 0, [], List.replicate (41 : Int).toNat Cel.no, by omega, by omega, by simp, by omega, by omega, by rw [eR]; omega, ?_⟩
      (refine kon_mk T0ok (fn := Try.f36) (c := Try.f36.body.get rfl) Try.func36 rfl (by rfl) (by rfl) (by rfl) ?_; intro hfit hfe)
      (repeat (first | refine gq_KMS ?_ | (refine ga_KMS ?_; intro _q ⟨_he, _hq⟩)))
      (refine aw_draw mixed T0ok cfU_ok [(208, [1]), (32, [2])] (by rfl) (by kernel_rfl) ?_)
      (repeat (first | refine gs_KMS ?_ | (refine ga_KMS ?_; intro _q ⟨_he, _hq⟩)))
      refine aw_box 32 4 (by rfl) (by rfl) (by first | exact trivial | ((repeat' (first | exact rfl | exact cV_len _ | exact cV_ln rfl (by omega) | exact Cel.pos | omega | exact trivial | refine And.intro ?_ ?_)); first | done | fail)) (by rfl) ?_
      (repeat (first | refine gq_KMS ?_ | (refine ga_KMS ?_; intro _q ⟨_he, _hq⟩)))
      ((try refine aw_ret ?_); refine ret_auto2 (by rfl) (by rfl) (by rfl) (by repeat (first | exact trivial | refine ⟨by first | rfl | omega, ?_⟩)) ?_ (by repeat (first | exact trivial | refine ⟨by rfl, by rfl, ?_⟩)) (by repeat (first | exact trivial | refine ⟨by rfl, by rfl, ?_⟩)); try rfl)
    | false =>
      have hb : bok 0 [] 0 0 ((0 : Nat) : Int) = false := by decide
      have hD := k_deeds (l.take 2000) (c' + 1) false 0 0 0 0 [] (by omega) (by omega) (by simp) hb
      have hn := (dsN_ok (l.take 2000) false 0 0 ((([], 0, 0), []), c' + 1 + 1) hb (by simp) (pickI (l.take 2000) (c' + 1) 14).toNat).2.2.1
      rcases hx : dsN (l.take 2000) false 0 ((([], 0, 0), []), c' + 1 + 1) (pickI (l.take 2000) (c' + 1) 14).toNat with ⟨⟨b, ds⟩, c2⟩
      rw [hx] at hD hn
      dsimp only at hD hn
      simp only [List.length_nil, Nat.zero_add] at hn
      refine ⟨0, 0, 0, 0, [], ds, by omega, by omega, by simp, by omega, by omega, by omega, ?_⟩
      clear hx
      (refine kon_mk T0ok (fn := Try.f36) (c := Try.f36.body.get rfl) Try.func36 rfl (by rfl) (by rfl) (by rfl) ?_; intro hfit hfe)
      (repeat (first | refine gq_KMS ?_ | (refine ga_KMS ?_; intro _q ⟨_he, _hq⟩)))
      (refine aw_draw mixed T0ok cfU_ok [(112, [3]), (272, [3]), (32, [4])] (by rfl) (by kernel_rfl) ?_)
      (repeat (first | refine gs_KMS ?_ | (refine ga_KMS ?_; intro _q ⟨_he, _hq⟩)))
      refine aw_box 32 4 (by rfl) (by rfl) (by first | exact trivial | ((repeat' (first | exact rfl | exact cV_len _ | exact cV_ln rfl (by omega) | exact Cel.pos | omega | exact trivial | refine And.intro ?_ ?_)); first | done | fail)) (by rfl) ?_
      (repeat (first | refine gq_KMS ?_ | (refine ga_KMS ?_; intro _q ⟨_he, _hq⟩)))
      ((try refine aw_ret ?_); refine ret_auto2 (by rfl) (by rfl) (by rfl) (by repeat (first | exact trivial | refine ⟨by first | rfl | omega, ?_⟩)) ?_ (by repeat (first | exact trivial | refine ⟨by rfl, by rfl, ?_⟩)) (by repeat (first | exact trivial | refine ⟨by rfl, by rfl, ?_⟩)); try rfl)
  · obtain ⟨hg, hw, hA, _⟩ := h6 _ rfl
    dsimp only at hg hw hA
    clear h6 h7
    cases hv : (pickI (l.take 2000) c' 30 == 30 - 1) with
    | true =>
      refine ⟨L, f, w, A, gs, List.replicate (41 : Int).toNat Cel.no, by omega, h4, hg, hw, hA, by rw [eR]; omega, ?_⟩
      (refine kon_mk T0ok (fn := Try.f36) (c := Try.f36.body.get rfl) Try.func36 rfl (by rfl) (by rfl) (by rfl) ?_; intro hfit hfe)
      (repeat (first | refine gq_KMS ?_ | (refine ga_KMS ?_; intro _q ⟨_he, _hq⟩)))
      (refine aw_draw mixed T0ok cfU_ok [(208, [1]), (32, [2])] (by rfl) (by kernel_rfl) ?_)
      (repeat (first | refine gs_KMS ?_ | (refine ga_KMS ?_; intro _q ⟨_he, _hq⟩)))
      refine aw_freeze 144 (by rfl) (by rfl) ?_
      refine aw_box 32 4 (by rfl) (by rfl) (by first | exact trivial | ((repeat' (first | exact rfl | exact cV_len _ | exact cV_ln rfl (by omega) | exact Cel.pos | omega | exact trivial | refine And.intro ?_ ?_)); first | done | fail)) (by rfl) ?_
      (repeat (first | refine gq_KMS ?_ | (refine ga_KMS ?_; intro _q ⟨_he, _hq⟩)))
      ((try refine aw_ret ?_); refine ret_auto2 (by rfl) (by rfl) (by rfl) (by repeat (first | exact trivial | refine ⟨by first | rfl | omega, ?_⟩)) ?_ (by repeat (first | exact trivial | refine ⟨by rfl, by rfl, ?_⟩)) (by repeat (first | exact trivial | refine ⟨by rfl, by rfl, ?_⟩)); try rfl)
    | false =>
      obtain ⟨b, hb⟩ : ∃ b, bok L gs f w (A : Int) = b := ⟨_, rfl⟩
      have hD := k_deeds (l.take 2000) (c' + 1) b L f w A gs (by omega) (by omega) hg hb
      have hn := (dsN_ok (l.take 2000) b L f (((gs, w, A), []), c' + 1 + 1) hb hg (pickI (l.take 2000) (c' + 1) 14).toNat).2.2.1
      rcases hx : dsN (l.take 2000) b L (((gs, w, A), []), c' + 1 + 1) (pickI (l.take 2000) (c' + 1) 14).toNat with ⟨⟨b2, ds⟩, c2⟩
      rw [hx] at hD hn
      dsimp only at hD hn
      simp only [List.length_nil, Nat.zero_add] at hn
      refine ⟨L, f, w, A, gs, ds, by omega, h4, hg, hw, hA, by omega, ?_⟩
      clear hx hb
      (refine kon_mk T0ok (fn := Try.f36) (c := Try.f36.body.get rfl) Try.func36 rfl (by rfl) (by rfl) (by rfl) ?_; intro hfit hfe)
      (repeat (first | refine gq_KMS ?_ | (refine ga_KMS ?_; intro _q ⟨_he, _hq⟩)))
      (refine aw_draw mixed T0ok cfU_ok [(112, [3]), (144, [3]), (272, [3]), (32, [4])] (by rfl) (by kernel_rfl) ?_)
      (repeat (first | refine gs_KMS ?_ | (refine ga_KMS ?_; intro _q ⟨_he, _hq⟩)))
      refine aw_box 32 4 (by rfl) (by rfl) (by first | exact trivial | ((repeat' (first | exact rfl | exact cV_len _ | exact cV_ln rfl (by omega) | exact Cel.pos | omega | exact trivial | refine And.intro ?_ ?_)); first | done | fail)) (by rfl) ?_
      (repeat (first | refine gq_KMS ?_ | (refine ga_KMS ?_; intro _q ⟨_he, _hq⟩)))
      ((try refine aw_ret ?_); refine ret_auto2 (by rfl) (by rfl) (by rfl) (by repeat (first | exact trivial | refine ⟨by first | rfl | omega, ?_⟩)) ?_ (by repeat (first | exact trivial | refine ⟨by rfl, by rfl, ?_⟩)) (by repeat (first | exact trivial | refine ⟨by rfl, by rfl, ?_⟩)); try rfl)
end Go.Proofs.Yteagoafamjbpbaa

/- The law FnBenchDo. -/
namespace Go.Proofs.Yteagoafamjbpbaa
set_option linter.unusedVariables false
set_option linter.unusedSimpArgs false
set_option maxRecDepth 20000
open Go.RowKit
attribute [local irreducible] runA runX AW
def wsTR : WsT := (60, ([0], true)) :: (72, ([0, 1], true)) :: wsT
def wsZR : List (Nat × Nat) := [(14, 4), (15, 4), (20, 4), (28, 4), (29, 4), (26, 4), (72, 4), (999999, 0)]
theorem gq_KMP {H G : Prop} (k : H) (h : Hid H → G := by (intro hh; (first | (first | ((first | refine r_none ?_ | refine r_gt (by rfl) (by rfl) (by first | rfl | assumption | omega | (simp only [*, Bool.not_false, Bool.not_true]; first | done | fail) | (simp [*]; first | done | fail)) (by rfl) ?_ | refine r_gf (by rfl) (by rfl) (by first | rfl | assumption | omega | (simp only [*, Bool.not_false, Bool.not_true]; first | done | fail) | (simp [*]; first | done | fail)) (by rfl) ?_); (first | fail | ((first | (refine z_op (by rfl) ?_; first | refine z_ok ?_ ?_ | refine z_ex ?_ (by first | exact ft_raw rfl rfl | ((first | refine ft_rp rfl rfl rfl ?_ | refine ft_row rfl rfl rfl ?_ | refine ft_rpF rfl rfl rfl ?_ | refine ft_rowF rfl rfl rfl ?_ | refine up_row rfl rfl ?_ | refine up_rowF rfl rfl rfl ?_ | refine ct_0 rfl ?_ | refine ct_r rfl rfl ?_ | refine ct_c rfl rfl rfl ?_ | refine cu_all rfl ?_ | refine cu_to rfl ?_ | refine cu_from rfl ?_ | refine cu_p rfl ?_ | fail); (first | omega | (simp only [List.length_append, List.length_replicate, List.length_cons, List.length_nil, List.length_set, List.length_take, List.length_drop, true_and]; omega))) | exact up_raw rfl | exact pk_t (by first | rfl | assumption | omega | (simp only [*, Bool.not_false, Bool.not_true]; first | done | fail) | (simp [*]; first | done | fail)) rfl | exact pk_f (by first | rfl | assumption | omega | (simp only [*, Bool.not_false, Bool.not_true]; first | done | fail) | (simp [*]; first | done | fail)) rfl | fail | exact rw_raw | exact pu_cv (fun w => rfl) (by omega) | exact pu_of (fun w => rfl) rfl | exact be_of (fun w => rfl) | exact nc_of (fun _ _ _ _ => rfl) rfl | exact bu_of (fun w => rfl) rfl | fail) ?_) | ((first | refine q_callE wsTR wsZR (by rfl) ?_ | refine q_callVE wsTR (by rfl) (by rfl) ?_); refine ⟨_, _, _, (by first | assumption | exact k_alive | exact k_open _ (by omega) | exact k_sg _ (by omega)), _, by rfl, ?_, ?_⟩)); focus (first | exact trivial | fail | exact rfl | (first | omega | (simp only [List.length_append, List.length_replicate, List.length_cons, List.length_nil, List.length_set, List.length_take, List.length_drop, true_and]; omega)) | exact cvB (fun w => rfl) | ((repeat' (first | exact rfl | exact cV_len _ | exact cV_ln rfl (by omega) | exact Cel.pos | omega | exact trivial | refine And.intro ?_ ?_)); done) | (simp [*]; done) | (simp; omega))) | fail)) | refine r_nt (by rfl) (by rfl) (by first | rfl | assumption | omega | (simp only [*, Bool.not_false, Bool.not_true]; first | done | fail) | (simp [*]; first | done | fail)) (by rfl) ?_ | refine r_nf (by rfl) (by rfl) (by first | rfl | assumption | omega | (simp only [*, Bool.not_false, Bool.not_true]; first | done | fail) | (simp [*]; first | done | fail)) (by rfl) ?_ | refine r_gu (by rfl) (by rfl) (by rfl) ?_ | refine r_nil ?_) | (first | refine aw_seq ?_ | refine aw_ct (by rfl) (by first | rfl | assumption | omega | (simp only [*, Bool.not_false, Bool.not_true]; first | done | fail) | (simp [*]; first | done | fail)) ?_ | refine aw_cf (by rfl) (by first | rfl | assumption | omega | (simp only [*, Bool.not_false, Bool.not_true]; first | done | fail) | (simp [*]; first | done | fail)) ?_ | refine aw_block ?_ | refine aw_region T0ok cfU_ok (by rfl) ?_ | refine aw_skip ?_ | refine aw_exit ?_ | refine ra_step ?_)); (repeat (first | (first | ((first | refine r_none ?_ | refine r_gt (by rfl) (by rfl) (by first | rfl | assumption | omega | (simp only [*, Bool.not_false, Bool.not_true]; first | done | fail) | (simp [*]; first | done | fail)) (by rfl) ?_ | refine r_gf (by rfl) (by rfl) (by first | rfl | assumption | omega | (simp only [*, Bool.not_false, Bool.not_true]; first | done | fail) | (simp [*]; first | done | fail)) (by rfl) ?_); (first | fail | ((first | (refine z_op (by rfl) ?_; first | refine z_ok ?_ ?_ | refine z_ex ?_ (by first | exact ft_raw rfl rfl | ((first | refine ft_rp rfl rfl rfl ?_ | refine ft_row rfl rfl rfl ?_ | refine ft_rpF rfl rfl rfl ?_ | refine ft_rowF rfl rfl rfl ?_ | refine up_row rfl rfl ?_ | refine up_rowF rfl rfl rfl ?_ | refine ct_0 rfl ?_ | refine ct_r rfl rfl ?_ | refine ct_c rfl rfl rfl ?_ | refine cu_all rfl ?_ | refine cu_to rfl ?_ | refine cu_from rfl ?_ | refine cu_p rfl ?_ | fail); (first | omega | (simp only [List.length_append, List.length_replicate, List.length_cons, List.length_nil, List.length_set, List.length_take, List.length_drop, true_and]; omega))) | exact up_raw rfl | exact pk_t (by first | rfl | assumption | omega | (simp only [*, Bool.not_false, Bool.not_true]; first | done | fail) | (simp [*]; first | done | fail)) rfl | exact pk_f (by first | rfl | assumption | omega | (simp only [*, Bool.not_false, Bool.not_true]; first | done | fail) | (simp [*]; first | done | fail)) rfl | fail | exact rw_raw | exact pu_cv (fun w => rfl) (by omega) | exact pu_of (fun w => rfl) rfl | exact be_of (fun w => rfl) | exact nc_of (fun _ _ _ _ => rfl) rfl | exact bu_of (fun w => rfl) rfl | fail) ?_) | ((first | refine q_callE wsTR wsZR (by rfl) ?_ | refine q_callVE wsTR (by rfl) (by rfl) ?_); refine ⟨_, _, _, (by first | assumption | exact k_alive | exact k_open _ (by omega) | exact k_sg _ (by omega)), _, by rfl, ?_, ?_⟩)); focus (first | exact trivial | fail | exact rfl | (first | omega | (simp only [List.length_append, List.length_replicate, List.length_cons, List.length_nil, List.length_set, List.length_take, List.length_drop, true_and]; omega)) | exact cvB (fun w => rfl) | ((repeat' (first | exact rfl | exact cV_len _ | exact cV_ln rfl (by omega) | exact Cel.pos | omega | exact trivial | refine And.intro ?_ ?_)); done) | (simp [*]; done) | (simp; omega))) | fail)) | refine r_nt (by rfl) (by rfl) (by first | rfl | assumption | omega | (simp only [*, Bool.not_false, Bool.not_true]; first | done | fail) | (simp [*]; first | done | fail)) (by rfl) ?_ | refine r_nf (by rfl) (by rfl) (by first | rfl | assumption | omega | (simp only [*, Bool.not_false, Bool.not_true]; first | done | fail) | (simp [*]; first | done | fail)) (by rfl) ?_ | refine r_gu (by rfl) (by rfl) (by rfl) ?_ | refine r_nil ?_) | (first | refine aw_seq ?_ | refine aw_ct (by rfl) (by first | rfl | assumption | omega | (simp only [*, Bool.not_false, Bool.not_true]; first | done | fail) | (simp [*]; first | done | fail)) ?_ | refine aw_cf (by rfl) (by first | rfl | assumption | omega | (simp only [*, Bool.not_false, Bool.not_true]; first | done | fail) | (simp [*]; first | done | fail)) ?_ | refine aw_block ?_ | refine aw_region T0ok cfU_ok (by rfl) ?_ | refine aw_skip ?_ | refine aw_exit ?_ | refine ra_step ?_))); exact hh.out)) : G := h ⟨k⟩
theorem ga_KMP {H G : Prop} (k : H) (h : Hid H → G := by (intro hh; (first | refine r_none ?_ | refine r_gt (by rfl) (by rfl) (by first | rfl | assumption | omega | (simp only [*, Bool.not_false, Bool.not_true]; first | done | fail) | (simp [*]; first | done | fail)) (by rfl) ?_ | refine r_gf (by rfl) (by rfl) (by first | rfl | assumption | omega | (simp only [*, Bool.not_false, Bool.not_true]; first | done | fail) | (simp [*]; first | done | fail)) (by rfl) ?_); refine z_op (by rfl) ?_; refine z_al ?_ hh.out; focus (first | exact trivial | fail | exact rfl | (first | omega | (simp only [List.length_append, List.length_replicate, List.length_cons, List.length_nil, List.length_set, List.length_take, List.length_drop, true_and]; omega)) | exact cvB (fun w => rfl) | ((repeat' (first | exact rfl | exact cV_len _ | exact cV_ln rfl (by omega) | exact Cel.pos | omega | exact trivial | refine And.intro ?_ ?_)); done) | (simp [*]; done) | (simp; omega)))) : G := h ⟨k⟩
theorem k_sb (n : Int) (l : List Gt) (f w a : Int) (h : l.length ≤ 1000) : Kon Try.prog 29 [bG n l f w a, bG n l f w a] [] (vB true) [] [] := by
  have h1 : (n == n) = true := beq_self_eq_true _
  have h2 : (f == f) = true := beq_self_eq_true _
  have h3 : (w == w) = true := beq_self_eq_true _
  have h4 : (a == a) = true := beq_self_eq_true _
  (refine kon_mk T0ok (fn := Try.f29) (c := Try.f29.body.get rfl) Try.func29 rfl (by rfl) (by rfl) (by rfl) ?_; intro hfit hfe)
  (repeat (first | refine gq_KMP ?_ | (refine ga_KMP ?_; intro _q ⟨_he, _hq⟩)))
  ((try refine aw_ret ?_); refine ret_auto2 (by rfl) (by rfl) (by rfl) (by repeat (first | exact trivial | refine ⟨by first | rfl | omega, ?_⟩)) ?_ (by repeat (first | exact trivial | refine ⟨by rfl, by rfl, ?_⟩)) (by repeat (first | exact trivial | refine ⟨by rfl, by rfl, ?_⟩)); try rfl)
end Go.Proofs.Yteagoafamjbpbaa
