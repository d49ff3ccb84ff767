/- PX, DJA, DU, LI, DR, ShlB, LJ: laid into one text. -/
import Derived.Test.YtgphlcdinejmdaaGreatDoorQVF
import Derived.Test.YtgphlcdinejmdaaGreatDoorQVG
import Derived.Test.YtgphlcdinejmdaaGreatDoorQVI
import Derived.Test.YtgphlcdinejmdaaGreatDoorQVQ
import Derived.Test.YtgphlcdinejmdaaGreatDoorQVR
import Derived.Shelf.Lays
import Derived.Shelf.LaysC
import Derived.Shelf.Strconv.AtoiAll
import Derived.Shelf.Strings.Split
import Derived.Test.YtgphlcdinejmdaaGreatDoorProg
import Derived.Lib.AtoiErrMem

/- Texts of journals; which journal a text begins with. -/
namespace Go.Proofs.YtgphlcdinejmdaaGreatDoor
set_option linter.unusedVariables false
set_option linter.unusedSimpArgs false
open Go.Lib (decDigits)
abbrev dT (d : Dd) : List UInt8 := dtx d.k d.n d.p
theorem dd_ext2 {d e : Dd} (h1 : d.k = e.k) (h2 : d.n = e.n) (h3 : d.p = e.p) : d = e := by
  obtain ⟨a, b, c⟩ := d
  obtain ⟨a', b', c'⟩ := e
  dsimp only at h1 h2 h3
  rw [h1, h2, h3]
end Go.Proofs.YtgphlcdinejmdaaGreatDoor

/- Journals: JournalText of the reference. -/
namespace Go.Proofs.YtgphlcdinejmdaaGreatDoor
set_option linter.unusedVariables false
set_option linter.unusedSimpArgs false
set_option maxRecDepth 20000
open Go.RowKit
open Go.Lib (decDigits)
attribute [local irreducible] runA runX AW
end Go.Proofs.YtgphlcdinejmdaaGreatDoor

/- Drawn deeds' texts. -/
namespace Go.Proofs.YtgphlcdinejmdaaGreatDoor
set_option linter.unusedVariables false
set_option linter.unusedSimpArgs false
set_option maxRecDepth 20000
open Go.RowKit
attribute [local irreducible] runA runX AW
def wsTU : WsT := (33, ([0], true)) :: (37, ([0], true)) :: (20, ([0], true)) :: (19, ([0, 1], true)) :: (60, ([0], true)) :: wsT
def wsZU : List (Nat × Nat) := [(19, 4), (60, 4), (999999, 0)]
theorem gq_DU {H G : Prop} (k : H) (h : Hid H → G := by (intro hh; (first | (first | ((first | refine r_none ?_ | refine r_gt (by rfl) (by rfl) (by first | rfl | assumption | omega | (simp only [*, Bool.not_false, Bool.not_true]; first | done | fail) | (simp [*]; first | done | fail)) (by rfl) ?_ | refine r_gf (by rfl) (by rfl) (by first | rfl | assumption | omega | (simp only [*, Bool.not_false, Bool.not_true]; first | done | fail) | (simp [*]; first | done | fail)) (by rfl) ?_); (first | (first | refine r_slen (by rfl) Tryz.underlying9 (by rfl) ?_ | refine r_seq (by rfl) (by rfl) (by rfl) ?_ | refine r_sne (by rfl) (by rfl) (by rfl) ?_ | refine r_sadd (by rfl) (by rfl) (by first | omega | (simp only [List.length_append, List.length_cons, List.length_nil, List.length_take, List.length_drop]; omega)) (by rfl) ?_ | refine r_spiece (q := z) (by rfl) (by rfl) (by rfl) Tryz.underlying9 (.inl ⟨rfl, rfl⟩) (.inr rfl) (by omega) (by rfl) ?_ | refine r_spiece (p := z + 1) (by rfl) (by rfl) (by rfl) Tryz.underlying9 (.inr rfl) (.inl ⟨rfl, rfl⟩) (by omega) (by rfl) ?_) | ((first | (refine z_op (by rfl) ?_; first | refine z_ok ?_ ?_ | refine z_ex ?_ (by first | exact ft_raw rfl rfl | ((first | refine ft_rp rfl rfl rfl ?_ | refine ft_row rfl rfl rfl ?_ | refine ft_rpF rfl rfl rfl ?_ | refine ft_rowF rfl rfl rfl ?_ | refine up_row rfl rfl ?_ | refine up_rowF rfl rfl rfl ?_ | refine ct_0 rfl ?_ | refine ct_r rfl rfl ?_ | refine ct_c rfl rfl rfl ?_ | refine cu_all rfl ?_ | refine cu_to rfl ?_ | refine cu_from rfl ?_ | refine cu_p rfl ?_ | fail); (first | omega | (simp only [List.length_append, List.length_replicate, List.length_cons, List.length_nil, List.length_set, List.length_take, List.length_drop, true_and]; omega))) | exact up_raw rfl | exact pk_t (by first | rfl | assumption | omega | (simp only [*, Bool.not_false, Bool.not_true]; first | done | fail) | (simp [*]; first | done | fail)) rfl | exact pk_f (by first | rfl | assumption | omega | (simp only [*, Bool.not_false, Bool.not_true]; first | done | fail) | (simp [*]; first | done | fail)) rfl | (first | exact rw_c (List UInt8) rfl | exact rw_c Dd rfl) | exact rw_raw | exact pu_cv (fun w => rfl) (by omega) | exact pu_of (fun w => rfl) rfl | exact be_of (fun w => rfl) | exact nc_of (fun _ _ _ _ => rfl) rfl | exact bu_of (fun w => rfl) rfl | fail) ?_) | ((first | refine q_callE wsTU wsZU (by rfl) ?_ | refine q_callVE wsTU (by rfl) (by rfl) ?_); refine ⟨_, _, _, (by first | assumption | exact k_open _ (by omega) | exact (k_dt _ _ _).2), _, by rfl, ?_, ?_⟩)); focus (first | exact trivial | fail | exact rfl | (first | omega | (simp only [List.length_append, List.length_replicate, List.length_cons, List.length_nil, List.length_set, List.length_take, List.length_drop, true_and]; omega)) | exact cvB (fun w => rfl) | ((repeat' (first | exact rfl | exact cV_len _ | exact cV_ln rfl (by omega) | exact Cel.pos | omega | exact trivial | refine And.intro ?_ ?_)); done) | (simp [*]; done) | (simp; omega))) | fail)) | refine r_nt (by rfl) (by rfl) (by first | rfl | assumption | omega | (simp only [*, Bool.not_false, Bool.not_true]; first | done | fail) | (simp [*]; first | done | fail)) (by rfl) ?_ | refine r_nf (by rfl) (by rfl) (by first | rfl | assumption | omega | (simp only [*, Bool.not_false, Bool.not_true]; first | done | fail) | (simp [*]; first | done | fail)) (by rfl) ?_ | refine r_gu (by rfl) (by rfl) (by rfl) ?_ | refine r_nil ?_) | (first | refine aw_seq ?_ | refine aw_ct (by rfl) (by first | rfl | assumption | omega | (simp only [*, Bool.not_false, Bool.not_true]; first | done | fail) | (simp [*]; first | done | fail)) ?_ | refine aw_cf (by rfl) (by first | rfl | assumption | omega | (simp only [*, Bool.not_false, Bool.not_true]; first | done | fail) | (simp [*]; first | done | fail)) ?_ | refine aw_block ?_ | refine aw_region T0ok cfU_ok (by rfl) ?_ | refine aw_skip ?_ | refine aw_exit ?_ | refine ra_step ?_)); (repeat (first | (first | ((first | refine r_none ?_ | refine r_gt (by rfl) (by rfl) (by first | rfl | assumption | omega | (simp only [*, Bool.not_false, Bool.not_true]; first | done | fail) | (simp [*]; first | done | fail)) (by rfl) ?_ | refine r_gf (by rfl) (by rfl) (by first | rfl | assumption | omega | (simp only [*, Bool.not_false, Bool.not_true]; first | done | fail) | (simp [*]; first | done | fail)) (by rfl) ?_); (first | (first | refine r_slen (by rfl) Tryz.underlying9 (by rfl) ?_ | refine r_seq (by rfl) (by rfl) (by rfl) ?_ | refine r_sne (by rfl) (by rfl) (by rfl) ?_ | refine r_sadd (by rfl) (by rfl) (by first | omega | (simp only [List.length_append, List.length_cons, List.length_nil, List.length_take, List.length_drop]; omega)) (by rfl) ?_ | refine r_spiece (q := z) (by rfl) (by rfl) (by rfl) Tryz.underlying9 (.inl ⟨rfl, rfl⟩) (.inr rfl) (by omega) (by rfl) ?_ | refine r_spiece (p := z + 1) (by rfl) (by rfl) (by rfl) Tryz.underlying9 (.inr rfl) (.inl ⟨rfl, rfl⟩) (by omega) (by rfl) ?_) | ((first | (refine z_op (by rfl) ?_; first | refine z_ok ?_ ?_ | refine z_ex ?_ (by first | exact ft_raw rfl rfl | ((first | refine ft_rp rfl rfl rfl ?_ | refine ft_row rfl rfl rfl ?_ | refine ft_rpF rfl rfl rfl ?_ | refine ft_rowF rfl rfl rfl ?_ | refine up_row rfl rfl ?_ | refine up_rowF rfl rfl rfl ?_ | refine ct_0 rfl ?_ | refine ct_r rfl rfl ?_ | refine ct_c rfl rfl rfl ?_ | refine cu_all rfl ?_ | refine cu_to rfl ?_ | refine cu_from rfl ?_ | refine cu_p rfl ?_ | fail); (first | omega | (simp only [List.length_append, List.length_replicate, List.length_cons, List.length_nil, List.length_set, List.length_take, List.length_drop, true_and]; omega))) | exact up_raw rfl | exact pk_t (by first | rfl | assumption | omega | (simp only [*, Bool.not_false, Bool.not_true]; first | done | fail) | (simp [*]; first | done | fail)) rfl | exact pk_f (by first | rfl | assumption | omega | (simp only [*, Bool.not_false, Bool.not_true]; first | done | fail) | (simp [*]; first | done | fail)) rfl | (first | exact rw_c (List UInt8) rfl | exact rw_c Dd rfl) | exact rw_raw | exact pu_cv (fun w => rfl) (by omega) | exact pu_of (fun w => rfl) rfl | exact be_of (fun w => rfl) | exact nc_of (fun _ _ _ _ => rfl) rfl | exact bu_of (fun w => rfl) rfl | fail) ?_) | ((first | refine q_callE wsTU wsZU (by rfl) ?_ | refine q_callVE wsTU (by rfl) (by rfl) ?_); refine ⟨_, _, _, (by first | assumption | exact k_open _ (by omega) | exact (k_dt _ _ _).2), _, by rfl, ?_, ?_⟩)); focus (first | exact trivial | fail | exact rfl | (first | omega | (simp only [List.length_append, List.length_replicate, List.length_cons, List.length_nil, List.length_set, List.length_take, List.length_drop, true_and]; omega)) | exact cvB (fun w => rfl) | ((repeat' (first | exact rfl | exact cV_len _ | exact cV_ln rfl (by omega) | exact Cel.pos | omega | exact trivial | refine And.intro ?_ ?_)); done) | (simp [*]; done) | (simp; omega))) | fail)) | refine r_nt (by rfl) (by rfl) (by first | rfl | assumption | omega | (simp only [*, Bool.not_false, Bool.not_true]; first | done | fail) | (simp [*]; first | done | fail)) (by rfl) ?_ | refine r_nf (by rfl) (by rfl) (by first | rfl | assumption | omega | (simp only [*, Bool.not_false, Bool.not_true]; first | done | fail) | (simp [*]; first | done | fail)) (by rfl) ?_ | refine r_gu (by rfl) (by rfl) (by rfl) ?_ | refine r_nil ?_) | (first | refine aw_seq ?_ | refine aw_ct (by rfl) (by first | rfl | assumption | omega | (simp only [*, Bool.not_false, Bool.not_true]; first | done | fail) | (simp [*]; first | done | fail)) ?_ | refine aw_cf (by rfl) (by first | rfl | assumption | omega | (simp only [*, Bool.not_false, Bool.not_true]; first | done | fail) | (simp [*]; first | done | fail)) ?_ | refine aw_block ?_ | refine aw_region T0ok cfU_ok (by rfl) ?_ | refine aw_skip ?_ | refine aw_exit ?_ | refine ra_step ?_))); exact hh.out)) : G := h ⟨k⟩
theorem ga_DU {H G : Prop} (k : H) (h : Hid H → G := by (intro hh; (first | refine r_none ?_ | refine r_gt (by rfl) (by rfl) (by first | rfl | assumption | omega | (simp only [*, Bool.not_false, Bool.not_true]; first | done | fail) | (simp [*]; first | done | fail)) (by rfl) ?_ | refine r_gf (by rfl) (by rfl) (by first | rfl | assumption | omega | (simp only [*, Bool.not_false, Bool.not_true]; first | done | fail) | (simp [*]; first | done | fail)) (by rfl) ?_); refine z_op (by rfl) ?_; refine z_alV ?_ hh.out; focus (first | exact trivial | fail | exact rfl | (first | omega | (simp only [List.length_append, List.length_replicate, List.length_cons, List.length_nil, List.length_set, List.length_take, List.length_drop, true_and]; omega)) | exact cvB (fun w => rfl) | ((repeat' (first | exact rfl | exact cV_len _ | exact cV_ln rfl (by omega) | exact Cel.pos | omega | exact trivial | refine And.intro ?_ ?_)); done) | (simp [*]; done) | (simp; omega)))) : G := h ⟨k⟩
theorem ex_dDT (l : List UInt8) (hl : l.length ≤ 100000000) : ∃ d : Dd, Kon Tryz.prog 6 [roA l] [] (dV d) [] [] := by
  have h2 : (l.take 2000).length ≤ 2000 := by simp; omega
  obtain ⟨L, f, x, c', h3, h4, h5, h6, h7, hK⟩ := ex_bench (l.take 2000) 0 0 (by omega) (by omega)
  rcases x with _ | ⟨gs, w, A⟩
  · exact absurd rfl (h7 (by omega))
  · have hg : gs.length ≤ 25 := (h6 _ rfl).1
    have hd := k_deedO (l.take 2000) c' L f w A gs (by omega) (by omega)
    rcases hx : ddM (l.take 2000) L gs c' with ⟨d, c2⟩
    rw [hx] at hd
    refine ⟨d, ?_⟩
    clear h6 h7 hx
    (refine kon_mk T0ok (fn := Tryz.f6) (c := Tryz.f6.body.get rfl) Tryz.func6 rfl (by rfl) (by rfl) (by rfl) ?_; intro hfit hfe)
    (repeat (first | refine gq_DU ?_ | (refine ga_DU ?_; intro _hq)))
    ((try refine aw_ret ?_); refine ret_auto2 (by rfl) (by rfl) (by rfl) (by repeat (first | exact trivial | refine ⟨by first | rfl | omega, ?_⟩)) ?_ (by repeat (first | exact trivial | refine ⟨by rfl, by rfl, ?_⟩)) (by repeat (first | exact trivial | refine ⟨by rfl, by rfl, ?_⟩)); try rfl)
/-- A text with a byte of it changed. -/
theorem ex_spoil (l : List UInt8) (c : Int) (t : List UInt8) (h : 0 ≤ c ∧ c ≤ 90000 ∧ l.length ≤ 2000) (ht : t.length ≤ 1000) : ∃ (s : List UInt8) (c' : Int), s.length ≤ t.length + 4 ∧ Kon Tryz.prog 33 [p0, vS t] [rdE l c] (vS s) [] [rdE l c'] := by
  rcases Nat.eq_zero_or_pos t.length with h0 | h0
  · have hb : ((t.length : Int) == 0) = true := by rw [beq_iff_eq]; omega
    refine ⟨[10], c, by simp, ?_⟩
    (refine kon_mk T0ok (fn := Tryz.f33) (c := Tryz.f33.body.get rfl) Tryz.func33 rfl (by rfl) (by rfl) (by rfl) ?_; intro hfit hfe)
    (repeat (first | refine gq_DU ?_ | (refine ga_DU ?_; intro _hq)))
    ((try refine aw_ret ?_); refine ret_auto2 (by rfl) (by rfl) (by rfl) (by repeat (first | exact trivial | refine ⟨by first | rfl | omega, ?_⟩)) ?_ (by repeat (first | exact trivial | refine ⟨by rfl, by rfl, ?_⟩)) (by repeat (first | exact trivial | refine ⟨by rfl, by rfl, ?_⟩)); try rfl)
  · have hb : ((t.length : Int) == 0) = false := by rw [beq_eq_false_iff_ne]; omega
    obtain ⟨q, _, hq, hQ⟩ := ex_pick l c (t.length : Int) (by omega)
    have hq' := hq (by omega)
    obtain ⟨z, rfl⟩ : ∃ z : Nat, q = (z : Int) := ⟨q.toNat, by omega⟩
    obtain ⟨y, _, hy, hY⟩ := ex_pick l (c + 1) 6 (by omega)
    have hy' := hy (by decide)
    obtain ⟨e, he, hel⟩ : ∃ e : List UInt8, ([[], [48], [32], [10], [49], [116, 97, 107, 101]] : List (List UInt8)).getD y.toNat Cel.no = e ∧ e.length ≤ 4 := by
      refine ⟨_, rfl, ?_⟩
      have : y.toNat = 0 ∨ y.toNat = 1 ∨ y.toNat = 2 ∨ y.toNat = 3 ∨ y.toNat = 4 ∨ y.toNat = 5 := by omega
      rcases this with h | h | h | h | h | h <;> rw [h] <;> decide
    refine ⟨((t.drop 0).take (z - 0)) ++ ([[], [48], [32], [10], [49], [116, 97, 107, 101]] : List (List UInt8)).getD y.toNat Cel.no ++ ((t.drop (z + 1)).take (t.length - (z + 1))), c + 1 + 1, ?_, ?_⟩
    · rw [he]; simp only [List.length_append, List.length_take, List.length_drop]; omega
    have hel2 : (([[], [48], [32], [10], [49], [116, 97, 107, 101]] : List (List UInt8)).getD y.toNat Cel.no).length ≤ 4 := by rw [he]; exact hel
    clear he
    (refine kon_mk T0ok (fn := Tryz.f33) (c := Tryz.f33.body.get rfl) Tryz.func33 rfl (by rfl) (by rfl) (by rfl) ?_; intro hfit hfe)
    (repeat (first | refine gq_DU ?_ | (refine ga_DU ?_; intro _hq)))
    (refine aw_draw mixed T0ok cfU_ok [(100000, [5]), (256, [3, 6, 7])] (by rfl) (by kernel_rfl) ?_)
    (repeat (first | refine gq_DU ?_ | (refine ga_DU ?_; intro _hq)))
    ((try refine aw_ret ?_); refine ret_auto2 (by rfl) (by rfl) (by rfl) (by repeat (first | exact trivial | refine ⟨by first | rfl | omega, ?_⟩)) ?_ (by repeat (first | exact trivial | refine ⟨by rfl, by rfl, ?_⟩)) (by repeat (first | exact trivial | refine ⟨by rfl, by rfl, ?_⟩)); try rfl)
theorem ex_dRD (l : List UInt8) (hl : l.length ≤ 100000000) : ∃ s : List UInt8, s.length ≤ 100 ∧ Kon Tryz.prog 11 [roA l] [] (vS s) [] [] := by
  have h2 : (l.take 2000).length ≤ 2000 := by simp; omega
  obtain ⟨L, f, x, c', h3, h4, h5, h6, h7, hK⟩ := ex_bench (l.take 2000) 0 0 (by omega) (by omega)
  rcases x with _ | ⟨gs, w, A⟩
  · exact absurd rfl (h7 (by omega))
  have hg : gs.length ≤ 25 := (h6 _ rfl).1
  have hd := k_deedO (l.take 2000) c' L f w A gs (by omega) (by omega)
  have hbd := ddM_bd (l.take 2000) L gs c'
  rcases hx : ddM (l.take 2000) L gs c' with ⟨d, c2⟩
  rw [hx] at hd hbd
  dsimp only at hd hbd
  have hT := (k_dt d.k d.n d.p).2
  have htl := dtx_len d.k d.n d.p
  generalize dtx d.k d.n d.p = t at hT htl
  clear h6 h7 hx
  obtain ⟨p, _, hp, hP⟩ := ex_pick (l.take 2000) c2 3 (by omega)
  have hp' := hp (by decide)
  obtain ⟨s, c3, hs, hS⟩ := ex_spoil (l.take 2000) (c2 + 1) t (by omega) (by omega)
  by_cases hp0 : p = 0
  · subst hp0
    refine ⟨s, by omega, ?_⟩
    (refine kon_mk T0ok (fn := Tryz.f11) (c := Tryz.f11.body.get rfl) Tryz.func11 rfl (by rfl) (by rfl) (by rfl) ?_; intro hfit hfe)
    (repeat (first | refine gq_DU ?_ | (refine ga_DU ?_; intro _hq)))
    ((try refine aw_ret ?_); refine ret_auto2 (by rfl) (by rfl) (by rfl) (by repeat (first | exact trivial | refine ⟨by first | rfl | omega, ?_⟩)) ?_ (by repeat (first | exact trivial | refine ⟨by rfl, by rfl, ?_⟩)) (by repeat (first | exact trivial | refine ⟨by rfl, by rfl, ?_⟩)); try rfl)
  · have hb : (p == 0) = false := by simp; omega
    refine ⟨t, by omega, ?_⟩
    (refine kon_mk T0ok (fn := Tryz.f11) (c := Tryz.f11.body.get rfl) Tryz.func11 rfl (by rfl) (by rfl) (by rfl) ?_; intro hfit hfe)
    (repeat (first | refine gq_DU ?_ | (refine ga_DU ?_; intro _hq)))
    ((try refine aw_ret ?_); refine ret_auto2 (by rfl) (by rfl) (by rfl) (by repeat (first | exact trivial | refine ⟨by first | rfl | omega, ?_⟩)) ?_ (by repeat (first | exact trivial | refine ⟨by rfl, by rfl, ?_⟩)) (by repeat (first | exact trivial | refine ⟨by rfl, by rfl, ?_⟩)); try rfl)
end Go.Proofs.YtgphlcdinejmdaaGreatDoor

/- Texts cut and digits read, in the reference. -/
namespace Go.Proofs.YtgphlcdinejmdaaGreatDoor
set_option linter.unusedVariables false
set_option linter.unusedSimpArgs false
set_option maxRecDepth 20000
open Go.RowKit
attribute [local irreducible] runA runX AW
theorem gq_LI {H G : Prop} (k : H) (h : Hid H → G := by (intro hh; (first | (first | ((first | refine r_none ?_ | refine r_gt (by rfl) (by rfl) (by first | rfl | assumption | omega | (simp only [*, Bool.not_false, Bool.not_true]; first | done | fail) | (simp [*]; first | done | fail)) (by rfl) ?_ | refine r_gf (by rfl) (by rfl) (by first | rfl | assumption | omega | (simp only [*, Bool.not_false, Bool.not_true]; first | done | fail) | (simp [*]; first | done | fail)) (by rfl) ?_); (first | (first | refine r_slen (by rfl) Tryz.underlying9 (by rfl) ?_ | refine r_sidx (by rfl) (by rfl) Tryz.underlying9 (by omega) (by rfl) ?_ | refine r_spiece (by rfl) (by rfl) (by rfl) Tryz.underlying9 (.inr rfl) (.inr rfl) (by omega) (by rfl) ?_ | refine r_spiece (by rfl) (by rfl) (by rfl) Tryz.underlying9 (.inr rfl) (.inl ⟨rfl, rfl⟩) (by omega) (by rfl) ?_ | refine r_bsub (by rfl) (by rfl) (fun w => by rfl) (by omega) (by rfl) ?_ | refine r_b2i (by rfl) (fun w => by rfl) (by omega) (by rfl) ?_) | ((first | (refine z_op (by rfl) ?_; first | refine z_ok ?_ ?_ | refine z_ex ?_ (by first | exact ft_raw rfl rfl | ((first | refine ft_rp rfl rfl rfl ?_ | refine ft_row rfl rfl rfl ?_ | refine ft_rpF rfl rfl rfl ?_ | refine ft_rowF rfl rfl rfl ?_ | refine up_row rfl rfl ?_ | refine up_rowF rfl rfl rfl ?_ | refine ct_0 rfl ?_ | refine ct_r rfl rfl ?_ | refine ct_c rfl rfl rfl ?_ | refine cu_all rfl ?_ | refine cu_to rfl ?_ | refine cu_from rfl ?_ | refine cu_p rfl ?_ | fail); (first | omega | (simp only [List.length_append, List.length_replicate, List.length_cons, List.length_nil, List.length_set, List.length_take, List.length_drop, true_and]; omega))) | exact up_raw rfl | exact pk_t (by first | rfl | assumption | omega | (simp only [*, Bool.not_false, Bool.not_true]; first | done | fail) | (simp [*]; first | done | fail)) rfl | exact pk_f (by first | rfl | assumption | omega | (simp only [*, Bool.not_false, Bool.not_true]; first | done | fail) | (simp [*]; first | done | fail)) rfl | (first | exact rw_c (List UInt8) rfl) | exact rw_raw | exact pu_cv (fun w => rfl) (by omega) | exact pu_of (fun w => rfl) rfl | exact be_of (fun w => rfl) | exact nc_of (fun _ _ _ _ => rfl) rfl | exact bu_of (fun w => rfl) rfl | fail) ?_) | ((first | refine q_callE wsT wsZ (by rfl) ?_ | refine q_callVE wsT (by rfl) (by rfl) ?_); refine ⟨_, _, _, (by first | assumption | exact k_l1In _ _ _), _, by rfl, ?_, ?_⟩)); focus (first | exact trivial | fail | exact rfl | (first | omega | (simp only [List.length_append, List.length_replicate, List.length_cons, List.length_nil, List.length_set, List.length_take, List.length_drop, true_and]; omega)) | exact cvB (fun w => rfl) | ((repeat' (first | exact rfl | exact cV_len _ | exact cV_ln rfl (by omega) | exact Cel.pos | omega | exact trivial | refine And.intro ?_ ?_)); done) | (simp [*]; done) | (simp; omega))) | fail)) | refine r_nt (by rfl) (by rfl) (by first | rfl | assumption | omega | (simp only [*, Bool.not_false, Bool.not_true]; first | done | fail) | (simp [*]; first | done | fail)) (by rfl) ?_ | refine r_nf (by rfl) (by rfl) (by first | rfl | assumption | omega | (simp only [*, Bool.not_false, Bool.not_true]; first | done | fail) | (simp [*]; first | done | fail)) (by rfl) ?_ | refine r_gu (by rfl) (by rfl) (by rfl) ?_ | refine r_nil ?_) | (first | refine aw_seq ?_ | refine aw_ct (by rfl) (by first | rfl | assumption | omega | (simp only [*, Bool.not_false, Bool.not_true]; first | done | fail) | (simp [*]; first | done | fail)) ?_ | refine aw_cf (by rfl) (by first | rfl | assumption | omega | (simp only [*, Bool.not_false, Bool.not_true]; first | done | fail) | (simp [*]; first | done | fail)) ?_ | refine aw_block ?_ | refine aw_region T0ok cfU_ok (by rfl) ?_ | refine aw_skip ?_ | refine aw_exit ?_ | refine ra_step ?_)); (repeat (first | (first | ((first | refine r_none ?_ | refine r_gt (by rfl) (by rfl) (by first | rfl | assumption | omega | (simp only [*, Bool.not_false, Bool.not_true]; first | done | fail) | (simp [*]; first | done | fail)) (by rfl) ?_ | refine r_gf (by rfl) (by rfl) (by first | rfl | assumption | omega | (simp only [*, Bool.not_false, Bool.not_true]; first | done | fail) | (simp [*]; first | done | fail)) (by rfl) ?_); (first | (first | refine r_slen (by rfl) Tryz.underlying9 (by rfl) ?_ | refine r_sidx (by rfl) (by rfl) Tryz.underlying9 (by omega) (by rfl) ?_ | refine r_spiece (by rfl) (by rfl) (by rfl) Tryz.underlying9 (.inr rfl) (.inr rfl) (by omega) (by rfl) ?_ | refine r_spiece (by rfl) (by rfl) (by rfl) Tryz.underlying9 (.inr rfl) (.inl ⟨rfl, rfl⟩) (by omega) (by rfl) ?_ | refine r_bsub (by rfl) (by rfl) (fun w => by rfl) (by omega) (by rfl) ?_ | refine r_b2i (by rfl) (fun w => by rfl) (by omega) (by rfl) ?_) | ((first | (refine z_op (by rfl) ?_; first | refine z_ok ?_ ?_ | refine z_ex ?_ (by first | exact ft_raw rfl rfl | ((first | refine ft_rp rfl rfl rfl ?_ | refine ft_row rfl rfl rfl ?_ | refine ft_rpF rfl rfl rfl ?_ | refine ft_rowF rfl rfl rfl ?_ | refine up_row rfl rfl ?_ | refine up_rowF rfl rfl rfl ?_ | refine ct_0 rfl ?_ | refine ct_r rfl rfl ?_ | refine ct_c rfl rfl rfl ?_ | refine cu_all rfl ?_ | refine cu_to rfl ?_ | refine cu_from rfl ?_ | refine cu_p rfl ?_ | fail); (first | omega | (simp only [List.length_append, List.length_replicate, List.length_cons, List.length_nil, List.length_set, List.length_take, List.length_drop, true_and]; omega))) | exact up_raw rfl | exact pk_t (by first | rfl | assumption | omega | (simp only [*, Bool.not_false, Bool.not_true]; first | done | fail) | (simp [*]; first | done | fail)) rfl | exact pk_f (by first | rfl | assumption | omega | (simp only [*, Bool.not_false, Bool.not_true]; first | done | fail) | (simp [*]; first | done | fail)) rfl | (first | exact rw_c (List UInt8) rfl) | exact rw_raw | exact pu_cv (fun w => rfl) (by omega) | exact pu_of (fun w => rfl) rfl | exact be_of (fun w => rfl) | exact nc_of (fun _ _ _ _ => rfl) rfl | exact bu_of (fun w => rfl) rfl | fail) ?_) | ((first | refine q_callE wsT wsZ (by rfl) ?_ | refine q_callVE wsT (by rfl) (by rfl) ?_); refine ⟨_, _, _, (by first | assumption | exact k_l1In _ _ _), _, by rfl, ?_, ?_⟩)); focus (first | exact trivial | fail | exact rfl | (first | omega | (simp only [List.length_append, List.length_replicate, List.length_cons, List.length_nil, List.length_set, List.length_take, List.length_drop, true_and]; omega)) | exact cvB (fun w => rfl) | ((repeat' (first | exact rfl | exact cV_len _ | exact cV_ln rfl (by omega) | exact Cel.pos | omega | exact trivial | refine And.intro ?_ ?_)); done) | (simp [*]; done) | (simp; omega))) | fail)) | refine r_nt (by rfl) (by rfl) (by first | rfl | assumption | omega | (simp only [*, Bool.not_false, Bool.not_true]; first | done | fail) | (simp [*]; first | done | fail)) (by rfl) ?_ | refine r_nf (by rfl) (by rfl) (by first | rfl | assumption | omega | (simp only [*, Bool.not_false, Bool.not_true]; first | done | fail) | (simp [*]; first | done | fail)) (by rfl) ?_ | refine r_gu (by rfl) (by rfl) (by rfl) ?_ | refine r_nil ?_) | (first | refine aw_seq ?_ | refine aw_ct (by rfl) (by first | rfl | assumption | omega | (simp only [*, Bool.not_false, Bool.not_true]; first | done | fail) | (simp [*]; first | done | fail)) ?_ | refine aw_cf (by rfl) (by first | rfl | assumption | omega | (simp only [*, Bool.not_false, Bool.not_true]; first | done | fail) | (simp [*]; first | done | fail)) ?_ | refine aw_block ?_ | refine aw_region T0ok cfU_ok (by rfl) ?_ | refine aw_skip ?_ | refine aw_exit ?_ | refine ra_step ?_))); exact hh.out)) : G := h ⟨k⟩
theorem ga_LI {H G : Prop} (k : H) (h : Hid H → G := by (intro hh; (first | refine r_none ?_ | refine r_gt (by rfl) (by rfl) (by first | rfl | assumption | omega | (simp only [*, Bool.not_false, Bool.not_true]; first | done | fail) | (simp [*]; first | done | fail)) (by rfl) ?_ | refine r_gf (by rfl) (by rfl) (by first | rfl | assumption | omega | (simp only [*, Bool.not_false, Bool.not_true]; first | done | fail) | (simp [*]; first | done | fail)) (by rfl) ?_); refine z_op (by rfl) ?_; refine z_alV ?_ hh.out; focus (first | exact trivial | fail | exact rfl | (first | omega | (simp only [List.length_append, List.length_replicate, List.length_cons, List.length_nil, List.length_set, List.length_take, List.length_drop, true_and]; omega)) | exact cvB (fun w => rfl) | ((repeat' (first | exact rfl | exact cV_len _ | exact cV_ln rfl (by omega) | exact Cel.pos | omega | exact trivial | refine And.intro ?_ ?_)); done) | (simp [*]; done) | (simp; omega)))) : G := h ⟨k⟩
abbrev sRow (l : List (List UInt8)) : Ent := rwE 9 l
abbrev vU (n : Int) : AV := .g (.one (.v (.int .u8 n)))
theorem take_snoc {s : List UInt8} {f k : Nat} (hf : f ≤ k) (hk : k < s.length) : (s.drop f).take (k + 1 - f) = (s.drop f).take (k - f) ++ [s.getD k 0] := by
  have h1 : k - f < (s.drop f).length := by rw [List.length_drop]; omega
  rw [show k + 1 - f = k - f + 1 by omega, List.take_add_one, List.getElem?_drop, show f + (k - f) = k by omega]
  simp [List.getD_eq_getElem?_getD, hk]
theorem drop_cons {s : List UInt8} {k : Nat} (hk : k < s.length) : s.drop k = s.getD k 0 :: s.drop (k + 1) := by
  rw [List.drop_eq_getElem_cons hk]
  simp [List.getD_eq_getElem?_getD, hk]
theorem u8_eq (b : UInt8) : ((b.toNat : Int) == 32) = (b == 32) := by
  rw [Bool.eq_iff_iff, beq_iff_eq, beq_iff_eq]
  constructor
  · intro h; exact UInt8.toNat_inj.1 (by have : (32 : UInt8).toNat = 32 := rfl; omega)
  · rintro rfl; rfl
set_option maxHeartbeats 2000000 in
theorem k_cut (s : List UInt8) (hs : s.length ≤ 7000000) : Kon Tryz.prog 34 [vS s, vU 32] [] (slA 0 0 (cutA 32 [] s)) [sRow (cutA 32 [] s)] [] := by
  (refine kon_mk T0ok (fn := Tryz.f34) (c := Tryz.f34.body.get rfl) Tryz.func34 rfl (by rfl) (by rfl) (by rfl) ?_; intro hfit hfe)
  (repeat (first | refine gq_LI ?_ | (refine ga_LI ?_; intro _hq)))
  (refine aw_rd [0, 1, 4] [] (fun g : Nat × Nat × Nat × List (List UInt8) => [(5, .g (.one (.sl 128 g.2.2.1 g.2.2.2.length))), (6, vI g.2.1), (7, vI g.1)]) (fun g => [(128, (g.2.2.1, sRow g.2.2.2))]) (fun g => g.1 ≤ s.length ∧ g.2.1 ≤ g.1 ∧ g.2.2.2.length ≤ g.1 ∧ g.2.2.2 ++ cutA 32 ((s.drop g.2.1).take (g.1 - g.2.1)) (s.drop g.1) = cutA 32 [] s) (fun g => s.length - g.1) (0, 0, 0, []) (by rfl) (by rfl) ?_ (by rfl) (by repeat (first | exact trivial | refine ⟨by rfl, ?_⟩ | refine ⟨vI_of (by rfl) (by omega), ?_⟩)) (by repeat (first | exact trivial | refine ⟨by rfl, ?_⟩ | refine ⟨vI_of (by rfl) (by omega), ?_⟩)) ?_)
  · exact ⟨Nat.zero_le _, Nat.le_refl _, Nat.le_refl _, rfl⟩
  rintro ⟨k, f, u, o⟩ ⟨h1, h2, h3, hz⟩
  dsimp only at h1 h2 h3 hz ⊢
  rcases Nat.lt_or_ge k s.length with h5 | h5
  · have hd : decide ((k : Int) < (s.length : Int)) = true := decide_eq_true (by omega)
    have hq := u8_eq (s.getD (k : Int).toNat 0)
    rw [drop_cons h5, cutA] at hz
    cases hb : (s.getD k 0 == 32) with
    | true =>
      rw [hb, if_pos rfl] at hz
      rw [show s.getD (k : Int).toNat 0 = s.getD k 0 from rfl, hb] at hq
      have hinv : k + 1 ≤ s.length ∧ k + 1 ≤ k + 1 ∧ (o ++ [(s.drop f).take (k - f)]).length ≤ k + 1 ∧ (o ++ [(s.drop f).take (k - f)]) ++ cutA 32 ((s.drop (k + 1)).take (k + 1 - (k + 1))) (s.drop (k + 1)) = cutA 32 [] s := by
        refine ⟨h5, Nat.le_refl _, by simp; omega, ?_⟩
        rw [Nat.sub_self, List.take_zero, List.append_assoc]; exact hz
      clear hz
      (repeat (first | refine gq_LI ?_ | (refine ga_LI ?_; intro _hq)))
      exact ⟨(k + 1, k + 1, u + 1, o ++ [(s.drop f).take (k - f)]), hinv, ⟨by rfl, (by repeat (first | exact trivial | refine ⟨by rfl, ?_⟩ | refine ⟨vI_of (by rfl) (by omega), ?_⟩)), (by repeat (first | exact trivial | refine ⟨by rfl, ?_⟩ | refine ⟨vI_of (by rfl) (by omega), ?_⟩))⟩, (by first | omega | (dsimp only; omega))⟩
    | false =>
      rw [hb, if_neg (by decide)] at hz
      rw [show s.getD (k : Int).toNat 0 = s.getD k 0 from rfl, hb] at hq
      have hinv : k + 1 ≤ s.length ∧ f ≤ k + 1 ∧ o.length ≤ k + 1 ∧ o ++ cutA 32 ((s.drop f).take (k + 1 - f)) (s.drop (k + 1)) = cutA 32 [] s := by
        refine ⟨h5, by omega, by omega, ?_⟩
        rw [take_snoc h2 h5]; exact hz
      clear hz
      (repeat (first | refine gq_LI ?_ | (refine ga_LI ?_; intro _hq)))
      exact ⟨(k + 1, f, u, o), hinv, ⟨by rfl, (by repeat (first | exact trivial | refine ⟨by rfl, ?_⟩ | refine ⟨vI_of (by rfl) (by omega), ?_⟩)), (by repeat (first | exact trivial | refine ⟨by rfl, ?_⟩ | refine ⟨vI_of (by rfl) (by omega), ?_⟩))⟩, (by first | omega | (dsimp only; omega))⟩
  · have hd : decide ((k : Int) < (s.length : Int)) = false := decide_eq_false (by omega)
    obtain rfl : k = s.length := by omega
    rw [List.drop_of_length_le (Nat.le_refl _), cutA] at hz
    rw [← hz]
    clear hz
    (repeat (first | refine gq_LI ?_ | (refine ga_LI ?_; intro _hq)))
    ((try refine aw_ret ?_); refine ret_auto2 (by rfl) (by rfl) (by rfl) (by repeat (first | exact trivial | refine ⟨by first | rfl | omega, ?_⟩)) ?_ (by repeat (first | exact trivial | refine ⟨by rfl, by rfl, ?_⟩)) (by repeat (first | exact trivial | refine ⟨by rfl, by rfl, ?_⟩)); try rfl)
theorem u8_lt (b : UInt8) : decide ((b.toNat : Int) < 48) = decide (b < 48) := by
  have h : (48 : UInt8).toNat = 48 := rfl
  by_cases hb : b < 48
  · rw [decide_eq_true hb]
    have := UInt8.lt_iff_toNat_lt.1 hb
    exact decide_eq_true (by omega)
  · rw [decide_eq_false hb]
    have : ¬ b.toNat < (48 : UInt8).toNat := fun h => hb (UInt8.lt_iff_toNat_lt.2 h)
    exact decide_eq_false (by omega)
theorem u8_gt (b : UInt8) : decide ((b.toNat : Int) > 57) = decide (b > 57) := by
  have h : (57 : UInt8).toNat = 57 := rfl
  by_cases hb : b > 57
  · rw [decide_eq_true hb]
    have := UInt8.lt_iff_toNat_lt.1 hb
    exact decide_eq_true (by omega)
  · rw [decide_eq_false hb]
    have : ¬ (57 : UInt8).toNat < b.toNat := fun h => hb (UInt8.lt_iff_toNat_lt.2 h)
    exact decide_eq_false (by omega)
theorem dgA_drop {s : List UInt8} {k : Nat} {m : Int} (hk : k < s.length) : dgA m (s.drop k) = if s.getD k 0 < 48 || s.getD k 0 > 57 then -1 else dgA (10 * m + (((s.getD k 0).toNat : Int) - 48)) (s.drop (k + 1)) := by
  rw [drop_cons hk, dgA]
theorem k_dig (s : List UInt8) : Kon Tryz.prog 35 [vS s] [] (vI (dgs s)) [] [] := by
  have hI := k_l1In (s.length : Int) 1 4
  cases hb : btw (s.length : Int) 1 4 with
  | false =>
    have e : dgs s = -1 := by
      have h1 : (decide (1 ≤ s.length) && decide (s.length ≤ 4)) = false := by
        rw [← hb]; unfold btw
        rw [Bool.eq_iff_iff]; simp; omega
      unfold dgs; rw [h1]; rfl
    rw [e]
    rw [hb] at hI
    (refine kon_mk T0ok (fn := Tryz.f35) (c := Tryz.f35.body.get rfl) Tryz.func35 rfl (by rfl) (by rfl) (by rfl) ?_; intro hfit hfe)
    (repeat (first | refine gq_LI ?_ | (refine ga_LI ?_; intro _hq)))
    ((try refine aw_ret ?_); refine ret_auto2 (by rfl) (by rfl) (by rfl) (by repeat (first | exact trivial | refine ⟨by first | rfl | omega, ?_⟩)) ?_ (by repeat (first | exact trivial | refine ⟨by rfl, by rfl, ?_⟩)) (by repeat (first | exact trivial | refine ⟨by rfl, by rfl, ?_⟩)); try rfl)
  | true =>
    have hl := btw_t hb
    rw [hb] at hI
    have h1 : (decide (1 ≤ s.length) && decide (s.length ≤ 4)) = true := by
      rw [← hb]; unfold btw
      rw [Bool.eq_iff_iff]; simp; omega
    have e : dgs s = if (decide (1 < s.length) && s.getD 0 0 == 48) = true then -1 else dgA 0 s := by
      unfold dgs; rw [h1]; rfl
    rw [e]
    clear e hb h1
    rcases Nat.lt_or_ge 1 s.length with h2 | h2
    · have hg : decide ((s.length : Int) > 1) = true := decide_eq_true (by omega)
      rw [decide_eq_true h2, Bool.true_and]
      have hq : (((s.getD (0 : Int).toNat 0).toNat : Int) == 48) = (s.getD 0 0 == 48) := by
        rw [Bool.eq_iff_iff, beq_iff_eq, beq_iff_eq]
        constructor
        · intro h; exact UInt8.toNat_inj.1 (by have : (48 : UInt8).toNat = 48 := rfl; have h' : ((s.getD 0 0).toNat : Int) = 48 := h; omega)
        · intro h; show ((s.getD 0 0).toNat : Int) = 48; rw [h]; rfl
      cases hz : (s.getD 0 0 == 48) with
      | true =>
        rw [hz] at hq
        rw [if_pos rfl]
        (refine kon_mk T0ok (fn := Tryz.f35) (c := Tryz.f35.body.get rfl) Tryz.func35 rfl (by rfl) (by rfl) (by rfl) ?_; intro hfit hfe)
        (repeat (first | refine gq_LI ?_ | (refine ga_LI ?_; intro _hq)))
        ((try refine aw_ret ?_); refine ret_auto2 (by rfl) (by rfl) (by rfl) (by repeat (first | exact trivial | refine ⟨by first | rfl | omega, ?_⟩)) ?_ (by repeat (first | exact trivial | refine ⟨by rfl, by rfl, ?_⟩)) (by repeat (first | exact trivial | refine ⟨by rfl, by rfl, ?_⟩)); try rfl)
      | false =>
        rw [hz] at hq
        rw [if_neg (by decide)]
        (refine kon_mk T0ok (fn := Tryz.f35) (c := Tryz.f35.body.get rfl) Tryz.func35 rfl (by rfl) (by rfl) (by rfl) ?_; intro hfit hfe)
        (repeat (first | refine gq_LI ?_ | (refine ga_LI ?_; intro _hq)))
        (refine aw_rd [0, 2] [] (fun g : Nat × Int => [(3, vI g.2), (4, vI g.1)]) (fun _ => []) (fun g => g.1 ≤ s.length ∧ (0 ≤ g.2 ∧ g.2 < 10 ^ g.1) ∧ dgA g.2 (s.drop g.1) = dgA 0 s) (fun g => s.length - g.1) (0, 0) (by rfl) (by rfl) ?_ (by rfl) (by repeat (first | exact trivial | refine ⟨by rfl, ?_⟩ | refine ⟨vI_of (by rfl) (by omega), ?_⟩)) (by repeat (first | exact trivial | refine ⟨by rfl, ?_⟩ | refine ⟨vI_of (by rfl) (by omega), ?_⟩)) ?_)
        · exact ⟨Nat.zero_le _, ⟨Int.le_refl _, by decide⟩, rfl⟩
        rintro ⟨k, m⟩ ⟨h3, h4, hz3⟩
        dsimp only at h3 h4 hz3 ⊢
        rcases Nat.lt_or_ge k s.length with h5 | h5
        · have hd : decide ((k : Int) < (s.length : Int)) = true := decide_eq_true (by omega)
          have hp : (10 : Int) ^ (k + 1) = 10 ^ k * 10 := Int.pow_succ 10 k
          have hp3 : (10 : Int) ^ k ≤ 1000 := by
            have : k = 0 ∨ k = 1 ∨ k = 2 ∨ k = 3 := by omega
            rcases this with rfl | rfl | rfl | rfl <;> decide
          have hlo := u8_lt (s.getD (k : Int).toNat 0)
          have hhi := u8_gt (s.getD (k : Int).toNat 0)
          rw [dgA_drop h5] at hz3
          rw [show s.getD (k : Int).toNat 0 = s.getD k 0 from rfl] at hlo hhi
          have hle := (s.getD k 0).toNat_lt
          cases hx : decide (s.getD k 0 < 48) with
          | true =>
            rw [hx] at hlo hz3
            rw [Bool.true_or, if_pos rfl] at hz3
            rw [← hz3]
            clear hz3
            (repeat (first | refine gq_LI ?_ | (refine ga_LI ?_; intro _hq)))
            ((try refine aw_ret ?_); refine ret_auto2 (by rfl) (by rfl) (by rfl) (by repeat (first | exact trivial | refine ⟨by first | rfl | omega, ?_⟩)) ?_ (by repeat (first | exact trivial | refine ⟨by rfl, by rfl, ?_⟩)) (by repeat (first | exact trivial | refine ⟨by rfl, by rfl, ?_⟩)); try rfl)
          | false =>
            rw [hx] at hlo hz3
            rw [Bool.false_or] at hz3
            cases hy : decide (s.getD k 0 > 57) with
            | true =>
              rw [hy] at hhi hz3
              rw [if_pos rfl] at hz3
              rw [← hz3]
              clear hz3
              (repeat (first | refine gq_LI ?_ | (refine ga_LI ?_; intro _hq)))
              ((try refine aw_ret ?_); refine ret_auto2 (by rfl) (by rfl) (by rfl) (by repeat (first | exact trivial | refine ⟨by first | rfl | omega, ?_⟩)) ?_ (by repeat (first | exact trivial | refine ⟨by rfl, by rfl, ?_⟩)) (by repeat (first | exact trivial | refine ⟨by rfl, by rfl, ?_⟩)); try rfl)
            | false =>
              rw [hy] at hhi hz3
              rw [if_neg (by decide)] at hz3
              have g1 := of_decide_eq_false hlo
              have g2 := of_decide_eq_false hhi
              have g3 : ¬ ((s.getD (k : Int).toNat 0).toNat : Int) < 48 := g1
              have g4 : ¬ ((s.getD (k : Int).toNat 0).toNat : Int) > 57 := g2
              have hinv : k + 1 ≤ s.length ∧ (0 ≤ 10 * m + (((s.getD k 0).toNat : Int) - 48) ∧ 10 * m + (((s.getD k 0).toNat : Int) - 48) < 10 ^ (k + 1)) ∧ dgA (10 * m + (((s.getD k 0).toNat : Int) - 48)) (s.drop (k + 1)) = dgA 0 s := ⟨h5, ⟨by omega, by omega⟩, hz3⟩
              clear hz3
              (repeat (first | refine gq_LI ?_ | (refine ga_LI ?_; intro _hq)))
              exact ⟨(k + 1, 10 * m + (((s.getD k 0).toNat : Int) - 48)), hinv, ⟨by rfl, (by repeat (first | exact trivial | refine ⟨by rfl, ?_⟩ | refine ⟨vI_of (by rfl) (by omega), ?_⟩)), (by repeat (first | exact trivial | refine ⟨by rfl, ?_⟩ | refine ⟨vI_of (by rfl) (by omega), ?_⟩))⟩, (by first | omega | (dsimp only; omega))⟩
        · have hd : decide ((k : Int) < (s.length : Int)) = false := decide_eq_false (by omega)
          obtain rfl : k = s.length := by omega
          rw [List.drop_of_length_le (Nat.le_refl _), dgA] at hz3
          rw [← hz3]
          clear hz3
          (repeat (first | refine gq_LI ?_ | (refine ga_LI ?_; intro _hq)))
          ((try refine aw_ret ?_); refine ret_auto2 (by rfl) (by rfl) (by rfl) (by repeat (first | exact trivial | refine ⟨by first | rfl | omega, ?_⟩)) ?_ (by repeat (first | exact trivial | refine ⟨by rfl, by rfl, ?_⟩)) (by repeat (first | exact trivial | refine ⟨by rfl, by rfl, ?_⟩)); try rfl)
    · have hg : decide ((s.length : Int) > 1) = false := decide_eq_false (by omega)
      rw [decide_eq_false (by omega), Bool.false_and, if_neg (by decide)]
      (refine kon_mk T0ok (fn := Tryz.f35) (c := Tryz.f35.body.get rfl) Tryz.func35 rfl (by rfl) (by rfl) (by rfl) ?_; intro hfit hfe)
      (repeat (first | refine gq_LI ?_ | (refine ga_LI ?_; intro _hq)))
      (refine aw_rd [0, 2] [] (fun g : Nat × Int => [(3, vI g.2), (4, vI g.1)]) (fun _ => []) (fun g => g.1 ≤ s.length ∧ (0 ≤ g.2 ∧ g.2 < 10 ^ g.1) ∧ dgA g.2 (s.drop g.1) = dgA 0 s) (fun g => s.length - g.1) (0, 0) (by rfl) (by rfl) ?_ (by rfl) (by repeat (first | exact trivial | refine ⟨by rfl, ?_⟩ | refine ⟨vI_of (by rfl) (by omega), ?_⟩)) (by repeat (first | exact trivial | refine ⟨by rfl, ?_⟩ | refine ⟨vI_of (by rfl) (by omega), ?_⟩)) ?_)
      · exact ⟨Nat.zero_le _, ⟨Int.le_refl _, by decide⟩, rfl⟩
      rintro ⟨k, m⟩ ⟨h3, h4, hz3⟩
      dsimp only at h3 h4 hz3 ⊢
      rcases Nat.lt_or_ge k s.length with h5 | h5
      · have hd : decide ((k : Int) < (s.length : Int)) = true := decide_eq_true (by omega)
        have hp : (10 : Int) ^ (k + 1) = 10 ^ k * 10 := Int.pow_succ 10 k
        have hp3 : (10 : Int) ^ k ≤ 1000 := by
          have : k = 0 ∨ k = 1 ∨ k = 2 ∨ k = 3 := by omega
          rcases this with rfl | rfl | rfl | rfl <;> decide
        have hlo := u8_lt (s.getD (k : Int).toNat 0)
        have hhi := u8_gt (s.getD (k : Int).toNat 0)
        rw [dgA_drop h5] at hz3
        rw [show s.getD (k : Int).toNat 0 = s.getD k 0 from rfl] at hlo hhi
        have hle := (s.getD k 0).toNat_lt
        cases hx : decide (s.getD k 0 < 48) with
        | true =>
          rw [hx] at hlo hz3
          rw [Bool.true_or, if_pos rfl] at hz3
          rw [← hz3]
          clear hz3
          (repeat (first | refine gq_LI ?_ | (refine ga_LI ?_; intro _hq)))
          ((try refine aw_ret ?_); refine ret_auto2 (by rfl) (by rfl) (by rfl) (by repeat (first | exact trivial | refine ⟨by first | rfl | omega, ?_⟩)) ?_ (by repeat (first | exact trivial | refine ⟨by rfl, by rfl, ?_⟩)) (by repeat (first | exact trivial | refine ⟨by rfl, by rfl, ?_⟩)); try rfl)
        | false =>
          rw [hx] at hlo hz3
          rw [Bool.false_or] at hz3
          cases hy : decide (s.getD k 0 > 57) with
          | true =>
            rw [hy] at hhi hz3
            rw [if_pos rfl] at hz3
            rw [← hz3]
            clear hz3
            (repeat (first | refine gq_LI ?_ | (refine ga_LI ?_; intro _hq)))
            ((try refine aw_ret ?_); refine ret_auto2 (by rfl) (by rfl) (by rfl) (by repeat (first | exact trivial | refine ⟨by first | rfl | omega, ?_⟩)) ?_ (by repeat (first | exact trivial | refine ⟨by rfl, by rfl, ?_⟩)) (by repeat (first | exact trivial | refine ⟨by rfl, by rfl, ?_⟩)); try rfl)
          | false =>
            rw [hy] at hhi hz3
            rw [if_neg (by decide)] at hz3
            have g1 := of_decide_eq_false hlo
            have g2 := of_decide_eq_false hhi
            have g3 : ¬ ((s.getD (k : Int).toNat 0).toNat : Int) < 48 := g1
            have g4 : ¬ ((s.getD (k : Int).toNat 0).toNat : Int) > 57 := g2
            have hinv : k + 1 ≤ s.length ∧ (0 ≤ 10 * m + (((s.getD k 0).toNat : Int) - 48) ∧ 10 * m + (((s.getD k 0).toNat : Int) - 48) < 10 ^ (k + 1)) ∧ dgA (10 * m + (((s.getD k 0).toNat : Int) - 48)) (s.drop (k + 1)) = dgA 0 s := ⟨h5, ⟨by omega, by omega⟩, hz3⟩
            clear hz3
            (repeat (first | refine gq_LI ?_ | (refine ga_LI ?_; intro _hq)))
            exact ⟨(k + 1, 10 * m + (((s.getD k 0).toNat : Int) - 48)), hinv, ⟨by rfl, (by repeat (first | exact trivial | refine ⟨by rfl, ?_⟩ | refine ⟨vI_of (by rfl) (by omega), ?_⟩)), (by repeat (first | exact trivial | refine ⟨by rfl, ?_⟩ | refine ⟨vI_of (by rfl) (by omega), ?_⟩))⟩, (by first | omega | (dsimp only; omega))⟩
      · have hd : decide ((k : Int) < (s.length : Int)) = false := decide_eq_false (by omega)
        obtain rfl : k = s.length := by omega
        rw [List.drop_of_length_le (Nat.le_refl _), dgA] at hz3
        rw [← hz3]
        clear hz3
        (repeat (first | refine gq_LI ?_ | (refine ga_LI ?_; intro _hq)))
        ((try refine aw_ret ?_); refine ret_auto2 (by rfl) (by rfl) (by rfl) (by repeat (first | exact trivial | refine ⟨by first | rfl | omega, ?_⟩)) ?_ (by repeat (first | exact trivial | refine ⟨by rfl, by rfl, ?_⟩)) (by repeat (first | exact trivial | refine ⟨by rfl, by rfl, ?_⟩)); try rfl)
end Go.Proofs.YtgphlcdinejmdaaGreatDoor

/- ReadGate of the reference. -/
namespace Go.Proofs.YtgphlcdinejmdaaGreatDoor
set_option linter.unusedVariables false
set_option linter.unusedSimpArgs false
set_option maxRecDepth 20000
open Go.RowKit
open Go.Lib (decDigits)
attribute [local irreducible] runA runX AW
theorem gq_DR {H G : Prop} (k : H) (h : Hid H → G := by (intro hh; (first | (first | ((first | refine r_none ?_ | refine r_gt (by rfl) (by rfl) (by first | rfl | assumption | omega | (simp only [*, Bool.not_false, Bool.not_true]; first | done | fail) | (simp [*]; first | done | fail)) (by rfl) ?_ | refine r_gf (by rfl) (by rfl) (by first | rfl | assumption | omega | (simp only [*, Bool.not_false, Bool.not_true]; first | done | fail) | (simp [*]; first | done | fail)) (by rfl) ?_); (first | (first | refine r_seq (by rfl) (by rfl) (by rfl) ?_ | refine r_sne (by rfl) (by rfl) (by rfl) ?_) | ((first | (refine z_op (by rfl) ?_; first | refine z_ok ?_ ?_ | refine z_ex ?_ (by first | exact ft_raw rfl rfl | ((first | refine ft_rp rfl rfl rfl ?_ | refine ft_row rfl rfl rfl ?_ | refine ft_rpF rfl rfl rfl ?_ | refine ft_rowF rfl rfl rfl ?_ | refine up_row rfl rfl ?_ | refine up_rowF rfl rfl rfl ?_ | refine ct_0 rfl ?_ | refine ct_r rfl rfl ?_ | refine ct_c rfl rfl rfl ?_ | refine cu_all rfl ?_ | refine cu_to rfl ?_ | refine cu_from rfl ?_ | refine cu_p rfl ?_ | fail); (first | omega | (simp only [List.length_append, List.length_replicate, List.length_cons, List.length_nil, List.length_set, List.length_take, List.length_drop, true_and]; omega))) | exact up_raw rfl | exact pk_t (by first | rfl | assumption | omega | (simp only [*, Bool.not_false, Bool.not_true]; first | done | fail) | (simp [*]; first | done | fail)) rfl | exact pk_f (by first | rfl | assumption | omega | (simp only [*, Bool.not_false, Bool.not_true]; first | done | fail) | (simp [*]; first | done | fail)) rfl | (first | exact rw_c Int rfl) | exact rw_raw | exact pu_cv (fun w => rfl) (by omega) | exact pu_of (fun w => rfl) rfl | exact be_of (fun w => rfl) | exact nc_of (fun _ _ _ _ => rfl) rfl | exact bu_of (fun w => rfl) rfl | fail) ?_) | ((first | refine q_callE wsT wsZ (by rfl) ?_ | refine q_callVE wsT (by rfl) (by rfl) ?_); refine ⟨_, _, _, (by first | assumption), _, by rfl, ?_, ?_⟩)); focus (first | exact trivial | fail | exact rfl | (first | omega | (simp only [List.length_append, List.length_replicate, List.length_cons, List.length_nil, List.length_set, List.length_take, List.length_drop, true_and]; omega)) | exact cvB (fun w => rfl) | ((repeat' (first | exact rfl | exact cV_len _ | exact cV_ln rfl (by omega) | exact Cel.pos | omega | exact trivial | refine And.intro ?_ ?_)); done) | (simp [*]; done) | (simp; omega))) | fail)) | refine r_nt (by rfl) (by rfl) (by first | rfl | assumption | omega | (simp only [*, Bool.not_false, Bool.not_true]; first | done | fail) | (simp [*]; first | done | fail)) (by rfl) ?_ | refine r_nf (by rfl) (by rfl) (by first | rfl | assumption | omega | (simp only [*, Bool.not_false, Bool.not_true]; first | done | fail) | (simp [*]; first | done | fail)) (by rfl) ?_ | refine r_gu (by rfl) (by rfl) (by rfl) ?_ | refine r_nil ?_) | (first | refine aw_seq ?_ | refine aw_ct (by rfl) (by first | rfl | assumption | omega | (simp only [*, Bool.not_false, Bool.not_true]; first | done | fail) | (simp [*]; first | done | fail)) ?_ | refine aw_cf (by rfl) (by first | rfl | assumption | omega | (simp only [*, Bool.not_false, Bool.not_true]; first | done | fail) | (simp [*]; first | done | fail)) ?_ | refine aw_block ?_ | refine aw_region T0ok cfU_ok (by rfl) ?_ | refine aw_skip ?_ | refine aw_exit ?_ | refine ra_step ?_)); (repeat (first | (first | ((first | refine r_none ?_ | refine r_gt (by rfl) (by rfl) (by first | rfl | assumption | omega | (simp only [*, Bool.not_false, Bool.not_true]; first | done | fail) | (simp [*]; first | done | fail)) (by rfl) ?_ | refine r_gf (by rfl) (by rfl) (by first | rfl | assumption | omega | (simp only [*, Bool.not_false, Bool.not_true]; first | done | fail) | (simp [*]; first | done | fail)) (by rfl) ?_); (first | (first | refine r_seq (by rfl) (by rfl) (by rfl) ?_ | refine r_sne (by rfl) (by rfl) (by rfl) ?_) | ((first | (refine z_op (by rfl) ?_; first | refine z_ok ?_ ?_ | refine z_ex ?_ (by first | exact ft_raw rfl rfl | ((first | refine ft_rp rfl rfl rfl ?_ | refine ft_row rfl rfl rfl ?_ | refine ft_rpF rfl rfl rfl ?_ | refine ft_rowF rfl rfl rfl ?_ | refine up_row rfl rfl ?_ | refine up_rowF rfl rfl rfl ?_ | refine ct_0 rfl ?_ | refine ct_r rfl rfl ?_ | refine ct_c rfl rfl rfl ?_ | refine cu_all rfl ?_ | refine cu_to rfl ?_ | refine cu_from rfl ?_ | refine cu_p rfl ?_ | fail); (first | omega | (simp only [List.length_append, List.length_replicate, List.length_cons, List.length_nil, List.length_set, List.length_take, List.length_drop, true_and]; omega))) | exact up_raw rfl | exact pk_t (by first | rfl | assumption | omega | (simp only [*, Bool.not_false, Bool.not_true]; first | done | fail) | (simp [*]; first | done | fail)) rfl | exact pk_f (by first | rfl | assumption | omega | (simp only [*, Bool.not_false, Bool.not_true]; first | done | fail) | (simp [*]; first | done | fail)) rfl | (first | exact rw_c Int rfl) | exact rw_raw | exact pu_cv (fun w => rfl) (by omega) | exact pu_of (fun w => rfl) rfl | exact be_of (fun w => rfl) | exact nc_of (fun _ _ _ _ => rfl) rfl | exact bu_of (fun w => rfl) rfl | fail) ?_) | ((first | refine q_callE wsT wsZ (by rfl) ?_ | refine q_callVE wsT (by rfl) (by rfl) ?_); refine ⟨_, _, _, (by first | assumption), _, by rfl, ?_, ?_⟩)); focus (first | exact trivial | fail | exact rfl | (first | omega | (simp only [List.length_append, List.length_replicate, List.length_cons, List.length_nil, List.length_set, List.length_take, List.length_drop, true_and]; omega)) | exact cvB (fun w => rfl) | ((repeat' (first | exact rfl | exact cV_len _ | exact cV_ln rfl (by omega) | exact Cel.pos | omega | exact trivial | refine And.intro ?_ ?_)); done) | (simp [*]; done) | (simp; omega))) | fail)) | refine r_nt (by rfl) (by rfl) (by first | rfl | assumption | omega | (simp only [*, Bool.not_false, Bool.not_true]; first | done | fail) | (simp [*]; first | done | fail)) (by rfl) ?_ | refine r_nf (by rfl) (by rfl) (by first | rfl | assumption | omega | (simp only [*, Bool.not_false, Bool.not_true]; first | done | fail) | (simp [*]; first | done | fail)) (by rfl) ?_ | refine r_gu (by rfl) (by rfl) (by rfl) ?_ | refine r_nil ?_) | (first | refine aw_seq ?_ | refine aw_ct (by rfl) (by first | rfl | assumption | omega | (simp only [*, Bool.not_false, Bool.not_true]; first | done | fail) | (simp [*]; first | done | fail)) ?_ | refine aw_cf (by rfl) (by first | rfl | assumption | omega | (simp only [*, Bool.not_false, Bool.not_true]; first | done | fail) | (simp [*]; first | done | fail)) ?_ | refine aw_block ?_ | refine aw_region T0ok cfU_ok (by rfl) ?_ | refine aw_skip ?_ | refine aw_exit ?_ | refine ra_step ?_))); exact hh.out)) : G := h ⟨k⟩
theorem ga_DR {H G : Prop} (k : H) (h : Hid H → G := by (intro hh; (first | refine r_none ?_ | refine r_gt (by rfl) (by rfl) (by first | rfl | assumption | omega | (simp only [*, Bool.not_false, Bool.not_true]; first | done | fail) | (simp [*]; first | done | fail)) (by rfl) ?_ | refine r_gf (by rfl) (by rfl) (by first | rfl | assumption | omega | (simp only [*, Bool.not_false, Bool.not_true]; first | done | fail) | (simp [*]; first | done | fail)) (by rfl) ?_); refine z_op (by rfl) ?_; refine z_alV ?_ hh.out; focus (first | exact trivial | fail | exact rfl | (first | omega | (simp only [List.length_append, List.length_replicate, List.length_cons, List.length_nil, List.length_set, List.length_take, List.length_drop, true_and]; omega)) | exact cvB (fun w => rfl) | ((repeat' (first | exact rfl | exact cV_len _ | exact cV_ln rfl (by omega) | exact Cel.pos | omega | exact trivial | refine And.intro ?_ ?_)); done) | (simp [*]; done) | (simp; omega)))) : G := h ⟨k⟩
theorem gd_DR {H G : Prop} (k : H) (h : Hid H → G := by (intro hh; (refine aw_draw mixed T0ok cfU_ok [] (by rfl) (by kernel_rfl) ?_); exact hh.out)) : G := h ⟨k⟩
abbrev tupG (g : Gt) (b : Bool) : AV := .tup [.agg (gCs g), .one (.v (.bool b))]
set_option maxHeartbeats 4000000 in
theorem k_rgStrue (s : List UInt8) (hs : s.length ≤ 7000000) (hne : (s == []) = false) (ht : (!(gtx (rdS s) == s)) = true) : Kon Tryz.prog 36 [vS s] [] (tupG (if true = true then g0 else rdS s) (!true)) [] [] := by
  have hC := k_cut s hs
  unfold rdS at ht ⊢
  have hw := (cutA_len 32 s []).1
  generalize cutA 32 [] s = ws at *
  have hG := k_gtS ⟨kfd (ws.getD 0 []), wdD ws 1, wdD ws 2, wdD ws 3⟩
  rw [← kft_5 (ws.getD 0 [])] at ht hG ⊢
  have hA := k_dig (ws.getD (1 : Int).toNat Cel.no)
  have hB := k_dig (ws.getD (2 : Int).toNat Cel.no)
  have hD := k_dig (ws.getD (3 : Int).toNat Cel.no)
  (refine kon_mk T0ok (fn := Tryz.f36) (c := Tryz.f36.body.get rfl) Tryz.func36 rfl (by rfl) (by rfl) (by rfl) ?_; intro hfit hfe)
  (repeat (first | refine gq_DR ?_ | (refine ga_DR ?_; intro _hq) | refine gd_DR ?_))
  (refine aw_rd [0, 2, 3, 4, 5, 6] [32, 160, 176] (fun g : Nat × Int => [(7, vI g.1)]) (fun g => [(96, (0, .box (gCs ⟨g.2, 0, 0, 0⟩)))]) (fun g => g.1 ≤ 5 ∧ g.2 = kft (ws.getD 0 []) g.1) (fun g => 5 - g.1) (0, -1) (by rfl) (by rfl) ?_ (by rfl) (by repeat (first | exact trivial | refine ⟨by rfl, ?_⟩ | refine ⟨vI_of (by rfl) (by omega), ?_⟩)) (by repeat (first | exact trivial | refine ⟨by rfl, ?_⟩ | refine ⟨vI_of (by rfl) (by omega), ?_⟩)) ?_)
  · exact ⟨Nat.zero_le _, rfl⟩
  rintro ⟨j, kk⟩ ⟨hj, ek⟩
  dsimp only at hj ek ⊢
  rcases Nat.lt_or_ge j 5 with h1 | h1
  · have hd : decide ((j : Int) ≤ 4) = true := decide_eq_true (by omega)
    have hK := k_kindS (j : Int) (by omega)
    have ek2 : kft (ws.getD 0 []) (j + 1) = if (ws.getD 0 [] == gnm (j : Int)) = true then (j : Int) else kft (ws.getD 0 []) j := rfl
    cases hb : (ws.getD 0 [] == gnm (j : Int)) with
    | true =>
      rw [hb, if_pos rfl] at ek2
      have hinv : j + 1 ≤ 5 ∧ (j : Int) = kft (ws.getD 0 []) (j + 1) := ⟨h1, ek2.symm⟩
      replace hb : (ws.getD (0 : Int).toNat Cel.no == gnm (j : Int)) = true := hb
      (repeat (first | refine gq_DR ?_ | (refine ga_DR ?_; intro _hq) | refine gd_DR ?_))
      exact ⟨(j + 1, (j : Int)), hinv, ⟨by rfl, (by repeat (first | exact trivial | refine ⟨by rfl, ?_⟩ | refine ⟨vI_of (by rfl) (by omega), ?_⟩)), (by repeat (first | exact trivial | refine ⟨by rfl, ?_⟩ | refine ⟨vI_of (by rfl) (by omega), ?_⟩))⟩, (by first | omega | (dsimp only; omega))⟩
    | false =>
      rw [hb, if_neg (by decide)] at ek2
      have hinv : j + 1 ≤ 5 ∧ kk = kft (ws.getD 0 []) (j + 1) := ⟨h1, ek.trans ek2.symm⟩
      replace hb : (ws.getD (0 : Int).toNat Cel.no == gnm (j : Int)) = false := hb
      (repeat (first | refine gq_DR ?_ | (refine ga_DR ?_; intro _hq) | refine gd_DR ?_))
      exact ⟨(j + 1, kk), hinv, ⟨by rfl, (by repeat (first | exact trivial | refine ⟨by rfl, ?_⟩ | refine ⟨vI_of (by rfl) (by omega), ?_⟩)), (by repeat (first | exact trivial | refine ⟨by rfl, ?_⟩ | refine ⟨vI_of (by rfl) (by omega), ?_⟩))⟩, (by first | omega | (dsimp only; omega))⟩
  · obtain rfl : j = 5 := by omega
    have hd : decide (((5 : Nat) : Int) ≤ 4) = false := by decide
    rw [← ek] at ht hG ⊢
    have hl1 : 1 ≤ ws.length := hw
    rcases Nat.lt_or_ge 1 ws.length with l1 | l1
    · have d1 : decide ((1 : Int) < (ws.length : Int)) = true := decide_eq_true (by omega)
      rw [show wdD ws 1 = dgs (ws.getD 1 []) from if_pos l1] at ht hG ⊢
      rcases Nat.lt_or_ge 2 ws.length with l2 | l2
      · have d2 : decide ((1 + 1 : Int) < (ws.length : Int)) = true := decide_eq_true (by omega)
        rw [show wdD ws 2 = dgs (ws.getD 2 []) from if_pos l2] at ht hG ⊢
        rcases Nat.lt_or_ge 3 ws.length with l3 | l3
        · have d3 : decide ((1 + 1 + 1 : Int) < (ws.length : Int)) = true := decide_eq_true (by omega)
          rw [show wdD ws 3 = dgs (ws.getD 3 []) from if_pos l3] at ht hG ⊢
          rcases Nat.lt_or_ge 4 ws.length with l4 | l4
          · have d4 : decide ((1 + 1 + 1 + 1 : Int) < (ws.length : Int)) = true := decide_eq_true (by omega)
            (repeat (first | refine gq_DR ?_ | (refine ga_DR ?_; intro _hq) | refine gd_DR ?_))
            refine aw_unroll 4 ?_
            (repeat (first | refine gq_DR ?_ | (refine ga_DR ?_; intro _hq) | refine gd_DR ?_))
            ((try refine aw_ret ?_); refine ret_auto2 (by rfl) (by rfl) (by rfl) (by repeat (first | exact trivial | refine ⟨by first | rfl | omega, ?_⟩)) ?_ (by repeat (first | exact trivial | refine ⟨by rfl, by rfl, ?_⟩)) (by repeat (first | exact trivial | refine ⟨by rfl, by rfl, ?_⟩)); try rfl)
          · have d4 : decide ((1 + 1 + 1 + 1 : Int) < (ws.length : Int)) = false := decide_eq_false (by omega)
            (repeat (first | refine gq_DR ?_ | (refine ga_DR ?_; intro _hq) | refine gd_DR ?_))
            refine aw_unroll 4 ?_
            (repeat (first | refine gq_DR ?_ | (refine ga_DR ?_; intro _hq) | refine gd_DR ?_))
            ((try refine aw_ret ?_); refine ret_auto2 (by rfl) (by rfl) (by rfl) (by repeat (first | exact trivial | refine ⟨by first | rfl | omega, ?_⟩)) ?_ (by repeat (first | exact trivial | refine ⟨by rfl, by rfl, ?_⟩)) (by repeat (first | exact trivial | refine ⟨by rfl, by rfl, ?_⟩)); try rfl)
        · have d3 : decide ((1 + 1 + 1 : Int) < (ws.length : Int)) = false := decide_eq_false (by omega)
          rw [show wdD ws 3 = 0 from if_neg (by omega)] at ht hG ⊢
          (repeat (first | refine gq_DR ?_ | (refine ga_DR ?_; intro _hq) | refine gd_DR ?_))
          refine aw_unroll 4 ?_
          (repeat (first | refine gq_DR ?_ | (refine ga_DR ?_; intro _hq) | refine gd_DR ?_))
          ((try refine aw_ret ?_); refine ret_auto2 (by rfl) (by rfl) (by rfl) (by repeat (first | exact trivial | refine ⟨by first | rfl | omega, ?_⟩)) ?_ (by repeat (first | exact trivial | refine ⟨by rfl, by rfl, ?_⟩)) (by repeat (first | exact trivial | refine ⟨by rfl, by rfl, ?_⟩)); try rfl)
      · have d2 : decide ((1 + 1 : Int) < (ws.length : Int)) = false := decide_eq_false (by omega)
        rw [show wdD ws 2 = 0 from if_neg (by omega), show wdD ws 3 = 0 from if_neg (by omega)] at ht hG ⊢
        (repeat (first | refine gq_DR ?_ | (refine ga_DR ?_; intro _hq) | refine gd_DR ?_))
        refine aw_unroll 4 ?_
        (repeat (first | refine gq_DR ?_ | (refine ga_DR ?_; intro _hq) | refine gd_DR ?_))
        ((try refine aw_ret ?_); refine ret_auto2 (by rfl) (by rfl) (by rfl) (by repeat (first | exact trivial | refine ⟨by first | rfl | omega, ?_⟩)) ?_ (by repeat (first | exact trivial | refine ⟨by rfl, by rfl, ?_⟩)) (by repeat (first | exact trivial | refine ⟨by rfl, by rfl, ?_⟩)); try rfl)
    · have d1 : decide ((1 : Int) < (ws.length : Int)) = false := decide_eq_false (by omega)
      rw [show wdD ws 1 = 0 from if_neg (by omega), show wdD ws 2 = 0 from if_neg (by omega), show wdD ws 3 = 0 from if_neg (by omega)] at ht hG ⊢
      (repeat (first | refine gq_DR ?_ | (refine ga_DR ?_; intro _hq) | refine gd_DR ?_))
      refine aw_unroll 4 ?_
      (repeat (first | refine gq_DR ?_ | (refine ga_DR ?_; intro _hq) | refine gd_DR ?_))
      ((try refine aw_ret ?_); refine ret_auto2 (by rfl) (by rfl) (by rfl) (by repeat (first | exact trivial | refine ⟨by first | rfl | omega, ?_⟩)) ?_ (by repeat (first | exact trivial | refine ⟨by rfl, by rfl, ?_⟩)) (by repeat (first | exact trivial | refine ⟨by rfl, by rfl, ?_⟩)); try rfl)
set_option maxHeartbeats 4000000 in
theorem k_rgSfalse (s : List UInt8) (hs : s.length ≤ 7000000) (hne : (s == []) = false) (ht : (!(gtx (rdS s) == s)) = false) : Kon Tryz.prog 36 [vS s] [] (tupG (if false = true then g0 else rdS s) (!false)) [] [] := by
  have hC := k_cut s hs
  unfold rdS at ht ⊢
  have hw := (cutA_len 32 s []).1
  generalize cutA 32 [] s = ws at *
  have hG := k_gtS ⟨kfd (ws.getD 0 []), wdD ws 1, wdD ws 2, wdD ws 3⟩
  rw [← kft_5 (ws.getD 0 [])] at ht hG ⊢
  have hA := k_dig (ws.getD (1 : Int).toNat Cel.no)
  have hB := k_dig (ws.getD (2 : Int).toNat Cel.no)
  have hD := k_dig (ws.getD (3 : Int).toNat Cel.no)
  (refine kon_mk T0ok (fn := Tryz.f36) (c := Tryz.f36.body.get rfl) Tryz.func36 rfl (by rfl) (by rfl) (by rfl) ?_; intro hfit hfe)
  (repeat (first | refine gq_DR ?_ | (refine ga_DR ?_; intro _hq) | refine gd_DR ?_))
  (refine aw_rd [0, 2, 3, 4, 5, 6] [32, 160, 176] (fun g : Nat × Int => [(7, vI g.1)]) (fun g => [(96, (0, .box (gCs ⟨g.2, 0, 0, 0⟩)))]) (fun g => g.1 ≤ 5 ∧ g.2 = kft (ws.getD 0 []) g.1) (fun g => 5 - g.1) (0, -1) (by rfl) (by rfl) ?_ (by rfl) (by repeat (first | exact trivial | refine ⟨by rfl, ?_⟩ | refine ⟨vI_of (by rfl) (by omega), ?_⟩)) (by repeat (first | exact trivial | refine ⟨by rfl, ?_⟩ | refine ⟨vI_of (by rfl) (by omega), ?_⟩)) ?_)
  · exact ⟨Nat.zero_le _, rfl⟩
  rintro ⟨j, kk⟩ ⟨hj, ek⟩
  dsimp only at hj ek ⊢
  rcases Nat.lt_or_ge j 5 with h1 | h1
  · have hd : decide ((j : Int) ≤ 4) = true := decide_eq_true (by omega)
    have hK := k_kindS (j : Int) (by omega)
    have ek2 : kft (ws.getD 0 []) (j + 1) = if (ws.getD 0 [] == gnm (j : Int)) = true then (j : Int) else kft (ws.getD 0 []) j := rfl
    cases hb : (ws.getD 0 [] == gnm (j : Int)) with
    | true =>
      rw [hb, if_pos rfl] at ek2
      have hinv : j + 1 ≤ 5 ∧ (j : Int) = kft (ws.getD 0 []) (j + 1) := ⟨h1, ek2.symm⟩
      replace hb : (ws.getD (0 : Int).toNat Cel.no == gnm (j : Int)) = true := hb
      (repeat (first | refine gq_DR ?_ | (refine ga_DR ?_; intro _hq) | refine gd_DR ?_))
      exact ⟨(j + 1, (j : Int)), hinv, ⟨by rfl, (by repeat (first | exact trivial | refine ⟨by rfl, ?_⟩ | refine ⟨vI_of (by rfl) (by omega), ?_⟩)), (by repeat (first | exact trivial | refine ⟨by rfl, ?_⟩ | refine ⟨vI_of (by rfl) (by omega), ?_⟩))⟩, (by first | omega | (dsimp only; omega))⟩
    | false =>
      rw [hb, if_neg (by decide)] at ek2
      have hinv : j + 1 ≤ 5 ∧ kk = kft (ws.getD 0 []) (j + 1) := ⟨h1, ek.trans ek2.symm⟩
      replace hb : (ws.getD (0 : Int).toNat Cel.no == gnm (j : Int)) = false := hb
      (repeat (first | refine gq_DR ?_ | (refine ga_DR ?_; intro _hq) | refine gd_DR ?_))
      exact ⟨(j + 1, kk), hinv, ⟨by rfl, (by repeat (first | exact trivial | refine ⟨by rfl, ?_⟩ | refine ⟨vI_of (by rfl) (by omega), ?_⟩)), (by repeat (first | exact trivial | refine ⟨by rfl, ?_⟩ | refine ⟨vI_of (by rfl) (by omega), ?_⟩))⟩, (by first | omega | (dsimp only; omega))⟩
  · obtain rfl : j = 5 := by omega
    have hd : decide (((5 : Nat) : Int) ≤ 4) = false := by decide
    rw [← ek] at ht hG ⊢
    have hl1 : 1 ≤ ws.length := hw
    rcases Nat.lt_or_ge 1 ws.length with l1 | l1
    · have d1 : decide ((1 : Int) < (ws.length : Int)) = true := decide_eq_true (by omega)
      rw [show wdD ws 1 = dgs (ws.getD 1 []) from if_pos l1] at ht hG ⊢
      rcases Nat.lt_or_ge 2 ws.length with l2 | l2
      · have d2 : decide ((1 + 1 : Int) < (ws.length : Int)) = true := decide_eq_true (by omega)
        rw [show wdD ws 2 = dgs (ws.getD 2 []) from if_pos l2] at ht hG ⊢
        rcases Nat.lt_or_ge 3 ws.length with l3 | l3
        · have d3 : decide ((1 + 1 + 1 : Int) < (ws.length : Int)) = true := decide_eq_true (by omega)
          rw [show wdD ws 3 = dgs (ws.getD 3 []) from if_pos l3] at ht hG ⊢
          rcases Nat.lt_or_ge 4 ws.length with l4 | l4
          · have d4 : decide ((1 + 1 + 1 + 1 : Int) < (ws.length : Int)) = true := decide_eq_true (by omega)
            (repeat (first | refine gq_DR ?_ | (refine ga_DR ?_; intro _hq) | refine gd_DR ?_))
            refine aw_unroll 4 ?_
            (repeat (first | refine gq_DR ?_ | (refine ga_DR ?_; intro _hq) | refine gd_DR ?_))
            ((try refine aw_ret ?_); refine ret_auto2 (by rfl) (by rfl) (by rfl) (by repeat (first | exact trivial | refine ⟨by first | rfl | omega, ?_⟩)) ?_ (by repeat (first | exact trivial | refine ⟨by rfl, by rfl, ?_⟩)) (by repeat (first | exact trivial | refine ⟨by rfl, by rfl, ?_⟩)); try rfl)
          · have d4 : decide ((1 + 1 + 1 + 1 : Int) < (ws.length : Int)) = false := decide_eq_false (by omega)
            (repeat (first | refine gq_DR ?_ | (refine ga_DR ?_; intro _hq) | refine gd_DR ?_))
            refine aw_unroll 4 ?_
            (repeat (first | refine gq_DR ?_ | (refine ga_DR ?_; intro _hq) | refine gd_DR ?_))
            ((try refine aw_ret ?_); refine ret_auto2 (by rfl) (by rfl) (by rfl) (by repeat (first | exact trivial | refine ⟨by first | rfl | omega, ?_⟩)) ?_ (by repeat (first | exact trivial | refine ⟨by rfl, by rfl, ?_⟩)) (by repeat (first | exact trivial | refine ⟨by rfl, by rfl, ?_⟩)); try rfl)
        · have d3 : decide ((1 + 1 + 1 : Int) < (ws.length : Int)) = false := decide_eq_false (by omega)
          rw [show wdD ws 3 = 0 from if_neg (by omega)] at ht hG ⊢
          (repeat (first | refine gq_DR ?_ | (refine ga_DR ?_; intro _hq) | refine gd_DR ?_))
          refine aw_unroll 4 ?_
          (repeat (first | refine gq_DR ?_ | (refine ga_DR ?_; intro _hq) | refine gd_DR ?_))
          ((try refine aw_ret ?_); refine ret_auto2 (by rfl) (by rfl) (by rfl) (by repeat (first | exact trivial | refine ⟨by first | rfl | omega, ?_⟩)) ?_ (by repeat (first | exact trivial | refine ⟨by rfl, by rfl, ?_⟩)) (by repeat (first | exact trivial | refine ⟨by rfl, by rfl, ?_⟩)); try rfl)
      · have d2 : decide ((1 + 1 : Int) < (ws.length : Int)) = false := decide_eq_false (by omega)
        rw [show wdD ws 2 = 0 from if_neg (by omega), show wdD ws 3 = 0 from if_neg (by omega)] at ht hG ⊢
        (repeat (first | refine gq_DR ?_ | (refine ga_DR ?_; intro _hq) | refine gd_DR ?_))
        refine aw_unroll 4 ?_
        (repeat (first | refine gq_DR ?_ | (refine ga_DR ?_; intro _hq) | refine gd_DR ?_))
        ((try refine aw_ret ?_); refine ret_auto2 (by rfl) (by rfl) (by rfl) (by repeat (first | exact trivial | refine ⟨by first | rfl | omega, ?_⟩)) ?_ (by repeat (first | exact trivial | refine ⟨by rfl, by rfl, ?_⟩)) (by repeat (first | exact trivial | refine ⟨by rfl, by rfl, ?_⟩)); try rfl)
    · have d1 : decide ((1 : Int) < (ws.length : Int)) = false := decide_eq_false (by omega)
      rw [show wdD ws 1 = 0 from if_neg (by omega), show wdD ws 2 = 0 from if_neg (by omega), show wdD ws 3 = 0 from if_neg (by omega)] at ht hG ⊢
      (repeat (first | refine gq_DR ?_ | (refine ga_DR ?_; intro _hq) | refine gd_DR ?_))
      refine aw_unroll 4 ?_
      (repeat (first | refine gq_DR ?_ | (refine ga_DR ?_; intro _hq) | refine gd_DR ?_))
      ((try refine aw_ret ?_); refine ret_auto2 (by rfl) (by rfl) (by rfl) (by repeat (first | exact trivial | refine ⟨by first | rfl | omega, ?_⟩)) ?_ (by repeat (first | exact trivial | refine ⟨by rfl, by rfl, ?_⟩)) (by repeat (first | exact trivial | refine ⟨by rfl, by rfl, ?_⟩)); try rfl)
theorem k_rgSe : Kon Tryz.prog 36 [vS []] [] (tupG g0 false) [] [] := by
  have hC := k_cut [] (by decide)
  have hne : (([] : List UInt8) == []) = true := rfl
  have e : cutA 32 [] [] = [[]] := rfl
  rw [e] at hC
  have n0 : (([] : List UInt8) == gnm 0) = false := by decide
  have n1 : (([] : List UInt8) == gnm 1) = false := by decide
  have n2 : (([] : List UInt8) == gnm 2) = false := by decide
  have n3 : (([] : List UInt8) == gnm 3) = false := by decide
  have n4 : (([] : List UInt8) == gnm 4) = false := by decide
  have hK0 := k_kindS 0 (by decide)
  have hK1 := k_kindS 1 (by decide)
  have hK2 := k_kindS 2 (by decide)
  have hK3 := k_kindS 3 (by decide)
  have hK4 := k_kindS 4 (by decide)
  (refine kon_mk T0ok (fn := Tryz.f36) (c := Tryz.f36.body.get rfl) Tryz.func36 rfl (by rfl) (by rfl) (by rfl) ?_; intro hfit hfe)
  (repeat (first | refine gq_DR ?_ | (refine ga_DR ?_; intro _hq) | refine gd_DR ?_))
  refine aw_unroll 6 ?_
  (repeat (first | refine gq_DR ?_ | (refine ga_DR ?_; intro _hq) | refine gd_DR ?_))
  refine aw_unroll 2 ?_
  (repeat (first | refine gq_DR ?_ | (refine ga_DR ?_; intro _hq) | refine gd_DR ?_))
  ((try refine aw_ret ?_); refine ret_auto2 (by rfl) (by rfl) (by rfl) (by repeat (first | exact trivial | refine ⟨by first | rfl | omega, ?_⟩)) ?_ (by repeat (first | exact trivial | refine ⟨by rfl, by rfl, ?_⟩)) (by repeat (first | exact trivial | refine ⟨by rfl, by rfl, ?_⟩)); try rfl)
end Go.Proofs.YtgphlcdinejmdaaGreatDoor

/- Contracts of Go's library at this program. -/
namespace Go.Proofs.YtgphlcdinejmdaaGreatDoor
set_option linter.unusedVariables false
open Go.Shelf Go.RowKit Go.Lib
def Tryz.laysC172_ren : Go.Shelf.Ren := ⟨fun | 172 => 30 | 244 => 56 | 245 => 57 | 247 => 71 | 279 => 72 | 280 => 73 | 281 => 74 | 282 => 75 | 287 => 93 | 316 => 94 | 171 => 22 | 205 => 95 | 321 => 109 | 322 => 110 | 243 => 46 | 246 => 67 | 283 => 84 | 284 => 85 | 285 => 86 | 286 => 87 | 129 => 102 | 317 => 101 | 318 => 103 | 319 => 104 | 320 => 105 | 337 => 115 | 338 => 116 | n => n, fun | 9 => 9 | 3 => 3 | 75 => 56 | 76 => 57 | 4 => 4 | 5 => 5 | 167 => 105 | 37 => 22 | 0 => 0 | 85 => 106 | 2 => 2 | 168 => 108 | 53 => 121 | 175 => 128 | 46 => 127 | 210 => 132 | 127 => 95 | 145 => 148 | 143 => 146 | 21 => 21 | 171 => 120 | 173 => 124 | 212 => 137 | 51 => 138 | 20 => 20 | 213 => 139 | 232 => 153 | 233 => 154 | 80 => 71 | n => n, fun | 15 => 1 | 16 => 2 | 17 => 3 | 18 => 4 | 19 => 5 | n => n⟩
theorem Tryz.laysC172 : Go.Proofs.LaysC.n172 Tryz.prog Tryz.laysC172_ren := {
  mixed := by kernel_rfl
  f129 := Tryz.func102.trans (congrArg some (by kernel_rfl))
  f171 := Tryz.func22.trans (congrArg some (by kernel_rfl))
  f172 := Tryz.func30.trans (congrArg some (by kernel_rfl))
  f205 := Tryz.func95.trans (congrArg some (by kernel_rfl))
  f243 := Tryz.func46.trans (congrArg some (by kernel_rfl))
  f244 := Tryz.func56.trans (congrArg some (by kernel_rfl))
  f245 := Tryz.func57.trans (congrArg some (by kernel_rfl))
  f246 := Tryz.func67.trans (congrArg some (by kernel_rfl))
  f247 := Tryz.func71.trans (congrArg some (by kernel_rfl))
  f279 := Tryz.func72.trans (congrArg some (by kernel_rfl))
  f280 := Tryz.func73.trans (congrArg some (by kernel_rfl))
  f281 := Tryz.func74.trans (congrArg some (by kernel_rfl))
  f282 := Tryz.func75.trans (congrArg some (by kernel_rfl))
  f283 := Tryz.func84.trans (congrArg some (by kernel_rfl))
  f284 := Tryz.func85.trans (congrArg some (by kernel_rfl))
  f285 := Tryz.func86.trans (congrArg some (by kernel_rfl))
  f286 := Tryz.func87.trans (congrArg some (by kernel_rfl))
  f287 := Tryz.func93.trans (congrArg some (by kernel_rfl))
  f316 := Tryz.func94.trans (congrArg some (by kernel_rfl))
  f317 := Tryz.func101.trans (congrArg some (by kernel_rfl))
  f318 := Tryz.func103.trans (congrArg some (by kernel_rfl))
  f319 := Tryz.func104.trans (congrArg some (by kernel_rfl))
  f320 := Tryz.func105.trans (congrArg some (by kernel_rfl))
  f321 := Tryz.func109.trans (congrArg some (by kernel_rfl))
  f322 := Tryz.func110.trans (congrArg some (by kernel_rfl))
  f337 := Tryz.func115.trans (congrArg some (by kernel_rfl))
  f338 := Tryz.func116.trans (congrArg some (by kernel_rfl))
  t0 := Tryz.underlying0
  a0 := Tryz.isAgg0
  z0 := Tryz.sizeOf0
  v0 := Tryz.zeroValue0
  t2 := Tryz.underlying2
  a2 := Tryz.isAgg2
  z2 := Tryz.sizeOf2
  v2 := Tryz.zeroValue2
  t3 := Tryz.underlying3
  a3 := Tryz.isAgg3
  z3 := Tryz.sizeOf3
  v3 := Tryz.zeroValue3
  t4 := Tryz.underlying4
  a4 := Tryz.isAgg4
  z4 := Tryz.sizeOf4
  v4 := Tryz.zeroValue4
  t5 := Tryz.underlying5
  a5 := Tryz.isAgg5
  z5 := Tryz.sizeOf5
  v5 := Tryz.zeroValue5
  t9 := Tryz.underlying9
  a9 := Tryz.isAgg9
  z9 := Tryz.sizeOf9
  v9 := Tryz.zeroValue9
  t20 := Tryz.underlying20
  a20 := Tryz.isAgg20
  z20 := Tryz.sizeOf20
  v20 := Tryz.zeroValue20
  t21 := Tryz.underlying21
  a21 := Tryz.isAgg21
  z21 := Tryz.sizeOf21
  v21 := Tryz.zeroValue21
  t37 := Tryz.underlying22
  a37 := Tryz.isAgg22
  z37 := Tryz.sizeOf22
  v37 := Tryz.zeroValue22
  t46 := Tryz.underlying127
  a46 := Tryz.isAgg127
  z46 := Tryz.sizeOf127
  v46 := Tryz.zeroValue127
  t51 := Tryz.underlying138
  a51 := Tryz.isAgg138
  z51 := Tryz.sizeOf138
  v51 := Tryz.zeroValue138
  t53 := Tryz.underlying121
  a53 := Tryz.isAgg121
  z53 := Tryz.sizeOf121
  v53 := Tryz.zeroValue121
  t75 := Tryz.underlying56
  a75 := Tryz.isAgg56
  z75 := Tryz.sizeOf56
  v75 := Tryz.zeroValue56
  t76 := Tryz.underlying57
  a76 := Tryz.isAgg57
  z76 := Tryz.sizeOf57
  v76 := Tryz.zeroValue57
  t85 := Tryz.underlying106
  a85 := Tryz.isAgg106
  z85 := Tryz.sizeOf106
  v85 := Tryz.zeroValue106
  t127 := Tryz.underlying95
  a127 := Tryz.isAgg95
  z127 := Tryz.sizeOf95
  v127 := Tryz.zeroValue95
  t143 := Tryz.underlying146
  a143 := Tryz.isAgg146
  z143 := Tryz.sizeOf146
  v143 := Tryz.zeroValue146
  t145 := Tryz.underlying148
  a145 := Tryz.isAgg148
  z145 := Tryz.sizeOf148
  v145 := Tryz.zeroValue148
  t167 := Tryz.underlying105
  a167 := Tryz.isAgg105
  z167 := Tryz.sizeOf105
  v167 := Tryz.zeroValue105
  t168 := Tryz.underlying108
  a168 := Tryz.isAgg108
  z168 := Tryz.sizeOf108
  v168 := Tryz.zeroValue108
  t171 := Tryz.underlying120
  a171 := Tryz.isAgg120
  z171 := Tryz.sizeOf120
  v171 := Tryz.zeroValue120
  t173 := Tryz.underlying124
  a173 := Tryz.isAgg124
  z173 := Tryz.sizeOf124
  v173 := Tryz.zeroValue124
  t175 := Tryz.underlying128
  a175 := Tryz.isAgg128
  z175 := Tryz.sizeOf128
  v175 := Tryz.zeroValue128
  t210 := Tryz.underlying132
  a210 := Tryz.isAgg132
  z210 := Tryz.sizeOf132
  v210 := Tryz.zeroValue132
  t212 := Tryz.underlying137
  a212 := Tryz.isAgg137
  z212 := Tryz.sizeOf137
  v212 := Tryz.zeroValue137
  t213 := Tryz.underlying139
  a213 := Tryz.isAgg139
  z213 := Tryz.sizeOf139
  t232 := Tryz.underlying153
  a232 := Tryz.isAgg153
  z232 := Tryz.sizeOf153
  v232 := Tryz.zeroValue153
  t233 := Tryz.underlying154
  a233 := Tryz.isAgg154
  z233 := Tryz.sizeOf154
  v233 := Tryz.zeroValue154
  g15 := by kernel_rfl
  g16 := by kernel_rfl
  g17 := by kernel_rfl
  g18 := by kernel_rfl
  g19 := by kernel_rfl
  t80 := Tryz.underlying71
  a80 := Tryz.isAgg71
  z80 := Tryz.sizeOf71
  v80 := Tryz.zeroValue71
  i0 := by kernel_rfl
  i2 := by kernel_rfl
  i3 := by kernel_rfl
  i4 := by kernel_rfl
  i5 := by kernel_rfl
  i9 := by kernel_rfl
  i20 := by kernel_rfl
  i21 := by kernel_rfl
  i37 := by kernel_rfl
  i46 := by kernel_rfl
  i51 := by kernel_rfl
  i53 := by kernel_rfl
  i75 := by kernel_rfl
  i76 := by kernel_rfl
  i80 := by kernel_rfl
  i85 := by kernel_rfl
  i127 := by kernel_rfl
  i143 := by kernel_rfl
  i145 := by kernel_rfl
  i167 := by kernel_rfl
  i168 := by kernel_rfl
  i171 := by kernel_rfl
  i173 := by kernel_rfl
  i175 := by kernel_rfl
  i210 := by kernel_rfl
  i212 := by kernel_rfl
  i232 := by kernel_rfl
  i233 := by kernel_rfl
  m15 := by kernel_rfl
  m16 := by kernel_rfl
  m17 := by kernel_rfl
  m18 := by kernel_rfl
  m19 := by kernel_rfl
  c0 := by kernel_rfl
  c2 := by kernel_rfl
  c3 := by kernel_rfl
  c4 := by kernel_rfl
  c5 := by kernel_rfl
  c9 := by kernel_rfl
  c20 := by kernel_rfl
  c21 := by kernel_rfl
  c37 := by kernel_rfl
  c46 := by kernel_rfl
  c51 := by kernel_rfl
  c53 := by kernel_rfl
  c75 := by kernel_rfl
  c76 := by kernel_rfl
  c80 := by kernel_rfl
  c85 := by kernel_rfl
  c127 := by kernel_rfl
  c143 := by kernel_rfl
  c145 := by kernel_rfl
  c167 := by kernel_rfl
  c168 := by kernel_rfl
  c171 := by kernel_rfl
  c173 := by kernel_rfl
  c175 := by kernel_rfl
  c210 := by kernel_rfl
  c212 := by kernel_rfl
  c213 := by kernel_rfl
  c232 := by kernel_rfl
  c233 := by kernel_rfl }
theorem Tryz.strconv_Atoi_ok (s : ByteArray) (hmax : s.size ≤ 9223372036854775806) (v : Int) (h : Lib.atoiAll s.data.toList = .ok v) (w : World) :
    Calls Tryz.prog 30 #[.string s] w fun e w' => e = .returned (.tuple #[.int .i64 v, .nilIface]) ∧ (w' = w ∨ ∃ t, w' = Lib.bytesWorld w 5 t) := Any.strconv_Atoi_ok Tryz.laysC172 s hmax v h w
theorem Tryz.strconv_Atoi_syntax (s : ByteArray) (hlim : s.size ≤ 281474976710656) (h : Lib.atoiAll s.data.toList = Lib.atoiAll []) (ev : Value) (w : World) (hv : w.cell? ⟨1, 0, none⟩ = some ev) (hev : ev = .nilIface ∨ ∃ te pe, ev = .iface te pe) :
    Calls Tryz.prog 30 #[.string s] w fun e w' => ∃ N, e = .returned (.tuple #[.int .i64 (0), .iface 108 (.pointer (some ⟨N, 0, none⟩))]) ∧ w.heap.size ≤ N ∧ w'.heap[N]? = some (.cells #[.string ⟨#[65, 116, 111, 105]⟩, .string s, ev] 132 (0, 0)) ∧ Below w.heap.size w w' := Any.strconv_Atoi_syntax Tryz.laysC172 s hlim h ev w hv hev
theorem Tryz.strconv_Atoi_range (s : ByteArray) (hlim : s.size ≤ 281474976710656) (h : Lib.atoiAll s.data.toList = .range) (ev : Value) (w : World) (hv : w.cell? ⟨2, 0, none⟩ = some ev) (hev : ev = .nilIface ∨ ∃ te pe, ev = .iface te pe) :
    Calls Tryz.prog 30 #[.string s] w fun e w' => ∃ N, e = .returned (.tuple #[.int .i64 (Lib.atoiSat s.data.toList), .iface 108 (.pointer (some ⟨N, 0, none⟩))]) ∧ w.heap.size ≤ N ∧ w'.heap[N]? = some (.cells #[.string ⟨#[65, 116, 111, 105]⟩, .string s, ev] 132 (0, 0)) ∧ Below w.heap.size w w' := Any.strconv_Atoi_range Tryz.laysC172 s hlim h ev w hv hev
def Tryz.lays146_ren : Go.Shelf.Ren := ⟨fun | 146 => 58 | 221 => 76 | 268 => 96 | 138 => 97 | 143 => 98 | 195 => 111 | 197 => 112 | 218 => 113 | 219 => 70 | 260 => 117 | 217 => 89 | 225 => 90 | 224 => 91 | 267 => 92 | 266 => 107 | 314 => 108 | n => n, fun | 9 => 9 | 31 => 51 | 3 => 3 | 4 => 4 | 0 => 0 | 105 => 149 | 21 => 21 | 5 => 5 | 46 => 127 | 119 => 155 | 139 => 158 | 138 => 157 | 146 => 142 | 51 => 138 | n => n, fun | 1 => 0 | 3 => 6 | 4 => 7 | n => n⟩
theorem Tryz.lays146 : Go.Proofs.Lays.n146 Tryz.prog Tryz.lays146_ren := {
  mixed := by kernel_rfl
  f138 := Tryz.func97.trans (congrArg some (by kernel_rfl))
  f143 := Tryz.func98.trans (congrArg some (by kernel_rfl))
  f146 := Tryz.func58.trans (congrArg some (by kernel_rfl))
  f195 := Tryz.func111.trans (congrArg some (by kernel_rfl))
  f197 := Tryz.func112.trans (congrArg some (by kernel_rfl))
  f217 := Tryz.func89.trans (congrArg some (by kernel_rfl))
  f218 := Tryz.func113.trans (congrArg some (by kernel_rfl))
  f219 := Tryz.func70.trans (congrArg some (by kernel_rfl))
  f221 := Tryz.func76.trans (congrArg some (by kernel_rfl))
  f224 := Tryz.func91.trans (congrArg some (by kernel_rfl))
  f225 := Tryz.func90.trans (congrArg some (by kernel_rfl))
  f260 := Tryz.func117.trans (congrArg some (by kernel_rfl))
  f266 := Tryz.func107.trans (congrArg some (by kernel_rfl))
  f267 := Tryz.func92.trans (congrArg some (by kernel_rfl))
  f268 := Tryz.func96.trans (congrArg some (by kernel_rfl))
  f314 := Tryz.func108.trans (congrArg some (by kernel_rfl))
  t0 := Tryz.underlying0
  a0 := Tryz.isAgg0
  z0 := Tryz.sizeOf0
  v0 := Tryz.zeroValue0
  t3 := Tryz.underlying3
  a3 := Tryz.isAgg3
  z3 := Tryz.sizeOf3
  v3 := Tryz.zeroValue3
  t4 := Tryz.underlying4
  a4 := Tryz.isAgg4
  z4 := Tryz.sizeOf4
  v4 := Tryz.zeroValue4
  t5 := Tryz.underlying5
  a5 := Tryz.isAgg5
  z5 := Tryz.sizeOf5
  v5 := Tryz.zeroValue5
  t9 := Tryz.underlying9
  a9 := Tryz.isAgg9
  z9 := Tryz.sizeOf9
  v9 := Tryz.zeroValue9
  t21 := Tryz.underlying21
  a21 := Tryz.isAgg21
  z21 := Tryz.sizeOf21
  v21 := Tryz.zeroValue21
  t31 := Tryz.underlying51
  a31 := Tryz.isAgg51
  z31 := Tryz.sizeOf51
  v31 := Tryz.zeroValue51
  t46 := Tryz.underlying127
  a46 := Tryz.isAgg127
  z46 := Tryz.sizeOf127
  v46 := Tryz.zeroValue127
  t51 := Tryz.underlying138
  a51 := Tryz.isAgg138
  z51 := Tryz.sizeOf138
  v51 := Tryz.zeroValue138
  t105 := Tryz.underlying149
  a105 := Tryz.isAgg149
  z105 := Tryz.sizeOf149
  v105 := Tryz.zeroValue149
  t119 := Tryz.underlying155
  a119 := Tryz.isAgg155
  z119 := Tryz.sizeOf155
  t138 := Tryz.underlying157
  a138 := Tryz.isAgg157
  z138 := Tryz.sizeOf157
  v138 := Tryz.zeroValue157
  t139 := Tryz.underlying158
  a139 := Tryz.isAgg158
  z139 := Tryz.sizeOf158
  v139 := Tryz.zeroValue158
  t146 := Tryz.underlying142
  a146 := Tryz.isAgg142
  z146 := Tryz.sizeOf142
  v146 := Tryz.zeroValue142
  g1 := by kernel_rfl
  g3 := by kernel_rfl
  g4 := by kernel_rfl }
theorem Tryz.strings_Split (s sep : ByteArray) (m : Int) (w : World) (hs : s.size < 4294967281) (hm : w.cell? ⟨0, 0, none⟩ = some (.int .i64 m)) (h1 : 1 ≤ sep.size) :
    Calls Tryz.prog 58 #[.string s, .string sep] w fun e w' =>
      e = .returned (.slice (some ⟨w.heap.size, 0, none⟩) (Lib.countB s sep + 1) (Lib.countB s sep + 1)) ∧ w' = w.alloc (.cells ((Lib.splitB sep 0 (Lib.countB s sep) s).map Value.string).toArray 9) := Any.strings_Split Tryz.lays146 (by kernel_rfl) s sep m w hs hm h1
end Go.Proofs.YtgphlcdinejmdaaGreatDoor

/- strings.Split at a space and strconv.Atoi, by the library's contracts. -/
namespace Go.Proofs.YtgphlcdinejmdaaGreatDoor
set_option linter.unusedVariables false
set_option linter.unusedSimpArgs false
set_option maxRecDepth 20000
open Go.RowKit
theorem str_data (b : ByteArray) : str b.data.toList = b := by
  obtain ⟨⟨l⟩⟩ := b
  rfl
theorem map_str {L : List ByteArray} {M : List (List UInt8)} (h : L.map (·.data.toList) = M) : L = M.map str := by
  rw [← h, List.map_map]
  conv => lhs; rw [← List.map_id L]
  apply List.map_congr_left
  intro a _
  exact (str_data a).symm
theorem cV_strs : ∀ M : List (List UInt8), cV M = M.map fun l => Value.string (str l)
  | [] => rfl
  | a :: M => by rw [cV_cons, cV_strs M]; rfl
/-- The one argument. -/
theorem args1 {w : World} {ok : Nat → Prop} {x : Value} {vs : Array Value} (hsz : vs.size = [AV.g (.one (.v x))].length) (h : Args0 w ok [.g (.one (.v x))] vs) : vs = #[x] := by
  obtain ⟨z, hz, hr⟩ := h 0 _ rfl
  obtain ⟨xs⟩ := vs
  match xs, hsz with
  | [y], _ =>
    cases hz
    rw [show y = x from hr.1]
theorem args2 {w : World} {ok : Nat → Prop} {x x' : Value} {vs : Array Value} (hsz : vs.size = [AV.g (.one (.v x)), AV.g (.one (.v x'))].length) (h : Args0 w ok [.g (.one (.v x)), .g (.one (.v x'))] vs) : vs = #[x, x'] := by
  obtain ⟨z, hz, hr⟩ := h 0 _ rfl
  obtain ⟨z', hz', hr'⟩ := h 1 _ rfl
  obtain ⟨xs⟩ := vs
  match xs, hsz with
  | [y, y'], _ =>
    cases hz
    cases hz'
    rw [show y = x from hr.1, show y' = x' from hr'.1]
theorem alloc_new (w : World) (o : Obj) : (w.alloc o).heap[w.heap.size]? = some o := by
  show (w.heap.push o)[w.heap.size]? = _
  simp
theorem k_split (s : List UInt8) (hs : s.length ≤ 7000000) : Kon Tryz.prog 58 [vS s, vS [32]] [] (slA 0 0 (cutA 32 [] s)) [sRow (cutA 32 [] s)] [] := by
  refine kon_row (Go.Proofs.enters_of Tryz.func58 (by kernel_rfl) rfl) rfl ?_
  intro w ok vs hg hok hsz hargs
  obtain rfl := args2 hsz hargs
  obtain ⟨⟨m, hm⟩, _⟩ := hg
  have h1 : (str s).size = s.length := rfl
  have hK := Tryz.strings_Split (str s) (str [32]) m w (by rw [h1]; omega) hm (by decide)
  have e1 : (Go.Lib.splitB (str [32]) 0 (Go.Lib.countB (str s) (str [32])) (str s)) = (cutA 32 [] s).map str := by
    refine map_str ?_
    rw [Go.Lib.splitB_data]
    exact split_cut 32 s.length s (Nat.le_refl _)
  have e2 : Go.Lib.countB (str s) (str [32]) + 1 = (cutA 32 [] s).length := by
    have := Go.Lib.splitB_all (str [32]) (by decide) 0 _ (str s) rfl
    rw [e1, List.length_map] at this
    exact this.symm
  rw [e1, e2] at hK
  have hlen := cutA_len 32 s []
  refine hK.mono ?_
  rintro en W' ⟨rfl, rfl⟩
  refine ⟨_, rfl, ⟨cV_len _, .inr ⟨w.heap.size, (cutA 32 [] s).length, _, rfl, Nat.le_refl _, alloc_new w _, Nat.le_refl _, by unfold maxLen; omega, ?_, ?_⟩⟩, (Below.refl _ _).alloc (Nat.le_refl _) _⟩
  · simp [Cel.sz]
  · have e3 : (((cutA 32 [] s).map str).map Value.string).toArray.toList = cV (cutA 32 [] s) := by
      rw [cV_strs, List.map_map]; rfl
    rw [e3]
    exact List.take_of_length_le (Nat.le_of_eq (cV_len _))
abbrev tupI (n : Int) (e : AC) : AV := .tup [.one (.v (.int .i64 n)), .one e]
theorem k_atoiOk (s : List UInt8) (v : Int) (hs : s.length ≤ 7000000) (h : Go.Lib.atoiAll s = .ok v) : Kon Tryz.prog 30 [vS s] [] (tupI v (.v .nilIface)) [] [] := by
  refine kon_pure (Go.Proofs.enters_of Tryz.func30 (by kernel_rfl) rfl) rfl rfl ?_
  intro w ok vs hg hok hsz hargs
  obtain rfl := args1 hsz hargs
  have h1 : (str s).size = s.length := rfl
  refine (Tryz.strconv_Atoi_ok (str s) (by rw [h1]; omega) v h w).mono ?_
  rintro en W' ⟨rfl, hw⟩
  refine ⟨_, rfl, ?_, fun β G ok' => ⟨_, rfl, rfl, ?_⟩⟩
  · rcases hw with rfl | ⟨t, rfl⟩
    · exact Below.refl _ _
    · exact Go.Lib.bytesWorld_below _ _ _
  · intro j x hj
    rcases j with _ | _ | j
    · cases hj; exact ⟨_, rfl, rfl, rfl⟩
    · cases hj; exact ⟨_, rfl, rfl, rfl⟩
    · simp at hj
theorem k_atoiNo (s : List UInt8) (hs : s.length ≤ 7000000) (h : ∀ v, Go.Lib.atoiAll s ≠ .ok v) : ∃ n : Int, Kon Tryz.prog 30 [vS s] [] (tupI n .er) [] [] := by
  have h1 : (str s).size = s.length := rfl
  have fin : ∀ (w W' : World) (n : Int) (N : Nat) (t : TypeId) (en : Ending), en = .returned (.tuple #[.int .i64 n, .iface t (.pointer (some ⟨N, 0, none⟩))]) → Below w.heap.size w W' → ∃ v, en = .returned v ∧ Below w.heap.size w W' ∧ ∀ β G ok', (tupI n .er).rep W' β G ok' v := by
    rintro w W' n N t en rfl hB
    refine ⟨_, rfl, hB, fun β G ok' => ⟨_, rfl, rfl, ?_⟩⟩
    intro j x hj
    rcases j with _ | _ | j
    · cases hj; exact ⟨_, rfl, rfl, rfl⟩
    · cases hj; exact ⟨_, rfl, rfl, _, _, rfl⟩
    · simp at hj
  cases ha : Go.Lib.atoiAll s with
  | ok v => exact absurd ha (h v)
  | range =>
    refine ⟨Go.Lib.atoiSat s, kon_pure (Go.Proofs.enters_of Tryz.func30 (by kernel_rfl) rfl) rfl rfl ?_⟩
    intro w ok vs hg hok hsz hargs
    obtain rfl := args1 hsz hargs
    obtain ⟨_, _, ⟨t, p, hc⟩⟩ := hg
    refine (Tryz.strconv_Atoi_range (str s) (by rw [h1]; omega) ha _ w hc (.inr ⟨t, p, rfl⟩)).mono ?_
    rintro en W' ⟨N, he, _, _, hB⟩
    exact fin _ _ _ _ _ _ he hB
  | _ =>
    refine ⟨0, kon_pure (Go.Proofs.enters_of Tryz.func30 (by kernel_rfl) rfl) rfl rfl ?_⟩
    intro w ok vs hg hok hsz hargs
    obtain rfl := args1 hsz hargs
    obtain ⟨_, ⟨t, p, hc⟩, _⟩ := hg
    refine (Tryz.strconv_Atoi_syntax (str s) (by rw [h1]; omega) ha _ w hc (.inr ⟨t, p, rfl⟩)).mono ?_
    rintro en W' ⟨N, he, _, _, hB⟩
    exact fin _ _ _ _ _ _ he hB
end Go.Proofs.YtgphlcdinejmdaaGreatDoor
