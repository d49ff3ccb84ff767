/- KRC: laid into one text. -/
import Derived.Test.YthdniogjiokekaaQRJ

/- The steps of a circuit and its depth, in the program. -/
namespace Go.Proofs.Ythdniogjiokekaa
set_option linter.unusedVariables false
set_option linter.unusedSimpArgs false
set_option maxRecDepth 20000
open Go.RowKit
attribute [local irreducible] runA runX AW
theorem gq_KRC {H G : Prop} (k : H) (h : Hid H → G := by (intro hh; (first | (first | ((first | refine r_none ?_ | refine r_gt (by rfl) (by rfl) (by first | rfl | assumption | omega | (simp only [*, Bool.not_false, Bool.not_true]; first | done | fail) | (simp [*]; first | done | fail)) (by rfl) ?_ | refine r_gf (by rfl) (by rfl) (by first | rfl | assumption | omega | (simp only [*, Bool.not_false, Bool.not_true]; first | done | fail) | (simp [*]; first | done | fail)) (by rfl) ?_); (first | fail | ((first | (refine z_op (by rfl) ?_; first | refine z_ok ?_ ?_ | refine z_ex ?_ (by first | exact ft_raw rfl rfl | ((first | refine ft_rp rfl rfl rfl ?_ | refine ft_row rfl rfl rfl ?_ | refine ft_rpF rfl rfl rfl ?_ | refine ft_rowF rfl rfl rfl ?_ | refine up_row rfl rfl ?_ | refine up_rowF rfl rfl rfl ?_ | refine ct_0 rfl ?_ | refine ct_r rfl rfl ?_ | refine ct_c rfl rfl rfl ?_ | refine cu_all rfl ?_ | refine cu_to rfl ?_ | refine cu_from rfl ?_ | refine cu_p rfl ?_ | refine mk_c Int rfl rfl rfl ?_); (first | omega | (simp only [List.length_append, List.length_replicate, List.length_cons, List.length_nil, List.length_set, List.length_take, List.length_drop, true_and]; omega))) | exact up_raw rfl | exact pk_t (by first | rfl | assumption | omega | (simp only [*, Bool.not_false, Bool.not_true]; first | done | fail) | (simp [*]; first | done | fail)) rfl | exact pk_f (by first | rfl | assumption | omega | (simp only [*, Bool.not_false, Bool.not_true]; first | done | fail) | (simp [*]; first | done | fail)) rfl | (first | exact rw_c Int rfl) | exact rw_raw | exact pu_cv (fun w => rfl) (by omega) | exact pu_of (fun w => rfl) rfl | exact be_of (fun w => rfl) | exact nc_of (fun _ _ _ _ => rfl) rfl | exact bu_of (fun w => rfl) rfl | fail) ?_) | ((first | refine q_callE wsT wsZ (by rfl) ?_ | refine q_callVE wsT (by rfl) (by rfl) ?_); refine ⟨_, _, _, (by first | assumption), _, by rfl, ?_, ?_⟩)); focus (first | exact trivial | fail | exact rfl | (first | omega | (simp only [List.length_append, List.length_replicate, List.length_cons, List.length_nil, List.length_set, List.length_take, List.length_drop, true_and]; omega)) | exact cvB (fun w => rfl) | ((repeat' (first | exact rfl | exact cV_len _ | exact cV_ln rfl (by omega) | exact Cel.pos | omega | exact trivial | refine And.intro ?_ ?_)); done) | (simp [*]; done) | (simp; omega))) | fail)) | refine r_nt (by rfl) (by rfl) (by first | rfl | assumption | omega | (simp only [*, Bool.not_false, Bool.not_true]; first | done | fail) | (simp [*]; first | done | fail)) (by rfl) ?_ | refine r_nf (by rfl) (by rfl) (by first | rfl | assumption | omega | (simp only [*, Bool.not_false, Bool.not_true]; first | done | fail) | (simp [*]; first | done | fail)) (by rfl) ?_ | refine r_gu (by rfl) (by rfl) (by rfl) ?_ | refine r_nil ?_) | (first | refine aw_seq ?_ | refine aw_ct (by rfl) (by first | rfl | assumption | omega | (simp only [*, Bool.not_false, Bool.not_true]; first | done | fail) | (simp [*]; first | done | fail)) ?_ | refine aw_cf (by rfl) (by first | rfl | assumption | omega | (simp only [*, Bool.not_false, Bool.not_true]; first | done | fail) | (simp [*]; first | done | fail)) ?_ | refine aw_block ?_ | refine aw_region T0ok cfU_ok (by rfl) ?_ | refine aw_skip ?_ | refine aw_exit ?_ | refine ra_step ?_)); (repeat (first | (first | ((first | refine r_none ?_ | refine r_gt (by rfl) (by rfl) (by first | rfl | assumption | omega | (simp only [*, Bool.not_false, Bool.not_true]; first | done | fail) | (simp [*]; first | done | fail)) (by rfl) ?_ | refine r_gf (by rfl) (by rfl) (by first | rfl | assumption | omega | (simp only [*, Bool.not_false, Bool.not_true]; first | done | fail) | (simp [*]; first | done | fail)) (by rfl) ?_); (first | fail | ((first | (refine z_op (by rfl) ?_; first | refine z_ok ?_ ?_ | refine z_ex ?_ (by first | exact ft_raw rfl rfl | ((first | refine ft_rp rfl rfl rfl ?_ | refine ft_row rfl rfl rfl ?_ | refine ft_rpF rfl rfl rfl ?_ | refine ft_rowF rfl rfl rfl ?_ | refine up_row rfl rfl ?_ | refine up_rowF rfl rfl rfl ?_ | refine ct_0 rfl ?_ | refine ct_r rfl rfl ?_ | refine ct_c rfl rfl rfl ?_ | refine cu_all rfl ?_ | refine cu_to rfl ?_ | refine cu_from rfl ?_ | refine cu_p rfl ?_ | refine mk_c Int rfl rfl rfl ?_); (first | omega | (simp only [List.length_append, List.length_replicate, List.length_cons, List.length_nil, List.length_set, List.length_take, List.length_drop, true_and]; omega))) | exact up_raw rfl | exact pk_t (by first | rfl | assumption | omega | (simp only [*, Bool.not_false, Bool.not_true]; first | done | fail) | (simp [*]; first | done | fail)) rfl | exact pk_f (by first | rfl | assumption | omega | (simp only [*, Bool.not_false, Bool.not_true]; first | done | fail) | (simp [*]; first | done | fail)) rfl | (first | exact rw_c Int rfl) | exact rw_raw | exact pu_cv (fun w => rfl) (by omega) | exact pu_of (fun w => rfl) rfl | exact be_of (fun w => rfl) | exact nc_of (fun _ _ _ _ => rfl) rfl | exact bu_of (fun w => rfl) rfl | fail) ?_) | ((first | refine q_callE wsT wsZ (by rfl) ?_ | refine q_callVE wsT (by rfl) (by rfl) ?_); refine ⟨_, _, _, (by first | assumption), _, by rfl, ?_, ?_⟩)); focus (first | exact trivial | fail | exact rfl | (first | omega | (simp only [List.length_append, List.length_replicate, List.length_cons, List.length_nil, List.length_set, List.length_take, List.length_drop, true_and]; omega)) | exact cvB (fun w => rfl) | ((repeat' (first | exact rfl | exact cV_len _ | exact cV_ln rfl (by omega) | exact Cel.pos | omega | exact trivial | refine And.intro ?_ ?_)); done) | (simp [*]; done) | (simp; omega))) | fail)) | refine r_nt (by rfl) (by rfl) (by first | rfl | assumption | omega | (simp only [*, Bool.not_false, Bool.not_true]; first | done | fail) | (simp [*]; first | done | fail)) (by rfl) ?_ | refine r_nf (by rfl) (by rfl) (by first | rfl | assumption | omega | (simp only [*, Bool.not_false, Bool.not_true]; first | done | fail) | (simp [*]; first | done | fail)) (by rfl) ?_ | refine r_gu (by rfl) (by rfl) (by rfl) ?_ | refine r_nil ?_) | (first | refine aw_seq ?_ | refine aw_ct (by rfl) (by first | rfl | assumption | omega | (simp only [*, Bool.not_false, Bool.not_true]; first | done | fail) | (simp [*]; first | done | fail)) ?_ | refine aw_cf (by rfl) (by first | rfl | assumption | omega | (simp only [*, Bool.not_false, Bool.not_true]; first | done | fail) | (simp [*]; first | done | fail)) ?_ | refine aw_block ?_ | refine aw_region T0ok cfU_ok (by rfl) ?_ | refine aw_skip ?_ | refine aw_exit ?_ | refine ra_step ?_))); exact hh.out)) : G := h ⟨k⟩
theorem ga_KRC {H G : Prop} (k : H) (h : Hid H → G := by (intro hh; (first | refine r_none ?_ | refine r_gt (by rfl) (by rfl) (by first | rfl | assumption | omega | (simp only [*, Bool.not_false, Bool.not_true]; first | done | fail) | (simp [*]; first | done | fail)) (by rfl) ?_ | refine r_gf (by rfl) (by rfl) (by first | rfl | assumption | omega | (simp only [*, Bool.not_false, Bool.not_true]; first | done | fail) | (simp [*]; first | done | fail)) (by rfl) ?_); refine z_op (by rfl) ?_; refine z_alV ?_ hh.out; focus (first | exact trivial | fail | exact rfl | (first | omega | (simp only [List.length_append, List.length_replicate, List.length_cons, List.length_nil, List.length_set, List.length_take, List.length_drop, true_and]; omega)) | exact cvB (fun w => rfl) | ((repeat' (first | exact rfl | exact cV_len _ | exact cV_ln rfl (by omega) | exact Cel.pos | omega | exact trivial | refine And.intro ?_ ?_)); done) | (simp [*]; done) | (simp; omega)))) : G := h ⟨k⟩
theorem list8 {l : List Int} (h : l.length = 8) : ∃ a b c d e f g i, l = [a, b, c, d, e, f, g, i] := by
  match l, h with
  | [a, b, c, d, e, f, g, i], _ => exact ⟨a, b, c, d, e, f, g, i, rfl⟩
theorem dropI {l : List Int} {k : Nat} (h : k < l.length) : l.drop k = l.getD k 0 :: l.drop (k + 1) := by
  rw [List.drop_eq_getElem_cons h]
  simp [List.getD_eq_getElem?_getD, h]
theorem dropG {l : List Gt} {k : Nat} (h : k < l.length) : l.drop k = l.getD k Cel.no :: l.drop (k + 1) := by
  rw [List.drop_eq_getElem_cons h]
  simp [List.getD_eq_getElem?_getD, h]
theorem bd_get {bz : List Int} {m : Int} (hm : 0 ≤ m) (h : ∀ v ∈ bz, 0 ≤ v ∧ v ≤ m) (k : Nat) : 0 ≤ bz.getD k 0 ∧ bz.getD k 0 ≤ m := by
  rcases Nat.lt_or_ge k bz.length with h1 | h1
  · have e : bz.getD k 0 = bz[k] := by simp [List.getD_eq_getElem?_getD, h1]
    rw [e]; exact h _ (List.getElem_mem h1)
  · rw [List.getD_eq_getElem?_getD, List.getElem?_eq_none h1]; exact ⟨Int.le_refl _, hm⟩
theorem bd_set {bz : List Int} {m v : Int} (h : ∀ v ∈ bz, 0 ≤ v ∧ v ≤ m) (hv : 0 ≤ v ∧ v ≤ m) (k : Nat) : ∀ w ∈ bz.set k v, 0 ≤ w ∧ w ≤ m := fun w hw => by
  rcases List.mem_or_eq_of_mem_set hw with h1 | rfl
  · exact h w h1
  · exact hv
theorem lns_l3 (g : Gt) : (lns g).length ≤ 3 := by unfold lns; split <;> (try split) <;> (try split) <;> simp
abbrev bxE (bz : List Int) : Ent := .box [.v (.int .i64 (bz.getD 0 0)), .v (.int .i64 (bz.getD 1 0)), .v (.int .i64 (bz.getD 2 0)), .v (.int .i64 (bz.getD 3 0)), .v (.int .i64 (bz.getD 4 0)), .v (.int .i64 (bz.getD 5 0)), .v (.int .i64 (bz.getD 6 0)), .v (.int .i64 (bz.getD 7 0))]
set_option maxHeartbeats 16000000 in
theorem k_steps (n : Int) (c : List Gt) (h : cokB n c = true) : Kon Try.prog 26 [vI n, roA c] [] (slA 0 0 (stp bz0 c)) [iRow (stp bz0 c)] [] := by
  have hb := cokB_t h
  have hK := k_cv n c (by omega)
  rw [h] at hK
  clear h
  (refine kon_mk T0ok (fn := Try.f26) (c := Try.f26.body.get rfl) Try.func26 rfl (by rfl) (by rfl) (by rfl) ?_; intro hfit hfe)
  (repeat (first | refine gq_KRC ?_ | (refine ga_KRC ?_; intro _hq)))
  (refine aw_rd [0, 1, 6, 21, 22] [] (fun g : Nat × Nat × List Int × List Int => [(5, .g (.one (.sl 320 g.2.1 g.2.2.1.length))), (23, vI g.1)]) (fun g => [(320, (g.2.1, iRow g.2.2.1)), (96, (0, bxE g.2.2.2))]) (fun g => g.1 ≤ c.length ∧ g.2.2.2.length = 8 ∧ g.2.2.1.length = g.1 ∧ (∀ v ∈ g.2.2.2, 0 ≤ v ∧ v ≤ (g.1 : Int)) ∧ g.2.2.1 ++ stp g.2.2.2 (c.drop g.1) = stp bz0 c) (fun g => c.length - g.1) (0, 0, [], bz0) (by rfl) (by rfl) ?_ (by rfl) (by repeat (first | exact trivial | refine ⟨by rfl, ?_⟩ | refine ⟨vI_of (by rfl) (by omega), ?_⟩)) (by repeat (first | exact trivial | refine ⟨by rfl, ?_⟩ | refine ⟨vI_of (by rfl) (by omega), ?_⟩)) ?_)
  · exact ⟨Nat.zero_le _, rfl, rfl, by intro v hv; simp [bz0] at hv; omega, rfl⟩
  rintro ⟨j, u, o, bz⟩ ⟨hj, h8, hol, hbd, hz⟩
  dsimp only at hj h8 hol hbd hz ⊢
  rcases Nat.lt_or_ge j c.length with h6 | h6
  · have hd2 : decide ((j : Int) < (c.length : Int)) = true := by simpa using h6
    have hgk := all_at hb.2.2 h6
    have hlb := lns_bd hgk
    have hLn := k_lines (c.getD (j : Int).toNat Cel.no) (gok_bd hgk).2.1
    rw [dropG h6, stp] at hz
    rw [show lns (c.getD (j : Int).toNat Cel.no) = lns (c.getD j Cel.no) from rfl] at hLn
    have hL3 := lns_l3 (c.getD j Cel.no)
    generalize lns (c.getD j Cel.no) = L at hLn hlb hz hL3
    clear hgk
    (repeat (first | refine gq_KRC ?_ | (refine ga_KRC ?_; intro _hq)))
    (refine aw_rd [0, 1, 5, 6, 8, 21, 22, 23, 28, 29] [320, 96, 128, 448] (fun q : Nat × Int => [(9, vI q.2), (30, vI q.1)]) (fun _ => []) (fun q => q.1 ≤ L.length ∧ (0 ≤ q.2 ∧ q.2 ≤ (j : Int)) ∧ stM bz (L.drop q.1) q.2 = stM bz L 0) (fun q => L.length - q.1) (0, 0) (by rfl) (by rfl) ?_ (by rfl) (by repeat (first | exact trivial | refine ⟨by rfl, ?_⟩ | refine ⟨vI_of (by rfl) (by omega), ?_⟩)) (by repeat (first | exact trivial | refine ⟨by rfl, ?_⟩ | refine ⟨vI_of (by rfl) (by omega), ?_⟩)) ?_)
    · exact ⟨Nat.zero_le _, ⟨Int.le_refl _, Int.natCast_nonneg _⟩, by rw [List.drop_zero]⟩
    rintro ⟨i, s⟩ ⟨hi, hs, hy⟩
    dsimp only at hi hs hy ⊢
    rcases Nat.lt_or_ge i L.length with h5 | h5
    · have hd : decide ((i : Int) < (L.length : Int)) = true := by simpa using h5
      obtain ⟨x, hx⟩ : ∃ x, L.getD (i : Int).toNat (Cel.no : Int) = x := ⟨_, rfl⟩
      have hx' : L.getD i 0 = x := hx
      have hxb : 0 ≤ x ∧ x < n := hlb x (by rw [← hx', List.getD_eq_getElem?_getD, List.getElem?_eq_getElem h5]; exact List.getElem_mem h5)
      rw [dropI h5, hx', stM] at hy
      have hb2 := bd_get (Int.natCast_nonneg j) hbd x.toNat
      have hm := mxD_le s (bz.getD x.toNat 0)
      have hinv : i + 1 ≤ L.length ∧ (0 ≤ mxD s (bz.getD x.toNat 0) ∧ mxD s (bz.getD x.toNat 0) ≤ (j : Int)) ∧ stM bz (L.drop (i + 1)) (mxD s (bz.getD x.toNat 0)) = stM bz L 0 := ⟨h5, ⟨by omega, by omega⟩, hy⟩
      clear hy hz hlb hbd hol hm
      (repeat (first | refine gq_KRC ?_ | (refine ga_KRC ?_; intro _hq)))
      rw [hx]
      clear hx hx'
      obtain ⟨b0, b1, b2, b3, b4, b5, b6, b7, rfl⟩ := list8 h8
      have h' : x = 0 ∨ x = 1 ∨ x = 2 ∨ x = 3 ∨ x = 4 ∨ x = 5 ∨ x = 6 ∨ x = 7 := by omega
      rcases h' with rfl | rfl | rfl | rfl | rfl | rfl | rfl | rfl
      · (repeat (first | refine gq_KRC ?_ | (refine ga_KRC ?_; intro _hq)))
        exact ⟨(i + 1, mxD s b0), hinv, ⟨by rfl, (by repeat (first | exact trivial | refine ⟨by rfl, ?_⟩ | refine ⟨vI_of (by rfl) (by omega), ?_⟩)), (by repeat (first | exact trivial | refine ⟨by rfl, ?_⟩ | refine ⟨vI_of (by rfl) (by omega), ?_⟩))⟩, (by first | omega | (dsimp only; omega))⟩
      · (repeat (first | refine gq_KRC ?_ | (refine ga_KRC ?_; intro _hq)))
        exact ⟨(i + 1, mxD s b1), hinv, ⟨by rfl, (by repeat (first | exact trivial | refine ⟨by rfl, ?_⟩ | refine ⟨vI_of (by rfl) (by omega), ?_⟩)), (by repeat (first | exact trivial | refine ⟨by rfl, ?_⟩ | refine ⟨vI_of (by rfl) (by omega), ?_⟩))⟩, (by first | omega | (dsimp only; omega))⟩
      · (repeat (first | refine gq_KRC ?_ | (refine ga_KRC ?_; intro _hq)))
        exact ⟨(i + 1, mxD s b2), hinv, ⟨by rfl, (by repeat (first | exact trivial | refine ⟨by rfl, ?_⟩ | refine ⟨vI_of (by rfl) (by omega), ?_⟩)), (by repeat (first | exact trivial | refine ⟨by rfl, ?_⟩ | refine ⟨vI_of (by rfl) (by omega), ?_⟩))⟩, (by first | omega | (dsimp only; omega))⟩
      · (repeat (first | refine gq_KRC ?_ | (refine ga_KRC ?_; intro _hq)))
        exact ⟨(i + 1, mxD s b3), hinv, ⟨by rfl, (by repeat (first | exact trivial | refine ⟨by rfl, ?_⟩ | refine ⟨vI_of (by rfl) (by omega), ?_⟩)), (by repeat (first | exact trivial | refine ⟨by rfl, ?_⟩ | refine ⟨vI_of (by rfl) (by omega), ?_⟩))⟩, (by first | omega | (dsimp only; omega))⟩
      · (repeat (first | refine gq_KRC ?_ | (refine ga_KRC ?_; intro _hq)))
        exact ⟨(i + 1, mxD s b4), hinv, ⟨by rfl, (by repeat (first | exact trivial | refine ⟨by rfl, ?_⟩ | refine ⟨vI_of (by rfl) (by omega), ?_⟩)), (by repeat (first | exact trivial | refine ⟨by rfl, ?_⟩ | refine ⟨vI_of (by rfl) (by omega), ?_⟩))⟩, (by first | omega | (dsimp only; omega))⟩
      · (repeat (first | refine gq_KRC ?_ | (refine ga_KRC ?_; intro _hq)))
        exact ⟨(i + 1, mxD s b5), hinv, ⟨by rfl, (by repeat (first | exact trivial | refine ⟨by rfl, ?_⟩ | refine ⟨vI_of (by rfl) (by omega), ?_⟩)), (by repeat (first | exact trivial | refine ⟨by rfl, ?_⟩ | refine ⟨vI_of (by rfl) (by omega), ?_⟩))⟩, (by first | omega | (dsimp only; omega))⟩
      · (repeat (first | refine gq_KRC ?_ | (refine ga_KRC ?_; intro _hq)))
        exact ⟨(i + 1, mxD s b6), hinv, ⟨by rfl, (by repeat (first | exact trivial | refine ⟨by rfl, ?_⟩ | refine ⟨vI_of (by rfl) (by omega), ?_⟩)), (by repeat (first | exact trivial | refine ⟨by rfl, ?_⟩ | refine ⟨vI_of (by rfl) (by omega), ?_⟩))⟩, (by first | omega | (dsimp only; omega))⟩
      · (repeat (first | refine gq_KRC ?_ | (refine ga_KRC ?_; intro _hq)))
        exact ⟨(i + 1, mxD s b7), hinv, ⟨by rfl, (by repeat (first | exact trivial | refine ⟨by rfl, ?_⟩ | refine ⟨vI_of (by rfl) (by omega), ?_⟩)), (by repeat (first | exact trivial | refine ⟨by rfl, ?_⟩ | refine ⟨vI_of (by rfl) (by omega), ?_⟩))⟩, (by first | omega | (dsimp only; omega))⟩
    · have hd : decide ((i : Int) < (L.length : Int)) = false := by simp; omega
      rw [List.drop_of_length_le h5, stM] at hy
      rw [← hy] at hz
      clear hy
      (repeat (first | refine gq_KRC ?_ | (refine ga_KRC ?_; intro _hq)))
      (refine aw_rd [0, 1, 5, 6, 9, 21, 22, 23, 41, 42] [320, 656] (fun q : Nat × List Int => [(43, vI q.1)]) (fun q => [(96, (0, bxE q.2))]) (fun q => q.1 ≤ L.length ∧ q.2.length = 8 ∧ (∀ v ∈ q.2, 0 ≤ v ∧ v ≤ ((j + 1 : Nat) : Int)) ∧ upM (s + 1) q.2 (L.drop q.1) = upM (s + 1) bz L) (fun q => L.length - q.1) (0, bz) (by rfl) (by rfl) ?_ (by rfl) (by repeat (first | exact trivial | refine ⟨by rfl, ?_⟩ | refine ⟨vI_of (by rfl) (by omega), ?_⟩)) (by repeat (first | exact trivial | refine ⟨by rfl, ?_⟩ | refine ⟨vI_of (by rfl) (by omega), ?_⟩)) ?_)
      · exact ⟨Nat.zero_le _, h8, fun v hv => by have := hbd v hv; omega, by rw [List.drop_zero]⟩
      rintro ⟨i2, bq⟩ ⟨hi2, h82, hbd2, hu⟩
      dsimp only at hi2 h82 hbd2 hu ⊢
      rcases Nat.lt_or_ge i2 L.length with h7 | h7
      · have hd3 : decide ((i2 : Int) < (L.length : Int)) = true := by simpa using h7
        obtain ⟨x, hx⟩ : ∃ x, L.getD (i2 : Int).toNat (Cel.no : Int) = x := ⟨_, rfl⟩
        have hx' : L.getD i2 0 = x := hx
        have hxb : 0 ≤ x ∧ x < n := hlb x (by rw [← hx', List.getD_eq_getElem?_getD, List.getElem?_eq_getElem h7]; exact List.getElem_mem h7)
        rw [dropI h7, hx', upM] at hu
        have hinv : i2 + 1 ≤ L.length ∧ (bq.set x.toNat (s + 1)).length = 8 ∧ (∀ v ∈ bq.set x.toNat (s + 1), 0 ≤ v ∧ v ≤ ((j + 1 : Nat) : Int)) ∧ upM (s + 1) (bq.set x.toNat (s + 1)) (L.drop (i2 + 1)) = upM (s + 1) bz L := ⟨h7, by rw [List.length_set]; exact h82, bd_set hbd2 (by omega) _, hu⟩
        clear hu hz hlb hbd hbd2 hol
        (repeat (first | refine gq_KRC ?_ | (refine ga_KRC ?_; intro _hq)))
        rw [hx]
        clear hx hx'
        obtain ⟨b0, b1, b2, b3, b4, b5, b6, b7, rfl⟩ := list8 h82
        have h' : x = 0 ∨ x = 1 ∨ x = 2 ∨ x = 3 ∨ x = 4 ∨ x = 5 ∨ x = 6 ∨ x = 7 := by omega
        rcases h' with rfl | rfl | rfl | rfl | rfl | rfl | rfl | rfl
        · (repeat (first | refine gq_KRC ?_ | (refine ga_KRC ?_; intro _hq)))
          exact ⟨(i2 + 1, [s + 1, b1, b2, b3, b4, b5, b6, b7]), hinv, ⟨by rfl, (by repeat (first | exact trivial | refine ⟨by rfl, ?_⟩ | refine ⟨vI_of (by rfl) (by omega), ?_⟩)), (by repeat (first | exact trivial | refine ⟨by rfl, ?_⟩ | refine ⟨vI_of (by rfl) (by omega), ?_⟩))⟩, (by first | omega | (dsimp only; omega))⟩
        · (repeat (first | refine gq_KRC ?_ | (refine ga_KRC ?_; intro _hq)))
          exact ⟨(i2 + 1, [b0, s + 1, b2, b3, b4, b5, b6, b7]), hinv, ⟨by rfl, (by repeat (first | exact trivial | refine ⟨by rfl, ?_⟩ | refine ⟨vI_of (by rfl) (by omega), ?_⟩)), (by repeat (first | exact trivial | refine ⟨by rfl, ?_⟩ | refine ⟨vI_of (by rfl) (by omega), ?_⟩))⟩, (by first | omega | (dsimp only; omega))⟩
        · (repeat (first | refine gq_KRC ?_ | (refine ga_KRC ?_; intro _hq)))
          exact ⟨(i2 + 1, [b0, b1, s + 1, b3, b4, b5, b6, b7]), hinv, ⟨by rfl, (by repeat (first | exact trivial | refine ⟨by rfl, ?_⟩ | refine ⟨vI_of (by rfl) (by omega), ?_⟩)), (by repeat (first | exact trivial | refine ⟨by rfl, ?_⟩ | refine ⟨vI_of (by rfl) (by omega), ?_⟩))⟩, (by first | omega | (dsimp only; omega))⟩
        · (repeat (first | refine gq_KRC ?_ | (refine ga_KRC ?_; intro _hq)))
          exact ⟨(i2 + 1, [b0, b1, b2, s + 1, b4, b5, b6, b7]), hinv, ⟨by rfl, (by repeat (first | exact trivial | refine ⟨by rfl, ?_⟩ | refine ⟨vI_of (by rfl) (by omega), ?_⟩)), (by repeat (first | exact trivial | refine ⟨by rfl, ?_⟩ | refine ⟨vI_of (by rfl) (by omega), ?_⟩))⟩, (by first | omega | (dsimp only; omega))⟩
        · (repeat (first | refine gq_KRC ?_ | (refine ga_KRC ?_; intro _hq)))
          exact ⟨(i2 + 1, [b0, b1, b2, b3, s + 1, b5, b6, b7]), hinv, ⟨by rfl, (by repeat (first | exact trivial | refine ⟨by rfl, ?_⟩ | refine ⟨vI_of (by rfl) (by omega), ?_⟩)), (by repeat (first | exact trivial | refine ⟨by rfl, ?_⟩ | refine ⟨vI_of (by rfl) (by omega), ?_⟩))⟩, (by first | omega | (dsimp only; omega))⟩
        · (repeat (first | refine gq_KRC ?_ | (refine ga_KRC ?_; intro _hq)))
          exact ⟨(i2 + 1, [b0, b1, b2, b3, b4, s + 1, b6, b7]), hinv, ⟨by rfl, (by repeat (first | exact trivial | refine ⟨by rfl, ?_⟩ | refine ⟨vI_of (by rfl) (by omega), ?_⟩)), (by repeat (first | exact trivial | refine ⟨by rfl, ?_⟩ | refine ⟨vI_of (by rfl) (by omega), ?_⟩))⟩, (by first | omega | (dsimp only; omega))⟩
        · (repeat (first | refine gq_KRC ?_ | (refine ga_KRC ?_; intro _hq)))
          exact ⟨(i2 + 1, [b0, b1, b2, b3, b4, b5, s + 1, b7]), hinv, ⟨by rfl, (by repeat (first | exact trivial | refine ⟨by rfl, ?_⟩ | refine ⟨vI_of (by rfl) (by omega), ?_⟩)), (by repeat (first | exact trivial | refine ⟨by rfl, ?_⟩ | refine ⟨vI_of (by rfl) (by omega), ?_⟩))⟩, (by first | omega | (dsimp only; omega))⟩
        · (repeat (first | refine gq_KRC ?_ | (refine ga_KRC ?_; intro _hq)))
          exact ⟨(i2 + 1, [b0, b1, b2, b3, b4, b5, b6, s + 1]), hinv, ⟨by rfl, (by repeat (first | exact trivial | refine ⟨by rfl, ?_⟩ | refine ⟨vI_of (by rfl) (by omega), ?_⟩)), (by repeat (first | exact trivial | refine ⟨by rfl, ?_⟩ | refine ⟨vI_of (by rfl) (by omega), ?_⟩))⟩, (by first | omega | (dsimp only; omega))⟩
      · have hd3 : decide ((i2 : Int) < (L.length : Int)) = false := by simp; omega
        rw [List.drop_of_length_le h7, upM] at hu
        have hinv : j + 1 ≤ c.length ∧ bq.length = 8 ∧ (o ++ [s + 1]).length = j + 1 ∧ (∀ v ∈ bq, 0 ≤ v ∧ v ≤ ((j + 1 : Nat) : Int)) ∧ (o ++ [s + 1]) ++ stp bq (c.drop (j + 1)) = stp bz0 c := by
          refine ⟨h6, h82, by rw [List.length_append, hol]; rfl, hbd2, ?_⟩
          rw [hu, List.append_assoc]; exact hz
        clear hu hz hlb hbd hbd2
        (repeat (first | refine gq_KRC ?_ | (refine ga_KRC ?_; intro _hq)))
        exact ⟨(j + 1, u + 1, o ++ [s + 1], bq), hinv, ⟨by rfl, (by repeat (first | exact trivial | refine ⟨by rfl, ?_⟩ | refine ⟨vI_of (by rfl) (by omega), ?_⟩)), (by repeat (first | exact trivial | refine ⟨by rfl, ?_⟩ | refine ⟨vI_of (by rfl) (by omega), ?_⟩))⟩, (by first | omega | (dsimp only; omega))⟩
  · have hd2 : decide ((j : Int) < (c.length : Int)) = false := by simp; omega
    rw [List.drop_of_length_le h6] at hz
    replace hz : o = stp bz0 c := by rw [← hz]; simp [stp]
    subst hz
    (repeat (first | refine gq_KRC ?_ | (refine ga_KRC ?_; intro _hq)))
    ((try refine aw_ret ?_); refine ret_auto2 (by rfl) (by rfl) (by rfl) (by repeat (first | exact trivial | refine ⟨by first | rfl | omega, ?_⟩)) ?_ (by repeat (first | exact trivial | refine ⟨by rfl, by rfl, ?_⟩)) (by repeat (first | exact trivial | refine ⟨by rfl, by rfl, ?_⟩)); try rfl)
theorem dep_drop {S : List Int} {i : Nat} {m : Int} (h : i < S.length) : (S.drop i).foldl mxD m = (S.drop (i + 1)).foldl mxD (mxD m (S.getD i 0)) := by rw [dropI h]; rfl
theorem stp_len : ∀ (c : List Gt) (bz : List Int), (stp bz c).length = c.length
  | [], _ => rfl
  | g :: c, bz => by rw [stp, List.length_cons, List.length_cons, stp_len c]
theorem k_depth (n : Int) (c : List Gt) (h : cokB n c = true) : Kon Try.prog 11 [vI n, roA c] [] (vI (depM (stp bz0 c))) [] [] := by
  have hS := k_steps n c h
  have hb := cokB_t h
  have hK := k_cv n c (by omega)
  rw [h] at hK
  clear h
  have hSl : (stp bz0 c).length ≤ 24 := by rw [stp_len]; exact hb.2.1
  generalize stp bz0 c = S at hS hSl ⊢
  (refine kon_mk T0ok (fn := Try.f11) (c := Try.f11.body.get rfl) Try.func11 rfl (by rfl) (by rfl) (by rfl) ?_; intro hfit hfe)
  (repeat (first | refine gq_KRC ?_ | (refine ga_KRC ?_; intro _hq)))
  (refine aw_rd [0, 1, 14, 15] [224] (fun q : Nat × Int => [(5, vI q.2), (16, vI q.1)]) (fun _ => []) (fun q => q.1 ≤ S.length ∧ (S.drop q.1).foldl mxD q.2 = depM S) (fun q => S.length - q.1) (0, 0) (by rfl) (by rfl) ?_ (by rfl) (by repeat (first | exact trivial | refine ⟨by rfl, ?_⟩ | refine ⟨vI_of (by rfl) (by omega), ?_⟩)) (by repeat (first | exact trivial | refine ⟨by rfl, ?_⟩ | refine ⟨vI_of (by rfl) (by omega), ?_⟩)) ?_)
  · exact ⟨Nat.zero_le _, rfl⟩
  rintro ⟨i, m⟩ ⟨hi, hz⟩
  dsimp only at hi hz ⊢
  rcases Nat.lt_or_ge i S.length with h5 | h5
  · have hd : decide ((i : Int) < (S.length : Int)) = true := by simpa using h5
    rw [dep_drop h5] at hz
    have hinv : i + 1 ≤ S.length ∧ (S.drop (i + 1)).foldl mxD (mxD m (S.getD i 0)) = depM S := ⟨h5, hz⟩
    clear hz
    (repeat (first | refine gq_KRC ?_ | (refine ga_KRC ?_; intro _hq)))
    exact ⟨(i + 1, mxD m (S.getD i 0)), hinv, ⟨by rfl, (by repeat (first | exact trivial | refine ⟨by rfl, ?_⟩ | refine ⟨vI_of (by rfl) (by omega), ?_⟩)), (by repeat (first | exact trivial | refine ⟨by rfl, ?_⟩ | refine ⟨vI_of (by rfl) (by omega), ?_⟩))⟩, (by first | omega | (dsimp only; omega))⟩
  · have hd : decide ((i : Int) < (S.length : Int)) = false := by simp; omega
    rw [List.drop_of_length_le h5] at hz
    replace hz : m = depM S := hz
    rw [← hz]
    clear hz
    (repeat (first | refine gq_KRC ?_ | (refine ga_KRC ?_; intro _hq)))
    ((try refine aw_ret ?_); refine ret_auto2 (by rfl) (by rfl) (by rfl) (by repeat (first | exact trivial | refine ⟨by first | rfl | omega, ?_⟩)) ?_ (by repeat (first | exact trivial | refine ⟨by rfl, by rfl, ?_⟩)) (by repeat (first | exact trivial | refine ⟨by rfl, by rfl, ?_⟩)); try rfl)
end Go.Proofs.Ythdniogjiokekaa
