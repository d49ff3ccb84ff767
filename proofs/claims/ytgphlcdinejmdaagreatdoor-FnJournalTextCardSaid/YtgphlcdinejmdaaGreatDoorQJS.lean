/- PX, DJA, DU, LI, DR, ShlB, LJ, DI, ShlC: laid into one text. -/
import Derived.Test.YtgphlcdinejmdaaGreatDoorQJF
import Derived.Test.YtgphlcdinejmdaaGreatDoorQJG
import Derived.Test.YtgphlcdinejmdaaGreatDoorQJI
import Derived.Test.YtgphlcdinejmdaaGreatDoorQJQ
import Derived.Test.YtgphlcdinejmdaaGreatDoorQJR
import Derived.Shelf.Lays
import Derived.Shelf.LaysC
import Derived.Shelf.Strconv.AtoiAll
import Derived.Shelf.Strings.Split
import Derived.Test.YtgphlcdinejmdaaGreatDoorProg
import Derived.Lib.AtoiErrMem
import Derived.Shelf.Strings.Cut

/- Texts of journals; which journal a text begins with. -/
namespace Go.Proofs.YtgphlcdinejmdaaGreatDoor
set_option linter.unusedVariables false
set_option linter.unusedSimpArgs false
open Go.Lib (decDigits)
abbrev dT (d : Dd) : List UInt8 := dtx d.k d.n d.p
/-- Lines, each with its newline. -/
def jt : List Dd → List UInt8
  | [] => []
  | d :: l => dT d ++ 10 :: jt l
/-- Each deed has a text. -/
def jall (l : List Dd) : Bool := l.all (fun d => !(dT d == []))
def jtx (l : List Dd) : List UInt8 := if jall l = true then jt l else []
theorem dd2_nl : ∀ n : Fin 100, (dd2 n.val).contains 10 = false := by decide +kernel
theorem not_mem_of {l : List UInt8} {c : UInt8} (h : l.contains c = false) : c ∉ l := fun hm => by
  rw [List.contains_iff_mem.2 hm] at h; cases h
theorem dx_nl {x : Int} (h : 0 ≤ x ∧ x < 100) : (10 : UInt8) ∉ dx x := by
  have h2 := dd2_nl ⟨x.toNat, by omega⟩
  dsimp only at h2
  show (10 : UInt8) ∉ decDigits x.toNat
  rw [dd2_eq (by omega)]
  exact not_mem_of h2
theorem dnm_nl (k : Int) : (10 : UInt8) ∉ dnm k := not_mem_of (by
  unfold dnm
  repeat (split; rfl)
  rfl)
theorem gnm_nl (k : Int) : (10 : UInt8) ∉ gnm k := not_mem_of (by
  unfold gnm
  repeat (split; rfl)
  rfl)
theorem gtT_nl {g : Gt} (h : gok 8 g = true) : (10 : UInt8) ∉ gtT g := by
  obtain ⟨_, _, ha, hb, hc⟩ := gok_bd h
  have h0 := gnm_nl 0
  have h1 := gnm_nl g.k
  have a := dx_nl (x := g.a) (by omega)
  have b := dx_nl (x := g.b) (by omega)
  have c := dx_nl (x := g.c) (by omega)
  have d : ¬ ((10 : UInt8) = 32) := by decide
  unfold gtT
  split
  · simp only [List.mem_append, List.mem_cons, List.not_mem_nil, or_false, not_or]; exact ⟨⟨h0, d⟩, a⟩
  split
  · simp only [List.mem_append, List.mem_cons, List.not_mem_nil, or_false, not_or]; exact ⟨⟨⟨⟨h1, d⟩, a⟩, d⟩, b⟩
  · simp only [List.mem_append, List.mem_cons, List.not_mem_nil, or_false, not_or]; exact ⟨⟨⟨⟨⟨⟨h1, d⟩, a⟩, d⟩, b⟩, d⟩, c⟩
theorem dtx_nl (k n : Int) (p : Gt) : (10 : UInt8) ∉ dtx k n p := by
  have d : ¬ ((10 : UInt8) = 32) := by decide
  unfold dtx
  split
  · split
    · rename_i hc
      simp only [List.mem_append, List.mem_cons, List.not_mem_nil, or_false, not_or]
      exact ⟨⟨dnm_nl k, d⟩, dx_nl (by omega)⟩
    · exact List.not_mem_nil
  split
  · split
    · rename_i hc
      simp only [List.mem_append, List.mem_cons, List.not_mem_nil, or_false, not_or]
      exact ⟨⟨dnm_nl 2, d⟩, gtT_nl hc.2⟩
    · exact List.not_mem_nil
  split
  · split
    · exact dnm_nl k
    · exact List.not_mem_nil
  · exact List.not_mem_nil
theorem app_uni {c : UInt8} : ∀ {a b x y : List UInt8}, c ∉ a → c ∉ b → a ++ c :: x = b ++ c :: y → a = b ∧ x = y
  | [], [], x, y, _, _, e => by injection e with _ e; exact ⟨rfl, e⟩
  | [], u :: b, x, y, _, hb, e => by injection e with e _; exact absurd (by rw [e]; exact List.mem_cons_self) hb
  | u :: a, [], x, y, ha, _, e => by injection e with e _; exact absurd (by rw [e]; exact List.mem_cons_self) ha
  | u :: a, v :: b, x, y, ha, hb, e => by
    injection e with e1 e2
    obtain ⟨h1, h2⟩ := app_uni (fun h => ha (List.mem_cons_of_mem _ h)) (fun h => hb (List.mem_cons_of_mem _ h)) e2
    exact ⟨by rw [e1, h1], h2⟩
/-- With these deeds, in so many bytes, a text begins, and with no more. -/
def JR (s : List UInt8) (l : List Dd) (n : Nat) : Prop :=
  jall l = true ∧ ∃ r, s = jt l ++ r ∧ n = (jt l).length ∧ ∀ a b, r = a ++ 10 :: b → (10 : UInt8) ∉ a → ∀ k n p, ¬ DOk a k n p
theorem jall_cons {d : Dd} {l : List Dd} : jall (d :: l) = true ↔ (dT d ≠ [] ∧ jall l = true) := by
  unfold jall
  rw [List.all_cons, Bool.and_eq_true, Bool.not_eq_true', beq_eq_false_iff_ne]
theorem jall_snoc {d : Dd} : ∀ {l : List Dd}, jall l = true → dT d ≠ [] → jall (l ++ [d]) = true
  | [], _, h => jall_cons.2 ⟨h, rfl⟩
  | e :: l, hl, h => jall_cons.2 ⟨(jall_cons.1 hl).1, jall_snoc (jall_cons.1 hl).2 h⟩
theorem jt_app : ∀ (l m : List Dd), jt (l ++ m) = jt l ++ jt m
  | [], m => rfl
  | d :: l, m => by rw [List.cons_append, jt, jt, jt_app l m, List.append_assoc]; rfl
theorem jt_snoc (l : List Dd) (d : Dd) : jt (l ++ [d]) = jt l ++ (dT d ++ [10]) := jt_app l [d]
theorem jt_len : ∀ (l : List Dd), l.length ≤ (jt l).length ∧ (jt l).length ≤ 21 * l.length
  | [] => ⟨Nat.le_refl _, Nat.le_refl _⟩
  | d :: l => by
    have := jt_len l
    have h : (dT d).length ≤ 20 := dtx_len d.k d.n d.p
    rw [jt]
    simp only [List.length_append, List.length_cons]
    omega
theorem dd_ext2 {d e : Dd} (h1 : d.k = e.k) (h2 : d.n = e.n) (h3 : d.p = e.p) : d = e := by
  obtain ⟨a, b, c⟩ := d
  obtain ⟨a', b', c'⟩ := e
  dsimp only at h1 h2 h3
  rw [h1, h2, h3]
theorem dT_uni {d e : Dd} (hd : dT d ≠ []) (h : dT d = dT e) : d = e := by
  obtain ⟨a, b, c⟩ := d_uni (s := dT d) (k := d.k) (n := d.n) (p := d.p) ⟨rfl, hd⟩ ⟨h.symm, hd⟩
  exact dd_ext2 a b c
theorem jr_uni : ∀ {l l' : List Dd} {s : List UInt8} {n n' : Nat}, JR s l n → JR s l' n' → l = l' ∧ n = n'
  | [], [], s, n, n', ⟨_, r, _, h, _⟩, ⟨_, r', _, h', _⟩ => ⟨rfl, by rw [h, h']⟩
  | [], d :: l', s, n, n', ⟨_, r, e, h, hm⟩, ⟨ha, r', e', h', _⟩ => by
    have hd := (jall_cons.1 ha).1
    rw [e, jt, jt, List.append_assoc] at e'
    exact absurd (⟨rfl, hd⟩ : DOk (dT d) d.k d.n d.p) (hm (dT d) (jt l' ++ r') e' (dtx_nl _ _ _) _ _ _)
  | d :: l, [], s, n, n', ⟨ha, r, e, h, _⟩, ⟨_, r', e', h', hm⟩ => by
    have hd := (jall_cons.1 ha).1
    rw [e', jt, jt, List.append_assoc] at e
    exact absurd (⟨rfl, hd⟩ : DOk (dT d) d.k d.n d.p) (hm (dT d) (jt l ++ r) e (dtx_nl _ _ _) _ _ _)
  | d :: l, d' :: l', s, n, n', ⟨ha, r, e, h, hm⟩, ⟨ha', r', e', h', hm'⟩ => by
    obtain ⟨hd, hl⟩ := jall_cons.1 ha
    obtain ⟨hd', hl'⟩ := jall_cons.1 ha'
    rw [e, jt, jt, List.append_assoc, List.append_assoc] at e'
    obtain ⟨h1, h2⟩ := app_uni (dtx_nl _ _ _) (dtx_nl _ _ _) e'
    obtain rfl := dT_uni hd h1
    obtain ⟨rfl, h3⟩ := jr_uni (s := jt l ++ r) ⟨hl, r, rfl, rfl, hm⟩ ⟨hl', r', h2, rfl, hm'⟩
    exact ⟨rfl, by rw [h, h']⟩
/-- The whole text of a journal. -/
theorem jr_all {l : List Dd} (h : jall l = true) : JR (jt l) l (jt l).length :=
  ⟨h, [], by simp, rfl, fun a b e => by cases a <;> cases e⟩
end Go.Proofs.YtgphlcdinejmdaaGreatDoor

/- Journals: JournalText of the reference. -/
namespace Go.Proofs.YtgphlcdinejmdaaGreatDoor
set_option linter.unusedVariables false
set_option linter.unusedSimpArgs false
set_option maxRecDepth 20000
open Go.RowKit
open Go.Lib (decDigits)
attribute [local irreducible] runA runX AW
theorem gq_DJA {H G : Prop} (k : H) (h : Hid H → G := by (intro hh; (first | (first | ((first | refine r_none ?_ | refine r_gt (by rfl) (by rfl) (by first | rfl | assumption | omega | (simp only [*, Bool.not_false, Bool.not_true]; first | done | fail) | (simp [*]; first | done | fail)) (by rfl) ?_ | refine r_gf (by rfl) (by rfl) (by first | rfl | assumption | omega | (simp only [*, Bool.not_false, Bool.not_true]; first | done | fail) | (simp [*]; first | done | fail)) (by rfl) ?_); (first | (first | refine r_slen (by rfl) Tryz.underlying9 (by rfl) ?_ | refine r_seq (by rfl) (by rfl) (by rfl) ?_ | refine r_sadd (by rfl) (by rfl) (by first | omega | (simp only [List.length_append, List.length_cons, List.length_nil]; omega)) (by rfl) ?_ | refine r_sidx (by rfl) (by rfl) Tryz.underlying9 (by omega) (by rfl) ?_ | refine r_spiece (by rfl) (by rfl) (by rfl) Tryz.underlying9 (.inr rfl) (.inr rfl) (by omega) (by rfl) ?_ | refine r_spiece (by rfl) (by rfl) (by rfl) Tryz.underlying9 (.inr rfl) (.inl ⟨rfl, rfl⟩) (by omega) (by rfl) ?_) | ((first | (refine z_op (by rfl) ?_; first | refine z_ok ?_ ?_ | refine z_ex ?_ (by first | exact ft_raw rfl rfl | ((first | refine ft_rp rfl rfl rfl ?_ | refine ft_row rfl rfl rfl ?_ | refine ft_rpF rfl rfl rfl ?_ | refine ft_rowF rfl rfl rfl ?_ | refine up_row rfl rfl ?_ | refine up_rowF rfl rfl rfl ?_ | refine ct_0 rfl ?_ | refine ct_r rfl rfl ?_ | refine ct_c rfl rfl rfl ?_ | refine cu_all rfl ?_ | refine cu_to rfl ?_ | refine cu_from rfl ?_ | refine cu_p rfl ?_ | fail); (first | omega | (simp only [List.length_append, List.length_replicate, List.length_cons, List.length_nil, List.length_set, List.length_take, List.length_drop, true_and]; omega))) | exact up_raw rfl | exact pk_t (by first | rfl | assumption | omega | (simp only [*, Bool.not_false, Bool.not_true]; first | done | fail) | (simp [*]; first | done | fail)) rfl | exact pk_f (by first | rfl | assumption | omega | (simp only [*, Bool.not_false, Bool.not_true]; first | done | fail) | (simp [*]; first | done | fail)) rfl | (first | exact rw_c Dd rfl) | exact rw_raw | exact pu_cv (fun w => rfl) (by omega) | exact pu_of (fun w => rfl) rfl | exact be_of (fun w => rfl) | exact nc_of (fun _ _ _ _ => rfl) rfl | exact bu_of (fun w => rfl) rfl | fail) ?_) | ((first | refine q_callE wsT wsZ (by rfl) ?_ | refine q_callVE wsT (by rfl) (by rfl) ?_); refine ⟨_, _, _, (by first | assumption | exact (k_dt _ _ _).2), _, by rfl, ?_, ?_⟩)); focus (first | exact trivial | fail | exact rfl | (first | omega | (simp only [List.length_append, List.length_replicate, List.length_cons, List.length_nil, List.length_set, List.length_take, List.length_drop, true_and]; omega)) | exact cvB (fun w => rfl) | ((repeat' (first | exact rfl | exact cV_len _ | exact cV_ln rfl (by omega) | exact Cel.pos | omega | exact trivial | refine And.intro ?_ ?_)); done) | (simp [*]; done) | (simp; omega))) | fail)) | refine r_nt (by rfl) (by rfl) (by first | rfl | assumption | omega | (simp only [*, Bool.not_false, Bool.not_true]; first | done | fail) | (simp [*]; first | done | fail)) (by rfl) ?_ | refine r_nf (by rfl) (by rfl) (by first | rfl | assumption | omega | (simp only [*, Bool.not_false, Bool.not_true]; first | done | fail) | (simp [*]; first | done | fail)) (by rfl) ?_ | refine r_gu (by rfl) (by rfl) (by rfl) ?_ | refine r_nil ?_) | (first | refine aw_seq ?_ | refine aw_ct (by rfl) (by first | rfl | assumption | omega | (simp only [*, Bool.not_false, Bool.not_true]; first | done | fail) | (simp [*]; first | done | fail)) ?_ | refine aw_cf (by rfl) (by first | rfl | assumption | omega | (simp only [*, Bool.not_false, Bool.not_true]; first | done | fail) | (simp [*]; first | done | fail)) ?_ | refine aw_block ?_ | refine aw_region T0ok cfU_ok (by rfl) ?_ | refine aw_skip ?_ | refine aw_exit ?_ | refine ra_step ?_)); (repeat (first | (first | ((first | refine r_none ?_ | refine r_gt (by rfl) (by rfl) (by first | rfl | assumption | omega | (simp only [*, Bool.not_false, Bool.not_true]; first | done | fail) | (simp [*]; first | done | fail)) (by rfl) ?_ | refine r_gf (by rfl) (by rfl) (by first | rfl | assumption | omega | (simp only [*, Bool.not_false, Bool.not_true]; first | done | fail) | (simp [*]; first | done | fail)) (by rfl) ?_); (first | (first | refine r_slen (by rfl) Tryz.underlying9 (by rfl) ?_ | refine r_seq (by rfl) (by rfl) (by rfl) ?_ | refine r_sadd (by rfl) (by rfl) (by first | omega | (simp only [List.length_append, List.length_cons, List.length_nil]; omega)) (by rfl) ?_ | refine r_sidx (by rfl) (by rfl) Tryz.underlying9 (by omega) (by rfl) ?_ | refine r_spiece (by rfl) (by rfl) (by rfl) Tryz.underlying9 (.inr rfl) (.inr rfl) (by omega) (by rfl) ?_ | refine r_spiece (by rfl) (by rfl) (by rfl) Tryz.underlying9 (.inr rfl) (.inl ⟨rfl, rfl⟩) (by omega) (by rfl) ?_) | ((first | (refine z_op (by rfl) ?_; first | refine z_ok ?_ ?_ | refine z_ex ?_ (by first | exact ft_raw rfl rfl | ((first | refine ft_rp rfl rfl rfl ?_ | refine ft_row rfl rfl rfl ?_ | refine ft_rpF rfl rfl rfl ?_ | refine ft_rowF rfl rfl rfl ?_ | refine up_row rfl rfl ?_ | refine up_rowF rfl rfl rfl ?_ | refine ct_0 rfl ?_ | refine ct_r rfl rfl ?_ | refine ct_c rfl rfl rfl ?_ | refine cu_all rfl ?_ | refine cu_to rfl ?_ | refine cu_from rfl ?_ | refine cu_p rfl ?_ | fail); (first | omega | (simp only [List.length_append, List.length_replicate, List.length_cons, List.length_nil, List.length_set, List.length_take, List.length_drop, true_and]; omega))) | exact up_raw rfl | exact pk_t (by first | rfl | assumption | omega | (simp only [*, Bool.not_false, Bool.not_true]; first | done | fail) | (simp [*]; first | done | fail)) rfl | exact pk_f (by first | rfl | assumption | omega | (simp only [*, Bool.not_false, Bool.not_true]; first | done | fail) | (simp [*]; first | done | fail)) rfl | (first | exact rw_c Dd rfl) | exact rw_raw | exact pu_cv (fun w => rfl) (by omega) | exact pu_of (fun w => rfl) rfl | exact be_of (fun w => rfl) | exact nc_of (fun _ _ _ _ => rfl) rfl | exact bu_of (fun w => rfl) rfl | fail) ?_) | ((first | refine q_callE wsT wsZ (by rfl) ?_ | refine q_callVE wsT (by rfl) (by rfl) ?_); refine ⟨_, _, _, (by first | assumption | exact (k_dt _ _ _).2), _, by rfl, ?_, ?_⟩)); focus (first | exact trivial | fail | exact rfl | (first | omega | (simp only [List.length_append, List.length_replicate, List.length_cons, List.length_nil, List.length_set, List.length_take, List.length_drop, true_and]; omega)) | exact cvB (fun w => rfl) | ((repeat' (first | exact rfl | exact cV_len _ | exact cV_ln rfl (by omega) | exact Cel.pos | omega | exact trivial | refine And.intro ?_ ?_)); done) | (simp [*]; done) | (simp; omega))) | fail)) | refine r_nt (by rfl) (by rfl) (by first | rfl | assumption | omega | (simp only [*, Bool.not_false, Bool.not_true]; first | done | fail) | (simp [*]; first | done | fail)) (by rfl) ?_ | refine r_nf (by rfl) (by rfl) (by first | rfl | assumption | omega | (simp only [*, Bool.not_false, Bool.not_true]; first | done | fail) | (simp [*]; first | done | fail)) (by rfl) ?_ | refine r_gu (by rfl) (by rfl) (by rfl) ?_ | refine r_nil ?_) | (first | refine aw_seq ?_ | refine aw_ct (by rfl) (by first | rfl | assumption | omega | (simp only [*, Bool.not_false, Bool.not_true]; first | done | fail) | (simp [*]; first | done | fail)) ?_ | refine aw_cf (by rfl) (by first | rfl | assumption | omega | (simp only [*, Bool.not_false, Bool.not_true]; first | done | fail) | (simp [*]; first | done | fail)) ?_ | refine aw_block ?_ | refine aw_region T0ok cfU_ok (by rfl) ?_ | refine aw_skip ?_ | refine aw_exit ?_ | refine ra_step ?_))); exact hh.out)) : G := h ⟨k⟩
theorem ga_DJA {H G : Prop} (k : H) (h : Hid H → G := by (intro hh; (first | refine r_none ?_ | refine r_gt (by rfl) (by rfl) (by first | rfl | assumption | omega | (simp only [*, Bool.not_false, Bool.not_true]; first | done | fail) | (simp [*]; first | done | fail)) (by rfl) ?_ | refine r_gf (by rfl) (by rfl) (by first | rfl | assumption | omega | (simp only [*, Bool.not_false, Bool.not_true]; first | done | fail) | (simp [*]; first | done | fail)) (by rfl) ?_); refine z_op (by rfl) ?_; refine z_alV ?_ hh.out; focus (first | exact trivial | fail | exact rfl | (first | omega | (simp only [List.length_append, List.length_replicate, List.length_cons, List.length_nil, List.length_set, List.length_take, List.length_drop, true_and]; omega)) | exact cvB (fun w => rfl) | ((repeat' (first | exact rfl | exact cV_len _ | exact cV_ln rfl (by omega) | exact Cel.pos | omega | exact trivial | refine And.intro ?_ ?_)); done) | (simp [*]; done) | (simp; omega)))) : G := h ⟨k⟩
theorem take_d {l : List Dd} {k : Nat} (h : k < l.length) : l.take (k + 1) = l.take k ++ [l.getD k Cel.no] := by
  rw [List.take_succ_eq_append_getElem h]
  simp [List.getD_eq_getElem?_getD, h]
theorem jall_take {l : List Dd} {k : Nat} (h : k < l.length) (hn : dT (l.getD k Cel.no) = []) : jall l = false := by
  rw [Bool.eq_false_iff]
  intro e
  unfold jall at e
  have := List.all_eq_true.1 e (l.getD k Cel.no) (by simp [List.getD_eq_getElem?_getD, h])
  rw [hn] at this
  cases this
set_option maxHeartbeats 2000000 in
theorem k_jtS (l : List Dd) (hl : l.length ≤ 1048576) : Kon Tryz.prog 15 [roA l] [] (vS (jtx l)) [] [] := by
  (refine kon_mk T0ok (fn := Tryz.f15) (c := Tryz.f15.body.get rfl) Tryz.func15 rfl (by rfl) (by rfl) (by rfl) ?_; intro hfit hfe)
  (repeat (first | refine gq_DJA ?_ | (refine ga_DJA ?_; intro _hq)))
  (refine aw_rd [0] [] (fun g : Nat × List UInt8 => [(3, vS g.2), (4, vI g.1)]) (fun g => []) (fun g => g.1 ≤ l.length ∧ g.2 = jt (l.take g.1) ∧ jall (l.take g.1) = true) (fun g => l.length - g.1) (0, []) (by rfl) (by rfl) ?_ (by rfl) (by repeat (first | exact trivial | refine ⟨by rfl, ?_⟩ | refine ⟨vI_of (by rfl) (by omega), ?_⟩)) (by repeat (first | exact trivial | refine ⟨by rfl, ?_⟩ | refine ⟨vI_of (by rfl) (by omega), ?_⟩)) ?_)
  · exact ⟨Nat.zero_le _, rfl, rfl⟩
  rintro ⟨k, o⟩ ⟨h1, h2, h3⟩
  dsimp only at h1 h2 h3 ⊢
  rcases Nat.lt_or_ge k l.length with h5 | h5
  · have hd : decide ((k : Int) < (l.length : Int)) = true := decide_eq_true (by omega)
    have ho := (jt_len (l.take k)).2
    rw [← h2, List.length_take] at ho
    have hT := (k_dt (l.getD (k : Int).toNat Cel.no).k (l.getD (k : Int).toNat Cel.no).n (l.getD (k : Int).toNat Cel.no).p).2
    have htl := dtx_len (l.getD (k : Int).toNat Cel.no).k (l.getD (k : Int).toNat Cel.no).n (l.getD (k : Int).toNat Cel.no).p
    have ht : dT (l.getD k Cel.no) = dtx (l.getD (k : Int).toNat Cel.no).k (l.getD (k : Int).toNat Cel.no).n (l.getD (k : Int).toNat Cel.no).p := rfl
    have hsn := take_d h5
    cases hb : (dT (l.getD k Cel.no) == []) with
    | true =>
      have e : jtx l = [] := by unfold jtx; rw [jall_take h5 (beq_iff_eq.1 hb)]; rfl
      rw [e]
      rw [ht] at hb
      clear h2 h3 hsn ht ho
      (repeat (first | refine gq_DJA ?_ | (refine ga_DJA ?_; intro _hq)))
      ((try refine aw_ret ?_); refine ret_auto2 (by rfl) (by rfl) (by rfl) (by repeat (first | exact trivial | refine ⟨by first | rfl | omega, ?_⟩)) ?_ (by repeat (first | exact trivial | refine ⟨by rfl, by rfl, ?_⟩)) (by repeat (first | exact trivial | refine ⟨by rfl, by rfl, ?_⟩)); try rfl)
    | false =>
      have hne : dT (l.getD k Cel.no) ≠ [] := beq_eq_false_iff_ne.1 hb
      have hinv : k + 1 ≤ l.length ∧ o ++ (dtx (l.getD (k : Int).toNat Cel.no).k (l.getD (k : Int).toNat Cel.no).n (l.getD (k : Int).toNat Cel.no).p) ++ [10] = jt (l.take (k + 1)) ∧ jall (l.take (k + 1)) = true := by
        refine ⟨h5, ?_, ?_⟩
        · rw [hsn, jt_snoc, ← h2, ← ht, List.append_assoc]
        · rw [hsn]; exact jall_snoc h3 hne
      rw [ht] at hb
      clear h2 h3 hsn ht hne
      (repeat (first | refine gq_DJA ?_ | (refine ga_DJA ?_; intro _hq)))
      exact ⟨(k + 1, o ++ (dtx (l.getD (k : Int).toNat Cel.no).k (l.getD (k : Int).toNat Cel.no).n (l.getD (k : Int).toNat Cel.no).p) ++ [10]), hinv, ⟨by rfl, (by repeat (first | exact trivial | refine ⟨by rfl, ?_⟩ | refine ⟨vI_of (by rfl) (by omega), ?_⟩)), (by repeat (first | exact trivial | refine ⟨by rfl, ?_⟩ | refine ⟨vI_of (by rfl) (by omega), ?_⟩))⟩, (by first | omega | (dsimp only; omega))⟩
  · have hd : decide ((k : Int) < (l.length : Int)) = false := decide_eq_false (by omega)
    obtain rfl : k = l.length := by omega
    rw [List.take_length] at h2 h3
    have e : jtx l = o := by unfold jtx; rw [h3, if_pos rfl, h2]
    rw [e]
    clear h2 h3 e
    (repeat (first | refine gq_DJA ?_ | (refine ga_DJA ?_; intro _hq)))
    ((try refine aw_ret ?_); refine ret_auto2 (by rfl) (by rfl) (by rfl) (by repeat (first | exact trivial | refine ⟨by first | rfl | omega, ?_⟩)) ?_ (by repeat (first | exact trivial | refine ⟨by rfl, by rfl, ?_⟩)) (by repeat (first | exact trivial | refine ⟨by rfl, by rfl, ?_⟩)); try rfl)
end Go.Proofs.YtgphlcdinejmdaaGreatDoor

/- Drawn deeds' texts. -/
namespace Go.Proofs.YtgphlcdinejmdaaGreatDoor
set_option linter.unusedVariables false
set_option linter.unusedSimpArgs false
set_option maxRecDepth 20000
open Go.RowKit
attribute [local irreducible] runA runX AW
def wsTU : WsT := (33, ([0], true)) :: (37, ([0], true)) :: (20, ([0], true)) :: (19, ([0, 1], true)) :: (60, ([0], true)) :: wsT
def wsZU : List (Nat × Nat) := [(19, 4), (60, 4), (999999, 0)]
theorem gq_DU {H G : Prop} (k : H) (h : Hid H → G := by (intro hh; (first | (first | ((first | refine r_none ?_ | refine r_gt (by rfl) (by rfl) (by first | rfl | assumption | omega | (simp only [*, Bool.not_false, Bool.not_true]; first | done | fail) | (simp [*]; first | done | fail)) (by rfl) ?_ | refine r_gf (by rfl) (by rfl) (by first | rfl | assumption | omega | (simp only [*, Bool.not_false, Bool.not_true]; first | done | fail) | (simp [*]; first | done | fail)) (by rfl) ?_); (first | (first | refine r_slen (by rfl) Tryz.underlying9 (by rfl) ?_ | refine r_seq (by rfl) (by rfl) (by rfl) ?_ | refine r_sne (by rfl) (by rfl) (by rfl) ?_ | refine r_sadd (by rfl) (by rfl) (by first | omega | (simp only [List.length_append, List.length_cons, List.length_nil, List.length_take, List.length_drop]; omega)) (by rfl) ?_ | refine r_spiece (q := z) (by rfl) (by rfl) (by rfl) Tryz.underlying9 (.inl ⟨rfl, rfl⟩) (.inr rfl) (by omega) (by rfl) ?_ | refine r_spiece (p := z + 1) (by rfl) (by rfl) (by rfl) Tryz.underlying9 (.inr rfl) (.inl ⟨rfl, rfl⟩) (by omega) (by rfl) ?_) | ((first | (refine z_op (by rfl) ?_; first | refine z_ok ?_ ?_ | refine z_ex ?_ (by first | exact ft_raw rfl rfl | ((first | refine ft_rp rfl rfl rfl ?_ | refine ft_row rfl rfl rfl ?_ | refine ft_rpF rfl rfl rfl ?_ | refine ft_rowF rfl rfl rfl ?_ | refine up_row rfl rfl ?_ | refine up_rowF rfl rfl rfl ?_ | refine ct_0 rfl ?_ | refine ct_r rfl rfl ?_ | refine ct_c rfl rfl rfl ?_ | refine cu_all rfl ?_ | refine cu_to rfl ?_ | refine cu_from rfl ?_ | refine cu_p rfl ?_ | fail); (first | omega | (simp only [List.length_append, List.length_replicate, List.length_cons, List.length_nil, List.length_set, List.length_take, List.length_drop, true_and]; omega))) | exact up_raw rfl | exact pk_t (by first | rfl | assumption | omega | (simp only [*, Bool.not_false, Bool.not_true]; first | done | fail) | (simp [*]; first | done | fail)) rfl | exact pk_f (by first | rfl | assumption | omega | (simp only [*, Bool.not_false, Bool.not_true]; first | done | fail) | (simp [*]; first | done | fail)) rfl | (first | exact rw_c (List UInt8) rfl | exact rw_c Dd rfl) | exact rw_raw | exact pu_cv (fun w => rfl) (by omega) | exact pu_of (fun w => rfl) rfl | exact be_of (fun w => rfl) | exact nc_of (fun _ _ _ _ => rfl) rfl | exact bu_of (fun w => rfl) rfl | fail) ?_) | ((first | refine q_callE wsTU wsZU (by rfl) ?_ | refine q_callVE wsTU (by rfl) (by rfl) ?_); refine ⟨_, _, _, (by first | assumption | exact k_open _ (by omega) | exact (k_dt _ _ _).2), _, by rfl, ?_, ?_⟩)); focus (first | exact trivial | fail | exact rfl | (first | omega | (simp only [List.length_append, List.length_replicate, List.length_cons, List.length_nil, List.length_set, List.length_take, List.length_drop, true_and]; omega)) | exact cvB (fun w => rfl) | ((repeat' (first | exact rfl | exact cV_len _ | exact cV_ln rfl (by omega) | exact Cel.pos | omega | exact trivial | refine And.intro ?_ ?_)); done) | (simp [*]; done) | (simp; omega))) | fail)) | refine r_nt (by rfl) (by rfl) (by first | rfl | assumption | omega | (simp only [*, Bool.not_false, Bool.not_true]; first | done | fail) | (simp [*]; first | done | fail)) (by rfl) ?_ | refine r_nf (by rfl) (by rfl) (by first | rfl | assumption | omega | (simp only [*, Bool.not_false, Bool.not_true]; first | done | fail) | (simp [*]; first | done | fail)) (by rfl) ?_ | refine r_gu (by rfl) (by rfl) (by rfl) ?_ | refine r_nil ?_) | (first | refine aw_seq ?_ | refine aw_ct (by rfl) (by first | rfl | assumption | omega | (simp only [*, Bool.not_false, Bool.not_true]; first | done | fail) | (simp [*]; first | done | fail)) ?_ | refine aw_cf (by rfl) (by first | rfl | assumption | omega | (simp only [*, Bool.not_false, Bool.not_true]; first | done | fail) | (simp [*]; first | done | fail)) ?_ | refine aw_block ?_ | refine aw_region T0ok cfU_ok (by rfl) ?_ | refine aw_skip ?_ | refine aw_exit ?_ | refine ra_step ?_)); (repeat (first | (first | ((first | refine r_none ?_ | refine r_gt (by rfl) (by rfl) (by first | rfl | assumption | omega | (simp only [*, Bool.not_false, Bool.not_true]; first | done | fail) | (simp [*]; first | done | fail)) (by rfl) ?_ | refine r_gf (by rfl) (by rfl) (by first | rfl | assumption | omega | (simp only [*, Bool.not_false, Bool.not_true]; first | done | fail) | (simp [*]; first | done | fail)) (by rfl) ?_); (first | (first | refine r_slen (by rfl) Tryz.underlying9 (by rfl) ?_ | refine r_seq (by rfl) (by rfl) (by rfl) ?_ | refine r_sne (by rfl) (by rfl) (by rfl) ?_ | refine r_sadd (by rfl) (by rfl) (by first | omega | (simp only [List.length_append, List.length_cons, List.length_nil, List.length_take, List.length_drop]; omega)) (by rfl) ?_ | refine r_spiece (q := z) (by rfl) (by rfl) (by rfl) Tryz.underlying9 (.inl ⟨rfl, rfl⟩) (.inr rfl) (by omega) (by rfl) ?_ | refine r_spiece (p := z + 1) (by rfl) (by rfl) (by rfl) Tryz.underlying9 (.inr rfl) (.inl ⟨rfl, rfl⟩) (by omega) (by rfl) ?_) | ((first | (refine z_op (by rfl) ?_; first | refine z_ok ?_ ?_ | refine z_ex ?_ (by first | exact ft_raw rfl rfl | ((first | refine ft_rp rfl rfl rfl ?_ | refine ft_row rfl rfl rfl ?_ | refine ft_rpF rfl rfl rfl ?_ | refine ft_rowF rfl rfl rfl ?_ | refine up_row rfl rfl ?_ | refine up_rowF rfl rfl rfl ?_ | refine ct_0 rfl ?_ | refine ct_r rfl rfl ?_ | refine ct_c rfl rfl rfl ?_ | refine cu_all rfl ?_ | refine cu_to rfl ?_ | refine cu_from rfl ?_ | refine cu_p rfl ?_ | fail); (first | omega | (simp only [List.length_append, List.length_replicate, List.length_cons, List.length_nil, List.length_set, List.length_take, List.length_drop, true_and]; omega))) | exact up_raw rfl | exact pk_t (by first | rfl | assumption | omega | (simp only [*, Bool.not_false, Bool.not_true]; first | done | fail) | (simp [*]; first | done | fail)) rfl | exact pk_f (by first | rfl | assumption | omega | (simp only [*, Bool.not_false, Bool.not_true]; first | done | fail) | (simp [*]; first | done | fail)) rfl | (first | exact rw_c (List UInt8) rfl | exact rw_c Dd rfl) | exact rw_raw | exact pu_cv (fun w => rfl) (by omega) | exact pu_of (fun w => rfl) rfl | exact be_of (fun w => rfl) | exact nc_of (fun _ _ _ _ => rfl) rfl | exact bu_of (fun w => rfl) rfl | fail) ?_) | ((first | refine q_callE wsTU wsZU (by rfl) ?_ | refine q_callVE wsTU (by rfl) (by rfl) ?_); refine ⟨_, _, _, (by first | assumption | exact k_open _ (by omega) | exact (k_dt _ _ _).2), _, by rfl, ?_, ?_⟩)); focus (first | exact trivial | fail | exact rfl | (first | omega | (simp only [List.length_append, List.length_replicate, List.length_cons, List.length_nil, List.length_set, List.length_take, List.length_drop, true_and]; omega)) | exact cvB (fun w => rfl) | ((repeat' (first | exact rfl | exact cV_len _ | exact cV_ln rfl (by omega) | exact Cel.pos | omega | exact trivial | refine And.intro ?_ ?_)); done) | (simp [*]; done) | (simp; omega))) | fail)) | refine r_nt (by rfl) (by rfl) (by first | rfl | assumption | omega | (simp only [*, Bool.not_false, Bool.not_true]; first | done | fail) | (simp [*]; first | done | fail)) (by rfl) ?_ | refine r_nf (by rfl) (by rfl) (by first | rfl | assumption | omega | (simp only [*, Bool.not_false, Bool.not_true]; first | done | fail) | (simp [*]; first | done | fail)) (by rfl) ?_ | refine r_gu (by rfl) (by rfl) (by rfl) ?_ | refine r_nil ?_) | (first | refine aw_seq ?_ | refine aw_ct (by rfl) (by first | rfl | assumption | omega | (simp only [*, Bool.not_false, Bool.not_true]; first | done | fail) | (simp [*]; first | done | fail)) ?_ | refine aw_cf (by rfl) (by first | rfl | assumption | omega | (simp only [*, Bool.not_false, Bool.not_true]; first | done | fail) | (simp [*]; first | done | fail)) ?_ | refine aw_block ?_ | refine aw_region T0ok cfU_ok (by rfl) ?_ | refine aw_skip ?_ | refine aw_exit ?_ | refine ra_step ?_))); exact hh.out)) : G := h ⟨k⟩
theorem ga_DU {H G : Prop} (k : H) (h : Hid H → G := by (intro hh; (first | refine r_none ?_ | refine r_gt (by rfl) (by rfl) (by first | rfl | assumption | omega | (simp only [*, Bool.not_false, Bool.not_true]; first | done | fail) | (simp [*]; first | done | fail)) (by rfl) ?_ | refine r_gf (by rfl) (by rfl) (by first | rfl | assumption | omega | (simp only [*, Bool.not_false, Bool.not_true]; first | done | fail) | (simp [*]; first | done | fail)) (by rfl) ?_); refine z_op (by rfl) ?_; refine z_alV ?_ hh.out; focus (first | exact trivial | fail | exact rfl | (first | omega | (simp only [List.length_append, List.length_replicate, List.length_cons, List.length_nil, List.length_set, List.length_take, List.length_drop, true_and]; omega)) | exact cvB (fun w => rfl) | ((repeat' (first | exact rfl | exact cV_len _ | exact cV_ln rfl (by omega) | exact Cel.pos | omega | exact trivial | refine And.intro ?_ ?_)); done) | (simp [*]; done) | (simp; omega)))) : G := h ⟨k⟩
def wrt (l : List Dd) : List Dd := l.filter (fun d => !(dT d == []))
theorem wrt_snoc {l : List Dd} {k : Nat} (h : k < l.length) : wrt (l.take (k + 1)) = if (dT (l.getD k Cel.no) == []) = true then wrt (l.take k) else wrt (l.take k) ++ [l.getD k Cel.no] := by
  rw [take_d h]
  unfold wrt
  rw [List.filter_append]
  cases hb : (dT (l.getD k Cel.no) == []) with
  | true => simp only [List.filter_cons, hb]; simp
  | false => simp only [List.filter_cons, hb]; simp
theorem wrt_len (l : List Dd) (k : Nat) : (wrt (l.take k)).length ≤ l.length := by
  have h1 : (wrt (l.take k)).length ≤ (l.take k).length := List.length_filter_le _ _
  rw [List.length_take] at h1; omega
set_option maxHeartbeats 4000000 in
theorem ex_written (l : List UInt8) (c : Int) (h : 0 ≤ c ∧ c ≤ 1000 ∧ l.length ≤ 2000) : ∃ (ds : List Dd) (c' : Int), ds.length ≤ 14 ∧ (0 ≤ c' ∧ c' ≤ 90000) ∧ Kon Tryz.prog 37 [p0] [rdE l c] (slA 0 0 ds) [dRow ds] [rdE l c'] := by
  obtain ⟨L, f, x, c', h3, h4, h5, h6, h7, hK⟩ := ex_bench l c 0 (by omega) (by omega)
  rcases x with _ | ⟨gs, w, A⟩
  · exact absurd rfl (h7 (by omega))
  have hg : gs.length ≤ 25 := (h6 _ rfl).1
  obtain ⟨b, hb⟩ : ∃ b, bok L gs f w (A : Int) = b := ⟨_, rfl⟩
  have hD := k_deeds l c' b L f w A gs (by omega) (by omega) hg hb
  have hp14 := pickI_lt (l := l) (c := c') (n := 14) (by omega)
  have hok := dsN_ok l b L f (((gs, w, A), []), c' + 1) hb hg (pickI l c' 14).toNat
  rcases hx : dsN l b L (((gs, w, A), []), c' + 1) (pickI l c' 14).toNat with ⟨⟨b2, ds⟩, c2⟩
  rw [hx] at hD hok
  dsimp only at hD hok
  obtain ⟨_, _, hdl, hc1, hc2⟩ := hok
  simp only [List.length_nil, Nat.zero_add] at hdl
  refine ⟨wrt ds, c2, ?_, by omega, ?_⟩
  · have := wrt_len ds ds.length
    rw [List.take_length] at this; omega
  clear hx hb h6 h7
  have hdl2 : ds.length ≤ 14 := by omega
  clear hdl
  (refine kon_mk T0ok (fn := Tryz.f37) (c := Tryz.f37.body.get rfl) Tryz.func37 rfl (by rfl) (by rfl) (by rfl) ?_; intro hfit hfe)
  (repeat (first | refine gq_DU ?_ | (refine ga_DU ?_; intro _hq)))
  (refine aw_rd [0, 4] [160, 100000] (fun g : Nat × Nat × List Dd => [(3, .g (.one (.sl 96 g.2.1 g.2.2.length))), (5, vI g.1)]) (fun g => [(96, (g.2.1, dRow g.2.2))]) (fun g => g.1 ≤ ds.length ∧ g.2.2 = wrt (ds.take g.1)) (fun g => ds.length - g.1) (0, 0, []) (by rfl) (by rfl) ?_ (by rfl) (by repeat (first | exact trivial | refine ⟨by rfl, ?_⟩ | refine ⟨vI_of (by rfl) (by omega), ?_⟩)) (by repeat (first | exact trivial | refine ⟨by rfl, ?_⟩ | refine ⟨vI_of (by rfl) (by omega), ?_⟩)) ?_)
  · exact ⟨Nat.zero_le _, rfl⟩
  rintro ⟨k, u, o⟩ ⟨h1, h2⟩
  dsimp only at h1 h2 ⊢
  rcases Nat.lt_or_ge k ds.length with h5 | h5
  · have hd : decide ((k : Int) < (ds.length : Int)) = true := decide_eq_true (by omega)
    have hol := wrt_len ds k
    rw [← h2] at hol
    have hsn := wrt_snoc h5
    rw [← h2] at hsn
    have ht : dT (ds.getD k Cel.no) = dtx (ds.getD (k : Int).toNat Cel.no).k (ds.getD (k : Int).toNat Cel.no).n (ds.getD (k : Int).toNat Cel.no).p := rfl
    cases hb : (dT (ds.getD k Cel.no) == []) with
    | true =>
      rw [hb, if_pos rfl] at hsn
      rw [ht] at hb
      have hb2 : (!(dtx (ds.getD (k : Int).toNat Cel.no).k (ds.getD (k : Int).toNat Cel.no).n (ds.getD (k : Int).toNat Cel.no).p == [])) = false := by rw [hb]; rfl
      have hinv : k + 1 ≤ ds.length ∧ o = wrt (ds.take (k + 1)) := ⟨h5, hsn.symm⟩
      clear h2 hsn ht hb
      (repeat (first | refine gq_DU ?_ | (refine ga_DU ?_; intro _hq)))
      exact ⟨(k + 1, u, o), hinv, ⟨by rfl, (by repeat (first | exact trivial | refine ⟨by rfl, ?_⟩ | refine ⟨vI_of (by rfl) (by omega), ?_⟩)), (by repeat (first | exact trivial | refine ⟨by rfl, ?_⟩ | refine ⟨vI_of (by rfl) (by omega), ?_⟩))⟩, (by first | omega | (dsimp only; omega))⟩
    | false =>
      rw [hb, if_neg (by decide)] at hsn
      rw [ht] at hb
      have hb2 : (!(dtx (ds.getD (k : Int).toNat Cel.no).k (ds.getD (k : Int).toNat Cel.no).n (ds.getD (k : Int).toNat Cel.no).p == [])) = true := by rw [hb]; rfl
      have hinv : k + 1 ≤ ds.length ∧ o ++ [ds.getD (k : Int).toNat Cel.no] = wrt (ds.take (k + 1)) := ⟨h5, hsn.symm⟩
      clear h2 hsn ht hb
      (repeat (first | refine gq_DU ?_ | (refine ga_DU ?_; intro _hq)))
      exact ⟨(k + 1, u + 1, o ++ [ds.getD (k : Int).toNat Cel.no]), hinv, ⟨by rfl, (by repeat (first | exact trivial | refine ⟨by rfl, ?_⟩ | refine ⟨vI_of (by rfl) (by omega), ?_⟩)), (by repeat (first | exact trivial | refine ⟨by rfl, ?_⟩ | refine ⟨vI_of (by rfl) (by omega), ?_⟩))⟩, (by first | omega | (dsimp only; omega))⟩
  · have hd : decide ((k : Int) < (ds.length : Int)) = false := decide_eq_false (by omega)
    obtain rfl : k = ds.length := by omega
    rw [List.take_length] at h2
    rw [← h2]
    clear h2
    (repeat (first | refine gq_DU ?_ | (refine ga_DU ?_; intro _hq)))
    ((try refine aw_ret ?_); refine ret_auto2 (by rfl) (by rfl) (by rfl) (by repeat (first | exact trivial | refine ⟨by first | rfl | omega, ?_⟩)) ?_ (by repeat (first | exact trivial | refine ⟨by rfl, by rfl, ?_⟩)) (by repeat (first | exact trivial | refine ⟨by rfl, by rfl, ?_⟩)); try rfl)
theorem ex_dJT (l : List UInt8) (hl : l.length ≤ 100000000) : ∃ ds : List Dd, ds.length ≤ 15 ∧ Kon Tryz.prog 13 [roA l] [] (slA 0 0 ds) [dRow ds] [] := by
  have h2 : (l.take 2000).length ≤ 2000 := by simp; omega
  obtain ⟨ds, c', h3, h4, hK⟩ := ex_written (l.take 2000) 0 (by omega)
  have hp12 := pickI_lt (l := l.take 2000) (c := c') (n := 12) (by omega)
  have hO := k_odd (l.take 2000) c' 12 (by omega)
  cases hv : (pickI (l.take 2000) c' 12 == 12 - 1) with
  | true =>
    rw [hv] at hO
    refine ⟨ds ++ [⟨9, 0, ⟨0, 0, 0, 0⟩⟩], by simp; omega, ?_⟩
    (refine kon_mk T0ok (fn := Tryz.f13) (c := Tryz.f13.body.get rfl) Tryz.func13 rfl (by rfl) (by rfl) (by rfl) ?_; intro hfit hfe)
    (repeat (first | refine gq_DU ?_ | (refine ga_DU ?_; intro _hq)))
    ((try refine aw_ret ?_); refine ret_auto2 (by rfl) (by rfl) (by rfl) (by repeat (first | exact trivial | refine ⟨by first | rfl | omega, ?_⟩)) ?_ (by repeat (first | exact trivial | refine ⟨by rfl, by rfl, ?_⟩)) (by repeat (first | exact trivial | refine ⟨by rfl, by rfl, ?_⟩)); try rfl)
  | false =>
    rw [hv] at hO
    refine ⟨ds, by omega, ?_⟩
    (refine kon_mk T0ok (fn := Tryz.f13) (c := Tryz.f13.body.get rfl) Tryz.func13 rfl (by rfl) (by rfl) (by rfl) ?_; intro hfit hfe)
    (repeat (first | refine gq_DU ?_ | (refine ga_DU ?_; intro _hq)))
    ((try refine aw_ret ?_); refine ret_auto2 (by rfl) (by rfl) (by rfl) (by repeat (first | exact trivial | refine ⟨by first | rfl | omega, ?_⟩)) ?_ (by repeat (first | exact trivial | refine ⟨by rfl, by rfl, ?_⟩)) (by repeat (first | exact trivial | refine ⟨by rfl, by rfl, ?_⟩)); try rfl)
end Go.Proofs.YtgphlcdinejmdaaGreatDoor

/- Texts cut and digits read, in the reference. -/
namespace Go.Proofs.YtgphlcdinejmdaaGreatDoor
set_option linter.unusedVariables false
set_option linter.unusedSimpArgs false
set_option maxRecDepth 20000
open Go.RowKit
attribute [local irreducible] runA runX AW
abbrev sRow (l : List (List UInt8)) : Ent := rwE 9 l
end Go.Proofs.YtgphlcdinejmdaaGreatDoor

/- ReadGate of the reference. -/
namespace Go.Proofs.YtgphlcdinejmdaaGreatDoor
set_option linter.unusedVariables false
set_option linter.unusedSimpArgs false
set_option maxRecDepth 20000
open Go.RowKit
open Go.Lib (decDigits)
attribute [local irreducible] runA runX AW
abbrev tupG (g : Gt) (b : Bool) : AV := .tup [.agg (gCs g), .one (.v (.bool b))]
end Go.Proofs.YtgphlcdinejmdaaGreatDoor

/- Contracts of Go's library at this program. -/
namespace Go.Proofs.YtgphlcdinejmdaaGreatDoor
set_option linter.unusedVariables false
open Go.Shelf Go.RowKit Go.Lib
def Tryz.laysC172_ren : Go.Shelf.Ren := ⟨fun | 172 => 30 | 244 => 56 | 245 => 57 | 247 => 71 | 279 => 72 | 280 => 73 | 281 => 74 | 282 => 75 | 287 => 93 | 316 => 94 | 171 => 22 | 205 => 95 | 321 => 109 | 322 => 110 | 243 => 46 | 246 => 67 | 283 => 84 | 284 => 85 | 285 => 86 | 286 => 87 | 129 => 102 | 317 => 101 | 318 => 103 | 319 => 104 | 320 => 105 | 337 => 115 | 338 => 116 | n => n, fun | 9 => 9 | 3 => 3 | 75 => 56 | 76 => 57 | 4 => 4 | 5 => 5 | 167 => 105 | 37 => 22 | 0 => 0 | 85 => 106 | 2 => 2 | 168 => 108 | 53 => 121 | 175 => 128 | 46 => 127 | 210 => 132 | 127 => 95 | 145 => 148 | 143 => 146 | 21 => 21 | 171 => 120 | 173 => 124 | 212 => 137 | 51 => 138 | 20 => 20 | 213 => 139 | 232 => 153 | 233 => 154 | 80 => 71 | n => n, fun | 15 => 1 | 16 => 2 | 17 => 3 | 18 => 4 | 19 => 5 | n => n⟩
theorem Tryz.laysC172 : Go.Proofs.LaysC.n172 Tryz.prog Tryz.laysC172_ren := {
  mixed := by kernel_rfl
  f129 := Tryz.func102.trans (congrArg some (by kernel_rfl))
  f171 := Tryz.func22.trans (congrArg some (by kernel_rfl))
  f172 := Tryz.func30.trans (congrArg some (by kernel_rfl))
  f205 := Tryz.func95.trans (congrArg some (by kernel_rfl))
  f243 := Tryz.func46.trans (congrArg some (by kernel_rfl))
  f244 := Tryz.func56.trans (congrArg some (by kernel_rfl))
  f245 := Tryz.func57.trans (congrArg some (by kernel_rfl))
  f246 := Tryz.func67.trans (congrArg some (by kernel_rfl))
  f247 := Tryz.func71.trans (congrArg some (by kernel_rfl))
  f279 := Tryz.func72.trans (congrArg some (by kernel_rfl))
  f280 := Tryz.func73.trans (congrArg some (by kernel_rfl))
  f281 := Tryz.func74.trans (congrArg some (by kernel_rfl))
  f282 := Tryz.func75.trans (congrArg some (by kernel_rfl))
  f283 := Tryz.func84.trans (congrArg some (by kernel_rfl))
  f284 := Tryz.func85.trans (congrArg some (by kernel_rfl))
  f285 := Tryz.func86.trans (congrArg some (by kernel_rfl))
  f286 := Tryz.func87.trans (congrArg some (by kernel_rfl))
  f287 := Tryz.func93.trans (congrArg some (by kernel_rfl))
  f316 := Tryz.func94.trans (congrArg some (by kernel_rfl))
  f317 := Tryz.func101.trans (congrArg some (by kernel_rfl))
  f318 := Tryz.func103.trans (congrArg some (by kernel_rfl))
  f319 := Tryz.func104.trans (congrArg some (by kernel_rfl))
  f320 := Tryz.func105.trans (congrArg some (by kernel_rfl))
  f321 := Tryz.func109.trans (congrArg some (by kernel_rfl))
  f322 := Tryz.func110.trans (congrArg some (by kernel_rfl))
  f337 := Tryz.func115.trans (congrArg some (by kernel_rfl))
  f338 := Tryz.func116.trans (congrArg some (by kernel_rfl))
  t0 := Tryz.underlying0
  a0 := Tryz.isAgg0
  z0 := Tryz.sizeOf0
  v0 := Tryz.zeroValue0
  t2 := Tryz.underlying2
  a2 := Tryz.isAgg2
  z2 := Tryz.sizeOf2
  v2 := Tryz.zeroValue2
  t3 := Tryz.underlying3
  a3 := Tryz.isAgg3
  z3 := Tryz.sizeOf3
  v3 := Tryz.zeroValue3
  t4 := Tryz.underlying4
  a4 := Tryz.isAgg4
  z4 := Tryz.sizeOf4
  v4 := Tryz.zeroValue4
  t5 := Tryz.underlying5
  a5 := Tryz.isAgg5
  z5 := Tryz.sizeOf5
  v5 := Tryz.zeroValue5
  t9 := Tryz.underlying9
  a9 := Tryz.isAgg9
  z9 := Tryz.sizeOf9
  v9 := Tryz.zeroValue9
  t20 := Tryz.underlying20
  a20 := Tryz.isAgg20
  z20 := Tryz.sizeOf20
  v20 := Tryz.zeroValue20
  t21 := Tryz.underlying21
  a21 := Tryz.isAgg21
  z21 := Tryz.sizeOf21
  v21 := Tryz.zeroValue21
  t37 := Tryz.underlying22
  a37 := Tryz.isAgg22
  z37 := Tryz.sizeOf22
  v37 := Tryz.zeroValue22
  t46 := Tryz.underlying127
  a46 := Tryz.isAgg127
  z46 := Tryz.sizeOf127
  v46 := Tryz.zeroValue127
  t51 := Tryz.underlying138
  a51 := Tryz.isAgg138
  z51 := Tryz.sizeOf138
  v51 := Tryz.zeroValue138
  t53 := Tryz.underlying121
  a53 := Tryz.isAgg121
  z53 := Tryz.sizeOf121
  v53 := Tryz.zeroValue121
  t75 := Tryz.underlying56
  a75 := Tryz.isAgg56
  z75 := Tryz.sizeOf56
  v75 := Tryz.zeroValue56
  t76 := Tryz.underlying57
  a76 := Tryz.isAgg57
  z76 := Tryz.sizeOf57
  v76 := Tryz.zeroValue57
  t85 := Tryz.underlying106
  a85 := Tryz.isAgg106
  z85 := Tryz.sizeOf106
  v85 := Tryz.zeroValue106
  t127 := Tryz.underlying95
  a127 := Tryz.isAgg95
  z127 := Tryz.sizeOf95
  v127 := Tryz.zeroValue95
  t143 := Tryz.underlying146
  a143 := Tryz.isAgg146
  z143 := Tryz.sizeOf146
  v143 := Tryz.zeroValue146
  t145 := Tryz.underlying148
  a145 := Tryz.isAgg148
  z145 := Tryz.sizeOf148
  v145 := Tryz.zeroValue148
  t167 := Tryz.underlying105
  a167 := Tryz.isAgg105
  z167 := Tryz.sizeOf105
  v167 := Tryz.zeroValue105
  t168 := Tryz.underlying108
  a168 := Tryz.isAgg108
  z168 := Tryz.sizeOf108
  v168 := Tryz.zeroValue108
  t171 := Tryz.underlying120
  a171 := Tryz.isAgg120
  z171 := Tryz.sizeOf120
  v171 := Tryz.zeroValue120
  t173 := Tryz.underlying124
  a173 := Tryz.isAgg124
  z173 := Tryz.sizeOf124
  v173 := Tryz.zeroValue124
  t175 := Tryz.underlying128
  a175 := Tryz.isAgg128
  z175 := Tryz.sizeOf128
  v175 := Tryz.zeroValue128
  t210 := Tryz.underlying132
  a210 := Tryz.isAgg132
  z210 := Tryz.sizeOf132
  v210 := Tryz.zeroValue132
  t212 := Tryz.underlying137
  a212 := Tryz.isAgg137
  z212 := Tryz.sizeOf137
  v212 := Tryz.zeroValue137
  t213 := Tryz.underlying139
  a213 := Tryz.isAgg139
  z213 := Tryz.sizeOf139
  t232 := Tryz.underlying153
  a232 := Tryz.isAgg153
  z232 := Tryz.sizeOf153
  v232 := Tryz.zeroValue153
  t233 := Tryz.underlying154
  a233 := Tryz.isAgg154
  z233 := Tryz.sizeOf154
  v233 := Tryz.zeroValue154
  g15 := by kernel_rfl
  g16 := by kernel_rfl
  g17 := by kernel_rfl
  g18 := by kernel_rfl
  g19 := by kernel_rfl
  t80 := Tryz.underlying71
  a80 := Tryz.isAgg71
  z80 := Tryz.sizeOf71
  v80 := Tryz.zeroValue71
  i0 := by kernel_rfl
  i2 := by kernel_rfl
  i3 := by kernel_rfl
  i4 := by kernel_rfl
  i5 := by kernel_rfl
  i9 := by kernel_rfl
  i20 := by kernel_rfl
  i21 := by kernel_rfl
  i37 := by kernel_rfl
  i46 := by kernel_rfl
  i51 := by kernel_rfl
  i53 := by kernel_rfl
  i75 := by kernel_rfl
  i76 := by kernel_rfl
  i80 := by kernel_rfl
  i85 := by kernel_rfl
  i127 := by kernel_rfl
  i143 := by kernel_rfl
  i145 := by kernel_rfl
  i167 := by kernel_rfl
  i168 := by kernel_rfl
  i171 := by kernel_rfl
  i173 := by kernel_rfl
  i175 := by kernel_rfl
  i210 := by kernel_rfl
  i212 := by kernel_rfl
  i232 := by kernel_rfl
  i233 := by kernel_rfl
  m15 := by kernel_rfl
  m16 := by kernel_rfl
  m17 := by kernel_rfl
  m18 := by kernel_rfl
  m19 := by kernel_rfl
  c0 := by kernel_rfl
  c2 := by kernel_rfl
  c3 := by kernel_rfl
  c4 := by kernel_rfl
  c5 := by kernel_rfl
  c9 := by kernel_rfl
  c20 := by kernel_rfl
  c21 := by kernel_rfl
  c37 := by kernel_rfl
  c46 := by kernel_rfl
  c51 := by kernel_rfl
  c53 := by kernel_rfl
  c75 := by kernel_rfl
  c76 := by kernel_rfl
  c80 := by kernel_rfl
  c85 := by kernel_rfl
  c127 := by kernel_rfl
  c143 := by kernel_rfl
  c145 := by kernel_rfl
  c167 := by kernel_rfl
  c168 := by kernel_rfl
  c171 := by kernel_rfl
  c173 := by kernel_rfl
  c175 := by kernel_rfl
  c210 := by kernel_rfl
  c212 := by kernel_rfl
  c213 := by kernel_rfl
  c232 := by kernel_rfl
  c233 := by kernel_rfl }
theorem Tryz.strconv_Atoi_ok (s : ByteArray) (hmax : s.size ≤ 9223372036854775806) (v : Int) (h : Lib.atoiAll s.data.toList = .ok v) (w : World) :
    Calls Tryz.prog 30 #[.string s] w fun e w' => e = .returned (.tuple #[.int .i64 v, .nilIface]) ∧ (w' = w ∨ ∃ t, w' = Lib.bytesWorld w 5 t) := Any.strconv_Atoi_ok Tryz.laysC172 s hmax v h w
theorem Tryz.strconv_Atoi_syntax (s : ByteArray) (hlim : s.size ≤ 281474976710656) (h : Lib.atoiAll s.data.toList = Lib.atoiAll []) (ev : Value) (w : World) (hv : w.cell? ⟨1, 0, none⟩ = some ev) (hev : ev = .nilIface ∨ ∃ te pe, ev = .iface te pe) :
    Calls Tryz.prog 30 #[.string s] w fun e w' => ∃ N, e = .returned (.tuple #[.int .i64 (0), .iface 108 (.pointer (some ⟨N, 0, none⟩))]) ∧ w.heap.size ≤ N ∧ w'.heap[N]? = some (.cells #[.string ⟨#[65, 116, 111, 105]⟩, .string s, ev] 132 (0, 0)) ∧ Below w.heap.size w w' := Any.strconv_Atoi_syntax Tryz.laysC172 s hlim h ev w hv hev
theorem Tryz.strconv_Atoi_range (s : ByteArray) (hlim : s.size ≤ 281474976710656) (h : Lib.atoiAll s.data.toList = .range) (ev : Value) (w : World) (hv : w.cell? ⟨2, 0, none⟩ = some ev) (hev : ev = .nilIface ∨ ∃ te pe, ev = .iface te pe) :
    Calls Tryz.prog 30 #[.string s] w fun e w' => ∃ N, e = .returned (.tuple #[.int .i64 (Lib.atoiSat s.data.toList), .iface 108 (.pointer (some ⟨N, 0, none⟩))]) ∧ w.heap.size ≤ N ∧ w'.heap[N]? = some (.cells #[.string ⟨#[65, 116, 111, 105]⟩, .string s, ev] 132 (0, 0)) ∧ Below w.heap.size w w' := Any.strconv_Atoi_range Tryz.laysC172 s hlim h ev w hv hev
def Tryz.lays146_ren : Go.Shelf.Ren := ⟨fun | 146 => 58 | 221 => 76 | 268 => 96 | 138 => 97 | 143 => 98 | 195 => 111 | 197 => 112 | 218 => 113 | 219 => 70 | 260 => 117 | 217 => 89 | 225 => 90 | 224 => 91 | 267 => 92 | 266 => 107 | 314 => 108 | n => n, fun | 9 => 9 | 31 => 51 | 3 => 3 | 4 => 4 | 0 => 0 | 105 => 149 | 21 => 21 | 5 => 5 | 46 => 127 | 119 => 155 | 139 => 158 | 138 => 157 | 146 => 142 | 51 => 138 | n => n, fun | 1 => 0 | 3 => 6 | 4 => 7 | n => n⟩
theorem Tryz.lays146 : Go.Proofs.Lays.n146 Tryz.prog Tryz.lays146_ren := {
  mixed := by kernel_rfl
  f138 := Tryz.func97.trans (congrArg some (by kernel_rfl))
  f143 := Tryz.func98.trans (congrArg some (by kernel_rfl))
  f146 := Tryz.func58.trans (congrArg some (by kernel_rfl))
  f195 := Tryz.func111.trans (congrArg some (by kernel_rfl))
  f197 := Tryz.func112.trans (congrArg some (by kernel_rfl))
  f217 := Tryz.func89.trans (congrArg some (by kernel_rfl))
  f218 := Tryz.func113.trans (congrArg some (by kernel_rfl))
  f219 := Tryz.func70.trans (congrArg some (by kernel_rfl))
  f221 := Tryz.func76.trans (congrArg some (by kernel_rfl))
  f224 := Tryz.func91.trans (congrArg some (by kernel_rfl))
  f225 := Tryz.func90.trans (congrArg some (by kernel_rfl))
  f260 := Tryz.func117.trans (congrArg some (by kernel_rfl))
  f266 := Tryz.func107.trans (congrArg some (by kernel_rfl))
  f267 := Tryz.func92.trans (congrArg some (by kernel_rfl))
  f268 := Tryz.func96.trans (congrArg some (by kernel_rfl))
  f314 := Tryz.func108.trans (congrArg some (by kernel_rfl))
  t0 := Tryz.underlying0
  a0 := Tryz.isAgg0
  z0 := Tryz.sizeOf0
  v0 := Tryz.zeroValue0
  t3 := Tryz.underlying3
  a3 := Tryz.isAgg3
  z3 := Tryz.sizeOf3
  v3 := Tryz.zeroValue3
  t4 := Tryz.underlying4
  a4 := Tryz.isAgg4
  z4 := Tryz.sizeOf4
  v4 := Tryz.zeroValue4
  t5 := Tryz.underlying5
  a5 := Tryz.isAgg5
  z5 := Tryz.sizeOf5
  v5 := Tryz.zeroValue5
  t9 := Tryz.underlying9
  a9 := Tryz.isAgg9
  z9 := Tryz.sizeOf9
  v9 := Tryz.zeroValue9
  t21 := Tryz.underlying21
  a21 := Tryz.isAgg21
  z21 := Tryz.sizeOf21
  v21 := Tryz.zeroValue21
  t31 := Tryz.underlying51
  a31 := Tryz.isAgg51
  z31 := Tryz.sizeOf51
  v31 := Tryz.zeroValue51
  t46 := Tryz.underlying127
  a46 := Tryz.isAgg127
  z46 := Tryz.sizeOf127
  v46 := Tryz.zeroValue127
  t51 := Tryz.underlying138
  a51 := Tryz.isAgg138
  z51 := Tryz.sizeOf138
  v51 := Tryz.zeroValue138
  t105 := Tryz.underlying149
  a105 := Tryz.isAgg149
  z105 := Tryz.sizeOf149
  v105 := Tryz.zeroValue149
  t119 := Tryz.underlying155
  a119 := Tryz.isAgg155
  z119 := Tryz.sizeOf155
  t138 := Tryz.underlying157
  a138 := Tryz.isAgg157
  z138 := Tryz.sizeOf157
  v138 := Tryz.zeroValue157
  t139 := Tryz.underlying158
  a139 := Tryz.isAgg158
  z139 := Tryz.sizeOf158
  v139 := Tryz.zeroValue158
  t146 := Tryz.underlying142
  a146 := Tryz.isAgg142
  z146 := Tryz.sizeOf142
  v146 := Tryz.zeroValue142
  g1 := by kernel_rfl
  g3 := by kernel_rfl
  g4 := by kernel_rfl }
theorem Tryz.strings_Split (s sep : ByteArray) (m : Int) (w : World) (hs : s.size < 4294967281) (hm : w.cell? ⟨0, 0, none⟩ = some (.int .i64 m)) (h1 : 1 ≤ sep.size) :
    Calls Tryz.prog 58 #[.string s, .string sep] w fun e w' =>
      e = .returned (.slice (some ⟨w.heap.size, 0, none⟩) (Lib.countB s sep + 1) (Lib.countB s sep + 1)) ∧ w' = w.alloc (.cells ((Lib.splitB sep 0 (Lib.countB s sep) s).map Value.string).toArray 9) := Any.strings_Split Tryz.lays146 (by kernel_rfl) s sep m w hs hm h1
end Go.Proofs.YtgphlcdinejmdaaGreatDoor

/- strings.Split at a space and strconv.Atoi, by the library's contracts. -/
namespace Go.Proofs.YtgphlcdinejmdaaGreatDoor
set_option linter.unusedVariables false
set_option linter.unusedSimpArgs false
set_option maxRecDepth 20000
open Go.RowKit
theorem str_data (b : ByteArray) : str b.data.toList = b := by
  obtain ⟨⟨l⟩⟩ := b
  rfl
theorem map_str {L : List ByteArray} {M : List (List UInt8)} (h : L.map (·.data.toList) = M) : L = M.map str := by
  rw [← h, List.map_map]
  conv => lhs; rw [← List.map_id L]
  apply List.map_congr_left
  intro a _
  exact (str_data a).symm
theorem cV_strs : ∀ M : List (List UInt8), cV M = M.map fun l => Value.string (str l)
  | [] => rfl
  | a :: M => by rw [cV_cons, cV_strs M]; rfl
/-- The one argument. -/
theorem args1 {w : World} {ok : Nat → Prop} {x : Value} {vs : Array Value} (hsz : vs.size = [AV.g (.one (.v x))].length) (h : Args0 w ok [.g (.one (.v x))] vs) : vs = #[x] := by
  obtain ⟨z, hz, hr⟩ := h 0 _ rfl
  obtain ⟨xs⟩ := vs
  match xs, hsz with
  | [y], _ =>
    cases hz
    rw [show y = x from hr.1]
theorem args2 {w : World} {ok : Nat → Prop} {x x' : Value} {vs : Array Value} (hsz : vs.size = [AV.g (.one (.v x)), AV.g (.one (.v x'))].length) (h : Args0 w ok [.g (.one (.v x)), .g (.one (.v x'))] vs) : vs = #[x, x'] := by
  obtain ⟨z, hz, hr⟩ := h 0 _ rfl
  obtain ⟨z', hz', hr'⟩ := h 1 _ rfl
  obtain ⟨xs⟩ := vs
  match xs, hsz with
  | [y, y'], _ =>
    cases hz
    cases hz'
    rw [show y = x from hr.1, show y' = x' from hr'.1]
theorem alloc_new (w : World) (o : Obj) : (w.alloc o).heap[w.heap.size]? = some o := by
  show (w.heap.push o)[w.heap.size]? = _
  simp
theorem k_split (s : List UInt8) (hs : s.length ≤ 7000000) : Kon Tryz.prog 58 [vS s, vS [32]] [] (slA 0 0 (cutA 32 [] s)) [sRow (cutA 32 [] s)] [] := by
  refine kon_row (Go.Proofs.enters_of Tryz.func58 (by kernel_rfl) rfl) rfl ?_
  intro w ok vs hg hok hsz hargs
  obtain rfl := args2 hsz hargs
  obtain ⟨⟨m, hm⟩, _⟩ := hg
  have h1 : (str s).size = s.length := rfl
  have hK := Tryz.strings_Split (str s) (str [32]) m w (by rw [h1]; omega) hm (by decide)
  have e1 : (Go.Lib.splitB (str [32]) 0 (Go.Lib.countB (str s) (str [32])) (str s)) = (cutA 32 [] s).map str := by
    refine map_str ?_
    rw [Go.Lib.splitB_data]
    exact split_cut 32 s.length s (Nat.le_refl _)
  have e2 : Go.Lib.countB (str s) (str [32]) + 1 = (cutA 32 [] s).length := by
    have := Go.Lib.splitB_all (str [32]) (by decide) 0 _ (str s) rfl
    rw [e1, List.length_map] at this
    exact this.symm
  rw [e1, e2] at hK
  have hlen := cutA_len 32 s []
  refine hK.mono ?_
  rintro en W' ⟨rfl, rfl⟩
  refine ⟨_, rfl, ⟨cV_len _, .inr ⟨w.heap.size, (cutA 32 [] s).length, _, rfl, Nat.le_refl _, alloc_new w _, Nat.le_refl _, by unfold maxLen; omega, ?_, ?_⟩⟩, (Below.refl _ _).alloc (Nat.le_refl _) _⟩
  · simp [Cel.sz]
  · have e3 : (((cutA 32 [] s).map str).map Value.string).toArray.toList = cV (cutA 32 [] s) := by
      rw [cV_strs, List.map_map]; rfl
    rw [e3]
    exact List.take_of_length_le (Nat.le_of_eq (cV_len _))
abbrev tupI (n : Int) (e : AC) : AV := .tup [.one (.v (.int .i64 n)), .one e]
theorem k_atoiOk (s : List UInt8) (v : Int) (hs : s.length ≤ 7000000) (h : Go.Lib.atoiAll s = .ok v) : Kon Tryz.prog 30 [vS s] [] (tupI v (.v .nilIface)) [] [] := by
  refine kon_pure (Go.Proofs.enters_of Tryz.func30 (by kernel_rfl) rfl) rfl rfl ?_
  intro w ok vs hg hok hsz hargs
  obtain rfl := args1 hsz hargs
  have h1 : (str s).size = s.length := rfl
  refine (Tryz.strconv_Atoi_ok (str s) (by rw [h1]; omega) v h w).mono ?_
  rintro en W' ⟨rfl, hw⟩
  refine ⟨_, rfl, ?_, fun β G ok' => ⟨_, rfl, rfl, ?_⟩⟩
  · rcases hw with rfl | ⟨t, rfl⟩
    · exact Below.refl _ _
    · exact Go.Lib.bytesWorld_below _ _ _
  · intro j x hj
    rcases j with _ | _ | j
    · cases hj; exact ⟨_, rfl, rfl, rfl⟩
    · cases hj; exact ⟨_, rfl, rfl, rfl⟩
    · simp at hj
theorem k_atoiNo (s : List UInt8) (hs : s.length ≤ 7000000) (h : ∀ v, Go.Lib.atoiAll s ≠ .ok v) : ∃ n : Int, Kon Tryz.prog 30 [vS s] [] (tupI n .er) [] [] := by
  have h1 : (str s).size = s.length := rfl
  have fin : ∀ (w W' : World) (n : Int) (N : Nat) (t : TypeId) (en : Ending), en = .returned (.tuple #[.int .i64 n, .iface t (.pointer (some ⟨N, 0, none⟩))]) → Below w.heap.size w W' → ∃ v, en = .returned v ∧ Below w.heap.size w W' ∧ ∀ β G ok', (tupI n .er).rep W' β G ok' v := by
    rintro w W' n N t en rfl hB
    refine ⟨_, rfl, hB, fun β G ok' => ⟨_, rfl, rfl, ?_⟩⟩
    intro j x hj
    rcases j with _ | _ | j
    · cases hj; exact ⟨_, rfl, rfl, rfl⟩
    · cases hj; exact ⟨_, rfl, rfl, _, _, rfl⟩
    · simp at hj
  cases ha : Go.Lib.atoiAll s with
  | ok v => exact absurd ha (h v)
  | range =>
    refine ⟨Go.Lib.atoiSat s, kon_pure (Go.Proofs.enters_of Tryz.func30 (by kernel_rfl) rfl) rfl rfl ?_⟩
    intro w ok vs hg hok hsz hargs
    obtain rfl := args1 hsz hargs
    obtain ⟨_, _, ⟨t, p, hc⟩⟩ := hg
    refine (Tryz.strconv_Atoi_range (str s) (by rw [h1]; omega) ha _ w hc (.inr ⟨t, p, rfl⟩)).mono ?_
    rintro en W' ⟨N, he, _, _, hB⟩
    exact fin _ _ _ _ _ _ he hB
  | _ =>
    refine ⟨0, kon_pure (Go.Proofs.enters_of Tryz.func30 (by kernel_rfl) rfl) rfl rfl ?_⟩
    intro w ok vs hg hok hsz hargs
    obtain rfl := args1 hsz hargs
    obtain ⟨_, ⟨t, p, hc⟩, _⟩ := hg
    refine (Tryz.strconv_Atoi_syntax (str s) (by rw [h1]; omega) ha _ w hc (.inr ⟨t, p, rfl⟩)).mono ?_
    rintro en W' ⟨N, he, _, _, hB⟩
    exact fin _ _ _ _ _ _ he hB
end Go.Proofs.YtgphlcdinejmdaaGreatDoor

/- ReadGate of the program. -/
namespace Go.Proofs.YtgphlcdinejmdaaGreatDoor
set_option linter.unusedVariables false
set_option linter.unusedSimpArgs false
set_option maxRecDepth 20000
open Go.RowKit
open Go.Lib (decDigits)
abbrev natAll : Value := .agg #[.string ⟨#[110, 111, 116]⟩, .int .i64 1, .int .i64 1, .int .i64 1, .string ⟨#[99, 111, 112, 121]⟩, .int .i64 3, .int .i64 2, .int .i64 1, .string ⟨#[98, 111, 116, 104]⟩, .int .i64 7, .int .i64 4, .int .i64 5, .string ⟨#[115, 119, 97, 112]⟩, .int .i64 3, .int .i64 3, .int .i64 3, .string ⟨#[105, 102]⟩, .int .i64 7, .int .i64 6, .int .i64 7]
def nkL (k : Int) : Int := if k = 0 then 1 else if k = 1 then 3 else if k = 2 then 7 else if k = 3 then 3 else 7
def nkM (k : Int) : Int := if k = 0 then 1 else if k = 1 then 2 else if k = 2 then 4 else if k = 3 then 3 else 6
def nkC (k : Int) : Int := if k = 0 then 1 else if k = 1 then 1 else if k = 2 then 5 else if k = 3 then 3 else 7
abbrev nkV (k : Int) : Value := .agg #[.string (str (gnm k)), .int .i64 (nkL k), .int .i64 (nkM k), .int .i64 (nkC k)]
theorem nat_idx (j : Int) (h : 0 ≤ j ∧ j ≤ 4) (w : World) : (Instr.index 90 natAll (.int .i64 j)).run Tryz.prog w = .ok (nkV j) w := by
  have e0 : ∀ w, (Instr.index 90 natAll (.int .i64 0)).run Tryz.prog w = .ok (nkV 0) w := fun w => by kernel_rfl
  have e1 : ∀ w, (Instr.index 90 natAll (.int .i64 1)).run Tryz.prog w = .ok (nkV 1) w := fun w => by kernel_rfl
  have e2 : ∀ w, (Instr.index 90 natAll (.int .i64 2)).run Tryz.prog w = .ok (nkV 2) w := fun w => by kernel_rfl
  have e3 : ∀ w, (Instr.index 90 natAll (.int .i64 3)).run Tryz.prog w = .ok (nkV 3) w := fun w => by kernel_rfl
  have e4 : ∀ w, (Instr.index 90 natAll (.int .i64 4)).run Tryz.prog w = .ok (nkV 4) w := fun w => by kernel_rfl
  have h' : j = 0 ∨ j = 1 ∨ j = 2 ∨ j = 3 ∨ j = 4 := by omega
  rcases h' with rfl | rfl | rfl | rfl | rfl
  · exact e0 w
  · exact e1 w
  · exact e2 w
  · exact e3 w
  · exact e4 w
theorem k_natV : Kon Tryz.prog 59 [] [] (ofv natAll) [] [] := k_natures
section
variable {T : Tab} {cf : FuncId → Option (List AV → Option Tmp → AM)} {Fs : Nat → Ft} {i : Nat} {rest : List Oper} {S : St} {K : St → Prop} {ops : Array Oper} {d : Tmp} {x y : Operand} {ty : TypeId} {pos : String} {af : Array Edge} {g : Option (Nat × Bool)}
theorem r_natG {j : Int} (hx : rdV (Fs i) S x = some natAll) (hy : rdV (Fs i) S y = some (.int .i64 j)) (h : 0 ≤ j ∧ j ≤ 4) (hw : (Fs i).sw d = true)
    (k : runX Fs Tryz.prog T cf ops (i + 1) rest (S.put d (some (.g (.agg [.v (.string (str (gnm j))), .v (.int .i64 (nkL j)), .v (.int .i64 (nkM j)), .v (.int .i64 (nkC j))])))) K) : runA Fs Tryz.prog T cf ops i ⟨some d, .index 90 x y, ty, pos, af, g⟩ rest S K := r_index hx hy (r := nkV j) (fun w => nat_idx j h w) rfl hw k
end
attribute [local irreducible] runA runX AW
theorem gq_DI {H G : Prop} (k : H) (h : Hid H → G := by (intro hh; (first | (first | ((first | refine r_none ?_ | refine r_gt (by rfl) (by rfl) (by first | rfl | assumption | omega | (simp only [*, Bool.not_false, Bool.not_true]; first | done | fail) | (simp [*]; first | done | fail)) (by rfl) ?_ | refine r_gf (by rfl) (by rfl) (by first | rfl | assumption | omega | (simp only [*, Bool.not_false, Bool.not_true]; first | done | fail) | (simp [*]; first | done | fail)) (by rfl) ?_); (first | (first | refine r_natG (by rfl) (by rfl) (by omega) (by rfl) ?_ | refine r_buildSb (by rfl) (by rfl) (by rfl) (by rfl) (by rfl) (by rfl) (by rfl) (by rfl) (by rfl) (by rfl) (by rfl) (by rfl) (by rfl) ?_ | refine r_indexAddr_sb (by rfl) (by rfl) (by rfl) (by rfl) (by rfl) (by rfl) (by omega) ?_ | refine r_len_sb (by rfl) (by rfl) (by rfl) (by rfl) (by rfl) ?_ | refine r_slen (by rfl) Tryz.underlying9 (by rfl) ?_ | refine r_sidx (by rfl) (by rfl) Tryz.underlying9 (by omega) (by rfl) ?_ | refine r_b2i (by rfl) (fun w => by rfl) (by omega) (by rfl) ?_ | refine r_seq (by rfl) (by rfl) (by rfl) ?_ | refine r_sne (by rfl) (by rfl) (by rfl) ?_) | ((first | (refine z_op (by rfl) ?_; first | refine z_ok ?_ ?_ | refine z_ex ?_ (by first | exact ft_raw rfl rfl | ((first | refine ft_rp rfl rfl rfl ?_ | refine ft_row rfl rfl rfl ?_ | refine ft_rpF rfl rfl rfl ?_ | refine ft_rowF rfl rfl rfl ?_ | refine up_row rfl rfl ?_ | refine up_rowF rfl rfl rfl ?_ | refine ct_0 rfl ?_ | refine ct_r rfl rfl ?_ | refine ct_c rfl rfl rfl ?_ | refine cu_all rfl ?_ | refine cu_to rfl ?_ | refine cu_from rfl ?_ | refine cu_p rfl ?_ | fail); (first | omega | (simp only [List.length_append, List.length_replicate, List.length_cons, List.length_nil, List.length_set, List.length_take, List.length_drop, true_and]; omega))) | exact up_raw rfl | exact pk_t (by first | rfl | assumption | omega | (simp only [*, Bool.not_false, Bool.not_true]; first | done | fail) | (simp [*]; first | done | fail)) rfl | exact pk_f (by first | rfl | assumption | omega | (simp only [*, Bool.not_false, Bool.not_true]; first | done | fail) | (simp [*]; first | done | fail)) rfl | fail | exact rw_raw | exact pu_cv (fun w => rfl) (by omega) | exact pu_of (fun w => rfl) rfl | exact be_of (fun w => rfl) | exact nc_of (fun _ _ _ _ => rfl) rfl | exact bu_of (fun w => rfl) rfl | fail) ?_) | ((first | refine q_callE wsT wsZ (by rfl) ?_ | refine q_callVE wsT (by rfl) (by rfl) ?_); refine ⟨_, _, _, (by first | assumption), _, by rfl, ?_, ?_⟩)); focus (first | exact trivial | fail | exact rfl | (first | omega | (simp only [List.length_append, List.length_replicate, List.length_cons, List.length_nil, List.length_set, List.length_take, List.length_drop, true_and]; omega)) | exact cvB (fun w => rfl) | ((repeat' (first | exact rfl | exact cV_len _ | exact cV_ln rfl (by omega) | exact Cel.pos | omega | exact trivial | refine And.intro ?_ ?_)); done) | (simp [*]; done) | (simp; omega))) | fail)) | refine r_nt (by rfl) (by rfl) (by first | rfl | assumption | omega | (simp only [*, Bool.not_false, Bool.not_true]; first | done | fail) | (simp [*]; first | done | fail)) (by rfl) ?_ | refine r_nf (by rfl) (by rfl) (by first | rfl | assumption | omega | (simp only [*, Bool.not_false, Bool.not_true]; first | done | fail) | (simp [*]; first | done | fail)) (by rfl) ?_ | refine r_gu (by rfl) (by rfl) (by rfl) ?_ | refine r_nil ?_) | (first | refine aw_seq ?_ | refine aw_ct (by rfl) (by first | rfl | assumption | omega | (simp only [*, Bool.not_false, Bool.not_true]; first | done | fail) | (simp [*]; first | done | fail)) ?_ | refine aw_cf (by rfl) (by first | rfl | assumption | omega | (simp only [*, Bool.not_false, Bool.not_true]; first | done | fail) | (simp [*]; first | done | fail)) ?_ | refine aw_block ?_ | refine aw_region T0ok cfU_ok (by rfl) ?_ | refine aw_skip ?_ | refine aw_exit ?_ | refine ra_step ?_)); (repeat (first | (first | ((first | refine r_none ?_ | refine r_gt (by rfl) (by rfl) (by first | rfl | assumption | omega | (simp only [*, Bool.not_false, Bool.not_true]; first | done | fail) | (simp [*]; first | done | fail)) (by rfl) ?_ | refine r_gf (by rfl) (by rfl) (by first | rfl | assumption | omega | (simp only [*, Bool.not_false, Bool.not_true]; first | done | fail) | (simp [*]; first | done | fail)) (by rfl) ?_); (first | (first | refine r_natG (by rfl) (by rfl) (by omega) (by rfl) ?_ | refine r_buildSb (by rfl) (by rfl) (by rfl) (by rfl) (by rfl) (by rfl) (by rfl) (by rfl) (by rfl) (by rfl) (by rfl) (by rfl) (by rfl) ?_ | refine r_indexAddr_sb (by rfl) (by rfl) (by rfl) (by rfl) (by rfl) (by rfl) (by omega) ?_ | refine r_len_sb (by rfl) (by rfl) (by rfl) (by rfl) (by rfl) ?_ | refine r_slen (by rfl) Tryz.underlying9 (by rfl) ?_ | refine r_sidx (by rfl) (by rfl) Tryz.underlying9 (by omega) (by rfl) ?_ | refine r_b2i (by rfl) (fun w => by rfl) (by omega) (by rfl) ?_ | refine r_seq (by rfl) (by rfl) (by rfl) ?_ | refine r_sne (by rfl) (by rfl) (by rfl) ?_) | ((first | (refine z_op (by rfl) ?_; first | refine z_ok ?_ ?_ | refine z_ex ?_ (by first | exact ft_raw rfl rfl | ((first | refine ft_rp rfl rfl rfl ?_ | refine ft_row rfl rfl rfl ?_ | refine ft_rpF rfl rfl rfl ?_ | refine ft_rowF rfl rfl rfl ?_ | refine up_row rfl rfl ?_ | refine up_rowF rfl rfl rfl ?_ | refine ct_0 rfl ?_ | refine ct_r rfl rfl ?_ | refine ct_c rfl rfl rfl ?_ | refine cu_all rfl ?_ | refine cu_to rfl ?_ | refine cu_from rfl ?_ | refine cu_p rfl ?_ | fail); (first | omega | (simp only [List.length_append, List.length_replicate, List.length_cons, List.length_nil, List.length_set, List.length_take, List.length_drop, true_and]; omega))) | exact up_raw rfl | exact pk_t (by first | rfl | assumption | omega | (simp only [*, Bool.not_false, Bool.not_true]; first | done | fail) | (simp [*]; first | done | fail)) rfl | exact pk_f (by first | rfl | assumption | omega | (simp only [*, Bool.not_false, Bool.not_true]; first | done | fail) | (simp [*]; first | done | fail)) rfl | fail | exact rw_raw | exact pu_cv (fun w => rfl) (by omega) | exact pu_of (fun w => rfl) rfl | exact be_of (fun w => rfl) | exact nc_of (fun _ _ _ _ => rfl) rfl | exact bu_of (fun w => rfl) rfl | fail) ?_) | ((first | refine q_callE wsT wsZ (by rfl) ?_ | refine q_callVE wsT (by rfl) (by rfl) ?_); refine ⟨_, _, _, (by first | assumption), _, by rfl, ?_, ?_⟩)); focus (first | exact trivial | fail | exact rfl | (first | omega | (simp only [List.length_append, List.length_replicate, List.length_cons, List.length_nil, List.length_set, List.length_take, List.length_drop, true_and]; omega)) | exact cvB (fun w => rfl) | ((repeat' (first | exact rfl | exact cV_len _ | exact cV_ln rfl (by omega) | exact Cel.pos | omega | exact trivial | refine And.intro ?_ ?_)); done) | (simp [*]; done) | (simp; omega))) | fail)) | refine r_nt (by rfl) (by rfl) (by first | rfl | assumption | omega | (simp only [*, Bool.not_false, Bool.not_true]; first | done | fail) | (simp [*]; first | done | fail)) (by rfl) ?_ | refine r_nf (by rfl) (by rfl) (by first | rfl | assumption | omega | (simp only [*, Bool.not_false, Bool.not_true]; first | done | fail) | (simp [*]; first | done | fail)) (by rfl) ?_ | refine r_gu (by rfl) (by rfl) (by rfl) ?_ | refine r_nil ?_) | (first | refine aw_seq ?_ | refine aw_ct (by rfl) (by first | rfl | assumption | omega | (simp only [*, Bool.not_false, Bool.not_true]; first | done | fail) | (simp [*]; first | done | fail)) ?_ | refine aw_cf (by rfl) (by first | rfl | assumption | omega | (simp only [*, Bool.not_false, Bool.not_true]; first | done | fail) | (simp [*]; first | done | fail)) ?_ | refine aw_block ?_ | refine aw_region T0ok cfU_ok (by rfl) ?_ | refine aw_skip ?_ | refine aw_exit ?_ | refine ra_step ?_))); exact hh.out)) : G := h ⟨k⟩
theorem ga_DI {H G : Prop} (k : H) (h : Hid H → G := by (intro hh; (first | refine r_none ?_ | refine r_gt (by rfl) (by rfl) (by first | rfl | assumption | omega | (simp only [*, Bool.not_false, Bool.not_true]; first | done | fail) | (simp [*]; first | done | fail)) (by rfl) ?_ | refine r_gf (by rfl) (by rfl) (by first | rfl | assumption | omega | (simp only [*, Bool.not_false, Bool.not_true]; first | done | fail) | (simp [*]; first | done | fail)) (by rfl) ?_); refine z_op (by rfl) ?_; refine z_alV ?_ hh.out; focus (first | exact trivial | fail | exact rfl | (first | omega | (simp only [List.length_append, List.length_replicate, List.length_cons, List.length_nil, List.length_set, List.length_take, List.length_drop, true_and]; omega)) | exact cvB (fun w => rfl) | ((repeat' (first | exact rfl | exact cV_len _ | exact cV_ln rfl (by omega) | exact Cel.pos | omega | exact trivial | refine And.intro ?_ ?_)); done) | (simp [*]; done) | (simp; omega)))) : G := h ⟨k⟩
theorem gd_DI {H G : Prop} (k : H) (h : Hid H → G := by (intro hh; (refine aw_draw mixed T0ok cfU_ok [] (by rfl) (by kernel_rfl) ?_); exact hh.out)) : G := h ⟨k⟩
theorem wdO_y {ws : List (List UInt8)} {m : Nat} (h1 : m < ws.length) (h2 : (ws.getD m []).length = 1) : wdO ws m = (((ws.getD m []).getD 0 0).toNat : Int) - 48 := by unfold wdO; rw [if_pos ⟨h1, h2⟩]
theorem wdO_n {ws : List (List UInt8)} {m : Nat} (h2 : (ws.getD m []).length ≠ 1) : wdO ws m = 0 := by unfold wdO; rw [if_neg (fun h => h2 h.2)]
/-- What the inner loop has found so far. -/
def At (ws : List (List UInt8)) (m i : Nat) : Int := if m ≤ i then wdO ws m else 0
set_option maxHeartbeats 8000000 in
theorem k_rgI0 (s : List UInt8) (hs : s.length ≤ 7000000) (hno : ∀ (j : Nat) (a b c : Int), gnm (j : Int) = (cutA 32 [] s).getD 0 [] → (gtx ⟨(j : Int), a, b, c⟩ == s) = false) : Kon Tryz.prog 31 [vS s] [] (tupG g0 false) [] [] := by
  have hS := k_split s hs
  have hN := k_natV
  have hw := (cutA_len 32 s []).1
  generalize cutA 32 [] s = ws at *
  (refine kon_mk T0ok (fn := Tryz.f31) (c := Tryz.f31.body.get rfl) Tryz.func31 rfl (by rfl) (by rfl) (by rfl) ?_; intro hfit hfe)
  (repeat (first | refine gq_DI ?_ | (refine ga_DI ?_; intro _hq) | refine gd_DI ?_))
  (refine aw_rd [0, 2, 4, 12] [32, 176] (fun j : Nat => [(13, vI j)]) (fun _ => []) (fun j => j ≤ 5) (fun j => 5 - j) 0 (by rfl) (by rfl) ?_ (by rfl) (by repeat (first | exact trivial | refine ⟨by rfl, ?_⟩ | refine ⟨vI_of (by rfl) (by omega), ?_⟩)) (by repeat (first | exact trivial | refine ⟨by rfl, ?_⟩ | refine ⟨vI_of (by rfl) (by omega), ?_⟩)) ?_)
  · exact Nat.zero_le _
  rintro j hj
  rcases Nat.lt_or_ge j 5 with h1 | h1
  · have hd : decide ((j : Int) < 5) = true := decide_eq_true (by omega)
    have hinv5 : j + 1 ≤ 5 := h1
    cases hb : (gnm (j : Int) == ws.getD (0 : Int).toNat Cel.no) with
    | false =>
      have hb2 : (!(gnm (j : Int) == ws.getD (0 : Int).toNat Cel.no)) = true := by rw [hb]; rfl
      (repeat (first | refine gq_DI ?_ | (refine ga_DI ?_; intro _hq) | refine gd_DI ?_))
      exact ⟨j + 1, hinv5, ⟨by rfl, (by repeat (first | exact trivial | refine ⟨by rfl, ?_⟩ | refine ⟨vI_of (by rfl) (by omega), ?_⟩)), (by repeat (first | exact trivial | refine ⟨by rfl, ?_⟩ | refine ⟨vI_of (by rfl) (by omega), ?_⟩))⟩, (by first | omega | (dsimp only; omega))⟩
    | true =>
      have hb2 : (!(gnm (j : Int) == ws.getD (0 : Int).toNat Cel.no)) = false := by rw [hb]; rfl
      (repeat (first | refine gq_DI ?_ | (refine ga_DI ?_; intro _hq) | refine gd_DI ?_))
      (refine aw_rd [0, 2, 4, 5, 7, 12, 13, 28, 29] [32, 176, 448] (fun g : Nat × Int × Int × Int => [(30, vI g.1)]) (fun g => [(112, (0, .box (gCs ⟨(j : Int), g.2.1, g.2.2.1, g.2.2.2⟩)))]) (fun g => g.1 ≤ 3 ∧ g.2.1 = At ws 1 g.1 ∧ g.2.2.1 = At ws 2 g.1 ∧ g.2.2.2 = At ws 3 g.1) (fun g => 3 - g.1) (0, 0, 0, 0) (by rfl) (by rfl) ?_ (by rfl) (by repeat (first | exact trivial | refine ⟨by rfl, ?_⟩ | refine ⟨vI_of (by rfl) (by omega), ?_⟩)) (by repeat (first | exact trivial | refine ⟨by rfl, ?_⟩ | refine ⟨vI_of (by rfl) (by omega), ?_⟩)) ?_)
      · exact ⟨Nat.zero_le _, rfl, rfl, rfl⟩
      rintro ⟨i, a, b, c⟩ ⟨hi, ea, eb, ec⟩
      dsimp only at hi ea eb ec ⊢
      have hi' : i = 0 ∨ i = 1 ∨ i = 2 ∨ i = 3 := by omega
      rcases hi' with rfl | rfl | rfl | rfl
      · have hg : decide (((0 : Nat) : Int) < ((3 : Nat) : Int)) = true := by decide
        rcases Nat.lt_or_ge 1 ws.length with l1 | l1
        · have dl : decide (((0 : Nat) : Int) + 1 < (ws.length : Int)) = true := decide_eq_true (by omega)
          by_cases l2 : (ws.getD 1 []).length = 1
          · have d2 : (((ws.getD (((0 : Nat) : Int) + 1).toNat Cel.no).length : Int) == 1) = true := by rw [show (ws.getD (((0 : Nat) : Int) + 1).toNat Cel.no).length = 1 from l2]; rfl
            have l3 : 0 < (ws.getD (((0 : Nat) : Int) + 1).toNat Cel.no).length := by rw [show (ws.getD (((0 : Nat) : Int) + 1).toNat Cel.no).length = 1 from l2]; decide
            have hle := ((ws.getD (((0 : Nat) : Int) + 1).toNat Cel.no).getD (0 : Int).toNat 0).toNat_lt
            have hinv : 1 ≤ 3 ∧ ((((ws.getD 1 []).getD 0 0).toNat : Int) - 48) = At ws 1 1 ∧ b = At ws 2 1 ∧ c = At ws 3 1 := ⟨by decide, (wdO_y l1 l2).symm, eb, ec⟩
            (repeat (first | refine gq_DI ?_ | (refine ga_DI ?_; intro _hq) | refine gd_DI ?_))
            exact ⟨(1, ((((ws.getD 1 []).getD 0 0).toNat : Int) - 48), b, c), hinv, ⟨by rfl, (by repeat (first | exact trivial | refine ⟨by rfl, ?_⟩ | refine ⟨vI_of (by rfl) (by omega), ?_⟩)), (by repeat (first | exact trivial | refine ⟨by rfl, ?_⟩ | refine ⟨vI_of (by rfl) (by omega), ?_⟩))⟩, (by first | omega | (dsimp only; omega))⟩
          · have d2 : (((ws.getD (((0 : Nat) : Int) + 1).toNat Cel.no).length : Int) == 1) = false := by rw [beq_eq_false_iff_ne]; intro h; exact l2 (by have : ((ws.getD 1 []).length : Int) = 1 := h; omega)
            have hinv : 1 ≤ 3 ∧ a = At ws 1 1 ∧ b = At ws 2 1 ∧ c = At ws 3 1 := ⟨by decide, (show a = wdO ws 1 from ea.trans (wdO_n l2).symm), eb, ec⟩
            (repeat (first | refine gq_DI ?_ | (refine ga_DI ?_; intro _hq) | refine gd_DI ?_))
            exact ⟨(1, a, b, c), hinv, ⟨by rfl, (by repeat (first | exact trivial | refine ⟨by rfl, ?_⟩ | refine ⟨vI_of (by rfl) (by omega), ?_⟩)), (by repeat (first | exact trivial | refine ⟨by rfl, ?_⟩ | refine ⟨vI_of (by rfl) (by omega), ?_⟩))⟩, (by first | omega | (dsimp only; omega))⟩
        · have dl : decide (((0 : Nat) : Int) + 1 < (ws.length : Int)) = false := decide_eq_false (by omega)
          have hinv : 1 ≤ 3 ∧ a = At ws 1 1 ∧ b = At ws 2 1 ∧ c = At ws 3 1 := ⟨by decide, (show a = wdO ws 1 from ea.trans (wdO_no l1).symm), eb, ec⟩
          (repeat (first | refine gq_DI ?_ | (refine ga_DI ?_; intro _hq) | refine gd_DI ?_))
          exact ⟨(1, a, b, c), hinv, ⟨by rfl, (by repeat (first | exact trivial | refine ⟨by rfl, ?_⟩ | refine ⟨vI_of (by rfl) (by omega), ?_⟩)), (by repeat (first | exact trivial | refine ⟨by rfl, ?_⟩ | refine ⟨vI_of (by rfl) (by omega), ?_⟩))⟩, (by first | omega | (dsimp only; omega))⟩
      · have hg : decide (((1 : Nat) : Int) < ((3 : Nat) : Int)) = true := by decide
        rcases Nat.lt_or_ge 2 ws.length with l1 | l1
        · have dl : decide (((1 : Nat) : Int) + 1 < (ws.length : Int)) = true := decide_eq_true (by omega)
          by_cases l2 : (ws.getD 2 []).length = 1
          · have d2 : (((ws.getD (((1 : Nat) : Int) + 1).toNat Cel.no).length : Int) == 1) = true := by rw [show (ws.getD (((1 : Nat) : Int) + 1).toNat Cel.no).length = 1 from l2]; rfl
            have l3 : 0 < (ws.getD (((1 : Nat) : Int) + 1).toNat Cel.no).length := by rw [show (ws.getD (((1 : Nat) : Int) + 1).toNat Cel.no).length = 1 from l2]; decide
            have hle := ((ws.getD (((1 : Nat) : Int) + 1).toNat Cel.no).getD (0 : Int).toNat 0).toNat_lt
            have hinv : 2 ≤ 3 ∧ a = At ws 1 2 ∧ ((((ws.getD 2 []).getD 0 0).toNat : Int) - 48) = At ws 2 2 ∧ c = At ws 3 2 := ⟨by decide, ea, (wdO_y l1 l2).symm, ec⟩
            (repeat (first | refine gq_DI ?_ | (refine ga_DI ?_; intro _hq) | refine gd_DI ?_))
            exact ⟨(2, a, ((((ws.getD 2 []).getD 0 0).toNat : Int) - 48), c), hinv, ⟨by rfl, (by repeat (first | exact trivial | refine ⟨by rfl, ?_⟩ | refine ⟨vI_of (by rfl) (by omega), ?_⟩)), (by repeat (first | exact trivial | refine ⟨by rfl, ?_⟩ | refine ⟨vI_of (by rfl) (by omega), ?_⟩))⟩, (by first | omega | (dsimp only; omega))⟩
          · have d2 : (((ws.getD (((1 : Nat) : Int) + 1).toNat Cel.no).length : Int) == 1) = false := by rw [beq_eq_false_iff_ne]; intro h; exact l2 (by have : ((ws.getD 2 []).length : Int) = 1 := h; omega)
            have hinv : 2 ≤ 3 ∧ a = At ws 1 2 ∧ b = At ws 2 2 ∧ c = At ws 3 2 := ⟨by decide, ea, (show b = wdO ws 2 from eb.trans (wdO_n l2).symm), ec⟩
            (repeat (first | refine gq_DI ?_ | (refine ga_DI ?_; intro _hq) | refine gd_DI ?_))
            exact ⟨(2, a, b, c), hinv, ⟨by rfl, (by repeat (first | exact trivial | refine ⟨by rfl, ?_⟩ | refine ⟨vI_of (by rfl) (by omega), ?_⟩)), (by repeat (first | exact trivial | refine ⟨by rfl, ?_⟩ | refine ⟨vI_of (by rfl) (by omega), ?_⟩))⟩, (by first | omega | (dsimp only; omega))⟩
        · have dl : decide (((1 : Nat) : Int) + 1 < (ws.length : Int)) = false := decide_eq_false (by omega)
          have hinv : 2 ≤ 3 ∧ a = At ws 1 2 ∧ b = At ws 2 2 ∧ c = At ws 3 2 := ⟨by decide, ea, (show b = wdO ws 2 from eb.trans (wdO_no l1).symm), ec⟩
          (repeat (first | refine gq_DI ?_ | (refine ga_DI ?_; intro _hq) | refine gd_DI ?_))
          exact ⟨(2, a, b, c), hinv, ⟨by rfl, (by repeat (first | exact trivial | refine ⟨by rfl, ?_⟩ | refine ⟨vI_of (by rfl) (by omega), ?_⟩)), (by repeat (first | exact trivial | refine ⟨by rfl, ?_⟩ | refine ⟨vI_of (by rfl) (by omega), ?_⟩))⟩, (by first | omega | (dsimp only; omega))⟩
      · have hg : decide (((2 : Nat) : Int) < ((3 : Nat) : Int)) = true := by decide
        rcases Nat.lt_or_ge 3 ws.length with l1 | l1
        · have dl : decide (((2 : Nat) : Int) + 1 < (ws.length : Int)) = true := decide_eq_true (by omega)
          by_cases l2 : (ws.getD 3 []).length = 1
          · have d2 : (((ws.getD (((2 : Nat) : Int) + 1).toNat Cel.no).length : Int) == 1) = true := by rw [show (ws.getD (((2 : Nat) : Int) + 1).toNat Cel.no).length = 1 from l2]; rfl
            have l3 : 0 < (ws.getD (((2 : Nat) : Int) + 1).toNat Cel.no).length := by rw [show (ws.getD (((2 : Nat) : Int) + 1).toNat Cel.no).length = 1 from l2]; decide
            have hle := ((ws.getD (((2 : Nat) : Int) + 1).toNat Cel.no).getD (0 : Int).toNat 0).toNat_lt
            have hinv : 3 ≤ 3 ∧ a = At ws 1 3 ∧ b = At ws 2 3 ∧ ((((ws.getD 3 []).getD 0 0).toNat : Int) - 48) = At ws 3 3 := ⟨by decide, ea, eb, (wdO_y l1 l2).symm⟩
            (repeat (first | refine gq_DI ?_ | (refine ga_DI ?_; intro _hq) | refine gd_DI ?_))
            exact ⟨(3, a, b, ((((ws.getD 3 []).getD 0 0).toNat : Int) - 48)), hinv, ⟨by rfl, (by repeat (first | exact trivial | refine ⟨by rfl, ?_⟩ | refine ⟨vI_of (by rfl) (by omega), ?_⟩)), (by repeat (first | exact trivial | refine ⟨by rfl, ?_⟩ | refine ⟨vI_of (by rfl) (by omega), ?_⟩))⟩, (by first | omega | (dsimp only; omega))⟩
          · have d2 : (((ws.getD (((2 : Nat) : Int) + 1).toNat Cel.no).length : Int) == 1) = false := by rw [beq_eq_false_iff_ne]; intro h; exact l2 (by have : ((ws.getD 3 []).length : Int) = 1 := h; omega)
            have hinv : 3 ≤ 3 ∧ a = At ws 1 3 ∧ b = At ws 2 3 ∧ c = At ws 3 3 := ⟨by decide, ea, eb, (show c = wdO ws 3 from ec.trans (wdO_n l2).symm)⟩
            (repeat (first | refine gq_DI ?_ | (refine ga_DI ?_; intro _hq) | refine gd_DI ?_))
            exact ⟨(3, a, b, c), hinv, ⟨by rfl, (by repeat (first | exact trivial | refine ⟨by rfl, ?_⟩ | refine ⟨vI_of (by rfl) (by omega), ?_⟩)), (by repeat (first | exact trivial | refine ⟨by rfl, ?_⟩ | refine ⟨vI_of (by rfl) (by omega), ?_⟩))⟩, (by first | omega | (dsimp only; omega))⟩
        · have dl : decide (((2 : Nat) : Int) + 1 < (ws.length : Int)) = false := decide_eq_false (by omega)
          have hinv : 3 ≤ 3 ∧ a = At ws 1 3 ∧ b = At ws 2 3 ∧ c = At ws 3 3 := ⟨by decide, ea, eb, (show c = wdO ws 3 from ec.trans (wdO_no l1).symm)⟩
          (repeat (first | refine gq_DI ?_ | (refine ga_DI ?_; intro _hq) | refine gd_DI ?_))
          exact ⟨(3, a, b, c), hinv, ⟨by rfl, (by repeat (first | exact trivial | refine ⟨by rfl, ?_⟩ | refine ⟨vI_of (by rfl) (by omega), ?_⟩)), (by repeat (first | exact trivial | refine ⟨by rfl, ?_⟩ | refine ⟨vI_of (by rfl) (by omega), ?_⟩))⟩, (by first | omega | (dsimp only; omega))⟩
      · have hg : decide (((3 : Nat) : Int) < ((3 : Nat) : Int)) = false := by decide
        replace ea : a = wdO ws 1 := ea
        replace eb : b = wdO ws 2 := eb
        replace ec : c = wdO ws 3 := ec
        have hG := k_gtI ⟨(j : Int), a, b, c⟩
        have ht := hno j a b c (eq_of_beq hb)
        (repeat (first | refine gq_DI ?_ | (refine ga_DI ?_; intro _hq) | refine gd_DI ?_))
        exact ⟨j + 1, hinv5, ⟨by rfl, (by repeat (first | exact trivial | refine ⟨by rfl, ?_⟩ | refine ⟨vI_of (by rfl) (by omega), ?_⟩)), (by repeat (first | exact trivial | refine ⟨by rfl, ?_⟩ | refine ⟨vI_of (by rfl) (by omega), ?_⟩))⟩, (by first | omega | (dsimp only; omega))⟩
  · obtain rfl : j = 5 := by omega
    have hd : decide (((5 : Nat) : Int) < 5) = false := by decide
    (repeat (first | refine gq_DI ?_ | (refine ga_DI ?_; intro _hq) | refine gd_DI ?_))
    ((try refine aw_ret ?_); refine ret_auto2 (by rfl) (by rfl) (by rfl) (by repeat (first | exact trivial | refine ⟨by first | rfl | omega, ?_⟩)) ?_ (by repeat (first | exact trivial | refine ⟨by rfl, by rfl, ?_⟩)) (by repeat (first | exact trivial | refine ⟨by rfl, by rfl, ?_⟩)); try rfl)
set_option maxHeartbeats 8000000 in
theorem k_rgI1 (s : List UInt8) (hs : s.length ≤ 7000000) (kk : Nat) (hk : kk ≤ 4) (hm : (cutA 32 [] s).getD 0 [] = gnm (kk : Int)) (ht : (gtx (rdI (kk : Int) s) == s) = true) : Kon Tryz.prog 31 [vS s] [] (tupG (rdI (kk : Int) s) true) [] [] := by
  have hS := k_split s hs
  have hN := k_natV
  have hw := (cutA_len 32 s []).1
  unfold rdI at ht ⊢
  generalize cutA 32 [] s = ws at *
  have hG := k_gtI ⟨(kk : Int), wdO ws 1, wdO ws 2, wdO ws 3⟩
  (refine kon_mk T0ok (fn := Tryz.f31) (c := Tryz.f31.body.get rfl) Tryz.func31 rfl (by rfl) (by rfl) (by rfl) ?_; intro hfit hfe)
  (repeat (first | refine gq_DI ?_ | (refine ga_DI ?_; intro _hq) | refine gd_DI ?_))
  (refine aw_rd [0, 2, 4, 12] [32, 176] (fun j : Nat => [(13, vI j)]) (fun _ => []) (fun j => j ≤ kk) (fun j => 5 - j) 0 (by rfl) (by rfl) ?_ (by rfl) (by repeat (first | exact trivial | refine ⟨by rfl, ?_⟩ | refine ⟨vI_of (by rfl) (by omega), ?_⟩)) (by repeat (first | exact trivial | refine ⟨by rfl, ?_⟩ | refine ⟨vI_of (by rfl) (by omega), ?_⟩)) ?_)
  · exact Nat.zero_le _
  rintro j hj
  have hd : decide ((j : Int) < 5) = true := decide_eq_true (by omega)
  rcases Nat.lt_or_ge j kk with h1 | h1
  · have hb2 : (!(gnm (j : Int) == ws.getD (0 : Int).toNat Cel.no)) = true := by
      rw [Bool.not_eq_true', beq_eq_false_iff_ne]
      intro h
      have h2 := gnm_inj (by omega) (by omega) (h.trans hm)
      omega
    (repeat (first | refine gq_DI ?_ | (refine ga_DI ?_; intro _hq) | refine gd_DI ?_))
    exact ⟨j + 1, h1, ⟨by rfl, (by repeat (first | exact trivial | refine ⟨by rfl, ?_⟩ | refine ⟨vI_of (by rfl) (by omega), ?_⟩)), (by repeat (first | exact trivial | refine ⟨by rfl, ?_⟩ | refine ⟨vI_of (by rfl) (by omega), ?_⟩))⟩, (by dsimp only; omega)⟩
  · obtain rfl : j = kk := by omega
    have hb2 : (!(gnm (j : Int) == ws.getD (0 : Int).toNat Cel.no)) = false := by
      rw [Bool.not_eq_false', beq_iff_eq]
      exact hm.symm
    (repeat (first | refine gq_DI ?_ | (refine ga_DI ?_; intro _hq) | refine gd_DI ?_))
    (refine aw_rd [0, 2, 4, 5, 7, 12, 13, 28, 29] [32, 176, 448] (fun g : Nat × Int × Int × Int => [(30, vI g.1)]) (fun g => [(112, (0, .box (gCs ⟨(j : Int), g.2.1, g.2.2.1, g.2.2.2⟩)))]) (fun g => g.1 ≤ 3 ∧ g.2.1 = At ws 1 g.1 ∧ g.2.2.1 = At ws 2 g.1 ∧ g.2.2.2 = At ws 3 g.1) (fun g => 3 - g.1) (0, 0, 0, 0) (by rfl) (by rfl) ?_ (by rfl) (by repeat (first | exact trivial | refine ⟨by rfl, ?_⟩ | refine ⟨vI_of (by rfl) (by omega), ?_⟩)) (by repeat (first | exact trivial | refine ⟨by rfl, ?_⟩ | refine ⟨vI_of (by rfl) (by omega), ?_⟩)) ?_)
    · exact ⟨Nat.zero_le _, rfl, rfl, rfl⟩
    rintro ⟨i, a, b, c⟩ ⟨hi, ea, eb, ec⟩
    dsimp only at hi ea eb ec ⊢
    have hi' : i = 0 ∨ i = 1 ∨ i = 2 ∨ i = 3 := by omega
    rcases hi' with rfl | rfl | rfl | rfl
    · have hg : decide (((0 : Nat) : Int) < ((3 : Nat) : Int)) = true := by decide
      rcases Nat.lt_or_ge 1 ws.length with l1 | l1
      · have dl : decide (((0 : Nat) : Int) + 1 < (ws.length : Int)) = true := decide_eq_true (by omega)
        by_cases l2 : (ws.getD 1 []).length = 1
        · have d2 : (((ws.getD (((0 : Nat) : Int) + 1).toNat Cel.no).length : Int) == 1) = true := by rw [show (ws.getD (((0 : Nat) : Int) + 1).toNat Cel.no).length = 1 from l2]; rfl
          have l3 : 0 < (ws.getD (((0 : Nat) : Int) + 1).toNat Cel.no).length := by rw [show (ws.getD (((0 : Nat) : Int) + 1).toNat Cel.no).length = 1 from l2]; decide
          have hle := ((ws.getD (((0 : Nat) : Int) + 1).toNat Cel.no).getD (0 : Int).toNat 0).toNat_lt
          have hinv : 1 ≤ 3 ∧ ((((ws.getD 1 []).getD 0 0).toNat : Int) - 48) = At ws 1 1 ∧ b = At ws 2 1 ∧ c = At ws 3 1 := ⟨by decide, (wdO_y l1 l2).symm, eb, ec⟩
          (repeat (first | refine gq_DI ?_ | (refine ga_DI ?_; intro _hq) | refine gd_DI ?_))
          exact ⟨(1, ((((ws.getD 1 []).getD 0 0).toNat : Int) - 48), b, c), hinv, ⟨by rfl, (by repeat (first | exact trivial | refine ⟨by rfl, ?_⟩ | refine ⟨vI_of (by rfl) (by omega), ?_⟩)), (by repeat (first | exact trivial | refine ⟨by rfl, ?_⟩ | refine ⟨vI_of (by rfl) (by omega), ?_⟩))⟩, (by first | omega | (dsimp only; omega))⟩
        · have d2 : (((ws.getD (((0 : Nat) : Int) + 1).toNat Cel.no).length : Int) == 1) = false := by rw [beq_eq_false_iff_ne]; intro h; exact l2 (by have : ((ws.getD 1 []).length : Int) = 1 := h; omega)
          have hinv : 1 ≤ 3 ∧ a = At ws 1 1 ∧ b = At ws 2 1 ∧ c = At ws 3 1 := ⟨by decide, (show a = wdO ws 1 from ea.trans (wdO_n l2).symm), eb, ec⟩
          (repeat (first | refine gq_DI ?_ | (refine ga_DI ?_; intro _hq) | refine gd_DI ?_))
          exact ⟨(1, a, b, c), hinv, ⟨by rfl, (by repeat (first | exact trivial | refine ⟨by rfl, ?_⟩ | refine ⟨vI_of (by rfl) (by omega), ?_⟩)), (by repeat (first | exact trivial | refine ⟨by rfl, ?_⟩ | refine ⟨vI_of (by rfl) (by omega), ?_⟩))⟩, (by first | omega | (dsimp only; omega))⟩
      · have dl : decide (((0 : Nat) : Int) + 1 < (ws.length : Int)) = false := decide_eq_false (by omega)
        have hinv : 1 ≤ 3 ∧ a = At ws 1 1 ∧ b = At ws 2 1 ∧ c = At ws 3 1 := ⟨by decide, (show a = wdO ws 1 from ea.trans (wdO_no l1).symm), eb, ec⟩
        (repeat (first | refine gq_DI ?_ | (refine ga_DI ?_; intro _hq) | refine gd_DI ?_))
        exact ⟨(1, a, b, c), hinv, ⟨by rfl, (by repeat (first | exact trivial | refine ⟨by rfl, ?_⟩ | refine ⟨vI_of (by rfl) (by omega), ?_⟩)), (by repeat (first | exact trivial | refine ⟨by rfl, ?_⟩ | refine ⟨vI_of (by rfl) (by omega), ?_⟩))⟩, (by first | omega | (dsimp only; omega))⟩
    · have hg : decide (((1 : Nat) : Int) < ((3 : Nat) : Int)) = true := by decide
      rcases Nat.lt_or_ge 2 ws.length with l1 | l1
      · have dl : decide (((1 : Nat) : Int) + 1 < (ws.length : Int)) = true := decide_eq_true (by omega)
        by_cases l2 : (ws.getD 2 []).length = 1
        · have d2 : (((ws.getD (((1 : Nat) : Int) + 1).toNat Cel.no).length : Int) == 1) = true := by rw [show (ws.getD (((1 : Nat) : Int) + 1).toNat Cel.no).length = 1 from l2]; rfl
          have l3 : 0 < (ws.getD (((1 : Nat) : Int) + 1).toNat Cel.no).length := by rw [show (ws.getD (((1 : Nat) : Int) + 1).toNat Cel.no).length = 1 from l2]; decide
          have hle := ((ws.getD (((1 : Nat) : Int) + 1).toNat Cel.no).getD (0 : Int).toNat 0).toNat_lt
          have hinv : 2 ≤ 3 ∧ a = At ws 1 2 ∧ ((((ws.getD 2 []).getD 0 0).toNat : Int) - 48) = At ws 2 2 ∧ c = At ws 3 2 := ⟨by decide, ea, (wdO_y l1 l2).symm, ec⟩
          (repeat (first | refine gq_DI ?_ | (refine ga_DI ?_; intro _hq) | refine gd_DI ?_))
          exact ⟨(2, a, ((((ws.getD 2 []).getD 0 0).toNat : Int) - 48), c), hinv, ⟨by rfl, (by repeat (first | exact trivial | refine ⟨by rfl, ?_⟩ | refine ⟨vI_of (by rfl) (by omega), ?_⟩)), (by repeat (first | exact trivial | refine ⟨by rfl, ?_⟩ | refine ⟨vI_of (by rfl) (by omega), ?_⟩))⟩, (by first | omega | (dsimp only; omega))⟩
        · have d2 : (((ws.getD (((1 : Nat) : Int) + 1).toNat Cel.no).length : Int) == 1) = false := by rw [beq_eq_false_iff_ne]; intro h; exact l2 (by have : ((ws.getD 2 []).length : Int) = 1 := h; omega)
          have hinv : 2 ≤ 3 ∧ a = At ws 1 2 ∧ b = At ws 2 2 ∧ c = At ws 3 2 := ⟨by decide, ea, (show b = wdO ws 2 from eb.trans (wdO_n l2).symm), ec⟩
          (repeat (first | refine gq_DI ?_ | (refine ga_DI ?_; intro _hq) | refine gd_DI ?_))
          exact ⟨(2, a, b, c), hinv, ⟨by rfl, (by repeat (first | exact trivial | refine ⟨by rfl, ?_⟩ | refine ⟨vI_of (by rfl) (by omega), ?_⟩)), (by repeat (first | exact trivial | refine ⟨by rfl, ?_⟩ | refine ⟨vI_of (by rfl) (by omega), ?_⟩))⟩, (by first | omega | (dsimp only; omega))⟩
      · have dl : decide (((1 : Nat) : Int) + 1 < (ws.length : Int)) = false := decide_eq_false (by omega)
        have hinv : 2 ≤ 3 ∧ a = At ws 1 2 ∧ b = At ws 2 2 ∧ c = At ws 3 2 := ⟨by decide, ea, (show b = wdO ws 2 from eb.trans (wdO_no l1).symm), ec⟩
        (repeat (first | refine gq_DI ?_ | (refine ga_DI ?_; intro _hq) | refine gd_DI ?_))
        exact ⟨(2, a, b, c), hinv, ⟨by rfl, (by repeat (first | exact trivial | refine ⟨by rfl, ?_⟩ | refine ⟨vI_of (by rfl) (by omega), ?_⟩)), (by repeat (first | exact trivial | refine ⟨by rfl, ?_⟩ | refine ⟨vI_of (by rfl) (by omega), ?_⟩))⟩, (by first | omega | (dsimp only; omega))⟩
    · have hg : decide (((2 : Nat) : Int) < ((3 : Nat) : Int)) = true := by decide
      rcases Nat.lt_or_ge 3 ws.length with l1 | l1
      · have dl : decide (((2 : Nat) : Int) + 1 < (ws.length : Int)) = true := decide_eq_true (by omega)
        by_cases l2 : (ws.getD 3 []).length = 1
        · have d2 : (((ws.getD (((2 : Nat) : Int) + 1).toNat Cel.no).length : Int) == 1) = true := by rw [show (ws.getD (((2 : Nat) : Int) + 1).toNat Cel.no).length = 1 from l2]; rfl
          have l3 : 0 < (ws.getD (((2 : Nat) : Int) + 1).toNat Cel.no).length := by rw [show (ws.getD (((2 : Nat) : Int) + 1).toNat Cel.no).length = 1 from l2]; decide
          have hle := ((ws.getD (((2 : Nat) : Int) + 1).toNat Cel.no).getD (0 : Int).toNat 0).toNat_lt
          have hinv : 3 ≤ 3 ∧ a = At ws 1 3 ∧ b = At ws 2 3 ∧ ((((ws.getD 3 []).getD 0 0).toNat : Int) - 48) = At ws 3 3 := ⟨by decide, ea, eb, (wdO_y l1 l2).symm⟩
          (repeat (first | refine gq_DI ?_ | (refine ga_DI ?_; intro _hq) | refine gd_DI ?_))
          exact ⟨(3, a, b, ((((ws.getD 3 []).getD 0 0).toNat : Int) - 48)), hinv, ⟨by rfl, (by repeat (first | exact trivial | refine ⟨by rfl, ?_⟩ | refine ⟨vI_of (by rfl) (by omega), ?_⟩)), (by repeat (first | exact trivial | refine ⟨by rfl, ?_⟩ | refine ⟨vI_of (by rfl) (by omega), ?_⟩))⟩, (by first | omega | (dsimp only; omega))⟩
        · have d2 : (((ws.getD (((2 : Nat) : Int) + 1).toNat Cel.no).length : Int) == 1) = false := by rw [beq_eq_false_iff_ne]; intro h; exact l2 (by have : ((ws.getD 3 []).length : Int) = 1 := h; omega)
          have hinv : 3 ≤ 3 ∧ a = At ws 1 3 ∧ b = At ws 2 3 ∧ c = At ws 3 3 := ⟨by decide, ea, eb, (show c = wdO ws 3 from ec.trans (wdO_n l2).symm)⟩
          (repeat (first | refine gq_DI ?_ | (refine ga_DI ?_; intro _hq) | refine gd_DI ?_))
          exact ⟨(3, a, b, c), hinv, ⟨by rfl, (by repeat (first | exact trivial | refine ⟨by rfl, ?_⟩ | refine ⟨vI_of (by rfl) (by omega), ?_⟩)), (by repeat (first | exact trivial | refine ⟨by rfl, ?_⟩ | refine ⟨vI_of (by rfl) (by omega), ?_⟩))⟩, (by first | omega | (dsimp only; omega))⟩
      · have dl : decide (((2 : Nat) : Int) + 1 < (ws.length : Int)) = false := decide_eq_false (by omega)
        have hinv : 3 ≤ 3 ∧ a = At ws 1 3 ∧ b = At ws 2 3 ∧ c = At ws 3 3 := ⟨by decide, ea, eb, (show c = wdO ws 3 from ec.trans (wdO_no l1).symm)⟩
        (repeat (first | refine gq_DI ?_ | (refine ga_DI ?_; intro _hq) | refine gd_DI ?_))
        exact ⟨(3, a, b, c), hinv, ⟨by rfl, (by repeat (first | exact trivial | refine ⟨by rfl, ?_⟩ | refine ⟨vI_of (by rfl) (by omega), ?_⟩)), (by repeat (first | exact trivial | refine ⟨by rfl, ?_⟩ | refine ⟨vI_of (by rfl) (by omega), ?_⟩))⟩, (by first | omega | (dsimp only; omega))⟩
    · have hg : decide (((3 : Nat) : Int) < ((3 : Nat) : Int)) = false := by decide
      replace ea : a = wdO ws 1 := ea
      replace eb : b = wdO ws 2 := eb
      replace ec : c = wdO ws 3 := ec
      subst ea eb ec
      (repeat (first | refine gq_DI ?_ | (refine ga_DI ?_; intro _hq) | refine gd_DI ?_))
      ((try refine aw_ret ?_); refine ret_auto2 (by rfl) (by rfl) (by rfl) (by repeat (first | exact trivial | refine ⟨by first | rfl | omega, ?_⟩)) ?_ (by repeat (first | exact trivial | refine ⟨by rfl, by rfl, ?_⟩)) (by repeat (first | exact trivial | refine ⟨by rfl, by rfl, ?_⟩)); try rfl)
end Go.Proofs.YtgphlcdinejmdaaGreatDoor

/- Contracts of Go's library at this program. -/
namespace Go.Proofs.YtgphlcdinejmdaaGreatDoor
set_option linter.unusedVariables false
open Go.Shelf Go.RowKit Go.Lib
def Tryz.lays145_ren : Go.Shelf.Ren := ⟨fun | 145 => 29 | 220 => 55 | 219 => 70 | 217 => 89 | 225 => 90 | 224 => 91 | 267 => 92 | 266 => 107 | 314 => 108 | n => n, fun | 9 => 9 | 4 => 4 | 59 => 53 | 3 => 3 | 5 => 5 | 46 => 127 | 146 => 142 | 51 => 138 | n => n, fun | 1 => 0 | n => n⟩
theorem Tryz.lays145 : Go.Proofs.Lays.n145 Tryz.prog Tryz.lays145_ren := {
  mixed := by kernel_rfl
  f145 := Tryz.func29.trans (congrArg some (by kernel_rfl))
  f217 := Tryz.func89.trans (congrArg some (by kernel_rfl))
  f219 := Tryz.func70.trans (congrArg some (by kernel_rfl))
  f220 := Tryz.func55.trans (congrArg some (by kernel_rfl))
  f224 := Tryz.func91.trans (congrArg some (by kernel_rfl))
  f225 := Tryz.func90.trans (congrArg some (by kernel_rfl))
  f266 := Tryz.func107.trans (congrArg some (by kernel_rfl))
  f267 := Tryz.func92.trans (congrArg some (by kernel_rfl))
  f314 := Tryz.func108.trans (congrArg some (by kernel_rfl))
  t3 := Tryz.underlying3
  a3 := Tryz.isAgg3
  z3 := Tryz.sizeOf3
  v3 := Tryz.zeroValue3
  t4 := Tryz.underlying4
  a4 := Tryz.isAgg4
  z4 := Tryz.sizeOf4
  v4 := Tryz.zeroValue4
  t5 := Tryz.underlying5
  a5 := Tryz.isAgg5
  z5 := Tryz.sizeOf5
  v5 := Tryz.zeroValue5
  t9 := Tryz.underlying9
  a9 := Tryz.isAgg9
  z9 := Tryz.sizeOf9
  v9 := Tryz.zeroValue9
  t46 := Tryz.underlying127
  a46 := Tryz.isAgg127
  z46 := Tryz.sizeOf127
  v46 := Tryz.zeroValue127
  t51 := Tryz.underlying138
  a51 := Tryz.isAgg138
  z51 := Tryz.sizeOf138
  v51 := Tryz.zeroValue138
  t59 := Tryz.underlying53
  a59 := Tryz.isAgg53
  z59 := Tryz.sizeOf53
  v59 := Tryz.zeroValue53
  t146 := Tryz.underlying142
  a146 := Tryz.isAgg142
  z146 := Tryz.sizeOf142
  v146 := Tryz.zeroValue142
  g1 := by kernel_rfl }
theorem Tryz.strings_Cut (s sep : ByteArray) (m : Int) (w : World) (hs : s.size < 4294967281) (hm : w.cell? ⟨0, 0, none⟩ = some (.int .i64 m)) :
    Calls Tryz.prog 29 #[.string s, .string sep] w fun e w' => e = .returned (.tuple #[.string ⟨(Lib.cut s.data.toList sep.data.toList).1.toArray⟩, .string ⟨(Lib.cut s.data.toList sep.data.toList).2.1.toArray⟩, .bool (Lib.cut s.data.toList sep.data.toList).2.2]) ∧ ∃ n, w' = w.drewN n := Any.strings_Cut Tryz.lays145 s sep m w hs hm
end Go.Proofs.YtgphlcdinejmdaaGreatDoor
