/- PX, DJA: laid into one text. -/
import Derived.Test.YtnenhckongccgaaGreatDoorQHF
import Derived.Test.YtnenhckongccgaaGreatDoorQHO

namespace Go.Proofs.YtnenhckongccgaaGreatDoor
set_option linter.unusedVariables false
set_option linter.unusedSimpArgs false
open Go.Lib (decDigits)
abbrev dT (d : Dd) : List UInt8 := dtx d.k d.n d.p
def jt : List Dd → List UInt8
  | [] => []
  | d :: l => dT d ++ 10 :: jt l
def jall (l : List Dd) : Bool := l.all (fun d => !(dT d == []))
def jtx (l : List Dd) : List UInt8 := if jall l = true then jt l else []
theorem dd2_nl : ∀ n : Fin 100, (dd2 n.val).contains 10 = false := by decide +kernel
theorem not_mem_of {l : List UInt8} {c : UInt8} (h : l.contains c = false) : c ∉ l := fun hm => by
  rw [List.contains_iff_mem.2 hm] at h; cases h
theorem dx_nl {x : Int} (h : 0 ≤ x ∧ x < 100) : (10 : UInt8) ∉ dx x := by
  have h2 := dd2_nl ⟨x.toNat, by omega⟩
  dsimp only at h2
  show (10 : UInt8) ∉ decDigits x.toNat
  rw [dd2_eq (by omega)]
  exact not_mem_of h2
theorem dnm_nl (k : Int) : (10 : UInt8) ∉ dnm k := not_mem_of (by
  unfold dnm
  repeat (split; rfl)
  rfl)
theorem gnm_nl (k : Int) : (10 : UInt8) ∉ gnm k := not_mem_of (by
  unfold gnm
  repeat (split; rfl)
  rfl)
theorem gtT_nl {g : Gt} (h : gok 8 g = true) : (10 : UInt8) ∉ gtT g := by
  obtain ⟨_, _, ha, hb, hc⟩ := gok_bd h
  have h0 := gnm_nl 0
  have h1 := gnm_nl g.k
  have a := dx_nl (x := g.a) (by omega)
  have b := dx_nl (x := g.b) (by omega)
  have c := dx_nl (x := g.c) (by omega)
  have d : ¬ ((10 : UInt8) = 32) := by decide
  unfold gtT
  split
  · simp only [List.mem_append, List.mem_cons, List.not_mem_nil, or_false, not_or]; exact ⟨⟨h0, d⟩, a⟩
  split
  · simp only [List.mem_append, List.mem_cons, List.not_mem_nil, or_false, not_or]; exact ⟨⟨⟨⟨h1, d⟩, a⟩, d⟩, b⟩
  · simp only [List.mem_append, List.mem_cons, List.not_mem_nil, or_false, not_or]; exact ⟨⟨⟨⟨⟨⟨h1, d⟩, a⟩, d⟩, b⟩, d⟩, c⟩
theorem dtx_nl (k n : Int) (p : Gt) : (10 : UInt8) ∉ dtx k n p := by
  have d : ¬ ((10 : UInt8) = 32) := by decide
  unfold dtx
  split
  · split
    · rename_i hc
      simp only [List.mem_append, List.mem_cons, List.not_mem_nil, or_false, not_or]
      exact ⟨⟨dnm_nl k, d⟩, dx_nl (by omega)⟩
    · exact List.not_mem_nil
  split
  · split
    · rename_i hc
      simp only [List.mem_append, List.mem_cons, List.not_mem_nil, or_false, not_or]
      exact ⟨⟨dnm_nl 2, d⟩, gtT_nl hc.2⟩
    · exact List.not_mem_nil
  split
  · split
    · exact dnm_nl k
    · exact List.not_mem_nil
  · exact List.not_mem_nil
theorem app_uni {c : UInt8} : ∀ {a b x y : List UInt8}, c ∉ a → c ∉ b → a ++ c :: x = b ++ c :: y → a = b ∧ x = y
  | [], [], x, y, _, _, e => by injection e with _ e; exact ⟨rfl, e⟩
  | [], u :: b, x, y, _, hb, e => by injection e with e _; exact absurd (by rw [e]; exact List.mem_cons_self) hb
  | u :: a, [], x, y, ha, _, e => by injection e with e _; exact absurd (by rw [e]; exact List.mem_cons_self) ha
  | u :: a, v :: b, x, y, ha, hb, e => by
    injection e with e1 e2
    obtain ⟨h1, h2⟩ := app_uni (fun h => ha (List.mem_cons_of_mem _ h)) (fun h => hb (List.mem_cons_of_mem _ h)) e2
    exact ⟨by rw [e1, h1], h2⟩
def JR (s : List UInt8) (l : List Dd) (n : Nat) : Prop :=
  jall l = true ∧ ∃ r, s = jt l ++ r ∧ n = (jt l).length ∧ ∀ a b, r = a ++ 10 :: b → (10 : UInt8) ∉ a → ∀ k n p, ¬ DOk a k n p
theorem jall_cons {d : Dd} {l : List Dd} : jall (d :: l) = true ↔ (dT d ≠ [] ∧ jall l = true) := by
  unfold jall
  rw [List.all_cons, Bool.and_eq_true, Bool.not_eq_true', beq_eq_false_iff_ne]
theorem jall_snoc {d : Dd} : ∀ {l : List Dd}, jall l = true → dT d ≠ [] → jall (l ++ [d]) = true
  | [], _, h => jall_cons.2 ⟨h, rfl⟩
  | e :: l, hl, h => jall_cons.2 ⟨(jall_cons.1 hl).1, jall_snoc (jall_cons.1 hl).2 h⟩
theorem jt_app : ∀ (l m : List Dd), jt (l ++ m) = jt l ++ jt m
  | [], m => rfl
  | d :: l, m => by rw [List.cons_append, jt, jt, jt_app l m, List.append_assoc]; rfl
theorem jt_snoc (l : List Dd) (d : Dd) : jt (l ++ [d]) = jt l ++ (dT d ++ [10]) := jt_app l [d]
theorem jt_len : ∀ (l : List Dd), l.length ≤ (jt l).length ∧ (jt l).length ≤ 21 * l.length
  | [] => ⟨Nat.le_refl _, Nat.le_refl _⟩
  | d :: l => by
    have := jt_len l
    have h : (dT d).length ≤ 20 := dtx_len d.k d.n d.p
    rw [jt]
    simp only [List.length_append, List.length_cons]
    omega
theorem dd_ext2 {d e : Dd} (h1 : d.k = e.k) (h2 : d.n = e.n) (h3 : d.p = e.p) : d = e := by
  obtain ⟨a, b, c⟩ := d
  obtain ⟨a', b', c'⟩ := e
  dsimp only at h1 h2 h3
  rw [h1, h2, h3]
theorem dT_uni {d e : Dd} (hd : dT d ≠ []) (h : dT d = dT e) : d = e := by
  obtain ⟨a, b, c⟩ := d_uni (s := dT d) (k := d.k) (n := d.n) (p := d.p) ⟨rfl, hd⟩ ⟨h.symm, hd⟩
  exact dd_ext2 a b c
theorem jr_uni : ∀ {l l' : List Dd} {s : List UInt8} {n n' : Nat}, JR s l n → JR s l' n' → l = l' ∧ n = n'
  | [], [], s, n, n', ⟨_, r, _, h, _⟩, ⟨_, r', _, h', _⟩ => ⟨rfl, by rw [h, h']⟩
  | [], d :: l', s, n, n', ⟨_, r, e, h, hm⟩, ⟨ha, r', e', h', _⟩ => by
    have hd := (jall_cons.1 ha).1
    rw [e, jt, jt, List.append_assoc] at e'
    exact absurd (⟨rfl, hd⟩ : DOk (dT d) d.k d.n d.p) (hm (dT d) (jt l' ++ r') e' (dtx_nl _ _ _) _ _ _)
  | d :: l, [], s, n, n', ⟨ha, r, e, h, _⟩, ⟨_, r', e', h', hm⟩ => by
    have hd := (jall_cons.1 ha).1
    rw [e', jt, jt, List.append_assoc] at e
    exact absurd (⟨rfl, hd⟩ : DOk (dT d) d.k d.n d.p) (hm (dT d) (jt l ++ r) e (dtx_nl _ _ _) _ _ _)
  | d :: l, d' :: l', s, n, n', ⟨ha, r, e, h, hm⟩, ⟨ha', r', e', h', hm'⟩ => by
    obtain ⟨hd, hl⟩ := jall_cons.1 ha
    obtain ⟨hd', hl'⟩ := jall_cons.1 ha'
    rw [e, jt, jt, List.append_assoc, List.append_assoc] at e'
    obtain ⟨h1, h2⟩ := app_uni (dtx_nl _ _ _) (dtx_nl _ _ _) e'
    obtain rfl := dT_uni hd h1
    obtain ⟨rfl, h3⟩ := jr_uni (s := jt l ++ r) ⟨hl, r, rfl, rfl, hm⟩ ⟨hl', r', h2, rfl, hm'⟩
    exact ⟨rfl, by rw [h, h']⟩
theorem jr_ex : ∀ (m : Nat) (s : List UInt8), s.length ≤ m → ∃ l n, JR s l n
  | 0, s, h => ⟨[], 0, rfl, s, rfl, rfl, fun a b e => by
      have := congrArg List.length e
      rw [List.length_append, List.length_cons] at this; omega⟩
  | m + 1, s, h => by
    by_cases hx : ∃ a b, s = a ++ 10 :: b ∧ (10 : UInt8) ∉ a ∧ ∃ k n p, DOk a k n p
    · obtain ⟨a, b, e, ha, k, n, p, hd⟩ := hx
      have hl := congrArg List.length e
      rw [List.length_append, List.length_cons] at hl
      obtain ⟨l, q, h1, r, h2, h3, h4⟩ := jr_ex m b (by omega)
      have hT : dT ⟨k, n, p⟩ = a := hd.1
      refine ⟨⟨k, n, p⟩ :: l, _, jall_cons.2 ⟨by rw [hT]; exact hd.2, h1⟩, r, ?_, rfl, h4⟩
      rw [jt, hT, e, h2, List.append_assoc]; rfl
    · refine ⟨[], 0, rfl, s, rfl, rfl, fun a b e ha k n p hd => hx ⟨a, b, e, ha, k, n, p, hd⟩⟩
theorem jr_len {s : List UInt8} {l : List Dd} {n : Nat} (h : JR s l n) : l.length ≤ n ∧ n ≤ s.length := by
  obtain ⟨_, r, h2, h3, _⟩ := h
  have := (jt_len l).1
  have h4 := congrArg List.length h2
  rw [List.length_append] at h4
  omega
end Go.Proofs.YtnenhckongccgaaGreatDoor
namespace Go.Proofs.YtnenhckongccgaaGreatDoor
set_option linter.unusedVariables false
set_option linter.unusedSimpArgs false
set_option maxRecDepth 20000
open Go.RowKit
open Go.Lib (decDigits)
attribute [local irreducible] runA runX AW
theorem gq_DJA {H G : Prop} (k : H) (h : Hid H → G := by (intro hh; repeat1' (first | (first | (refine nxA ?_; (first | (first | refine r_slen (by rfl) Tryz.underlying9 (by rfl) ?_ | refine r_seq (by rfl) (by rfl) (by rfl) ?_ | refine r_sadd (by rfl) (by rfl) (by first | omega | (simp only [List.length_append, List.length_cons, List.length_nil]; omega)) (by rfl) ?_ | refine r_sidx (by rfl) (by rfl) Tryz.underlying9 (by omega) (by rfl) ?_ | refine r_spiece (by rfl) (by rfl) (by rfl) Tryz.underlying9 (.inr rfl) (.inr rfl) (by omega) (by rfl) ?_ | refine r_spiece (by rfl) (by rfl) (by rfl) Tryz.underlying9 (.inr rfl) (.inl ⟨rfl, rfl⟩) (by omega) (by rfl) ?_) | ((first | (refine z_op (by rfl) ?_; first | refine z_ok ?_ ?_ | refine z_ex ?_ (by first | exact zL1 | ((first | fail); exact zWW) | exact zL2 | (first | exact rw_c Dd rfl) | exact zL3 | fail) ?_) | ((first | refine q_callE wsT wsZ (by rfl) ?_ | refine q_callVE wsT (by rfl) (by rfl) ?_); refine ⟨_, _, _, (by first | assumption | exact (k_dt _ _ _).2), _, by rfl, ?_, ?_⟩)); focus (first | exact trivial | fail | exact zQZ)) | fail)) | refine swA ?_) | refine awA ?_); exact hh.out)) : G := h ⟨k⟩
theorem take_d {l : List Dd} {k : Nat} (h : k < l.length) : l.take (k + 1) = l.take k ++ [l.getD k Cel.no] := by
  rw [List.take_succ_eq_append_getElem h]
  simp [List.getD_eq_getElem?_getD, h]
theorem jall_take {l : List Dd} {k : Nat} (h : k < l.length) (hn : dT (l.getD k Cel.no) = []) : jall l = false := by
  rw [Bool.eq_false_iff]
  intro e
  unfold jall at e
  have := List.all_eq_true.1 e (l.getD k Cel.no) (by simp [List.getD_eq_getElem?_getD, h])
  rw [hn] at this
  cases this
set_option maxHeartbeats 2000000 in
theorem k_jtS (l : List Dd) (hl : l.length ≤ 1048576) : Kon Tryz.prog 73 [roA l] [] (vS (jtx l)) [] [] := by
  (refine kM Tryz.func73 rfl ?_; intro hfit hfe)
  (repeat (first | refine gq_DJA ?_ | (refine ga0A ?_; intro _hq)))
  (refine aw_rd [0] [] (fun g : Nat × List UInt8 => [(3, vS g.2), (4, vI g.1)]) (fun g => []) (fun g => g.1 ≤ l.length ∧ g.2 = jt (l.take g.1) ∧ jall (l.take g.1) = true) (fun g => l.length - g.1) (0, []) (by rfl) (by rfl) ?_ (by rfl) zHE zHE ?_)
  · exact ⟨Nat.zero_le _, rfl, rfl⟩
  rintro ⟨k, o⟩ ⟨h1, h2, h3⟩
  dsimp only at h1 h2 h3 ⊢
  rcases Nat.lt_or_ge k l.length with h5 | h5
  · have hd : decide ((k : Int) < (l.length : Int)) = true := decide_eq_true (by omega)
    have ho := (jt_len (l.take k)).2
    rw [← h2, List.length_take] at ho
    have hT := (k_dt (l.getD (k : Int).toNat Cel.no).k (l.getD (k : Int).toNat Cel.no).n (l.getD (k : Int).toNat Cel.no).p).2
    have htl := dtx_len (l.getD (k : Int).toNat Cel.no).k (l.getD (k : Int).toNat Cel.no).n (l.getD (k : Int).toNat Cel.no).p
    have ht : dT (l.getD k Cel.no) = dtx (l.getD (k : Int).toNat Cel.no).k (l.getD (k : Int).toNat Cel.no).n (l.getD (k : Int).toNat Cel.no).p := rfl
    have hsn := take_d h5
    cases hb : (dT (l.getD k Cel.no) == []) with
    | true =>
      have e : jtx l = [] := by unfold jtx; rw [jall_take h5 (beq_iff_eq.1 hb)]; rfl
      rw [e]
      rw [ht] at hb
      clear h2 h3 hsn ht ho
      (repeat (first | refine gq_DJA ?_ | (refine ga0A ?_; intro _hq)))
      (refine rtA ?_; try rfl)
    | false =>
      have hne : dT (l.getD k Cel.no) ≠ [] := beq_eq_false_iff_ne.1 hb
      have hinv : k + 1 ≤ l.length ∧ o ++ (dtx (l.getD (k : Int).toNat Cel.no).k (l.getD (k : Int).toNat Cel.no).n (l.getD (k : Int).toNat Cel.no).p) ++ [10] = jt (l.take (k + 1)) ∧ jall (l.take (k + 1)) = true := by
        refine ⟨h5, ?_, ?_⟩
        · rw [hsn, jt_snoc, ← h2, ← ht, List.append_assoc]
        · rw [hsn]; exact jall_snoc h3 hne
      rw [ht] at hb
      clear h2 h3 hsn ht hne
      (repeat (first | refine gq_DJA ?_ | (refine ga0A ?_; intro _hq)))
      exact ⟨(k + 1, o ++ (dtx (l.getD (k : Int).toNat Cel.no).k (l.getD (k : Int).toNat Cel.no).n (l.getD (k : Int).toNat Cel.no).p) ++ [10]), hinv, ⟨by rfl, zHE, zHE⟩, (by first | omega | (dsimp only; omega))⟩
  · have hd : decide ((k : Int) < (l.length : Int)) = false := decide_eq_false (by omega)
    obtain rfl : k = l.length := by omega
    rw [List.take_length] at h2 h3
    have e : jtx l = o := by unfold jtx; rw [h3, if_pos rfl, h2]
    rw [e]
    clear h2 h3 e
    (repeat (first | refine gq_DJA ?_ | (refine ga0A ?_; intro _hq)))
    (refine rtA ?_; try rfl)
end Go.Proofs.YtnenhckongccgaaGreatDoor
