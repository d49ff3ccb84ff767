/- DJ, JQ, DOI, BW, ShlD, BJ: laid into one text. -/
import Derived.Test.YtnenhckongccgaaGreatDoorQHF
import Derived.Test.YtnenhckongccgaaGreatDoorQHO
import Derived.Test.YtnenhckongccgaaGreatDoorQHZC
import Derived.Test.YtnenhckongccgaaGreatDoorQHZD
import Derived.Test.YtnenhckongccgaaGreatDoorProg
import Derived.Shelf.Strings.BuilderK
import Derived.Shelf.Lays
import Derived.BigCall

namespace Go.Proofs.YtnenhckongccgaaGreatDoor
set_option linter.unusedVariables false
set_option linter.unusedSimpArgs false
set_option maxRecDepth 20000
open Go.RowKit
open Go.Lib (decDigits)
set_option maxHeartbeats 400000 in
theorem clipD : IsClip Tryz.prog 78 := by
  refine isClip_mk Tryz.func78 rfl (by rfl) fun A n c w hn hm => ?_
  go_enter Tryz.func78, Tryz.ntmps78
  go_wp2
  go_ret
  exact ⟨rfl, rfl⟩
attribute [local irreducible] runA runX AW
theorem gq_DJ {H G : Prop} (k : H) (h : Hid H → G := by (intro hh; repeat1' (first | (first | (refine nxA ?_; (first | (first | refine r_slen (by rfl) Tryz.underlying9 (by rfl) ?_ | refine r_seq (by rfl) (by rfl) (by rfl) ?_ | refine r_sadd (by rfl) (by rfl) (by first | omega | (simp only [List.length_append, List.length_cons, List.length_nil]; omega)) (by rfl) ?_ | refine r_sidx (by rfl) (by rfl) Tryz.underlying9 (by omega) (by rfl) ?_ | refine r_spiece (by rfl) (by rfl) (by rfl) Tryz.underlying9 (.inr rfl) (.inr rfl) (by omega) (by rfl) ?_ | refine r_spiece (by rfl) (by rfl) (by rfl) Tryz.underlying9 (.inr rfl) (.inl ⟨rfl, rfl⟩) (by omega) (by rfl) ?_) | ((first | (refine z_op (by rfl) ?_; first | refine z_ok ?_ ?_ | refine z_ex ?_ (by first | exact zL1 | ((first | fail); exact zWW) | exact zL2 | (first | exact rw_c Dd rfl) | exact zL3 | fail) ?_) | ((first | refine q_callE wsT wsZ (by rfl) ?_ | refine q_callVE wsT (by rfl) (by rfl) ?_); refine ⟨_, _, _, (by first | assumption | exact (k_dt _ _ _).2), _, by rfl, ?_, ?_⟩)); focus (first | exact trivial | fail | exact zQZ)) | refine q_clip (by rfl) clipD (by first | exact trivial | omega | exact cvB (fun w => rfl) | ((repeat (any_goals (first | exact rfl | exact cV_len _ | exact cV_ln rfl (by omega) | exact Cel.pos | omega | exact trivial | refine And.intro ?_ ?_))); first | done | fail) | (simp [*]; first | done | fail)) ?_)) | refine swA ?_) | refine awA ?_); exact hh.out)) : G := h ⟨k⟩
theorem u8_eqn (b : UInt8) : ((b.toNat : Int) == 10) = (b == 10) := by
  rw [Bool.eq_iff_iff, beq_iff_eq, beq_iff_eq]
  constructor
  · intro h; exact UInt8.toNat_inj.1 (by have : (10 : UInt8).toNat = 10 := rfl; omega)
  · rintro rfl; rfl
def JI (s : List UInt8) (f : Nat) (o : List Dd) : Prop := jall o = true ∧ s = jt o ++ s.drop f ∧ (jt o).length = f
theorem ji_0 (s : List UInt8) : JI s 0 [] := ⟨rfl, rfl, rfl⟩
theorem ji_len {s : List UInt8} {f : Nat} {o : List Dd} (h : JI s f o) : o.length ≤ f ∧ f ≤ s.length := by
  obtain ⟨_, h2, h3⟩ := h
  have := (jt_len o).1
  have h4 := congrArg List.length h2
  rw [List.length_append] at h4
  omega
theorem ji_more {s a r : List UInt8} {f : Nat} {o : List Dd} {d : Dd} (h : JI s f o) (e : s.drop f = a ++ 10 :: r) (hd : DOk a d.k d.n d.p) : JI s (f + a.length + 1) (o ++ [d]) := by
  obtain ⟨h1, h2, h3⟩ := h
  have hda : dT d = a := hd.1
  have e2 : s.drop (f + a.length + 1) = r := by
    rw [show f + a.length + 1 = f + (a.length + 1) by omega, ← List.drop_drop, e, show a ++ 10 :: r = (a ++ [10]) ++ r by simp, show a.length + 1 = (a ++ [10]).length by simp, List.drop_left]
  refine ⟨jall_snoc h1 (by rw [hda]; exact hd.2), ?_, ?_⟩
  · rw [jt_snoc, hda, e2, List.append_assoc, List.append_assoc, List.singleton_append, ← e]; exact h2
  · rw [jt_snoc, hda, List.length_append, List.length_append, h3]; rfl
theorem ji_end {s : List UInt8} {f : Nat} {o : List Dd} (h : JI s f o) (hm : ∀ a b, s.drop f = a ++ 10 :: b → (10 : UInt8) ∉ a → ∀ k n p, ¬ DOk a k n p) : JR s o f :=
  ⟨h.1, s.drop f, h.2.1, h.2.2.symm, hm⟩
theorem ji_no {s a r : List UInt8} {f : Nat} {o : List Dd} (h : JI s f o) (e : s.drop f = a ++ 10 :: r) (ha : (10 : UInt8) ∉ a) (hn : ∀ k n p, ¬ DOk a k n p) : JR s o f :=
  ji_end h fun a' b' e' ha' k n p hd => by
    rw [e] at e'
    obtain ⟨rfl, _⟩ := app_uni ha ha' e'
    exact hn k n p hd
theorem ji_last {s : List UInt8} {f : Nat} {o : List Dd} (h : JI s f o) (hn : (10 : UInt8) ∉ s.drop f) : JR s o f :=
  ji_end h fun a b e _ k n p _ => hn (by rw [e]; simp)
theorem line_of {s : List UInt8} {f k : Nat} (hf : f ≤ k) (hk : k < s.length) (e : s.getD k 0 = 10) : s.drop f = (s.drop f).take (k - f) ++ 10 :: s.drop (k + 1) := by
  have h := drop_cons hk
  rw [e] at h
  conv => lhs; rw [← List.take_append_drop (k - f) (s.drop f), List.drop_drop, show f + (k - f) = k by omega, h]
theorem mem_take {s : List UInt8} {f k : Nat} (hf : f ≤ k) (hk : k < s.length) (h : (10 : UInt8) ∉ (s.drop f).take (k - f)) (hb : s.getD k 0 ≠ 10) : (10 : UInt8) ∉ (s.drop f).take (k + 1 - f) := by
  rw [take_snoc hf hk]
  simp only [List.mem_append, List.mem_singleton, not_or]
  exact ⟨h, fun e => hb e.symm⟩
set_option maxHeartbeats 4000000 in
theorem k_rjS (s : List UInt8) (hs : s.length ≤ 7000000) (l : List Dd) (n : Nat) (hR : JR s l n) : Kon Tryz.prog 32 [vS s] [] (.tup [.one (.sl 0 0 l.length), .one (.v (.int .i64 n))]) [dRow l] [] := by
  (refine kM Tryz.func32 rfl ?_; intro hfit hfe)
  (repeat (first | refine gq_DJ ?_ | (refine ga0A ?_; intro _hq)))
  (refine aw_rd [0] [] (fun g : Nat × Nat × Nat × List Dd => [(4, .g (.one (.sl 144 g.2.2.1 g.2.2.2.length))), (5, vI g.2.1), (6, vI g.1)]) (fun g => [(144, (g.2.2.1, dRow g.2.2.2))]) (fun g => g.1 ≤ s.length ∧ g.2.1 ≤ g.1 ∧ JI s g.2.1 g.2.2.2 ∧ (10 : UInt8) ∉ (s.drop g.2.1).take (g.1 - g.2.1)) (fun g => s.length - g.1) (0, 0, 0, []) (by rfl) (by rfl) ?_ (by rfl) zHE zHE ?_)
  · exact ⟨Nat.zero_le _, Nat.le_refl _, ji_0 s, by simp⟩
  rintro ⟨k, f, u, o⟩ ⟨h1, h2, h3, h4⟩
  dsimp only at h1 h2 h3 h4 ⊢
  have hol := ji_len h3
  rcases Nat.lt_or_ge k s.length with h5 | h5
  · have hd : decide ((k : Int) < (s.length : Int)) = true := decide_eq_true (by omega)
    have hq := u8_eqn (s.getD (k : Int).toNat 0)
    cases hb : (s.getD k 0 == 10) with
    | true =>
      rw [show s.getD (k : Int).toNat 0 = s.getD k 0 from rfl, hb] at hq
      have hli := line_of h2 h5 (beq_iff_eq.1 hb)
      have hal : ((s.drop f).take (k - f)).length = k - f := by rw [List.length_take, List.length_drop]; omega
      obtain ⟨d, b, hx, hK, _⟩ := rd_ex ((s.drop f).take (k - f)) (by omega)
      rcases hx with ⟨rfl, hx⟩ | ⟨rfl, rfl, hx⟩
      · have hmore := ji_more h3 hli hx
        rw [hal, show f + (k - f) + 1 = k + 1 by omega] at hmore
        have hinv : k + 1 ≤ s.length ∧ k + 1 ≤ k + 1 ∧ JI s (k + 1) (o ++ [d]) ∧ (10 : UInt8) ∉ (s.drop (k + 1)).take (k + 1 - (k + 1)) := ⟨h5, Nat.le_refl _, hmore, by simp⟩
        clear h3 h4 hmore hx hli hR
        (repeat (first | refine gq_DJ ?_ | (refine ga0A ?_; intro _hq)))
        exact ⟨(k + 1, k + 1, u + 1, o ++ [d]), hinv, ⟨by rfl, zHE, zHE⟩, (by first | omega | (dsimp only; omega))⟩
      · obtain ⟨rfl, rfl⟩ := jr_uni hR (ji_no h3 hli h4 hx)
        clear h3 h4 hx hli hR
        (repeat (first | refine gq_DJ ?_ | (refine ga0A ?_; intro _hq)))
        (refine rtA ?_; try rfl)
    | false =>
      rw [show s.getD (k : Int).toNat 0 = s.getD k 0 from rfl, hb] at hq
      have hinv : k + 1 ≤ s.length ∧ f ≤ k + 1 ∧ JI s f o ∧ (10 : UInt8) ∉ (s.drop f).take (k + 1 - f) := ⟨h5, by omega, h3, mem_take h2 h5 h4 (beq_eq_false_iff_ne.1 hb)⟩
      clear h3 h4 hR
      (repeat (first | refine gq_DJ ?_ | (refine ga0A ?_; intro _hq)))
      exact ⟨(k + 1, f, u, o), hinv, ⟨by rfl, zHE, zHE⟩, (by first | omega | (dsimp only; omega))⟩
  · have hd : decide ((k : Int) < (s.length : Int)) = false := decide_eq_false (by omega)
    obtain rfl : k = s.length := by omega
    rw [List.take_of_length_le (by rw [List.length_drop]; omega)] at h4
    obtain ⟨rfl, rfl⟩ := jr_uni hR (ji_last h3 h4)
    clear h3 h4 hR
    (repeat (first | refine gq_DJ ?_ | (refine ga0A ?_; intro _hq)))
    (refine rtA ?_; try rfl)
theorem idx_mem (c : UInt8) : ∀ s : List UInt8, (Go.Lib.index s [c] = -1 ∧ c ∉ s) ∨ ∃ i : Nat, Go.Lib.index s [c] = (i : Int) ∧ i < s.length ∧ s = s.take i ++ c :: s.drop (i + 1) ∧ c ∉ s.take i
  | [] => .inl ⟨rfl, List.not_mem_nil⟩
  | b :: s => by
    rw [idx_cons]
    by_cases hb : (b == c) = true
    · rw [if_pos hb]
      obtain rfl := eq_of_beq hb
      exact .inr ⟨0, rfl, by simp, by simp, by simp⟩
    · rw [if_neg hb]
      have hne : ¬ c = b := fun e => hb (by rw [e]; simp)
      rcases idx_mem c s with ⟨h1, h2⟩ | ⟨i, h1, h2, h3, h4⟩
      · refine .inl ⟨by rw [h1]; rfl, ?_⟩
        simp only [List.mem_cons, not_or]; exact ⟨hne, h2⟩
      · refine .inr ⟨i + 1, ?_, by simp; omega, ?_, ?_⟩
        · rw [h1, if_neg (by simp)]; simp
        · rw [List.take_succ_cons, List.drop_succ_cons, List.cons_append, ← h3]
        · rw [List.take_succ_cons]
          simp only [List.mem_cons, not_or]; exact ⟨hne, h4⟩
theorem cut10 (s : List UInt8) : (Go.Lib.cut s [10] = (s, [], false) ∧ (10 : UInt8) ∉ s) ∨ (∃ i, i < s.length ∧ Go.Lib.cut s [10] = (s.take i, s.drop (i + 1), true) ∧ s = s.take i ++ 10 :: s.drop (i + 1) ∧ (10 : UInt8) ∉ s.take i) := by
  rcases idx_mem 10 s with ⟨h1, h2⟩ | ⟨i, h1, h2, h3, h4⟩
  · refine .inl ⟨?_, h2⟩
    unfold Go.Lib.cut
    rw [h1, if_neg (by decide)]
  · refine .inr ⟨i, h2, ?_, h3, h4⟩
    unfold Go.Lib.cut
    rw [h1, if_pos (by omega)]
    rfl
end Go.Proofs.YtnenhckongccgaaGreatDoor
namespace Go.Proofs.YtnenhckongccgaaGreatDoor
set_option linter.unusedVariables false
set_option linter.unusedSimpArgs false
set_option maxRecDepth 20000
open Go.RowKit
theorem jtx_len (l : List Dd) : (jtx l).length ≤ 21 * l.length := by
  unfold jtx
  split
  · exact (jt_len l).2
  · exact Nat.zero_le _
theorem jr_pre : ∀ {l l' : List Dd} {s p q : List UInt8} {n n' : Nat}, JR s l n → JR p l' n' → s = p ++ q → l'.length ≤ l.length ∧ l.take l'.length = l'
  | l, [], s, p, q, n, n', _, _, _ => ⟨Nat.zero_le _, rfl⟩
  | [], d :: l', s, p, q, n, n', ⟨_, r, e, h, hm⟩, ⟨ha, r', e', h', _⟩, hs => by
    have hd := (jall_cons.1 ha).1
    rw [e, e', jt, jt, List.append_assoc, List.append_assoc] at hs
    exact absurd (⟨rfl, hd⟩ : DOk (dT d) d.k d.n d.p) (hm (dT d) (jt l' ++ r' ++ q) (by rw [List.nil_append] at hs; rw [hs, List.append_assoc]; rfl) (dtx_nl _ _ _) _ _ _)
  | d :: l, d' :: l', s, p, q, n, n', ⟨ha, r, e, h, hm⟩, ⟨ha', r', e', h', hm'⟩, hs => by
    obtain ⟨hd, hl⟩ := jall_cons.1 ha
    obtain ⟨hd', hl'⟩ := jall_cons.1 ha'
    have hs2 : dT d ++ 10 :: (jt l ++ r) = dT d' ++ 10 :: (jt l' ++ r' ++ q) := by
      rw [e, e', jt, jt] at hs
      simp only [List.append_assoc, List.cons_append] at hs ⊢
      exact hs
    obtain ⟨h1, h2⟩ := app_uni (dtx_nl _ _ _) (dtx_nl _ _ _) hs2
    obtain rfl := dT_uni hd h1
    obtain ⟨h3, h4⟩ := jr_pre (s := jt l ++ r) (p := jt l' ++ r') (q := q) ⟨hl, r, rfl, rfl, hm⟩ ⟨hl', r', rfl, rfl, hm'⟩ h2
    refine ⟨by simp only [List.length_cons]; omega, ?_⟩
    rw [List.length_cons, List.take_succ_cons, h4]
attribute [local irreducible] runA runX AW
def wsTJQ : WsT := (75, ([0], true)) :: (74, ([0], true)) :: wsT
def wsZJQ : List (Nat × Nat) := [(73, 6), (33, 6), (999999, 0)]
theorem gq_JQ {H G : Prop} (k : H) (h : Hid H → G := by (intro hh; repeat1' (first | (first | (refine nxA ?_; (first | (first | refine r_slen (by rfl) Tryz.underlying9 (by rfl) ?_ | refine r_seq (by rfl) (by rfl) (by rfl) ?_ | refine r_sne (by rfl) (by rfl) (by rfl) ?_ | refine r_sadd (by rfl) (by rfl) (by first | omega | (simp only [List.length_append, List.length_cons, List.length_nil, List.length_take, List.length_drop]; omega)) (by rfl) ?_ | refine r_spiece (q := z) (by rfl) (by rfl) (by rfl) Tryz.underlying9 (.inl ⟨rfl, rfl⟩) (.inr rfl) (by omega) (by rfl) ?_ | refine r_spiece (p := z + 1) (by rfl) (by rfl) (by rfl) Tryz.underlying9 (.inr rfl) (.inl ⟨rfl, rfl⟩) (by omega) (by rfl) ?_) | ((first | (refine z_op (by rfl) ?_; first | refine z_ok ?_ ?_ | refine z_ex ?_ (by first | exact zL1 | ((first | fail); exact zWW) | exact zL2 | (first | exact rw_c (List UInt8) rfl | exact rw_c Dd rfl) | exact zL3 | (first | exact pu_of (fun w => eq_deed _ _ _ _ _ _ _ _ _ _ _ _ _ _ w) rfl | exact pu_of (fun w => neq_deed _ _ _ _ _ _ _ _ _ _ _ _ _ _ w) rfl)) ?_) | ((first | refine q_callE wsTJQ wsZJQ (by rfl) ?_ | refine q_callVE wsTJQ (by rfl) (by rfl) ?_); refine ⟨_, _, _, (by first | assumption | exact k_open _ (by omega) | exact (k_dt _ _ _).2), _, by rfl, ?_, ?_⟩)); focus (first | exact trivial | fail | exact zQZ)) | fail)) | refine swA ?_) | refine awA ?_); exact hh.out)) : G := h ⟨k⟩
theorem ex_dRJ (l : List UInt8) (hl : l.length ≤ 100000000) : ∃ s : List UInt8, s.length ≤ 300 ∧ Kon Tryz.prog 30 [roA l] [] (vS s) [] [] := by
  have h2 : (l.take 2000).length ≤ 2000 := by simp; omega
  obtain ⟨ds, c2, h3, h4, hK⟩ := ex_written (l.take 2000) 0 (by omega)
  have hT := k_jtS ds (by omega)
  have htl := jtx_len ds
  generalize jtx ds = t at hT htl
  obtain ⟨p, _, hp, hP⟩ := ex_pick (l.take 2000) c2 3 (by omega)
  have hp' := hp (by decide)
  obtain ⟨s, c3, hs, hS⟩ := ex_spoil (l.take 2000) (c2 + 1) t (by omega) (by omega)
  obtain ⟨q, _, hq, hQ⟩ := ex_pick (l.take 2000) (c2 + 1) ((t.length : Int) + 1) (by omega)
  have hq' := hq (by omega)
  obtain ⟨z, rfl⟩ : ∃ z : Nat, q = (z : Int) := ⟨q.toNat, by omega⟩
  clear hp hq
  by_cases hp0 : p = 0
  · subst hp0
    refine ⟨s, by omega, ?_⟩
    (refine kM Tryz.func30 rfl ?_; intro hfit hfe)
    (repeat (first | refine gq_JQ ?_ | (refine ga0A ?_; intro _hq)))
    (refine rtA ?_; try rfl)
  have hb0 : (p == 0) = false := by simp; omega
  by_cases hp1 : p = 1
  · subst hp1
    refine ⟨(t.drop 0).take (z - 0), by simp; omega, ?_⟩
    (refine kM Tryz.func30 rfl ?_; intro hfit hfe)
    (repeat (first | refine gq_JQ ?_ | (refine ga0A ?_; intro _hq)))
    (refine rtA ?_; try rfl)
  have hb1 : (p == 1) = false := by simp; omega
  refine ⟨t, by omega, ?_⟩
  (refine kM Tryz.func30 rfl ?_; intro hfit hfe)
  (repeat (first | refine gq_JQ ?_ | (refine ga0A ?_; intro _hq)))
  (refine rtA ?_; try rfl)
theorem k_sameDz (l : List Dd) (h : l.length ≤ 10000) : Kon Tryz.prog 33 [roA l, roA l] [] (vB true) [] [] := by
  have h1 : ((l.length : Int) != (l.length : Int)) = false := by simp
  (refine kM Tryz.func33 rfl ?_; intro hfit hfe)
  (repeat (first | refine gq_JQ ?_ | (refine ga0A ?_; intro _hq)))
  (refine aw_rd [0, 1] [] (fun i : Nat => [(5, vI i)]) (fun _ => []) (fun i => i ≤ l.length) (fun i => l.length - i) 0 (by rfl) (by rfl) ?_ (by rfl) zHE zHE ?_)
  · exact Nat.zero_le _
  rintro i hi
  rcases Nat.lt_or_ge i l.length with h5 | h5
  · have hd : decide ((i : Int) < (l.length : Int)) = true := decide_eq_true (by omega)
    have hq : ∀ x : Int, (x == x) = true := fun x => by simp
    have e1 := hq (l.getD (i : Int).toNat Cel.no).k
    have e2 := hq (l.getD (i : Int).toNat Cel.no).n
    have e3 := hq (l.getD (i : Int).toNat Cel.no).p.k
    have e4 := hq (l.getD (i : Int).toNat Cel.no).p.a
    have e5 := hq (l.getD (i : Int).toNat Cel.no).p.b
    have e6 := hq (l.getD (i : Int).toNat Cel.no).p.c
    (repeat (first | refine gq_JQ ?_ | (refine ga0A ?_; intro _hq) | refine gdA ?_))
    exact ⟨i + 1, h5, ⟨by rfl, zHE, zHE⟩, (by first | omega | (dsimp only; omega))⟩
  · have hd : decide ((i : Int) < (l.length : Int)) = false := decide_eq_false (by omega)
    (repeat (first | refine gq_JQ ?_ | (refine ga0A ?_; intro _hq) | refine gdA ?_))
    (refine rtA ?_; try rfl)
end Go.Proofs.YtnenhckongccgaaGreatDoor
namespace Go.Proofs.YtnenhckongccgaaGreatDoor
set_option linter.unusedVariables false
set_option linter.unusedSimpArgs false
set_option maxRecDepth 20000
open Go.RowKit
open Go.Lib (decDigits)
theorem rgI_ex (s : List UInt8) (hs : s.length ≤ 7000000) : ∃ g b, RG s g b ∧ Kon Tryz.prog 115 [vS s] [] (tupG g b) [] [] := by
  obtain ⟨g, b, h⟩ := rg_all s
  refine ⟨g, b, h, ?_⟩
  rcases h with ⟨rfl, h⟩ | ⟨rfl, rfl, h⟩
  · have hne : s ≠ [] := fun e => gok_nil g (e ▸ h)
    obtain ⟨e1, e2, e3⟩ := gk_rd h
    obtain ⟨_, hk, _⟩ := gok_bd h.1
    have ht : (gtx g == s) = true := (gtx_eq hne).2 h
    have hkk : ((g.k.toNat : Nat) : Int) = g.k := by omega
    have := k_rgI1 s hs g.k.toNat (by omega) (by rw [hkk]; exact e3) (by rw [hkk, e2]; exact ht)
    rw [hkk, e2] at this
    exact this
  · by_cases hne : s = []
    · subst hne
      exact k_rgI0 [] hs fun j a b c e => absurd (congrArg List.length e) (by have := (gnm_len (j : Int)).1; have h2 : ((cutA 32 [] []).getD 0 []).length = 0 := rfl; omega)
    · exact k_rgI0 s hs fun j a b c _ => no_gtx hne h _
theorem rdI_no2 (s : List UInt8) (hs : s.length ≤ 7000000) (h : ∀ k n p, ¬ DOk s k n p) : Kon Tryz.prog 77 [vS s] [] (tupD dZ false) [] [] := by
  by_cases hne : s = []
  · subst hne; exact k_rdI_nil
  have hne2 : (s == []) = false := by rw [beq_eq_false_iff_ne]; exact hne
  have hC := k_scut 32 s hs
  have hct := ct_cases 32 s
  rcases hx : Go.Lib.cut s [32] with ⟨a, b, f⟩
  rw [hx] at hC hct
  have hbl : b.length ≤ 7000000 := by
    rcases hct with ⟨h1, _⟩ | ⟨i, _, h1, _⟩
    · obtain ⟨rfl, h2⟩ := Prod.mk.inj h1
      rw [(Prod.mk.inj h2).1]; simp
    · rw [(Prod.mk.inj (Prod.mk.inj h1).2).1, List.length_drop]; omega
  have hn := fun k n p => bne_of _ (no_dtx hne h k n p)
  rcases dnm_dec a with ⟨k, hk, ha⟩ | ⟨h0, h1, h2, h3, h4⟩
  · have h' : k = 0 ∨ k = 1 ∨ k = 2 ∨ k = 3 ∨ k = 4 := by omega
    rcases h' with rfl | rfl | rfl | rfl | rfl
    · obtain ⟨n, e, he, _, hA⟩ := ex_atoi b hbl
      rcases he with rfl | rfl
      · exact k_rdI0Ntrue s a b f n hC ha hA hne2 (hn 0 n g0)
      · exact k_rdI0Etrue s a b f n hC ha hA hne2 (hn 0 n g0)
    · obtain ⟨n, e, he, _, hA⟩ := ex_atoi b hbl
      rcases he with rfl | rfl
      · exact k_rdI1Ntrue s a b f n hC ha hA hne2 (hn 1 n g0)
      · exact k_rdI1Etrue s a b f n hC ha hA hne2 (hn 1 n g0)
    · obtain ⟨p, q, _, hA⟩ := rgI_ex b hbl
      exact k_rdI2true s a b f p q hC ha hA hne2 (hn 2 0 p)
    · exact k_rdI3true s a b f hC ha hne2 (hn 3 0 g0)
    · exact k_rdI4true s a b f hC ha hne2 (hn 4 0 g0)
  · exact k_rdIx s a b f hC (nm_ne (k := 0) h0) (nm_ne (k := 1) h1) (nm_ne (k := 2) h2) (nm_ne (k := 3) h3) (nm_ne (k := 4) h4) hne2
theorem rdI_yes2 (s : List UInt8) (hs : s.length ≤ 7000000) (d : Dd) (h : DOk s d.k d.n d.p) : Kon Tryz.prog 77 [vS s] [] (tupD d true) [] [] := by
  have hne := h.2
  have hne2 : (s == []) = false := by rw [beq_eq_false_iff_ne]; exact hne
  have hC := k_scut 32 s hs
  have ht := bnt_of _ ((dtx_eq hne).2 h)
  obtain ⟨k, n, p⟩ := d
  dsimp only at h ht
  rcases d_cases h with ⟨hk, rfl, hn, e, ec⟩ | ⟨rfl, rfl, hg, e, ec⟩ | ⟨hk, rfl, rfl, e, ec⟩
  · have hcut := cut_of (dnm_no k) e
    rw [hcut] at hC
    have hat : Go.Lib.atoiAll (dx n) = .ok n := by
      have := (dd2_of (n := n.toNat) (by omega)).2.1
      rw [this]; congr 1; omega
    have hdl : (dx n).length ≤ 7000000 := by
      have := (dd2_of (n := n.toNat) (by omega)).2.2.2.2
      show (Go.Lib.decDigits n.toNat).length ≤ 7000000
      omega
    have hA := k_atoiOk (dx n) n hdl hat
    rcases hk with rfl | rfl
    · exact k_rdI0Nfalse s _ _ _ n hC rfl hA hne2 ht
    · exact k_rdI1Nfalse s _ _ _ n hC rfl hA hne2 ht
  · have hcut := cut_of (dnm_no 2) e
    rw [hcut] at hC
    have hgl := gtT_len hg
    obtain ⟨p2, q2, h2, hA⟩ := rgI_ex (gtT p) (by omega)
    have hp2 : p2 = p := by
      rcases h2 with ⟨_, h2⟩ | ⟨_, _, h2⟩
      · exact gk_uni h2 ⟨hg, rfl⟩
      · exact absurd ⟨hg, rfl⟩ (h2 p)
    subst hp2
    exact k_rdI2false s _ _ _ p2 q2 hC rfl hA hne2 ht
  · have hcut := cut_no (dnm_no k)
    rw [← e] at hcut
    rw [hcut] at hC
    rcases hk with rfl | rfl
    · exact k_rdI3false s _ _ _ hC e hne2 ht
    · exact k_rdI4false s _ _ _ hC e hne2 ht
theorem rdI_ex2 (s : List UInt8) (hs : s.length ≤ 7000000) : ∃ d b, RDd s d b ∧ Kon Tryz.prog 77 [vS s] [] (tupD d b) [] [] := by
  obtain ⟨d, b, h⟩ := rd_all s
  refine ⟨d, b, h, ?_⟩
  rcases h with ⟨rfl, h⟩ | ⟨rfl, rfl, h⟩
  · exact rdI_yes2 s hs d h
  · exact rdI_no2 s hs h
attribute [local irreducible] runA runX AW
theorem gq_DOI {H G : Prop} (k : H) (h : Hid H → G := by (intro hh; repeat1' (first | (first | (refine nxA ?_; (first | (first | refine r_slen (by rfl) Tryz.underlying9 (by rfl) ?_ | refine r_seq (by rfl) (by rfl) (by rfl) ?_ | refine r_sadd (by rfl) (by rfl) (by first | omega | (simp only [List.length_append, List.length_cons, List.length_nil]; omega)) (by rfl) ?_ | refine r_sidx (by rfl) (by rfl) Tryz.underlying9 (by omega) (by rfl) ?_ | refine r_spiece (by rfl) (by rfl) (by rfl) Tryz.underlying9 (.inr rfl) (.inr rfl) (by omega) (by rfl) ?_ | refine r_spiece (by rfl) (by rfl) (by rfl) Tryz.underlying9 (.inr rfl) (.inl ⟨rfl, rfl⟩) (by omega) (by rfl) ?_) | ((first | (refine z_op (by rfl) ?_; first | refine z_ok ?_ ?_ | refine z_ex ?_ (by first | exact zL1 | ((first | fail); exact zWW) | exact zL2 | (first | exact rw_c Dd rfl) | exact zL3 | fail) ?_) | ((first | refine q_callE wsT wsZ (by rfl) ?_ | refine q_callVE wsT (by rfl) (by rfl) ?_); refine ⟨_, _, _, (by first | assumption | exact (k_dt _ _ _).2), _, by rfl, ?_, ?_⟩)); focus (first | exact trivial | fail | exact zQZ)) | refine q_clip (by rfl) clipD (by first | exact trivial | omega | exact cvB (fun w => rfl) | ((repeat (any_goals (first | exact rfl | exact cV_len _ | exact cV_ln rfl (by omega) | exact Cel.pos | omega | exact trivial | refine And.intro ?_ ?_))); first | done | fail) | (simp [*]; first | done | fail)) ?_)) | refine swA ?_) | refine awA ?_); exact hh.out)) : G := h ⟨k⟩
set_option maxHeartbeats 4000000 in
theorem k_rjI2 (s : List UInt8) (hs : s.length ≤ 7000000) (l : List Dd) (n : Nat) (hR : JR s l n) : Kon Tryz.prog 31 [vS s] [] (.tup [.one (.sl 0 0 l.length), .one (.v (.int .i64 n))]) [dRow l] [] := by
  (refine kM Tryz.func31 rfl ?_; intro hfit hfe)
  (repeat (first | refine gq_DOI ?_ | (refine ga0A ?_; intro _hq)))
  (refine aw_rd [0] [] (fun g : Nat × Nat × List Dd => [(4, .g (.one (.sl 176 g.2.1 g.2.2.length))), (5, vI g.1)]) (fun g => [(176, (g.2.1, dRow g.2.2))]) (fun g => JI s g.1 g.2.2) (fun g => s.length + 1 - g.1) (0, 0, []) (by rfl) (by rfl) ?_ (by rfl) zHE zHE ?_)
  · exact ji_0 s
  rintro ⟨f, u, o⟩ h3
  dsimp only at h3 ⊢
  have hol := ji_len h3
  have e0 : (s.drop f).take (s.length - f) = s.drop f := List.take_of_length_le (by rw [List.length_drop]; omega)
  have hC := k_scut 10 ((s.drop f).take (s.length - f)) (by rw [e0, List.length_drop]; omega)
  rw [e0] at hC
  rw [← e0] at hC
  rcases cut10 (s.drop f) with ⟨h4, h5⟩ | ⟨i, h6, h4, h5, h7⟩
  · have h4' : Go.Lib.cut ((s.drop f).take (s.length - f)) [10] = (s.drop f, [], false) := by rw [e0]; exact h4
    rw [h4'] at hC
    obtain ⟨d, b, hx, hK⟩ := rdI_ex2 (s.drop f) (by rw [List.length_drop]; omega)
    obtain ⟨rfl, rfl⟩ := jr_uni hR (ji_last h3 h5)
    clear h3 h4 h4' h5 hx hR e0
    (repeat (first | refine gq_DOI ?_ | (refine ga0A ?_; intro _hq)))
    (refine rtA ?_; try rfl)
  · have h4' : Go.Lib.cut ((s.drop f).take (s.length - f)) [10] = ((s.drop f).take i, (s.drop f).drop (i + 1), true) := by rw [e0]; exact h4
    rw [h4'] at hC
    rw [List.length_drop] at h6
    have hal : ((s.drop f).take i).length = i := by rw [List.length_take, List.length_drop]; omega
    obtain ⟨d, b, hx, hK⟩ := rdI_ex2 ((s.drop f).take i) (by omega)
    rcases hx with ⟨rfl, hx⟩ | ⟨rfl, rfl, hx⟩
    · have hinv := ji_more h3 h5 hx
      rw [hal] at hinv
      generalize (s.drop f).take i = a at *
      subst hal
      clear h3 h4 h4' h5 hx hR e0 h7
      (repeat (first | refine gq_DOI ?_ | (refine ga0A ?_; intro _hq)))
      exact ⟨(f + a.length + 1, u + 1, o ++ [d]), hinv, ⟨by rfl, zHE, zHE⟩, (by first | omega | (dsimp only; omega))⟩
    · obtain ⟨rfl, rfl⟩ := jr_uni hR (ji_no h3 h5 h7 hx)
      clear h3 h4 h4' h5 hx hR e0 h7
      (repeat (first | refine gq_DOI ?_ | (refine ga0A ?_; intro _hq)))
      (refine rtA ?_; try rfl)
end Go.Proofs.YtnenhckongccgaaGreatDoor
namespace Go.Proofs.YtnenhckongccgaaGreatDoor
set_option linter.unusedVariables false
set_option linter.unusedSimpArgs false
open Go.RowKit
abbrev tB : TypeId := 103
abbrev tu8 : TypeId := 5
theorem bk_info : (Tryz.prog.info? 103).map (·.size) = some 2 := by kernel_rfl
theorem bk_lies : liesAt Tryz.prog Tryz.prog.depth 103 (2 / Tryz.prog.cellsOf 103) 0 103 1 = true := by kernel_rfl
theorem bk_byte : (Tryz.prog.info? 5).map (fun i => (i.zero, i.size, i.bytes)) = some (some (.int .u8 0), 1, 1) := by kernel_rfl
theorem bk_ub : Tryz.prog.underlying 101 = some (.pointer 103) := by kernel_rfl
theorem bk_uu : Tryz.prog.underlying 164 = some .unsafePointer := by kernel_rfl
theorem bk_us : Tryz.prog.underlying 22 = some (.slice 5) := by kernel_rfl
theorem bk_ut : Tryz.prog.underlying 9 = some .string := by kernel_rfl
theorem bk_ent : ∀ args w, (callFunc 122 args).run Tryz.prog w = .ok (.enter 122 args) w := Go.Proofs.enters_of Tryz.func122 (by kernel_rfl) rfl
set_option maxHeartbeats 1000000 in
set_option maxRecDepth 100000 in
theorem bk_used (b : Nat) (w : World) (h0 : w.cell? ⟨b, 0, none⟩ = some (.pointer (some ⟨b, 0, none⟩))) :
    Calls Tryz.prog 122 #[.pointer (some ⟨b, 0, none⟩)] w fun e w' => e = .returned (.tuple #[]) ∧ w' = w := by
  obtain ⟨j, hj, _⟩ := Option.map_eq_some_iff.1 bk_info
  go_enter Tryz.func122, Tryz.ntmps122
  go_wp2
  rw [Lib.run_neq_ptr_same w _ bk_ub hj]
  go_wp2
  go_end0
  exact ⟨rfl, rfl⟩
set_option maxHeartbeats 1000000 in
set_option maxRecDepth 100000 in
theorem bk_fresh (b : Nat) (w : World) (h0 : w.cell? ⟨b, 0, none⟩ = some (.pointer none)) (hsh : w.shape? b = some (103, 2)) (hfz : w.frozen? ⟨b, 0, none⟩ = false) :
    Calls Tryz.prog 122 #[.pointer (some ⟨b, 0, none⟩)] w fun e w' => e = .returned (.tuple #[]) ∧ w' = w.setCell ⟨b, 0, none⟩ (.pointer (some ⟨b, 0, none⟩)) := by
  obtain ⟨j, hj, hjs⟩ := Option.map_eq_some_iff.1 bk_info
  go_enter Tryz.func122, Tryz.ntmps122
  go_wp2
  rw [Lib.run_to_unsafe w ⟨b, 0, none⟩ bk_ub bk_uu hj (by rw [hjs]; decide) hsh (Nat.zero_lt_succ 1)]
  simp only [Result.andThen]
  rw [Oper.upon_value]
  go_wp2
  rw [run_callFunc_extern Tryz.func159 (by kernel_rfl) (by kernel_rfl) (by kernel_rfl) (e := Extern.AbiNoEscape.same) (by kernel_rfl)]
  rw [Lib.run_noEscape]
  simp only [Result.andThen]
  rw [Oper.upon_value]
  go_wp2
  rw [Lib.run_from_unsafe w ⟨b, 0, none⟩ bk_uu bk_ub hj hsh bk_lies]
  simp only [Result.andThen]
  rw [Oper.upon_value]
  go_wp2
  go_end0
  exact ⟨rfl, rfl⟩
theorem bk_copy (B b : Nat) (bs : List Value) (w : World) (h : Lib.IsBuilderF tB tu8 B b bs w) :
    Calls Tryz.prog 122 #[.pointer (some ⟨b, 0, none⟩)] w fun e w' => e = .returned (.tuple #[]) ∧ (Lib.BuilderAtF tB tu8 B b (.pointer (some ⟨b, 0, none⟩)) bs w' ∧ Below B w w' ∧ Lib.OthersKept tu8 (some b) w w') := by
  rcases h with h | h
  · refine (bk_fresh b w h.cell0 h.shape h.frozen0).mono ?_
    rintro e w' ⟨rfl, rfl⟩
    exact ⟨rfl, h.used _, (Below.refl B w).setCell (p := ⟨b, 0, none⟩) h.1 _, (Lib.OthersKept.refl _ _ w).setCell ⟨b, 0, none⟩ rfl _⟩
  · refine (bk_used b w h.cell0).mono ?_
    rintro e w' ⟨rfl, rfl⟩
    exact ⟨rfl, h, Below.refl B _, Lib.OthersKept.refl _ _ _⟩
set_option maxHeartbeats 2000000 in
set_option maxRecDepth 100000 in
theorem bk_byteW (B b : Nat) (bs : List Value) (c : Int) (w : World) (h : Lib.IsBuilderF tB tu8 B b bs w) (hlen : bs.length + 1 ≤ 140737488355328) (hBw : B ≤ w.heap.size) :
    Calls Tryz.prog 84 #[.pointer (some ⟨b, 0, none⟩), .int .u8 c] w fun e w' => e = .returned .nilIface ∧ (Lib.BuilderAtF tB tu8 B b (.pointer (some ⟨b, 0, none⟩)) (bs ++ [.int .u8 c]) w' ∧ Below B w w' ∧ Lib.OthersKept tu8 (some b) w w') := by
  obtain ⟨i0, hi, hz0, hz1, hz2⟩ := info_parts bk_byte
  have e240 := bk_ent
  go_enter Tryz.func84, Tryz.ntmps84
  go_wp2_with (go_at_fn 122; refine (bk_copy B b bs _ h).mono ?_)
  rintro e w1 ⟨rfl, h1, hb1, hk1⟩
  obtain ⟨hB, v, hbk, hown, hne⟩ := h1
  have c0 : w1.cell? ⟨b, 0, none⟩ = some (.pointer (some ⟨b, 0, none⟩)) := by rw [Lib.cell_of_heap hbk]; rfl
  have c1 : w1.cell? ⟨b, 1, none⟩ = some v := by rw [Lib.cell_of_heap hbk]; rfl
  go_wp2_with (at_builtin; refine wpList_append_ownF _ rfl _ _ 22 rfl B 5 i0 (.int .u8 0) 1 1 bk_us hi hz0 hz1 hz2 rfl (by decide) _ _ _ rfl (hown.alloc _) ⟨w1.heap.size, 0, none⟩ 1 1 [.int .u8 c] rfl rfl ?c1 ?c2 ?c3 ?c4 ?c5 ?_)
  case c1 =>
    intro j u hj
    match j, hj with
    | 0, hj => simp at hj; subst hj; simp [Addr.add]
  case c2 => intro u hu; simp at hu; subst hu; rfl
  case c3 => unfold maxLen; omega
  case c4 => omega
  case c5 => have := hb1.size; simp; omega
  intro v' w2 hown' hgrow _
  have hlt : b < w1.heap.size := by
    rcases Nat.lt_or_ge b w1.heap.size with h' | h'
    · exact h'
    · simp [Array.getElem?_eq_none h'] at hbk
  have hb2 : w2.heap[b]? = some (.cells #[.pointer (some ⟨b, 0, none⟩), v] 103 (0, 0)) := by
    rw [hgrow.block b (by simp; omega) (fun e => hne e.symm), Lib.alloc_old w1 _ b hlt]
    exact hbk
  have d0 : w2.cell? ⟨b, 0, none⟩ = some (.pointer (some ⟨b, 0, none⟩)) := by rw [Lib.cell_of_heap hb2]; rfl
  have d1 : w2.cell? ⟨b, 1, none⟩ = some v := by rw [Lib.cell_of_heap hb2]; rfl
  have f1 : w2.frozen? ⟨b, 1, none⟩ = false := Lib.frozen_of_heap hb2 1
  obtain ⟨g, cap, rfl⟩ : ∃ g cap, v' = .slice (some ⟨g, 0, none⟩) (bs.length + 1) cap := by
    rcases hown'.2 with ⟨_, h0⟩ | ⟨g, cap, cur, fz, hv, _⟩
    · omega
    · exact ⟨g, cap, hv⟩
  go_wp2
  go_ret
  refine ⟨rfl, ?_, ?_, ((hk1.alloc _).grown hgrow (Lib.ownsRowF_kind (hown.alloc _))).setCell ⟨b, 1, none⟩ rfl _⟩
  · exact Lib.BuilderAtF.put (T := tB) (e := tu8) hB hb2 (bs' := bs ++ [.int .u8 c]) (by simpa using hown') (by decide)
  · exact ((hb1.alloc (by have := hb1.size; omega) _).grown hgrow (by have := hb1.size; simp; omega) (fun k hk => (hown.lt k hk).1)).setCell (p := ⟨b, 1, none⟩) hB _
set_option maxHeartbeats 2000000 in
set_option maxRecDepth 100000 in
theorem bk_strW (B b : Nat) (bs : List Value) (s : ByteArray) (w : World) (h : Lib.IsBuilderF tB tu8 B b bs w) (hlen : bs.length + s.size ≤ 140737488355328) (hBw : B ≤ w.heap.size) :
    Calls Tryz.prog 83 #[.pointer (some ⟨b, 0, none⟩), .string s] w fun e w' => e = .returned (.tuple #[.int .i64 s.size, .nilIface]) ∧ (Lib.BuilderAtF tB tu8 B b (.pointer (some ⟨b, 0, none⟩)) (bs ++ Lib.strCells s) w' ∧ Below B w w' ∧ Lib.OthersKept tu8 (some b) w w') := by
  obtain ⟨i0, hi, hz0, hz1, hz2⟩ := info_parts bk_byte
  have e240 := bk_ent
  go_enter Tryz.func83, Tryz.ntmps83
  go_wp2_with (go_at_fn 122; refine (bk_copy B b bs _ h).mono ?_)
  rintro e w1 ⟨rfl, h1, hb1, hk1⟩
  obtain ⟨hB, v, hbk, hown, hne⟩ := h1
  have c0 : w1.cell? ⟨b, 0, none⟩ = some (.pointer (some ⟨b, 0, none⟩)) := by rw [Lib.cell_of_heap hbk]; rfl
  have c1 : w1.cell? ⟨b, 1, none⟩ = some v := by rw [Lib.cell_of_heap hbk]; rfl
  go_wp2_with (at_builtin; refine Lib.wpList_append_own_stringF _ rfl _ _ 22 9 rfl B 5 i0 bk_us bk_ut hi hz0 hz1 hz2 _ _ _ rfl hown s rfl ?c3 ?c4 ?c5 ?_)
  case c3 => unfold maxLen; omega
  case c4 => omega
  case c5 => have := hb1.size; omega
  intro v' w2 hown' hgrow _
  have hlt : b < w1.heap.size := by
    rcases Nat.lt_or_ge b w1.heap.size with h' | h'
    · exact h'
    · simp [Array.getElem?_eq_none h'] at hbk
  have hb2 : w2.heap[b]? = some (.cells #[.pointer (some ⟨b, 0, none⟩), v] 103 (0, 0)) := by
    rw [hgrow.block b hlt (fun e => hne e.symm)]
    exact hbk
  have d0 : w2.cell? ⟨b, 0, none⟩ = some (.pointer (some ⟨b, 0, none⟩)) := by rw [Lib.cell_of_heap hb2]; rfl
  have d1 : w2.cell? ⟨b, 1, none⟩ = some v := by rw [Lib.cell_of_heap hb2]; rfl
  have f1 : w2.frozen? ⟨b, 1, none⟩ = false := Lib.frozen_of_heap hb2 1
  obtain ⟨ao, n', cap, rfl⟩ : ∃ ao n' cap, v' = .slice ao n' cap := by
    rcases hown'.2 with ⟨hv, _⟩ | ⟨g, cap, cur, fz, hv, _⟩
    · exact ⟨_, _, _, hv⟩
    · exact ⟨_, _, _, hv⟩
  go_wp2
  go_ret2
  refine ⟨rfl, ?_, ?_, (hk1.grown hgrow (Lib.ownsRowF_kind hown)).setCell ⟨b, 1, none⟩ rfl _⟩
  · exact Lib.BuilderAtF.put (T := tB) (e := tu8) hB hb2 (bs' := bs ++ Lib.strCells s) (by simpa [Lib.strCells_length] using hown') (by decide)
  · exact (hb1.grown hgrow (by have := hb1.size; omega) (fun k hk => (hown.lt k hk).1)).setCell (p := ⟨b, 1, none⟩) hB _
end Go.Proofs.YtnenhckongccgaaGreatDoor
namespace Go.Proofs.YtnenhckongccgaaGreatDoor
set_option linter.unusedVariables false
open Go.Shelf Go.RowKit Go.Lib
def Tryz.lays169_ren : Go.Shelf.Ren := ⟨fun | 169 => 85 | n => n, fun | 70 => 101 | 9 => 9 | 0 => 0 | 72 => 103 | 37 => 22 | 127 => 140 | 3 => 3 | 5 => 5 | n => n, fun | n => n⟩
theorem Tryz.lays169 : Go.Proofs.Lays.n169 Tryz.prog Tryz.lays169_ren := {
  mixed := by kernel_rfl
  f169 := Tryz.func85.trans (congrArg some (by kernel_rfl))
  t0 := Tryz.underlying0
  a0 := Tryz.isAgg0
  z0 := Tryz.sizeOf0
  v0 := Tryz.zeroValue0
  t3 := Tryz.underlying3
  a3 := Tryz.isAgg3
  z3 := Tryz.sizeOf3
  v3 := Tryz.zeroValue3
  t9 := Tryz.underlying9
  a9 := Tryz.isAgg9
  z9 := Tryz.sizeOf9
  v9 := Tryz.zeroValue9
  t37 := Tryz.underlying22
  a37 := Tryz.isAgg22
  z37 := Tryz.sizeOf22
  v37 := Tryz.zeroValue22
  t70 := Tryz.underlying101
  a70 := Tryz.isAgg101
  z70 := Tryz.sizeOf101
  v70 := Tryz.zeroValue101
  t72 := Tryz.underlying103
  a72 := Tryz.isAgg103
  z72 := Tryz.sizeOf103
  v72 := Tryz.zeroValue103
  t127 := Tryz.underlying140
  a127 := Tryz.isAgg140
  z127 := Tryz.sizeOf140
  v127 := Tryz.zeroValue140 }
theorem Tryz.Builder_Extra_169 : Builder.Extra Tryz.prog Tryz.lays169_ren := {
  sizeBuilder := by kernel_rfl
  liesBuilder := by kernel_rfl
  t5 := Tryz.underlying5
  a5 := Tryz.isAgg5
  z5 := Tryz.sizeOf5
  v5 := Tryz.zeroValue5
  infoByte := by kernel_rfl
  cellsByte := by kernel_rfl
  sizeByte := by kernel_rfl
  neB5 := by decide }
theorem Tryz.Builder_String_any_k (B b : Nat) (l : List UInt8) (w : World) (h : Lib.IsBuilderF 103 5 B b (Lib.byteCells l) w) (hBw : B ≤ w.heap.size) :
    Calls Tryz.prog 85 #[.pointer (some ⟨b, 0, none⟩)] w fun e w' => e = .returned (.string ⟨l.toArray⟩) ∧ (Lib.IsBuilderF 103 5 B b (Lib.byteCells l) w' ∧ Below B w w' ∧ Lib.OthersKept 5 (some b) w w') := Any.Builder_String_any_k Tryz.lays169 Tryz.Builder_Extra_169 B b l w h hBw
end Go.Proofs.YtnenhckongccgaaGreatDoor
namespace Go.Proofs.YtnenhckongccgaaGreatDoor
set_option linter.unusedVariables false
set_option linter.unusedSimpArgs false
open Go.RowKit
abbrev dVal (d : Dd) : Value := .agg #[.int .i64 d.k, .int .i64 d.n, .int .i64 d.p.k, .int .i64 d.p.a, .int .i64 d.p.b, .int .i64 d.p.c]
theorem dv_rep (w : World) (d : Dd) : Rep0 w (dV d) (dVal d) := by
  refine ⟨_, rfl, rfl, ?_⟩
  intro j c hj
  rcases j with _ | _ | _ | _ | _ | _ | j
  · cases hj; exact ⟨_, rfl, rfl, rfl⟩
  · cases hj; exact ⟨_, rfl, rfl, rfl⟩
  · cases hj; exact ⟨_, rfl, rfl, rfl⟩
  · cases hj; exact ⟨_, rfl, rfl, rfl⟩
  · cases hj; exact ⟨_, rfl, rfl, rfl⟩
  · cases hj; exact ⟨_, rfl, rfl, rfl⟩
  · simp at hj
theorem dt_calls (d : Dd) (w : World) (hg : Glo w) (hz : gsz ≤ w.heap.size) : Calls Tryz.prog 35 #[dVal d] w fun e w' => e = .returned (.string (str (dT d))) ∧ Below w.heap.size w w' := by
  refine (calls_of_kon (k_dt d.k d.n d.p).1 rfl ?_ hg hz).mono ?_
  · intro j a hj
    rcases j with _ | j
    · cases hj; exact ⟨_, rfl, dv_rep w d⟩
    · simp at hj
  · rintro e w' ⟨v, β, G, ok, rfl, hr, hb⟩
    rw [show v = .string (str (dT d)) from hr.1]
    exact ⟨rfl, hb⟩
theorem str_cells (x : List UInt8) : Lib.strCells (str x) = Lib.byteCells x := by
  simp [Lib.strCells, Lib.byteCells, str]
theorem bk_atKeep {T e : TypeId} {B b : Nat} {p : Value} {bs : List Value} {w w' : World} (h : Lib.BuilderAtF T e B b p bs w) (hb : Below w.heap.size w w') : Lib.BuilderAtF T e B b p bs w' := by
  obtain ⟨hB, v, hbk, ⟨hl, hown⟩, hne⟩ := h
  have key : ∀ k x, w.heap[k]? = some x → w'.heap[k]? = some x := fun k x hx => by rw [hb.block k (Array.getElem?_eq_some_iff.1 hx).1]; exact hx
  refine ⟨hB, v, key _ _ hbk, ⟨hl, ?_⟩, hne⟩
  rcases hown with h | ⟨g, cap, cur, fz, h1, h2, h3, h4⟩
  · exact .inl h
  · exact .inr ⟨g, cap, cur, fz, h1, h2, key _ _ h3, h4⟩
theorem bk_keep {T e : TypeId} {B b : Nat} {bs : List Value} {w w' : World} (h : Lib.IsBuilderF T e B b bs w) (hb : Below w.heap.size w w') : Lib.IsBuilderF T e B b bs w' := by
  rcases h with h | h
  · exact .inl (bk_atKeep h hb)
  · exact .inr (bk_atKeep h hb)
theorem below_up {B B' : Nat} {w w1 w2 : World} (h : Below B w w1) (h2 : Below B' w1 w2) (hB : B ≤ B') : Below B w w2 :=
  ⟨h2.os.trans h.os, h2.tape.trans h.tape, h2.output.trans h.output, Nat.le_trans h.size h2.size, fun k hk => (h2.block k (by omega)).trans (h.block k hk)⟩
theorem glo_below {B : Nat} {w w' : World} (h : Glo w) (hz : gsz ≤ B) (hb : Below B w w') : Glo w' := h.keep fun b hlt => hb.block b (by omega)
set_option maxHeartbeats 4000000 in
set_option maxRecDepth 1000000 in
theorem jtI_walk (l : List Dd) (hl : l.length ≤ 1048576) (A : Option Addr) (c : Nat) (w : World) (hgl : Glo w) (hgz : gsz ≤ w.heap.size) (hc : l.length ≤ c ∧ c ≤ maxLen)
    (hcell : 0 < l.length → ∃ b off, A = some ⟨b, off, none⟩ ∧ b < w.heap.size ∧ ∀ j, j < l.length → w.cell? ⟨b, off + j * 6, none⟩ = some (.int .i64 (l.getD j Cel.no).k) ∧ w.cell? ⟨b, off + j * 6 + 1, none⟩ = some (.int .i64 (l.getD j Cel.no).n) ∧ w.cell? ⟨b, off + j * 6 + 2, none⟩ = some (.int .i64 (l.getD j Cel.no).p.k) ∧ w.cell? ⟨b, off + j * 6 + 3, none⟩ = some (.int .i64 (l.getD j Cel.no).p.a) ∧ w.cell? ⟨b, off + j * 6 + 4, none⟩ = some (.int .i64 (l.getD j Cel.no).p.b) ∧ w.cell? ⟨b, off + j * 6 + 5, none⟩ = some (.int .i64 (l.getD j Cel.no).p.c)) :
    Calls Tryz.prog 37 #[.slice A l.length c] w fun e w' => e = .returned (.string (str (jtx l))) ∧ Below w.heap.size w w' := by
  have hcellH := Lib.hid hcell
  have hglH := Lib.hid hgl
  clear hcell hgl
  go_enter Tryz.func37, Tryz.ntmps37
  go_wp2
  go_loopw [9] (fun i wr => ∃ k : Nat, k ≤ l.length ∧ i = .int .i64 k ∧ Lib.IsBuilderF tB tu8 w.heap.size w.heap.size (Lib.byteCells (jt (l.take k))) wr ∧ RowKit.Hid (jall (l.take k) = true) ∧ Below w.heap.size w wr ∧ w.heap.size + 1 ≤ wr.heap.size) (fun i _ => l.length - (intOf i).toNat)
  case atStart =>
    exact ⟨0, Nat.zero_le _, rfl, Lib.IsBuilderF.of (Lib.fresh_isBuilder tB tu8 w), Lib.hid rfl, (Below.refl _ w).alloc (Nat.le_refl _) _, by simp⟩
  case round =>
    obtain ⟨k, hk, rfl, hI, hj, hbw, hsz⟩ := hrel
    by_cases hlt : k < l.length
    · obtain ⟨b, off, rfl, hbl, hcs⟩ := hcellH.out (by omega)
      have hcsk := hcs k hlt
      have hsn := Lib.hid (take_d hlt)
      have hjn := Lib.hid (fun h => jall_take hlt h)
      obtain ⟨d, hd⟩ : ∃ d, l.getD k Cel.no = d := ⟨_, rfl⟩
      rw [hd] at hcsk hsn hjn
      clear hd
      obtain ⟨c0, c1, c2, c3, c4, c5⟩ := hcsk
      clear hcs hcellH
      rw [← hbw.cell (p := ⟨b, off + k * 6, none⟩) hbl] at c0
      rw [← hbw.cell (p := ⟨b, off + k * 6 + 1, none⟩) hbl] at c1
      rw [← hbw.cell (p := ⟨b, off + k * 6 + 2, none⟩) hbl] at c2
      rw [← hbw.cell (p := ⟨b, off + k * 6 + 3, none⟩) hbl] at c3
      rw [← hbw.cell (p := ⟨b, off + k * 6 + 4, none⟩) hbl] at c4
      rw [← hbw.cell (p := ⟨b, off + k * 6 + 5, none⟩) hbl] at c5
      have hjl := (jt_len (l.take k)).2
      rw [List.length_take] at hjl
      have hjl2 : (jt (l.take k)).length ≤ 22020096 := by omega
      have hjlH := Lib.hid hjl2
      clear hjl hjl2
      have hdl : (dT d).length ≤ 20 := dtx_len _ _ _
      have hdlH := Lib.hid hdl
      clear hdl
      have hbx : Below w.heap.size w (wr.alloc (.cells #[.int .i64 d.k, .int .i64 d.n, .int .i64 d.p.k, .int .i64 d.p.a, .int .i64 d.p.b, .int .i64 d.p.c] 58)) := hbw.alloc hbw.size _
      go_wp2_with (go_at_call 35; refine (dt_calls d _ (glo_below hglH.out hgz hbx) (Nat.le_trans hgz hbx.size)).mono ?_)
      rintro e W1 ⟨rfl, b1⟩
      have hI1 := bk_keep (hI.alloc _) b1
      have hb1 := below_up hbx b1 hbx.size
      have hs1 : w.heap.size + 1 ≤ W1.heap.size := Nat.le_trans hsz (Nat.le_trans (by simp) b1.size)
      clear hI hbw hbx b1 c0 c1 c2 c3 c4 c5
      have hle1 : (Lib.byteCells (jt (l.take k))).length + (str (dT d)).size ≤ 140737488355328 := by
        have h1 := hjlH.out
        have h2 := hdlH.out
        rw [Lib.byteCells_length, show (str (dT d)).size = (dT d).length from rfl]
        omega
      have hle2 : (Lib.byteCells (jt (l.take k) ++ dT d)).length + 1 ≤ 140737488355328 := by
        have h1 := hjlH.out
        have h2 := hdlH.out
        rw [Lib.byteCells_length, List.length_append]
        omega
      have hs0 : w.heap.size ≤ W1.heap.size := by omega
      by_cases hne : dT d = []
      · have hie : (dT d).isEmpty = true := by rw [hne]; rfl
        go_wp2
        go_ret
        have hjx : jtx l = [] := by unfold jtx; rw [hjn.out hne]; rfl
        rw [hjx]
        exact ⟨rfl, hb1⟩
      · have hie : (dT d).isEmpty = false := by
          cases h : dT d with
          | nil => exact absurd h hne
          | cons => rfl
        go_wp2_with (go_at_call 83; refine (bk_strW w.heap.size w.heap.size _ (str (dT d)) _ hI1 hle1 hs0).mono ?_)
        rintro e W2 ⟨rfl, h2, b2, k2⟩
        rw [str_cells, ← Lib.byteCells_append] at h2
        have hs2 : w.heap.size ≤ W2.heap.size := Nat.le_trans hs0 b2.size
        go_wp2_with (go_at_call 84; refine (bk_byteW w.heap.size w.heap.size _ 10 _ (Or.inr h2) hle2 hs2).mono ?_)
        rintro e W3 ⟨rfl, h3, b3, k3⟩
        rw [show (Lib.byteCells (jt (l.take k) ++ dT d) ++ [Value.int .u8 10]) = Lib.byteCells (jt (l.take (k + 1))) by rw [hsn.out, jt_snoc, ← List.append_assoc, Lib.byteCells_append (jt (l.take k) ++ dT d)]; rfl] at h3
        have hj2 : jall (l.take (k + 1)) = true := by rw [hsn.out]; exact jall_snoc hj.out hne
        have hs3 : w.heap.size + 1 ≤ W3.heap.size := Nat.le_trans hs1 (Nat.le_trans b2.size b3.size)
        go_wp2
        go_roundw
        case rel => exact ⟨k + 1, by omega, by go_num, Or.inr h3, Lib.hid hj2, (hb1.trans b2).trans b3, hs3⟩
        case measure => simp [intOf]; omega
    · go_wp2_with (go_at_call 85; refine (Tryz.Builder_String_any_k w.heap.size w.heap.size (jt (l.take k)) _ hI (by omega)).mono ?_)
      rintro e W1 ⟨rfl, _, b1, _⟩
      go_wp2
      go_ret
      have hkl : k = l.length := by omega
      have hjx : jtx l = jt (l.take k) := by
        have := hj.out
        rw [hkl, List.take_length] at this ⊢
        unfold jtx
        rw [if_pos this]
      rw [hjx]
      exact ⟨rfl, hbw.trans b1⟩
theorem k_jtI (l : List Dd) (hl : l.length ≤ 1048576) : Kon Tryz.prog 37 [roA l] [] (vS (jtx l)) [] [] := by
  refine kon_pureZ (Go.Proofs.enters_of Tryz.func37 (by kernel_rfl) rfl) rfl rfl ?_
  intro w ok vs hg hz hok hsz hargs
  obtain ⟨z0, hz0, hr0⟩ := hargs 0 _ rfl
  have hv : vs = #[z0] := by
    obtain ⟨xs⟩ := vs
    match xs, hsz with
    | [y], _ => cases hz0; rfl
  subst hv
  obtain ⟨⟨hlen, hone⟩, A, c, rfl, hnc, hc2, hcells⟩ := hr0
  refine (jtI_walk l hl A c w hg hz ⟨hnc, hc2⟩ ?_).mono ?_
  · intro h0
    obtain ⟨b, off, rfl, hb, hc⟩ := hcells h0
    refine ⟨b, off, rfl, hok b hb, fun j hj => ?_⟩
    have key : ∀ (o : Nat) (v : Value), (Cel.f (l.getD j Cel.no))[o]? = some v → w.cell? ⟨b, off + j * 6 + o, none⟩ = some v := by
      intro o v ho
      have h2 := hc _ _ (cV_cell (l := l) (j := j) (o := o) hj (v := v) ho)
      rw [show off + j * 6 + o = off + (j * Cel.sz Dd + o) from Nat.add_assoc _ _ _]
      exact h2
    exact ⟨key 0 _ rfl, key 1 _ rfl, key 2 _ rfl, key 3 _ rfl, key 4 _ rfl, key 5 _ rfl⟩
  · rintro e w' ⟨rfl, hb⟩
    exact ⟨_, rfl, hb, fun β G ok' => ⟨rfl, rfl⟩⟩
end Go.Proofs.YtnenhckongccgaaGreatDoor
