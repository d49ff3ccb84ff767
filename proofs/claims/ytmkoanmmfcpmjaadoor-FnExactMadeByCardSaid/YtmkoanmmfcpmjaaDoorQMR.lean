/- KBM, PMB, PMC, KOC, KTZ, MBA, KTA: laid into one text. -/
import Derived.Test.YtmkoanmmfcpmjaaDoorQME
import Derived.Test.YtmkoanmmfcpmjaaDoorQMF
import Derived.Test.YtmkoanmmfcpmjaaDoorQMI
import Derived.Test.YtmkoanmmfcpmjaaDoorQMJ
import Derived.Test.YtmkoanmmfcpmjaaDoorQMN
import Derived.Test.YtmkoanmmfcpmjaaDoorQMQ
import Derived.Test.YtmkoanmmfcpmjaaDoorProg
import Derived.Shelf.Spec.TrailingZeros

namespace Go.Proofs.YtmkoanmmfcpmjaaDoor
set_option linter.unusedVariables false
set_option linter.unusedSimpArgs false
set_option maxRecDepth 20000
open Go.RowKit
attribute [local irreducible] runA runX AW
theorem cokB_mkM {n : Int} {l : List Gt} (h1 : 1 ≤ n ∧ n ≤ 8) (h2 : l.length ≤ 24) (h3 : l.all (gok n) = true) : cokB n l = true := by
  unfold cokB btw
  rw [decide_eq_true h1.1, decide_eq_true h1.2, decide_eq_true (by omega), h3]; rfl
end Go.Proofs.YtmkoanmmfcpmjaaDoor
namespace Go.Proofs.YtmkoanmmfcpmjaaDoor
set_option linter.unusedVariables false
set_option linter.unusedSimpArgs false
def ham (a b : Nat) : Nat := pc3 (a ^^^ b)
def mbG (w t : Nat) : Gt := if w ^^^ (w &&& t) ≠ 0 then ctl t (lsb (w ^^^ (w &&& t))) else ctl w (lsb (t ^^^ (w &&& t)))
theorem mb_fin : ∀ n : Fin 4, ∀ w t : Fin 8, w.val < t.val → t.val < 2 ^ n.val → gok (n.val : Int) (mbG w.val t.val) = true ∧ (mbG w.val t.val).k ≤ 2 ∧ (w.val : Int) ≤ gr (mbG w.val t.val) (t.val : Int) ∧ ham w.val (gr (mbG w.val t.val) (t.val : Int)).toNat + 1 = ham w.val t.val ∧ ∀ x : Fin 8, x.val < w.val → gr (mbG w.val t.val) (x.val : Int) = (x.val : Int) := by decide +kernel
theorem ham_fin : ∀ w t : Fin 8, ham w.val t.val ≤ 3 ∧ (ham w.val t.val = 0 ↔ w = t) := by decide +kernel
abbrev MS := List Int × List Gt
def mbStep (w : Nat) (s : MS) : MS := (s.1.map (gr (mbG w (s.1.getD w 0).toNat)), s.2 ++ [mbG w (s.1.getD w 0).toNat])
def mbR (w : Nat) : Nat → MS → MS
  | 0, s => s
  | m + 1, s => mbR w m (mbStep w s)
def mbI (w : Nat) (s : MS) : MS := mbR w (ham w (s.1.getD w 0).toNat) s
def mbO : Nat → Nat → MS → MS
  | 0, _, s => s
  | m + 1, k, s => mbO m (k + 1) (mbI k s)
structure MB (n : Int) (N : Nat) (t : List Int) (k : Nat) (s : MS) : Prop where
  len : s.1.length = N
  bd : ∀ i, i < N → 0 ≤ s.1.getD i 0 ∧ s.1.getD i 0 < (N : Int)
  inj : ∀ i j, i < j → j < N → s.1.getD i 0 ≠ s.1.getD j 0
  fix : ∀ i, i < k → s.1.getD i 0 = (i : Int)
  run : ∀ i, i < N → cr s.2 (t.getD i 0) = s.1.getD i 0
  ok : s.2.all (gok n) = true
  kd : ∀ g ∈ s.2, g.k ≤ 2
theorem MB.ge {n : Int} {N : Nat} {t : List Int} {k : Nat} {s : MS} (h : MB n N t k s) (hk : k < N) : (k : Int) ≤ s.1.getD k 0 := by
  rcases Int.lt_or_le (s.1.getD k 0) (k : Int) with h1 | h1
  · have hb := h.bd k hk
    have h2 := h.fix (s.1.getD k 0).toNat (by omega)
    exact absurd (by rw [h2]; omega) (h.inj (s.1.getD k 0).toNat k (by omega) hk)
  · exact h1
theorem getD_map0 {l : List Int} {f : Int → Int} {i : Nat} (h : i < l.length) : (l.map f).getD i 0 = f (l.getD i 0) := by
  simp [List.getD_eq_getElem?_getD, h]
section
variable {n : Int} {N : Nat} {t : List Int} {k : Nat} {s : MS}
theorem mb_facts (hn : 1 ≤ n ∧ n ≤ 3) (hN : (2 ^ n.toNat : Int) = (N : Int)) (h : MB n N t k s) (hk : k < N) (hne : s.1.getD k 0 ≠ (k : Int)) :
    N ≤ 8 ∧ gok n (mbG k (s.1.getD k 0).toNat) = true ∧ (mbG k (s.1.getD k 0).toNat).k ≤ 2 ∧ (k : Int) ≤ gr (mbG k (s.1.getD k 0).toNat) (s.1.getD k 0) ∧ ham k (gr (mbG k (s.1.getD k 0).toNat) (s.1.getD k 0)).toNat + 1 = ham k (s.1.getD k 0).toNat ∧ ∀ x : Nat, x < k → gr (mbG k (s.1.getD k 0).toNat) (x : Int) = (x : Int) := by
  have hpn := pow_N hN
  have hb := h.bd k hk
  have hg := h.ge hk
  obtain ⟨m, hm⟩ : ∃ m : Nat, n = (m : Int) := ⟨n.toNat, by omega⟩
  have hm3 : m < 4 := by omega
  have hN8 : N ≤ 8 := by
    rw [← hpn, hm, Int.toNat_natCast]
    exact Nat.pow_le_pow_right (n := 2) (j := 3) (by omega) (by omega)
  obtain ⟨x, hx⟩ : ∃ x : Nat, s.1.getD k 0 = (x : Int) := ⟨(s.1.getD k 0).toNat, by omega⟩
  rw [hx] at hb hg hne ⊢
  have hf := mb_fin ⟨m, hm3⟩ ⟨k, by omega⟩ ⟨x, by omega⟩ (by dsimp only; omega) (by dsimp only; rw [hm, Int.toNat_natCast] at hpn; omega)
  dsimp only at hf
  obtain ⟨f1, f2, f3, f4, f5⟩ := hf
  rw [Int.toNat_natCast]
  refine ⟨hN8, by rw [hm]; exact f1, f2, f3, f4, fun y hy => f5 ⟨y, by omega⟩ hy⟩
theorem MB.step (hn : 1 ≤ n ∧ n ≤ 3) (hN : (2 ^ n.toNat : Int) = (N : Int)) (h : MB n N t k s) (hk : k < N) (hne : s.1.getD k 0 ≠ (k : Int)) : MB n N t k (mbStep k s) := by
  obtain ⟨hN8, f1, f2, f3, f4, f5⟩ := mb_facts hn hN h hk hne
  have hg : ∀ i, i < N → (mbStep k s).1.getD i 0 = gr (mbG k (s.1.getD k 0).toNat) (s.1.getD i 0) := fun i hi => getD_map0 (by rw [h.len]; exact hi)
  have hw : ∀ i, i < N → 0 ≤ s.1.getD i 0 ∧ s.1.getD i 0 < 2 ^ n.toNat := fun i hi => by rw [hN]; exact h.bd i hi
  have h1 : [mbG k (s.1.getD k 0).toNat].all (gok n) = true := by rw [List.all_cons, f1]; rfl
  refine ⟨by rw [mbStep, List.length_map]; exact h.len, fun i hi => ?_, fun i j hij hj => ?_, fun i hi => ?_, fun i hi => ?_, ?_, ?_⟩
  · rw [hg i hi, ← hN]; exact gr_lt f1 (hw i hi)
  · rw [hg i (by omega), hg j hj]
    intro e
    have b1 := cr_back h1 (hw i (by omega))
    have b2 := cr_back h1 (hw j hj)
    have e2 : cr [mbG k (s.1.getD k 0).toNat] (s.1.getD i 0) = cr [mbG k (s.1.getD k 0).toNat] (s.1.getD j 0) := e
    rw [e2, b2] at b1
    exact h.inj i j hij hj b1.symm
  · rw [hg i (by omega), h.fix i hi]; exact f5 i hi
  · rw [hg i hi, ← h.run i hi]
    show cr (s.2 ++ [mbG k (s.1.getD k 0).toNat]) (t.getD i 0) = _
    rw [cr_append]; rfl
  · show (s.2 ++ [mbG k (s.1.getD k 0).toNat]).all (gok n) = true
    rw [List.all_append, h.ok, h1]; rfl
  · intro g hgm
    have hgm' : g ∈ s.2 ++ [mbG k (s.1.getD k 0).toNat] := hgm
    rw [List.mem_append, List.mem_singleton] at hgm'
    rcases hgm' with h2 | rfl
    · exact h.kd g h2
    · exact f2
theorem mb_near (hn : 1 ≤ n ∧ n ≤ 3) (hN : (2 ^ n.toNat : Int) = (N : Int)) (h : MB n N t k s) (hk : k < N) (hne : s.1.getD k 0 ≠ (k : Int)) : ham k ((mbStep k s).1.getD k 0).toNat + 1 = ham k (s.1.getD k 0).toNat ∧ mbI k s = mbI k (mbStep k s) := by
  obtain ⟨hN8, f1, f2, f3, f4, f5⟩ := mb_facts hn hN h hk hne
  have e : (mbStep k s).1.getD k 0 = gr (mbG k (s.1.getD k 0).toNat) (s.1.getD k 0) := getD_map0 (by rw [h.len]; exact hk)
  have h1 : ham k ((mbStep k s).1.getD k 0).toNat + 1 = ham k (s.1.getD k 0).toNat := by rw [e]; exact f4
  refine ⟨h1, ?_⟩
  unfold mbI
  rw [← h1]
  rfl
theorem mb_done (h : s.1.getD k 0 = (k : Int)) : mbI k s = s := by
  unfold mbI
  rw [h, Int.toNat_natCast]
  unfold ham
  rw [Nat.xor_self]
  rfl
theorem MB.many (hn : 1 ≤ n ∧ n ≤ 3) (hN : (2 ^ n.toNat : Int) = (N : Int)) (hk : k < N) : ∀ (m : Nat) (s : MS), MB n N t k s → ham k (s.1.getD k 0).toNat = m → MB n N t (k + 1) (mbR k m s) ∧ (mbR k m s).2.length = s.2.length + m
  | 0, s, h, hm => by
    have hpn := pow_N hN
    have hb := h.bd k hk
    have hN8 : N ≤ 8 := by
      rw [← hpn]
      exact Nat.pow_le_pow_right (n := 2) (j := 3) (by omega) (by omega)
    have h0 := ((ham_fin ⟨k, by omega⟩ ⟨(s.1.getD k 0).toNat, by omega⟩).2).1 hm
    have h1 := congrArg Fin.val h0
    dsimp only at h1
    refine ⟨⟨h.len, h.bd, h.inj, fun i hi => ?_, h.run, h.ok, h.kd⟩, rfl⟩
    rcases Nat.lt_or_ge i k with h2 | h2
    · exact h.fix i h2
    · obtain rfl : i = k := by omega
      show s.1.getD i 0 = _
      omega
  | m + 1, s, h, hm => by
    have hne : s.1.getD k 0 ≠ (k : Int) := fun e => by
      rw [e, Int.toNat_natCast] at hm
      unfold ham at hm
      rw [Nat.xor_self] at hm
      cases hm
    have h1 := (mb_near hn hN h hk hne).1
    obtain ⟨h2, h3⟩ := MB.many hn hN hk m (mbStep k s) (h.step hn hN hk hne) (by omega)
    refine ⟨h2, ?_⟩
    show (mbR k m (mbStep k s)).2.length = _
    rw [h3]
    show (s.2 ++ [_]).length + m = _
    rw [List.length_append, List.length_singleton]; omega
theorem MB.word (hn : 1 ≤ n ∧ n ≤ 3) (hN : (2 ^ n.toNat : Int) = (N : Int)) (h : MB n N t k s) (hk : k < N) : MB n N t (k + 1) (mbI k s) ∧ (mbI k s).2.length ≤ s.2.length + (if k + 1 = N then 0 else 3) := by
  obtain ⟨h1, h2⟩ := MB.many hn hN hk _ s h rfl
  refine ⟨h1, ?_⟩
  show (mbR k _ s).2.length ≤ _
  rw [h2]
  have hb := h.bd k hk
  have hg := h.ge hk
  have hpn := pow_N hN
  have hN8 : N ≤ 8 := by
    rw [← hpn]
    exact Nat.pow_le_pow_right (n := 2) (j := 3) (by omega) (by omega)
  have h3 := (ham_fin ⟨k, by omega⟩ ⟨(s.1.getD k 0).toNat, by omega⟩).1
  dsimp only at h3
  split
  · rename_i e
    have : (s.1.getD k 0).toNat = k := by omega
    rw [this]
    unfold ham
    rw [Nat.xor_self]
    show s.2.length + pc3 0 ≤ _
    exact Nat.le_refl _
  · omega
theorem MB.all (hn : 1 ≤ n ∧ n ≤ 3) (hN : (2 ^ n.toNat : Int) = (N : Int)) : ∀ (m k : Nat) (s : MS), MB n N t k s → k + m = N → MB n N t N (mbO m k s) ∧ (mbO m k s).2.length ≤ s.2.length + 3 * (m - 1)
  | 0, k, s, h, hm => by
    obtain rfl : k = N := by omega
    exact ⟨h, Nat.le_refl _⟩
  | m + 1, k, s, h, hm => by
    obtain ⟨h1, h2⟩ := h.word hn hN (by omega)
    obtain ⟨h3, h4⟩ := MB.all hn hN m (k + 1) (mbI k s) h1 (by omega)
    refine ⟨h3, ?_⟩
    show (mbO m (k + 1) (mbI k s)).2.length ≤ _
    split at h2 <;> omega
end
def mbL (t : List Int) : List Gt := (mbO t.length 0 (t, [])).2
theorem mb_first {n : Int} {t : List Int} (h : tvB n t = true) : MB n t.length t 0 (t, []) := by
  unfold tvB at h
  rw [Bool.and_eq_true, Bool.and_eq_true] at h
  obtain ⟨_, _, h3⟩ := h
  have hr : ((List.replicate t.length false).length : Int) = (t.length : Int) := by rw [List.length_replicate]
  exact ⟨rfl, fun i hi => (tvL_at hr h3 i hi).1, fun i j hij hj => tvL_ne hr h3 i j hij hj, fun i hi => absurd hi (Nat.not_lt_zero _), fun i hi => rfl, rfl, fun g hg => absurd hg List.not_mem_nil⟩
theorem mb_law {n : Int} {t : List Int} (h3 : n ≤ 3) (h : tvB n t = true) : cokB n (mbL t).reverse = true ∧ (mbL t).length ≤ 21 ∧ (∀ g ∈ (mbL t).reverse, (g.k == 3 || g.k == 4) = false) ∧ tabN (mbL t).reverse t.length = t := by
  have h' := h
  unfold tvB at h'
  rw [Bool.and_eq_true, Bool.and_eq_true, beq_iff_eq] at h'
  obtain ⟨q1, q2, _⟩ := h'
  have h8 := btw_t q1
  have hn : 1 ≤ n ∧ n ≤ 3 := by omega
  have hN8 : t.length ≤ 8 := by
    rw [← pow_N q2.symm]
    exact Nat.pow_le_pow_right (n := 2) (j := 3) (by omega) (by omega)
  obtain ⟨hM, hL⟩ := MB.all hn q2.symm t.length 0 (t, []) (mb_first h) (by omega)
  have hall : (mbL t).reverse.all (gok n) = true := by
    rw [List.all_eq_true]
    intro g hg
    exact List.all_eq_true.1 hM.ok g (List.mem_reverse.1 hg)
  have hlen : (mbL t).length ≤ 21 := by
    unfold mbL
    simp only [List.length_nil] at hL
    omega
  refine ⟨cokB_mkM (by omega) (by rw [List.length_reverse]; omega) hall, hlen, fun g hg => ?_, ?_⟩
  · have := hM.kd g (List.mem_reverse.1 hg)
    have h5 : (g.k == 3) = false := by rw [beq_eq_false_iff_ne]; omega
    have h6 : (g.k == 4) = false := by rw [beq_eq_false_iff_ne]; omega
    rw [h5, h6]; rfl
  · refine List.ext_getElem (tabN_len _ _) (fun i h1 h2 => ?_)
    have e1 : (tabN (mbL t).reverse t.length)[i] = (tabN (mbL t).reverse t.length).getD i 0 := by simp [List.getD_eq_getElem?_getD, h1]
    have e2 : t[i] = t.getD i 0 := by simp [List.getD_eq_getElem?_getD, h2]
    rw [e1, e2, tabN_get _ _ i h2]
    have hb := (mb_first h).bd i h2
    have hr := hM.run i h2
    rw [hM.fix i h2] at hr
    have hk := cr_back hM.ok (w := t.getD i 0) (by rw [q2.symm]; exact hb)
    rw [hr] at hk
    exact hk
def mpU (f : Int → Int) (l : List Int) (i : Nat) : List Int := (l.take i).map f ++ l.drop i
theorem mpU_len (f : Int → Int) (l : List Int) {i : Nat} (h : i ≤ l.length) : (mpU f l i).length = l.length := by
  unfold mpU; rw [List.length_append, List.length_map, List.length_take, List.length_drop]; omega
theorem mpU_get (f : Int → Int) (l : List Int) {i : Nat} (h : i < l.length) : (mpU f l i).getD i 0 = l.getD i 0 := by
  unfold mpU
  have h1 : ((l.take i).map f).length = i := by rw [List.length_map, List.length_take]; omega
  rw [List.getD_eq_getElem?_getD, List.getElem?_append_right (by omega), h1, Nat.sub_self, List.getElem?_drop, Nat.add_zero, List.getD_eq_getElem?_getD]
theorem mpU_set (f : Int → Int) (l : List Int) {i : Nat} (h : i < l.length) : (mpU f l i).set i (f (l.getD i 0)) = mpU f l (i + 1) := by
  unfold mpU
  have h1 : ((l.take i).map f).length = i := by rw [List.length_map, List.length_take]; omega
  rw [List.set_append_right _ _ (by omega), h1, Nat.sub_self, List.drop_eq_getElem_cons h, List.set_cons_zero, List.take_succ_eq_append_getElem h, List.map_append, List.append_assoc]
  simp [List.getD_eq_getElem?_getD, h]
theorem mpU_all (f : Int → Int) (l : List Int) : mpU f l l.length = l.map f := by
  unfold mpU; rw [List.take_length, List.drop_length, List.append_nil]
theorem mbR_len (k : Nat) : ∀ (m : Nat) (s : MS), (mbR k m s).2.length = s.2.length + m
  | 0, s => rfl
  | m + 1, s => by
    show (mbR k m (mbStep k s)).2.length = _
    rw [mbR_len k m]
    show (s.2 ++ [_]).length + m = _
    rw [List.length_append, List.length_singleton]; omega
theorem mbI_len (k : Nat) (s : MS) : s.2.length ≤ (mbI k s).2.length := by
  unfold mbI; rw [mbR_len]; omega
theorem mbO_len : ∀ (m k : Nat) (s : MS), s.2.length ≤ (mbO m k s).2.length
  | 0, k, s => Nat.le_refl _
  | m + 1, k, s => Nat.le_trans (mbI_len k s) (mbO_len m (k + 1) (mbI k s))
theorem mbO_next {N k : Nat} {s : MS} {F : List Gt} (h : (mbO (N - k) k s).2 = F) (hk : k < N) : (mbO (N - (k + 1)) (k + 1) (mbI k s)).2 = F ∧ (mbI k s).2.length ≤ F.length := by
  obtain ⟨m, hm⟩ : ∃ m, N - k = m + 1 := ⟨N - k - 1, by omega⟩
  rw [hm] at h
  have e : N - (k + 1) = m := by omega
  have h' : (mbO m (k + 1) (mbI k s)).2 = F := h
  rw [e]
  exact ⟨h', by rw [← h']; exact mbO_len m (k + 1) (mbI k s)⟩
theorem MB.big {n : Int} {N : Nat} {t : List Int} {k : Nat} {s : MS} (h : MB n N t k s) (hk : k < N) (hne : s.1.getD k 0 ≠ (k : Int)) : ∃ x : Nat, s.1.getD k 0 = (x : Int) ∧ k < x ∧ x < N := by
  have h1 := h.bd k hk
  have h2 := h.ge hk
  exact ⟨(s.1.getD k 0).toNat, by omega, by omega, by omega⟩
end Go.Proofs.YtmkoanmmfcpmjaaDoor
namespace Go.Proofs.YtmkoanmmfcpmjaaDoor
set_option linter.unusedVariables false
set_option linter.unusedSimpArgs false
set_option maxRecDepth 20000
open Go.RowKit
def pc8 (w : Nat) : Nat := w % 2 + w / 2 % 2 + w / 4 % 2 + w / 8 % 2 + w / 16 % 2 + w / 32 % 2 + w / 64 % 2 + w / 128 % 2
theorem oc1 : ∀ n : Fin 256, IntKind.u64.wrap (bits BinOp.and IntKind.u64 ((n.val : Int) / 2) 6148914691236517205 + bits BinOp.and IntKind.u64 (n.val : Int) 6148914691236517205) = (((n.val / 2 &&& 85) + (n.val &&& 85) : Nat) : Int) := by decide +kernel
theorem oc2 : ∀ n : Fin 256, IntKind.u64.wrap (bits BinOp.and IntKind.u64 ((n.val : Int) / 4) 3689348814741910323 + bits BinOp.and IntKind.u64 (n.val : Int) 3689348814741910323) = (((n.val / 4 &&& 51) + (n.val &&& 51) : Nat) : Int) := by decide +kernel
theorem oc3 : ∀ n : Fin 256, bits BinOp.and IntKind.u64 (IntKind.u64.wrap ((n.val : Int) / 16 + (n.val : Int))) 1085102592571150095 = ((((n.val / 16 + n.val) &&& 3855) : Nat) : Int) := by decide +kernel
theorem oc4 : ∀ n : Fin 9, IntKind.u64.wrap ((n.val : Int) + (n.val : Int) / 256) = (n.val : Int) ∧ IntKind.u64.wrap ((n.val : Int) + (n.val : Int) / 65536) = (n.val : Int) ∧ IntKind.u64.wrap ((n.val : Int) + (n.val : Int) / 4294967296) = (n.val : Int) ∧ bits BinOp.and IntKind.i64 (wrap64 (n.val : Int)) 127 = (n.val : Int) := by decide +kernel
def og1 (n : Nat) : Nat := (n / 2 &&& 85) + (n &&& 85)
def og2 (n : Nat) : Nat := (n / 4 &&& 51) + (n &&& 51)
def og3 (n : Nat) : Nat := (n / 16 + n) &&& 3855
theorem ocN : ∀ n : Fin 256, og1 n.val < 256 ∧ og2 (og1 n.val) < 256 ∧ og3 (og2 (og1 n.val)) = pc8 n.val ∧ pc8 n.val < 9 := by decide +kernel
theorem oc64_calls (x : Int) (w : World) (h0 : 0 ≤ x) (h1 : x ≤ 255) : Calls Tryd.prog 60 #[.int .u64 x] w fun e w' => e = .returned (.int .i64 (pc8 x.toNat)) ∧ w' = w := by
  obtain ⟨n, rfl⟩ : ∃ n : Nat, x = (n : Int) := ⟨x.toNat, by omega⟩
  obtain ⟨p1, p2, p3, p4⟩ : og1 n < 256 ∧ og2 (og1 n) < 256 ∧ og3 (og2 (og1 n)) = pc8 n ∧ pc8 n < 9 := ocN ⟨n, by omega⟩
  go_enter Tryd.func60, Tryd.ntmps60
  go_wp2
  go_ret
  refine ⟨?_, rfl⟩
  generalize q1 : IntKind.u64.wrap (bits BinOp.and IntKind.u64 ((n : Int) / 2) 6148914691236517205 + bits BinOp.and IntKind.u64 (n : Int) 6148914691236517205) = a
  generalize q2 : IntKind.u64.wrap (bits BinOp.and IntKind.u64 (a / 4) 3689348814741910323 + bits BinOp.and IntKind.u64 a 3689348814741910323) = b
  generalize q3 : bits BinOp.and IntKind.u64 (IntKind.u64.wrap (b / 16 + b)) 1085102592571150095 = c
  generalize q4 : IntKind.u64.wrap (c + c / 256) = d
  generalize q5 : IntKind.u64.wrap (d + d / 65536) = e
  generalize q6 : IntKind.u64.wrap (e + e / 4294967296) = f
  refine Eq.trans (b := Ending.returned (.int .i64 (bits BinOp.and IntKind.i64 (wrap64 f) 127))) rfl ?_
  refine congrArg (fun z => Ending.returned (Value.int IntKind.i64 z)) ?_
  obtain rfl : a = ((og1 n : Nat) : Int) := q1.symm.trans (oc1 ⟨n, by omega⟩)
  obtain rfl : b = ((og2 (og1 n) : Nat) : Int) := q2.symm.trans (oc2 ⟨og1 n, p1⟩)
  obtain rfl : c = ((og3 (og2 (og1 n)) : Nat) : Int) := q3.symm.trans (oc3 ⟨og2 (og1 n), p2⟩)
  rw [p3] at q4
  obtain ⟨p, hp⟩ : ∃ p, pc8 n = p := ⟨_, rfl⟩
  rw [hp] at p4 q4
  rw [Int.toNat_natCast, hp]
  obtain ⟨r1, r2, r3, r4⟩ := oc4 ⟨p, p4⟩
  obtain rfl : d = ((p : Nat) : Int) := q4.symm.trans r1
  obtain rfl : e = ((p : Nat) : Int) := q5.symm.trans r2
  obtain rfl : f = ((p : Nat) : Int) := q6.symm.trans r3
  exact r4
theorem oc_calls (x : Int) (w : World) (h0 : 0 ≤ x) (h1 : x ≤ 255) : Calls Tryd.prog 46 #[.int .u64 x] w fun e w' => e = .returned (.int .i64 (pc8 x.toNat)) ∧ w' = w := by
  go_enter Tryd.func46, Tryd.ntmps46
  go_wp2_with (go_at_call 60; refine (oc64_calls x _ h0 h1).mono ?_; rintro e w' ⟨rfl, rfl⟩)
  go_ret
  exact ⟨rfl, rfl⟩
set_option maxHeartbeats 1000000 in
theorem tz_core (x k idx : Nat) (w : World) (hx0 : ((x : Int) == 0) = false)
    (key : IntKind.u64.wrap (bits BinOp.and IntKind.u64 (x : Int) (IntKind.u64.wrap (-(x : Int))) * 285870213051353865) / 288230376151711744 = (idx : Int))
    (hi : idx < 64) (hk : k < 64) (hcell : w.cell? ⟨1, idx, none⟩ = some (.int .u8 k)) :
    Calls Tryd.prog 48 #[.int .u64 x] w fun e w' => e = .returned (.int .i64 k) ∧ w' = w := by
  go_enter Tryd.func48, Tryd.ntmps48
  go_wp2_with (simp only [key])
  go_ret
  exact ⟨rfl, rfl⟩
theorem tz_zero (w : World) : Calls Tryd.prog 48 #[.int .u64 0] w fun e w' => e = .returned (.int .i64 64) ∧ w' = w := by
  go_enter Tryd.func48, Tryd.ntmps48
  go_wp2
  go_ret
  exact ⟨rfl, rfl⟩
theorem glo_cell {w : World} (hg : Glo w) (j : Nat) (hj : j < Lib.deBruijn64tab.length) : w.cell? ⟨1, j, none⟩ = some (.int .u8 (Lib.deBruijn64tab.getD j 0)) := by
  obtain ⟨t, f, h⟩ := hg
  unfold World.cell?
  simp only [h]
  simp [List.getD_eq_getElem?_getD, hj]
theorem tz64_calls (x : Nat) (hx : x < 256) (w : World) (hg : Glo w) : Calls Tryd.prog 48 #[.int .u64 x] w fun e w' => e = .returned (.int .i64 (Lib.ctz 64 x)) ∧ w' = w := by
  by_cases hx0 : x = 0
  · subst hx0
    exact tz_zero w
  · obtain ⟨hlow, hk⟩ := Lib.lowest_bit 64 x hx0 (by omega)
    obtain ⟨hi, htab⟩ := Lib.deBruijn64_at _ hk
    have hcell := glo_cell hg _ hi
    rw [htab] at hcell
    exact tz_core x _ _ w (by simp; omega) (tz64_key x _ (by omega) hx0 hlow) hi hk hcell
theorem tz_calls (x : Nat) (hx : x < 256) (w : World) (hg : Glo w) : Calls Tryd.prog 28 #[.int .u64 x] w fun e w' => e = .returned (.int .i64 (Lib.ctz 64 x)) ∧ w' = w := by
  go_enter Tryd.func28, Tryd.ntmps28
  go_wp2_with (go_at_call 48; refine (tz64_calls x hx _ hg).mono ?_; rintro e w' ⟨rfl, rfl⟩)
  go_ret
  exact ⟨rfl, rfl⟩
theorem k_tz (x : Nat) (hx : x < 256) : Kon Tryd.prog 28 [.g (.one (.v (.int .u64 (x : Int))))] [] (vI ((Lib.ctz 64 x : Nat) : Int)) [] [] := by
  refine kon_pure (enters_of (c := Tryd.f28.body.get rfl) Tryd.func28 (Option.some_get _).symm rfl) rfl rfl ?_
  intro w ok vs hg hok hsz hargs
  obtain ⟨z, hz, hr⟩ := hargs 0 _ rfl
  have hv : vs = #[.int .u64 (x : Int)] := by
    obtain ⟨xs⟩ := vs
    match xs, hsz with
    | [y], _ =>
      cases hz
      rw [show y = .int .u64 (x : Int) from hr.1]
  subst hv
  refine (tz_calls x hx w hg).mono ?_
  rintro en W' ⟨rfl, rfl⟩
  exact ⟨_, rfl, Below.refl _ _, fun β G ok' => ⟨rfl, rfl⟩⟩
theorem r_andn {P : Program} {T : Tab} {cf : FuncId → Option (List AV → Option Tmp → AM)} {Fs : Nat → Ft} {i : Nat} {rest : List Oper} {S : St} {K : St → Prop} {ops : Array Oper} {d : Tmp} {x y : Operand} {ty : TypeId} {pos : String} {af : Array Edge} {g : Option (Nat × Bool)} {t yt : TypeId} {m n q : Int} (hx : rdV (Fs i) S x = some (.int .i64 m)) (hy : rdV (Fs i) S y = some (.int .i64 n)) (hq : bits BinOp.andNot IntKind.i64 m n = q) (hw : (Fs i).sw d = true) (k : runX Fs P T cf ops (i + 1) rest (S.put d (some (vI q))) K) :
    runA Fs P T cf ops i ⟨some d, .binOp .andNot t x y yt, ty, pos, af, g⟩ rest S K := by
  subst hq
  exact r_pure2 hx hy (r := .int .i64 (bits BinOp.andNot IntKind.i64 m n)) (fun w => rfl) rfl hw k
theorem r_and0 {P : Program} {T : Tab} {cf : FuncId → Option (List AV → Option Tmp → AM)} {Fs : Nat → Ft} {i : Nat} {rest : List Oper} {S : St} {K : St → Prop} {ops : Array Oper} {d : Tmp} {x y : Operand} {ty : TypeId} {pos : String} {af : Array Edge} {g : Option (Nat × Bool)} {t yt : TypeId} {m n q : Int} (hx : rdV (Fs i) S x = some (.int .i64 m)) (hy : rdV (Fs i) S y = some (.int .i64 n)) (hq : bits BinOp.and IntKind.i64 m n = q) (hw : (Fs i).sw d = true) (k : runX Fs P T cf ops (i + 1) rest (S.put d (some (vI q))) K) :
    runA Fs P T cf ops i ⟨some d, .binOp .and t x y yt, ty, pos, af, g⟩ rest S K := by
  subst hq
  exact r_pure2 hx hy (r := .int .i64 (bits BinOp.and IntKind.i64 m n)) (fun w => rfl) rfl hw k
attribute [local irreducible] runA runX AW
theorem gq_MBA {H G : Prop} (k : H) (h : Hid H → G := by (intro hh; repeat1' (first | (first | (refine nxA ?_; (first | (first | refine r_andn (by rfl) (by rfl) (by assumption) (by rfl) ?_ | refine r_and0 (by rfl) (by rfl) (by assumption) (by rfl) ?_) | ((first | (refine z_op (by rfl) ?_; first | refine z_ok ?_ ?_ | refine z_ex ?_ (by first | exact zL1 | ((first | fail); exact zWW) | exact zL2 | fail | exact zL3 | fail) ?_) | ((first | refine q_callE wsT wsZ (by rfl) ?_ | refine q_callVE wsT (by rfl) (by rfl) ?_); refine ⟨_, _, _, (by first | assumption), _, by rfl, ?_, ?_⟩)); focus (first | exact trivial | fail | exact zQZ)) | fail)) | refine swA ?_) | refine awA ?_); exact hh.out)) : G := h ⟨k⟩
theorem k_oc (x : Int) (h : 0 ≤ x ∧ x ≤ 255) : Kon Tryd.prog 46 [.g (.one (.v (.int .u64 x)))] [] (vI ((pc8 x.toNat : Nat) : Int)) [] [] := by
  refine kon_pure (enters_of (c := Tryd.f46.body.get rfl) Tryd.func46 (Option.some_get _).symm rfl) rfl rfl ?_
  intro w ok vs hg hok hsz hargs
  obtain ⟨z, hz, hr⟩ := hargs 0 _ rfl
  have hv : vs = #[.int .u64 x] := by
    obtain ⟨xs⟩ := vs
    match xs, hsz with
    | [y], _ =>
      cases hz
      rw [show y = .int .u64 x from hr.1]
  subst hv
  refine (oc_calls x w h.1 h.2).mono ?_
  rintro en W' ⟨rfl, rfl⟩
  exact ⟨_, rfl, Below.refl _ _, fun β G ok' => ⟨rfl, rfl⟩⟩
theorem wrap_nat {m : Nat} (h : m < 256) : IntKind.u64.wrap (m : Int) = (m : Int) := by
  show (m : Int) % 18446744073709551616 = (m : Int)
  omega
theorem ctl_fin : ∀ m : Fin 7, pc8 m.val = pc3 m.val ∧ (m.val ≠ 0 → Lib.ctz 64 m.val = lsb m.val) ∧ (pc3 m.val = 2 → Lib.ctz 64 (m.val &&& (m.val - 1)) = lsb (m.val &&& (m.val - 1))) ∧ pc3 m.val ≤ 2 ∧ bits BinOp.and IntKind.i64 (m.val : Int) ((m.val : Int) - 1) = ((m.val &&& (m.val - 1) : Nat) : Int) := by decide +kernel
theorem k_ctl (m b : Nat) (hm : m < 7) : Kon Tryd.prog 27 [vI (m : Int), vI (b : Int)] [] (gV (ctl m b)) [] [] := by
  obtain ⟨f1, f2, f3, f4, f5⟩ : pc8 m = pc3 m ∧ (m ≠ 0 → Lib.ctz 64 m = lsb m) ∧ (pc3 m = 2 → Lib.ctz 64 (m &&& (m - 1)) = lsb (m &&& (m - 1))) ∧ pc3 m ≤ 2 ∧ bits BinOp.and IntKind.i64 (m : Int) ((m : Int) - 1) = ((m &&& (m - 1) : Nat) : Int) := ctl_fin ⟨m, hm⟩
  have hand : m &&& (m - 1) ≤ m := Nat.and_le_left
  have hT1 : Kon Tryd.prog 28 [.g (.one (.v (.int .u64 (IntKind.u64.wrap (m : Int)))))] [] (vI ((Lib.ctz 64 m : Nat) : Int)) [] [] := by
    rw [wrap_nat (by omega)]; exact k_tz m (by omega)
  have hT2 : m ≠ 0 → Kon Tryd.prog 28 [.g (.one (.v (.int .u64 (IntKind.u64.wrap ((m &&& (m - 1) : Nat) : Int)))))] [] (vI ((Lib.ctz 64 (m &&& (m - 1)) : Nat) : Int)) [] [] := fun h0 => by
    rw [wrap_nat (by omega)]; exact k_tz (m &&& (m - 1)) (by omega)
  have hO : Kon Tryd.prog 46 [.g (.one (.v (.int .u64 (IntKind.u64.wrap (m : Int)))))] [] (vI ((pc3 m : Nat) : Int)) [] [] := by
    rw [wrap_nat (by omega), ← f1]; exact k_oc (m : Int) (by omega)
  unfold ctl
  obtain hp | hp | hp : pc3 m = 0 ∨ pc3 m = 1 ∨ pc3 m = 2 := by omega
  · have hm0 : m = 0 := by
      refine Decidable.byContradiction fun h => ?_
      unfold pc3 at hp; omega
    subst hm0
    have hA0 : bits BinOp.and IntKind.i64 0 (0 - 1) = 0 := by decide +kernel
    rw [hp] at hO ⊢
    (refine kM Tryd.func27 rfl ?_; intro hfit hfe)
    (repeat (first | refine gq_MBA ?_ | (refine ga0A ?_; intro _hq)))
    (refine rtA ?_; try rfl)
  · have hm0 : m ≠ 0 := fun h => by subst h; unfold pc3 at hp; omega
    rw [f2 hm0] at hT1
    have hT4 := hT2 hm0
    rw [hp] at hO ⊢
    (refine kM Tryd.func27 rfl ?_; intro hfit hfe)
    (repeat (first | refine gq_MBA ?_ | (refine ga0A ?_; intro _hq)))
    (refine rtA ?_; try rfl)
  · have hm0 : m ≠ 0 := fun h => by subst h; unfold pc3 at hp; omega
    rw [f2 hm0] at hT1
    have hT4 := hT2 hm0
    rw [f3 hp] at hT4
    rw [hp] at hO ⊢
    (refine kM Tryd.func27 rfl ?_; intro hfit hfe)
    (repeat (first | refine gq_MBA ?_ | (refine ga0A ?_; intro _hq)))
    (refine rtA ?_; try rfl)
end Go.Proofs.YtmkoanmmfcpmjaaDoor
namespace Go.Proofs.YtmkoanmmfcpmjaaDoor
set_option linter.unusedVariables false
set_option linter.unusedSimpArgs false
set_option maxRecDepth 20000
open Go.RowKit
attribute [local irreducible] runA runX AW
theorem gq_KTA {H G : Prop} (k : H) (h : Hid H → G := by (intro hh; repeat1' (first | (first | (refine nxA ?_; (first | fail | ((first | (refine z_op (by rfl) ?_; first | refine z_ok ?_ ?_ | refine z_ex ?_ (by first | exact zL1 | ((first | refine mk_c Bool rfl rfl rfl ?_); exact zWW) | exact zL2 | fail | exact zL3 | fail) ?_) | ((first | refine q_callE wsT wsZ (by rfl) ?_ | refine q_callVE wsT (by rfl) (by rfl) ?_); refine ⟨_, _, _, (by first | assumption | exact k_within _ _ _ | exact k_okL _), _, by rfl, ?_, ?_⟩)); focus (first | exact trivial | fail | exact zQZ)) | fail)) | refine swA ?_) | refine awA ?_); exact hh.out)) : G := h ⟨k⟩
abbrev bRow (l : List Bool) : Ent := rwE 4 l
set_option maxHeartbeats 4000000 in
theorem k_tvI (n : Int) (t : List Int) (h : t.length ≤ 1000) : Kon Tryd.prog 15 [vI n, roA t] [] (vB (tvB n t)) [] [] := by
  unfold tvB
  cases hn : btw n 1 8 with
  | false =>
    (refine kM Tryd.func15 rfl ?_; intro hfit hfe)
    (repeat (first | refine gq_KTA ?_ | (refine ga0A ?_; intro _hq)))
    (refine rtA ?_; try rfl)
  | true =>
  have hn' := btw_t hn
  have h8 := pow_8 hn'
  rw [Bool.true_and]
  cases hl : ((t.length : Int) == 2 ^ n.toNat) with
  | false =>
    have hl2 : ((t.length : Int) != 1 * 2 ^ n.toNat) = true := by rw [Int.one_mul, bne, hl]; rfl
    (refine kM Tryd.func15 rfl ?_; intro hfit hfe)
    (repeat (first | refine gq_KTA ?_ | (refine ga0A ?_; intro _hq)))
    (refine rtA ?_; try rfl)
  | true =>
  have hl2 : ((t.length : Int) != 1 * 2 ^ n.toNat) = false := by rw [Int.one_mul, bne, hl]; rfl
  rw [Bool.true_and]
  have hrl : (List.replicate (t.length : Int).toNat (Cel.no : Bool)).length = t.length := by rw [List.length_replicate]; omega
  have hpos : 0 < t.length := by rw [beq_iff_eq] at hl; omega
  (refine kM Tryd.func15 rfl ?_; intro hfit hfe)
  (repeat (first | refine gq_KTA ?_ | (refine ga0A ?_; intro _hq)))
  (refine aw_rd [0, 1, 5, 21, 22] [] (fun g : Nat × List Bool => [(23, vI g.1)]) (fun g => [(320, (0, bRow g.2))]) (fun g => g.1 ≤ t.length ∧ g.2.length = t.length ∧ tvL (t.length : Int) g.2 (t.drop g.1) = tvL (t.length : Int) (List.replicate t.length false) t) (fun g => t.length - g.1) (0, List.replicate (t.length : Int).toNat (Cel.no : Bool)) (by rfl) (by rfl) ?_ (by rfl) zHE zHE ?_)
  · exact ⟨Nat.zero_le _, hrl, rfl⟩
  rintro ⟨i, s⟩ ⟨hi, hs, hz⟩
  dsimp only at hi hs hz ⊢
  rcases Nat.lt_or_ge i t.length with h5 | h5
  · have hd : decide ((i : Int) < (t.length : Int)) = true := by simpa using h5
    obtain ⟨x, hx⟩ : ∃ x, t.getD (i : Int).toNat (Cel.no : Int) = x := ⟨_, rfl⟩
    have hx' : t.getD i 0 = x := hx
    rw [tvL_drop h5, hx'] at hz
    (repeat (first | refine gq_KTA ?_ | (refine ga0A ?_; intro _hq)))
    rw [hx]
    cases hb : btw x 0 ((t.length : Int) - 1) with
    | false =>
      rw [hb, Bool.false_and, Bool.false_and] at hz
      rw [← hz]
      clear hz
      (repeat (first | refine gq_KTA ?_ | (refine ga0A ?_; intro _hq)))
      (refine rtA ?_; try rfl)
    | true =>
      have hb' := btw_t hb
      rw [hb, Bool.true_and] at hz
      cases hv : s.getD x.toNat false with
      | true =>
        rw [hv, Bool.not_true, Bool.false_and] at hz
        rw [← hz]
        clear hz
        replace hv : s.getD x.toNat Cel.no = true := hv
        (repeat (first | refine gq_KTA ?_ | (refine ga0A ?_; intro _hq)))
        (refine rtA ?_; try rfl)
      | false =>
        rw [hv, Bool.not_false, Bool.true_and] at hz
        replace hv : s.getD x.toNat Cel.no = false := hv
        have hinv : i + 1 ≤ t.length ∧ (s.set x.toNat true).length = t.length ∧ tvL (t.length : Int) (s.set x.toNat true) (t.drop (i + 1)) = tvL (t.length : Int) (List.replicate t.length false) t := ⟨h5, by rw [List.length_set]; exact hs, hz⟩
        clear hz
        (repeat (first | refine gq_KTA ?_ | (refine ga0A ?_; intro _hq)))
        exact ⟨(i + 1, s.set x.toNat true), hinv, ⟨by rfl, zHE, zHE⟩, (by first | omega | (dsimp only; omega))⟩
  · have hd : decide ((i : Int) < (t.length : Int)) = false := by simp; omega
    rw [List.drop_of_length_le h5, tvL] at hz
    rw [← hz]
    clear hz
    (repeat (first | refine gq_KTA ?_ | (refine ga0A ?_; intro _hq)))
    (refine rtA ?_; try rfl)
end Go.Proofs.YtmkoanmmfcpmjaaDoor
