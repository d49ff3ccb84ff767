/- PR0, PN, PV, PW, CutB, CutC, BKB: laid into one text. -/
import Derived.Test.YtnenhckongccgaaGreatDoorQEF

/- The table of a circuit, on words: nothing is lost. Plain. -/
namespace Go.Proofs.YtnenhckongccgaaGreatDoor
set_option linter.unusedVariables false
set_option linter.unusedSimpArgs false
section
variable {n : Int}
/-- The table of a circuit, on words. -/
def crN (c : List Gt) (v : Nat) : Nat := (cr c (v : Int)).toNat
theorem crN_lt {c : List Gt} (h : c.all (gok n) = true) {v : Nat} (hv : v < 2 ^ n.toNat) : crN c v < 2 ^ n.toNat ∧ ((crN c v : Nat) : Int) = cr c (v : Int) := by
  have hc : ((v : Nat) : Int) < 2 ^ n.toNat := by
    have : ((v : Nat) : Int) < ((2 ^ n.toNat : Nat) : Int) := Int.ofNat_lt.2 hv
    rwa [Int.natCast_pow] at this
  obtain ⟨h1, h2⟩ := cr_lt h ⟨Int.natCast_nonneg v, hc⟩
  unfold crN
  have h3 : (cr c (v : Int)) < ((2 ^ n.toNat : Nat) : Int) := by rw [Int.natCast_pow]; exact h2
  omega
theorem crN_tp {c : List Gt} (h : c.all (gok n) = true) : TP (crN c) (2 ^ n.toNat) := by
  refine ⟨fun x hx => (crN_lt h hx).1, fun x y hx hy e => ?_⟩
  have e2 : cr c (x : Int) = cr c (y : Int) := by rw [← (crN_lt h hx).2, ← (crN_lt h hy).2, e]
  have hb : ∀ v : Nat, v < 2 ^ n.toNat → 0 ≤ (v : Int) ∧ (v : Int) < 2 ^ n.toNat := fun v hv => by
    have : ((v : Nat) : Int) < ((2 ^ n.toNat : Nat) : Int) := Int.ofNat_lt.2 hv
    rw [Int.natCast_pow] at this
    exact ⟨Int.natCast_nonneg v, this⟩
  have e3 := congrArg (cr c.reverse) e2
  rw [cr_back h (hb x hx), cr_back h (hb y hy)] at e3
  omega
end
end Go.Proofs.YtnenhckongccgaaGreatDoor

/- Circuits with other lines: plain. -/
namespace Go.Proofs.YtnenhckongccgaaGreatDoor
set_option linter.unusedVariables false
set_option linter.unusedSimpArgs false
/-- The new name of a line; a gate with new lines. -/
def nmX (ns : List Int) (x : Int) : Int := ns.getD x.toNat 0
/-- Names of all lines, each once. -/
structure Perm (n : Int) (ns : List Int) : Prop where
  len : (ns.length : Int) = n
  bd : ∀ x : Int, 0 ≤ x ∧ x < n → 0 ≤ nmX ns x ∧ nmX ns x < n
  inj : ∀ x y : Int, 0 ≤ x ∧ x < n → 0 ≤ y ∧ y < n → nmX ns x = nmX ns y → x = y
section
variable {n : Int} {ns : List Int}
end
end Go.Proofs.YtnenhckongccgaaGreatDoor

/- Texts of deeds; which deed a text is of. -/
namespace Go.Proofs.YtnenhckongccgaaGreatDoor
set_option linter.unusedVariables false
set_option linter.unusedSimpArgs false
open Go.Lib (decDigits)
abbrev g0 : Gt := ⟨0, 0, 0, 0⟩
/-- The words with which deeds' texts begin. -/
def dnm (k : Int) : List UInt8 := if k = 0 then [102, 111, 114, 116, 104] else if k = 1 then [98, 97, 99, 107] else if k = 2 then [112, 117, 116] else if k = 3 then [116, 97, 107, 101] else [115, 104, 111, 114, 116]
def dtx (k n : Int) (p : Gt) : List UInt8 :=
  if k = 0 ∨ k = 1 then (if p = g0 ∧ 1 ≤ n ∧ n ≤ 99 then dnm k ++ [32] ++ dx n else [])
  else if k = 2 then (if n = 0 ∧ gok 8 p = true then dnm 2 ++ [32] ++ gtT p else [])
  else if k = 3 ∨ k = 4 then (if n = 0 ∧ p = g0 then dnm k else [])
  else []
/-- A text of a deed. -/
def DOk (s : List UInt8) (k n : Int) (p : Gt) : Prop := dtx k n p = s ∧ s ≠ []
theorem dnm_no (k : Int) : (dnm k).contains 32 = false := by
  unfold dnm
  repeat (split; rfl)
  rfl
theorem dnm_inj5 : ∀ i j : Fin 5, (dnm (i.val : Int) == dnm (j.val : Int)) = (i == j) := by decide +kernel
theorem dnm_inj {k k' : Int} (h : 0 ≤ k ∧ k ≤ 4) (h' : 0 ≤ k' ∧ k' ≤ 4) (e : dnm k = dnm k') : k = k' := by
  have := dnm_inj5 ⟨k.toNat, by omega⟩ ⟨k'.toNat, by omega⟩
  dsimp only at this
  rw [show ((k.toNat : Nat) : Int) = k by omega, show ((k'.toNat : Nat) : Int) = k' by omega, e, beq_self_eq_true] at this
  have h2 := eq_of_beq this.symm
  have h3 := congrArg Fin.val h2
  dsimp only at h3
  omega
theorem d_cases {s : List UInt8} {k n : Int} {p : Gt} (h : DOk s k n p) :
    ((k = 0 ∨ k = 1) ∧ p = g0 ∧ (1 ≤ n ∧ n ≤ 99) ∧ s = dnm k ++ 32 :: dx n ∧ cutA 32 [] s = [dnm k, dx n]) ∨
    (k = 2 ∧ n = 0 ∧ gok 8 p = true ∧ s = dnm 2 ++ 32 :: gtT p ∧ cutA 32 [] s = dnm 2 :: gtW p) ∨
    ((k = 3 ∨ k = 4) ∧ n = 0 ∧ p = g0 ∧ s = dnm k ∧ cutA 32 [] s = [dnm k]) := by
  obtain ⟨h, hne⟩ := h
  unfold dtx at h
  split at h
  · rename_i hk
    split at h
    · rename_i hc
      refine .inl ⟨hk, hc.1, hc.2, by rw [← h]; simp, ?_⟩
      rw [← h]
      exact cut2 (dnm_no k) (dx_no (by omega))
    · exact absurd h.symm hne
  split at h
  · rename_i hk
    split at h
    · rename_i hc
      refine .inr (.inl ⟨hk, hc.1, hc.2, by rw [← h]; simp, ?_⟩)
      rw [← h, show dnm 2 ++ [32] ++ gtT p = dnm 2 ++ 32 :: gtT p by simp, cutA_app (dnm_no 2), gtT_cut hc.2]
      rfl
    · exact absurd h.symm hne
  split at h
  · rename_i hk
    split at h
    · rename_i hc
      refine .inr (.inr ⟨hk, hc.1, hc.2, h.symm, ?_⟩)
      rw [← h, cutA_end (dnm_no k)]
      rfl
    · exact absurd h.symm hne
  · exact absurd h.symm hne
theorem d_kind {s : List UInt8} {k n : Int} {p : Gt} (h : DOk s k n p) : 0 ≤ k ∧ k ≤ 4 := by
  rcases d_cases h with ⟨hk, _⟩ | ⟨hk, _⟩ | ⟨hk, _⟩ <;> omega
theorem d_head {s : List UInt8} {k n : Int} {p : Gt} (h : DOk s k n p) : (cutA 32 [] s).getD 0 [] = dnm k := by
  rcases d_cases h with ⟨_, _, _, _, e⟩ | ⟨rfl, _, _, _, e⟩ | ⟨_, _, _, _, e⟩ <;> rw [e] <;> rfl
theorem d_uni {s : List UInt8} {k n k' n' : Int} {p p' : Gt} (h : DOk s k n p) (h' : DOk s k' n' p') : k = k' ∧ n = n' ∧ p = p' := by
  have hk := dnm_inj (d_kind h) (d_kind h') ((d_head h).symm.trans (d_head h'))
  subst hk
  rcases d_cases h with ⟨hk, hp, hn, e, _⟩ | ⟨hk, hn, hp, e, _⟩ | ⟨hk, hn, hp, e, _⟩ <;> rcases d_cases h' with ⟨hk2, hp2, hn2, e2, _⟩ | ⟨hk2, hn2, hp2, e2, _⟩ | ⟨hk2, hn2, hp2, e2, _⟩
  all_goals first
    | (exfalso; omega)
    | skip
  · rw [e] at e2
    have e3 := List.append_cancel_left e2
    injection e3 with _ e4
    exact ⟨rfl, dx_inj (by omega) (by omega) e4, by rw [hp, hp2]⟩
  · rw [e] at e2
    have e3 := List.append_cancel_left e2
    injection e3 with _ e4
    exact ⟨rfl, by omega, gk_uni ⟨hp, e4⟩ ⟨hp2, rfl⟩⟩
  · exact ⟨rfl, by omega, by rw [hp, hp2]⟩
theorem dtx_eq {s : List UInt8} (hs : s ≠ []) {k n : Int} {p : Gt} : (dtx k n p == s) = true ↔ DOk s k n p := by
  rw [beq_iff_eq]
  exact ⟨fun h => ⟨h, hs⟩, fun h => h.1⟩
end Go.Proofs.YtnenhckongccgaaGreatDoor

/- The kind whose name a word is, found one after the other; what both readers of gates answer. -/
namespace Go.Proofs.YtnenhckongccgaaGreatDoor
set_option linter.unusedVariables false
set_option linter.unusedSimpArgs false
open Go.Lib (decDigits)
/-- The last of the first kinds whose name a word is. -/
def kft (w : List UInt8) : Nat → Int
  | 0 => -1
  | j + 1 => if (w == gnm (j : Int)) = true then (j : Int) else kft w j
theorem kft_5 (w : List UInt8) : kft w 5 = kfd w := by
  have e : ∀ i : Nat, (w == gnm (i : Int)) = true ↔ w = gnm (i : Int) := fun i => beq_iff_eq
  unfold kfd
  simp only [kft, e]
  by_cases h0 : w = gnm 0
  · subst h0; decide
  by_cases h1 : w = gnm 1
  · subst h1; decide
  by_cases h2 : w = gnm 2
  · subst h2; decide
  by_cases h3 : w = gnm 3
  · subst h3; decide
  by_cases h4 : w = gnm 4
  · subst h4; decide
  rw [if_neg h0, if_neg h1, if_neg h2, if_neg h3, if_neg h4]
  rw [if_neg (show ¬ w = gnm ((4 : Nat) : Int) from h4), if_neg (show ¬ w = gnm ((3 : Nat) : Int) from h3), if_neg (show ¬ w = gnm ((2 : Nat) : Int) from h2), if_neg (show ¬ w = gnm ((1 : Nat) : Int) from h1), if_neg (show ¬ w = gnm ((0 : Nat) : Int) from h0)]
theorem no_gtx {s : List UInt8} (hs : s ≠ []) (h : ∀ g, ¬ GOk s g) (g : Gt) : (gtx g == s) = false := by
  rw [Bool.eq_false_iff]
  intro e
  exact h _ ((gtx_eq hs).1 e)
/-- The gate that a reader returns, and whether there is one. -/
def RG (s : List UInt8) (g : Gt) (b : Bool) : Prop := (b = true ∧ GOk s g) ∨ (b = false ∧ g = g0 ∧ ∀ g', ¬ GOk s g')
theorem gok_nil (g : Gt) : ¬ GOk [] g := fun h => gtT_ne g h.2
theorem rg_all (s : List UInt8) : ∃ g b, RG s g b := by
  by_cases h : ∃ g, GOk s g
  · obtain ⟨g, h⟩ := h; exact ⟨g, true, .inl ⟨rfl, h⟩⟩
  · exact ⟨g0, false, .inr ⟨rfl, rfl, fun g' hg => h ⟨g', hg⟩⟩⟩
end Go.Proofs.YtnenhckongccgaaGreatDoor

/- A piece of an own row laid behind another own row, in one step: the piece is not kept. No program is named. -/
namespace Go.Proofs.YtnenhckongccgaaGreatDoor
set_option linter.unusedVariables false
set_option linter.unusedSimpArgs false
open Go.RowKit
section
variable {P : Program} {T : Tab} {S : St} {w0 w w' : World} {M N : Nat → Prop} {b0 : Nat → Value} {nt : Nat} {β : Nat → Value} {tm : Array Value} {ds : List Deferred} {next : Act → World → Prop} {Q : Exit → Act → World → Prop} {o : Oper} {K : St → Prop}
/-- The operations of a region from here on, in fact. -/
def WX (P : Program) (nt : Nat) (ops : Array Oper) (l : List Oper) (S : St) (K : St → Prop) : Prop :=
  ∀ w0 M N b0 β w tm, Sim w0 M N b0 nt β S w tm → wpList P ops (fun e a w' => ∃ β' S', (e = .normal ∧ K S') ∧ Sim w0 M N b0 nt β' S' w' a.tmps ∧ a.defers = []) l ⟨tm, []⟩ w
theorem wx_region {id : Nat} {l : List Oper} {KE : Exit → St → Prop} (h : WX P nt l.toArray l S (KE .normal)) : AW P nt (.region id l.toArray false) KE S := fun w0 M N b0 β w tm hs =>
  wp_mono (wp_region_lit (h w0 M N b0 β w tm hs)) fun e a w' ⟨β', S', ⟨he, hk⟩, h2⟩ => by subst he; exact ⟨β', S', hk, h2⟩
theorem wx_end (hT : TabOk P T) {cf : FuncId → Option (List AV → Option Tmp → AM)} (hcf : ∀ f m, cf f = some m → GoodCall P f m) {ops : Array Oper} {i : Nat} {l : List Oper} (hd : (l.all fun o => match o.dst with | some d => decide (d < nt) | none => true) = true) (h : runX Fa P T cf ops i l S K) : WX P nt ops l S K := fun w0 M N b0 β w tm hs =>
  runX_sound hT hcf l i S β w tm (fun o ho t ht => by
    have := (List.all_eq_true.1 hd) o ho
    rw [ht] at this
    simpa using this) h hs (fun S' β' w' tm' hK hs' => ⟨β', S', ⟨rfl, hK⟩, hs', rfl⟩)
theorem wx_app (hT : TabOk P T) {cf : FuncId → Option (List AV → Option Tmp → AM)} (hcf : ∀ f m, cf f = some m → GoodCall P f m) {ops : Array Oper} {l2 : List Oper} : ∀ {l1 : List Oper} {i : Nat} {S : St}, (∀ o ∈ l1, ∀ t, o.dst = some t → t < nt) → runX Fa P T cf ops i l1 S (fun S' => WX P nt ops l2 S' K) → WX P nt ops (l1 ++ l2) S K
  | [], i, S, _, h => h
  | o :: l1, i, S, hd, h => fun w0 M N b0 β w tm hs => by
    have h1 : (gop P T cf ops o).run (Fa i) S (fun S' => WX P nt ops (l1 ++ l2) S' K) :=
      AM.run_mono (fun S' h' => wx_app hT hcf (fun o' ho' => hd o' (List.mem_cons_of_mem _ ho')) h') _ _ h
    refine wpList_step fun K' hK' => ?_
    exact gop_sound hT hcf h1 hs (hd o (List.mem_cons_self)) (fun S' β' w' tm' hk hs' => hK' _ _ (hk w0 M N b0 β' w' tm' hs'))
theorem wx_run (k : Nat) (hT : TabOk P T) {cf : FuncId → Option (List AV → Option Tmp → AM)} (hcf : ∀ f m, cf f = some m → GoodCall P f m) {ops : Array Oper} {l : List Oper} (hd : (l.all fun o => match o.dst with | some d => decide (d < nt) | none => true) = true)
    (h : runX Fa P T cf ops 0 (l.take k) S (fun S' => WX P nt ops (l.drop k) S' K)) : WX P nt ops l S K := by
  have := wx_app hT hcf (l1 := l.take k) (l2 := l.drop k) (fun o ho t ht => by
    have := (List.all_eq_true.1 hd) o (List.mem_of_mem_take ho)
    rw [ht] at this
    simpa using this) h
  rwa [List.take_append_drop] at this
end
end Go.Proofs.YtnenhckongccgaaGreatDoor

/- Drawn regions in which several operations only read a block that others write. No program is named. -/
namespace Go.Proofs.YtnenhckongccgaaGreatDoor
set_option linter.unusedVariables false
set_option linter.unusedSimpArgs false
open Go.RowKit
/-- The operations that write a block (i), and those that read it (i + 1000). -/
def tw : Grp → Nat → Nat → Bool
  | [], _, _ => false
  | p :: l, e, i => (Nat.beq p.1 e && p.2.contains i) || tw l e i
def tc2 : Grp → Nat → Nat → Bool
  | [], _, _ => false
  | p :: l, e, i => (Nat.beq p.1 e && (p.2.contains i || p.2.contains (i + 1000))) || tc2 l e i
theorem tc2_wc : ∀ {W : Grp} {e i : Nat}, tc2 W e i = true → wc W e = true
  | [], e, i, h => by cases h
  | p :: l, e, i, h => by
    simp only [tc2, wc, Bool.or_eq_true, Bool.and_eq_true] at h ⊢
    rcases h with h | h
    · exact .inl h.1
    · exact .inr (tc2_wc h)
theorem tw_tc : ∀ {W : Grp} {e i : Nat}, tw W e i = true → tc2 W e i = true
  | [], e, i, h => by cases h
  | p :: l, e, i, h => by
    simp only [tw, tc2, Bool.or_eq_true, Bool.and_eq_true] at h ⊢
    rcases h with h | h
    · exact .inl ⟨h.1, .inl h.2⟩
    · exact .inr (tw_tc h)
theorem tw_f {W : Grp} {e i : Nat} (h : tc2 W e i = false) : tw W e i = false := by
  cases hq : tw W e i with
  | false => rfl
  | true => rw [tw_tc hq] at h; cases h
def offB2 (W : Grp) (i j : Nat) : Bool := W.all fun p => !(tw W p.1 i && tc2 W p.1 j) && !(tc2 W p.1 i && tw W p.1 j)
theorem off_tc2 {W : Grp} {i j e : Nat} (h : offB2 W i j = true) : ¬ (tw W e i = true ∧ tc2 W e j = true) ∧ ¬ (tc2 W e i = true ∧ tw W e j = true) := by
  constructor
  · rintro ⟨h1, h2⟩
    obtain ⟨p, hp, rfl⟩ := wc_mem (tc2_wc h2)
    have := (List.all_eq_true.1 h) p hp
    rw [h1, h2] at this
    simp at this
  · rintro ⟨h1, h2⟩
    obtain ⟨p, hp, rfl⟩ := wc_mem (tc2_wc h1)
    have := (List.all_eq_true.1 h) p hp
    rw [h1, h2] at this
    simp at this
/-- What an operation of a drawn region may touch. -/
def Fd2 (ops : Array Oper) (W : Grp) (i : Nat) : Ft where
  sr s := match ops[i]? with
    | some o => (o.looksAt ops).contains s
    | none => false
  sw s := dstOf ops i == some s
  er e := (!wc W e || tc2 W e i) && (List.range ops.size).all (fun j => match dstOf ops j with
    | some d => !(e / 16 == d) || j == i || (mskOf ops i).testBit j
    | none => true)
  ew e := tw W e i || (match dstOf ops i with
    | some d => e / 16 == d
    | none => false)
/-- The edges order whatever touches the same. -/
def drawB2 (ops : Array Oper) (W : Grp) : Bool :=
  (List.range ops.size).all fun i =>
    (afterOf ops i).all (fun e => !Region.binds .any e || decide (e.on < i)) &&
    (List.range ops.size).all (fun j => !(mskOf ops i).testBit j || (decide (j < i) && (afterOf ops i).any (fun e => Region.binds .any e && (e.on == j || (mskOf ops e.on).testBit j)))) &&
    (List.range i).all (fun j => (mskOf ops i).testBit j || ((match ops[j]?, ops[i]? with
      | some x, some y => Oper.apart ops x y
      | _, _ => false) && offB2 W i j)) &&
    (W.all fun p => tc2 W p.1 i || match dstOf ops i with
      | some d => !(p.1 / 16 == d)
      | none => true)
section
variable {ops : Array Oper} {W : Grp}
structure DrawOk2 (ops : Array Oper) (W : Grp) : Prop where
  c1 : ∀ i, i < ops.size → ∀ e ∈ afterOf ops i, Region.binds .any e = true → e.on < i
  c2 : ∀ i j, i < ops.size → j < ops.size → (mskOf ops i).testBit j = true → j < i ∧ ∃ e ∈ afterOf ops i, Region.binds .any e = true ∧ (e.on = j ∨ (mskOf ops e.on).testBit j = true)
  c3 : ∀ i j, i < ops.size → j < i → (mskOf ops i).testBit j = true ∨ (∃ x y, ops[j]? = some x ∧ ops[i]? = some y ∧ Oper.apart ops x y = true ∧ ∀ e, ¬ (tw W e i = true ∧ tc2 W e j = true) ∧ ¬ (tc2 W e i = true ∧ tw W e j = true))
  c4 : ∀ i, i < ops.size → ∀ e, wc W e = true → ∀ d, dstOf ops i = some d → tc2 W e i = false → e / 16 ≠ d
theorem drawOk_of2 (h : drawB2 ops W = true) : DrawOk2 ops W := by
  have h1 : ∀ i, i < ops.size → _ := fun i hi => (List.all_eq_true.1 h) i (List.mem_range.2 hi)
  simp only [Bool.and_eq_true, List.all_eq_true, List.mem_range] at h1
  refine ⟨fun i hi e he hb => ?_, fun i j hi hj hb => ?_, fun i j hi hj => ?_, fun i hi e he d hd hni => ?_⟩
  · have := (h1 i hi).1.1.1 e he
    simpa [hb] using this
  · have := (h1 i hi).1.1.2 j hj
    simp only [hb, Bool.not_true, Bool.false_or, Bool.and_eq_true, decide_eq_true_eq, List.any_eq_true, Bool.or_eq_true, beq_iff_eq] at this
    obtain ⟨a, e, he, hbe, hc⟩ := this
    exact ⟨a, e, he, hbe, hc⟩
  · have := (h1 i hi).1.2 j hj
    cases hb : (mskOf ops i).testBit j with
    | true => exact .inl rfl
    | false =>
      right
      simp only [hb, Bool.false_or, Bool.and_eq_true] at this
      obtain ⟨a, b⟩ := this
      split at a
      · rename_i x y hx hy
        exact ⟨x, y, hx, hy, a, fun e => off_tc2 b⟩
      · cases a
  · have h2 := (h1 i hi).2
    obtain ⟨p, hp, rfl⟩ := wc_mem he
    have := h2 p hp
    rw [hni, Bool.false_or, hd] at this
    simpa using this
theorem fd_apart2 (h : DrawOk2 ops W) {i j : Nat} (hi : i < ops.size) (hj : j < i) (hb : (mskOf ops i).testBit j = false) : (Fd2 ops W j).apart (Fd2 ops W i) := by
  obtain ⟨x, y, hx, hy, hap, hT⟩ := (h.c3 i j hi hj).resolve_left (by rw [hb]; simp)
  obtain ⟨a1, a2, a3⟩ := Oper.apart_spec hap
  have hdj : dstOf ops j = x.dst := by simp [dstOf, hx]
  have hdi : dstOf ops i = y.dst := by simp [dstOf, hy]
  have hji : j < ops.size := by omega
  have hbj : (mskOf ops j).testBit i = false := by
    cases hq : (mskOf ops j).testBit i with
    | false => rfl
    | true => have := (h.c2 j i hji hi hq).1; omega
  refine ⟨fun s hs => ?_, fun s hs => ?_, fun e he => ?_, fun e he => ?_⟩
  · simp only [Fd2, hdj, beq_iff_eq] at hs
    refine ⟨?_, ?_⟩
    · simp only [Fd2, hy]; simpa using a1 s hs
    · simp only [Fd2, hdi, beq_eq_false_iff_ne]; exact fun hq => a2 s hs hq
  · simp only [Fd2, hdi, beq_iff_eq] at hs
    simp only [Fd2, hx]; simpa using a3 s hs
  · have hW : wc W e = true → ∀ k, k < ops.size → ∀ d, dstOf ops k = some d → tc2 W e k = false → (e / 16 == d) = false := fun hw k hk d hd hk2 => by
      have := h.c4 k hk e hw d hd hk2
      simpa using this
    simp only [Fd2, Bool.or_eq_true] at he
    rcases he with h2 | h1
    · have h1 := tc2_wc (tw_tc h2)
      have hni : tc2 W e i = false := by
        cases hq : tc2 W e i with
        | false => rfl
        | true => exact absurd ⟨hq, h2⟩ (hT e).2
      refine ⟨by simp only [Fd2, h1, hni]; simp, ?_⟩
      simp only [Fd2, tw_f hni, Bool.false_or]
      split
      · rename_i d hd; exact hW h1 i hi d hd hni
      · rfl
    · cases hd : dstOf ops j with
      | none => rw [hd] at h1; cases h1
      | some d =>
        rw [hd] at h1
        dsimp only at h1
        refine ⟨?_, ?_⟩
        · simp only [Fd2, Bool.and_eq_false_iff]
          right
          rw [List.all_eq_false]
          refine ⟨j, List.mem_range.2 hji, ?_⟩
          rw [hd]
          have hne : (j == i) = false := beq_eq_false_iff_ne.2 (Nat.ne_of_lt hj)
          simp only [h1, hb, hne]
          decide
        · have hnW : tw W e i = false := by
            cases hq2 : tw W e i with
            | false => rfl
            | true =>
              cases hj2 : tc2 W e j with
              | false => have := hW (tc2_wc (tw_tc hq2)) j hji d hd hj2; rw [h1] at this; cases this
              | true => exact absurd ⟨hq2, hj2⟩ (hT e).1
          simp only [Fd2, hnW, Bool.false_or]
          split
          · rename_i d' hd'
            cases hq : (e / 16 == d') with
            | false => rfl
            | true =>
              have e1 : d = d' := (beq_iff_eq.1 h1).symm.trans (beq_iff_eq.1 hq)
              subst e1
              exact absurd (by rw [← hdi]; exact hd') (a2 d (by rw [← hdj]; exact hd))
          · rfl
  · have hW : wc W e = true → ∀ k, k < ops.size → ∀ d, dstOf ops k = some d → tc2 W e k = false → (e / 16 == d) = false := fun hw k hk d hd hk2 => by
      have := h.c4 k hk e hw d hd hk2
      simpa using this
    simp only [Fd2, Bool.or_eq_true] at he
    rcases he with h2 | h1
    · have h1 := tc2_wc (tw_tc h2)
      have hnj : tc2 W e j = false := by
        cases hq : tc2 W e j with
        | false => rfl
        | true => exact absurd ⟨h2, hq⟩ (hT e).1
      simp only [Fd2, h1, hnj]; simp
    · cases hd : dstOf ops i with
      | none => rw [hd] at h1; cases h1
      | some d =>
        rw [hd] at h1
        dsimp only at h1
        simp only [Fd2, Bool.and_eq_false_iff]
        right
        rw [List.all_eq_false]
        refine ⟨i, List.mem_range.2 hi, ?_⟩
        rw [hd]
        have hne : (i == j) = false := beq_eq_false_iff_ne.2 (Nat.ne_of_gt hj)
        simp only [h1, hbj, hne]
        decide
end
section
variable {P : Program} {T : Tab} {cf : FuncId → Option (List AV → Option Tmp → AM)} {S : St} {K : St → Prop} {w0 w w' : World} {M N : Nat → Prop} {b0 : Nat → Value} {nt : Nat} {β : Nat → Value} {tm : Array Value} {ds : List Deferred} {Q : Exit → Act → World → Prop} {ops : Array Oper} {Fs : Nat → Ft} {W : Grp}
theorem draw_any2 (hT : TabOk P T) (hcf : ∀ f m, cf f = some m → GoodCall P f m) (hd : ∀ i t, dstOf ops i = some t → t < nt) (hok : DrawOk2 ops W) (hQ : ∀ S' β' w' tm', K S' → Sim w0 M N b0 nt β' S' w' tm' → Q .normal ⟨tm', ds⟩ w') :
    ∀ (fuel : Nat) (listed : Array Bool) (L : List Nat) (S : St) (β : Nat → Value) (w : World) (tm : Array Value), listed.size = ops.size → L.length ≤ fuel → L.Pairwise (· < ·) → (∀ i, i ∈ L ↔ i < ops.size ∧ listed.getD i true = false) →
      (∀ i, i < ops.size → listed.getD i true = true → ∀ e ∈ afterOf ops i, Region.binds .any e = true → listed.getD e.on true = true) →
      runs (Fd2 ops W) (gopI P T cf ops) L S K → Sim w0 M N b0 nt β S w tm → wpAny P .any ops Q fuel listed ⟨tm, ds⟩ w := by
  intro fuel
  have hready : ∀ (listed : Array Bool) (L : List Nat), listed.size = ops.size → L.Pairwise (· < ·) → (∀ i, i ∈ L ↔ i < ops.size ∧ listed.getD i true = false) → Region.ready .any ops listed = [] → L = [] := by
    intro listed L hsz hp hL hr
    cases L with
    | nil => rfl
    | cons i L =>
      exfalso
      obtain ⟨h1, h2⟩ := (hL i).1 List.mem_cons_self
      have hmem : i ∈ Region.ready .any ops listed := by
        unfold Region.ready
        refine List.mem_filter.2 ⟨List.mem_range.2 h1, ?_⟩
        have ho : ops[i]? = some ops[i] := Array.getElem?_eq_getElem h1
        simp only [h2, Bool.not_false, Bool.true_and, ho, Option.map_some, Option.getD_some]
        rw [Array.all_eq_true_iff_forall_mem]
        intro e he
        cases hb : Region.binds .any e with
        | false => rfl
        | true =>
          have hea : e ∈ afterOf ops i := by unfold afterOf; rw [ho]; simpa using he
          have hlt := hok.c1 i h1 e hea hb
          simp only [Bool.not_true, Bool.false_or]
          cases hq : listed.getD e.on false with
          | true => rfl
          | false =>
            have hq2 : listed.getD e.on true = false := by
              cases hx : listed[e.on]? with
              | none =>
                have h5 := Array.getElem?_eq_none_iff.1 hx
                omega
              | some b => simp [hx] at hq ⊢; exact hq
            have hin := (hL e.on).2 ⟨by omega, hq2⟩
            have := (List.pairwise_cons.1 hp).1
            rcases List.mem_cons.1 hin with he1 | he1
            · omega
            · have := this _ he1; omega
      rw [hr] at hmem
      cases hmem
  induction fuel with
  | zero =>
    intro listed L S β w tm hsz hlen hp hL hcl h hs
    have : L = [] := List.eq_nil_of_length_eq_zero (by omega)
    subst this
    refine ⟨?_, hQ S β w tm h hs⟩
    cases hr : Region.ready .any ops listed with
    | nil => rfl
    | cons i l =>
      have hi : i ∈ Region.ready .any ops listed := by rw [hr]; exact List.mem_cons_self
      unfold Region.ready at hi
      obtain ⟨h1, h2⟩ := List.mem_filter.1 hi
      simp only [Bool.and_eq_true, Bool.not_eq_true'] at h2
      have := (hL i).2 ⟨List.mem_range.1 h1, h2.1⟩
      cases this
  | succ fuel ih =>
    intro listed L S β w tm hsz hlen hp hL hcl h hs
    refine ⟨fun hr => ?_, fun i hi => ?_⟩
    · have := hready listed L hsz hp hL hr
      subst this
      exact hQ S β w tm h hs
    · unfold Region.ready at hi
      obtain ⟨h1, h2⟩ := List.mem_filter.1 hi
      have hlt := List.mem_range.1 h1
      simp only [Bool.and_eq_true, Bool.not_eq_true'] at h2
      obtain ⟨h2, h3⟩ := h2
      have ho : ops[i]? = some ops[i] := Array.getElem?_eq_getElem hlt
      rw [ho] at h3
      simp only [Option.map_some, Option.getD_some] at h3
      rw [Array.all_eq_true_iff_forall_mem] at h3
      have hedges : ∀ e ∈ afterOf ops i, Region.binds .any e = true → listed.getD e.on true = true := by
        intro e he hb
        have hea : e ∈ ops[i].after := by unfold afterOf at he; rw [ho] at he; simpa using he
        have := h3 e hea
        rw [hb] at this
        simp only [Bool.not_true, Bool.false_or] at this
        cases hx : listed[e.on]? with
        | none => simp [hx] at this
        | some b => simp [hx] at this ⊢; exact this
      have hin := (hL i).2 ⟨hlt, h2⟩
      obtain ⟨L1, L2, rfl⟩ := List.append_of_mem hin
      obtain ⟨p1, p2, p3⟩ := List.pairwise_append.1 hp
      have hcl2 : ∀ k, ∀ j, k < ops.size → j < ops.size → (∀ e ∈ afterOf ops k, Region.binds .any e = true → listed.getD e.on true = true) → (mskOf ops k).testBit j = true → listed.getD j true = true := by
        intro k
        induction k using Nat.strongRecOn with
        | _ k ihk =>
          intro j hk hj hall hb
          obtain ⟨_, e, he, hbe, hc⟩ := hok.c2 k j hk hj hb
          have hel := hall e he hbe
          have helt := hok.c1 k hk e he hbe
          rcases hc with hc | hc
          · rw [← hc]; exact hel
          · exact ihk e.on helt j (by omega) hj (hcl e.on (by omega) hel) hc
      have hfirst := runs_first (F := Fd2 ops W) (m := gopI P T cf ops) (K := K) i L2 L1 S (fun j hj => by
        have hji : j < i := p3 j hj i List.mem_cons_self
        refine fd_apart2 hok hlt hji ?_
        cases hq : (mskOf ops i).testBit j with
        | false => rfl
        | true =>
          have h5 := hcl2 i j hlt (by omega) hedges hq
          have h6 := ((hL j).1 (List.mem_append_left _ hj)).2
          rw [h5] at h6; cases h6) h
      have hnot : ∀ j, j ∈ L1 ++ L2 ↔ j ∈ L1 ++ i :: L2 ∧ j ≠ i := by
        intro j
        simp only [List.mem_append, List.mem_cons]
        constructor
        · rintro (hj | hj)
          · have := p3 j hj i List.mem_cons_self; exact ⟨.inl hj, by omega⟩
          · have := (List.pairwise_cons.1 p2).1 j hj; exact ⟨.inr (.inr hj), by omega⟩
        · rintro ⟨hj | hj | hj, hne⟩
          · exact .inl hj
          · exact absurd hj hne
          · exact .inr hj
      have hnext : Nx w0 M N b0 nt ds (fun S' => runs (Fd2 ops W) (gopI P T cf ops) (L1 ++ L2) S' K) (wpAny P .any ops Q fuel (listed.setIfInBounds i true)) := by
        intro S' β' w' tm' hK hs'
        have hgd : ∀ j, j ≠ i → (listed.setIfInBounds i true).getD j true = listed.getD j true := fun j hj => by
          simp only [Array.getD_eq_getD_getElem?, Array.getElem?_setIfInBounds_ne (Ne.symm hj)]
        have hgi : (listed.setIfInBounds i true).getD i true = true := by
          simp [hsz, hlt]
        refine ih (listed.setIfInBounds i true) (L1 ++ L2) S' β' w' tm' (by simpa using hsz) ?_ ?_ ?_ ?_ hK hs'
        · simp only [List.length_append, List.length_cons] at hlen ⊢; omega
        · exact List.pairwise_append.2 ⟨p1, (List.pairwise_cons.1 p2).2, fun a ha b hb => p3 a ha b (List.mem_cons_of_mem _ hb)⟩
        · intro j
          rw [hnot j, hL j]
          by_cases hji : j = i
          · subst hji
            rw [hgi]
            constructor
            · rintro ⟨_, h⟩; exact absurd rfl h
            · rintro ⟨_, h⟩; cases h
          · rw [hgd j hji]
            exact ⟨fun h => h.1, fun h => ⟨h, hji⟩⟩
        · intro j hj hjl e he hb
          by_cases hei : e.on = i
          · rw [hei]; exact hgi
          · rw [hgd _ hei]
            by_cases hji : j = i
            · subst hji; exact hedges e he hb
            · rw [hgd j hji] at hjl; exact hcl j hj hjl e he hb
      unfold gopI at hfirst
      simp only [ho] at hfirst
      have hg := gop_sound (Q := Q) (ds := ds) hT hcf hfirst hs (fun t ht => hd i t (by unfold dstOf; rw [ho]; exact ht)) hnext
      unfold wpOp
      simp only [ho]
      split
      · rename_i hw; rw [if_pos hw] at hg; exact .inl hg
      · rename_i hw; rw [if_neg hw] at hg; exact hg
variable {KE : Exit → St → Prop}
/-- A region that draws its order. -/
theorem aw_draw2 (hm : P.follows .mixedOrders = true) (hT : TabOk P T) (hcf : ∀ f m, cf f = some m → GoodCall P f m) {id : Nat} {l : List Oper} (W : Grp) (hd : (l.all fun o => match o.dst with | some d => decide (d < nt) | none => true) = true) (hok : drawB2 l.toArray W = true)
    (h : runX (Fd2 l.toArray W) P T cf l.toArray 0 l S (KE .normal)) : AW P nt (.region id l.toArray true) KE S := fun w0 M N b0 β w tm hs => by
  refine wp_region_any hm ?_
  have hdst : ∀ i t, dstOf l.toArray i = some t → t < nt := by
    intro i t ht
    unfold dstOf at ht
    cases ho : l.toArray[i]? with
    | none => rw [ho] at ht; cases ht
    | some o =>
      rw [ho] at ht
      have hmem : o ∈ l := List.mem_of_getElem? (by simpa using ho)
      have := (List.all_eq_true.1 hd) o hmem
      have ht' : o.dst = some t := ht
      rw [ht'] at this
      simpa using this
  have hr := runX_runs (ops := l.toArray) l 0 S (fun k => by simp) h
  refine draw_any2 (W := W) hT hcf hdst (drawOk_of2 hok) (fun S' β' w' tm' hK hs' => ⟨β', S', hK, hs', rfl⟩) _ _ (List.range' 0 l.length) S β _ tm (by simp) (by simp) ?_ ?_ ?_ hr (hs.draw _)
  · exact List.pairwise_lt_range'
  · intro i
    simp only [List.mem_range'_1, Nat.zero_le, true_and, Nat.zero_add, List.size_toArray]
    constructor
    · intro hi; exact ⟨hi, by simp [hi]⟩
    · exact fun hi => hi.1
  · intro i hi hl
    have : (Array.replicate l.toArray.size false).getD i true = false := by simp at hi; simp [hi]
    rw [this] at hl
    cases hl
end
end Go.Proofs.YtnenhckongccgaaGreatDoor

/- From contracts to a walk's words, further: a closure over a box that is only read; a walk that hands back what it was given. No program is named. -/
namespace Go.Proofs.YtnenhckongccgaaGreatDoor
set_option linter.unusedVariables false
open Go.RowKit
theorem gin_rbx {cs : List AC} {i : Nat} {r : Nat} {e : Ent} (h : Gin [.rbx cs] i = some (r, e)) : i = 100000 ∧ r = 0 ∧ e = .rbx cs := by
  unfold Gin at h
  split at h
  · rename_i h1
    rcases hk : i - 100000 with _ | k
    · rw [hk] at h
      simp only [List.getElem?_cons_zero, Option.map_some, Option.some.injEq, Prod.mk.injEq] at h
      exact ⟨by omega, h.1.symm, h.2.symm⟩
    · rw [hk] at h
      simp at h
  · cases h
theorem calls_of_konB {P : Program} {f : FuncId} {cs : List AC} {out : AV} (hK : Kon P f [.g (.one (.ptr 100000 0 0))] [.rbx cs] out [] [.rbx cs]) {b : Nat} {vs : Array Value} {t : TypeId} {fr : Nat × Nat} {w : World} (hb : w.heap[b]? = some (.cells vs t fr)) (hcs : CsRep w (fun _ => undef) (fun _ => none) (fun b => b < w.heap.size) cs vs) (hpl : cs.all (AC.on fun _ => false) = true) (hgl : Glo w) (hgz : gsz ≤ w.heap.size) :
    Calls P f #[.pointer (some ⟨b, 0, none⟩)] w fun e w' => ∃ v β G ok, e = .returned v ∧ out.rep w' β G ok v ∧ Below w.heap.size w w' := by
  obtain ⟨C, hC, h⟩ := hK
  have hM : ∀ k, ¬ Mof (fun _ => .pointer (some ⟨b, 0, none⟩)) [.rbx cs] k := by
    rintro k ⟨j, e, hj, hl, _⟩
    rcases j with _ | j
    · cases hj; exact hl
    · simp at hj
  have hnl : ∀ k, ¬ ownB (fun _ => .pointer (some ⟨b, 0, none⟩)) (Gin [.rbx cs]) k := by
    rintro k ⟨i, r, e, hi, hl, _⟩
    obtain ⟨_, _, rfl⟩ := gin_rbx hi
    exact hl
  have hok2 : okB w (fun b => b < w.heap.size) (fun _ => .pointer (some ⟨b, 0, none⟩)) (Gin [.rbx cs]) w = fun b => b < w.heap.size := funext fun k => propext ⟨fun h => h.1, fun h => ⟨h, hnl k, fun h => h⟩⟩
  have hG0 : Gin [.rbx cs] 100000 = some (0, .rbx cs) := rfl
  have hcs2 : CsRep w (fun _ => .pointer (some ⟨b, 0, none⟩)) (Gin [.rbx cs]) (fun b => b < w.heap.size) cs vs :=
    ⟨hcs.1, fun j c hj => let ⟨z, hz, hr⟩ := hcs.2 j c hj; ⟨z, hz, noref ((List.all_eq_true.1 hpl) c (List.mem_of_getElem? hj)) (fun b hb => hb) hr⟩⟩
  have sim : Sim w (Mof (fun _ => .pointer (some ⟨b, 0, none⟩)) [.rbx cs]) (fun b => b < w.heap.size) (fun _ => .pointer (some ⟨b, 0, none⟩)) 1 (fun _ => .pointer (some ⟨b, 0, none⟩)) ⟨argsE [.g (.one (.ptr 100000 0 0))], Gin [.rbx cs]⟩ w #[.pointer (some ⟨b, 0, none⟩)] := by
    refine ⟨rfl, rfl, rfl, ⟨hgl, fun k hk => ⟨by show k < w.heap.size; omega, hM k, by omega⟩⟩, Nat.le_refl _, fun _ _ _ => rfl, fun i r e hi => ?_, fun i j r e r' e' k hi hl => ?_, fun i r e k hi hl => ?_, fun i e _ hi => rfl, rfl, fun i a ha => ?_⟩
    · obtain ⟨rfl, rfl, rfl⟩ := gin_rbx hi
      rw [hok2]
      exact ⟨b, vs, t, fr, rfl, hb, hcs2, hnl b⟩
    · obtain ⟨_, _, rfl⟩ := gin_rbx hi
      exact hl.elim
    · obtain ⟨_, _, rfl⟩ := gin_rbx hi
      exact hl.elim
    · rcases i with _ | i
      · have ha' : some (AV.g (.one (.ptr 100000 0 0))) = some a := ha
        cases ha'
        refine ⟨by omega, ?_⟩
        exact ⟨rfl, 0, _, hG0, Nat.le_refl _, fun _ => ⟨b, rfl, rfl⟩⟩
      · have ha' : ([] : List AV)[i]? = some a := ha
        simp at ha'
  refine (hC.does _ _ _ _ _ h w #[.pointer (some ⟨b, 0, none⟩)] _ (fun b => b < w.heap.size) (fun b hb => ⟨hb, hM b⟩) sim rfl).mono ?_
  rintro e w' ⟨v, β', rfl, hsim, hrep, _⟩
  exact ⟨v, _, _, _, rfl, hrep, hsim.os, hsim.tape, hsim.output, hsim.size, fun k hk => hsim.block k hk (hM k)⟩
/-- A walk whose result speaks of what it was given, and that leaves what was there, is a contract. -/
theorem kon_keep {P : Program} {f : FuncId} {aa : List AV} {out : AV} (hent : ∀ args w, (callFunc f args).run P w = .ok (.enter f args) w)
    (hpl : aa.all (AV.on fun _ => false) = true) (hout : out.refs = [])
    (h : ∀ (w : World) (ok : Nat → Prop) (vs : Array Value), Glo w → gsz ≤ w.heap.size → (∀ b, ok b → b < w.heap.size) → vs.size = aa.length → Args0 w ok aa vs →
      Calls P f vs w fun en W' => ∃ v, en = .returned v ∧ Below w.heap.size w W' ∧ ∀ β G (ok' : Nat → Prop), (∀ b, ok b → ok' b ∧ W'.heap[b]? = w.heap[b]?) → out.rep W' β G ok' v) :
    Kon P f aa [] out [] [] := by
  refine ⟨cOf (fun _ : Unit => (aa, [])) (fun _ => (out, [], [])), ⟨hent, ?_⟩, cOf_at (A := fun _ : Unit => (aa, [])) (R := fun _ => (out, [], [])) (fun _ _ _ => rfl) ()⟩
  intro aa' es out' news es' hC w vs β N hN hs hvs
  obtain ⟨_, rfl, rfl, rfl, rfl, rfl⟩ := cOf_some hC
  have hz : gsz ≤ w.heap.size := by
    rcases Nat.eq_zero_or_pos gsz with h0 | h0
    · omega
    · have := (hs.glo.2 (gsz - 1) (by omega)).2.2; omega
  refine (h w _ vs hs.glo.1 hz (fun b hb => hb.1) hvs (args_of_sim hpl hs)).mono ?_
  rintro en W' ⟨v, rfl, hB, hrep⟩
  refine ⟨v, fun _ => undef, rfl, ?_, hrep _ _ _ (fun b hb => ⟨⟨Nat.lt_of_lt_of_le hb.1 hB.size, ownB_none gout_nil b, hb.2.2⟩, hB.block b hb.1⟩), rfl, rfl, fun p hp => ?_⟩
  · refine { os := hB.os, tape := hB.tape, output := hB.output, glo := hs.glo, size := hB.size, block := fun k hk _ => hB.block k hk, ents := ?_, apart := ?_, fresh := ?_, pin := ?_, wide := rfl, env := ?_ }
    · intro i r e hi
      replace hi : Gout [] [] i = some (r, e) := hi
      rw [gout_nil] at hi; cases hi
    · intro i j r e r' e' b hi
      replace hi : Gout [] [] i = some (r, e) := hi
      rw [gout_nil] at hi; cases hi
    · intro i r e b hi
      replace hi : Gout [] [] i = some (r, e) := hi
      rw [gout_nil] at hi; cases hi
    · intro i e _ hi
      replace hi : Gout [] [] i = some (0, e) := hi
      rw [gout_nil] at hi; cases hi
    · intro i a ha; cases ha
  · rw [hout] at hp; cases hp
end Go.Proofs.YtnenhckongccgaaGreatDoor
