/- CutC: laid into one text. -/
import Derived.Test.YtgjnnlgeggamjaaQXDE

namespace Go.Proofs.Ytgjnnlgeggamjaa
set_option linter.unusedVariables false
set_option linter.unusedSimpArgs false
open Go.RowKit
def tw : Grp → Nat → Nat → Bool
  | [], _, _ => false
  | p :: l, e, i => (Nat.beq p.1 e && p.2.contains i) || tw l e i
def tc2 : Grp → Nat → Nat → Bool
  | [], _, _ => false
  | p :: l, e, i => (Nat.beq p.1 e && (p.2.contains i || p.2.contains (i + 1000))) || tc2 l e i
theorem tc2_wc : ∀ {W : Grp} {e i : Nat}, tc2 W e i = true → wc W e = true
  | [], e, i, h => by cases h
  | p :: l, e, i, h => by
    simp only [tc2, wc, Bool.or_eq_true, Bool.and_eq_true] at h ⊢
    rcases h with h | h
    · exact .inl h.1
    · exact .inr (tc2_wc h)
theorem tw_tc : ∀ {W : Grp} {e i : Nat}, tw W e i = true → tc2 W e i = true
  | [], e, i, h => by cases h
  | p :: l, e, i, h => by
    simp only [tw, tc2, Bool.or_eq_true, Bool.and_eq_true] at h ⊢
    rcases h with h | h
    · exact .inl ⟨h.1, .inl h.2⟩
    · exact .inr (tw_tc h)
theorem tw_f {W : Grp} {e i : Nat} (h : tc2 W e i = false) : tw W e i = false := by
  cases hq : tw W e i with
  | false => rfl
  | true => rw [tw_tc hq] at h; cases h
def offB2 (W : Grp) (i j : Nat) : Bool := W.all fun p => !(tw W p.1 i && tc2 W p.1 j) && !(tc2 W p.1 i && tw W p.1 j)
theorem off_tc2 {W : Grp} {i j e : Nat} (h : offB2 W i j = true) : ¬ (tw W e i = true ∧ tc2 W e j = true) ∧ ¬ (tc2 W e i = true ∧ tw W e j = true) := by
  constructor
  · rintro ⟨h1, h2⟩
    obtain ⟨p, hp, rfl⟩ := wc_mem (tc2_wc h2)
    have := (List.all_eq_true.1 h) p hp
    rw [h1, h2] at this
    simp at this
  · rintro ⟨h1, h2⟩
    obtain ⟨p, hp, rfl⟩ := wc_mem (tc2_wc h1)
    have := (List.all_eq_true.1 h) p hp
    rw [h1, h2] at this
    simp at this
def Fd2 (ops : Array Oper) (W : Grp) (i : Nat) : Ft where
  sr s := match ops[i]? with
    | some o => (o.looksAt ops).contains s
    | none => false
  sw s := dstOf ops i == some s
  er e := (!wc W e || tc2 W e i) && (List.range ops.size).all (fun j => match dstOf ops j with
    | some d => !(e / 16 == d) || j == i || (mskOf ops i).testBit j
    | none => true)
  ew e := tw W e i || (match dstOf ops i with
    | some d => e / 16 == d
    | none => false)
def drawB2 (ops : Array Oper) (W : Grp) : Bool :=
  (List.range ops.size).all fun i =>
    (afterOf ops i).all (fun e => !Region.binds .any e || decide (e.on < i)) &&
    (List.range ops.size).all (fun j => !(mskOf ops i).testBit j || (decide (j < i) && (afterOf ops i).any (fun e => Region.binds .any e && (e.on == j || (mskOf ops e.on).testBit j)))) &&
    (List.range i).all (fun j => (mskOf ops i).testBit j || ((match ops[j]?, ops[i]? with
      | some x, some y => Oper.apart ops x y
      | _, _ => false) && offB2 W i j)) &&
    (W.all fun p => tc2 W p.1 i || match dstOf ops i with
      | some d => !(p.1 / 16 == d)
      | none => true)
section
variable {ops : Array Oper} {W : Grp}
structure DrawOk2 (ops : Array Oper) (W : Grp) : Prop where
  c1 : ∀ i, i < ops.size → ∀ e ∈ afterOf ops i, Region.binds .any e = true → e.on < i
  c2 : ∀ i j, i < ops.size → j < ops.size → (mskOf ops i).testBit j = true → j < i ∧ ∃ e ∈ afterOf ops i, Region.binds .any e = true ∧ (e.on = j ∨ (mskOf ops e.on).testBit j = true)
  c3 : ∀ i j, i < ops.size → j < i → (mskOf ops i).testBit j = true ∨ (∃ x y, ops[j]? = some x ∧ ops[i]? = some y ∧ Oper.apart ops x y = true ∧ ∀ e, ¬ (tw W e i = true ∧ tc2 W e j = true) ∧ ¬ (tc2 W e i = true ∧ tw W e j = true))
  c4 : ∀ i, i < ops.size → ∀ e, wc W e = true → ∀ d, dstOf ops i = some d → tc2 W e i = false → e / 16 ≠ d
theorem drawOk_of2 (h : drawB2 ops W = true) : DrawOk2 ops W := by
  have h1 : ∀ i, i < ops.size → _ := fun i hi => (List.all_eq_true.1 h) i (List.mem_range.2 hi)
  simp only [Bool.and_eq_true, List.all_eq_true, List.mem_range] at h1
  refine ⟨fun i hi e he hb => ?_, fun i j hi hj hb => ?_, fun i j hi hj => ?_, fun i hi e he d hd hni => ?_⟩
  · have := (h1 i hi).1.1.1 e he
    simpa [hb] using this
  · have := (h1 i hi).1.1.2 j hj
    simp only [hb, Bool.not_true, Bool.false_or, Bool.and_eq_true, decide_eq_true_eq, List.any_eq_true, Bool.or_eq_true, beq_iff_eq] at this
    obtain ⟨a, e, he, hbe, hc⟩ := this
    exact ⟨a, e, he, hbe, hc⟩
  · have := (h1 i hi).1.2 j hj
    cases hb : (mskOf ops i).testBit j with
    | true => exact .inl rfl
    | false =>
      right
      simp only [hb, Bool.false_or, Bool.and_eq_true] at this
      obtain ⟨a, b⟩ := this
      split at a
      · rename_i x y hx hy
        exact ⟨x, y, hx, hy, a, fun e => off_tc2 b⟩
      · cases a
  · have h2 := (h1 i hi).2
    obtain ⟨p, hp, rfl⟩ := wc_mem he
    have := h2 p hp
    rw [hni, Bool.false_or, hd] at this
    simpa using this
theorem fd_apart2 (h : DrawOk2 ops W) {i j : Nat} (hi : i < ops.size) (hj : j < i) (hb : (mskOf ops i).testBit j = false) : (Fd2 ops W j).apart (Fd2 ops W i) := by
  obtain ⟨x, y, hx, hy, hap, hT⟩ := (h.c3 i j hi hj).resolve_left (by rw [hb]; simp)
  obtain ⟨a1, a2, a3⟩ := Oper.apart_spec hap
  have hdj : dstOf ops j = x.dst := by simp [dstOf, hx]
  have hdi : dstOf ops i = y.dst := by simp [dstOf, hy]
  have hji : j < ops.size := by omega
  have hbj : (mskOf ops j).testBit i = false := by
    cases hq : (mskOf ops j).testBit i with
    | false => rfl
    | true => have := (h.c2 j i hji hi hq).1; omega
  refine ⟨fun s hs => ?_, fun s hs => ?_, fun e he => ?_, fun e he => ?_⟩
  · simp only [Fd2, hdj, beq_iff_eq] at hs
    refine ⟨?_, ?_⟩
    · simp only [Fd2, hy]; simpa using a1 s hs
    · simp only [Fd2, hdi, beq_eq_false_iff_ne]; exact fun hq => a2 s hs hq
  · simp only [Fd2, hdi, beq_iff_eq] at hs
    simp only [Fd2, hx]; simpa using a3 s hs
  · have hW : wc W e = true → ∀ k, k < ops.size → ∀ d, dstOf ops k = some d → tc2 W e k = false → (e / 16 == d) = false := fun hw k hk d hd hk2 => by
      have := h.c4 k hk e hw d hd hk2
      simpa using this
    simp only [Fd2, Bool.or_eq_true] at he
    rcases he with h2 | h1
    · have h1 := tc2_wc (tw_tc h2)
      have hni : tc2 W e i = false := by
        cases hq : tc2 W e i with
        | false => rfl
        | true => exact absurd ⟨hq, h2⟩ (hT e).2
      refine ⟨by simp only [Fd2, h1, hni]; simp, ?_⟩
      simp only [Fd2, tw_f hni, Bool.false_or]
      split
      · rename_i d hd; exact hW h1 i hi d hd hni
      · rfl
    · cases hd : dstOf ops j with
      | none => rw [hd] at h1; cases h1
      | some d =>
        rw [hd] at h1
        dsimp only at h1
        refine ⟨?_, ?_⟩
        · simp only [Fd2, Bool.and_eq_false_iff]
          right
          rw [List.all_eq_false]
          refine ⟨j, List.mem_range.2 hji, ?_⟩
          rw [hd]
          have hne : (j == i) = false := beq_eq_false_iff_ne.2 (Nat.ne_of_lt hj)
          simp only [h1, hb, hne]
          decide
        · have hnW : tw W e i = false := by
            cases hq2 : tw W e i with
            | false => rfl
            | true =>
              cases hj2 : tc2 W e j with
              | false => have := hW (tc2_wc (tw_tc hq2)) j hji d hd hj2; rw [h1] at this; cases this
              | true => exact absurd ⟨hq2, hj2⟩ (hT e).1
          simp only [Fd2, hnW, Bool.false_or]
          split
          · rename_i d' hd'
            cases hq : (e / 16 == d') with
            | false => rfl
            | true =>
              have e1 : d = d' := (beq_iff_eq.1 h1).symm.trans (beq_iff_eq.1 hq)
              subst e1
              exact absurd (by rw [← hdi]; exact hd') (a2 d (by rw [← hdj]; exact hd))
          · rfl
  · have hW : wc W e = true → ∀ k, k < ops.size → ∀ d, dstOf ops k = some d → tc2 W e k = false → (e / 16 == d) = false := fun hw k hk d hd hk2 => by
      have := h.c4 k hk e hw d hd hk2
      simpa using this
    simp only [Fd2, Bool.or_eq_true] at he
    rcases he with h2 | h1
    · have h1 := tc2_wc (tw_tc h2)
      have hnj : tc2 W e j = false := by
        cases hq : tc2 W e j with
        | false => rfl
        | true => exact absurd ⟨h2, hq⟩ (hT e).1
      simp only [Fd2, h1, hnj]; simp
    · cases hd : dstOf ops i with
      | none => rw [hd] at h1; cases h1
      | some d =>
        rw [hd] at h1
        dsimp only at h1
        simp only [Fd2, Bool.and_eq_false_iff]
        right
        rw [List.all_eq_false]
        refine ⟨i, List.mem_range.2 hi, ?_⟩
        rw [hd]
        have hne : (i == j) = false := beq_eq_false_iff_ne.2 (Nat.ne_of_gt hj)
        simp only [h1, hbj, hne]
        decide
end
section
variable {P : Program} {T : Tab} {cf : FuncId → Option (List AV → Option Tmp → AM)} {S : St} {K : St → Prop} {w0 w w' : World} {M N : Nat → Prop} {b0 : Nat → Value} {nt : Nat} {β : Nat → Value} {tm : Array Value} {ds : List Deferred} {Q : Exit → Act → World → Prop} {ops : Array Oper} {Fs : Nat → Ft} {W : Grp}
theorem draw_any2 (hT : TabOk P T) (hcf : ∀ f m, cf f = some m → GoodCall P f m) (hd : ∀ i t, dstOf ops i = some t → t < nt) (hok : DrawOk2 ops W) (hQ : ∀ S' β' w' tm', K S' → Sim w0 M N b0 nt β' S' w' tm' → Q .normal ⟨tm', ds⟩ w') :
    ∀ (fuel : Nat) (listed : Array Bool) (L : List Nat) (S : St) (β : Nat → Value) (w : World) (tm : Array Value), listed.size = ops.size → L.length ≤ fuel → L.Pairwise (· < ·) → (∀ i, i ∈ L ↔ i < ops.size ∧ listed.getD i true = false) →
      (∀ i, i < ops.size → listed.getD i true = true → ∀ e ∈ afterOf ops i, Region.binds .any e = true → listed.getD e.on true = true) →
      runs (Fd2 ops W) (gopI P T cf ops) L S K → Sim w0 M N b0 nt β S w tm → wpAny P .any ops Q fuel listed ⟨tm, ds⟩ w := by
  intro fuel
  have hready : ∀ (listed : Array Bool) (L : List Nat), listed.size = ops.size → L.Pairwise (· < ·) → (∀ i, i ∈ L ↔ i < ops.size ∧ listed.getD i true = false) → Region.ready .any ops listed = [] → L = [] := by
    intro listed L hsz hp hL hr
    cases L with
    | nil => rfl
    | cons i L =>
      exfalso
      obtain ⟨h1, h2⟩ := (hL i).1 List.mem_cons_self
      have hmem : i ∈ Region.ready .any ops listed := by
        unfold Region.ready
        refine List.mem_filter.2 ⟨List.mem_range.2 h1, ?_⟩
        have ho : ops[i]? = some ops[i] := Array.getElem?_eq_getElem h1
        simp only [h2, Bool.not_false, Bool.true_and, ho, Option.map_some, Option.getD_some]
        rw [Array.all_eq_true_iff_forall_mem]
        intro e he
        cases hb : Region.binds .any e with
        | false => rfl
        | true =>
          have hea : e ∈ afterOf ops i := by unfold afterOf; rw [ho]; simpa using he
          have hlt := hok.c1 i h1 e hea hb
          simp only [Bool.not_true, Bool.false_or]
          cases hq : listed.getD e.on false with
          | true => rfl
          | false =>
            have hq2 : listed.getD e.on true = false := by
              cases hx : listed[e.on]? with
              | none =>
                have h5 := Array.getElem?_eq_none_iff.1 hx
                omega
              | some b => simp [hx] at hq ⊢; exact hq
            have hin := (hL e.on).2 ⟨by omega, hq2⟩
            have := (List.pairwise_cons.1 hp).1
            rcases List.mem_cons.1 hin with he1 | he1
            · omega
            · have := this _ he1; omega
      rw [hr] at hmem
      cases hmem
  induction fuel with
  | zero =>
    intro listed L S β w tm hsz hlen hp hL hcl h hs
    have : L = [] := List.eq_nil_of_length_eq_zero (by omega)
    subst this
    refine ⟨?_, hQ S β w tm h hs⟩
    cases hr : Region.ready .any ops listed with
    | nil => rfl
    | cons i l =>
      have hi : i ∈ Region.ready .any ops listed := by rw [hr]; exact List.mem_cons_self
      unfold Region.ready at hi
      obtain ⟨h1, h2⟩ := List.mem_filter.1 hi
      simp only [Bool.and_eq_true, Bool.not_eq_true'] at h2
      have := (hL i).2 ⟨List.mem_range.1 h1, h2.1⟩
      cases this
  | succ fuel ih =>
    intro listed L S β w tm hsz hlen hp hL hcl h hs
    refine ⟨fun hr => ?_, fun i hi => ?_⟩
    · have := hready listed L hsz hp hL hr
      subst this
      exact hQ S β w tm h hs
    · unfold Region.ready at hi
      obtain ⟨h1, h2⟩ := List.mem_filter.1 hi
      have hlt := List.mem_range.1 h1
      simp only [Bool.and_eq_true, Bool.not_eq_true'] at h2
      obtain ⟨h2, h3⟩ := h2
      have ho : ops[i]? = some ops[i] := Array.getElem?_eq_getElem hlt
      rw [ho] at h3
      simp only [Option.map_some, Option.getD_some] at h3
      rw [Array.all_eq_true_iff_forall_mem] at h3
      have hedges : ∀ e ∈ afterOf ops i, Region.binds .any e = true → listed.getD e.on true = true := by
        intro e he hb
        have hea : e ∈ ops[i].after := by unfold afterOf at he; rw [ho] at he; simpa using he
        have := h3 e hea
        rw [hb] at this
        simp only [Bool.not_true, Bool.false_or] at this
        cases hx : listed[e.on]? with
        | none => simp [hx] at this
        | some b => simp [hx] at this ⊢; exact this
      have hin := (hL i).2 ⟨hlt, h2⟩
      obtain ⟨L1, L2, rfl⟩ := List.append_of_mem hin
      obtain ⟨p1, p2, p3⟩ := List.pairwise_append.1 hp
      have hcl2 : ∀ k, ∀ j, k < ops.size → j < ops.size → (∀ e ∈ afterOf ops k, Region.binds .any e = true → listed.getD e.on true = true) → (mskOf ops k).testBit j = true → listed.getD j true = true := by
        intro k
        induction k using Nat.strongRecOn with
        | _ k ihk =>
          intro j hk hj hall hb
          obtain ⟨_, e, he, hbe, hc⟩ := hok.c2 k j hk hj hb
          have hel := hall e he hbe
          have helt := hok.c1 k hk e he hbe
          rcases hc with hc | hc
          · rw [← hc]; exact hel
          · exact ihk e.on helt j (by omega) hj (hcl e.on (by omega) hel) hc
      have hfirst := runs_first (F := Fd2 ops W) (m := gopI P T cf ops) (K := K) i L2 L1 S (fun j hj => by
        have hji : j < i := p3 j hj i List.mem_cons_self
        refine fd_apart2 hok hlt hji ?_
        cases hq : (mskOf ops i).testBit j with
        | false => rfl
        | true =>
          have h5 := hcl2 i j hlt (by omega) hedges hq
          have h6 := ((hL j).1 (List.mem_append_left _ hj)).2
          rw [h5] at h6; cases h6) h
      have hnot : ∀ j, j ∈ L1 ++ L2 ↔ j ∈ L1 ++ i :: L2 ∧ j ≠ i := by
        intro j
        simp only [List.mem_append, List.mem_cons]
        constructor
        · rintro (hj | hj)
          · have := p3 j hj i List.mem_cons_self; exact ⟨.inl hj, by omega⟩
          · have := (List.pairwise_cons.1 p2).1 j hj; exact ⟨.inr (.inr hj), by omega⟩
        · rintro ⟨hj | hj | hj, hne⟩
          · exact .inl hj
          · exact absurd hj hne
          · exact .inr hj
      have hnext : Nx w0 M N b0 nt ds (fun S' => runs (Fd2 ops W) (gopI P T cf ops) (L1 ++ L2) S' K) (wpAny P .any ops Q fuel (listed.setIfInBounds i true)) := by
        intro S' β' w' tm' hK hs'
        have hgd : ∀ j, j ≠ i → (listed.setIfInBounds i true).getD j true = listed.getD j true := fun j hj => by
          simp only [Array.getD_eq_getD_getElem?, Array.getElem?_setIfInBounds_ne (Ne.symm hj)]
        have hgi : (listed.setIfInBounds i true).getD i true = true := by
          simp [hsz, hlt]
        refine ih (listed.setIfInBounds i true) (L1 ++ L2) S' β' w' tm' (by simpa using hsz) ?_ ?_ ?_ ?_ hK hs'
        · simp only [List.length_append, List.length_cons] at hlen ⊢; omega
        · exact List.pairwise_append.2 ⟨p1, (List.pairwise_cons.1 p2).2, fun a ha b hb => p3 a ha b (List.mem_cons_of_mem _ hb)⟩
        · intro j
          rw [hnot j, hL j]
          by_cases hji : j = i
          · subst hji
            rw [hgi]
            constructor
            · rintro ⟨_, h⟩; exact absurd rfl h
            · rintro ⟨_, h⟩; cases h
          · rw [hgd j hji]
            exact ⟨fun h => h.1, fun h => ⟨h, hji⟩⟩
        · intro j hj hjl e he hb
          by_cases hei : e.on = i
          · rw [hei]; exact hgi
          · rw [hgd _ hei]
            by_cases hji : j = i
            · subst hji; exact hedges e he hb
            · rw [hgd j hji] at hjl; exact hcl j hj hjl e he hb
      unfold gopI at hfirst
      simp only [ho] at hfirst
      have hg := gop_sound (Q := Q) (ds := ds) hT hcf hfirst hs (fun t ht => hd i t (by unfold dstOf; rw [ho]; exact ht)) hnext
      unfold wpOp
      simp only [ho]
      split
      · rename_i hw; rw [if_pos hw] at hg; exact .inl hg
      · rename_i hw; rw [if_neg hw] at hg; exact hg
variable {KE : Exit → St → Prop}
theorem aw_draw2 (hm : P.follows .mixedOrders = true) (hT : TabOk P T) (hcf : ∀ f m, cf f = some m → GoodCall P f m) {id : Nat} {l : List Oper} (W : Grp) (hd : (l.all fun o => match o.dst with | some d => decide (d < nt) | none => true) = true) (hok : drawB2 l.toArray W = true)
    (h : runX (Fd2 l.toArray W) P T cf l.toArray 0 l S (KE .normal)) : AW P nt (.region id l.toArray true) KE S := fun w0 M N b0 β w tm hs => by
  refine wp_region_any hm ?_
  have hdst : ∀ i t, dstOf l.toArray i = some t → t < nt := by
    intro i t ht
    unfold dstOf at ht
    cases ho : l.toArray[i]? with
    | none => rw [ho] at ht; cases ht
    | some o =>
      rw [ho] at ht
      have hmem : o ∈ l := List.mem_of_getElem? (by simpa using ho)
      have := (List.all_eq_true.1 hd) o hmem
      have ht' : o.dst = some t := ht
      rw [ht'] at this
      simpa using this
  have hr := runX_runs (ops := l.toArray) l 0 S (fun k => by simp) h
  refine draw_any2 (W := W) hT hcf hdst (drawOk_of2 hok) (fun S' β' w' tm' hK hs' => ⟨β', S', hK, hs', rfl⟩) _ _ (List.range' 0 l.length) S β _ tm (by simp) (by simp) ?_ ?_ ?_ hr (hs.draw _)
  · exact List.pairwise_lt_range'
  · intro i
    simp only [List.mem_range'_1, Nat.zero_le, true_and, Nat.zero_add, List.size_toArray]
    constructor
    · intro hi; exact ⟨hi, by simp [hi]⟩
    · exact fun hi => hi.1
  · intro i hi hl
    have : (Array.replicate l.toArray.size false).getD i true = false := by simp at hi; simp [hi]
    rw [this] at hl
    cases hl
end
end Go.Proofs.Ytgjnnlgeggamjaa
