/- CutC, CutD, Kon, StR, PS, PU, PV, PW, BK: laid into one text. -/
import Derived.Test.YtgphlcdinejmdaaGreatDoorQVD
import Derived.Test.YtgphlcdinejmdaaGreatDoorQVE
import Derived.Below
import Derived.Laws.IdiomStrings
import Derived.Laws.Strings
import Derived.Laws.Concat
import Derived.Laws.DeepStrings4
import Derived.Lib.Split
import Derived.Lib.SplitLaws
import Derived.Lib.AtoiAll
import Derived.Lib.ItoaNum

/- Drawn regions in which several operations only read a block that others write. No program is named. -/
namespace Go.Proofs.YtgphlcdinejmdaaGreatDoor
set_option linter.unusedVariables false
set_option linter.unusedSimpArgs false
open Go.RowKit
/-- The operations that write a block (i), and those that read it (i + 1000). -/
def tw : Grp → Nat → Nat → Bool
  | [], _, _ => false
  | p :: l, e, i => (Nat.beq p.1 e && p.2.contains i) || tw l e i
def tc2 : Grp → Nat → Nat → Bool
  | [], _, _ => false
  | p :: l, e, i => (Nat.beq p.1 e && (p.2.contains i || p.2.contains (i + 1000))) || tc2 l e i
theorem tc2_wc : ∀ {W : Grp} {e i : Nat}, tc2 W e i = true → wc W e = true
  | [], e, i, h => by cases h
  | p :: l, e, i, h => by
    simp only [tc2, wc, Bool.or_eq_true, Bool.and_eq_true] at h ⊢
    rcases h with h | h
    · exact .inl h.1
    · exact .inr (tc2_wc h)
theorem tw_tc : ∀ {W : Grp} {e i : Nat}, tw W e i = true → tc2 W e i = true
  | [], e, i, h => by cases h
  | p :: l, e, i, h => by
    simp only [tw, tc2, Bool.or_eq_true, Bool.and_eq_true] at h ⊢
    rcases h with h | h
    · exact .inl ⟨h.1, .inl h.2⟩
    · exact .inr (tw_tc h)
theorem tw_f {W : Grp} {e i : Nat} (h : tc2 W e i = false) : tw W e i = false := by
  cases hq : tw W e i with
  | false => rfl
  | true => rw [tw_tc hq] at h; cases h
def offB2 (W : Grp) (i j : Nat) : Bool := W.all fun p => !(tw W p.1 i && tc2 W p.1 j) && !(tc2 W p.1 i && tw W p.1 j)
theorem off_tc2 {W : Grp} {i j e : Nat} (h : offB2 W i j = true) : ¬ (tw W e i = true ∧ tc2 W e j = true) ∧ ¬ (tc2 W e i = true ∧ tw W e j = true) := by
  constructor
  · rintro ⟨h1, h2⟩
    obtain ⟨p, hp, rfl⟩ := wc_mem (tc2_wc h2)
    have := (List.all_eq_true.1 h) p hp
    rw [h1, h2] at this
    simp at this
  · rintro ⟨h1, h2⟩
    obtain ⟨p, hp, rfl⟩ := wc_mem (tc2_wc h1)
    have := (List.all_eq_true.1 h) p hp
    rw [h1, h2] at this
    simp at this
/-- What an operation of a drawn region may touch. -/
def Fd2 (ops : Array Oper) (W : Grp) (i : Nat) : Ft where
  sr s := match ops[i]? with
    | some o => (o.looksAt ops).contains s
    | none => false
  sw s := dstOf ops i == some s
  er e := (!wc W e || tc2 W e i) && (List.range ops.size).all (fun j => match dstOf ops j with
    | some d => !(e / 16 == d) || j == i || (mskOf ops i).testBit j
    | none => true)
  ew e := tw W e i || (match dstOf ops i with
    | some d => e / 16 == d
    | none => false)
/-- The edges order whatever touches the same. -/
def drawB2 (ops : Array Oper) (W : Grp) : Bool :=
  (List.range ops.size).all fun i =>
    (afterOf ops i).all (fun e => !Region.binds .any e || decide (e.on < i)) &&
    (List.range ops.size).all (fun j => !(mskOf ops i).testBit j || (decide (j < i) && (afterOf ops i).any (fun e => Region.binds .any e && (e.on == j || (mskOf ops e.on).testBit j)))) &&
    (List.range i).all (fun j => (mskOf ops i).testBit j || ((match ops[j]?, ops[i]? with
      | some x, some y => Oper.apart ops x y
      | _, _ => false) && offB2 W i j)) &&
    (W.all fun p => tc2 W p.1 i || match dstOf ops i with
      | some d => !(p.1 / 16 == d)
      | none => true)
section
variable {ops : Array Oper} {W : Grp}
structure DrawOk2 (ops : Array Oper) (W : Grp) : Prop where
  c1 : ∀ i, i < ops.size → ∀ e ∈ afterOf ops i, Region.binds .any e = true → e.on < i
  c2 : ∀ i j, i < ops.size → j < ops.size → (mskOf ops i).testBit j = true → j < i ∧ ∃ e ∈ afterOf ops i, Region.binds .any e = true ∧ (e.on = j ∨ (mskOf ops e.on).testBit j = true)
  c3 : ∀ i j, i < ops.size → j < i → (mskOf ops i).testBit j = true ∨ (∃ x y, ops[j]? = some x ∧ ops[i]? = some y ∧ Oper.apart ops x y = true ∧ ∀ e, ¬ (tw W e i = true ∧ tc2 W e j = true) ∧ ¬ (tc2 W e i = true ∧ tw W e j = true))
  c4 : ∀ i, i < ops.size → ∀ e, wc W e = true → ∀ d, dstOf ops i = some d → tc2 W e i = false → e / 16 ≠ d
theorem drawOk_of2 (h : drawB2 ops W = true) : DrawOk2 ops W := by
  have h1 : ∀ i, i < ops.size → _ := fun i hi => (List.all_eq_true.1 h) i (List.mem_range.2 hi)
  simp only [Bool.and_eq_true, List.all_eq_true, List.mem_range] at h1
  refine ⟨fun i hi e he hb => ?_, fun i j hi hj hb => ?_, fun i j hi hj => ?_, fun i hi e he d hd hni => ?_⟩
  · have := (h1 i hi).1.1.1 e he
    simpa [hb] using this
  · have := (h1 i hi).1.1.2 j hj
    simp only [hb, Bool.not_true, Bool.false_or, Bool.and_eq_true, decide_eq_true_eq, List.any_eq_true, Bool.or_eq_true, beq_iff_eq] at this
    obtain ⟨a, e, he, hbe, hc⟩ := this
    exact ⟨a, e, he, hbe, hc⟩
  · have := (h1 i hi).1.2 j hj
    cases hb : (mskOf ops i).testBit j with
    | true => exact .inl rfl
    | false =>
      right
      simp only [hb, Bool.false_or, Bool.and_eq_true] at this
      obtain ⟨a, b⟩ := this
      split at a
      · rename_i x y hx hy
        exact ⟨x, y, hx, hy, a, fun e => off_tc2 b⟩
      · cases a
  · have h2 := (h1 i hi).2
    obtain ⟨p, hp, rfl⟩ := wc_mem he
    have := h2 p hp
    rw [hni, Bool.false_or, hd] at this
    simpa using this
theorem fd_apart2 (h : DrawOk2 ops W) {i j : Nat} (hi : i < ops.size) (hj : j < i) (hb : (mskOf ops i).testBit j = false) : (Fd2 ops W j).apart (Fd2 ops W i) := by
  obtain ⟨x, y, hx, hy, hap, hT⟩ := (h.c3 i j hi hj).resolve_left (by rw [hb]; simp)
  obtain ⟨a1, a2, a3⟩ := Oper.apart_spec hap
  have hdj : dstOf ops j = x.dst := by simp [dstOf, hx]
  have hdi : dstOf ops i = y.dst := by simp [dstOf, hy]
  have hji : j < ops.size := by omega
  have hbj : (mskOf ops j).testBit i = false := by
    cases hq : (mskOf ops j).testBit i with
    | false => rfl
    | true => have := (h.c2 j i hji hi hq).1; omega
  refine ⟨fun s hs => ?_, fun s hs => ?_, fun e he => ?_, fun e he => ?_⟩
  · simp only [Fd2, hdj, beq_iff_eq] at hs
    refine ⟨?_, ?_⟩
    · simp only [Fd2, hy]; simpa using a1 s hs
    · simp only [Fd2, hdi, beq_eq_false_iff_ne]; exact fun hq => a2 s hs hq
  · simp only [Fd2, hdi, beq_iff_eq] at hs
    simp only [Fd2, hx]; simpa using a3 s hs
  · have hW : wc W e = true → ∀ k, k < ops.size → ∀ d, dstOf ops k = some d → tc2 W e k = false → (e / 16 == d) = false := fun hw k hk d hd hk2 => by
      have := h.c4 k hk e hw d hd hk2
      simpa using this
    simp only [Fd2, Bool.or_eq_true] at he
    rcases he with h2 | h1
    · have h1 := tc2_wc (tw_tc h2)
      have hni : tc2 W e i = false := by
        cases hq : tc2 W e i with
        | false => rfl
        | true => exact absurd ⟨hq, h2⟩ (hT e).2
      refine ⟨by simp only [Fd2, h1, hni]; simp, ?_⟩
      simp only [Fd2, tw_f hni, Bool.false_or]
      split
      · rename_i d hd; exact hW h1 i hi d hd hni
      · rfl
    · cases hd : dstOf ops j with
      | none => rw [hd] at h1; cases h1
      | some d =>
        rw [hd] at h1
        dsimp only at h1
        refine ⟨?_, ?_⟩
        · simp only [Fd2, Bool.and_eq_false_iff]
          right
          rw [List.all_eq_false]
          refine ⟨j, List.mem_range.2 hji, ?_⟩
          rw [hd]
          have hne : (j == i) = false := beq_eq_false_iff_ne.2 (Nat.ne_of_lt hj)
          simp only [h1, hb, hne]
          decide
        · have hnW : tw W e i = false := by
            cases hq2 : tw W e i with
            | false => rfl
            | true =>
              cases hj2 : tc2 W e j with
              | false => have := hW (tc2_wc (tw_tc hq2)) j hji d hd hj2; rw [h1] at this; cases this
              | true => exact absurd ⟨hq2, hj2⟩ (hT e).1
          simp only [Fd2, hnW, Bool.false_or]
          split
          · rename_i d' hd'
            cases hq : (e / 16 == d') with
            | false => rfl
            | true =>
              have e1 : d = d' := (beq_iff_eq.1 h1).symm.trans (beq_iff_eq.1 hq)
              subst e1
              exact absurd (by rw [← hdi]; exact hd') (a2 d (by rw [← hdj]; exact hd))
          · rfl
  · have hW : wc W e = true → ∀ k, k < ops.size → ∀ d, dstOf ops k = some d → tc2 W e k = false → (e / 16 == d) = false := fun hw k hk d hd hk2 => by
      have := h.c4 k hk e hw d hd hk2
      simpa using this
    simp only [Fd2, Bool.or_eq_true] at he
    rcases he with h2 | h1
    · have h1 := tc2_wc (tw_tc h2)
      have hnj : tc2 W e j = false := by
        cases hq : tc2 W e j with
        | false => rfl
        | true => exact absurd ⟨h2, hq⟩ (hT e).1
      simp only [Fd2, h1, hnj]; simp
    · cases hd : dstOf ops i with
      | none => rw [hd] at h1; cases h1
      | some d =>
        rw [hd] at h1
        dsimp only at h1
        simp only [Fd2, Bool.and_eq_false_iff]
        right
        rw [List.all_eq_false]
        refine ⟨i, List.mem_range.2 hi, ?_⟩
        rw [hd]
        have hne : (i == j) = false := beq_eq_false_iff_ne.2 (Nat.ne_of_gt hj)
        simp only [h1, hbj, hne]
        decide
end
section
variable {P : Program} {T : Tab} {cf : FuncId → Option (List AV → Option Tmp → AM)} {S : St} {K : St → Prop} {w0 w w' : World} {M N : Nat → Prop} {b0 : Nat → Value} {nt : Nat} {β : Nat → Value} {tm : Array Value} {ds : List Deferred} {Q : Exit → Act → World → Prop} {ops : Array Oper} {Fs : Nat → Ft} {W : Grp}
theorem draw_any2 (hT : TabOk P T) (hcf : ∀ f m, cf f = some m → GoodCall P f m) (hd : ∀ i t, dstOf ops i = some t → t < nt) (hok : DrawOk2 ops W) (hQ : ∀ S' β' w' tm', K S' → Sim w0 M N b0 nt β' S' w' tm' → Q .normal ⟨tm', ds⟩ w') :
    ∀ (fuel : Nat) (listed : Array Bool) (L : List Nat) (S : St) (β : Nat → Value) (w : World) (tm : Array Value), listed.size = ops.size → L.length ≤ fuel → L.Pairwise (· < ·) → (∀ i, i ∈ L ↔ i < ops.size ∧ listed.getD i true = false) →
      (∀ i, i < ops.size → listed.getD i true = true → ∀ e ∈ afterOf ops i, Region.binds .any e = true → listed.getD e.on true = true) →
      runs (Fd2 ops W) (gopI P T cf ops) L S K → Sim w0 M N b0 nt β S w tm → wpAny P .any ops Q fuel listed ⟨tm, ds⟩ w := by
  intro fuel
  have hready : ∀ (listed : Array Bool) (L : List Nat), listed.size = ops.size → L.Pairwise (· < ·) → (∀ i, i ∈ L ↔ i < ops.size ∧ listed.getD i true = false) → Region.ready .any ops listed = [] → L = [] := by
    intro listed L hsz hp hL hr
    cases L with
    | nil => rfl
    | cons i L =>
      exfalso
      obtain ⟨h1, h2⟩ := (hL i).1 List.mem_cons_self
      have hmem : i ∈ Region.ready .any ops listed := by
        unfold Region.ready
        refine List.mem_filter.2 ⟨List.mem_range.2 h1, ?_⟩
        have ho : ops[i]? = some ops[i] := Array.getElem?_eq_getElem h1
        simp only [h2, Bool.not_false, Bool.true_and, ho, Option.map_some, Option.getD_some]
        rw [Array.all_eq_true_iff_forall_mem]
        intro e he
        cases hb : Region.binds .any e with
        | false => rfl
        | true =>
          have hea : e ∈ afterOf ops i := by unfold afterOf; rw [ho]; simpa using he
          have hlt := hok.c1 i h1 e hea hb
          simp only [Bool.not_true, Bool.false_or]
          cases hq : listed.getD e.on false with
          | true => rfl
          | false =>
            have hq2 : listed.getD e.on true = false := by
              cases hx : listed[e.on]? with
              | none =>
                have h5 := Array.getElem?_eq_none_iff.1 hx
                omega
              | some b => simp [hx] at hq ⊢; exact hq
            have hin := (hL e.on).2 ⟨by omega, hq2⟩
            have := (List.pairwise_cons.1 hp).1
            rcases List.mem_cons.1 hin with he1 | he1
            · omega
            · have := this _ he1; omega
      rw [hr] at hmem
      cases hmem
  induction fuel with
  | zero =>
    intro listed L S β w tm hsz hlen hp hL hcl h hs
    have : L = [] := List.eq_nil_of_length_eq_zero (by omega)
    subst this
    refine ⟨?_, hQ S β w tm h hs⟩
    cases hr : Region.ready .any ops listed with
    | nil => rfl
    | cons i l =>
      have hi : i ∈ Region.ready .any ops listed := by rw [hr]; exact List.mem_cons_self
      unfold Region.ready at hi
      obtain ⟨h1, h2⟩ := List.mem_filter.1 hi
      simp only [Bool.and_eq_true, Bool.not_eq_true'] at h2
      have := (hL i).2 ⟨List.mem_range.1 h1, h2.1⟩
      cases this
  | succ fuel ih =>
    intro listed L S β w tm hsz hlen hp hL hcl h hs
    refine ⟨fun hr => ?_, fun i hi => ?_⟩
    · have := hready listed L hsz hp hL hr
      subst this
      exact hQ S β w tm h hs
    · unfold Region.ready at hi
      obtain ⟨h1, h2⟩ := List.mem_filter.1 hi
      have hlt := List.mem_range.1 h1
      simp only [Bool.and_eq_true, Bool.not_eq_true'] at h2
      obtain ⟨h2, h3⟩ := h2
      have ho : ops[i]? = some ops[i] := Array.getElem?_eq_getElem hlt
      rw [ho] at h3
      simp only [Option.map_some, Option.getD_some] at h3
      rw [Array.all_eq_true_iff_forall_mem] at h3
      have hedges : ∀ e ∈ afterOf ops i, Region.binds .any e = true → listed.getD e.on true = true := by
        intro e he hb
        have hea : e ∈ ops[i].after := by unfold afterOf at he; rw [ho] at he; simpa using he
        have := h3 e hea
        rw [hb] at this
        simp only [Bool.not_true, Bool.false_or] at this
        cases hx : listed[e.on]? with
        | none => simp [hx] at this
        | some b => simp [hx] at this ⊢; exact this
      have hin := (hL i).2 ⟨hlt, h2⟩
      obtain ⟨L1, L2, rfl⟩ := List.append_of_mem hin
      obtain ⟨p1, p2, p3⟩ := List.pairwise_append.1 hp
      have hcl2 : ∀ k, ∀ j, k < ops.size → j < ops.size → (∀ e ∈ afterOf ops k, Region.binds .any e = true → listed.getD e.on true = true) → (mskOf ops k).testBit j = true → listed.getD j true = true := by
        intro k
        induction k using Nat.strongRecOn with
        | _ k ihk =>
          intro j hk hj hall hb
          obtain ⟨_, e, he, hbe, hc⟩ := hok.c2 k j hk hj hb
          have hel := hall e he hbe
          have helt := hok.c1 k hk e he hbe
          rcases hc with hc | hc
          · rw [← hc]; exact hel
          · exact ihk e.on helt j (by omega) hj (hcl e.on (by omega) hel) hc
      have hfirst := runs_first (F := Fd2 ops W) (m := gopI P T cf ops) (K := K) i L2 L1 S (fun j hj => by
        have hji : j < i := p3 j hj i List.mem_cons_self
        refine fd_apart2 hok hlt hji ?_
        cases hq : (mskOf ops i).testBit j with
        | false => rfl
        | true =>
          have h5 := hcl2 i j hlt (by omega) hedges hq
          have h6 := ((hL j).1 (List.mem_append_left _ hj)).2
          rw [h5] at h6; cases h6) h
      have hnot : ∀ j, j ∈ L1 ++ L2 ↔ j ∈ L1 ++ i :: L2 ∧ j ≠ i := by
        intro j
        simp only [List.mem_append, List.mem_cons]
        constructor
        · rintro (hj | hj)
          · have := p3 j hj i List.mem_cons_self; exact ⟨.inl hj, by omega⟩
          · have := (List.pairwise_cons.1 p2).1 j hj; exact ⟨.inr (.inr hj), by omega⟩
        · rintro ⟨hj | hj | hj, hne⟩
          · exact .inl hj
          · exact absurd hj hne
          · exact .inr hj
      have hnext : Nx w0 M N b0 nt ds (fun S' => runs (Fd2 ops W) (gopI P T cf ops) (L1 ++ L2) S' K) (wpAny P .any ops Q fuel (listed.setIfInBounds i true)) := by
        intro S' β' w' tm' hK hs'
        have hgd : ∀ j, j ≠ i → (listed.setIfInBounds i true).getD j true = listed.getD j true := fun j hj => by
          simp only [Array.getD_eq_getD_getElem?, Array.getElem?_setIfInBounds_ne (Ne.symm hj)]
        have hgi : (listed.setIfInBounds i true).getD i true = true := by
          simp [hsz, hlt]
        refine ih (listed.setIfInBounds i true) (L1 ++ L2) S' β' w' tm' (by simpa using hsz) ?_ ?_ ?_ ?_ hK hs'
        · simp only [List.length_append, List.length_cons] at hlen ⊢; omega
        · exact List.pairwise_append.2 ⟨p1, (List.pairwise_cons.1 p2).2, fun a ha b hb => p3 a ha b (List.mem_cons_of_mem _ hb)⟩
        · intro j
          rw [hnot j, hL j]
          by_cases hji : j = i
          · subst hji
            rw [hgi]
            constructor
            · rintro ⟨_, h⟩; exact absurd rfl h
            · rintro ⟨_, h⟩; cases h
          · rw [hgd j hji]
            exact ⟨fun h => h.1, fun h => ⟨h, hji⟩⟩
        · intro j hj hjl e he hb
          by_cases hei : e.on = i
          · rw [hei]; exact hgi
          · rw [hgd _ hei]
            by_cases hji : j = i
            · subst hji; exact hedges e he hb
            · rw [hgd j hji] at hjl; exact hcl j hj hjl e he hb
      unfold gopI at hfirst
      simp only [ho] at hfirst
      have hg := gop_sound (Q := Q) (ds := ds) hT hcf hfirst hs (fun t ht => hd i t (by unfold dstOf; rw [ho]; exact ht)) hnext
      unfold wpOp
      simp only [ho]
      split
      · rename_i hw; rw [if_pos hw] at hg; exact .inl hg
      · rename_i hw; rw [if_neg hw] at hg; exact hg
variable {KE : Exit → St → Prop}
/-- A region that draws its order. -/
theorem aw_draw2 (hm : P.follows .mixedOrders = true) (hT : TabOk P T) (hcf : ∀ f m, cf f = some m → GoodCall P f m) {id : Nat} {l : List Oper} (W : Grp) (hd : (l.all fun o => match o.dst with | some d => decide (d < nt) | none => true) = true) (hok : drawB2 l.toArray W = true)
    (h : runX (Fd2 l.toArray W) P T cf l.toArray 0 l S (KE .normal)) : AW P nt (.region id l.toArray true) KE S := fun w0 M N b0 β w tm hs => by
  refine wp_region_any hm ?_
  have hdst : ∀ i t, dstOf l.toArray i = some t → t < nt := by
    intro i t ht
    unfold dstOf at ht
    cases ho : l.toArray[i]? with
    | none => rw [ho] at ht; cases ht
    | some o =>
      rw [ho] at ht
      have hmem : o ∈ l := List.mem_of_getElem? (by simpa using ho)
      have := (List.all_eq_true.1 hd) o hmem
      have ht' : o.dst = some t := ht
      rw [ht'] at this
      simpa using this
  have hr := runX_runs (ops := l.toArray) l 0 S (fun k => by simp) h
  refine draw_any2 (W := W) hT hcf hdst (drawOk_of2 hok) (fun S' β' w' tm' hK hs' => ⟨β', S', hK, hs', rfl⟩) _ _ (List.range' 0 l.length) S β _ tm (by simp) (by simp) ?_ ?_ ?_ hr (hs.draw _)
  · exact List.pairwise_lt_range'
  · intro i
    simp only [List.mem_range'_1, Nat.zero_le, true_and, Nat.zero_add, List.size_toArray]
    constructor
    · intro hi; exact ⟨hi, by simp [hi]⟩
    · exact fun hi => hi.1
  · intro i hi hl
    have : (Array.replicate l.toArray.size false).getD i true = false := by simp at hi; simp [hi]
    rw [this] at hl
    cases hl
end
end Go.Proofs.YtgphlcdinejmdaaGreatDoor

/- An own row gets another name: so that it outlives the next call that lays a row at its old name. No program is named. -/
namespace Go.Proofs.YtgphlcdinejmdaaGreatDoor
set_option linter.unusedVariables false
set_option linter.unusedSimpArgs false
open Go.RowKit
section
variable {w0 w : World} {M N : Nat → Prop} {b0 : Nat → Value} {nt : Nat} {β : Nat → Value} {S : St} {tm : Array Value}
def mvG (G : Blk) (i r j q : Nat) (e : Option TypeId) (z : Nat) (l : List Value) : Blk := upd (upd G j (some (q, .row e z l))) i (some (r + 1, .fro z []))
def mvB (β : Nat → Value) (i j : Nat) : Nat → Value := fun k => if k = i then .slice none 0 0 else if k = j then β i else β k
/-- The own row i is told as row j. -/
theorem Sim.rename (hs : Sim w0 M N b0 nt β S w tm) {i j r q z : Nat} {e : Option TypeId} {l : List Value} (hij : i ≠ j) (hG : S.G i = some (r, .row e z l)) (hq : nvO S j = some q) (hi : i < 100000) (hj : j < 100000) :
    Sim w0 M N b0 nt (mvB β i j) ⟨S.E, mvG S.G i r j q e z l⟩ w tm ∧ (∀ b, okB w0 N β S.G w b → okB w0 N (mvB β i j) (mvG S.G i r j q e z l) w b) ∧ Older β (mvB β i j) S.G (mvG S.G i r j q e z l) := by
  have hGi : mvG S.G i r j q e z l i = some (r + 1, .fro z []) := upd_same _ _ _
  have hGj : mvG S.G i r j q e z l j = some (q, .row e z l) := by unfold mvG; rw [upd_ne _ _ (Ne.symm hij), upd_same]
  have hGk : ∀ k, k ≠ i → k ≠ j → mvG S.G i r j q e z l k = S.G k := fun k h1 h2 => by unfold mvG; rw [upd_ne _ _ h1, upd_ne _ _ h2]
  have hβi : mvB β i j i = .slice none 0 0 := by simp [mvB]
  have hβj : mvB β i j j = β i := by simp [mvB, Ne.symm hij]
  have hβk : ∀ k, k ≠ i → k ≠ j → mvB β i j k = β k := fun k h1 h2 => by simp [mvB, h1, h2]
  have hqj : ∀ r1 e1, S.G j = some (r1, e1) → r1 < q := by
    intro r1 e1 h1
    unfold nvO at hq
    rw [h1] at hq
    cases hq
    exact Nat.lt_succ_self _
  have hold : Older β (mvB β i j) S.G (mvG S.G i r j q e z l) := by
    intro k r1 e1 h1
    by_cases hki : k = i
    · subst hki
      rw [hG] at h1; cases h1
      exact ⟨r + 1, _, hGi, Nat.le_succ _, fun h => by omega⟩
    · by_cases hkj : k = j
      · subst hkj
        have := hqj r1 e1 h1
        exact ⟨q, _, hGj, by omega, fun h => by omega⟩
      · exact ⟨r1, e1, by rw [hGk k hki hkj]; exact h1, Nat.le_refl _, fun _ => hβk k hki hkj⟩
  -- who owns a block now owned it before
  have howner : ∀ k r1 e1 b, mvG S.G i r j q e z l k = some (r1, e1) → e1.live → blk? (mvB β i j k) = some b → ∃ k0 r0 e0, S.G k0 = some (r0, e0) ∧ e0.live ∧ blk? (β k0) = some b ∧ ((k = j ∧ k0 = i) ∨ (k ≠ i ∧ k ≠ j ∧ k0 = k ∧ r0 = r1 ∧ e0 = e1)) := by
    intro k r1 e1 b h1 h2 h3
    by_cases hki : k = i
    · subst hki
      rw [hGi] at h1; cases h1
      exact h2.elim
    · by_cases hkj : k = j
      · subst hkj
        rw [hβj] at h3
        exact ⟨i, r, _, hG, trivial, h3, .inl ⟨rfl, rfl⟩⟩
      · rw [hGk k hki hkj] at h1
        rw [hβk k hki hkj] at h3
        exact ⟨k, r1, e1, h1, h2, h3, .inr ⟨hki, hkj, rfl, rfl, rfl⟩⟩
  have hown : ∀ b, ¬ ownB β S.G b → ¬ ownB (mvB β i j) (mvG S.G i r j q e z l) b := by
    rintro b h ⟨k, r1, e1, h1, h2, h3⟩
    obtain ⟨k0, r0, e0, g1, g2, g3, _⟩ := howner k r1 e1 b h1 h2 h3
    exact h ⟨k0, r0, e0, g1, g2, g3⟩
  have hok : ∀ b, okB w0 N β S.G w b → okB w0 N (mvB β i j) (mvG S.G i r j q e z l) w b := fun b ⟨h1, h2, h3⟩ => ⟨h1, hown b h2, h3⟩
  have hok2 : ∀ b, okB w0 N β S.G w b → okB w0 N (mvB β i j) (mvG S.G i r j q e z l) w b ∧ w.heap[b]? = w.heap[b]? := fun b hb => ⟨hok b hb, rfl⟩
  refine ⟨⟨hs.os, hs.tape, hs.output, hs.glo, hs.size, hs.block, ?_, ?_, ?_, ?_, hs.wide, ?_⟩, hok, hold⟩
  · intro k r1 e1 h1
    replace h1 : mvG S.G i r j q e z l k = some (r1, e1) := h1
    by_cases hki : k = i
    · subst hki
      rw [hGi] at h1; cases h1
      refine ⟨0, ?_⟩
      rw [hβi]
      exact ⟨⟨by simp, rfl⟩, none, 0, rfl, Nat.le_refl _, by unfold maxLen; omega, fun h => absurd h (Nat.lt_irrefl _)⟩
    · by_cases hkj : k = j
      · subst hkj
        rw [hGj] at h1; cases h1
        obtain ⟨p0, e2, n, p1, p2⟩ := hs.ents i r _ hG
        exact ⟨p0, e2, n, p1, by rw [hβj]; exact p2⟩
      · rw [hGk k hki hkj] at h1
        have hr := hs.ents k r1 e1 h1
        have hb := hβk k hki hkj
        cases e1 with
        | box cs =>
          obtain ⟨g, vs, t, e1, e2, e3⟩ := hr
          exact ⟨g, vs, t, hb.trans e1, e2, e3.mono hok2 hold⟩
        | row e sz l =>
          obtain ⟨e0, e', n, e1, e2⟩ := hr
          exact ⟨e0, e', n, e1, by rw [hb]; exact e2⟩
        | fro sz l =>
          obtain ⟨n, e1⟩ := hr
          exact ⟨n, by rw [hb]; exact e1.mono hok2⟩
        | rbx cs =>
          obtain ⟨g, vs, t, fr, e1, e2, e3, e4⟩ := hr
          exact ⟨g, vs, t, fr, hb.trans e1, e2, e3.mono hok2 hold, hown g e4⟩
  · intro k1 k2 r1 e1 r2 e2 b h1 l1 h2 l2 b1 b2
    obtain ⟨x1, y1, z1, g1, g2, g3, g4⟩ := howner k1 r1 e1 b h1 l1 b1
    obtain ⟨x2, y2, z2, f1, f2, f3, f4⟩ := howner k2 r2 e2 b h2 l2 b2
    have hx := hs.apart x1 x2 _ _ _ _ b g1 g2 f1 f2 g3 f3
    rcases g4 with ⟨rfl, rfl⟩ | ⟨q1, q2, rfl, _⟩
    · rcases f4 with ⟨rfl, rfl⟩ | ⟨q1, q2, rfl, _⟩
      · rfl
      · exact absurd hx.symm q1
    · rcases f4 with ⟨rfl, rfl⟩ | ⟨_, _, rfl, _⟩
      · exact absurd hx q1
      · exact hx
  · intro k r1 e1 b h1 h2 h3
    obtain ⟨k0, r0, e0, g1, g2, g3, g4⟩ := howner k r1 e1 b h1 h2 h3
    obtain ⟨f1, f2⟩ := hs.fresh k0 r0 e0 b g1 g2 g3
    refine ⟨f1, ?_⟩
    rcases g4 with ⟨rfl, rfl⟩ | ⟨_, _, rfl, _⟩
    · rcases f2 with f2 | f2
      · exact .inl f2
      · omega
    · exact f2
  · intro k e1 hk h1
    have hki : k ≠ i := by omega
    have hkj : k ≠ j := by omega
    rw [hβk k hki hkj]
    exact hs.pin k e1 hk (by rw [← hGk k hki hkj]; exact h1)
  · intro k a ha
    obtain ⟨h1, h2⟩ := hs.env k a ha
    exact ⟨h1, AV.rep_mono hok2 hold h2⟩
def mvC (i r j q : Nat) : AC → AC
  | .sl i' r' n => bif Nat.beq i' i && Nat.beq r' r then .sl j q n else .sl i' r' n
  | c => c
def mvL (i r j q : Nat) : List AC → List AC
  | [] => []
  | c :: l => mvC i r j q c :: mvL i r j q l
theorem mvL_map (i r j q : Nat) : ∀ l, mvL i r j q l = l.map (mvC i r j q)
  | [] => rfl
  | c :: l => by rw [mvL, mvL_map i r j q l]; rfl
variable {P : Program} {c : Code} {KE : Exit → St → Prop}
/-- The own row i, to which the variable b leads, is told as row j. -/
theorem aw_mv (i j b : Nat) {r q z rb : Nat} {e : Option TypeId} {l : List Value} {cs : List AC} (hn : (!(Nat.beq i j) && (!(Nat.beq b i) && (!(Nat.beq b j) && (Nat.blt i 100000 && (Nat.blt j 100000 && Nat.blt b 100000))))) = true)
    (hG : S.G i = some (r, .row e z l)) (hB : S.G b = some (rb, .box cs)) (hq : nvO S j = some q)
    (h : AW P nt c KE (((S.lay j (some (q, .row e z l))).lay i (some (r + 1, .fro z []))).lay b (some (rb, .box (mvL i r j q cs))))) : AW P nt c KE S := fun w0 M N b0 β w tm hs => by
  simp only [Bool.and_eq_true, Bool.not_eq_true'] at hn
  obtain ⟨n1, n2, n3, n4, n5, n6⟩ := hn
  have n1 : i ≠ j := fun e => by rw [e, Nat.beq_refl] at n1; cases n1
  have n2 : b ≠ i := fun e => by rw [e, Nat.beq_refl] at n2; cases n2
  have n3 : b ≠ j := fun e => by rw [e, Nat.beq_refl] at n3; cases n3
  obtain ⟨h1, h2, h3⟩ := hs.rename n1 hG hq (blt_lt n4) (blt_lt n5)
  obtain ⟨g, vs, t, e1, e2, e3⟩ := hs.ents b rb _ hB
  have hGb : mvG S.G i r j q e z l b = some (rb, .box cs) := by unfold mvG; rw [upd_ne _ _ n2, upd_ne _ _ n3]; exact hB
  have hGj : mvG S.G i r j q e z l j = some (q, .row e z l) := by unfold mvG; rw [upd_ne _ _ (Ne.symm n1), upd_same]
  have hβj : mvB β i j j = β i := by simp [mvB, Ne.symm n1]
  have hβb : mvB β i j b = β b := by simp [mvB, n2, n3]
  have hc : CsRep w (mvB β i j) (mvG S.G i r j q e z l) (okB w0 N (mvB β i j) (mvG S.G i r j q e z l) w) (mvL i r j q cs) vs := by
    rw [mvL_map]
    refine ⟨by rw [List.length_map]; exact e3.1, fun k c' hk => ?_⟩
    simp only [List.getElem?_map, Option.map_eq_some_iff] at hk
    obtain ⟨c0, hk0, rfl⟩ := hk
    obtain ⟨y, hy, hr⟩ := e3.2 k c0 hk0
    refine ⟨y, hy, ?_⟩
    have hm : c0.rep w (mvB β i j) (mvG S.G i r j q e z l) (okB w0 N (mvB β i j) (mvG S.G i r j q e z l) w) y := AC.rep_mono (fun b hb => ⟨h2 b hb, rfl⟩) h3 hr
    cases c0 with
    | sl i' r' n =>
      simp only [mvC]
      cases hcc : (Nat.beq i' i && Nat.beq r' r) with
      | false => exact hm
      | true =>
        simp only [Bool.and_eq_true] at hcc
        have ei := Nat.eq_of_beq_eq_true hcc.1
        have er := Nat.eq_of_beq_eq_true hcc.2
        subst ei; subst er
        obtain ⟨A, m, cc, g1, g2, rfl⟩ := hs.cur_sl hr hG
        exact ⟨rfl, q, _, hGj, Nat.le_refl _, fun _ => ⟨A, m, cc, hβj.trans g1, g2, rfl⟩⟩
    | _ => exact hm
  obtain ⟨β', k1, k2, k3, k4⟩ := h1.change1 (w' := w) b rb (.box (mvL i r j q cs)) (mvB β i j b) rfl rfl rfl (Nat.le_refl _)
    (fun r1 e1 hg => by rw [show mvG S.G i r j q e z l b = some (r1, e1) from hg] at hGb; cases hGb; exact ⟨Nat.le_refl _, fun _ => rfl⟩) (fun k _ _ => rfl)
    (fun g' _ hg' => ⟨(h1.fresh b rb _ g' hGb trivial hg').1, .inr ⟨rb, _, hGb, trivial, hg'⟩⟩) (fun _ => ⟨_, hGb⟩)
    (fun β' G' hβ hG' hok hold hβi => ⟨g, vs, t, by rw [hβi, hβb]; exact e1, e2, hc.mono hok hold⟩)
  exact h w0 M N b0 β' w tm k1
end
section
variable {P : Program} {T : Tab} {Fs : Nat → Ft} {i : Nat} {rest : List Oper} {S : St} {K : St → Prop} {ops : Array Oper} {d : Tmp} {ty : TypeId} {pos : String} {af : Array Edge} {g : Option (Nat × Bool)}
/-- A call, its conditions one by one (for rows handed over whose turn is not a numeral). -/
theorem q_callF (wt : WsT) (zt : List (Nat × Nat)) {f : FuncId} {args : Array Operand} {ts : Array TypeId} {aa args' : List AV} {ws : List Nat} {al : Bool} {S1 : St} {ids : List (Nat × Nat)} {es : List Ent} {vw : List Nat} {q : Prop}
    (ha : zA (wszOf zt f) (rdL (Fs i) S args.toList) = some aa) (h0 : wsOf wt f = (ws, al)) (h1 : (bif al then frzF (Fs i) (cellsW (fun p => ws.any (Nat.beq p)) 0 aa) S else some S) = some S1)
    (h2 : nrmLf (Fs i) S1 (fun p => ws.any (Nat.beq p)) 0 aa [] [] [] = some (args', ids, es, vw, q)) (h3 : callB ids vw al d = true) (h : CallK P (Fs i) d f (fun S3 => runX Fs P T (cfU P) ops (i + 1) rest S3 K) (al, S1, args', ids, es, q)) :
    runA Fs P T (cfU P) ops i ⟨some d, .call { callee := .value (.func f), args := args, argTypes := ts }, ty, pos, af, g⟩ rest S K :=
  q_callE wt zt (by rw [ha]; unfold preC; simp only [h0, h1, h2, h3, cond_true]) h
end
end Go.Proofs.YtgphlcdinejmdaaGreatDoor

/- From a walk by the kit's own means to a contract: what is handed back is a value, or one fresh row. No program is named. -/
namespace Go.Proofs.YtgphlcdinejmdaaGreatDoor
set_option linter.unusedVariables false
open Go.RowKit
section
variable {w : World} {β β' : Nat → Value} {G G' : Blk} {ok : Nat → Prop}
/-- What speaks of no own block reads the same whatever these are. -/
theorem plain_rep {a : AV} {y : Value} (ha : a.on (fun _ => false) = true) (h : a.rep w β G ok y) : a.rep w β' G' ok y := by
  have hC : ∀ (cs : List AC) (vs : Array Value), cs.all (AC.on fun _ => false) = true → CsRep w β G ok cs vs → CsRep w β' G' ok cs vs := fun cs vs hc h =>
    ⟨h.1, fun j c hj => let ⟨z, hz, hr⟩ := h.2 j c hj; ⟨z, hz, noref ((List.all_eq_true.1 hc) c (List.mem_of_getElem? hj)) (fun b hb => hb) hr⟩⟩
  have hA : ∀ (x : AG) (y : Value), x.on (fun _ => false) = true → x.rep w β G ok y → x.rep w β' G' ok y := fun x y hx h => by
    cases x with
    | one c => exact noref hx (fun b hb => hb) h
    | agg cs => obtain ⟨vs, h1, h2⟩ := h; exact ⟨vs, h1, hC cs vs hx h2⟩
  cases a with
  | g x => exact hA x y ha h
  | tup xs => obtain ⟨vs, h1, h2, h3⟩ := h; exact ⟨vs, h1, h2, fun j x hx => let ⟨z, hz, hr⟩ := h3 j x hx; ⟨z, hz, hA x z ((List.all_eq_true.1 ha) x (List.mem_of_getElem? hx)) hr⟩⟩
end
/-- The arguments, read in a world. -/
def Args0 (w : World) (ok : Nat → Prop) (aa : List AV) (vs : Array Value) : Prop := ∀ (j : Nat) (a : AV), aa[j]? = some a → ∃ z, vs[j]? = some z ∧ a.rep w (fun _ => undef) (fun _ => none) ok z
theorem args_of_sim {aa : List AV} {w : World} {M N : Nat → Prop} {β : Nat → Value} {vs : Array Value} (hpl : aa.all (AV.on fun _ => false) = true) (hs : Sim w M N β vs.size β ⟨argsE aa, Gin []⟩ w vs) : Args0 w (okB w N β (Gin []) w) aa vs := fun j a hj => by
  obtain ⟨h1, h2⟩ := hs.env j a hj
  refine ⟨vs[j], Array.getElem?_eq_getElem h1, ?_⟩
  have e : vs.getD j undef = vs[j] := by simp [h1]
  rw [e] at h2
  exact plain_rep ((List.all_eq_true.1 hpl) a (List.mem_of_getElem? hj)) h2
theorem gout_nil (i : Nat) : Gout [] [] i = none := by unfold Gout; split <;> simp
/-- A walk whose result is told, and that leaves what was there, is a contract. -/
theorem kon_pure {P : Program} {f : FuncId} {aa : List AV} {out : AV} (hent : ∀ args w, (callFunc f args).run P w = .ok (.enter f args) w)
    (hpl : aa.all (AV.on fun _ => false) = true) (hout : out.refs = [])
    (h : ∀ (w : World) (ok : Nat → Prop) (vs : Array Value), Glo w → (∀ b, ok b → b < w.heap.size) → vs.size = aa.length → Args0 w ok aa vs →
      Calls P f vs w fun en W' => ∃ v, en = .returned v ∧ Below w.heap.size w W' ∧ ∀ β G ok, out.rep W' β G ok v) :
    Kon P f aa [] out [] [] := by
  refine ⟨cOf (fun _ : Unit => (aa, [])) (fun _ => (out, [], [])), ⟨hent, ?_⟩, cOf_at (A := fun _ : Unit => (aa, [])) (R := fun _ => (out, [], [])) (fun _ _ _ => rfl) ()⟩
  intro aa' es out' news es' hC w vs β N hN hs hvs
  obtain ⟨_, rfl, rfl, rfl, rfl, rfl⟩ := cOf_some hC
  refine (h w _ vs hs.glo.1 (fun b hb => hb.1) hvs (args_of_sim hpl hs)).mono ?_
  rintro en W' ⟨v, rfl, hB, hrep⟩
  refine ⟨v, fun _ => undef, rfl, ?_, hrep _ _ _, rfl, rfl, fun p hp => ?_⟩
  · refine { os := hB.os, tape := hB.tape, output := hB.output, glo := hs.glo, size := hB.size, block := fun k hk _ => hB.block k hk, ents := ?_, apart := ?_, fresh := ?_, pin := ?_, wide := rfl, env := ?_ }
    · intro i r e hi
      replace hi : Gout [] [] i = some (r, e) := hi
      rw [gout_nil] at hi; cases hi
    · intro i j r e r' e' b hi
      replace hi : Gout [] [] i = some (r, e) := hi
      rw [gout_nil] at hi; cases hi
    · intro i r e b hi
      replace hi : Gout [] [] i = some (r, e) := hi
      rw [gout_nil] at hi; cases hi
    · intro i e _ hi
      replace hi : Gout [] [] i = some (0, e) := hi
      rw [gout_nil] at hi; cases hi
    · intro i a ha; cases ha
  · rw [hout] at hp; cases hp
/-- A walk that lays one row anew and hands it back is a contract. -/
theorem kon_row {α : Type} [Cel α] {P : Program} {f : FuncId} {aa : List AV} {e : TypeId} {r : List α} (hent : ∀ args w, (callFunc f args).run P w = .ok (.enter f args) w)
    (hpl : aa.all (AV.on fun _ => false) = true)
    (h : ∀ (w : World) (ok : Nat → Prop) (vs : Array Value), Glo w → (∀ b, ok b → b < w.heap.size) → vs.size = aa.length → Args0 w ok aa vs →
      Calls P f vs w fun en W' => ∃ v, en = .returned v ∧ W'.ownsRow w.heap.size e (Cel.sz α) v r.length (cV r) ∧ Below w.heap.size w W') :
    Kon P f aa [] (slA 0 0 r) [rwE e r] [] := by
  refine ⟨cOf (fun _ : Unit => (aa, [])) (fun _ => (slA 0 0 r, [rwE e r], [])), ⟨hent, ?_⟩, cOf_at (A := fun _ : Unit => (aa, [])) (R := fun _ => (slA 0 0 r, [rwE e r], [])) (fun _ _ _ => rfl) ()⟩
  intro aa' es out news es' hC w vs β N hN hs hvs
  obtain ⟨_, rfl, rfl, rfl, rfl, rfl⟩ := cOf_some hC
  refine (h w _ vs hs.glo.1 (fun b hb => hb.1) hvs (args_of_sim hpl hs)).mono ?_
  rintro en W' ⟨v, rfl, hown, hB⟩
  have hblk : ∀ b, blk? v = some b → b < W'.heap.size ∧ w.heap.size ≤ b := by
    intro b hb
    rcases hown.2 with ⟨rfl, _⟩ | ⟨g, cap, cur, rfl, hg, hgb, _⟩
    · cases hb
    · cases hb
      exact ⟨(Array.getElem?_eq_some_iff.1 hgb).1, hg⟩
  have hG : ∀ {i r1 e1}, Gout [rwE e r] [] i = some (r1, e1) → i = 0 ∧ r1 = 0 ∧ e1 = rwE e r := by
    intro i r1 e1 hi
    unfold Gout at hi
    split at hi
    · simp at hi
    · match i, hi with
      | 0, hi => simp at hi; exact ⟨rfl, hi.1.symm, hi.2.symm⟩
      | i + 1, hi => simp at hi
  obtain ⟨hown1, hown2⟩ := hown
  have hsl : ∃ A c, v = .slice A r.length c := by
    rcases hown2 with ⟨rfl, h0⟩ | ⟨g, cap, cur, rfl, _⟩
    · rw [h0]; exact ⟨_, _, rfl⟩
    · exact ⟨_, _, rfl⟩
  obtain ⟨A, c, rfl⟩ := hsl
  refine ⟨_, fun _ => .slice A r.length c, rfl, ?_, ?_, rfl, rfl, ?_⟩
  · refine { os := hB.os, tape := hB.tape, output := hB.output, glo := hs.glo, size := hB.size, block := fun k hk _ => hB.block k hk, ents := ?_, apart := ?_, fresh := ?_, pin := ?_, wide := rfl, env := ?_ }
    · intro i r1 e1 hi
      obtain ⟨rfl, rfl, rfl⟩ := hG hi
      refine ⟨?_, e, r.length, fun x hx => by cases hx; rfl, hown1, ?_⟩
      · exact cV_one r
      · exact hown2.imp id fun ⟨g, cap, cur, h1, h2, h3, h4, h5, h6, h7⟩ => ⟨g, cap, cur, h1, Nat.zero_le _, h3, h4, h5, Nat.le_of_eq h6.symm, h7⟩
    · intro i j r1 e1 r2 e2 b hi _ hj _ _ _
      rw [(hG hi).1, (hG hj).1]
    · intro i r1 e1 b hi _ hb
      exact ⟨(hblk b hb).1, .inl (hblk b hb).2⟩
    · intro i e1 hi hg
      have := (hG hg).1
      omega
    · intro i a hi; cases hi
  · exact ⟨rfl, 0, rwE e r, rfl, Nat.le_refl _, fun _ => ⟨A, _, c, rfl, Nat.le_refl _, rfl⟩⟩
  · intro p hp
    simp [AV.refs, AG.refs, AC.refs] at hp
    subst hp
    exact ⟨_, rfl⟩
end Go.Proofs.YtgphlcdinejmdaaGreatDoor

/- Strings in the abstract run: what is told of them is a list of bytes. No program is named. -/
namespace Go.Proofs.YtgphlcdinejmdaaGreatDoor
set_option linter.unusedVariables false
open Go.RowKit
/-- A string of bytes. -/
abbrev str (l : List UInt8) : ByteArray := ⟨l.toArray⟩
abbrev vS (l : List UInt8) : AV := .g (.one (.v (.string (str l))))
theorem str_ext (s : List UInt8) (i j : Nat) : (str s).extract i j = str ((s.drop i).take (j - i)) := by
  apply ByteArray.ext
  simp [str, List.extract_eq_take_drop]
/-- A text as the element of a row. -/
instance : Cel (List UInt8) where
  f a := [.string (str a)]
  un vs := match vs with
    | [.string b] => some b.data.toList
    | _ => none
  sz := 1
  no := []
  pos := by decide
  len _ := rfl
  one _ := rfl
  unf vs a h := by
    split at h
    · cases h; simp [str]
    · cases h
section
variable {P : Program} {t : TypeId} {x y : Operand}
theorem pu_sadd {a b : List UInt8} (h : a.length + b.length ≤ 100000000) : Pu1 P (do eqGuard .add t x y (.string (str a)) (.string (str b)); binOp .add t (.string (str a)) (.string (str b))) (.string (str (a ++ b))) () :=
  ⟨rfl, fun w => by
    have e : (do eqGuard .add t x y (.string (str a)) (.string (str b)); binOp .add t (.string (str a)) (.string (str b)) : Sem Value).run P w = (Op.stringOp .add (str a) (str b)).run P w := rfl
    rw [e]
    rw [run_string_add_sum w (str a) (str b) (by show a.toArray.size + b.toArray.size ≤ _; simp only [List.size_toArray]; omega), ByteArray.mk_append_mk]⟩
theorem pu_seq {a b : List UInt8} : Pu1 P (do eqGuard .eql t x y (.string (str a)) (.string (str b)); binOp .eql t (.string (str a)) (.string (str b))) (.bool (a == b)) () :=
  ⟨rfl, fun w => by
    simp only [eqGuard, binOp_string_eql, ByteArray.toList_mk]
    simp⟩
theorem pu_sne {a b : List UInt8} : Pu1 P (do eqGuard .neq t x y (.string (str a)) (.string (str b)); binOp .neq t (.string (str a)) (.string (str b))) (.bool (!(a == b))) () :=
  ⟨rfl, fun w => by
    simp only [eqGuard, binOp_string_neq, ByteArray.toList_mk]
    simp⟩
theorem pu_sidx {s : List UInt8} {i : Int} (hu : P.underlying t = some .string) (h : 0 ≤ i ∧ i < (s.length : Int)) : Pu1 P (Instr.index t (.string (str s)) (.int .i64 i)) (.int .u8 (s.getD i.toNat 0).toNat) () :=
  ⟨rfl, fun w => by
    have h2 : 0 ≤ i ∧ i < ((str s).size : Int) := h
    have h3 : i.toNat < s.length := by omega
    rw [run_index_string w t (str s) .i64 i hu, dif_pos h2]
    have e : (str s)[i.toNat]'(by have := h2.2; omega) = s.getD i.toNat 0 := by
      show s.toArray[i.toNat] = _
      simp [List.getD_eq_getElem?_getD, h3]
    rw [e]⟩
theorem bu_slen {s : List UInt8} {rt : TypeId} {cs : Array Bool} (hu : P.underlying t = some .string) : Bu1 P (builtin .len #[t] rt cs #[.string (str s)]) (.int .i64 s.length) () :=
  ⟨rfl, fun w => by
    have := run_len_string (P := P) w t rt (str s) hu
    simp only [builtin, Sem.run_bind, this, Result.andThen_ok, Sem.run_pure]
    rfl⟩
end
section
variable {P : Program} {T : Tab} {cf : FuncId → Option (List AV → Option Tmp → AM)} {Fs : Nat → Ft} {i : Nat} {rest : List Oper} {S : St} {K : St → Prop} {ops : Array Oper} {d : Tmp} {x y c : Operand} {a b : AV} {ty : TypeId} {pos : String} {af : Array Edge} {g : Option (Nat × Bool)}
/-- One byte as a string. -/
theorem r_bstr1 {s t e : TypeId} {l : List Value} {c : UInt8} {p : Prop} (hx : rdO (Fs i) S x = some a) (hp : pval a = none) (hsl : rdSl (Fs i) S a 1 = some (1, l, p)) (hl : l = [.int .u8 (c.toNat : Int)]) (hs : P.underlying s = some (.slice e)) (he : P.underlying e = some (.int .u8)) (ht : P.underlying t = some .string) (hpp : p) (hw : (Fs i).sw d = true)
    (k : runX Fs P T cf ops (i + 1) rest (S.put d (some (vS [c]))) K) : runA Fs P T cf ops i ⟨some d, .convert s t x, ty, pos, af, g⟩ rest S K := by
  refine getO_of hx ?_
  simp only [hp]
  refine getSl_of hsl hpp (need_of (Nat.zero_lt_one) ⟨.string (str [c]), ⟨rfl, fun w b off q hc => ?_⟩, putD_of hw k⟩)
  refine run_convert_bytes_back w s t e ⟨b, off, none⟩ q [c] hs he ht fun j hj => ?_
  have hj0 : j = 0 := by simp at hj; omega
  subst hj0
  have h2 := hc 0 (.int .u8 (c.toNat : Int)) (by rw [hl]; rfl)
  have e3 : (⟨b, off, none⟩ : Addr).add 0 = ⟨b, off + 0, none⟩ := by unfold Addr.add; split <;> simp_all
  rw [e3]; exact h2
/-- A piece of a string. -/
theorem r_spiece {t : TypeId} {lo hi : Option Operand} {lv hv : Option Value} {s : List UInt8} {p q : Nat} (hx : rdO (Fs i) S x = some (vS s)) (hlo : rdVo (Fs i) S lo = some lv) (hhi : rdVo (Fs i) S hi = some hv) (ht : P.underlying t = some .string)
    (h1 : (lv = none ∧ p = 0) ∨ lv = some (.int .i64 p)) (h2 : (hv = none ∧ q = s.length) ∨ hv = some (.int .i64 q)) (h : p ≤ q ∧ q ≤ s.length) (hw : (Fs i).sw d = true)
    (k : runX Fs P T cf ops (i + 1) rest (S.put d (some (vS ((s.drop p).take (q - p))))) K) : runA Fs P T cf ops i ⟨some d, .slice t x lo hi none, ty, pos, af, g⟩ rest S K := by
  refine getO_of hx (getVo_of lo hlo (getVo_of hi hhi (getVo_of (v := none) none rfl ?_)))
  refine exr_of (r := .string (str ((s.drop p).take (q - p)))) (fun w => ?_) rfl hw k
  have hsz : (str s).size = s.length := rfl
  rw [run_sliceAt_string w t _ _ _ _ ht, ← str_ext]
  rcases h1 with ⟨rfl, rfl⟩ | rfl <;> rcases h2 with ⟨rfl, rfl⟩ | rfl
  · rw [run_slice_string_all w t _ ht]; rfl
  · have := run_slice_string_h (P := P) w t (str s) ht .i64 (q : Int) (by omega) (by rw [hsz]; omega)
    rw [this]; rfl
  · have := run_slice_string_l (P := P) w t (str s) ht .i64 (p : Int) (by omega) (by rw [hsz]; omega)
    rw [this]; rfl
  · rw [run_slice_string_if w t (str s) .i64 .i64 p q ht, if_pos (by rw [hsz]; omega), if_pos (by omega)]
    rfl
theorem r_seq {t yt : TypeId} {a b : List UInt8} (hx : rdV (Fs i) S x = some (.string (str a))) (hy : rdV (Fs i) S y = some (.string (str b))) (hw : (Fs i).sw d = true)
    (k : runX Fs P T cf ops (i + 1) rest (S.put d (some (vB (a == b)))) K) : runA Fs P T cf ops i ⟨some d, .binOp .eql t x y yt, ty, pos, af, g⟩ rest S K := r_pure2 hx hy pu_seq.h2 rfl hw k
theorem r_sne {t yt : TypeId} {a b : List UInt8} (hx : rdV (Fs i) S x = some (.string (str a))) (hy : rdV (Fs i) S y = some (.string (str b))) (hw : (Fs i).sw d = true)
    (k : runX Fs P T cf ops (i + 1) rest (S.put d (some (vB (!(a == b))))) K) : runA Fs P T cf ops i ⟨some d, .binOp .neq t x y yt, ty, pos, af, g⟩ rest S K := r_pure2 hx hy pu_sne.h2 rfl hw k
theorem r_sadd {t yt : TypeId} {a b : List UInt8} (hx : rdV (Fs i) S x = some (.string (str a))) (hy : rdV (Fs i) S y = some (.string (str b))) (h : a.length + b.length ≤ 100000000) (hw : (Fs i).sw d = true)
    (k : runX Fs P T cf ops (i + 1) rest (S.put d (some (vS (a ++ b)))) K) : runA Fs P T cf ops i ⟨some d, .binOp .add t x y yt, ty, pos, af, g⟩ rest S K := r_pure2 hx hy (pu_sadd h).h2 rfl hw k
theorem r_sidx {t : TypeId} {s : List UInt8} {j : Int} (hx : rdV (Fs i) S x = some (.string (str s))) (hy : rdV (Fs i) S y = some (.int .i64 j)) (hu : P.underlying t = some .string) (h : 0 ≤ j ∧ j < (s.length : Int)) (hw : (Fs i).sw d = true)
    (k : runX Fs P T cf ops (i + 1) rest (S.put d (some (.g (.one (.v (.int .u8 (s.getD j.toNat 0).toNat)))))) K) : runA Fs P T cf ops i ⟨some d, .index t x y, ty, pos, af, g⟩ rest S K := r_index hx hy (pu_sidx hu h).h2 rfl hw k
theorem r_slen {t : TypeId} {s : List UInt8} (hx : rdO (Fs i) S x = some (vS s)) (hu : P.underlying t = some .string) (hw : (Fs i).sw d = true)
    (k : runX Fs P T cf ops (i + 1) rest (S.put d (some (vI s.length))) K) : runA Fs P T cf ops i ⟨some d, .call { callee := .builtin .len, args := #[x], argTypes := #[t] }, ty, pos, af, g⟩ rest S K :=
  getO_of hx ⟨.int .i64 s.length, ⟨rfl, fun w => (bu_slen hu).h2 w⟩, putD_of hw k⟩
/-- A number from 0 to 255 as a byte. -/
theorem r_i2b {s t : TypeId} {n : Int} (hx : rdV (Fs i) S x = some (.int .i64 n)) (hr : ∀ w, (convert s t (.int .i64 n)).run P w = .ok (.int .u8 (IntKind.u8.wrap n)) w) (h : 0 ≤ n ∧ n ≤ 255) (hw : (Fs i).sw d = true)
    (k : runX Fs P T cf ops (i + 1) rest (S.put d (some (.g (.one (.v (.int .u8 ((UInt8.ofNat n.toNat).toNat : Nat)))))) ) K) : runA Fs P T cf ops i ⟨some d, .convert s t x, ty, pos, af, g⟩ rest S K := by
  refine r_convert hx (r := .int .u8 ((UInt8.ofNat n.toNat).toNat : Nat)) (fun w => ?_) rfl hw k
  rw [hr w]
  have e : IntKind.u8.wrap n = ((UInt8.ofNat n.toNat).toNat : Int) := by
    have h1 : (UInt8.ofNat n.toNat).toNat = n.toNat := by
      rw [UInt8.toNat_ofNat']
      omega
    rw [h1]
    simp [IntKind.wrap, IntKind.bits, IntKind.signed]
    omega
  rw [e]
/-- Bytes taken from each other. -/
theorem r_bsub {t yt : TypeId} {a b : Int} (hx : rdV (Fs i) S x = some (.int .u8 a)) (hy : rdV (Fs i) S y = some (.int .u8 b)) (hr : ∀ w, (do eqGuard .sub t x y (.int .u8 a) (.int .u8 b); binOp .sub t (.int .u8 a) (.int .u8 b) : Sem Value).run P w = .ok (.int .u8 (IntKind.u8.wrap (a - b))) w) (h : 0 ≤ a - b ∧ a - b ≤ 255) (hw : (Fs i).sw d = true)
    (k : runX Fs P T cf ops (i + 1) rest (S.put d (some (.g (.one (.v (.int .u8 (a - b))))))) K) : runA Fs P T cf ops i ⟨some d, .binOp .sub t x y yt, ty, pos, af, g⟩ rest S K := by
  refine r_pure2 hx hy (r := .int .u8 (a - b)) (fun w => ?_) rfl hw k
  rw [hr w]
  have e : IntKind.u8.wrap (a - b) = a - b := by
    simp [IntKind.wrap, IntKind.bits, IntKind.signed]
    omega
  rw [e]
/-- A byte as a number. -/
theorem r_b2i {s t : TypeId} {n : Int} (hx : rdV (Fs i) S x = some (.int .u8 n)) (hr : ∀ w, (convert s t (.int .u8 n)).run P w = .ok (.int .i64 (IntKind.i64.wrap n)) w) (h : 0 ≤ n ∧ n ≤ 255) (hw : (Fs i).sw d = true)
    (k : runX Fs P T cf ops (i + 1) rest (S.put d (some (vI n))) K) : runA Fs P T cf ops i ⟨some d, .convert s t x, ty, pos, af, g⟩ rest S K := by
  refine r_convert hx (r := .int .i64 n) (fun w => ?_) rfl hw k
  rw [hr w, IntWalk.i64_in _ (by omega)]
end
end Go.Proofs.YtgphlcdinejmdaaGreatDoor

/- Texts cut at a byte; digits read. No program is named. -/
namespace Go.Proofs.YtgphlcdinejmdaaGreatDoor
set_option linter.unusedVariables false
open Go.Lib (decDigits splitK index count atoiAll)
/-- What stands between the bytes c of a text, behind what was read of the first piece. -/
def cutA (c : UInt8) (acc : List UInt8) : List UInt8 → List (List UInt8)
  | [] => [acc]
  | b :: l => if b == c then acc :: cutA c [] l else cutA c (acc ++ [b]) l
theorem cutA_len (c : UInt8) : ∀ (l acc : List UInt8), 1 ≤ (cutA c acc l).length ∧ (cutA c acc l).length ≤ l.length + 1
  | [], acc => by simp [cutA]
  | b :: l, acc => by
    rw [cutA]
    split
    · have := cutA_len c l []; simp; omega
    · have := cutA_len c l (acc ++ [b]); simp; omega
theorem cutA_end {c : UInt8} : ∀ {a acc : List UInt8}, a.contains c = false → cutA c acc a = [acc ++ a]
  | [], acc, _ => by simp [cutA]
  | b :: a, acc, h => by
    simp only [List.contains_cons, Bool.or_eq_false_iff] at h
    have hb : (b == c) = false := by rw [beq_eq_false_iff_ne] at h ⊢; exact fun e => h.1 e.symm
    rw [cutA, hb, if_neg (by decide), cutA_end h.2]
    simp
theorem cutA_app {c : UInt8} {r : List UInt8} : ∀ {a acc : List UInt8}, a.contains c = false → cutA c acc (a ++ c :: r) = (acc ++ a) :: cutA c [] r
  | [], acc, _ => by simp [cutA]
  | b :: a, acc, h => by
    simp only [List.contains_cons, Bool.or_eq_false_iff] at h
    have hb : (b == c) = false := by rw [beq_eq_false_iff_ne] at h ⊢; exact fun e => h.1 e.symm
    rw [List.cons_append, cutA, hb, if_neg (by decide), cutA_app h.2]
    simp
/-- One byte more behind. -/
theorem cutA_snoc (c : UInt8) : ∀ (l acc : List UInt8), cutA c acc (l ++ [c]) = cutA c acc l ++ [[]]
  | [], acc => by simp [cutA]
  | b :: l, acc => by
    rw [List.cons_append, cutA, cutA]
    split
    · rw [cutA_snoc c l []]; rfl
    · exact cutA_snoc c l _
theorem idx_cons (b c : UInt8) (l : List UInt8) : index (b :: l) [c] = if b == c then 0 else if index l [c] == -1 then -1 else index l [c] + 1 := by
  rw [index]
  have e : ([c].isPrefixOf (b :: l)) = (b == c) := by
    show ((c == b) && ([] : List UInt8).isPrefixOf l) = (b == c)
    rw [show ([] : List UInt8).isPrefixOf l = true from rfl, Bool.and_true]
    rw [Bool.eq_iff_iff, beq_iff_eq, beq_iff_eq]
    exact ⟨Eq.symm, Eq.symm⟩
  rw [e]
theorem cut_idx (c : UInt8) : ∀ (s acc : List UInt8), (index s [c] = -1 ∧ cutA c acc s = [acc ++ s]) ∨ (∃ i : Nat, index s [c] = (i : Int) ∧ i < s.length ∧ cutA c acc s = (acc ++ s.take i) :: cutA c [] (s.drop (i + 1)))
  | [], acc => .inl ⟨rfl, by simp [cutA]⟩
  | b :: s, acc => by
    rw [idx_cons, cutA]
    by_cases hb : (b == c) = true
    · rw [if_pos hb, if_pos hb]
      exact .inr ⟨0, rfl, by simp, by simp⟩
    · rw [if_neg hb, if_neg hb]
      rcases cut_idx c s (acc ++ [b]) with ⟨h1, h2⟩ | ⟨i, h1, h2, h3⟩
      · refine .inl ⟨?_, ?_⟩
        · rw [h1]; rfl
        · rw [h2]; simp
      · refine .inr ⟨i + 1, ?_, by simp; omega, ?_⟩
        · rw [h1, if_neg (by simp)]; simp
        · rw [h3]; simp
theorem split_cut (c : UInt8) : ∀ (n : Nat) (s : List UInt8), s.length ≤ n → splitK [c] 0 (count s [c]) s = cutA c [] s
  | 0, s, h => by
    have : s = [] := List.eq_nil_of_length_eq_zero (by omega)
    subst this
    have h1 : index [] [c] = -1 := rfl
    rw [Go.Lib.count_miss h1]
    rfl
  | n + 1, s, h => by
    rcases cut_idx c s [] with ⟨h1, h2⟩ | ⟨i, h1, h2, h3⟩
    · rw [Go.Lib.count_miss h1, h2]; rfl
    · rw [Go.Lib.count_hit (by simp) h1, Nat.add_comm, splitK, if_neg (by rw [h1]; simp), h3, h1]
      rw [show ((i : Int)).toNat = i from rfl, List.length_singleton, Nat.add_zero, List.nil_append]
      rw [split_cut c n (s.drop (i + 1)) (by rw [List.length_drop]; omega)]
/-- The digits of a number below 100. -/
def dd2 (n : Nat) : List UInt8 := if n < 10 then [UInt8.ofNat (48 + n)] else [UInt8.ofNat (48 + n / 10), UInt8.ofNat (48 + n % 10)]
theorem dd2_eq {n : Nat} (h : n < 100) : decDigits n = dd2 n := by
  unfold dd2
  split
  · rename_i h1; exact Go.Lib.decDigits_one h1
  · rename_i h1; exact Go.Lib.decDigits_two h1 h
/-- The number that digits tell, behind a number. -/
def dgA : Int → List UInt8 → Int
  | n, [] => n
  | n, b :: l => if b < 48 || b > 57 then -1 else dgA (10 * n + ((b.toNat : Int) - 48)) l
/-- The number of a text of one to four digits, without leading zeros. -/
def dgs (s : List UInt8) : Int := if !(decide (1 ≤ s.length) && decide (s.length ≤ 4)) || (decide (1 < s.length) && s.getD 0 0 == 48) then -1 else dgA 0 s
def okI : Go.Lib.NumEnd Int → Int → Bool
  | .ok v, n => v == n
  | _, _ => false
theorem okI_t {x : Go.Lib.NumEnd Int} {n : Int} (h : okI x n = true) : x = .ok n := by
  cases x with
  | ok v => simp only [okI, beq_iff_eq] at h; rw [h]
  | range => cases h
  | _ => cases h
theorem dd2_all : ∀ n : Fin 100, (dgs (dd2 n.val) == (n.val : Int)) && (okI (atoiAll (dd2 n.val)) (n.val : Int)) && !((dd2 n.val).contains 32) && decide (1 ≤ (dd2 n.val).length) && decide ((dd2 n.val).length ≤ 2) = true := by decide +kernel
theorem dd2_of {n : Nat} (h : n < 100) : dgs (decDigits n) = (n : Int) ∧ atoiAll (decDigits n) = .ok (n : Int) ∧ (decDigits n).contains 32 = false ∧ 1 ≤ (decDigits n).length ∧ (decDigits n).length ≤ 2 := by
  have := dd2_all ⟨n, h⟩
  simp only [Bool.and_eq_true, beq_iff_eq, Bool.not_eq_true', decide_eq_true_eq] at this
  rw [dd2_eq h]
  exact ⟨this.1.1.1.1, okI_t this.1.1.1.2, this.1.1.2, this.1.2, this.2⟩
end Go.Proofs.YtgphlcdinejmdaaGreatDoor

/- Texts of gates; which gate a text is of. -/
namespace Go.Proofs.YtgphlcdinejmdaaGreatDoor
set_option linter.unusedVariables false
set_option linter.unusedSimpArgs false
open Go.Lib (decDigits)
/-- The names of the kinds. -/
def gnm (k : Int) : List UInt8 := if k = 0 then [110, 111, 116] else if k = 1 then [99, 111, 112, 121] else if k = 2 then [98, 111, 116, 104] else if k = 3 then [115, 119, 97, 112] else [105, 102]
abbrev dx (x : Int) : List UInt8 := decDigits x.toNat
def gtT (g : Gt) : List UInt8 :=
  if g.k = 0 then gnm 0 ++ [32] ++ dx g.a
  else if g.k = 1 ∨ g.k = 3 then gnm g.k ++ [32] ++ dx g.a ++ [32] ++ dx g.b
  else gnm g.k ++ [32] ++ dx g.a ++ [32] ++ dx g.b ++ [32] ++ dx g.c
def gtW (g : Gt) : List (List UInt8) :=
  if g.k = 0 then [gnm 0, dx g.a]
  else if g.k = 1 ∨ g.k = 3 then [gnm g.k, dx g.a, dx g.b]
  else [gnm g.k, dx g.a, dx g.b, dx g.c]
def gtx (g : Gt) : List UInt8 := if gok 8 g = true then gtT g else []
def GOk (s : List UInt8) (g : Gt) : Prop := gok 8 g = true ∧ gtT g = s
theorem gnm_no (k : Int) : (gnm k).contains 32 = false := by
  unfold gnm
  repeat (split; rfl)
  rfl
theorem gnm_len (k : Int) : 2 ≤ (gnm k).length ∧ (gnm k).length ≤ 4 := by
  unfold gnm
  repeat (split; decide)
  decide
theorem gnm_inj5 : ∀ i j : Fin 5, (gnm (i.val : Int) == gnm (j.val : Int)) = (i == j) := by decide +kernel
theorem gnm_inj {k k' : Int} (h : 0 ≤ k ∧ k ≤ 4) (h' : 0 ≤ k' ∧ k' ≤ 4) (e : gnm k = gnm k') : k = k' := by
  have := gnm_inj5 ⟨k.toNat, by omega⟩ ⟨k'.toNat, by omega⟩
  dsimp only at this
  rw [show ((k.toNat : Nat) : Int) = k by omega, show ((k'.toNat : Nat) : Int) = k' by omega, e, beq_self_eq_true] at this
  have h2 := eq_of_beq this.symm
  have h3 := congrArg Fin.val h2
  dsimp only at h3
  omega
/-- One digit. -/
theorem dx1_all : ∀ n : Fin 10, ((dx (n.val : Int)) == [UInt8.ofNat (48 + n.val)]) && decide (((UInt8.ofNat (48 + n.val)).toNat : Int) - 48 = (n.val : Int)) = true := by decide +kernel
theorem dx1 {x : Int} (h : 0 ≤ x ∧ x ≤ 9) : dx x = [UInt8.ofNat (48 + x.toNat)] ∧ (((UInt8.ofNat (48 + x.toNat)).toNat : Int) - 48 = x) := by
  have := dx1_all ⟨x.toNat, by omega⟩
  dsimp only at this
  rw [show ((x.toNat : Nat) : Int) = x by omega, Bool.and_eq_true, beq_iff_eq] at this
  refine ⟨this.1, ?_⟩
  simpa using this.2
theorem dx_no {x : Int} (h : 0 ≤ x ∧ x < 100) : (dx x).contains 32 = false := (dd2_of (n := x.toNat) (by omega)).2.2.1
theorem dx_dg {x : Int} (h : 0 ≤ x ∧ x < 100) : dgs (dx x) = x := by
  have := (dd2_of (n := x.toNat) (by omega)).1
  rw [this]; omega
theorem dx_inj {x y : Int} (h : 0 ≤ x ∧ x < 100) (h' : 0 ≤ y ∧ y < 100) (e : dx x = dx y) : x = y := by
  rw [← dx_dg h, ← dx_dg h', e]
theorem cut4 {a b c d : List UInt8} (ha : a.contains 32 = false) (hb : b.contains 32 = false) (hc : c.contains 32 = false) (hd : d.contains 32 = false) : cutA 32 [] (a ++ [32] ++ b ++ [32] ++ c ++ [32] ++ d) = [a, b, c, d] := by
  rw [show a ++ [32] ++ b ++ [32] ++ c ++ [32] ++ d = a ++ 32 :: (b ++ 32 :: (c ++ 32 :: d)) by simp, cutA_app ha, cutA_app hb, cutA_app hc, cutA_end hd]; rfl
theorem cut3 {a b c : List UInt8} (ha : a.contains 32 = false) (hb : b.contains 32 = false) (hc : c.contains 32 = false) : cutA 32 [] (a ++ [32] ++ b ++ [32] ++ c) = [a, b, c] := by
  rw [show a ++ [32] ++ b ++ [32] ++ c = a ++ 32 :: (b ++ 32 :: c) by simp, cutA_app ha, cutA_app hb, cutA_end hc]; rfl
theorem cut2 {a b : List UInt8} (ha : a.contains 32 = false) (hb : b.contains 32 = false) : cutA 32 [] (a ++ [32] ++ b) = [a, b] := by
  rw [show a ++ [32] ++ b = a ++ 32 :: b by simp, cutA_app ha, cutA_end hb]; rfl
theorem gtT_cut {g : Gt} (h : gok 8 g = true) : cutA 32 [] (gtT g) = gtW g := by
  obtain ⟨_, _, ha, hb, hc⟩ := gok_bd h
  unfold gtT gtW
  split
  · exact cut2 (gnm_no 0) (dx_no (by omega))
  split
  · exact cut3 (gnm_no _) (dx_no (by omega)) (dx_no (by omega))
  · exact cut4 (gnm_no _) (dx_no (by omega)) (dx_no (by omega)) (dx_no (by omega))
theorem gtW_head (g : Gt) : (gtW g).getD 0 [] = gnm g.k := by
  unfold gtW
  split
  · rename_i h; rw [h]; rfl
  split <;> rfl
theorem gtT_ne (g : Gt) : gtT g ≠ [] := by
  intro e
  have e2 := congrArg List.length e
  unfold gtT at e2
  split at e2
  · simp at e2
  split at e2 <;> simp at e2
theorem gtT_len {g : Gt} (h : gok 8 g = true) : 4 ≤ (gtT g).length ∧ (gtT g).length ≤ 10 := by
  obtain ⟨_, _, ha, hb, hc⟩ := gok_bd h
  have hl := gnm_len g.k
  have h0 := gnm_len 0
  have e1 := congrArg List.length (dx1 (x := g.a) (by omega)).1
  have e2 := congrArg List.length (dx1 (x := g.b) (by omega)).1
  have e3 := congrArg List.length (dx1 (x := g.c) (by omega)).1
  simp only [List.length_cons, List.length_nil] at e1 e2 e3
  unfold gtT
  split
  · simp only [List.length_append, List.length_cons, List.length_nil, e1]; omega
  split
  · simp only [List.length_append, List.length_cons, List.length_nil, e1, e2]; omega
  · simp only [List.length_append, List.length_cons, List.length_nil, e1, e2, e3]; omega
theorem gtx_eq {s : List UInt8} (hs : s ≠ []) {g : Gt} : (gtx g == s) = true ↔ GOk s g := by
  unfold gtx GOk
  rw [beq_iff_eq]
  cases h : gok 8 g with
  | true => rw [if_pos rfl]; simp
  | false => rw [if_neg (by decide)]; simp; exact fun e => hs e
/-- What stands at a place of the words, read by its digits, or by its one byte. -/
def wdD (ws : List (List UInt8)) (i : Nat) : Int := if i < ws.length then dgs (ws.getD i []) else 0
def wdO (ws : List (List UInt8)) (i : Nat) : Int := if i < ws.length ∧ (ws.getD i []).length = 1 then (((ws.getD i []).getD 0 0).toNat : Int) - 48 else 0
def kfd (w : List UInt8) : Int := if w = gnm 0 then 0 else if w = gnm 1 then 1 else if w = gnm 2 then 2 else if w = gnm 3 then 3 else if w = gnm 4 then 4 else -1
def rdS (s : List UInt8) : Gt := ⟨kfd ((cutA 32 [] s).getD 0 []), wdD (cutA 32 [] s) 1, wdD (cutA 32 [] s) 2, wdD (cutA 32 [] s) 3⟩
def rdI (k : Int) (s : List UInt8) : Gt := ⟨k, wdO (cutA 32 [] s) 1, wdO (cutA 32 [] s) 2, wdO (cutA 32 [] s) 3⟩
theorem kfd_all : ∀ i : Fin 5, (kfd (gnm (i.val : Int)) == (i.val : Int)) = true := by decide +kernel
theorem kfd_of {k : Int} (h : 0 ≤ k ∧ k ≤ 4) : kfd (gnm k) = k := by
  have := kfd_all ⟨k.toNat, by omega⟩
  dsimp only at this
  rw [show ((k.toNat : Nat) : Int) = k by omega, beq_iff_eq] at this
  exact this
theorem wdD_at {ws : List (List UInt8)} {i : Nat} {x : Int} (hi : i < ws.length) (e : ws.getD i [] = dx x) (h : 0 ≤ x ∧ x ≤ 9) : wdD ws i = x := by
  unfold wdD
  rw [if_pos hi, e, dx_dg (by omega)]
theorem wdO_at {ws : List (List UInt8)} {i : Nat} {x : Int} (hi : i < ws.length) (e : ws.getD i [] = dx x) (h : 0 ≤ x ∧ x ≤ 9) : wdO ws i = x := by
  obtain ⟨h1, h2⟩ := dx1 h
  unfold wdO
  rw [e, h1, if_pos ⟨hi, rfl⟩]
  exact h2
theorem wdD_no {ws : List (List UInt8)} {i : Nat} (hi : ws.length ≤ i) : wdD ws i = 0 := if_neg (by omega)
theorem wdO_no {ws : List (List UInt8)} {i : Nat} (hi : ws.length ≤ i) : wdO ws i = 0 := if_neg (by omega)
/-- Both readers find the gate that a text is of. -/
theorem gk_rd {s : List UInt8} {g : Gt} (h : GOk s g) : rdS s = g ∧ rdI g.k s = g ∧ (cutA 32 [] s).getD 0 [] = gnm g.k := by
  have hw := gtT_cut h.1
  rw [h.2] at hw
  obtain ⟨_, hk, _⟩ := gok_bd h.1
  obtain ⟨_, hf⟩ := gok_facts h.1
  have hh := gtW_head g
  unfold rdS rdI
  rw [hw, hh, kfd_of hk]
  obtain ⟨k, a, b, c⟩ := g
  dsimp only at hk hf hh ⊢
  rcases hf with ⟨rfl, ha, rfl, rfl⟩ | ⟨hk2, ha, hb, _, rfl⟩ | ⟨hk2, ha, hb, hc, _⟩
  · have e : gtW ⟨0, a, 0, 0⟩ = [gnm 0, dx a] := rfl
    rw [e, wdD_at (x := a) (i := 1) (by simp) rfl (by omega), wdO_at (x := a) (i := 1) (by simp) rfl (by omega), wdD_no (i := 2) (by simp), wdO_no (i := 2) (by simp), wdD_no (i := 3) (by simp), wdO_no (i := 3) (by simp)]
    exact ⟨rfl, rfl, rfl⟩
  · have e : gtW ⟨k, a, b, 0⟩ = [gnm k, dx a, dx b] := by
      unfold gtW; dsimp only; rw [if_neg (by omega), if_pos (by omega)]
    rw [e, wdD_at (x := a) (i := 1) (by simp) rfl (by omega), wdO_at (x := a) (i := 1) (by simp) rfl (by omega), wdD_at (x := b) (i := 2) (by simp) rfl (by omega), wdO_at (x := b) (i := 2) (by simp) rfl (by omega), wdD_no (i := 3) (by simp), wdO_no (i := 3) (by simp)]
    exact ⟨rfl, rfl, rfl⟩
  · have e : gtW ⟨k, a, b, c⟩ = [gnm k, dx a, dx b, dx c] := by
      unfold gtW; dsimp only; rw [if_neg (by omega), if_neg (by omega)]
    rw [e, wdD_at (x := a) (i := 1) (by simp) rfl (by omega), wdO_at (x := a) (i := 1) (by simp) rfl (by omega), wdD_at (x := b) (i := 2) (by simp) rfl (by omega), wdO_at (x := b) (i := 2) (by simp) rfl (by omega), wdD_at (x := c) (i := 3) (by simp) rfl (by omega), wdO_at (x := c) (i := 3) (by simp) rfl (by omega)]
    exact ⟨rfl, rfl, rfl⟩
theorem gk_uni {s : List UInt8} {g g' : Gt} (h : GOk s g) (h' : GOk s g') : g = g' := (gk_rd h).1.symm.trans (gk_rd h').1
end Go.Proofs.YtgphlcdinejmdaaGreatDoor

/- Texts of deeds; which deed a text is of. -/
namespace Go.Proofs.YtgphlcdinejmdaaGreatDoor
set_option linter.unusedVariables false
set_option linter.unusedSimpArgs false
open Go.Lib (decDigits)
abbrev g0 : Gt := ⟨0, 0, 0, 0⟩
/-- The words with which deeds' texts begin. -/
def dnm (k : Int) : List UInt8 := if k = 0 then [102, 111, 114, 116, 104] else if k = 1 then [98, 97, 99, 107] else if k = 2 then [112, 117, 116] else if k = 3 then [116, 97, 107, 101] else [115, 104, 111, 114, 116]
def dtx (k n : Int) (p : Gt) : List UInt8 :=
  if k = 0 ∨ k = 1 then (if p = g0 ∧ 1 ≤ n ∧ n ≤ 99 then dnm k ++ [32] ++ dx n else [])
  else if k = 2 then (if n = 0 ∧ gok 8 p = true then dnm 2 ++ [32] ++ gtT p else [])
  else if k = 3 ∨ k = 4 then (if n = 0 ∧ p = g0 then dnm k else [])
  else []
/-- A text of a deed. -/
def DOk (s : List UInt8) (k n : Int) (p : Gt) : Prop := dtx k n p = s ∧ s ≠ []
theorem dnm_no (k : Int) : (dnm k).contains 32 = false := by
  unfold dnm
  repeat (split; rfl)
  rfl
theorem dnm_len (k : Int) : 3 ≤ (dnm k).length ∧ (dnm k).length ≤ 5 := by
  unfold dnm
  repeat (split; decide)
  decide
theorem dnm_inj5 : ∀ i j : Fin 5, (dnm (i.val : Int) == dnm (j.val : Int)) = (i == j) := by decide +kernel
theorem dnm_inj {k k' : Int} (h : 0 ≤ k ∧ k ≤ 4) (h' : 0 ≤ k' ∧ k' ≤ 4) (e : dnm k = dnm k') : k = k' := by
  have := dnm_inj5 ⟨k.toNat, by omega⟩ ⟨k'.toNat, by omega⟩
  dsimp only at this
  rw [show ((k.toNat : Nat) : Int) = k by omega, show ((k'.toNat : Nat) : Int) = k' by omega, e, beq_self_eq_true] at this
  have h2 := eq_of_beq this.symm
  have h3 := congrArg Fin.val h2
  dsimp only at h3
  omega
theorem d_cases {s : List UInt8} {k n : Int} {p : Gt} (h : DOk s k n p) :
    ((k = 0 ∨ k = 1) ∧ p = g0 ∧ (1 ≤ n ∧ n ≤ 99) ∧ s = dnm k ++ 32 :: dx n ∧ cutA 32 [] s = [dnm k, dx n]) ∨
    (k = 2 ∧ n = 0 ∧ gok 8 p = true ∧ s = dnm 2 ++ 32 :: gtT p ∧ cutA 32 [] s = dnm 2 :: gtW p) ∨
    ((k = 3 ∨ k = 4) ∧ n = 0 ∧ p = g0 ∧ s = dnm k ∧ cutA 32 [] s = [dnm k]) := by
  obtain ⟨h, hne⟩ := h
  unfold dtx at h
  split at h
  · rename_i hk
    split at h
    · rename_i hc
      refine .inl ⟨hk, hc.1, hc.2, by rw [← h]; simp, ?_⟩
      rw [← h]
      exact cut2 (dnm_no k) (dx_no (by omega))
    · exact absurd h.symm hne
  split at h
  · rename_i hk
    split at h
    · rename_i hc
      refine .inr (.inl ⟨hk, hc.1, hc.2, by rw [← h]; simp, ?_⟩)
      rw [← h, show dnm 2 ++ [32] ++ gtT p = dnm 2 ++ 32 :: gtT p by simp, cutA_app (dnm_no 2), gtT_cut hc.2]
      rfl
    · exact absurd h.symm hne
  split at h
  · rename_i hk
    split at h
    · rename_i hc
      refine .inr (.inr ⟨hk, hc.1, hc.2, h.symm, ?_⟩)
      rw [← h, cutA_end (dnm_no k)]
      rfl
    · exact absurd h.symm hne
  · exact absurd h.symm hne
theorem d_kind {s : List UInt8} {k n : Int} {p : Gt} (h : DOk s k n p) : 0 ≤ k ∧ k ≤ 4 := by
  rcases d_cases h with ⟨hk, _⟩ | ⟨hk, _⟩ | ⟨hk, _⟩ <;> omega
theorem d_head {s : List UInt8} {k n : Int} {p : Gt} (h : DOk s k n p) : (cutA 32 [] s).getD 0 [] = dnm k := by
  rcases d_cases h with ⟨_, _, _, _, e⟩ | ⟨rfl, _, _, _, e⟩ | ⟨_, _, _, _, e⟩ <;> rw [e] <;> rfl
theorem d_uni {s : List UInt8} {k n k' n' : Int} {p p' : Gt} (h : DOk s k n p) (h' : DOk s k' n' p') : k = k' ∧ n = n' ∧ p = p' := by
  have hk := dnm_inj (d_kind h) (d_kind h') ((d_head h).symm.trans (d_head h'))
  subst hk
  rcases d_cases h with ⟨hk, hp, hn, e, _⟩ | ⟨hk, hn, hp, e, _⟩ | ⟨hk, hn, hp, e, _⟩ <;> rcases d_cases h' with ⟨hk2, hp2, hn2, e2, _⟩ | ⟨hk2, hn2, hp2, e2, _⟩ | ⟨hk2, hn2, hp2, e2, _⟩
  all_goals first
    | (exfalso; omega)
    | skip
  · rw [e] at e2
    have e3 := List.append_cancel_left e2
    injection e3 with _ e4
    exact ⟨rfl, dx_inj (by omega) (by omega) e4, by rw [hp, hp2]⟩
  · rw [e] at e2
    have e3 := List.append_cancel_left e2
    injection e3 with _ e4
    exact ⟨rfl, by omega, gk_uni ⟨hp, e4⟩ ⟨hp2, rfl⟩⟩
  · exact ⟨rfl, by omega, by rw [hp, hp2]⟩
theorem dtx_eq {s : List UInt8} (hs : s ≠ []) {k n : Int} {p : Gt} : (dtx k n p == s) = true ↔ DOk s k n p := by
  rw [beq_iff_eq]
  exact ⟨fun h => ⟨h, hs⟩, fun h => h.1⟩
theorem dtx_len (k n : Int) (p : Gt) : (dtx k n p).length ≤ 20 := by
  have hl := dnm_len k
  have h2 := dnm_len 2
  unfold dtx
  split
  · split
    · rename_i hc
      have : 1 ≤ (dx n).length ∧ (dx n).length ≤ 2 := (dd2_of (n := n.toNat) (by omega)).2.2.2
      simp only [List.length_append, List.length_cons, List.length_nil]; omega
    · simp
  split
  · split
    · rename_i hc
      have := gtT_len hc.2
      simp only [List.length_append, List.length_cons, List.length_nil]; omega
    · simp
  split
  · split
    · omega
    · simp
  · simp
theorem d_snoc {s : List UInt8} {k n k' n' : Int} {p p' : Gt} (h : DOk s k n p) : ¬ DOk (s ++ [32]) k' n' p' := by
  intro h'
  have e1 : cutA 32 [] (s ++ [32]) = cutA 32 [] s ++ [[]] := cutA_snoc 32 s []
  have hne : ∀ x : Int, (1 ≤ x ∧ x ≤ 99) → dx x ≠ [] := fun x hx e => by
    have := (dd2_of (n := x.toNat) (by omega)).2.2.2.1
    rw [show decDigits x.toNat = [] from e] at this
    simp at this
  rcases d_cases h' with ⟨_, _, hn, _, e⟩ | ⟨_, _, hg, _, e⟩ | ⟨hk, _, _, _, e⟩
  · rw [e] at e1
    have e2 := congrArg List.getLast? e1
    rw [List.getLast?_append] at e2
    simp at e2
    exact hne _ hn e2
  · rw [e] at e1
    have e2 := congrArg List.getLast? e1
    rw [List.getLast?_append] at e2
    obtain ⟨_, _, ha, hb, hc⟩ := gok_bd hg
    have hn1 : ∀ x : Int, (0 ≤ x ∧ x ≤ 9) → dx x ≠ [] := fun x hx e => by rw [(dx1 hx).1] at e; cases e
    unfold gtW at e2
    split at e2
    · simp at e2; exact hn1 _ (by omega) e2
    split at e2
    · simp at e2; exact hn1 _ (by omega) e2
    · simp at e2; exact hn1 _ (by omega) e2
  · rw [e] at e1
    have e2 := congrArg List.length e1
    have := (cutA_len 32 s []).1
    rw [List.length_append] at e2
    simp only [List.length_cons, List.length_nil] at e2
    omega
end Go.Proofs.YtgphlcdinejmdaaGreatDoor

/- The kind whose name a word is, found one after the other; what both readers of gates answer. -/
namespace Go.Proofs.YtgphlcdinejmdaaGreatDoor
set_option linter.unusedVariables false
set_option linter.unusedSimpArgs false
open Go.Lib (decDigits)
/-- The last of the first kinds whose name a word is. -/
def kft (w : List UInt8) : Nat → Int
  | 0 => -1
  | j + 1 => if (w == gnm (j : Int)) = true then (j : Int) else kft w j
theorem kft_5 (w : List UInt8) : kft w 5 = kfd w := by
  have e : ∀ i : Nat, (w == gnm (i : Int)) = true ↔ w = gnm (i : Int) := fun i => beq_iff_eq
  unfold kfd
  simp only [kft, e]
  by_cases h0 : w = gnm 0
  · subst h0; decide
  by_cases h1 : w = gnm 1
  · subst h1; decide
  by_cases h2 : w = gnm 2
  · subst h2; decide
  by_cases h3 : w = gnm 3
  · subst h3; decide
  by_cases h4 : w = gnm 4
  · subst h4; decide
  rw [if_neg h0, if_neg h1, if_neg h2, if_neg h3, if_neg h4]
  rw [if_neg (show ¬ w = gnm ((4 : Nat) : Int) from h4), if_neg (show ¬ w = gnm ((3 : Nat) : Int) from h3), if_neg (show ¬ w = gnm ((2 : Nat) : Int) from h2), if_neg (show ¬ w = gnm ((1 : Nat) : Int) from h1), if_neg (show ¬ w = gnm ((0 : Nat) : Int) from h0)]
theorem no_gtx {s : List UInt8} (hs : s ≠ []) (h : ∀ g, ¬ GOk s g) (g : Gt) : (gtx g == s) = false := by
  rw [Bool.eq_false_iff]
  intro e
  exact h _ ((gtx_eq hs).1 e)
/-- The gate that a reader returns, and whether there is one. -/
def RG (s : List UInt8) (g : Gt) (b : Bool) : Prop := (b = true ∧ GOk s g) ∨ (b = false ∧ g = g0 ∧ ∀ g', ¬ GOk s g')
theorem gok_nil (g : Gt) : ¬ GOk [] g := fun h => gtT_ne g h.2
theorem rg_all (s : List UInt8) : ∃ g b, RG s g b := by
  by_cases h : ∃ g, GOk s g
  · obtain ⟨g, h⟩ := h; exact ⟨g, true, .inl ⟨rfl, h⟩⟩
  · exact ⟨g0, false, .inr ⟨rfl, rfl, fun g' hg => h ⟨g', hg⟩⟩⟩
end Go.Proofs.YtgphlcdinejmdaaGreatDoor

/- From a contract to a walk's words: what a call by a contract returns, with no own rows. -/
namespace Go.Proofs.YtgphlcdinejmdaaGreatDoor
set_option linter.unusedVariables false
open Go.RowKit
end Go.Proofs.YtgphlcdinejmdaaGreatDoor
