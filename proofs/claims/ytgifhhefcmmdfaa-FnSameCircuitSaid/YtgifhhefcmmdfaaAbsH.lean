/- The abstract run, eighth part: literals, made slices, pieces. No program is named. -/
import Derived.Test.YtgifhhefcmmdfaaAbsG
namespace Go.Proofs.Ytgifhhefcmmdfaa
set_option linter.unusedVariables false
open Go.RowKit

section
variable {P : Program} {T : Tab} {F : Ft} {S : St} {K : St → Prop} {w0 w w' : World} {M N : Nat → Prop} {b0 : Nat → Value} {nt : Nat} {β : Nat → Value} {tm : Array Value} {ds : List Deferred} {next : Act → World → Prop} {Q : Exit → Act → World → Prop} {o : Oper}
variable {cf : FuncId → Option (List AV → Option Tmp → AM)}
/-- The parts of a literal, abstractly and in fact. -/
def PsRep (w : World) (β : Nat → Value) (G : Blk) (ok : Nat → Prop) : List (Nat × AV) → List (Nat × Value) → Prop
  | [], [] => True
  | (i, a) :: as, (j, v) :: vs => i = j ∧ a.rep w β G ok v ∧ PsRep w β G ok as vs
  | _, _ => False
theorem getPs_run (hs : Sim w0 M N b0 nt β S w tm) : ∀ (l : List (Nat × Operand)) {k : List (Nat × AV) → AM}, (getPs l k).run F S K → ∃ as, (k as).run F S K ∧ PsRep w β S.G (okB w0 N β S.G w) as (l.map fun p => (p.1, Act.eval ⟨tm, ds⟩ p.2))
  | [], k, h => ⟨[], h, trivial⟩
  | (i, x) :: l, k, h => by
    obtain ⟨a, h, hr⟩ := getO_run (ds := ds) h hs
    obtain ⟨as, h, hrs⟩ := getPs_run hs l h
    exact ⟨(i, a) :: as, h, rfl, hr, hrs⟩
theorem foldl_set (off : Nat) : ∀ (l : List Value) (s : Nat) (vs : Array Value), off + s + l.length ≤ vs.size →
    ((l.zipIdx s).foldl (fun cs (c, j) => cs.setIfInBounds (off + j) c) vs).size = vs.size ∧ ∀ (j : Nat), ((l.zipIdx s).foldl (fun cs (c, j) => cs.setIfInBounds (off + j) c) vs)[j]? = if off + s ≤ j ∧ j < off + s + l.length then l[j - (off + s)]? else vs[j]?
  | [], s, vs, h => by simp; intro j h1 h2; omega
  | x :: l, s, vs, h => by
    simp only [List.length_cons] at h
    obtain ⟨h1, h2⟩ := foldl_set off l (s + 1) (vs.setIfInBounds (off + s) x) (by simp; omega)
    simp only [List.zipIdx_cons, List.foldl_cons]
    refine ⟨by rw [h1]; simp, fun j => ?_⟩
    rw [h2]
    by_cases e : j = off + s
    · subst e
      rw [if_neg (by omega), if_pos (by simp)]
      have : off + s < vs.size := by omega
      simp [this]
    · by_cases c : off + (s + 1) ≤ j ∧ j < off + (s + 1) + l.length
      · rw [if_pos c, if_pos (by simp only [List.length_cons]; omega)]
        have e2 : j - (off + s) = (j - (off + (s + 1))) + 1 := by omega
        rw [e2]; simp
      · rw [if_neg c, if_neg (by simp only [List.length_cons]; omega), Array.getElem?_setIfInBounds_ne (Ne.symm e)]
theorem fill_rep {ok : Nat → Prop} {G : Blk} (place : Nat → Option (Nat × Nat)) : ∀ (as : List (Nat × AV)) (vs : List (Nat × Value)) (cs cs' : List AC) (cells : Array Value), PsRep w β G ok as vs → fillA place cs as = some cs' → CsRep w β G ok cs cells →
    ∃ cells', Instr.fill place cells vs = some cells' ∧ CsRep w β G ok cs' cells'
  | [], [], cs, cs', cells, _, h, hc => by cases h; exact ⟨cells, rfl, hc⟩
  | (i, a) :: as, (j, v) :: vs, cs, cs', cells, hp, h, hc => by
    obtain ⟨rfl, hr, hp⟩ := hp
    unfold fillA at h
    split at h
    · rename_i off size ac hpl hac
      split at h
      · rename_i hcond
        obtain ⟨h1, h2⟩ := hcond
        obtain ⟨hcv, _⟩ := cellsOf_rep hac hr
        have e1 : v.cells.size = size := by rw [hcv.1, h1]
        have e2 : off + size ≤ cells.size := by rw [hc.1]; exact h2
        have hf := foldl_set off v.cells.toList 0 cells (by simp; omega)
        obtain ⟨f1, f2⟩ := hf
        have hzi : v.cells.zipIdx.foldl (fun cs (c, j) => cs.setIfInBounds (off + j) c) cells = (v.cells.toList.zipIdx 0).foldl (fun cs (c, j) => cs.setIfInBounds (off + j) c) cells := by
          rw [← Array.foldl_toList, Array.toList_zipIdx]
        obtain ⟨cells', g1, g2⟩ := fill_rep place as vs (splice cs off ac) cs' (v.cells.zipIdx.foldl (fun cs (c, j) => cs.setIfInBounds (off + j) c) cells) hp h (by
          rw [hzi]
          have hsl : off + ac.length ≤ cs.length := by omega
          refine ⟨by rw [f1, hc.1, splice_len hsl], fun j c hj => ?_⟩
          rw [splice_get hsl] at hj
          rw [f2]
          simp only [Nat.add_zero, Array.length_toList, hcv.1, Array.getElem?_toList]
          split at hj
          · rename_i hj2
            rw [if_pos hj2]; exact hcv.2 _ c hj
          · rename_i hj2
            rw [if_neg hj2]; exact hc.2 _ c hj)
        refine ⟨cells', ?_, g2⟩
        unfold Instr.fill
        rw [hpl]
        simp only
        rw [if_neg (by simp [e1]; omega)]
        exact g1
      · cases h
    · cases h
  | [], _ :: _, _, _, _, hp, _, _ => hp.elim
  | _ :: _, [], _, _, _, hp, _, _ => hp.elim
theorem s_build (hT : TabOk P T) {t : Nat} {ps : Array (Nat × Operand)} (ho : o.op = .build t ps) (h : (aop P T cf o).run F S K) (hs : Sim w0 M N b0 nt β S w tm) (hd : ∀ t, o.dst = some t → t < nt) (hn : Nx w0 M N b0 nt ds K next) : o.wp P ⟨tm, ds⟩ w next Q := by
  simp only [aop, ho] at h
  obtain ⟨as, h, hr⟩ := getPs_run (ds := ds) hs _ h
  obtain ⟨⟨z, places, esz⟩, hz, h⟩ := orFail_run h
  obtain ⟨cs, hcs, h⟩ := orFail_run h
  obtain ⟨h1, h2⟩ := hT.bld _ (find1_mem hz)
  have key : ∃ cells, P.built t (ps.map fun (i, x) => (i, Act.eval ⟨tm, ds⟩ x)).toList = some cells ∧ CsRep w β S.G (okB w0 N β S.G w) cs cells := by
    have e : (ps.map fun (i, x) => (i, Act.eval ⟨tm, ds⟩ x)).toList = ps.toList.map fun p => (p.1, Act.eval ⟨tm, ds⟩ p.2) := by simp
    rw [e]
    have e2 : ∀ (z1 : Value), z1.cells.toList = z → z1.cells = z.toArray := fun z1 hz1 => by rw [← hz1]
    unfold bldP at h1
    unfold Program.built
    split at h1
    · rename_i it n e' hit hu
      split at h1
      · rename_i z1 ie hz1 hie
        simp only [Option.some.injEq, Prod.mk.injEq] at h1
        obtain ⟨hz2, rfl, rfl⟩ := h1
        obtain ⟨cells, g1, g2⟩ := fill_rep (placeOf none ie.size) as _ _ _ z.toArray hr hcs (csRep_of h2)
        refine ⟨cells, ?_, g2⟩
        simp only [hit, hu, hz1, hie, e2 z1 hz2]
        exact g1
      · cases h1
    · rename_i it fields hit hu
      split at h1
      · rename_i z1 pl hz1 hpl
        simp only [Option.some.injEq, Prod.mk.injEq] at h1
        obtain ⟨hz2, rfl, rfl⟩ := h1
        obtain ⟨cells, g1, g2⟩ := fill_rep (placeOf (some pl) 0) as _ _ _ z.toArray hr hcs (csRep_of h2)
        refine ⟨cells, ?_, g2⟩
        simp only [hit, hu, hz1, hpl, e2 z1 hz2]
        have e3 : (fun x => pl.toArray[x]?) = placeOf (some pl) 0 := by funext i; simp [placeOf]
        rw [e3]; exact g1
      · cases h1
    · cases h1
  obtain ⟨cells, hb, hc⟩ := key
  refine wp_value (v := .agg cells) (w' := w) ?_ (putD_run h hs hd ⟨cells, rfl, hc⟩ hn)
  unfold execOp
  simp only [ho, Sem.run_bind, run_build w t _ cells hb, Result.andThen_ok, Sem.run_pure]
theorem zer_facts (hT : TabOk P T) {t : Nat} {z : List Value} (h : find1 T.zer t = some z) : ∃ i z1, P.info? t = some i ∧ i.zero = some z1 ∧ z1.cells = z.toArray ∧ z.all (·.oneCell') = true := by
  obtain ⟨h1, h2⟩ := hT.zer _ (find1_mem h)
  unfold zerP at h1
  dsimp only at h1
  split at h1
  · rename_i i hi
    split at h1
    · rename_i z' hz'
      have e1 : z'.cells.toList = z := Option.some.inj h1
      exact ⟨i, z', hi, hz', by rw [← e1], h2⟩
    · cases h1
  · cases h1
theorem flat_rep (z : List Value) (m : Nat) (hz : 0 < z.length) : ((Array.range (m * z.length)).map (z.toArray[· % z.toArray.size]!)).toList = (List.replicate m z).flatten := by
  apply List.ext_getElem?
  intro j
  simp only [Array.toList_map, List.getElem?_map, List.size_toArray]
  by_cases hj : j < m * z.length
  · have hm : j % z.length < z.length := Nat.mod_lt _ hz
    have e1 : (Array.range (m * z.length)).toList[j]? = some j := by simp [hj]
    rw [e1]
    have key : ∀ (m j : Nat), j < m * z.length → (List.replicate m z).flatten[j]? = z[j % z.length]? := by
      intro m
      induction m with
      | zero => intro j hj; simp at hj
      | succ m ih =>
        intro j hj
        rw [List.replicate_succ, List.flatten_cons, List.getElem?_append]
        split
        · rename_i hlt; rw [Nat.mod_eq_of_lt hlt]
        · rename_i hge
          rw [Nat.add_mul] at hj
          rw [ih _ (by omega), ← Nat.mod_eq_sub_mod (by omega)]
    rw [key m j hj]
    simp [hm]
  · have e1 : (Array.range (m * z.length)).toList[j]? = none := by simp; omega
    rw [e1]
    have e2 : (List.replicate m z).flatten.length = m * z.length := by simp
    simp only [Option.map_none]
    rw [List.getElem?_eq_none (by omega)]
theorem fin_row {d n c : Nat} {sz : Nat} {e : TypeId} {l : List Value} {cur : Array Value} (hs : Sim w0 M N b0 nt β S w tm) (hd : ∀ t, o.dst = some t → t < nt) (hn : Nx w0 M N b0 nt ds K next) (hdst : o.dst = some d)
    (h : (lay1 (nid d 0) (.row (some e) sz l) fun r => putD o.dst (.g (.one (.sl (nid d 0) r n)))).run F S K) (hone : l.all (·.oneCell') = true) (hl : l.length = n * sz) (hnc : n ≤ c) (hcm : c ≤ maxLen) (hcs : cur.size = c * sz) (htake : cur.toList.take (n * sz) = l)
    (he : (execOp (Act.eval ⟨tm, ds⟩) o).run P w = .ok (.value (.slice (some ⟨w.heap.size, 0, none⟩) n c)) (w.alloc (.cells cur e))) : o.wp P ⟨tm, ds⟩ w next Q := by
  obtain ⟨r, β', h1, h2, h3, h4, h5⟩ := lay1_run h hs (w' := w.alloc (.cells cur e)) (.slice (some ⟨w.heap.size, 0, none⟩) n c) trivial rfl rfl rfl (by simp) (fun k hk => Below.heap_alloc w (.cells cur e) k hk)
    (fun b hb => by cases hb; simp)
    (fun β' G' hok hold hβ => ⟨hone, e, n, fun x hx => by cases hx; rfl, hl, .inr ⟨w.heap.size, c, cur, hβ, Nat.zero_le _, heap_alloc_new w _, hnc, hcm, Nat.le_of_eq hcs.symm, htake⟩⟩)
  refine wp_value he (putD_run h1 h2 hd ⟨rfl, r, _, upd_same _ _ _, Nat.le_refl _, fun _ => ⟨_, n, c, h3, Nat.le_refl _, rfl⟩⟩ hn)
theorem rep_all {z : List Value} (h : z.all (·.oneCell') = true) (n : Nat) : (List.replicate n z).flatten.all (·.oneCell') = true := by
  rw [List.all_eq_true] at h ⊢
  intro x hx
  rw [List.mem_flatten] at hx
  obtain ⟨l, hl, hx⟩ := hx
  rw [List.eq_of_mem_replicate hl] at hx
  exact h x hx
theorem s_makeSlice (hT : TabOk P T) {t : Nat} {x y : Operand} (ho : o.op = .makeSlice t x y) (h : (aop P T cf o).run F S K) (hs : Sim w0 M N b0 nt β S w tm) (hd : ∀ t, o.dst = some t → t < nt) (hn : Nx w0 M N b0 nt ds K next) : o.wp P ⟨tm, ds⟩ w next Q := by
  simp only [aop, ho] at h
  obtain ⟨d, hdst, h⟩ := orFail_dst h
  have h := getV_run (ds := ds) (getV_run (ds := ds) h hs) hs
  obtain ⟨⟨arr, e, agg, sz, by'⟩, hl, h⟩ := orFail_run h
  obtain ⟨z, hz, h⟩ := orFail_run h
  obtain ⟨hu, hlay, hpos, i, hi, hby, hisz⟩ := elt_facts hT hl
  obtain ⟨i', z1, hi', hz1, hzc, hz2⟩ := zer_facts hT hz
  have ei : i' = i := by rw [hi] at hi'; exact (Option.some.inj hi').symm
  subst ei
  split at h
  · rename_i k n k' c hx hy
    obtain ⟨⟨rfl, hzl, h0, hnc, hcm, hbc⟩, h⟩ := h
    dsimp only at hzl hbc h hz hi'
    obtain ⟨n, rfl⟩ := Int.eq_ofNat_of_zero_le h0
    obtain ⟨c, rfl⟩ := Int.eq_ofNat_of_zero_le (show 0 ≤ c by omega)
    have hrun := run_make (P := P) w t e i' z1 hu hi hz1 k k' n c h0 hnc (by rw [hby]; exact hbc) hcm
    simp only [Int.toNat_natCast] at hrun h
    have hsz : (madeCells z1.cells (c * i'.size)).toList = (List.replicate c z).flatten := by
      rw [hisz, ← hzl]
      unfold madeCells
      rw [hzc]
      exact flat_rep z c (by omega)
    have hlen : ∀ m, (List.replicate m z).flatten.length = m * sz := by intro m; simp [hzl]
    refine fin_row hs hd hn hdst h (rep_all hz2 n) (hlen n) (by omega) (by unfold maxLen; omega) ?_ ?_ (cur := madeCells z1.cells (c * i'.size)) (c := c) ?_
    · rw [← Array.length_toList, hsz, hlen]
    · rw [hsz]
      have e1 : c = n + (c - n) := by omega
      rw [e1, ← List.replicate_append_replicate, List.flatten_append, ← hlen n, List.take_left]
    · unfold execOp
      simp only [ho, hx, hy, Sem.run_bind, hrun, Result.andThen_ok, Sem.run_pure]
  · exact h.elim
theorem s_buildSlice (hT : TabOk P T) {t n : Nat} {ps : Array (Nat × Operand)} (ho : o.op = .buildSlice t n ps) (h : (aop P T cf o).run F S K) (hs : Sim w0 M N b0 nt β S w tm) (hd : ∀ t, o.dst = some t → t < nt) (hn : Nx w0 M N b0 nt ds K next) : o.wp P ⟨tm, ds⟩ w next Q := by
  simp only [aop, ho] at h
  obtain ⟨d, hdst, h⟩ := orFail_dst h
  obtain ⟨as, h, hr⟩ := getPs_run (ds := ds) hs _ h
  obtain ⟨⟨arr, e, agg, sz, by'⟩, hl, h⟩ := orFail_run h
  obtain ⟨z, hz, h⟩ := orFail_run h
  obtain ⟨cs, hcs, h⟩ := orFail_run h
  obtain ⟨l, hpl, h⟩ := orFail_run h
  obtain ⟨⟨rfl, hzl, hb1, hb2⟩, hk⟩ := h
  dsimp only at hzl hb1 hz hk hcs
  obtain ⟨hu, hlay, hpos, i, hi, hby, hisz⟩ := elt_facts hT hl
  obtain ⟨i', z1, hi', hz1, hzc, hz2⟩ := zer_facts hT hz
  have ei : i' = i := by rw [hi] at hi'; exact (Option.some.inj hi').symm
  subst ei
  have hlen : ∀ m, (List.replicate m z).flatten.length = m * sz := by intro m; simp [hzl]
  obtain ⟨cells, g1, g2⟩ := fill_rep (fun i => some (i * sz, sz)) as _ _ _ (List.replicate n z).flatten.toArray hr hcs (csRep_of (rep_all hz2 n))
  have e3 := pcs_get hpl
  subst e3
  obtain ⟨q1, q2⟩ := csRep_map g2
  have hcl : l.length = n * sz := by
    have : ∀ (place : Nat → Option (Nat × Nat)) (as : List (Nat × AV)) (cs cs' : List AC), fillA place cs as = some cs' → cs'.length = cs.length := by
      intro place as
      induction as with
      | nil => intro cs cs' h; cases h; rfl
      | cons a as ih =>
        intro cs cs' h
        obtain ⟨i, a⟩ := a
        unfold fillA at h
        split at h
        · split at h
          · rename_i hcond
            rw [ih _ _ h, splice_len (by omega)]
          · cases h
        · cases h
    have := this _ _ _ _ hcs
    simp only [List.length_map] at this
    rw [this, hlen]
  refine fin_row hs hd hn hdst hk q2 hcl (Nat.le_refl _) (by unfold maxLen; omega) (cur := cells) ?_ ?_ ?_
  · rw [q1]; simpa using hcl
  · rw [q1]; simp only; rw [← hcl, List.take_length]
  · have ezero : ((Array.range (n * sz)).map (z.toArray[· % z.toArray.size]!)) = (List.replicate n z).flatten.toArray := by
      apply Array.ext'
      rw [← hzl]
      exact flat_rep z n (by omega)
    have hp : (ps.map fun (i, x) => (i, Act.eval ⟨tm, ds⟩ x)).toList = ps.toList.map fun p => (p.1, Act.eval ⟨tm, ds⟩ p.2) := by simp
    have hsz : (sizeOf e).run P w = .ok sz w := (run_isAgg hlay w).2
    have hb3 : ¬ (n * sz > 2 ^ 24) := by omega
    unfold execOp
    by_cases hz0 : n * sz = 0
    · have hz0' : n = 0 ∨ sz = 0 := Nat.mul_eq_zero.1 hz0
      have hn0 : n = 0 := by omega
      have g1' : Instr.fill (fun i => some (i * sz, sz)) #[] (ps.map fun (i, x) => (i, Act.eval ⟨tm, ds⟩ x)).toList = some cells := by
        rw [hp, ← g1]
        subst hn0
        rfl
      have er : (Array.range (n * sz)).map ((#[] : Array Value)[· % (#[] : Array Value).size]!) = #[] := Array.eq_empty_of_size_eq_zero (by simp [hz0])
      simp only [ho, Instr.buildSlice, Sem.run_bind, run_underlying hu, Result.andThen_ok, hsz, hz0, if_true, Sem.run_pure, Sem.run_ite]
      rw [hz0] at er
      simp only [er, g1', Sem.run_bind, newRow, run_newObj, Result.andThen_ok, Sem.run_pure]
      rfl
    · have hzv : (zeroValue e).run P w = .ok z1 w := by simp [zeroValue, typeInfo, hi, hz1]
      have g1' : Instr.fill (fun i => some (i * sz, sz)) ((Array.range (n * sz)).map (z1.cells[· % z1.cells.size]!)) (ps.map fun (i, x) => (i, Act.eval ⟨tm, ds⟩ x)).toList = some cells := by
        rw [hp, hzc, ezero]; exact g1
      simp only [ho, Instr.buildSlice, Sem.run_bind, run_underlying hu, Result.andThen_ok, hsz, Sem.run_pure, Sem.run_ite]
      rw [if_neg hb3, if_neg hz0]
      simp only [Result.andThen_ok, hzv, g1', Sem.run_bind, newRow, run_newObj, Sem.run_pure]
      rfl
end
end Go.Proofs.Ytgifhhefcmmdfaa
