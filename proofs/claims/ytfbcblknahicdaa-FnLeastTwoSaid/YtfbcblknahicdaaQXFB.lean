/- AbsH, AbsI, AbsJ, AbsK, AbsL: laid into one text. -/
import Derived.Test.YtfbcblknahicdaaQXFA
import Derived.Maps.AppendAt

namespace Go.Proofs.Ytfbcblknahicdaa
set_option linter.unusedVariables false
open Go.RowKit
section
variable {P : Program} {T : Tab} {F : Ft} {S : St} {K : St → Prop} {w0 w w' : World} {M N : Nat → Prop} {b0 : Nat → Value} {nt : Nat} {β : Nat → Value} {tm : Array Value} {ds : List Deferred} {next : Act → World → Prop} {Q : Exit → Act → World → Prop} {o : Oper}
variable {cf : FuncId → Option (List AV → Option Tmp → AM)}
def PsRep (w : World) (β : Nat → Value) (G : Blk) (ok : Nat → Prop) : List (Nat × AV) → List (Nat × Value) → Prop
  | [], [] => True
  | (i, a) :: as, (j, v) :: vs => i = j ∧ a.rep w β G ok v ∧ PsRep w β G ok as vs
  | _, _ => False
theorem getPs_run (hs : Sim w0 M N b0 nt β S w tm) : ∀ (l : List (Nat × Operand)) {k : List (Nat × AV) → AM}, (getPs l k).run F S K → ∃ as, (k as).run F S K ∧ PsRep w β S.G (okB w0 N β S.G w) as (l.map fun p => (p.1, Act.eval ⟨tm, ds⟩ p.2))
  | [], k, h => ⟨[], h, trivial⟩
  | (i, x) :: l, k, h => by
    obtain ⟨a, h, hr⟩ := getO_run (ds := ds) h hs
    obtain ⟨as, h, hrs⟩ := getPs_run hs l h
    exact ⟨(i, a) :: as, h, rfl, hr, hrs⟩
theorem foldl_set (off : Nat) : ∀ (l : List Value) (s : Nat) (vs : Array Value), off + s + l.length ≤ vs.size →
    ((l.zipIdx s).foldl (fun cs (c, j) => cs.setIfInBounds (off + j) c) vs).size = vs.size ∧ ∀ (j : Nat), ((l.zipIdx s).foldl (fun cs (c, j) => cs.setIfInBounds (off + j) c) vs)[j]? = if off + s ≤ j ∧ j < off + s + l.length then l[j - (off + s)]? else vs[j]?
  | [], s, vs, h => by simp; intro j h1 h2; omega
  | x :: l, s, vs, h => by
    simp only [List.length_cons] at h
    obtain ⟨h1, h2⟩ := foldl_set off l (s + 1) (vs.setIfInBounds (off + s) x) (by simp; omega)
    simp only [List.zipIdx_cons, List.foldl_cons]
    refine ⟨by rw [h1]; simp, fun j => ?_⟩
    rw [h2]
    by_cases e : j = off + s
    · subst e
      rw [if_neg (by omega), if_pos (by simp)]
      have : off + s < vs.size := by omega
      simp [this]
    · by_cases c : off + (s + 1) ≤ j ∧ j < off + (s + 1) + l.length
      · rw [if_pos c, if_pos (by simp only [List.length_cons]; omega)]
        have e2 : j - (off + s) = (j - (off + (s + 1))) + 1 := by omega
        rw [e2]; simp
      · rw [if_neg c, if_neg (by simp only [List.length_cons]; omega), Array.getElem?_setIfInBounds_ne (Ne.symm e)]
theorem fill_rep {ok : Nat → Prop} {G : Blk} (place : Nat → Option (Nat × Nat)) : ∀ (as : List (Nat × AV)) (vs : List (Nat × Value)) (cs cs' : List AC) (cells : Array Value), PsRep w β G ok as vs → fillA place cs as = some cs' → CsRep w β G ok cs cells →
    ∃ cells', Instr.fill place cells vs = some cells' ∧ CsRep w β G ok cs' cells'
  | [], [], cs, cs', cells, _, h, hc => by cases h; exact ⟨cells, rfl, hc⟩
  | (i, a) :: as, (j, v) :: vs, cs, cs', cells, hp, h, hc => by
    obtain ⟨rfl, hr, hp⟩ := hp
    unfold fillA at h
    split at h
    · rename_i off size ac hpl hac
      split at h
      · rename_i hcond
        obtain ⟨h1, h2⟩ := hcond
        obtain ⟨hcv, _⟩ := cellsOf_rep hac hr
        have e1 : v.cells.size = size := by rw [hcv.1, h1]
        have e2 : off + size ≤ cells.size := by rw [hc.1]; exact h2
        have hf := foldl_set off v.cells.toList 0 cells (by simp; omega)
        obtain ⟨f1, f2⟩ := hf
        have hzi : v.cells.zipIdx.foldl (fun cs (c, j) => cs.setIfInBounds (off + j) c) cells = (v.cells.toList.zipIdx 0).foldl (fun cs (c, j) => cs.setIfInBounds (off + j) c) cells := by
          rw [← Array.foldl_toList, Array.toList_zipIdx]
        obtain ⟨cells', g1, g2⟩ := fill_rep place as vs (splice cs off ac) cs' (v.cells.zipIdx.foldl (fun cs (c, j) => cs.setIfInBounds (off + j) c) cells) hp h (by
          rw [hzi]
          have hsl : off + ac.length ≤ cs.length := by omega
          refine ⟨by rw [f1, hc.1, splice_len hsl], fun j c hj => ?_⟩
          rw [splice_get hsl] at hj
          rw [f2]
          simp only [Nat.add_zero, Array.length_toList, hcv.1, Array.getElem?_toList]
          split at hj
          · rename_i hj2
            rw [if_pos hj2]; exact hcv.2 _ c hj
          · rename_i hj2
            rw [if_neg hj2]; exact hc.2 _ c hj)
        refine ⟨cells', ?_, g2⟩
        unfold Instr.fill
        rw [hpl]
        simp only
        rw [if_neg (by simp [e1]; omega)]
        exact g1
      · cases h
    · cases h
  | [], _ :: _, _, _, _, hp, _, _ => hp.elim
  | _ :: _, [], _, _, _, hp, _, _ => hp.elim
theorem s_build (hT : TabOk P T) {t : Nat} {ps : Array (Nat × Operand)} (ho : o.op = .build t ps) (h : (aop P T cf o).run F S K) (hs : Sim w0 M N b0 nt β S w tm) (hd : ∀ t, o.dst = some t → t < nt) (hn : Nx w0 M N b0 nt ds K next) : o.wp P ⟨tm, ds⟩ w next Q := by
  simp only [aop, ho] at h
  obtain ⟨as, h, hr⟩ := getPs_run (ds := ds) hs _ h
  obtain ⟨⟨z, places, esz⟩, hz, h⟩ := orFail_run h
  obtain ⟨cs, hcs, h⟩ := orFail_run h
  obtain ⟨h1, h2⟩ := hT.bld _ (find1_mem hz)
  have key : ∃ cells, P.built t (ps.map fun (i, x) => (i, Act.eval ⟨tm, ds⟩ x)).toList = some cells ∧ CsRep w β S.G (okB w0 N β S.G w) cs cells := by
    have e : (ps.map fun (i, x) => (i, Act.eval ⟨tm, ds⟩ x)).toList = ps.toList.map fun p => (p.1, Act.eval ⟨tm, ds⟩ p.2) := by simp
    rw [e]
    have e2 : ∀ (z1 : Value), z1.cells.toList = z → z1.cells = z.toArray := fun z1 hz1 => by rw [← hz1]
    unfold bldP at h1
    unfold Program.built
    split at h1
    · rename_i it n e' hit hu
      split at h1
      · rename_i z1 ie hz1 hie
        simp only [Option.some.injEq, Prod.mk.injEq] at h1
        obtain ⟨hz2, rfl, rfl⟩ := h1
        obtain ⟨cells, g1, g2⟩ := fill_rep (placeOf none ie.size) as _ _ _ z.toArray hr hcs (csRep_of h2)
        refine ⟨cells, ?_, g2⟩
        simp only [hit, hu, hz1, hie, e2 z1 hz2]
        exact g1
      · cases h1
    · rename_i it fields hit hu
      split at h1
      · rename_i z1 pl hz1 hpl
        simp only [Option.some.injEq, Prod.mk.injEq] at h1
        obtain ⟨hz2, rfl, rfl⟩ := h1
        obtain ⟨cells, g1, g2⟩ := fill_rep (placeOf (some pl) 0) as _ _ _ z.toArray hr hcs (csRep_of h2)
        refine ⟨cells, ?_, g2⟩
        simp only [hit, hu, hz1, hpl, e2 z1 hz2]
        have e3 : (fun x => pl.toArray[x]?) = placeOf (some pl) 0 := by funext i; simp [placeOf]
        rw [e3]; exact g1
      · cases h1
    · cases h1
  obtain ⟨cells, hb, hc⟩ := key
  refine wp_value (v := .agg cells) (w' := w) ?_ (putD_run h hs hd ⟨cells, rfl, hc⟩ hn)
  unfold execOp
  simp only [ho, Sem.run_bind, run_build w t _ cells hb, Result.andThen_ok, Sem.run_pure]
theorem zer_facts (hT : TabOk P T) {t : Nat} {z : List Value} (h : find1 T.zer t = some z) : ∃ i z1, P.info? t = some i ∧ i.zero = some z1 ∧ z1.cells = z.toArray ∧ z.all (·.oneCell') = true := by
  obtain ⟨h1, h2⟩ := hT.zer _ (find1_mem h)
  unfold zerP at h1
  dsimp only at h1
  split at h1
  · rename_i i hi
    split at h1
    · rename_i z' hz'
      have e1 : z'.cells.toList = z := Option.some.inj h1
      exact ⟨i, z', hi, hz', by rw [← e1], h2⟩
    · cases h1
  · cases h1
theorem flat_rep (z : List Value) (m : Nat) (hz : 0 < z.length) : ((Array.range (m * z.length)).map (z.toArray[· % z.toArray.size]!)).toList = (List.replicate m z).flatten := by
  apply List.ext_getElem?
  intro j
  simp only [Array.toList_map, List.getElem?_map, List.size_toArray]
  by_cases hj : j < m * z.length
  · have hm : j % z.length < z.length := Nat.mod_lt _ hz
    have e1 : (Array.range (m * z.length)).toList[j]? = some j := by simp [hj]
    rw [e1]
    have key : ∀ (m j : Nat), j < m * z.length → (List.replicate m z).flatten[j]? = z[j % z.length]? := by
      intro m
      induction m with
      | zero => intro j hj; simp at hj
      | succ m ih =>
        intro j hj
        rw [List.replicate_succ, List.flatten_cons, List.getElem?_append]
        split
        · rename_i hlt; rw [Nat.mod_eq_of_lt hlt]
        · rename_i hge
          rw [Nat.add_mul] at hj
          rw [ih _ (by omega), ← Nat.mod_eq_sub_mod (by omega)]
    rw [key m j hj]
    simp [hm]
  · have e1 : (Array.range (m * z.length)).toList[j]? = none := by simp; omega
    rw [e1]
    have e2 : (List.replicate m z).flatten.length = m * z.length := by simp
    simp only [Option.map_none]
    rw [List.getElem?_eq_none (by omega)]
theorem fin_row {d n c : Nat} {sz : Nat} {e : TypeId} {l : List Value} {cur : Array Value} (hs : Sim w0 M N b0 nt β S w tm) (hd : ∀ t, o.dst = some t → t < nt) (hn : Nx w0 M N b0 nt ds K next) (hdst : o.dst = some d)
    (h : (lay1 (nid d 0) (.row (some e) sz l) fun r => putD o.dst (.g (.one (.sl (nid d 0) r n)))).run F S K) (hone : l.all (·.oneCell') = true) (hl : l.length = n * sz) (hnc : n ≤ c) (hcm : c ≤ maxLen) (hcs : cur.size = c * sz) (htake : cur.toList.take (n * sz) = l)
    (he : (execOp (Act.eval ⟨tm, ds⟩) o).run P w = .ok (.value (.slice (some ⟨w.heap.size, 0, none⟩) n c)) (w.alloc (.cells cur e))) : o.wp P ⟨tm, ds⟩ w next Q := by
  obtain ⟨r, β', h1, h2, h3, h4, h5⟩ := lay1_run h hs (w' := w.alloc (.cells cur e)) (.slice (some ⟨w.heap.size, 0, none⟩) n c) trivial rfl rfl rfl (by simp) (fun k hk => Below.heap_alloc w (.cells cur e) k hk)
    (fun b hb => by cases hb; simp)
    (fun β' G' hok hold hβ => ⟨hone, e, n, fun x hx => by cases hx; rfl, hl, .inr ⟨w.heap.size, c, cur, hβ, Nat.zero_le _, heap_alloc_new w _, hnc, hcm, Nat.le_of_eq hcs.symm, htake⟩⟩)
  refine wp_value he (putD_run h1 h2 hd ⟨rfl, r, _, upd_same _ _ _, Nat.le_refl _, fun _ => ⟨_, n, c, h3, Nat.le_refl _, rfl⟩⟩ hn)
theorem rep_all {z : List Value} (h : z.all (·.oneCell') = true) (n : Nat) : (List.replicate n z).flatten.all (·.oneCell') = true := by
  rw [List.all_eq_true] at h ⊢
  intro x hx
  rw [List.mem_flatten] at hx
  obtain ⟨l, hl, hx⟩ := hx
  rw [List.eq_of_mem_replicate hl] at hx
  exact h x hx
theorem s_makeSlice (hT : TabOk P T) {t : Nat} {x y : Operand} (ho : o.op = .makeSlice t x y) (h : (aop P T cf o).run F S K) (hs : Sim w0 M N b0 nt β S w tm) (hd : ∀ t, o.dst = some t → t < nt) (hn : Nx w0 M N b0 nt ds K next) : o.wp P ⟨tm, ds⟩ w next Q := by
  simp only [aop, ho] at h
  obtain ⟨d, hdst, h⟩ := orFail_dst h
  have h := getV_run (ds := ds) (getV_run (ds := ds) h hs) hs
  obtain ⟨⟨arr, e, agg, sz, by'⟩, hl, h⟩ := orFail_run h
  obtain ⟨z, hz, h⟩ := orFail_run h
  obtain ⟨hu, hlay, hpos, i, hi, hby, hisz⟩ := elt_facts hT hl
  obtain ⟨i', z1, hi', hz1, hzc, hz2⟩ := zer_facts hT hz
  have ei : i' = i := by rw [hi] at hi'; exact (Option.some.inj hi').symm
  subst ei
  split at h
  · rename_i k n k' c hx hy
    obtain ⟨⟨rfl, hzl, h0, hnc, hcm, hbc⟩, h⟩ := h
    dsimp only at hzl hbc h hz hi'
    obtain ⟨n, rfl⟩ := Int.eq_ofNat_of_zero_le h0
    obtain ⟨c, rfl⟩ := Int.eq_ofNat_of_zero_le (show 0 ≤ c by omega)
    have hrun := run_make (P := P) w t e i' z1 hu hi hz1 k k' n c h0 hnc (by rw [hby]; exact hbc) hcm
    simp only [Int.toNat_natCast] at hrun h
    have hsz : (madeCells z1.cells (c * i'.size)).toList = (List.replicate c z).flatten := by
      rw [hisz, ← hzl]
      unfold madeCells
      rw [hzc]
      exact flat_rep z c (by omega)
    have hlen : ∀ m, (List.replicate m z).flatten.length = m * sz := by intro m; simp [hzl]
    refine fin_row hs hd hn hdst h (rep_all hz2 n) (hlen n) (by omega) (by unfold maxLen; omega) ?_ ?_ (cur := madeCells z1.cells (c * i'.size)) (c := c) ?_
    · rw [← Array.length_toList, hsz, hlen]
    · rw [hsz]
      have e1 : c = n + (c - n) := by omega
      rw [e1, ← List.replicate_append_replicate, List.flatten_append, ← hlen n, List.take_left]
    · unfold execOp
      simp only [ho, hx, hy, Sem.run_bind, hrun, Result.andThen_ok, Sem.run_pure]
  · exact h.elim
theorem fin_sb {d n : Nat} {e : TypeId} {cs : List AC} {vs : Array Value} (hs : Sim w0 M N b0 nt β S w tm) (hd : ∀ t, o.dst = some t → t < nt) (hn : Nx w0 M N b0 nt ds K next) (hdst : o.dst = some d)
    (h : (lay1 (nid d 0) (.box cs) fun r => putD o.dst (.g (.one (.sb (nid d 0) r n n)))).run F S K) (hc : CsRep w β S.G (okB w0 N β S.G w) cs vs) (hcm : n ≤ maxLen)
    (he : (execOp (Act.eval ⟨tm, ds⟩) o).run P w = .ok (.value (.slice (some ⟨w.heap.size, 0, none⟩) n n)) (w.alloc (.cells vs e))) : o.wp P ⟨tm, ds⟩ w next Q := by
  obtain ⟨r, β', h1, h2, h3, h4, h5⟩ := lay1_run h hs (w' := w.alloc (.cells vs e)) (.pointer (some ⟨w.heap.size, 0, none⟩)) trivial rfl rfl rfl (by simp) (fun k hk => Below.heap_alloc w (.cells vs e) k hk)
    (fun b hb => by cases hb; simp)
    (fun β' G' hok hold hβ => ⟨w.heap.size, vs, e, hβ, heap_alloc_new w (.cells vs e), hc.mono hok hold⟩)
  refine wp_value he (putD_run h1 h2 hd ⟨rfl, r, _, upd_same _ _ _, Nat.le_refl _, fun _ => ⟨w.heap.size, ?_, rfl, Nat.le_refl _, hcm⟩⟩ hn)
  rw [h3]; rfl
theorem s_buildSlice (hT : TabOk P T) {t n : Nat} {ps : Array (Nat × Operand)} (ho : o.op = .buildSlice t n ps) (h : (aop P T cf o).run F S K) (hs : Sim w0 M N b0 nt β S w tm) (hd : ∀ t, o.dst = some t → t < nt) (hn : Nx w0 M N b0 nt ds K next) : o.wp P ⟨tm, ds⟩ w next Q := by
  simp only [aop, ho] at h
  obtain ⟨d, hdst, h⟩ := orFail_dst h
  obtain ⟨as, h, hr⟩ := getPs_run (ds := ds) hs _ h
  obtain ⟨⟨arr, e, agg, sz, by'⟩, hl, h⟩ := orFail_run h
  obtain ⟨z, hz, h⟩ := orFail_run h
  obtain ⟨cs, hcs, h⟩ := orFail_run h
  obtain ⟨⟨rfl, hzl, hb1, hb2⟩, hk⟩ := h
  dsimp only at hzl hb1 hz hk hcs
  obtain ⟨hu, hlay, hpos, i, hi, hby, hisz⟩ := elt_facts hT hl
  obtain ⟨i', z1, hi', hz1, hzc, hz2⟩ := zer_facts hT hz
  have ei : i' = i := by rw [hi] at hi'; exact (Option.some.inj hi').symm
  subst ei
  have hlen : ∀ m, (List.replicate m z).flatten.length = m * sz := by intro m; simp [hzl]
  obtain ⟨cells, g1, g2⟩ := fill_rep (fun i => some (i * sz, sz)) as _ _ _ (List.replicate n z).flatten.toArray hr hcs (csRep_of (rep_all hz2 n))
  have hex : (execOp (Act.eval ⟨tm, ds⟩) o).run P w = .ok (.value (.slice (some ⟨w.heap.size, 0, none⟩) n n)) (w.alloc (.cells cells e)) := by
    have ezero : ((Array.range (n * sz)).map (z.toArray[· % z.toArray.size]!)) = (List.replicate n z).flatten.toArray := by
      apply Array.ext'
      rw [← hzl]
      exact flat_rep z n (by omega)
    have hp : (ps.map fun (i, x) => (i, Act.eval ⟨tm, ds⟩ x)).toList = ps.toList.map fun p => (p.1, Act.eval ⟨tm, ds⟩ p.2) := by simp
    have hsz : (sizeOf e).run P w = .ok sz w := (run_isAgg hlay w).2
    have hb3 : ¬ (n * sz > 2 ^ 24) := by omega
    unfold execOp
    by_cases hz0 : n * sz = 0
    · have hz0' : n = 0 ∨ sz = 0 := Nat.mul_eq_zero.1 hz0
      have hn0 : n = 0 := by omega
      have g1' : Instr.fill (fun i => some (i * sz, sz)) #[] (ps.map fun (i, x) => (i, Act.eval ⟨tm, ds⟩ x)).toList = some cells := by
        rw [hp, ← g1]
        subst hn0
        rfl
      have er : (Array.range (n * sz)).map ((#[] : Array Value)[· % (#[] : Array Value).size]!) = #[] := Array.eq_empty_of_size_eq_zero (by simp [hz0])
      simp only [ho, Instr.buildSlice, Sem.run_bind, run_underlying hu, Result.andThen_ok, hsz, hz0, if_true, Sem.run_pure, Sem.run_ite]
      rw [hz0] at er
      simp only [er, g1', Sem.run_bind, newRow, run_newObj, Result.andThen_ok, Sem.run_pure]
      rfl
    · have hzv : (zeroValue e).run P w = .ok z1 w := by simp [zeroValue, typeInfo, hi, hz1]
      have g1' : Instr.fill (fun i => some (i * sz, sz)) ((Array.range (n * sz)).map (z1.cells[· % z1.cells.size]!)) (ps.map fun (i, x) => (i, Act.eval ⟨tm, ds⟩ x)).toList = some cells := by
        rw [hp, hzc, ezero]; exact g1
      simp only [ho, Instr.buildSlice, Sem.run_bind, run_underlying hu, Result.andThen_ok, hsz, Sem.run_pure, Sem.run_ite]
      rw [if_neg hb3, if_neg hz0]
      simp only [Result.andThen_ok, hzv, g1', Sem.run_bind, newRow, run_newObj, Sem.run_pure]
      rfl
  split at hk
  · rename_i l hpl
    have e3 := pcs_get hpl
    subst e3
    obtain ⟨q1, q2⟩ := csRep_map g2
    have hcl : l.length = n * sz := by
      have : ∀ (place : Nat → Option (Nat × Nat)) (as : List (Nat × AV)) (cs cs' : List AC), fillA place cs as = some cs' → cs'.length = cs.length := by
        intro place as
        induction as with
        | nil => intro cs cs' h; cases h; rfl
        | cons a as ih =>
          intro cs cs' h
          obtain ⟨i, a⟩ := a
          unfold fillA at h
          split at h
          · split at h
            · rename_i hcond
              rw [ih _ _ h, splice_len (by omega)]
            · cases h
          · cases h
      have := this _ _ _ _ hcs
      simp only [List.length_map] at this
      rw [this, hlen]
    refine fin_row hs hd hn hdst hk q2 hcl (Nat.le_refl _) (by unfold maxLen; omega) (cur := cells) ?_ ?_ hex
    · rw [q1]; simpa using hcl
    · rw [q1]; simp only; rw [← hcl, List.take_length]
  · exact fin_sb hs hd hn hdst hk g2 (by unfold maxLen; omega) hex
end
section
variable {P : Program} {T : Tab} {F : Ft} {S : St} {K : St → Prop} {w0 w w' : World} {M N : Nat → Prop} {b0 : Nat → Value} {nt : Nat} {β : Nat → Value} {tm : Array Value} {ds : List Deferred} {next : Act → World → Prop} {Q : Exit → Act → World → Prop} {o : Oper}
variable {cf : FuncId → Option (List AV → Option Tmp → AM)}
theorem getVo_run {x : Option Operand} {k : Option Value → AM} (h : (getVo x k).run F S K) (hs : Sim w0 M N b0 nt β S w tm) : (k (x.map (Act.eval ⟨tm, ds⟩))).run F S K := by
  cases x with
  | none => exact h
  | some x => exact getV_run (ds := ds) h hs
theorem RoRep.part {ok : Nat → Prop} {sz n : Nat} {l : List Value} {A : Option Addr} {c : Nat} (h : RoRep w ok sz n l (.slice A n c)) (a b m : Nat) (h1 : a ≤ b) (h2 : b ≤ m) (h3 : m ≤ n) (A' : Option Addr)
    (hA : A' = (if m = a then A else A.map (·.add (a * sz)))) : RoRep w ok sz (b - a) ((l.drop (a * sz)).take ((b - a) * sz)) (.slice A' (b - a) (m - a)) := by
  obtain ⟨⟨g1, g2⟩, A1, c1, g3, g4, g5, g6⟩ := h
  cases g3
  have hm : (b - a) * sz + a * sz ≤ n * sz := by rw [← Nat.add_mul]; exact Nat.mul_le_mul_right sz (by omega)
  refine ⟨⟨?_, ?_⟩, A', m - a, rfl, by omega, by omega, fun hn => ?_⟩
  · simp only [List.length_take, List.length_drop]; omega
  · rw [List.all_eq_true] at g2 ⊢
    exact fun x hx => g2 x (List.mem_of_mem_drop (List.mem_of_mem_take hx))
  · obtain ⟨g, off, rfl, hok, hc⟩ := g6 (by omega)
    refine ⟨g, off + a * sz, ?_, hok, hc.part _ _⟩
    rw [hA, if_neg (by omega)]
    simp [add_lit]
theorem bound_run {P : Program} (v : Value) (k : IntKind) (x : Int) (y : Nat) (code : BoundsCode) (w : World) (hv : v = .int k x) (h0 : 0 ≤ x) (h1 : x ≤ y) : (Instr.sliceBound v y code).run P w = .ok x.toNat w := by
  subst hv
  simp only [Instr.sliceBound, asIntOf, Sem.run_bind, Sem.run_pure, Result.andThen_ok, Sem.run_ite]
  rw [if_pos ⟨h0, h1⟩]
theorem bounds_run {P : Program} {n c : Nat} {lo hi mx : Option Value} {l h m : Int} (hl : lo0 lo = some l) (hh : hi0 n hi = some h) (hm : hi0 n mx = some m) (h0 : 0 ≤ l) (h1 : l ≤ h) (h2 : h ≤ m) (h3 : m ≤ n) (hc : n ≤ c) (hmx : hi = none → mx = none) (w : World) :
    (Instr.sliceBounds true n c lo hi mx).run P w = .ok (l.toNat, h.toNat, if mx = none then c else m.toNat) w := by
  have hlo : ∀ (code : BoundsCode), lo = none ∧ l = 0 ∨ ∃ v, lo = some v ∧ (Instr.sliceBound v h.toNat code).run P w = .ok l.toNat w := by
    intro code
    unfold lo0 at hl
    split at hl
    · cases hl; exact .inl ⟨rfl, rfl⟩
    · cases hl; exact .inr ⟨_, rfl, bound_run _ _ _ _ _ _ rfl h0 (by omega)⟩
    · cases hl
  have hm' : mx = none ∨ ∃ v, mx = some v ∧ (Instr.sliceBound v c .slice3Acap).run P w = .ok m.toNat w := by
    unfold hi0 at hm
    split at hm
    · exact .inl rfl
    · cases hm; exact .inr ⟨_, rfl, bound_run _ _ _ _ _ _ rfl (by omega) (by omega)⟩
    · cases hm
  have hhi : hi = none ∧ h = n ∨ ∃ v k, hi = some v ∧ v = .int k h := by
    unfold hi0 at hh
    split at hh
    · cases hh; exact .inl ⟨rfl, rfl⟩
    · cases hh; exact .inr ⟨_, _, rfl, rfl⟩
    · cases hh
  rcases hm' with rfl | ⟨mv, rfl, hmr⟩
  · rcases hhi with ⟨rfl, rfl⟩ | ⟨v, k, rfl, hv⟩
    · rcases hlo .sliceB with ⟨rfl, rfl⟩ | ⟨v, rfl, hr⟩
      · simp [Instr.sliceBounds]
      · simp only [Int.toNat_natCast] at hr
        simp [Instr.sliceBounds, hr]
    · have hr2 : ∀ code, (Instr.sliceBound v c code).run P w = .ok h.toNat w := fun code => bound_run v k h c code w hv (by omega) (by omega)
      rcases hlo .sliceB with ⟨rfl, rfl⟩ | ⟨v', rfl, hr⟩
      · simp [Instr.sliceBounds, hr2]
      · simp [Instr.sliceBounds, hr2, hr]
  · rcases hhi with ⟨rfl, _⟩ | ⟨v, k, rfl, hv⟩
    · cases hmx rfl
    · have hr2 : (Instr.sliceBound v m.toNat .slice3B).run P w = .ok h.toNat w := bound_run v k h _ _ w hv (by omega) (by omega)
      rcases hlo .slice3C with ⟨rfl, rfl⟩ | ⟨v', rfl, hr⟩
      · simp [Instr.sliceBounds, hmr, hr2]
      · simp [Instr.sliceBounds, hmr, hr2, hr]
theorem Sim.cur_sl (hs : Sim w0 M N b0 nt β S w tm) {i r n : Nat} {e : Ent} {y : Value} (h : AC.rep w β S.G (okB w0 N β S.G w) (.sl i r n) y) (he : S.G i = some (r, e)) : ∃ A m c, β i = .slice A m c ∧ n ≤ m ∧ y = .slice A n c := by
  obtain ⟨_, r', e', h1, h2, h3⟩ := h
  rw [he] at h1
  obtain ⟨rfl, _⟩ := Prod.mk.inj (Option.some.inj h1)
  exact h3 rfl
theorem row_ro {ok : Nat → Prop} {w : World} {v : Value} {e : TypeId} {sz n : Nat} {l : List Value} (h : ownR w e sz v n l) (h1 : l.all (·.oneCell') = true) (hok : ∀ b, blk? v = some b → ok b) : RoRep w ok sz n l v := by
  obtain ⟨h2, h3⟩ := h
  rcases h3 with ⟨rfl, rfl⟩ | ⟨g, cap, cur, rfl, _, p4, p5, p6, p7, p8⟩
  · exact ⟨⟨h2, h1⟩, none, 0, rfl, by omega, by unfold maxLen; omega, fun h => by omega⟩
  · refine ⟨⟨h2, h1⟩, _, cap, rfl, p5, p6, fun hn => ⟨g, 0, rfl, hok g rfl, ?_⟩⟩
    have := row_cells (w := w) p4 p8 0 l.length
    simpa using this
theorem ro_prefix {ok : Nat → Prop} {w : World} {sz m n : Nat} {l : List Value} {A : Option Addr} {c : Nat} (h : RoRep w ok sz m l (.slice A m c)) (hn : n ≤ m) (hl : n * sz ≤ l.length) : RoRep w ok sz n (l.take (n * sz)) (.slice A n c) := by
  obtain ⟨⟨g1, g2⟩, A1, c1, g3, g4, g5, g6⟩ := h
  cases g3
  refine ⟨⟨by simp only [List.length_take]; omega, ?_⟩, A, c, rfl, by omega, g5, fun h0 => ?_⟩
  · rw [List.all_eq_true] at g2 ⊢
    exact fun x hx => g2 x (List.mem_of_mem_take hx)
  · obtain ⟨b, off, e, hok, hc⟩ := g6 (by omega)
    refine ⟨b, off, e, hok, ?_⟩
    have := hc.part 0 (n * sz)
    simpa using this
theorem run_piece (hT : TabOk P T) {t e sz n c : Nat} {agg : Bool} {A : Option Addr} {l h' m : Int} {lv hv mv : Option Value} (by' : Nat) (hl : find1 T.elt t = some (none, e, agg, sz, by')) (g1 : lo0 lv = some l) (g2 : hi0 n hv = some h') (g3 : hi0 n mv = some m) (g4 : 0 ≤ l) (g5 : l ≤ h') (g6 : h' ≤ m) (g7 : m ≤ n) (g8 : n ≤ c) (g9 : hv = none → mv = none) :
    (Instr.sliceAt t (.slice A n c) lv hv mv).run P w = .ok (.slice (if (if mv = none then c else m.toNat) = l.toNat then A else A.map (·.add (l.toNat * sz))) (h'.toNat - l.toNat) ((if mv = none then c else m.toNat) - l.toNat)) w := by
  obtain ⟨hu, hlay, _⟩ := elt_facts hT hl
  have hb := bounds_run (P := P) g1 g2 g3 g4 g5 g6 g7 g8 g9 w
  have hsz := (run_isAgg hlay w).2
  simp only [Instr.sliceAt, Instr.slice, Sem.run_bind, run_underlying hu, Result.andThen_ok, hb, hsz, Sem.run_pure]
theorem ro_piece (hT : TabOk P T) {ok : Nat → Prop} {t e sz n : Nat} {agg : Bool} {c : List Value} {v0 : Value} {l h' m : Int} {lv hv mv : Option Value} (by' : Nat) (hrr : RoRep w ok sz n c v0) (hl : find1 T.elt t = some (none, e, agg, sz, by')) (g1 : lo0 lv = some l) (g2 : hi0 n hv = some h') (g3 : hi0 n mv = some m) (g4 : 0 ≤ l) (g5 : l ≤ h') (g6 : h' ≤ m) (g7 : m ≤ n) (g9 : hv = none → mv = none) :
    ∃ v, (Instr.sliceAt t v0 lv hv mv).run P w = .ok v w ∧ RoRep w ok sz (h' - l).toNat ((c.drop (l.toNat * sz)).take ((h' - l).toNat * sz)) v := by
  obtain ⟨g10, A, cap, he, g11, g12, g13⟩ := hrr
  rw [he, run_piece hT by' hl g1 g2 g3 g4 g5 g6 g7 g11 g9]
  refine ⟨_, rfl, ?_⟩
  have hrr : RoRep w ok sz n c (.slice A n cap) := ⟨g10, A, cap, rfl, g11, g12, g13⟩
  have e1 : (h' - l).toNat = h'.toNat - l.toNat := by omega
  rw [e1]
  by_cases hmn : mv = none
  · simp only [hmn, if_true]
    obtain ⟨⟨q1, q2⟩, A1, c1, q3, q4, q5, q6⟩ := hrr
    cases q3
    have hmul : (h'.toNat - l.toNat) * sz + l.toNat * sz ≤ n * sz := by rw [← Nat.add_mul]; exact Nat.mul_le_mul_right sz (by omega)
    refine ⟨⟨by simp only [List.length_take, List.length_drop]; omega, ?_⟩, _, cap - l.toNat, rfl, by omega, by omega, fun hpos => ?_⟩
    · rw [List.all_eq_true] at q2 ⊢
      exact fun x hx => q2 x (List.mem_of_mem_drop (List.mem_of_mem_take hx))
    · obtain ⟨g, off, rfl, hok, hc⟩ := q6 (by omega)
      refine ⟨g, off + l.toNat * sz, ?_, hok, hc.part _ _⟩
      rw [if_neg (by omega)]
      simp [add_lit]
  · simp only [hmn, if_false]
    exact hrr.part l.toNat h'.toNat m.toNat (by omega) (by omega) (by omega) _ rfl
theorem take_piece {α : Type} (c : List α) (a b k : Nat) (h : a + b ≤ k) : ((c.take k).drop a).take b = (c.drop a).take b := by
  rw [List.drop_take, List.take_take, Nat.min_eq_left (by omega)]
theorem ro_whole {ok : Nat → Prop} {w : World} {sz m n : Nat} {l : List Value} {A : Option Addr} {c : Nat} (h : RoRep w ok sz m l (.slice A m c)) (hl : l.length = n * sz) (hz : 0 < sz) : RoRep w ok sz n l (.slice A n c) ∧ n = m := by
  have e : n * sz = m * sz := hl.symm.trans h.1.1
  have e2 : n = m := Nat.eq_of_mul_eq_mul_right hz e
  subst e2
  exact ⟨h, rfl⟩
theorem s_slice (hT : TabOk P T) {t : Nat} {x : Operand} {lo hi mx : Option Operand} (ho : o.op = .slice t x lo hi mx) (h : (aop P T cf o).run F S K) (hs : Sim w0 M N b0 nt β S w tm) (hd : ∀ t, o.dst = some t → t < nt) (hn : Nx w0 M N b0 nt ds K next) : o.wp P ⟨tm, ds⟩ w next Q := by
  simp only [aop, ho] at h
  obtain ⟨a, h, hr⟩ := getO_run (ds := ds) h hs
  have h := getVo_run (ds := ds) (getVo_run (ds := ds) (getVo_run (ds := ds) h hs) hs) hs
  generalize hlv : lo.map (Act.eval ⟨tm, ds⟩) = lv at h
  generalize hhv : hi.map (Act.eval ⟨tm, ds⟩) = hv at h
  generalize hmv : mx.map (Act.eval ⟨tm, ds⟩) = mv at h
  have fin : ∀ {β' : Nat → Value} {S' : St} {v : Value} {z : AV}, (Instr.sliceAt t (Act.eval ⟨tm, ds⟩ x) lv hv mv).run P w = .ok v w → Sim w0 M N b0 nt β' S' w tm → (putD o.dst z).run F S' K → z.rep w β' S'.G (okB w0 N β' S'.G w) v → o.wp P ⟨tm, ds⟩ w next Q := by
    intro β' S' v z hrun hs' hp hz
    refine wp_value (v := v) (w' := w) ?_ (putD_run hp hs' hd hz hn)
    unfold execOp
    simp only [ho, hlv, hhv, hmv, Sem.run_bind, hrun, Result.andThen_ok, Sem.run_pure]
  match a, h, hr with
  | .g (.one (.v (.string s))), h, hr =>
    obtain ⟨r, ⟨g1, g2⟩, h⟩ := h
    have e : Act.eval ⟨tm, ds⟩ x = .string s := hr.1
    exact fin (by rw [e]; exact g2 w) hs h (ofv_rep g1)
  | .g (.one (.v (.slice none 0 0))), h, hr =>
    obtain ⟨⟨arr, e, agg, sz, by'⟩, hl, h⟩ := orFail_run h
    obtain ⟨l, g1, h⟩ := orFail_run h
    obtain ⟨h', g2, h⟩ := orFail_run h
    obtain ⟨m, g3, h⟩ := orFail_run h
    obtain ⟨⟨rfl, rfl, rfl, rfl, g9⟩, hk⟩ := h
    have e : Act.eval ⟨tm, ds⟩ x = .slice none 0 0 := hr.1
    have := run_piece (w := w) (P := P) hT (A := none) (n := 0) (c := 0) by' hl g1 g2 g3 (by omega) (by omega) (by omega) (by omega) (by omega) g9
    refine fin (by rw [e]; exact this) hs hk ?_
    have e2 : (Value.slice (if (if mv = none then 0 else (0 : Int).toNat) = (0 : Int).toNat then none else Option.map (fun (x : Addr) => x.add ((0 : Int).toNat * sz)) none) ((0 : Int).toNat - (0 : Int).toNat) ((if mv = none then 0 else (0 : Int).toNat) - (0 : Int).toNat)) = .slice none 0 0 := by
      split <;> simp
    rw [e2]
    exact ⟨rfl, rfl⟩
  | .g (.one (.ro z n c)), h, hr =>
    obtain ⟨⟨arr, e, agg, sz, by'⟩, hl, h⟩ := orFail_run h
    obtain ⟨l, g1, h⟩ := orFail_run h
    obtain ⟨h', g2, h⟩ := orFail_run h
    obtain ⟨m, g3, h⟩ := orFail_run h
    obtain ⟨⟨harr, hz, g4, g5, g6, g7, g9⟩, hk⟩ := h
    dsimp only at harr hz hk
    subst harr hz
    obtain ⟨v, k1, k2⟩ := ro_piece (P := P) hT by' hr hl g1 g2 g3 g4 g5 g6 g7 g9
    exact fin k1 hs hk k2
  | .g (.one (.sl i r n)), h, hr =>
    obtain ⟨⟨arr, e, agg, sz, by'⟩, hl, h⟩ := orFail_run h
    obtain ⟨l, g1, h⟩ := orFail_run h
    obtain ⟨h', g2, h⟩ := orFail_run h
    obtain ⟨m, g3, h⟩ := orFail_run h
    obtain ⟨_, h⟩ := h
    dsimp only at h
    have hmul : ∀ z : Nat, 0 ≤ l → l ≤ h' → h' ≤ m → m ≤ n → l.toNat * z + (h' - l).toNat * z ≤ n * z := by
      intro z q1 q2 q3 q4
      rw [← Nat.add_mul]; exact Nat.mul_le_mul_right z (by omega)
    split at h
    · rename_i r' e' z c hG
      obtain ⟨⟨hr', harr, hz, hle, g4, g5, g6, g7, g9⟩, hk⟩ := h
      subst hr' harr hz
      obtain ⟨A, m', cap, q1, q2, q3⟩ := hs.cur_sl hr hG
      obtain ⟨p0, e2, n2, p1, p2⟩ := hs.ents i r _ hG
      have hn2 : n2 = m' ∧ n2 ≤ cap := by
        rw [q1] at p2
        rcases p2.2 with ⟨p3, rfl⟩ | ⟨g, cap', cur, p3, _, _, p5, _⟩
        · cases p3; exact ⟨rfl, by omega⟩
        · cases p3; exact ⟨rfl, p5⟩
      obtain ⟨rfl, hcap⟩ := hn2
      split at hk
      · have hw2 := run_piece (w := w) (P := P) hT (A := A) (n := n) (c := cap) by' hl g1 g2 g3 g4 g5 g6 g7 (by omega) g9
        cases g1
        have e3 : (Value.slice (if (if (none : Option Value) = none then cap else m.toNat) = (0 : Int).toNat then A else Option.map (fun (x : Addr) => x.add ((0 : Int).toNat * z)) A) (h'.toNat - (0 : Int).toNat) ((if (none : Option Value) = none then cap else m.toNat) - (0 : Int).toNat)) = .slice A h'.toNat cap := by
          have e4 : Option.map (fun (x : Addr) => x.add ((0 : Int).toNat * z)) A = A := by cases A <;> simp [Addr.add]
          rw [e4]
          simp
        refine fin (by rw [q3]; exact hw2) hs hk ?_
        rw [e3]
        exact ⟨rfl, r, _, hG, Nat.le_refl _, fun _ => ⟨A, n2, cap, q1, by omega, rfl⟩⟩
      · obtain ⟨_, hk⟩ := hk
        have hw2 := run_piece (w := w) (P := P) hT (A := A) (n := n) (c := cap) by' hl g1 g2 g3 g4 g5 g6 g7 (by omega) g9
        cases g1
        have e3 : ∀ v0 : Value, (Value.slice (if (if (some v0 : Option Value) = none then cap else m.toNat) = (0 : Int).toNat then A else Option.map (fun (x : Addr) => x.add ((0 : Int).toNat * z)) A) (h'.toNat - (0 : Int).toNat) ((if (some v0 : Option Value) = none then cap else m.toNat) - (0 : Int).toNat)) = .slice A h'.toNat m.toNat := by
          intro v0
          have e4 : Option.map (fun (x : Addr) => x.add ((0 : Int).toNat * z)) A = A := by cases A <;> simp [Addr.add]
          rw [e4]
          simp
        rw [e3] at hw2
        have hblk : ∀ b, blk? (Value.slice A h'.toNat m.toNat) = some b → blk? (β i) = some b := by
          intro b hb
          rw [q1]
          cases A with
          | none => cases hb
          | some a => exact hb
        have hle2 : h'.toNat * z ≤ c.length := Nat.le_trans (Nat.mul_le_mul_right z (by omega)) hle
        obtain ⟨β', h1, h2, h3, h4⟩ := hs.change1 (w' := w) i (r + 1) (.row e' z (c.take (h'.toNat * z))) (.slice A h'.toNat m.toNat) rfl rfl rfl (Nat.le_refl _)
          (fun r1 e1 hg => by rw [hG] at hg; cases hg; exact ⟨Nat.le_succ _, fun he => by omega⟩)
          (fun k _ _ => rfl)
          (fun b _ hb => ⟨(hs.fresh i r _ b hG trivial (hblk b hb)).1, .inr ⟨r, _, hG, trivial, hblk b hb⟩⟩)
          (fun _ => ⟨_, hG⟩)
          (fun β' G' _ _ hok hold hβ => ⟨by
              rw [List.all_eq_true] at p0 ⊢
              exact fun x hx => p0 x (List.mem_of_mem_take hx), e2, h'.toNat, p1, by
              rw [hβ]
              rw [q1] at p2
              refine ⟨by simp only [List.length_take]; omega, ?_⟩
              rcases p2.2 with ⟨p3, hz0⟩ | ⟨g, cap', cur, p3, p4, p5, p6, p7, p8, p9⟩
              · cases p3
                exact .inl ⟨by rw [show h'.toNat = 0 by omega, show m.toNat = 0 by omega], by omega⟩
              · cases p3
                refine .inr ⟨g, m.toNat, cur, rfl, p4, p5, by omega, by omega, ?_, ?_⟩
                · exact Nat.le_trans (Nat.mul_le_mul_right z (by omega)) p8
                · rw [← p9, List.take_take, Nat.min_eq_left (Nat.mul_le_mul_right z (by omega))]⟩)
        exact fin (by rw [q3]; exact hw2) h1 hk ⟨rfl, r + 1, _, upd_same _ _ _, Nat.le_refl _, fun _ => ⟨A, h'.toNat, m.toNat, h2, Nat.le_refl _, rfl⟩⟩
      · obtain ⟨hi', _, hk⟩ := hk
        obtain ⟨β', k1, k2, k3, k4⟩ := hs.change1 (w' := w) i r (.fro z c) (β i) rfl rfl rfl (Nat.le_refl _)
          (fun r1 e1 hg => by rw [hG] at hg; cases hg; exact ⟨Nat.le_refl _, fun _ => rfl⟩) (fun k _ _ => rfl) (fun b hb _ => hb.elim) (fun _ => ⟨_, hG⟩)
          (fun β' G' hβ hG' hok hold hβi => by
            refine ⟨n2, ?_⟩
            rw [hβi]
            refine row_ro p2 p0 fun b hb => ?_
            have hf := hs.fresh i r _ b hG trivial hb
            refine ⟨hf.1, ?_, fun hlt => ?_⟩
            · rintro ⟨j, r1, e1, hj, hlive, hjb⟩
              by_cases hji : j = i
              · subst hji
                rw [hG', upd_same] at hj
                cases hj
                exact hlive.elim
              · rw [hG', upd_ne _ _ hji] at hj
                rw [hβ] at hjb
                simp only [hji, if_false] at hjb
                exact hji (hs.apart j i r1 e1 r _ b hj hlive hG trivial hjb hb)
            · rcases hf.2 with hf | hf
              · omega
              · omega)
        obtain ⟨n3, hfro⟩ := k1.ents i r _ (upd_same _ _ _)
        have hr2 : RoRep w (okB w0 N β' (S.lay i (some (r, Ent.fro z c))).G w) z n (c.take (n * z)) (Act.eval ⟨tm, ds⟩ x) := by
          rw [q3]
          rw [k2, q1] at hfro
          have hn3 : n3 = n2 := by
            obtain ⟨_, A3, c3, hq, _⟩ := hfro
            cases hq; rfl
          subst hn3
          exact ro_prefix hfro q2 hle
        obtain ⟨v, j1, j2⟩ := ro_piece (P := P) hT by' hr2 hl g1 g2 g3 g4 g5 g6 g7 g9
        refine fin j1 k1 hk ?_
        rw [take_piece _ _ _ _ (hmul z g4 g5 g6 g7)] at j2
        exact j2
    · rename_i r' z c hG
      obtain ⟨⟨hr', harr, hz, hle, g4, g5, g6, g7, g9⟩, hk⟩ := h
      subst hr' harr hz
      obtain ⟨A, m', cap, q1, q2, q3⟩ := hs.cur_sl hr hG
      obtain ⟨n3, hfro⟩ := hs.ents i r _ hG
      have hr2 : RoRep w (okB w0 N β S.G w) z n (c.take (n * z)) (Act.eval ⟨tm, ds⟩ x) := by
        rw [q3]
        rw [q1] at hfro
        have hn3 : n3 = m' := by
          obtain ⟨_, A3, c3, hq, _⟩ := hfro
          cases hq; rfl
        subst hn3
        exact ro_prefix hfro q2 hle
      obtain ⟨v, j1, j2⟩ := ro_piece (P := P) hT by' hr2 hl g1 g2 g3 g4 g5 g6 g7 g9
      refine fin j1 hs hk ?_
      rw [take_piece _ _ _ _ (hmul z g4 g5 g6 g7)] at j2
      exact j2
    · exact h.elim
end
section
variable {P : Program} {T : Tab} {F : Ft} {S : St} {K : St → Prop} {w0 w w' : World} {M N : Nat → Prop} {b0 : Nat → Value} {nt : Nat} {β : Nat → Value} {tm : Array Value} {ds : List Deferred} {next : Act → World → Prop} {Q : Exit → Act → World → Prop} {o : Oper}
variable {cf : FuncId → Option (List AV → Option Tmp → AM)}
theorem getSl_run {x : AV} {sz : Nat} {k : Nat → List Value → AM} {y : Value} (h : (getSl x sz k).run F S K) (hs : Sim w0 M N b0 nt β S w tm) (hr : x.rep w β S.G (okB w0 N β S.G w) y) :
    ∃ n l, (k n l).run F S K ∧ RoRep w (fun b => b < w.heap.size) sz n l y := by
  have hany : ∀ {sz n : Nat} {l : List Value} {y : Value}, RoRep w (okB w0 N β S.G w) sz n l y → RoRep w (fun b => b < w.heap.size) sz n l y :=
    fun h => RoRep.mono (fun b hb => ⟨hb.1, rfl⟩) h
  unfold getSl at h
  split at h
  · obtain ⟨rfl, h⟩ := h
    exact ⟨_, _, h, hany hr⟩
  · obtain ⟨rfl, _⟩ := hr
    exact ⟨0, [], h, ⟨by simp, rfl⟩, none, 0, rfl, Nat.le_refl _, by unfold maxLen; omega, fun h => by omega⟩
  · rename_i i r n
    obtain ⟨_, h⟩ := h
    dsimp only at h
    split at h
    · rename_i r' e z l hG
      obtain ⟨⟨rfl, rfl, hz, hle⟩, h⟩ := h
      obtain ⟨A, m, cap, q1, q2, rfl⟩ := hs.cur_sl hr hG
      obtain ⟨p0, e2, n2, p1, p2⟩ := hs.ents i r _ hG
      have h1 : RoRep w (fun b => b < w.heap.size) z n2 l (β i) := row_ro p2 p0 fun b hb => (hs.fresh i r _ b hG trivial hb).1
      rw [q1] at h1
      have hn2 : n2 = m := by obtain ⟨_, A3, c3, hq, _⟩ := h1; cases hq; rfl
      subst hn2
      exact ⟨_, _, h, (ro_whole h1 hle hz).1⟩
    · rename_i r' z l hG
      obtain ⟨⟨rfl, rfl, hz, hle⟩, h⟩ := h
      obtain ⟨A, m, cap, q1, q2, rfl⟩ := hs.cur_sl hr hG
      obtain ⟨n2, h1⟩ := hs.ents i r _ hG
      rw [q1] at h1
      have hn2 : n2 = m := by obtain ⟨_, A3, c3, hq, _⟩ := h1; cases hq; rfl
      subst hn2
      exact ⟨_, _, h, (ro_whole (hany h1) hle hz).1⟩
    · exact h.elim
  · exact h.elim
theorem s_convert {a b : TypeId} {x : Operand} (ho : o.op = .convert a b x) (h : (aop P T cf o).run F S K) (hs : Sim w0 M N b0 nt β S w tm) (hd : ∀ t, o.dst = some t → t < nt) (hn : Nx w0 M N b0 nt ds K next) : o.wp P ⟨tm, ds⟩ w next Q := by
  simp only [aop, ho] at h
  obtain ⟨a, h, hr⟩ := getO_run (ds := ds) h hs
  split at h
  · rename_i v hv
    have := pval_rep hv hr
    rw [← this] at h
    exact exr_sound h hs hd hn (by unfold execOp; simp only [ho])
  · obtain ⟨n, l, ⟨h0, h⟩, hro⟩ := getSl_run h hs hr
    obtain ⟨q, ⟨h6, h7⟩, h⟩ := h
    obtain ⟨_, A, c, e, _, _, hcells⟩ := hro
    obtain ⟨b', off, rfl, _, hc⟩ := hcells h0
    refine wp_value (v := q) (w' := w) ?_ (putD_run h hs hd (ofv_rep h6) hn)
    unfold execOp
    simp only [ho]
    rw [e]
    exact val_run (h7 w b' off c hc)
theorem ownR_of {w : World} {e : TypeId} {sz n : Nat} {v : Value} {l : List Value} (h : w.ownsRow 0 e sz v n l) : ownR w e sz v n l :=
  ⟨h.1, h.2.imp id fun ⟨g, cap, cur, h1, h2, h3, h4, h5, h6, h7⟩ => ⟨g, cap, cur, h1, h2, h3, h4, h5, Nat.le_of_eq h6.symm, h7⟩⟩
theorem run_append_ownR {P : Program} (w : World) (t ty e : TypeId) (i : TypeInfo) (z : Value) (size bytes : Nat) (ht : P.underlying t = some (.slice e)) (hi : P.info? e = some i) (hz : i.zero = some z)
    (hsize : i.size = size) (hby : i.bytes = bytes) (hzs : z.cells.size = size) (hsz : 0 < size) (v : Value) (n : Nat) (xs : List Value) (hown : ownR w e size v n xs)
    (a : Addr) (m c : Nat) (news : List Value) (hl : news.length = m * size) (hnews : ∀ j u, news[j]? = some u → w.cell? (a.add j) = some u) (h1 : ∀ u ∈ news, u.oneCell' = true)
    (h63 : n + m ≤ maxLen) (hbytes : (n + m) * bytes ≤ 140737488355328) :
    ∃ v' w', (Builtin.append_ #[t, t] ty #[v, .slice (some a) m c]).run P w = .ok v' w' ∧ ownR w' e size v' (n + m) (xs ++ news) ∧ w.grownBy w' v.ownBlock ∧ (v'.ownBlock = v.ownBlock ∨ v'.ownBlock = some w.heap.size) := by
  rcases hown with ⟨h0, ⟨rfl, rfl⟩ | ⟨g, cap, cur, rfl, hb, hg, hc1, hc2, hc3, hc4⟩⟩
  · obtain ⟨v', w', k1, k2, k3, _, k5⟩ := run_append_own_at (P := P) w 0 t ty e i z size bytes ht hi hz hsize hby hzs hsz (.slice none 0 0) 0 xs ⟨h0, .inl ⟨rfl, rfl⟩⟩ a m c news hl hnews h1 h63 hbytes (Nat.zero_le _)
    exact ⟨v', w', k1, ownR_of k2, k3, k5⟩
  · subst hsize hby
    have hlen : (xs ++ news).length = (n + m) * i.size := by rw [List.length_append, h0, hl, Nat.add_mul]
    by_cases hroom : n + m ≤ cap
    · have hmul : (n + m) * i.size ≤ cap * i.size := Nat.mul_le_mul_right _ hroom
      have hfit : n * i.size + news.length ≤ cur.size := by rw [hl, ← Nat.add_mul]; omega
      refine ⟨_, _, run_append_room (P := P) w t ty e i ht hi g n cap cur hg a m c news hl hnews h1 hroom hfit, ⟨hlen, .inr ⟨g, cap, _, rfl, hb, setRow_heap w g cur _ e _ hg, hroom, hc2, ?_, ?_⟩⟩,
        ⟨rfl, rfl, rfl, by simp, fun k _ hk => setRow_other w g k _ fun e => hk (by simp [Value.ownBlock, e])⟩, .inl rfl⟩
      · simp only [List.size_toArray, List.length_append, List.length_take, List.length_drop, Array.length_toList]
        omega
      · rw [hc4, ← hlen]; exact List.take_left
    · have holds : ∀ j u, xs[j]? = some u → w.cell? ((⟨g, 0, none⟩ : Addr).add j) = some u := by
        intro j u hu
        have hadd : (⟨g, 0, none⟩ : Addr).add j = ⟨g, j, none⟩ := by unfold Addr.add; split <;> simp_all
        rw [hadd, cell_of_row w g j cur e (0, 0) hg]
        rw [← hc4, List.getElem?_take] at hu
        split at hu
        · simpa using hu
        · cases hu
      have hsm : n + m ≤ 9223372036854775807 := by simp only [maxLen] at h63; omega
      have hr := run_append_grow (P := P) w t ty e i z ht hi hz ⟨g, 0, none⟩ n cap xs h0 holds a m c news hl hnews (by omega) (by omega) (growslice_fits (by omega) hbytes)
      refine ⟨_, _, hr, ⟨hlen, .inr ⟨w.heap.size, _, _, rfl, Nat.zero_le _, heap_alloc_new w.drew _, grownCap_ge w (n + m) cap e, grownCap_le_maxLen w (n + m) cap e h63, ?_, ?_⟩⟩, ⟨rfl, rfl, rfl, by simp, fun k hk _ => heap_alloc_old w.drew _ hk⟩, .inr rfl⟩
      · have hge := grownCap_ge w (n + m) cap e
        simp only [Array.size_append, List.size_toArray, size_zeroCells, hzs, h0, hl, ← Nat.add_mul]
        exact Nat.mul_le_mul_right _ (by omega)
      · simp only [Array.toList_append, List.append_assoc]
        rw [← List.append_assoc, ← hlen]
        exact List.take_left
theorem own_prefix {w : World} {e : TypeId} {sz m n : Nat} {l : List Value} {A : Option Addr} {c : Nat} (h : ownR w e sz (.slice A m c) m l) (hn : n ≤ m) : ownR w e sz (.slice A n c) n (l.take (n * sz)) := by
  obtain ⟨h1, h2⟩ := h
  have hmul : n * sz ≤ m * sz := Nat.mul_le_mul_right sz hn
  refine ⟨by simp only [List.length_take]; omega, ?_⟩
  rcases h2 with ⟨h2, rfl⟩ | ⟨g, cap, cur, h2, h3, h4, h5, h6, h7, h8⟩
  · cases h2
    have : n = 0 := by omega
    subst this
    exact .inl ⟨rfl, rfl⟩
  · cases h2
    refine .inr ⟨g, _, cur, rfl, h3, h4, by omega, h6, h7, ?_⟩
    rw [← h8, List.take_take, Nat.min_eq_left hmul]
theorem s_append (hT : TabOk P T) {x y : Operand} {t : TypeId} (ho : o.op = .call { callee := .builtin .append, args := #[x, y], argTypes := #[t, t] }) (h : (aop P T cf o).run F S K) (hs : Sim w0 M N b0 nt β S w tm) (hd : ∀ t, o.dst = some t → t < nt) (hn : Nx w0 M N b0 nt ds K next) : o.wp P ⟨tm, ds⟩ w next Q := by
  simp only [aop, ho] at h
  obtain ⟨a, h, hra⟩ := getO_run (ds := ds) h hs
  obtain ⟨b, h, hrb⟩ := getO_run (ds := ds) h hs
  obtain ⟨⟨arr, e, agg, sz, by'⟩, hl, h⟩ := orFail_run h
  obtain ⟨z, hz, h⟩ := orFail_run h
  obtain ⟨m, news, h, hsrc⟩ := getSl_run h hs hrb
  obtain ⟨⟨harr, _, hzl⟩, hk0⟩ := h
  dsimp only at harr hzl hk0 hz
  subst harr
  obtain ⟨hu, hlay, hpos, i0, hi, hby, hisz⟩ := elt_facts hT hl
  obtain ⟨i', z1, hi', hz1, hzc, hz2⟩ := zer_facts hT hz
  have ei : i' = i0 := by rw [hi] at hi'; exact (Option.some.inj hi').symm
  subst ei
  have hzs : z1.cells.size = sz := by rw [hzc]; simpa using hzl
  obtain ⟨⟨n1, n2⟩, A, c, hy, n3, n4, n5⟩ := hsrc
  -- append in fact
  have happ : ∀ (v : Value) (n : Nat) (xs : List Value), ownR w e sz v n xs → n + m ≤ maxLen → (n + m) * by' ≤ 140737488355328 → ∃ v' w', (Builtin.append_ #[t, t] o.type #[v, Act.eval ⟨tm, ds⟩ y]).run P w = .ok v' w' ∧ ownR w' e sz v' (n + m) (xs ++ news) ∧ w.grownBy w' v.ownBlock ∧ (v'.ownBlock = v.ownBlock ∨ v'.ownBlock = some w.heap.size) := by
    intro v n xs hown g1 g2
    rw [hy]
    cases A with
    | none =>
      have hm : m = 0 := by
        rcases Nat.eq_zero_or_pos m with h0 | h0
        · exact h0
        · obtain ⟨b, off, hA, _⟩ := n5 h0; cases hA
      subst hm
      have hnews : news = [] := List.eq_nil_of_length_eq_zero (by omega)
      subst hnews
      refine ⟨v, w, ?_, by simpa using hown, World.grownBy.refl w _, .inl rfl⟩
      rcases hown.2 with ⟨rfl, rfl⟩ | ⟨g, cap, cur, rfl, _, _, hnc, _⟩
      · simp [Builtin.append_, run_underlying hu, sizeOf, typeInfo, hi, Builtin.lenOf, Builtin.firstCells]
      · simp [Builtin.append_, run_underlying hu, sizeOf, typeInfo, hi, Builtin.lenOf, Builtin.firstCells, hnc, storeCells]
    | some ad =>
      have hcells : ∀ j u, news[j]? = some u → w.cell? (ad.add j) = some u := by
        intro j u hu'
        rcases Nat.eq_zero_or_pos m with h0 | h0
        · subst h0
          have hnews : news = [] := List.eq_nil_of_length_eq_zero (by omega)
          subst hnews; simp at hu'
        · obtain ⟨b, off, hA, _, hc⟩ := n5 h0
          cases hA
          rw [add_lit]; exact hc j u hu'
      obtain ⟨v', w', k1, k2, k3, k5⟩ := run_append_ownR (P := P) w t o.type e i' z1 sz by' hu hi hz1 hisz hby hzs hpos v n xs hown ad m c news n1 hcells (fun u hu' => (List.all_eq_true.1 n2) u hu') g1 g2
      exact ⟨v', w', k1, k2, k3, k5⟩
  have hexec : ∀ {v' : Value} {w' : World}, (Builtin.append_ #[t, t] o.type #[Act.eval ⟨tm, ds⟩ x, Act.eval ⟨tm, ds⟩ y]).run P w = .ok v' w' → (execOp (Act.eval ⟨tm, ds⟩) o).run P w = .ok (.value v') w' := by
    intro v' w' hr
    unfold execOp
    simp only [ho, resolve, invoke, builtin, Sem.run_bind, Sem.run_pure, Result.andThen_ok, List.map_toArray, List.map_cons, List.map_nil, hr]
  have own_blk : ∀ {v' : Value} {w' : World} {n : Nat} {xs : List Value}, ownR w' e sz v' n xs → blk? v' = v'.ownBlock ∧ ∀ b, blk? v' = some b → b < w'.heap.size := by
    intro v' w' n xs h
    refine ⟨?_, fun b hb => ?_⟩
    · rcases h.2 with ⟨rfl, _⟩ | ⟨g, cap, cur, rfl, _⟩ <;> rfl
    · rcases h.2 with ⟨rfl, _⟩ | ⟨g, cap, cur, rfl, _, hg, _⟩
      · cases hb
      · cases hb; exact (Array.getElem?_eq_some_iff.1 hg).1
  have sl_of : ∀ {v' : Value} {w' : World} {n : Nat} {xs : List Value}, ownR w' e sz v' n xs → ∃ A c, v' = .slice A n c := by
    intro v' w' n xs h
    rcases h.2 with ⟨rfl, rfl⟩ | ⟨g, cap, cur, rfl, _⟩
    · exact ⟨_, _, rfl⟩
    · exact ⟨_, _, rfl⟩
  match a, hk0, hra with
  | .g (.one (.v (.slice none 0 0))), hk0, hra =>
    obtain ⟨d, hdst, h⟩ := orFail_dst hk0
    obtain ⟨⟨g1, g2⟩, h⟩ := h
    have ex : Act.eval ⟨tm, ds⟩ x = .slice none 0 0 := hra.1
    obtain ⟨v', w', k1, k2, k3, k4⟩ := happ (.slice none 0 0) 0 [] ⟨by simp, .inl ⟨rfl, rfl⟩⟩ (by simpa using g1) (by simpa using g2)
    simp only [Nat.zero_add, List.nil_append] at k2
    obtain ⟨q1, q2⟩ := own_blk k2
    obtain ⟨A', c', rfl⟩ := sl_of k2
    obtain ⟨r, β', h1, h2, h3, h4, h5⟩ := lay1_run h hs (w' := w') (.slice A' m c') trivial k3.os k3.tape k3.output k3.size (fun k hk => k3.block k hk (by simp [Value.ownBlock]))
      (fun b hb => ⟨q2 b hb, by
        rw [q1] at hb
        rcases k4 with k4 | k4
        · rw [k4] at hb; cases hb
        · rw [k4] at hb; cases hb; exact Nat.le_refl _⟩)
      (fun β' G' hok hold hβ => ⟨n2, e, m, fun x hx => by cases hx; rfl, by rw [hβ]; exact k2⟩)
    exact wp_value (hexec (by rw [ex]; exact k1)) (putD_run h1 h2 hd ⟨rfl, r, _, upd_same _ _ _, Nat.le_refl _, fun _ => ⟨_, m, _, h3, Nat.le_refl _, rfl⟩⟩ hn)
  | .g (.one (.sl i r n)), hk0, hra =>
    obtain ⟨_, h⟩ := hk0
    dsimp only at h
    split at h
    · rename_i r' e' s l hG
      obtain ⟨⟨hr', he', hs', hle, g1, g2⟩, hew, hk⟩ := h
      subst hr' he' hs'
      obtain ⟨A1, m1, cap, q1, q2, q3⟩ := hs.cur_sl hra hG
      obtain ⟨p0, e2, n6, p1, p2⟩ := hs.ents i r _ hG
      have e3 := p1 _ rfl
      subst e3
      rw [q1] at p2
      have hn6 : n6 = m1 := by
        rcases p2.2 with ⟨p3, rfl⟩ | ⟨g, cap', cur, p3, _⟩
        · cases p3; rfl
        · cases p3; rfl
      subst hn6
      obtain ⟨v', w', k1, k2, k3, k4⟩ := happ _ n _ (own_prefix p2 q2) g1 g2
      obtain ⟨o1, o2⟩ := own_blk k2
      obtain ⟨A', c', rfl⟩ := sl_of k2
      have hown : (Value.slice A1 n cap).ownBlock = blk? (β i) := by rw [q1]; cases A1 <;> rfl
      obtain ⟨β', h1, h2, h3, h4⟩ := hs.change1 (w' := w') i (r + 1) (.row (some e') s (l.take (n * s) ++ news)) (.slice A' (n + m) c') k3.os k3.tape k3.output k3.size
        (fun r1 e1 hg => by rw [hG] at hg; cases hg; exact ⟨Nat.le_succ _, fun he => by omega⟩)
        (fun k hk hne => k3.block k hk (fun ek => hne r _ hG trivial (by rw [← hown]; exact ek.symm)))
        (fun b _ hb => ⟨o2 b hb, by
          rw [o1] at hb
          rcases k4 with k4 | k4
          · right; exact ⟨r, _, hG, trivial, by rw [← hown, ← k4]; exact hb⟩
          · left; rw [k4] at hb; cases hb; exact Nat.le_refl _⟩)
        (fun _ => ⟨_, hG⟩)
        (fun β' G' _ _ hok hold hβ => ⟨by
            rw [List.all_append, Bool.and_eq_true]
            refine ⟨?_, n2⟩
            rw [List.all_eq_true] at p0 ⊢
            exact fun x hx => p0 x (List.mem_of_mem_take hx), e', n + m, fun x hx => by cases hx; rfl, by rw [hβ]; exact k2⟩)
      exact wp_value (hexec (by rw [q3]; exact k1)) (putD_run hk h1 hd ⟨rfl, r + 1, _, upd_same _ _ _, Nat.le_refl _, fun _ => ⟨_, n + m, _, h2, Nat.le_refl _, rfl⟩⟩ hn)
    · exact h.elim
theorem getVs_run (hs : Sim w0 M N b0 nt β S w tm) : ∀ (l : List Operand) {k : List Value → AM}, (getVs l k).run F S K → (k (l.map (Act.eval ⟨tm, ds⟩))).run F S K
  | [], k, h => h
  | x :: l, k, h => by
    have h := getV_run (ds := ds) h hs
    exact getVs_run hs l (k := fun as => k (Act.eval ⟨tm, ds⟩ x :: as)) h
theorem s_builtin {b : Builtin} {args : Array Operand} {ts : Array TypeId} (ho : o.op = .call { callee := .builtin b, args := args, argTypes := ts }) (hb1 : b ≠ .append) (hb2 : b ≠ .len) (h : (aop P T cf o).run F S K) (hs : Sim w0 M N b0 nt β S w tm) (hd : ∀ t, o.dst = some t → t < nt) (hn : Nx w0 M N b0 nt ds K next) : o.wp P ⟨tm, ds⟩ w next Q := by
  have h' : (getVs args.toList fun vs => .exv (fun r => okv r = true ∧ ∀ w, (builtin b ts o.type (args.map isConst) vs.toArray).run P w = .ok (.value r) w) fun r => putD o.dst (ofv r)).run F S K := by
    simp only [aop, ho] at h
    cases b <;> first | exact h | exact absurd rfl hb1 | exact absurd rfl hb2
  have h := getVs_run (ds := ds) hs _ h'
  obtain ⟨r, ⟨h1, h2⟩, h3⟩ := h
  refine wp_value (v := r) (w' := w) ?_ (putD_run h3 hs hd (ofv_rep h1) hn)
  unfold execOp
  have e : (args.toList.map (Act.eval ⟨tm, ds⟩)).toArray = args.map (Act.eval ⟨tm, ds⟩) := by rw [← Array.toList_map, Array.toArray_toList]
  rw [e] at h2
  simp only [ho, resolve, invoke, Sem.run_bind, Sem.run_pure, Result.andThen_ok]
  exact h2 w
theorem run_len_slice (hT : TabOk P T) {t e sz by' : Nat} {agg : Bool} (hl : find1 T.elt t = some (none, e, agg, sz, by')) (ty : TypeId) (A : Option Addr) (n c : Nat) (w : World) : (Builtin.len_ #[t] ty #[.slice A n c]).run P w = .ok (.int .i64 n) w := by
  obtain ⟨hu, _⟩ := elt_facts hT hl
  simp [Builtin.len_, run_underlying hu, goInt]
theorem s_len (hT : TabOk P T) {x : Operand} {t : TypeId} (ho : o.op = .call { callee := .builtin .len, args := #[x], argTypes := #[t] }) (h : (aop P T cf o).run F S K) (hs : Sim w0 M N b0 nt β S w tm) (hd : ∀ t, o.dst = some t → t < nt) (hn : Nx w0 M N b0 nt ds K next) : o.wp P ⟨tm, ds⟩ w next Q := by
  simp only [aop, ho] at h
  obtain ⟨a, h, hr⟩ := getO_run (ds := ds) h hs
  have hexec : ∀ {v : Value}, (builtin .len #[t] o.type #[isConst x] #[Act.eval ⟨tm, ds⟩ x]).run P w = .ok (.value v) w → (execOp (Act.eval ⟨tm, ds⟩) o).run P w = .ok (.value v) w := by
    intro v hv
    unfold execOp
    simp only [ho, resolve, invoke, Sem.run_bind, Sem.run_pure, Result.andThen_ok, List.map_toArray, List.map_cons, List.map_nil]
    exact hv
  have hint : ∀ (n : Nat), okv (.int .i64 n) = true := fun _ => rfl
  split at h
  · rename_i s
    obtain ⟨r, ⟨g1, g2⟩, h⟩ := h
    have e : Act.eval ⟨tm, ds⟩ x = .string s := hr.1
    exact wp_value (w' := w) (hexec (by rw [e]; simpa using g2 w)) (putD_run h hs hd (ofv_rep g1) hn)
  · obtain ⟨⟨arr, e, agg, sz, by'⟩, hl, h⟩ := orFail_run h
    obtain ⟨harr, hk⟩ := h
    dsimp only at harr
    subst harr
    have hlen : ∀ {A : Option Addr} {n c : Nat}, Act.eval ⟨tm, ds⟩ x = .slice A n c → (builtin .len #[t] o.type #[isConst x] #[Act.eval ⟨tm, ds⟩ x]).run P w = .ok (.value (.int .i64 n)) w := by
      intro A n c e
      rw [e]
      simp only [builtin, Sem.run_bind, run_len_slice hT hl, Result.andThen_ok, Sem.run_pure]
    split at hk
    · obtain ⟨_, A, c, e, _⟩ := hr
      exact wp_value (w' := w) (hexec (hlen e)) (putD_run hk hs hd ⟨rfl, rfl⟩ hn)
    · exact wp_value (w' := w) (hexec (hlen hr.1)) (putD_run hk hs hd ⟨rfl, rfl⟩ hn)
    · obtain ⟨_, hk⟩ := hk
      dsimp only at hk
      split at hk
      · rename_i r' e' hG
        obtain ⟨rfl, hk⟩ := hk
        obtain ⟨A, m, c, _, _, e⟩ := hs.cur_sl hr hG
        exact wp_value (w' := w) (hexec (hlen e)) (putD_run hk hs hd ⟨rfl, rfl⟩ hn)
      · exact hk.elim
    · obtain ⟨_, hk⟩ := hk
      dsimp only at hk
      split at hk
      · rename_i r' e' hG
        obtain ⟨rfl, hk⟩ := hk
        obtain ⟨_, _, e⟩ := hs.cur_sb hr hG
        exact wp_value (w' := w) (hexec (hlen e)) (putD_run hk hs hd ⟨rfl, rfl⟩ hn)
      · exact hk.elim
    · exact hk.elim
def ArgsRep (w : World) (β : Nat → Value) (G : Blk) (ok : Nat → Prop) (as : List AV) (vs : Array Value) : Prop := vs.size = as.length ∧ ∀ (j : Nat) (a : AV), as[j]? = some a → ∃ z, vs[j]? = some z ∧ a.rep w β G ok z
structure GoodCall (P : Program) (f : FuncId) (m : List AV → Option Tmp → AM) : Prop where
  enters : ∀ args w, (callFunc f args).run P w = .ok (.enter f args) w
  does : ∀ F S K (as : List AV) (dst : Option Tmp), (m as dst).run F S K → ∀ w0 M N b0 nt β w tm vs, (∀ t, dst = some t → t < nt) → Sim w0 M N b0 nt β S w tm → ArgsRep w β S.G (okB w0 N β S.G w) as vs →
    Calls P f vs w fun e w' => ∃ v β' S', e = .returned v ∧ K S' ∧ Sim w0 M N b0 nt β' S' w' (match dst with | some d => tm.setIfInBounds d v | none => tm)
theorem getL_run (hs : Sim w0 M N b0 nt β S w tm) : ∀ (l : List Operand) {k : List AV → AM}, (getL l k).run F S K → ∃ as, (k as).run F S K ∧ ArgsRep w β S.G (okB w0 N β S.G w) as (l.map (Act.eval ⟨tm, ds⟩)).toArray
  | [], k, h => ⟨[], h, rfl, fun j a hj => by simp at hj⟩
  | x :: l, k, h => by
    obtain ⟨a, h, hr⟩ := getO_run (ds := ds) h hs
    obtain ⟨as, h, h1, h2⟩ := getL_run hs l h
    refine ⟨a :: as, h, by simpa using h1, fun j b hj => ?_⟩
    cases j with
    | zero => cases hj; exact ⟨_, rfl, hr⟩
    | succ j =>
      obtain ⟨z, hz, hrz⟩ := h2 j b (by simpa using hj)
      exact ⟨z, by simpa using hz, hrz⟩
theorem s_call (hcf : ∀ f m, cf f = some m → GoodCall P f m) {f : Operand} {args : Array Operand} {ts : Array TypeId} (ho : o.op = .call { callee := .value f, args := args, argTypes := ts }) (h : (aop P T cf o).run F S K) (hs : Sim w0 M N b0 nt β S w tm) (hd : ∀ t, o.dst = some t → t < nt) (hn : Nx w0 M N b0 nt ds K next) : o.wp P ⟨tm, ds⟩ w next Q := by
  simp only [aop, ho] at h
  obtain ⟨a, h, hrf⟩ := getO_run (ds := ds) h hs
  match a, h, hrf with
  | .g (.one (.fn fid caps)), h, hrf =>
    obtain ⟨as, h, hra⟩ := getL_run (ds := ds) hs _ h
    obtain ⟨m, hm, h⟩ := orFail_run h
    have hg := hcf fid m hm
    obtain ⟨cv, he, hc1, hc2⟩ := hrf
    have hargs : ArgsRep w β S.G (okB w0 N β S.G w) (as ++ caps.map fun p => .g (.one (.ptr p.1 p.2 0))) (args.map (Act.eval ⟨tm, ds⟩) ++ cv) := by
      obtain ⟨h1, h2⟩ := hra
      have e1 : (args.toList.map (Act.eval ⟨tm, ds⟩)).toArray = args.map (Act.eval ⟨tm, ds⟩) := by rw [← Array.toList_map, Array.toArray_toList]
      rw [e1] at h1 h2
      refine ⟨by simp only [Array.size_append, List.length_append, List.length_map, hc1, h1], fun j b hj => ?_⟩
      rw [List.getElem?_append] at hj
      split at hj
      · rename_i hlt
        obtain ⟨z, hz, hrz⟩ := h2 j b hj
        exact ⟨z, by rw [Array.getElem?_append, if_pos (by rw [h1]; exact hlt)]; exact hz, hrz⟩
      · rename_i hge
        simp only [List.getElem?_map, Option.map_eq_some_iff] at hj
        obtain ⟨p, hp, rfl⟩ := hj
        obtain ⟨z, hz, hrz⟩ := hc2 _ p hp
        exact ⟨z, by rw [Array.getElem?_append, if_neg (by rw [h1]; exact hge), h1]; exact hz, hrz⟩
    have hcall := hg.does F S K _ _ h w0 M N b0 nt β w tm _ hd hs hargs
    have hrun : (execOp (Act.eval ⟨tm, ds⟩) o).run P w = .ok (.enter fid (args.map (Act.eval ⟨tm, ds⟩) ++ cv)) w := by
      unfold execOp
      simp only [ho, resolve, he, Deferred.ofValue, invoke, Sem.run_bind, Sem.run_pure, Result.andThen_ok]
      have := hg.enters (args.map (Act.eval ⟨tm, ds⟩) ++ cv) w
      simpa using this
    unfold Oper.wp
    rw [hrun]
    refine Calls.mono hcall ?_
    rintro e w' ⟨v, β', S', rfl, hK, hs'⟩
    have : Act.put ⟨tm, ds⟩ o.dst v = ⟨match o.dst with | some d => tm.setIfInBounds d v | none => tm, ds⟩ := by
      cases o.dst <;> rfl
    show next (Act.put ⟨tm, ds⟩ o.dst v) w'
    rw [this]
    exact hn _ _ _ _ hK hs'
theorem ptrsOf_rep : ∀ {l : List AV} {ps : List (Nat × Nat)} {vs : Array Value}, ptrsOf l = some ps → ArgsRep w β S.G (okB w0 N β S.G w) l vs → ps.length = l.length ∧ ∀ (j : Nat) (p : Nat × Nat), ps[j]? = some p → ∃ z, vs[j]? = some z ∧ PtrRep β S.G p.1 p.2 0 z
  | [], ps, vs, h, hr => by cases h; exact ⟨rfl, fun j p hj => by simp at hj⟩
  | a :: l, ps, vs, h, hr => by
    unfold ptrsOf at h
    split at h
    · rename_i h1; cases h1
    · rename_i i r l' h1
      cases h1
      split at h
      · rename_i ps' h2
        cases h
        have hr2 : ArgsRep w β S.G (okB w0 N β S.G w) l (vs.toList.tail.toArray) := by
          refine ⟨by have := hr.1; simp at this ⊢; omega, fun j b hj => ?_⟩
          obtain ⟨z, hz, hz2⟩ := hr.2 (j + 1) b (by simpa using hj)
          exact ⟨z, by simpa using hz, hz2⟩
        obtain ⟨g1, g2⟩ := ptrsOf_rep (vs := vs.toList.tail.toArray) h2 hr2
        refine ⟨by simp [g1], fun j p hj => ?_⟩
        cases j with
        | zero =>
          cases hj
          obtain ⟨z, hz, hz2⟩ := hr.2 0 _ rfl
          exact ⟨z, hz, hz2⟩
        | succ j =>
          obtain ⟨z, hz, hz2⟩ := g2 j p (by simpa using hj)
          exact ⟨z, by simpa using hz, hz2⟩
      · cases h
    · cases h
theorem s_makeFunc {fn : Fn} {first caps : Array Operand} (ho : o.op = .makeFunc fn first caps) (h : (aop P T cf o).run F S K) (hs : Sim w0 M N b0 nt β S w tm) (hd : ∀ t, o.dst = some t → t < nt) (hn : Nx w0 M N b0 nt ds K next) : o.wp P ⟨tm, ds⟩ w next Q := by
  simp only [aop, ho] at h
  cases fn with
  | func f =>
    dsimp only at h
    obtain ⟨h0, h⟩ := h
    obtain ⟨as, h, hr⟩ := getL_run (ds := ds) hs _ h
    obtain ⟨ps, hps, h⟩ := orFail_run h
    have e1 : (caps.toList.map (Act.eval ⟨tm, ds⟩)).toArray = caps.map (Act.eval ⟨tm, ds⟩) := by rw [← Array.toList_map, Array.toArray_toList]
    rw [e1] at hr
    obtain ⟨h1, h2⟩ := ptrsOf_rep hps hr
    have e2 : first.map (Act.eval ⟨tm, ds⟩) = #[] := by rw [Array.eq_empty_of_size_eq_zero h0]; simp
    refine wp_value (v := .func (.func f) #[] (caps.map (Act.eval ⟨tm, ds⟩))) (w' := w) ?_ (putD_run h hs hd ⟨caps.map (Act.eval ⟨tm, ds⟩), rfl, by rw [hr.1, h1], h2⟩ hn)
    unfold execOp
    simp only [ho, Instr.makeFunc, e2]
    rfl
  | _ => exact h.elim
theorem aop_sound (hT : TabOk P T) (hcf : ∀ f m, cf f = some m → GoodCall P f m) (h : (aop P T cf o).run F S K) (hs : Sim w0 M N b0 nt β S w tm) (hd : ∀ t, o.dst = some t → t < nt) (hn : Nx w0 M N b0 nt ds K next) : o.wp P ⟨tm, ds⟩ w next Q := by
  cases ho : o.op with
  | move x => exact s_move (.inl ho) h hs hd hn
  | assign x => exact s_move (.inr ho) h hs hd hn
  | pick c a b => exact s_pick ho h hs hd hn
  | binOp op t x y yt => exact s_binOp ho h hs hd hn
  | makeFunc fn first caps => exact s_makeFunc ho h hs hd hn
  | unOp op t x => exact s_unOp ho h hs hd hn
  | convert a b x => exact s_convert ho h hs hd hn
  | index t x y => exact s_index hT ho h hs hd hn
  | extract x k => exact s_extract ho h hs hd hn
  | field t x f => exact s_field hT ho h hs hd hn
  | alloc t => exact s_alloc hT ho h hs hd hn
  | box t x => exact s_box ho h hs hd hn
  | load t x => exact s_load hT ho h hs hd hn
  | store t x y => exact s_store hT ho h hs hd hn
  | nilCheck x => exact s_nilCheck ho h hs hd hn
  | fieldAddr t x f => exact s_fieldAddr hT ho h hs hd hn
  | indexAddr t x y => exact s_indexAddr hT ho h hs hd hn
  | build t ps => exact s_build hT ho h hs hd hn
  | buildSlice t n ps => exact s_buildSlice hT ho h hs hd hn
  | makeSlice t x y => exact s_makeSlice hT ho h hs hd hn
  | slice t x lo hi mx => exact s_slice hT ho h hs hd hn
  | call c =>
    obtain ⟨callee, args, ts⟩ := c
    cases callee with
    | value f => exact s_call hcf ho h hs hd hn
    | invoke r m => simp only [aop, ho] at h; exact h.elim
    | builtin b =>
      by_cases hb1 : b = .append
      · subst hb1
        have h' := h
        simp only [aop, ho] at h'
        split at h'
        · rename_i x y t t' hx ht
          have e1 : args = #[x, y] := by rw [← Array.toArray_toList (xs := args), hx]
          have e2 : ts = #[t, t'] := by rw [← Array.toArray_toList (xs := ts), ht]
          subst e1 e2
          have e3 : t' = t := by
            obtain ⟨a, h', _⟩ := getO_run (ds := ds) h' hs
            obtain ⟨b, h', hrb⟩ := getO_run (ds := ds) h' hs
            obtain ⟨_, _, h'⟩ := orFail_run h'
            obtain ⟨_, _, h'⟩ := orFail_run h'
            obtain ⟨_, _, h', _⟩ := getSl_run h' hs hrb
            exact h'.1.2.1
          subst e3
          exact s_append hT ho h hs hd hn
        · exact h'.elim
      · by_cases hb2 : b = .len
        · subst hb2
          have h' := h
          simp only [aop, ho] at h'
          split at h'
          · rename_i x t hx ht
            have e1 : args = #[x] := by rw [← Array.toArray_toList (xs := args), hx]
            have e2 : ts = #[t] := by rw [← Array.toArray_toList (xs := ts), ht]
            subst e1 e2
            exact s_len hT ho h hs hd hn
          · exact h'.elim
        · exact s_builtin ho hb1 hb2 h hs hd hn
  | _ => simp only [aop, ho] at h; exact h.elim
end
def gop (P : Program) (T : Tab) (cf : FuncId → Option (List AV → Option Tmp → AM)) (ops : Array Oper) (o : Oper) : AM :=
  match o.guard with
  | none => aop P T cf o
  | some (j, want) => match (ops[j]?).bind (·.dst) with
    | none => .fail
    | some d => .getS d fun x => match x with
      | .g (.one (.v (.bool b))) => if b = want then aop P T cf o else putD o.dst (.tup [])
      | .tup [] => putD o.dst (.tup [])
      | _ => .fail
def Ft.all : Ft := ⟨fun _ => true, fun _ => true, fun _ => true, fun _ => true⟩
def runX (F : Nat → Ft) (P : Program) (T : Tab) (cf : FuncId → Option (List AV → Option Tmp → AM)) (ops : Array Oper) : Nat → List Oper → St → (St → Prop) → Prop
  | _, [], S, K => K S
  | i, o :: rest, S, K => (gop P T cf ops o).run (F i) S (fun S' => runX F P T cf ops (i + 1) rest S' K)
def Fa : Nat → Ft := fun _ => Ft.all
section
variable {P : Program} {T : Tab} {cf : FuncId → Option (List AV → Option Tmp → AM)} {F : Ft} {S : St} {K : St → Prop} {w0 w w' : World} {M N : Nat → Prop} {b0 : Nat → Value} {nt : Nat} {β : Nat → Value} {tm : Array Value} {ds : List Deferred} {Q : Exit → Act → World → Prop} {ops : Array Oper}
theorem gop_sound {o : Oper} {next : Act → World → Prop} (hT : TabOk P T) (hcf : ∀ f m, cf f = some m → GoodCall P f m) (h : (gop P T cf ops o).run F S K) (hs : Sim w0 M N b0 nt β S w tm) (hd : ∀ t, o.dst = some t → t < nt) (hn : Nx w0 M N b0 nt ds K next) :
    if Region.wanted o (yielded ops tm) then o.wp P ⟨tm, ds⟩ w next Q else next (Act.put ⟨tm, ds⟩ o.dst undef) w := by
  unfold gop at h
  unfold Region.wanted
  cases hg : o.guard with
  | none =>
    simp only [hg] at h
    exact aop_sound hT hcf h hs hd hn
  | some p =>
    obtain ⟨j, want⟩ := p
    simp only [hg] at h
    cases hdj : (ops[j]?).bind (·.dst) with
    | none => simp only [hdj] at h; exact h.elim
    | some d =>
      simp only [hdj] at h
      obtain ⟨_, x, hx, h⟩ := h
      obtain ⟨h1, h2⟩ := hs.env d x hx
      match x, h, h2 with
      | .g (.one (.v (.bool b))), h, h2 =>
        have e : tm.getD d undef = .bool b := h2.1
        have e2 : tm[d]? = some (.bool b) := by
          have hlt : d < tm.size := by rw [hs.wide]; exact h1
          rw [Array.getElem?_eq_getElem hlt]
          rw [Array.getD_eq_getD_getElem?, Array.getElem?_eq_getElem hlt] at e
          simpa using e
        have hy : yielded ops tm j = some b := by
          unfold yielded
          rw [hdj]
          simp [e2]
        simp only [hy]
        by_cases hb : b = want
        · subst hb
          simp only [if_true] at h
          simp only [beq_self_eq_true, if_true]
          exact aop_sound hT hcf h hs hd hn
        · simp only [hb, if_false] at h
          have hne : (some b == some want) = false := by simpa using hb
          simp only [hne]
          exact putD_run h hs hd ⟨#[], rfl, rfl, fun j x hx => by simp at hx⟩ hn
      | .tup [], h, h2 =>
        obtain ⟨vs, e, hz, _⟩ := h2
        have hy : yielded ops tm j = none := by
          unfold yielded
          rw [hdj]
          have hlt : d < tm.size := by rw [hs.wide]; exact h1
          rw [Array.getD_eq_getD_getElem?, Array.getElem?_eq_getElem hlt] at e
          have e2 : tm[d]? = some (.tuple vs) := by rw [Array.getElem?_eq_getElem hlt]; simpa using e
          simp [e2]
        simp only [hy]
        have hne : ((none : Option Bool) == some want) = false := rfl
        simp only [hne]
        exact putD_run h hs hd ⟨#[], rfl, rfl, fun j x hx => by simp at hx⟩ hn
theorem runX_sound {Fs : Nat → Ft} (hT : TabOk P T) (hcf : ∀ f m, cf f = some m → GoodCall P f m) : ∀ (l : List Oper) (i : Nat) (S : St) (β : Nat → Value) (w : World) (tm : Array Value), (∀ o ∈ l, ∀ t, o.dst = some t → t < nt) → runX Fs P T cf ops i l S K → Sim w0 M N b0 nt β S w tm →
    (∀ S' β' w' tm', K S' → Sim w0 M N b0 nt β' S' w' tm' → Q .normal ⟨tm', ds⟩ w') → wpList P ops Q l ⟨tm, ds⟩ w
  | [], i, S, β, w, tm, _, h, hs, hq => hq _ _ _ _ h hs
  | o :: l, i, S, β, w, tm, hd, h, hs, hq => by
    have := gop_sound (Q := Q) (ds := ds) (next := wpList P ops Q l) hT hcf h hs (hd o (List.mem_cons_self)) (fun S' β' w' tm' hK hs' => runX_sound hT hcf l (i + 1) S' β' w' tm' (fun o' ho' => hd o' (List.mem_cons_of_mem _ ho')) hK hs' hq)
    unfold wpList
    split
    · rename_i hw; rw [if_pos hw] at this; exact .inl this
    · rename_i hw; rw [if_neg hw] at this; exact this
def AW (P : Program) (nt : Nat) (c : Code) (K : Exit → St → Prop) (S : St) : Prop :=
  ∀ w0 M N b0 β w tm, Sim w0 M N b0 nt β S w tm → c.wp P (fun e a w' => ∃ β' S', K e S' ∧ Sim w0 M N b0 nt β' S' w' a.tmps ∧ a.defers = []) ⟨tm, []⟩ w
variable {KE : Exit → St → Prop} {c x y : Code}
theorem AW.mono {K' : Exit → St → Prop} (h : AW P nt c KE S) (hk : ∀ e S, KE e S → K' e S) : AW P nt c K' S := fun w0 M N b0 β w tm hs =>
  wp_mono (h w0 M N b0 β w tm hs) fun e a w' ⟨β', S', h1, h2⟩ => ⟨β', S', hk _ _ h1, h2⟩
theorem aw_skip (h : KE .normal S) : AW P nt .skip KE S := fun w0 M N b0 β w tm hs => wp_skip ⟨β, S, h, hs, rfl⟩
theorem aw_exit {id : Nat} (h : KE (.exit id) S) : AW P nt (.exit id) KE S := fun w0 M N b0 β w tm hs => wp_exit ⟨β, S, h, hs, rfl⟩
theorem aw_ret (h : KE .ret S) : AW P nt .ret KE S := fun w0 M N b0 β w tm hs => wp_ret ⟨β, S, h, hs, rfl⟩
def thenK (P : Program) (nt : Nat) (y : Code) (KE : Exit → St → Prop) : Exit → St → Prop
  | .normal, S => AW P nt y KE S
  | e, S => KE e S
theorem aw_seq (h : AW P nt x (thenK P nt y KE) S) : AW P nt (.seq x y) KE S := fun w0 M N b0 β w tm hs =>
  wp_seq (wp_mono (h w0 M N b0 β w tm hs) fun e a w' ⟨β', S', h1, h2, h3⟩ => by
    obtain ⟨tm', ds'⟩ := a
    dsimp only at h2 h3
    subst h3
    cases e with
    | normal => exact h1 w0 M N b0 β' w' tm' h2
    | _ => exact ⟨β', S', h1, h2, rfl⟩)
def evalO (S : St) : Operand → Option AV
  | .tmp t => S.E t
  | .const v => some (.g (.one (.v v)))
  | _ => none
theorem aw_cond {o : Operand} {b : Bool} (hb : evalO S o = some (.g (.one (.v (.bool b))))) (ht : b = true → AW P nt x KE S) (hf : b = false → AW P nt y KE S) : AW P nt (.cond o x y) KE S := fun w0 M N b0 β w tm hs => by
  have he : Act.eval ⟨tm, []⟩ o = .bool b := by
    cases o with
    | tmp t => exact (hs.env t _ hb).2.1
    | const v => simp only [evalO, Option.some.injEq, AV.g.injEq, AG.one.injEq, AC.v.injEq] at hb; exact hb
    | global g => cases hb
    | func f => cases hb
  exact wp_cond_split he (fun h => ht h w0 M N b0 β w tm hs) (fun h => hf h w0 M N b0 β w tm hs)
def blockK (id : Nat) (KE : Exit → St → Prop) : Exit → St → Prop
  | .exit id', S => if id' = id then KE .normal S else KE (.exit id') S
  | e, S => KE e S
theorem aw_block {id : Nat} (h : AW P nt c (blockK id KE) S) : AW P nt (.block id c) KE S := fun w0 M N b0 β w tm hs =>
  wp_block (wp_mono (h w0 M N b0 β w tm hs) fun e a w' ⟨β', S', h1, h2, h3⟩ => by
    cases e with
    | exit id' =>
      simp only [blockK] at h1
      simp only [Exit.inBlock]
      split at h1
      · rename_i he; rw [if_pos he]; exact ⟨β', S', h1, h2, h3⟩
      · rename_i he; rw [if_neg he]; exact ⟨β', S', h1, h2, h3⟩
    | _ => exact ⟨β', S', h1, h2, h3⟩)
theorem aw_loop {σ : Type} (I : σ → St → Prop) (μ : σ → Nat) (g0 : σ) (h0 : I g0 S)
    (round : ∀ g S', I g S' → AW P nt c (fun e S'' => match e with
      | .normal => ∃ g', I g' S'' ∧ μ g' < μ g
      | e => KE e S'') S') : AW P nt (.loop c) KE S := fun w0 M N b0 β w tm hs => by
  intro b k cs
  have key : ∀ n g S' β' w' tm', μ g = n → I g S' → Sim w0 M N b0 nt β' S' w' tm' → ∃ e a' w'', (∃ β' S', KE e S' ∧ Sim w0 M N b0 nt β' S' w'' a'.tmps ∧ a'.defers = []) ∧ Arrives P (lone (b.at ⟨tm', []⟩ (.code c :: .inLoop c :: k)) cs w') b k cs e a' w'' := by
    intro n
    induction n using Nat.strongRecOn with
    | _ n ih =>
      intro g S' β' w' tm' hn hI hs'
      obtain ⟨e, a₁, w₁, hq, harr⟩ := round g S' hI w0 M N b0 β' w' tm' hs' b (.inLoop c :: k) cs
      cases e with
      | normal =>
        obtain ⟨β₁, S₁, ⟨g', hI', hlt⟩, hs₁, hd⟩ := hq
        obtain ⟨tm₁, ds₁⟩ := a₁
        dsimp only at hs₁ hd
        subst hd
        obtain ⟨e₂, a₂, w₂, hq₂, harr₂⟩ := ih (μ g') (hn ▸ hlt) g' S₁ β₁ w₁ tm₁ rfl hI' hs₁
        exact ⟨e₂, a₂, w₂, hq₂, .of_steps (Steps.trans harr (.one step_inLoop)) harr₂⟩
      | exit id => exact ⟨_, a₁, w₁, hq, .pass (x := .inLoop c) rfl (fun _ _ => .inl (by simp)) harr⟩
      | goto l => exact ⟨_, a₁, w₁, hq, .pass (x := .inLoop c) rfl (fun _ _ => .inl (by simp)) harr⟩
      | ret => exact ⟨_, a₁, w₁, hq, .pass (x := .inLoop c) rfl (fun _ _ => .inl (by simp)) harr⟩
      | panic ch => exact ⟨_, a₁, w₁, hq, .pass (x := .inLoop c) rfl (fun _ _ => .inl (by simp)) harr⟩
      | outgrown => exact ⟨_, a₁, w₁, hq, .pass (x := .inLoop c) rfl (fun _ _ => .inl (by simp)) harr⟩
  obtain ⟨e, a', w', hq, harr⟩ := key _ g0 S β w tm rfl h0 hs
  exact ⟨e, a', w', hq, .of_steps (.one step_loop) harr⟩
theorem aw_region (hT : TabOk P T) (hcf : ∀ f m, cf f = some m → GoodCall P f m) {id : Nat} {l : List Oper} (hd : (l.all fun o => match o.dst with | some d => decide (d < nt) | none => true) = true)
    (h : runX Fa P T cf l.toArray 0 l S (KE .normal)) : AW P nt (.region id l.toArray false) KE S := fun w0 M N b0 β w tm hs =>
  wp_region_lit (runX_sound hT hcf l 0 S β w tm (fun o ho t ht => by
    have := (List.all_eq_true.1 hd) o ho
    rw [ht] at this
    simpa using this) h hs (fun S' β' w' tm' hK hs' => ⟨β', S', hK, hs', rfl⟩))
def AC.on (G : Nat → Bool) : AC → Bool
  | .sl i _ _ => G i
  | .ptr i _ _ => G i
  | .sb i _ _ _ => G i
  | .fn _ c => c.all fun p => G p.1
  | _ => true
def AG.on (G : Nat → Bool) : AG → Bool
  | .one c => c.on G
  | .agg cs => cs.all (AC.on G)
def AV.on (G : Nat → Bool) : AV → Bool
  | .g x => x.on G
  | .tup xs => xs.all (AG.on G)
def Ent.on (G : Nat → Bool) : Ent → Bool
  | .box cs => cs.all (AC.on G)
  | .rbx cs => cs.all (AC.on G)
  | _ => true
section
variable {ok ok' : Nat → Prop} {G G' : Blk} {on : Nat → Bool}
theorem PtrRep.cut {i r o : Nat} {y : Value} (hG : ∀ i, on i = true → G' i = G i) (hi : on i = true) (h : PtrRep β G i r o y) : PtrRep β G' i r o y := by
  obtain ⟨h0, r', e, h1, h2⟩ := h
  exact ⟨h0, r', e, by rw [hG i hi]; exact h1, h2⟩
theorem AC.rep_cut {c : AC} {y : Value} (hG : ∀ i, on i = true → G' i = G i) (hok : ∀ b, ok b → ok' b) (hc : c.on on = true) (h : c.rep w β G ok y) : c.rep w β G' ok' y := by
  cases c with
  | v x => exact h
  | ro sz n l => exact RoRep.mono (fun b hb => ⟨hok b hb, rfl⟩) h
  | sl i r n =>
    obtain ⟨h0, r', e, h1, h2⟩ := h
    exact ⟨h0, r', e, by rw [hG i hc]; exact h1, h2⟩
  | ptr i r o => exact PtrRep.cut hG hc h
  | rp l => obtain ⟨h1, b, off, e, hb, hcc⟩ := h; exact ⟨h1, b, off, e, hok b hb, hcc⟩
  | fn f c =>
    obtain ⟨vs, h1, h2, h3⟩ := h
    refine ⟨vs, h1, h2, fun j p hp => ?_⟩
    obtain ⟨z, hz, hr⟩ := h3 j p hp
    exact ⟨z, hz, hr.cut hG ((List.all_eq_true.1 hc) p (List.mem_of_getElem? hp))⟩
  | er => exact h
  | sb i r n c0 =>
    obtain ⟨h0, r', e, h1, h2⟩ := h
    exact ⟨h0, r', e, by rw [hG i hc]; exact h1, h2⟩
theorem CsRep.cut {cs : List AC} {vs : Array Value} (hG : ∀ i, on i = true → G' i = G i) (hok : ∀ b, ok b → ok' b) (hc : cs.all (AC.on on) = true) (h : CsRep w β G ok cs vs) : CsRep w β G' ok' cs vs :=
  ⟨h.1, fun j c hj => let ⟨z, hz, hr⟩ := h.2 j c hj; ⟨z, hz, AC.rep_cut hG hok ((List.all_eq_true.1 hc) c (List.mem_of_getElem? hj)) hr⟩⟩
theorem AG.rep_cut {x : AG} {y : Value} (hG : ∀ i, on i = true → G' i = G i) (hok : ∀ b, ok b → ok' b) (hc : x.on on = true) (h : x.rep w β G ok y) : x.rep w β G' ok' y := by
  cases x with
  | one c => exact AC.rep_cut hG hok hc h
  | agg cs => obtain ⟨vs, h1, h2⟩ := h; exact ⟨vs, h1, h2.cut hG hok hc⟩
theorem AV.rep_cut {x : AV} {y : Value} (hG : ∀ i, on i = true → G' i = G i) (hok : ∀ b, ok b → ok' b) (hc : x.on on = true) (h : x.rep w β G ok y) : x.rep w β G' ok' y := by
  cases x with
  | g c => exact AG.rep_cut hG hok hc h
  | tup xs =>
    obtain ⟨vs, h1, h2, h3⟩ := h
    exact ⟨vs, h1, h2, fun j x hx => let ⟨z, hz, hr⟩ := h3 j x hx; ⟨z, hz, AG.rep_cut hG hok ((List.all_eq_true.1 hc) x (List.mem_of_getElem? hx)) hr⟩⟩
end
theorem Sim.cut (h : Sim w0 M N b0 nt β S w tm) (E' : Slots) (G' : Blk) (on : Nat → Bool) (hG : ∀ i, on i = true → G' i = S.G i) (hG2 : ∀ i r e, G' i = some (r, e) → S.G i = some (r, e) ∧ e.on on = true) (hE : ∀ i a, E' i = some a → S.E i = some a ∧ a.on on = true) :
    Sim w0 M N b0 nt β ⟨E', G'⟩ w tm := by
  have hok : ∀ b, okB w0 N β S.G w b → okB w0 N β G' w b := fun b ⟨h1, h2, h3⟩ => ⟨h1, fun ⟨i, r, e, hi, hl, hb⟩ => h2 ⟨i, r, e, (hG2 i r e hi).1, hl, hb⟩, h3⟩
  refine ⟨h.os, h.tape, h.output, h.glo, h.size, h.block, ?_, ?_, ?_, fun i e hi hg => h.pin i e hi (hG2 i 0 e hg).1, h.wide, ?_⟩
  · intro i r e hi
    obtain ⟨h1, h2⟩ := hG2 i r e hi
    have hr := h.ents i r e h1
    cases e with
    | box cs => obtain ⟨g, vs, t, e1, e2, e3⟩ := hr; exact ⟨g, vs, t, e1, e2, e3.cut hG hok h2⟩
    | row e sz l => exact hr
    | fro sz l => obtain ⟨n, e1⟩ := hr; exact ⟨n, RoRep.mono (fun b hb => ⟨hok b hb, rfl⟩) e1⟩
    | rbx cs => obtain ⟨g, vs, t, fr, e1, e2, e3, e4⟩ := hr; exact ⟨g, vs, t, fr, e1, e2, e3.cut hG hok h2, fun ⟨i, r, e, hi, hl, hb⟩ => e4 ⟨i, r, e, (hG2 i r e hi).1, hl, hb⟩⟩
    | gst R => exact hr
  · intro i j r e r' e' b hi hl hj hl' hbi hbj
    exact h.apart i j r e r' e' b (hG2 i r e hi).1 hl (hG2 j r' e' hj).1 hl' hbi hbj
  · intro i r e b hi hl hb
    exact h.fresh i r e b (hG2 i r e hi).1 hl hb
  · intro i a ha
    obtain ⟨h1, h2⟩ := hE i a ha
    obtain ⟨h3, h4⟩ := h.env i a h1
    exact ⟨h3, AV.rep_cut hG hok h2 h4⟩
theorem aw_cut (E' : Slots) (G' : Blk) (on : Nat → Bool) (hG : ∀ i, on i = true → G' i = S.G i) (hG2 : ∀ i r e, G' i = some (r, e) → S.G i = some (r, e) ∧ e.on on = true) (hE : ∀ i a, E' i = some a → S.E i = some a ∧ a.on on = true)
    (h : AW P nt c KE ⟨E', G'⟩) : AW P nt c KE S := fun w0 M N b0 β w tm hs => h w0 M N b0 β w tm (hs.cut E' G' on hG hG2 hE)
end
def AC.ren (σ : Nat → Nat × Nat) : AC → AC
  | .sl i _ n => .sl (σ i).1 (σ i).2 n
  | .ptr i _ o => .ptr (σ i).1 (σ i).2 o
  | .sb i _ n c => .sb (σ i).1 (σ i).2 n c
  | .fn f c => .fn f (c.map fun p => σ p.1)
  | c => c
def AG.ren (σ : Nat → Nat × Nat) : AG → AG
  | .one c => .one (c.ren σ)
  | .agg cs => .agg (cs.map (AC.ren σ))
def AV.ren (σ : Nat → Nat × Nat) : AV → AV
  | .g x => .g (x.ren σ)
  | .tup xs => .tup (xs.map (AG.ren σ))
def AC.refs : AC → List (Nat × Nat)
  | .sl i r _ => [(i, r)]
  | .ptr i r _ => [(i, r)]
  | .sb i r _ _ => [(i, r)]
  | .fn _ c => c
  | _ => []
def AG.refs : AG → List (Nat × Nat)
  | .one c => c.refs
  | .agg cs => cs.flatMap AC.refs
def AV.refs : AV → List (Nat × Nat)
  | .g x => x.refs
  | .tup xs => xs.flatMap AG.refs
section
variable {w w' : World} {β β' : Nat → Value} {G G' : Blk} {ok ok' : Nat → Prop} {σ : Nat → Nat × Nat}
def RenOk (σ : Nat → Nat × Nat) (β β' : Nat → Value) (G G' : Blk) (l : List (Nat × Nat)) : Prop := ∀ p ∈ l, (∃ e, G p.1 = some (p.2, e)) ∧ (∃ e', G' (σ p.1).1 = some ((σ p.1).2, e')) ∧ β' (σ p.1).1 = β p.1
theorem PtrRep.ren {i r o : Nat} {y : Value} (hσ : RenOk σ β β' G G' [(i, r)]) (h : PtrRep β G i r o y) : PtrRep β' G' (σ i).1 (σ i).2 o y := by
  obtain ⟨⟨e, h1⟩, ⟨e', h2⟩, h3⟩ := hσ (i, r) (List.mem_singleton.2 rfl)
  obtain ⟨h0, r', e2, g1, g2, g3⟩ := h
  have : r = r' := by
    have : some (r, e) = some (r', e2) := h1.symm.trans g1
    cases this; rfl
  exact ⟨h0, _, e', h2, Nat.le_refl _, fun _ => by rw [h3]; exact g3 this⟩
theorem SbRep.ren {i r n c : Nat} {y : Value} (hσ : RenOk σ β β' G G' [(i, r)]) (h : SbRep β G i r n c y) : SbRep β' G' (σ i).1 (σ i).2 n c y := by
  obtain ⟨⟨e, h1⟩, ⟨e', h2⟩, h3⟩ := hσ (i, r) (List.mem_singleton.2 rfl)
  obtain ⟨h0, r', e2, g1, g2, g3⟩ := h
  have : r = r' := by
    have : some (r, e) = some (r', e2) := h1.symm.trans g1
    cases this; rfl
  exact ⟨h0, _, e', h2, Nat.le_refl _, fun _ => by rw [h3]; exact g3 this⟩
theorem AC.rep_ren {c : AC} {y : Value} (hσ : RenOk σ β β' G G' c.refs) (hok : ∀ b, ok b → ok' b ∧ w'.heap[b]? = w.heap[b]?) (h : c.rep w β G ok y) : (c.ren σ).rep w' β' G' ok' y := by
  cases c with
  | v x => exact h
  | ro sz n l => exact RoRep.mono hok h
  | sl i r n =>
    obtain ⟨⟨e, h1⟩, ⟨e', h2⟩, h3⟩ := hσ (i, r) (List.mem_singleton.2 rfl)
    obtain ⟨h0, r', e2, g1, g2, g3⟩ := h
    have : r = r' := by
      have : some (r, e) = some (r', e2) := h1.symm.trans g1
      cases this; rfl
    exact ⟨h0, _, e', h2, Nat.le_refl _, fun _ => by rw [h3]; exact g3 this⟩
  | ptr i r o => exact PtrRep.ren hσ h
  | rp l => obtain ⟨h1, b, off, e, hb, hc⟩ := h; exact ⟨h1, b, off, e, (hok b hb).1, hc.keep (hok b hb).2⟩
  | fn f c =>
    obtain ⟨vs, h1, h2, h3⟩ := h
    refine ⟨vs, h1, by simpa using h2, fun j p hp => ?_⟩
    simp only [List.getElem?_map, Option.map_eq_some_iff] at hp
    obtain ⟨q, hq, rfl⟩ := hp
    obtain ⟨z, hz, hr⟩ := h3 j q hq
    exact ⟨z, hz, hr.ren fun p hp => hσ p (by rw [List.mem_singleton.1 hp]; exact List.mem_of_getElem? hq)⟩
  | er => exact h
  | sb i r n c0 => exact SbRep.ren hσ h
theorem CsRep.ren {cs : List AC} {vs : Array Value} (hσ : RenOk σ β β' G G' (cs.flatMap AC.refs)) (hok : ∀ b, ok b → ok' b ∧ w'.heap[b]? = w.heap[b]?) (h : CsRep w β G ok cs vs) : CsRep w' β' G' ok' (cs.map (AC.ren σ)) vs := by
  refine ⟨by simpa using h.1, fun j c hj => ?_⟩
  simp only [List.getElem?_map, Option.map_eq_some_iff] at hj
  obtain ⟨d, hd, rfl⟩ := hj
  obtain ⟨z, hz, hr⟩ := h.2 j d hd
  exact ⟨z, hz, AC.rep_ren (fun p hp => hσ p (List.mem_flatMap.2 ⟨d, List.mem_of_getElem? hd, hp⟩)) hok hr⟩
theorem AG.rep_ren {x : AG} {y : Value} (hσ : RenOk σ β β' G G' x.refs) (hok : ∀ b, ok b → ok' b ∧ w'.heap[b]? = w.heap[b]?) (h : x.rep w β G ok y) : (x.ren σ).rep w' β' G' ok' y := by
  cases x with
  | one c => exact AC.rep_ren hσ hok h
  | agg cs => obtain ⟨vs, h1, h2⟩ := h; exact ⟨vs, h1, h2.ren hσ hok⟩
theorem AV.rep_ren {x : AV} {y : Value} (hσ : RenOk σ β β' G G' x.refs) (hok : ∀ b, ok b → ok' b ∧ w'.heap[b]? = w.heap[b]?) (h : x.rep w β G ok y) : (x.ren σ).rep w' β' G' ok' y := by
  cases x with
  | g c => exact AG.rep_ren hσ hok h
  | tup xs =>
    obtain ⟨vs, h1, h2, h3⟩ := h
    refine ⟨vs, h1, by simpa using h2, fun j x hx => ?_⟩
    simp only [List.getElem?_map, Option.map_eq_some_iff] at hx
    obtain ⟨d, hd, rfl⟩ := hx
    obtain ⟨z, hz, hr⟩ := h3 j d hd
    exact ⟨z, hz, AG.rep_ren (fun p hp => hσ p (List.mem_flatMap.2 ⟨d, List.mem_of_getElem? hd, hp⟩)) hok hr⟩
end
def Gin (es : List Ent) : Blk := fun i => if 100000 ≤ i then (es[i - 100000]?).map fun e => (0, e) else none
def Gout (news es : List Ent) : Blk := fun i => if 100000 ≤ i then (es[i - 100000]?).map fun e => (0, e) else (news[i]?).map fun e => (0, e)
def argsE (as : List AV) : Slots := fun i => as[i]?
abbrev Fn3 := List AV → List Ent → Option (AV × List Ent × List Ent)
def Mof (β : Nat → Value) (es : List Ent) (b : Nat) : Prop := ∃ j e, es[j]? = some e ∧ e.live ∧ blk? (β (100000 + j)) = some b
structure ConOk (P : Program) (f : FuncId) (C : Fn3) : Prop where
  enters : ∀ args w, (callFunc f args).run P w = .ok (.enter f args) w
  does : ∀ as es out news es', C as es = some (out, news, es') → ∀ w vs β N, (∀ b, N b → b < w.heap.size ∧ ¬ Mof β es b) → Sim w (Mof β es) N β vs.size β ⟨argsE as, Gin es⟩ w vs → vs.size = as.length →
    Calls P f vs w fun e w' => ∃ v β', e = .returned v ∧ Sim w (Mof β es) N β 0 β' ⟨fun _ => none, Gout news es'⟩ w' #[] ∧ out.rep w' β' (Gout news es') (okB w N β' (Gout news es') w') v ∧
      es'.length = es.length ∧ (es'.all fun e => e.on fun _ => false) = true ∧ (∀ p ∈ out.refs, ∃ e, Gout news es' p.1 = some (p.2, e))
def readR (tm : Array Value) : ResultVar → Sem Value
  | .tmp t => pure (tm.getD t undef)
  | .cell a t => do loadVar t (← asAddr (tm.getD a undef))
def resG (T : Tab) (S : St) : ResultVar → Option AG
  | .tmp t => match S.E t with
    | some (.g x) => some x
    | _ => none
  | .cell t ty => match S.E t, find1 T.lay ty with
    | some (.g (.one (.ptr i r 0))), some (agg, size) => match S.G i with
      | some (r', .box cs) => if r = r' ∧ cs.length = size then (match ofa agg cs with
        | some (.g y) => some y
        | _ => none) else none
      | _ => none
    | _, _ => none
def resL (T : Tab) (S : St) : List ResultVar → Option (List AG)
  | [] => some []
  | x :: l => match resG T S x, resL T S l with
    | some a, some as => some (a :: as)
    | _, _ => none
def tupOf : List AG → AV
  | [x] => .g x
  | xs => .tup xs
def RetOk (T : Tab) (rs : Array ResultVar) (out : AV) (news es' : List Ent) (S : St) : Prop :=
  ∃ (xs : List AG) (τ : Nat → Nat) (ids : List (Nat × Nat)), resL T S rs.toList = some xs ∧ (tupOf xs).ren (fun i => (τ i, 0)) = out ∧
    ids.length = news.length ∧ news.length ≤ 100 ∧ (∀ (k : Nat) (e : Ent), news[k]? = some e → ∃ p : Nat × Nat, ids[k]? = some p ∧ S.G p.1 = some (p.2, e) ∧ e.on (fun _ => false) = true) ∧ (ids.map (·.1)).Nodup ∧ (ids.all fun (p : Nat × Nat) => decide (p.1 < 100000)) = true ∧
    (∀ (j : Nat) (e : Ent), es'[j]? = some e → S.G (100000 + j) = some (0, e) ∧ e.on (fun _ => false) = true) ∧
    (∀ p ∈ (tupOf xs).refs, (∃ e, S.G p.1 = some (p.2, e)) ∧ ((∃ k : Nat, ids[k]? = some p ∧ τ p.1 = k) ∨ (∃ j, p.1 = 100000 + j ∧ j < es'.length ∧ τ p.1 = 100000 + j)))
def retK (T : Tab) (rs : Array ResultVar) (out : AV) (news es' : List Ent) : Exit → St → Prop
  | .ret, S => RetOk T rs out news es' S
  | .normal, S => RetOk T rs out news es' S
  | _, _ => False
section
variable {P : Program} {T : Tab} {w0 w w' : World} {M N : Nat → Prop} {b0 : Nat → Value} {nt : Nat} {β : Nat → Value} {S : St} {tm : Array Value}
theorem Sim.wider (h : Sim w0 M N b0 nt β S w tm) (k : Nat) (v : Value) : Sim w0 M N b0 (nt + k) β S w (tm ++ Array.replicate k v) :=
  ⟨h.os, h.tape, h.output, h.glo, h.size, h.block, h.ents, h.apart, h.fresh, h.pin, by simp [h.wide], fun i a ha => by
    obtain ⟨h1, h2⟩ := h.env i a ha
    refine ⟨by omega, ?_⟩
    have hlt : i < tm.size := by rw [h.wide]; exact h1
    have e : (tm ++ Array.replicate k v).getD i undef = tm.getD i undef := by
      simp only [Array.getD_eq_getD_getElem?, Array.getElem?_append, hlt, if_true]
    rw [e]; exact h2⟩
theorem resG_run (hT : TabOk P T) (hs : Sim w0 M N b0 nt β S w tm) {x : ResultVar} {a : AG} (h : resG T S x = some a) :
    ∃ v, (readR tm x).run P w = .ok v w ∧ a.rep w β S.G (okB w0 N β S.G w) v := by
  cases x with
  | tmp t =>
    simp only [resG] at h
    split at h
    · rename_i x hx
      cases h
      exact ⟨_, rfl, (hs.env t _ hx).2⟩
    · cases h
  | cell t ty =>
    simp only [resG] at h
    split at h
    · rename_i i r agg size hx hl
      have hr : PtrRep β S.G i r 0 (tm.getD t undef) := (hs.env t _ hx).2
      split at h
      · rename_i r' cs hG
        split at h
        · rename_i hc
          obtain ⟨rfl, hlen⟩ := hc
          split at h
          · rename_i y hy
            cases h
            obtain ⟨g, vs, t', he, hβ, hh, hcs⟩ := hs.cur_box hr hG
            obtain ⟨p1, p2⟩ := csRep_part hcs 0 size
            have e1 : (cs.drop 0).take size = cs := by rw [List.drop_zero, ← hlen, List.take_length]
            rw [e1] at p1 p2
            obtain ⟨q1, q2⟩ := ofa_rep hy p1 p2
            have hlay := hT.lay _ (find1_mem hl)
            have hlen2 : ((vs.toList.drop 0).take size).length = size := by simp [hcs.1]; omega
            have hrun := run_load_cells hlay hlen2 (cells_of_heap hh 0 size) (fun hf => by have := q2 hf; omega)
            refine ⟨_, ?_, q1⟩
            unfold readR
            dsimp only
            rw [he]
            simp only [asAddr, Sem.run_bind, Sem.run_pure, Result.andThen_ok]
            simpa [Instr.loadAt, Instr.sureAddr] using hrun
          · cases h
        · cases h
      · cases h
    · cases h
theorem noref {ok ok' : Nat → Prop} {β' : Nat → Value} {G G' : Blk} {c : AC} {y : Value} (hc : c.on (fun _ => false) = true) (hok : ∀ b, ok b → ok' b) (h : c.rep w β G ok y) : c.rep w β' G' ok' y := by
  cases c with
  | v x => exact h
  | ro sz n l => exact RoRep.mono (fun b hb => ⟨hok b hb, rfl⟩) h
  | sl i r n => cases hc
  | ptr i r o => cases hc
  | rp l => obtain ⟨h1, b, off, e, hb, hcc⟩ := h; exact ⟨h1, b, off, e, hok b hb, hcc⟩
  | fn f c =>
    cases c with
    | nil => obtain ⟨vs, h1, h2, h3⟩ := h; exact ⟨vs, h1, h2, fun j p hp => by simp at hp⟩
    | cons p c => simp [AC.on] at hc
  | er => exact h
  | sb i r n c0 => cases hc
theorem noref_ent {ok ok' : Nat → Prop} {β' : Nat → Value} {G G' : Blk} {e : Ent} {i i' : Nat} (hc : e.on (fun _ => false) = true) (hok : ∀ b, ok b → ok' b) (hown : ∀ b, ownB β' G' b → ownB β G b) (hβ : β' i' = β i) (h : e.rep w β G ok i) : e.rep w β' G' ok' i' := by
  cases e with
  | box cs =>
    obtain ⟨g, vs, t, e1, e2, e3⟩ := h
    exact ⟨g, vs, t, hβ.trans e1, e2, e3.1, fun j c hj => let ⟨z, hz, hr⟩ := e3.2 j c hj; ⟨z, hz, noref ((List.all_eq_true.1 hc) c (List.mem_of_getElem? hj)) hok hr⟩⟩
  | row e sz l =>
    obtain ⟨h0, e', n, h1, h2⟩ := h
    exact ⟨h0, e', n, h1, by rw [hβ]; exact h2⟩
  | fro sz l =>
    obtain ⟨n, h1⟩ := h
    exact ⟨n, by rw [hβ]; exact RoRep.mono (fun b hb => ⟨hok b hb, rfl⟩) h1⟩
  | rbx cs =>
    obtain ⟨g, vs, t, fr, e1, e2, e3, e4⟩ := h
    exact ⟨g, vs, t, fr, hβ.trans e1, e2, ⟨e3.1, fun j c hj => let ⟨z, hz, hr⟩ := e3.2 j c hj; ⟨z, hz, noref ((List.all_eq_true.1 hc) c (List.mem_of_getElem? hj)) hok hr⟩⟩, fun ho => e4 (hown g ho)⟩
  | gst R =>
    obtain ⟨g, o, e1, e2, e3⟩ := h
    exact ⟨g, o, hβ.trans e1, e2, e3⟩
theorem resL_run (hT : TabOk P T) (hs : Sim w0 M N b0 nt β S w tm) : ∀ (l : List ResultVar) {as : List AG}, resL T S l = some as → ∃ vs : List Value, (l.mapM (readR tm)).run P w = .ok vs w ∧ vs.length = as.length ∧ ∀ (j : Nat) (a : AG), as[j]? = some a → ∃ z, vs[j]? = some z ∧ a.rep w β S.G (okB w0 N β S.G w) z
  | [], as, h => by cases h; exact ⟨[], rfl, rfl, fun j a hj => by simp at hj⟩
  | x :: l, as, h => by
    simp only [resL] at h
    split at h
    · rename_i a as' ha has
      cases h
      obtain ⟨v, h1, h2⟩ := resG_run hT hs ha
      obtain ⟨vs, h3, h4, h5⟩ := resL_run hT hs l has
      refine ⟨v :: vs, ?_, by simpa using h4, fun j b hj => ?_⟩
      · rw [List.mapM_cons, Sem.run_bind, h1]
        simp only [Result.andThen_ok, Sem.run_bind, h3, Sem.run_pure]
      · cases j with
        | zero => cases hj; exact ⟨v, rfl, h2⟩
        | succ j => exact h5 j b (by simpa using hj)
    · cases h
theorem ret_sound (hT : TabOk P T) (hs : Sim w0 M N b0 nt β S w tm) {fn : Func} {out : AV} {news es' : List Ent} (h : RetOk T fn.results out news es' S) :
    ∃ v β', (results fn tm).run P w = .ok v w ∧ Sim w0 M N b0 0 β' ⟨fun _ => none, Gout news es'⟩ w #[] ∧ out.rep w β' (Gout news es') (okB w0 N β' (Gout news es') w) v ∧
      (∀ p ∈ out.refs, ∃ e, Gout news es' p.1 = some (p.2, e)) := by
  obtain ⟨xs, τ, ids, h1, h2, h3, hnews, h4, h5, h6, h7, h8⟩ := h
  obtain ⟨vs, g1, g2, g3⟩ := resL_run hT hs _ h1
  let β' : Nat → Value := fun i => if 100000 ≤ i then β i else match ids[i]? with | some p => β p.1 | none => undef
  have hβ1 : ∀ j, β' (100000 + j) = β (100000 + j) := fun j => by simp [β']
  have hβ2 : ∀ k p, k < 100000 → ids[k]? = some p → β' k = β p.1 := fun k p hk hp => by simp [β', hp, show ¬ 100000 ≤ k by omega]
  have hid : ∀ p ∈ ids, p.1 < 100000 := fun p hp => by simpa using (List.all_eq_true.1 h6) p hp
  -- an own block of before for each that is given back
  have old : ∀ i r e, Gout news es' i = some (r, e) → ∃ i0 r0, S.G i0 = some (r0, e) ∧ β' i = β i0 ∧ e.on (fun _ => false) = true ∧ ((i < 100000 ∧ ∃ p, ids[i]? = some p ∧ p.1 = i0) ∨ (100000 ≤ i ∧ i0 = i)) := by
    intro i r e hi
    unfold Gout at hi
    split at hi
    · rename_i hge
      simp only [Option.map_eq_some_iff, Prod.mk.injEq] at hi
      obtain ⟨e0, he0, _, rfl⟩ := hi
      obtain ⟨q1, q2⟩ := h7 _ _ he0
      have e1 : 100000 + (i - 100000) = i := by omega
      rw [e1] at q1
      exact ⟨i, 0, q1, by simp [β', hge], q2, .inr ⟨hge, rfl⟩⟩
    · rename_i hlt
      simp only [Option.map_eq_some_iff, Prod.mk.injEq] at hi
      obtain ⟨e0, he0, _, rfl⟩ := hi
      obtain ⟨p, q1, q2, q3⟩ := h4 _ _ he0
      exact ⟨p.1, p.2, q2, hβ2 i p (by omega) q1, q3, .inl ⟨by omega, p, q1, rfl⟩⟩
  have hown : ∀ b, ownB β' (Gout news es') b → ownB β S.G b := fun b ⟨i, r, e, hi, hl, hb⟩ => by
    obtain ⟨i0, r0, q1, q2, _⟩ := old i r e hi
    exact ⟨i0, r0, e, q1, hl, by rw [← q2]; exact hb⟩
  have hok : ∀ b, okB w0 N β S.G w b → okB w0 N β' (Gout news es') w b := fun b ⟨a1, a2, a3⟩ => ⟨a1, fun ho => a2 (hown b ho), a3⟩
  have hsim : Sim w0 M N b0 0 β' ⟨fun _ => none, Gout news es'⟩ w #[] := by
    refine ⟨hs.os, hs.tape, hs.output, hs.glo, hs.size, hs.block, ?_, ?_, ?_, ?_, rfl, fun i a ha => by cases ha⟩
    · intro i r e hi
      obtain ⟨i0, r0, q1, q2, q3, _⟩ := old i r e hi
      exact noref_ent q3 hok hown q2 (hs.ents i0 r0 e q1)
    · intro i j r e r' e' b hi hl hj hl' hbi hbj
      obtain ⟨i0, r0, q1, q2, _, q4⟩ := old i r e hi
      obtain ⟨j0, s0, p1, p2, _, p4⟩ := old j r' e' hj
      rw [q2] at hbi
      rw [p2] at hbj
      have he := hs.apart i0 j0 r0 e s0 e' b q1 hl p1 hl' hbi hbj
      rcases q4 with ⟨a1, p, a2, a3⟩ | ⟨a1, a2⟩ <;> rcases p4 with ⟨b1, q, b2, b3⟩ | ⟨b1, b2⟩
      · have hi1 : (ids.map (·.1))[i]? = some i0 := by simp [a2, a3]
        have hj1 : (ids.map (·.1))[j]? = some i0 := by simp [b2, b3, he]
        have hlt : i < (ids.map (·.1)).length := (List.getElem?_eq_some_iff.1 hi1).1
        exact (List.getElem?_inj hlt h5).1 (hi1.trans hj1.symm)
      · have := hid p (List.mem_of_getElem? a2)
        omega
      · have := hid q (List.mem_of_getElem? b2)
        omega
      · omega
    · intro i r e b hi hl hb
      obtain ⟨i0, r0, q1, q2, _, q4⟩ := old i r e hi
      rw [q2] at hb
      obtain ⟨f1, f2⟩ := hs.fresh i0 r0 e b q1 hl hb
      refine ⟨f1, ?_⟩
      rcases f2 with f2 | ⟨f2, f3⟩
      · exact .inl f2
      · rcases q4 with ⟨a1, p, a2, a3⟩ | ⟨a1, a2⟩
        · have := hid p (List.mem_of_getElem? a2)
          omega
        · exact .inr ⟨f2, a1⟩
    · intro i e hge hi
      replace hi : Gout news es' i = some (0, e) := hi
      obtain ⟨i0, r0, q1, q2, _, q4⟩ := old i 0 e hi
      rcases q4 with ⟨a1, _⟩ | ⟨_, rfl⟩
      · omega
      · have : S.G i0 = some (0, e) := by
          have hj := h7 (i0 - 100000) e (by
            unfold Gout at hi
            rw [if_pos hge] at hi
            simp only [Option.map_eq_some_iff, Prod.mk.injEq] at hi
            obtain ⟨e0, he0, _, rfl⟩ := hi
            exact he0)
          rw [show 100000 + (i0 - 100000) = i0 by omega] at hj
          exact hj.1
        rw [q2]; exact hs.pin i0 e hge this
  have hren : RenOk (fun i => (τ i, 0)) β β' S.G (Gout news es') (tupOf xs).refs := by
    intro p hp
    obtain ⟨q1, q2⟩ := h8 p hp
    refine ⟨q1, ?_⟩
    rcases q2 with ⟨k, hk, hτ⟩ | ⟨j, hj, hjl, hτ⟩
    · have hklt : k < news.length := by rw [← h3]; exact (List.getElem?_eq_some_iff.1 hk).1
      dsimp only
      rw [hτ]
      refine ⟨⟨news[k], ?_⟩, hβ2 k p (by omega) hk⟩
      unfold Gout
      rw [if_neg (by omega), List.getElem?_eq_getElem hklt]; rfl
    · dsimp only
      rw [hτ]
      refine ⟨⟨es'[j], ?_⟩, by rw [hβ1, hj]⟩
      unfold Gout
      rw [if_pos (by omega), show 100000 + j - 100000 = j by omega, List.getElem?_eq_getElem hjl]; rfl
  have hrefs : ∀ p ∈ out.refs, ∃ e, Gout news es' p.1 = some (p.2, e) := by
    have key : ∀ (c : AC), ∀ p ∈ (c.ren fun i => (τ i, 0)).refs, ∃ q ∈ c.refs, p = (τ q.1, 0) := by
      intro c p hp
      cases c with
      | sl i r n => exact ⟨(i, r), List.mem_singleton.2 rfl, List.mem_singleton.1 hp⟩
      | ptr i r o => exact ⟨(i, r), List.mem_singleton.2 rfl, List.mem_singleton.1 hp⟩
      | sb i r n c0 => exact ⟨(i, r), List.mem_singleton.2 rfl, List.mem_singleton.1 hp⟩
      | fn f c => obtain ⟨q, hq, rfl⟩ := List.mem_map.1 hp; exact ⟨q, hq, rfl⟩
      | _ => cases hp
    have key2 : ∀ (c : AG), ∀ p ∈ (c.ren fun i => (τ i, 0)).refs, ∃ q ∈ c.refs, p = (τ q.1, 0) := by
      intro c p hp
      cases c with
      | one c => exact key c p hp
      | agg cs =>
        obtain ⟨d, hd, hp⟩ := List.mem_flatMap.1 hp
        obtain ⟨c, hc, rfl⟩ := List.mem_map.1 hd
        obtain ⟨q, hq, e⟩ := key c p hp
        exact ⟨q, List.mem_flatMap.2 ⟨c, hc, hq⟩, e⟩
    have key3 : ∀ (a : AV), ∀ p ∈ (a.ren fun i => (τ i, 0)).refs, ∃ q ∈ a.refs, p = (τ q.1, 0) := by
      intro a p hp
      cases a with
      | g c => exact key2 c p hp
      | tup xs =>
        obtain ⟨d, hd, hp⟩ := List.mem_flatMap.1 hp
        obtain ⟨c, hc, rfl⟩ := List.mem_map.1 hd
        obtain ⟨q, hq, e⟩ := key2 c p hp
        exact ⟨q, List.mem_flatMap.2 ⟨c, hc, hq⟩, e⟩
    intro p hp
    rw [← h2] at hp
    obtain ⟨q, hq, rfl⟩ := key3 _ p hp
    exact (hren q hq).2.1
  -- the result
  have hres : ∃ v, (results fn tm).run P w = .ok v w ∧ (tupOf xs).rep w β S.G (okB w0 N β S.G w) v := by
    have hm : (fn.results.mapM (readR tm)).run P w = .ok vs.toArray w := by
      rw [Array.mapM_eq_mapM_toList, Sem.run_map, g1]
      rfl
    have e0 : results fn tm = (do let vs ← fn.results.mapM (readR tm); pure (if h : vs.size = 1 then vs[0] else .tuple vs)) := rfl
    rw [e0, Sem.run_bind, hm]
    simp only [Result.andThen_ok]
    match xs, g2, g3 with
    | [x], g2, g3 =>
      obtain ⟨v, rfl⟩ : ∃ v, vs = [v] := List.length_eq_one_iff.1 g2
      obtain ⟨z, hz, hr⟩ := g3 0 x rfl
      have e1 : v = z := by simpa using hz
      subst e1
      exact ⟨v, rfl, hr⟩
    | [], g2, g3 =>
      have e1 : vs = [] := List.eq_nil_of_length_eq_zero g2
      subst e1
      exact ⟨.tuple #[], rfl, #[], rfl, rfl, fun j x hx => by simp at hx⟩
    | x :: y :: xs, g2, g3 =>
      have hne : ¬ vs.toArray.size = 1 := by simp at g2 ⊢; omega
      refine ⟨.tuple vs.toArray, by rw [dif_neg hne]; rfl, vs.toArray, rfl, by simpa using g2, fun j a hj => ?_⟩
      obtain ⟨z, hz, hr⟩ := g3 j a hj
      exact ⟨z, by simpa using hz, hr⟩
  obtain ⟨v, hv, hr⟩ := hres
  refine ⟨v, β', hv, hsim, ?_, hrefs⟩
  rw [← h2]
  exact AV.rep_ren hren (fun b hb => ⟨hok b hb, rfl⟩) hr
end
end Go.Proofs.Ytfbcblknahicdaa
