/- The abstract run, sixth part: new variables, stores, addresses, plain work. No program is named. -/
import Derived.Test.YtgifhhefcmmdfaaAbsE
namespace Go.Proofs.Ytgifhhefcmmdfaa
set_option linter.unusedVariables false
open Go.RowKit

section
variable {P : Program} {T : Tab} {F : Ft} {S : St} {K : St → Prop} {w0 w w' : World} {M N : Nat → Prop} {b0 : Nat → Value} {nt : Nat} {β : Nat → Value} {tm : Array Value} {ds : List Deferred} {next : Act → World → Prop} {Q : Exit → Act → World → Prop} {o : Oper}
variable {cf : FuncId → Option (List AV → Option Tmp → AM)}
/-- A new own block. -/
theorem lay1_run {i : Nat} {e : Ent} {k : Nat → AM} (h : (lay1 i e k).run F S K) (hs : Sim w0 M N b0 nt β S w tm) (y : Value) (hl : e.live)
    (hos : w'.os = w.os) (htape : w'.tape = w.tape) (hout : w'.output = w.output) (hsize : w.heap.size ≤ w'.heap.size)
    (hw : ∀ k, k < w.heap.size → w'.heap[k]? = w.heap[k]?)
    (hb : ∀ b, blk? y = some b → b < w'.heap.size ∧ w.heap.size ≤ b)
    (hnew : ∀ β' G', (∀ b, okB w0 N β S.G w b → okB w0 N β' G' w' b ∧ w'.heap[b]? = w.heap[b]?) → Older β β' S.G G' → β' i = y → e.rep w' β' G' (okB w0 N β' G' w') i) :
    ∃ r β', (k r).run F (S.lay i (some (r, e))) K ∧ Sim w0 M N b0 nt β' (S.lay i (some (r, e))) w' tm ∧ β' i = y ∧ (∀ b, okB w0 N β S.G w b → okB w0 N β' (upd S.G i (some (r, e))) w' b ∧ w'.heap[b]? = w.heap[b]?) ∧ Older β β' S.G (upd S.G i (some (r, e))) := by
  obtain ⟨hlt, _, h⟩ := h
  have key : ∀ r, (∀ r1 e1, S.G i = some (r1, e1) → r1 < r) → (k r).run F (S.lay i (some (r, e))) K → ∃ r β', (k r).run F (S.lay i (some (r, e))) K ∧ Sim w0 M N b0 nt β' (S.lay i (some (r, e))) w' tm ∧ β' i = y ∧ (∀ b, okB w0 N β S.G w b → okB w0 N β' (upd S.G i (some (r, e))) w' b ∧ w'.heap[b]? = w.heap[b]?) ∧ Older β β' S.G (upd S.G i (some (r, e))) := by
    intro r hr hk
    obtain ⟨β', h1, h2, h3, h4⟩ := hs.change1 (w' := w') i r e y hos htape hout hsize (fun r1 e1 hg => by have := hr r1 e1 hg; exact ⟨by omega, fun he => by omega⟩)
      (fun k hk _ => hw k hk) (fun b _ hbb => ⟨(hb b hbb).1, .inl (hb b hbb).2⟩) (fun hge => by omega) (fun β' G' _ _ hok hold hβ => hnew β' G' hok hold hβ)
    exact ⟨r, β', hk, h1, h2, h3, h4⟩
  dsimp only at h
  split at h
  · rename_i hG
    obtain ⟨_, h⟩ := h
    exact key 0 (fun r1 e1 hg => by rw [hG] at hg; cases hg) h
  · rename_i r e' hG
    obtain ⟨_, h⟩ := h
    exact key (r + 1) (fun r1 e1 hg => by rw [hG] at hg; cases hg; omega) h
theorem ptr_new {i r : Nat} {e : Ent} {β' : Nat → Value} {G : Blk} {g : Nat} {y : Value} (hb : β' i = y) (hy : blk? y = some g) : PtrRep β' (upd G i (some (r, e))) i r 0 (.pointer (some ⟨g, 0, none⟩)) :=
  ⟨rfl, r, e, upd_same _ _ _, Nat.le_refl _, fun _ => ⟨g, by rw [hb]; exact hy, rfl⟩⟩
theorem orFail_dst {k : Nat → AM} (h : (orFail o.dst k).run F S K) : ∃ d, o.dst = some d ∧ (k d).run F S K := orFail_run h
theorem fin_box {d : Nat} {cs : List AC} {vs : Array Value} {t : TypeId} (hs : Sim w0 M N b0 nt β S w tm) (hd : ∀ t, o.dst = some t → t < nt) (hn : Nx w0 M N b0 nt ds K next) (hdst : o.dst = some d)
    (h : (lay1 (nid d 0) (.box cs) fun r => putD o.dst (.g (.one (.ptr (nid d 0) r 0)))).run F S K) (hc : CsRep w β S.G (okB w0 N β S.G w) cs vs)
    (he : (execOp (Act.eval ⟨tm, ds⟩) o).run P w = .ok (.value (.pointer (some ⟨w.heap.size, 0, none⟩))) (w.alloc (.cells vs t))) : o.wp P ⟨tm, ds⟩ w next Q := by
  obtain ⟨r, β', h1, h2, h3, h4, h5⟩ := lay1_run h hs (w' := w.alloc (.cells vs t)) (.pointer (some ⟨w.heap.size, 0, none⟩)) trivial rfl rfl rfl (by simp) (fun k hk => Below.heap_alloc w (.cells vs t) k hk)
    (fun b hb => by cases hb; simp)
    (fun β' G' hok hold hβ => ⟨w.heap.size, vs, t, hβ, heap_alloc_new w (.cells vs t), hc.mono hok hold⟩)
  exact wp_value he (putD_run h1 h2 hd (ptr_new h3 rfl) hn)
theorem s_box {t : Nat} {x : Operand} (ho : o.op = .box t x) (h : (aop P T cf o).run F S K) (hs : Sim w0 M N b0 nt β S w tm) (hd : ∀ t, o.dst = some t → t < nt) (hn : Nx w0 M N b0 nt ds K next) : o.wp P ⟨tm, ds⟩ w next Q := by
  simp only [aop, ho] at h
  obtain ⟨d, hdst, h⟩ := orFail_dst h
  obtain ⟨a, h, hr⟩ := getO_run (ds := ds) h hs
  obtain ⟨cs, hcs, h⟩ := orFail_run h
  have hc := (cellsOf_rep hcs hr).1
  refine fin_box (t := t) hs hd hn hdst h hc ?_
  unfold execOp
  simp only [ho, Instr.box, newVar, newRow]
  rfl
theorem s_alloc (hT : TabOk P T) {t : Nat} (ho : o.op = .alloc t) (h : (aop P T cf o).run F S K) (hs : Sim w0 M N b0 nt β S w tm) (hd : ∀ t, o.dst = some t → t < nt) (hn : Nx w0 M N b0 nt ds K next) : o.wp P ⟨tm, ds⟩ w next Q := by
  simp only [aop, ho] at h
  obtain ⟨d, hdst, h⟩ := orFail_dst h
  obtain ⟨z, hz, h⟩ := orFail_run h
  obtain ⟨h1, h2⟩ := hT.zer _ (find1_mem hz)
  refine fin_box (t := t) hs hd hn hdst h (csRep_of h2) ?_
  unfold zerP at h1
  dsimp only at h1
  split at h1
  · rename_i i hi
    split at h1
    · rename_i z' hz'
      have e1 : z'.cells.toList = z := Option.some.inj h1
      have e2 : z.toArray = z'.cells := by rw [← e1]
      have hzv : (zeroValue t).run P w = .ok z' w := by simp [zeroValue, typeInfo, hi, hz']
      unfold execOp
      rw [e2]
      simp only [ho, Instr.alloc, Sem.run_bind, hzv, Result.andThen_ok, newVar, newRow]
      rfl
    · cases h1
  · cases h1
/-- A store into a row of cells. -/
theorem run_store_cells {t : TypeId} {a : Bool} {k : Nat} (h : layP P t = some (a, k)) {w : World} {g off : Nat} {cur : Array Value} {ty : TypeId} {v : Value} (hg : w.heap[g]? = some (.cells cur ty (0, 0)))
    (hk : v.cells.size = k) (hl : off + k ≤ cur.size) (h1 : ∀ x ∈ v.cells.toList, x.oneCell' = true) :
    (Instr.storeAt t (.pointer (some ⟨g, off, none⟩)) v).run P w = .ok () (w.setRow g (splice cur.toList off v.cells.toList).toArray) := by
  have ha := run_isAgg h w
  have hst := run_storeCells_at P g off ty v.cells.toList 0 cur w hg (by simp; omega) h1
  have e : (!decide (v.cells.size = k)) = false := by simp [hk]
  simp only [Instr.storeAt, Instr.sureAddr, Sem.run_bind, Sem.run_pure, Result.andThen_ok, storeVar, ha.2, splice]
  simp [hk, hst]
theorem splice_get {α : Type} {l : List α} {o : Nat} {m : List α} (h : o + m.length ≤ l.length) (j : Nat) : (splice l o m)[j]? = if o ≤ j ∧ j < o + m.length then m[j - o]? else l[j]? := by
  unfold splice
  rw [List.getElem?_append, List.getElem?_append]
  have e1 : (l.take o).length = o := by simp; omega
  simp only [List.length_append, e1]
  by_cases h1 : j < o
  · rw [if_pos (by omega), if_pos h1, if_neg (by omega)]
    simp [h1]
  · by_cases h2 : j < o + m.length
    · rw [if_pos h2, if_neg h1, if_pos ⟨by omega, h2⟩]
    · rw [if_neg h2, if_neg (by omega), List.getElem?_drop]
      congr 1; omega
theorem splice_len {α : Type} {l : List α} {o : Nat} {m : List α} (h : o + m.length ≤ l.length) : (splice l o m).length = l.length := by
  simp [splice]; omega
theorem splice_all {l m : List Value} {o : Nat} (h1 : l.all (·.oneCell') = true) (h2 : ∀ x ∈ m, x.oneCell' = true) : (splice l o m).all (·.oneCell') = true := by
  rw [List.all_eq_true] at h1 ⊢
  intro x hx
  simp only [splice, List.mem_append] at hx
  rcases hx with (hx | hx) | hx
  · exact h1 x (List.mem_of_mem_take hx)
  · exact h2 x hx
  · exact h1 x (List.mem_of_mem_drop hx)
/-- A store. -/
theorem s_store (hT : TabOk P T) {t : Nat} {x y : Operand} (ho : o.op = .store t x y) (h : (aop P T cf o).run F S K) (hs : Sim w0 M N b0 nt β S w tm) (hd : ∀ t, o.dst = some t → t < nt) (hn : Nx w0 M N b0 nt ds K next) : o.wp P ⟨tm, ds⟩ w next Q := by
  simp only [aop, ho] at h
  obtain ⟨a, h, hr⟩ := getO_run (ds := ds) h hs
  obtain ⟨b, h, hrb⟩ := getO_run (ds := ds) h hs
  obtain ⟨⟨agg, size⟩, hl, h⟩ := orFail_run h
  obtain ⟨cs, hcs, h⟩ := orFail_run h
  obtain ⟨hc, h1⟩ := cellsOf_rep hcs hrb
  have hlay := hT.lay _ (find1_mem hl)
  -- the world behind the store, and what it keeps
  have fin : ∀ (i r off g : Nat) (e e' : Ent) (cur : Array Value) (ty : TypeId), S.G i = some (r, e) → e.live → blk? (β i) = some g → w.heap[g]? = some (.cells cur ty (0, 0)) → Act.eval ⟨tm, ds⟩ x = .pointer (some ⟨g, off, none⟩) →
      cs.length = size → off + size ≤ cur.size → F.ew i = true → (delD o.dst).run F (S.lay i (some (r, e'))) K → e'.live →
      (∀ β' G' w', (∀ b, okB w0 N β S.G w b → okB w0 N β' G' w' b ∧ w'.heap[b]? = w.heap[b]?) → Older β β' S.G G' → β' i = β i → w'.heap[g]? = some (.cells (splice cur.toList off (Act.eval ⟨tm, ds⟩ y).cells.toList).toArray ty (0, 0)) → e'.rep w' β' G' (okB w0 N β' G' w') i) → o.wp P ⟨tm, ds⟩ w next Q := by
    intro i r off g e e' cur ty hG hlive hblk hh he hlen hle _ hk hlive' hrep
    have hsz : (Act.eval ⟨tm, ds⟩ y).cells.size = size := by rw [hc.1, hlen]
    have hrun := run_store_cells hlay hh hsz hle h1
    have hlt : g < w.heap.size := (hs.fresh i r e g hG hlive hblk).1
    obtain ⟨β', k1, k2, _, _⟩ := hs.change1 (w' := w.setRow g (splice cur.toList off (Act.eval ⟨tm, ds⟩ y).cells.toList).toArray) i r e' (β i) rfl rfl rfl (by simp)
      (fun r1 e1 hg => by rw [hG] at hg; cases hg; exact ⟨Nat.le_refl _, fun _ => rfl⟩)
      (fun k hk hne => setRow_other w g k _ (fun ek => by subst ek; exact hne r e hG hlive hblk))
      (fun b _ hb => by rw [hblk] at hb; cases hb; exact ⟨by simpa using hlt, .inr ⟨r, e, hG, hlive, hblk⟩⟩)
      (fun _ => ⟨_, hG⟩)
      (fun β' G' _ _ hok hold hβ => hrep β' G' _ hok hold hβ (setRow_heap w g cur _ ty (0, 0) hh))
    refine wp_skipv (w' := w.setRow g (splice cur.toList off (Act.eval ⟨tm, ds⟩ y).cells.toList).toArray) ?_ (delD_run hk k1 hn)
    unfold execOp
    simp only [ho, he, Sem.run_bind, hrun, Result.andThen_ok, Sem.run_pure]
  match a, h, hr with
  | .g (.one (.ptr i r off)), h, hr =>
    obtain ⟨_, h⟩ := h
    dsimp only at h
    split at h
    · rename_i r' cells hG
      obtain ⟨⟨rfl, hlen, hle⟩, hew, h⟩ := h
      obtain ⟨g, vs, ty, he, hβ, hh, hcv⟩ := hs.cur_box hr hG
      refine fin i r off g _ _ vs ty hG trivial (by rw [hβ]; rfl) hh he hlen (by rw [hcv.1]; exact hle) hew h trivial ?_
      intro β' G' w' hok hold hβ' hh'
      refine ⟨g, _, ty, hβ'.trans hβ, hh', ?_⟩
      have hcl : off + cs.length ≤ cells.length := by omega
      have hvl : off + (Act.eval ⟨tm, ds⟩ y).cells.toList.length ≤ vs.toList.length := by
        have := hc.1; have := hcv.1; simp only [Array.length_toList]; omega
      refine ⟨by simp only [List.size_toArray]; rw [splice_len hvl, splice_len hcl]; simpa using hcv.1, fun j c hj => ?_⟩
      rw [splice_get hcl] at hj
      have e2 : (splice vs.toList off (Act.eval ⟨tm, ds⟩ y).cells.toList).toArray[j]? = if off ≤ j ∧ j < off + cs.length then (Act.eval ⟨tm, ds⟩ y).cells[j - off]? else vs[j]? := by
        rw [List.getElem?_toArray, splice_get hvl]
        simp only [Array.length_toList, hc.1, Array.getElem?_toList]
      rw [e2]
      split at hj
      · rename_i hcond
        rw [if_pos hcond]
        obtain ⟨z, hz, hrz⟩ := hc.2 _ c hj
        exact ⟨z, hz, AC.rep_mono hok hold hrz⟩
      · rename_i hcond
        rw [if_neg hcond]
        obtain ⟨z, hz, hrz⟩ := hcv.2 _ c hj
        exact ⟨z, hz, AC.rep_mono hok hold hrz⟩
    · rename_i r' e sz l hG
      obtain ⟨vs, hvs, h'⟩ := orFail_run h
      obtain ⟨⟨rfl, hlen, hle⟩, hew, hk⟩ := h'
      obtain ⟨g, n, e', cap, cur, he, hβ, hh, p1, p2, p3, p4, p5, p6, p7⟩ := hs.cur_row hr hG
      have e3 := pcs_get hvs
      subst e3
      obtain ⟨q1, q2⟩ := csRep_map hc
      have q3 : (Act.eval ⟨tm, ds⟩ y).cells.toList = vs := by rw [q1]
      have hn2 : n * sz ≤ cap * sz := Nat.mul_le_mul_right sz p1
      have hcs2 : (vs.map AC.v).length = size := by simpa using hlen
      refine fin i r off g _ _ cur e' hG trivial (by rw [hβ]; rfl) hh he hcs2 (by omega) hew hk trivial ?_
      intro β' G' w' hok hold hβ' hh'
      rw [q3] at hh'
      have hcl : off + vs.length ≤ cur.toList.length := by simp only [Array.length_toList]; omega
      refine ⟨splice_all p7 (fun x hx => (List.all_eq_true.1 q2) x hx), e', n, p6, by rw [splice_len (by omega)]; exact p5, .inr ⟨g, cap, _, hβ'.trans hβ, Nat.zero_le _, hh', p1, p2, ?_, ?_⟩⟩
      · simp only [List.size_toArray]; rw [splice_len hcl]; simpa using p3
      · apply List.ext_getElem?
        intro j
        have hll : off + vs.length ≤ l.length := by omega
        rw [List.getElem?_take, splice_get hcl, splice_get hll]
        by_cases hj : j < n * sz
        · rw [if_pos hj]
          split
          · rfl
          · rw [← p4, List.getElem?_take, if_pos hj]
        · rw [if_neg hj, if_neg (by omega)]
          rw [List.getElem?_eq_none]; omega
    · exact h.elim
end
end Go.Proofs.Ytgifhhefcmmdfaa
