/- The abstract run, fifth part: the operations on values, fields, variables: what they do abstractly is what they do. No program is named. -/
import Derived.Test.YtgifhhefcmmdfaaAbsD
namespace Go.Proofs.Ytgifhhefcmmdfaa
set_option linter.unusedVariables false
open Go.RowKit

section
variable {P : Program} {T : Tab} {F : Ft} {S : St} {K : St → Prop} {w0 w : World} {M N : Nat → Prop} {b0 : Nat → Value} {nt : Nat} {β : Nat → Value} {tm : Array Value} {ds : List Deferred} {next : Act → World → Prop} {Q : Exit → Act → World → Prop} {o : Oper}
/-- What follows an operation holds of every state that K allows. -/
def Nx (w0 : World) (M N : Nat → Prop) (b0 : Nat → Value) (nt : Nat) (ds : List Deferred) (K : St → Prop) (next : Act → World → Prop) : Prop := ∀ S' β' w' tm', K S' → Sim w0 M N b0 nt β' S' w' tm' → next ⟨tm', ds⟩ w'
theorem exr_sound {s : Sem Value} (h : (exr P s o.dst).run F S K) (hs : Sim w0 M N b0 nt β S w tm) (hd : ∀ t, o.dst = some t → t < nt) (hn : Nx w0 M N b0 nt ds K next)
    (he : execOp (Act.eval ⟨tm, ds⟩) o = (do pure (.value (← s)) : Sem Next)) : o.wp P ⟨tm, ds⟩ w next Q := by
  obtain ⟨r, ⟨h1, h2⟩, h3⟩ := h
  refine wp_value (v := r) (w' := w) ?_ (putD_run h3 hs hd (ofv_rep h1) hn)
  rw [he]; simp [h2]
theorem ofa_rep {agg : Bool} {cs : List AC} {vs : List Value} {x : AV} (h : ofa agg cs = some x) (hl : vs.length = cs.length) (hc : ∀ (j : Nat) (c : AC), cs[j]? = some c → ∃ z, vs[j]? = some z ∧ c.rep w β S.G (okB w0 N β S.G w) z) :
    x.rep w β S.G (okB w0 N β S.G w) (if agg then .agg vs.toArray else vs.getD 0 undef) ∧ (agg = false → cs.length = 1) := by
  unfold ofa at h
  cases agg with
  | true =>
    simp only [if_true, Option.some.injEq] at h
    subst h
    refine ⟨⟨vs.toArray, rfl, by simpa using hl, fun j c hj => ?_⟩, fun hf => by cases hf⟩
    obtain ⟨z, hz, hr⟩ := hc j c hj
    exact ⟨z, by simpa using hz, hr⟩
  | false =>
    match cs, h with
    | [c], h =>
      simp only [Bool.false_eq_true, if_false, Option.some.injEq] at h
      subst h
      obtain ⟨z, hz, hr⟩ := hc 0 c rfl
      refine ⟨?_, fun _ => rfl⟩
      show c.rep _ _ _ _ _
      rw [if_neg (by simp), List.getD_eq_getElem?_getD, hz]; exact hr
theorem cells_of_heap {w : World} {g : Nat} {vs : Array Value} {t : TypeId} {fr : Nat × Nat} (h : w.heap[g]? = some (.cells vs t fr)) (off : Nat) (k : Nat) : Cells w g off ((vs.toList.drop off).take k) := by
  intro j x hj
  rw [cell_of_row w g _ vs t fr h]
  rw [List.getElem?_take] at hj
  split at hj
  · rw [List.getElem?_drop] at hj
    simpa using hj
  · cases hj
theorem csRep_part {cs : List AC} {vs : Array Value} {ok : Nat → Prop} {G : Blk} (h : CsRep w β G ok cs vs) (off k : Nat) :
    ((vs.toList.drop off).take k).length = ((cs.drop off).take k).length ∧ ∀ (j : Nat) (c : AC), ((cs.drop off).take k)[j]? = some c → ∃ z, ((vs.toList.drop off).take k)[j]? = some z ∧ c.rep w β G ok z := by
  refine ⟨by simp [h.1], fun j c hj => ?_⟩
  rw [List.getElem?_take] at hj ⊢
  split at hj
  · rename_i hlt
    rw [if_pos hlt]
    rw [List.getElem?_drop] at hj ⊢
    obtain ⟨z, hz, hr⟩ := h.2 _ c hj
    exact ⟨z, by simpa using hz, hr⟩
  · cases hj
theorem fld_facts (hT : TabOk P T) {s f off size : Nat} {agg : Bool} (h : find1 T.fld (s * 1000 + f) = some (off, agg, size)) (hf : f < 1000) :
    ∃ fs fd, P.underlying s = some (.struct fs) ∧ fs[f]? = some fd ∧ layP P fd.type = some (agg, size) ∧ fd.offset = off ∧ 0 < size := by
  have h1 := hT.fld _ (find1_mem h)
  have e1 : (s * 1000 + f) / 1000 = s := by omega
  have e2 : (s * 1000 + f) % 1000 = f := by omega
  simp only [e1, e2] at h1
  obtain ⟨h1, h2⟩ := h1
  unfold fldP at h1
  split at h1
  · rename_i fs hfs
    split at h1
    · rename_i fd hfd
      simp only [Option.map_eq_some_iff, Prod.mk.injEq] at h1
      obtain ⟨x, hx, rfl, rfl⟩ := h1
      exact ⟨fs, fd, hfs, hfd, hx, rfl, h2⟩
    · cases h1
  · cases h1
theorem cut_rep {l : List Value} (h : l.all (·.oneCell') = true) (off size : Nat) : ∀ (j : Nat) (c : AC), (((l.drop off).take size).map AC.v)[j]? = some c → ∃ z, ((l.drop off).take size)[j]? = some z ∧ c.rep w β S.G (okB w0 N β S.G w) z := by
  intro j c hj
  simp only [List.getElem?_map, Option.map_eq_some_iff] at hj
  obtain ⟨z, hz, rfl⟩ := hj
  exact ⟨z, hz, rfl, (List.all_eq_true.1 h) z (List.mem_of_mem_drop (List.mem_of_mem_take (List.mem_of_getElem? hz)))⟩
theorem row_cells {w : World} {g : Nat} {cur : Array Value} {t : TypeId} {fr : Nat × Nat} {l : List Value} {n : Nat} (h : w.heap[g]? = some (.cells cur t fr)) (hl : cur.toList.take n = l) (off k : Nat) : Cells w g off ((l.drop off).take k) := by
  intro j x hj
  rw [cell_of_row w g _ cur t fr h]
  rw [List.getElem?_take] at hj
  split at hj
  · rw [List.getElem?_drop, ← hl, List.getElem?_take] at hj
    split at hj
    · simpa using hj
    · cases hj
  · cases hj
theorem Cells.part {w : World} {b off : Nat} {l : List Value} (h : Cells w b off l) (i k : Nat) : Cells w b (off + i) ((l.drop i).take k) := by
  intro j x hj
  rw [List.getElem?_take] at hj
  split at hj
  · rw [List.getElem?_drop] at hj
    have := h _ x hj
    rw [Nat.add_assoc]; exact this
  · cases hj
variable {cf : FuncId → Option (List AV → Option Tmp → AM)}
theorem s_field (hT : TabOk P T) {s f : Nat} {x : Operand} (ho : o.op = .field s x f) (h : (aop P T cf o).run F S K) (hs : Sim w0 M N b0 nt β S w tm) (hd : ∀ t, o.dst = some t → t < nt) (hn : Nx w0 M N b0 nt ds K next) : o.wp P ⟨tm, ds⟩ w next Q := by
  simp only [aop, ho] at h
  obtain ⟨a, h, hr⟩ := getO_run (ds := ds) h hs
  match a, h, hr with
  | .g (.agg cs), h, hr =>
    obtain ⟨⟨off, agg, size⟩, hf, h⟩ := orFail_run h
    obtain ⟨⟨hlt, hle⟩, h⟩ := h
    obtain ⟨y, hy, hk⟩ := orFail_run h
    obtain ⟨vs, hv, hc⟩ := hr
    obtain ⟨fs, fd, h1, h2, h3, rfl, h4⟩ := fld_facts hT hf hlt
    obtain ⟨p1, p2⟩ := csRep_part hc fd.offset size
    obtain ⟨q1, q2⟩ := ofa_rep hy p1 p2
    refine wp_value (w' := w) ?_ (putD_run hk hs hd q1 hn)
    have ha := run_isAgg h3 w
    unfold execOp
    simp only [ho, hv, Instr.field, Sem.run_bind, run_underlying h1, Result.andThen_ok, h2, asAgg, Sem.run_pure, part, ha.1]
    cases agg with
    | true =>
      simp only [if_true, Sem.run_bind, ha.2, Result.andThen_ok, Sem.run_pure]
      congr 3
      apply Array.ext'
      simp only [Array.toList_extract, List.extract_eq_take_drop]
      congr 1
      omega
    | false =>
      have hlen : fd.offset < vs.size := by rw [hc.1]; simp only at hle; omega
      have hsz : 0 < size := h4
      simp [hlen, hsz, List.getElem?_drop]
theorem s_load (hT : TabOk P T) {t : Nat} {x : Operand} (ho : o.op = .load t x) (h : (aop P T cf o).run F S K) (hs : Sim w0 M N b0 nt β S w tm) (hd : ∀ t, o.dst = some t → t < nt) (hn : Nx w0 M N b0 nt ds K next) : o.wp P ⟨tm, ds⟩ w next Q := by
  simp only [aop, ho] at h
  obtain ⟨a, h, hr⟩ := getO_run (ds := ds) h hs
  obtain ⟨⟨agg, size⟩, hl, h⟩ := orFail_run h
  have hlay := hT.lay _ (find1_mem hl)
  have fin : ∀ (b off : Nat) (vs : List Value) (y : AV), Act.eval ⟨tm, ds⟩ x = .pointer (some ⟨b, off, none⟩) → vs.length = size → Cells w b off vs → (agg = false → size = 1) → y.rep w β S.G (okB w0 N β S.G w) (if agg then .agg vs.toArray else vs.getD 0 undef) → (putD o.dst y).run F S K → o.wp P ⟨tm, ds⟩ w next Q := by
    intro b off vs y he hlen hc ha hy hput
    refine wp_value (w' := w) ?_ (putD_run hput hs hd hy hn)
    unfold execOp
    simp only [ho, he, Sem.run_bind, run_load_cells hlay hlen hc ha, Result.andThen_ok, Sem.run_pure]
  match a, h, hr with
  | .g (.one (.ptr i r off)), h, hr =>
    obtain ⟨_, h⟩ := h
    dsimp only at h
    split at h
    · rename_i r' cs hG
      obtain ⟨⟨rfl, hle⟩, h⟩ := h
      obtain ⟨y, hy, h⟩ := orFail_run h
      obtain ⟨g, vs, t', he, _, hh, hc⟩ := hs.cur_box hr hG
      obtain ⟨p1, p2⟩ := csRep_part hc off size
      obtain ⟨q1, q2⟩ := ofa_rep hy p1 p2
      have hlen : ((vs.toList.drop off).take size).length = size := by simp [hc.1]; omega
      exact fin g off _ y he hlen (cells_of_heap hh off size) (fun hf => by have := q2 hf; simp at this; omega) q1 h
    · rename_i r' cs hG
      obtain ⟨⟨rfl, hle⟩, h⟩ := h
      obtain ⟨y, hy, h⟩ := orFail_run h
      obtain ⟨b, hb, he⟩ := hs.cur_ptr hr hG
      obtain ⟨g, vs, t', fr, hβ, hh, hc, _⟩ := hs.ents i r _ hG
      rw [hβ] at hb
      cases hb
      obtain ⟨p1, p2⟩ := csRep_part hc off size
      obtain ⟨q1, q2⟩ := ofa_rep hy p1 p2
      have hlen : ((vs.toList.drop off).take size).length = size := by simp [hc.1]; omega
      exact fin g off _ y he hlen (cells_of_heap hh off size) (fun hf => by have := q2 hf; simp at this; omega) q1 h
    · rename_i r' e sz l hG
      obtain ⟨⟨rfl, hle⟩, h⟩ := h
      obtain ⟨y, hy, h⟩ := orFail_run h
      obtain ⟨g, n, e', cap, cur, he, _, hh, h1, _, h2, h3, h4, _, h5⟩ := hs.cur_row hr hG
      have hlen : ((l.drop off).take size).length = size := by simp; omega
      obtain ⟨q1, q2⟩ := ofa_rep hy (by simp) (cut_rep h5 off size)
      exact fin g off _ y he hlen (row_cells hh h3 off size) (fun hf => by have := q2 hf; simp at this; omega) q1 h
    · exact h.elim
  | .g (.one (.rp l)), h, hr =>
    obtain ⟨hle, h⟩ := h
    obtain ⟨y, hy, h⟩ := orFail_run h
    obtain ⟨h5, b, off, he, _, hc⟩ := hr
    have hc' := hc.part 0 size
    have hq := cut_rep (S := S) (w0 := w0) (w := w) (β := β) (N := N) h5 0 size
    simp only [List.drop_zero, Nat.add_zero] at hc' hq
    have hlen : (l.take size).length = size := by simp; omega
    obtain ⟨q1, q2⟩ := ofa_rep hy (by simp) hq
    exact fin b off _ y he hlen hc' (fun hf => by have := q2 hf; simp at this; omega) q1 h
end
end Go.Proofs.Ytgifhhefcmmdfaa
