/- The abstract run, fourth part: what an operation does to an abstract state is what it does to the world. No program is named. -/
import Derived.Test.YtgifhhefcmmdfaaAbsC
namespace Go.Proofs.Ytgifhhefcmmdfaa
set_option linter.unusedVariables false
open Go.RowKit

section
variable {P : Program} {w : World} {β : Nat → Value} {G : Blk} {ok : Nat → Prop}
theorem oneC {c : AC} {y : Value} (h : c.rep w β G ok y) : y.oneCell' = true := by
  cases c with
  | v x => obtain ⟨rfl, h1⟩ := h; exact h1
  | ro sz n l => obtain ⟨_, A, c, rfl, _⟩ := h; rfl
  | sl i r n => exact h.1
  | ptr i r o => exact h.1
  | rp l => obtain ⟨_, b, off, rfl, _⟩ := h; rfl
  | fn f c => obtain ⟨vs, rfl, _⟩ := h; rfl
theorem one_cells {y : Value} (h : y.oneCell' = true) : y.cells = #[y] := by cases y <;> first | rfl | cases h
/-- The cells of a value, abstractly and in fact. -/
theorem cellsOf_rep {a : AV} {cs : List AC} {y : Value} (h : cellsOf a = some cs) (hr : a.rep w β G ok y) : CsRep w β G ok cs y.cells ∧ ∀ v ∈ y.cells.toList, v.oneCell' = true := by
  have key : ∀ (cs : List AC) (vs : Array Value), CsRep w β G ok cs vs → ∀ v ∈ vs.toList, v.oneCell' = true := by
    intro cs vs hc v hv
    obtain ⟨j, hj⟩ := List.getElem?_of_mem hv
    have hlt : j < vs.toList.length := (List.getElem?_eq_some_iff.1 hj).1
    have hlt2 : j < cs.length := by rw [← hc.1]; simpa using hlt
    obtain ⟨z, hz, hrz⟩ := hc.2 j cs[j] (List.getElem?_eq_getElem hlt2)
    have e : z = v := by
      have : vs[j]? = some v := by simpa using hj
      rw [hz] at this; exact Option.some.inj this
    rw [← e]; exact oneC hrz
  unfold cellsOf at h
  split at h
  · rename_i c
    cases h
    have h1 : c.rep w β G ok y := hr
    have hc : CsRep w β G ok [c] y.cells := by
      rw [one_cells (oneC h1)]
      refine ⟨rfl, fun j d hj => ?_⟩
      match j, hj with
      | 0, hj => cases hj; exact ⟨y, rfl, h1⟩
    exact ⟨hc, key _ _ hc⟩
  · cases h
    obtain ⟨vs, rfl, hc⟩ := hr
    exact ⟨hc, key _ _ hc⟩
  · cases h
theorem pcs_get : ∀ {cs : List AC} {l : List Value}, pcs cs = some l → cs = l.map .v
  | [], l, h => by simp [pcs] at h; subst h; rfl
  | c :: cs, l, h => by
    cases c with
    | v x =>
      simp only [pcs, Option.map_eq_some_iff] at h
      obtain ⟨m, hm, rfl⟩ := h
      simp [pcs_get hm]
    | _ => simp [pcs] at h
theorem csRep_map {l : List Value} {vs : Array Value} (h : CsRep w β G ok (l.map .v) vs) : vs = l.toArray ∧ l.all (·.oneCell') = true := by
  obtain ⟨h1, h2⟩ := h
  have key : ∀ (j : Nat) (x : Value), l[j]? = some x → vs[j]? = some x ∧ x.oneCell' = true := by
    intro j x hx
    obtain ⟨z, hz, hr⟩ := h2 j (.v x) (by simp [hx])
    obtain ⟨rfl, h3⟩ := hr
    exact ⟨hz, h3⟩
  refine ⟨?_, ?_⟩
  · apply Array.ext_getElem?
    intro j
    by_cases hj : j < l.length
    · rw [(key j l[j] (List.getElem?_eq_getElem hj)).1]; simp [hj]
    · have hj2 : vs.size ≤ j := by rw [h1]; simpa using hj
      rw [Array.getElem?_eq_none hj2]
      simp; omega
  · rw [List.all_eq_true]
    intro x hx
    obtain ⟨j, hj⟩ := List.getElem?_of_mem hx
    exact (key j x hj).2
theorem csRep_of {l : List Value} (h : l.all (·.oneCell') = true) : CsRep w β G ok (l.map .v) l.toArray := by
  refine ⟨by simp, fun j c hc => ?_⟩
  simp only [List.getElem?_map, Option.map_eq_some_iff] at hc
  obtain ⟨x, hx, rfl⟩ := hc
  exact ⟨x, by simpa using hx, rfl, (List.all_eq_true.1 h) x (List.mem_of_getElem? hx)⟩
theorem pval_rep {a : AV} {x y : Value} (h : pval a = some x) (hr : a.rep w β G ok y) : y = x := by
  unfold pval at h
  split at h
  · cases h; exact hr.1
  · obtain ⟨vs, rfl, hc⟩ := hr
    simp only [Option.map_eq_some_iff] at h
    obtain ⟨l, hl, rfl⟩ := h
    rw [pcs_get hl] at hc
    rw [(csRep_map hc).1]
  · cases h
theorem ofv_rep {x : Value} (h : okv x = true) : (ofv x).rep w β G ok x := by
  unfold ofv
  split
  · rename_i cs
    refine ⟨cs, rfl, ?_⟩
    have := csRep_of (w := w) (β := β) (G := G) (ok := ok) (l := cs.toList) h
    simpa using this
  · refine ⟨rfl, ?_⟩
    unfold okv at h
    split at h
    · rename_i cs hne; exact absurd rfl (hne _)
    · exact h
end

/-- The value of an operation is known. -/
theorem wp_value {P : Program} {o : Oper} {a : Act} {w w' : World} {v : Value} {next : Act → World → Prop} {Q : Exit → Act → World → Prop}
    (hr : (execOp a.eval o).run P w = .ok (.value v) w') (hn : next (a.put o.dst v) w') : o.wp P a w next Q := by
  unfold Oper.wp; rw [hr]; exact hn
theorem wp_skipv {P : Program} {o : Oper} {a : Act} {w w' : World} {next : Act → World → Prop} {Q : Exit → Act → World → Prop}
    (hr : (execOp a.eval o).run P w = .ok .skip w') (hn : next (a.put o.dst undef) w') : o.wp P a w next Q := by
  unfold Oper.wp; rw [hr]; exact hn

section
variable {P : Program} {T : Tab} {F : Ft} {S : St} {K : St → Prop} {w0 w : World} {M N : Nat → Prop} {b0 : Nat → Value} {nt : Nat} {β : Nat → Value} {tm : Array Value} {ds : List Deferred}
theorem getO_run {x : Operand} {k : AV → AM} (h : (getO x k).run F S K) (hs : Sim w0 M N b0 nt β S w tm) : ∃ a, (k a).run F S K ∧ a.rep w β S.G (okB w0 N β S.G w) (Act.eval ⟨tm, ds⟩ x) := by
  cases x with
  | tmp t =>
    obtain ⟨_, a, ha, hk⟩ := h
    exact ⟨a, hk, (hs.env t a ha).2⟩
  | const v => exact ⟨_, h.2, rfl, h.1⟩
  | global g => exact h.elim
  | func f => exact ⟨_, h, #[], rfl, rfl, fun j p hp => by simp at hp⟩
theorem getV_run {x : Operand} {k : Value → AM} (h : (getV x k).run F S K) (hs : Sim w0 M N b0 nt β S w tm) : (k (Act.eval ⟨tm, ds⟩ x)).run F S K := by
  obtain ⟨a, ha, hr⟩ := getO_run (ds := ds) h hs
  cases hv : pval a with
  | none => simp only [hv] at ha; exact ha.elim
  | some v =>
    simp only [hv] at ha
    rw [pval_rep hv hr]; exact ha
theorem putD_run {d : Option Tmp} {x : AV} {v : Value} {next : Act → World → Prop} (h : (putD d x).run F S K) (hs : Sim w0 M N b0 nt β S w tm) (hd : ∀ t, d = some t → t < nt)
    (hv : x.rep w β S.G (okB w0 N β S.G w) v) (hn : ∀ S' β' w' tm', K S' → Sim w0 M N b0 nt β' S' w' tm' → next ⟨tm', ds⟩ w') : next (Act.put ⟨tm, ds⟩ d v) w := by
  cases d with
  | none => exact hn _ _ _ _ h hs
  | some t => exact hn _ _ _ _ h.2 (hs.put (hd t rfl) hv)
theorem delD_run {d : Option Tmp} {v : Value} {next : Act → World → Prop} (h : (delD d).run F S K) (hs : Sim w0 M N b0 nt β S w tm)
    (hn : ∀ S' β' w' tm', K S' → Sim w0 M N b0 nt β' S' w' tm' → next ⟨tm', ds⟩ w') : next (Act.put ⟨tm, ds⟩ d v) w := by
  cases d with
  | none => exact hn _ _ _ _ h hs
  | some t => exact hn _ _ _ _ h.2 (hs.del t v)
theorem orFail_run {α : Type _} {x : Option α} {k : α → AM} (h : (orFail x k).run F S K) : ∃ a, x = some a ∧ (k a).run F S K := by
  cases x with
  | none => exact h.elim
  | some a => exact ⟨a, rfl, h⟩
/-- An own block of this turn. -/
theorem Sim.cur_ptr (hs : Sim w0 M N b0 nt β S w tm) {i r off : Nat} {e : Ent} {y : Value} (h : PtrRep β S.G i r off y) (he : S.G i = some (r, e)) : ∃ b, blk? (β i) = some b ∧ y = .pointer (some ⟨b, off, none⟩) := by
  obtain ⟨_, r', e', h1, h2, h3⟩ := h
  rw [he] at h1
  obtain ⟨rfl, _⟩ := Prod.mk.inj (Option.some.inj h1)
  exact h3 rfl
theorem Sim.cur_box (hs : Sim w0 M N b0 nt β S w tm) {i r off : Nat} {cs : List AC} {y : Value} (h : PtrRep β S.G i r off y) (he : S.G i = some (r, .box cs)) :
    ∃ g vs t, y = .pointer (some ⟨g, off, none⟩) ∧ β i = .pointer (some ⟨g, 0, none⟩) ∧ w.heap[g]? = some (.cells vs t (0, 0)) ∧ CsRep w β S.G (okB w0 N β S.G w) cs vs := by
  obtain ⟨b, hb, rfl⟩ := hs.cur_ptr h he
  obtain ⟨g, vs, t, h1, h2, h3⟩ := hs.ents i r _ he
  rw [h1] at hb
  cases hb
  exact ⟨g, vs, t, rfl, h1, h2, h3⟩
theorem Sim.cur_row (hs : Sim w0 M N b0 nt β S w tm) {i r off : Nat} {e : Option TypeId} {sz : Nat} {l : List Value} {y : Value} (h : PtrRep β S.G i r off y) (he : S.G i = some (r, .row e sz l)) :
    ∃ g n e' cap cur, y = .pointer (some ⟨g, off, none⟩) ∧ β i = .slice (some ⟨g, 0, none⟩) n cap ∧ w.heap[g]? = some (.cells cur e' (0, 0)) ∧ n ≤ cap ∧ cap ≤ maxLen ∧ cap * sz ≤ cur.size ∧ cur.toList.take (n * sz) = l ∧ l.length = n * sz ∧ (∀ x, e = some x → x = e') ∧ l.all (·.oneCell') = true := by
  obtain ⟨b, hb, rfl⟩ := hs.cur_ptr h he
  obtain ⟨h0, e', n, h1, h2, h3⟩ := hs.ents i r _ he
  rcases h3 with ⟨h3, _⟩ | ⟨g, cap, cur, h3, _, h4, h5, h6, h7, h8⟩
  · rw [h3] at hb; cases hb
  · rw [h3] at hb; cases hb
    exact ⟨g, n, e', cap, cur, rfl, h3, h4, h5, h6, h7, h8, h2, h1, h0⟩
end
theorem add_lit (b off j : Nat) : (⟨b, off, none⟩ : Addr).add j = ⟨b, off + j, none⟩ := by unfold Addr.add; split <;> simp_all
section
variable {P : Program}
theorem run_isAgg {t : TypeId} {a : Bool} {k : Nat} (h : layP P t = some (a, k)) (w : World) : (isAgg t).run P w = .ok a w ∧ (sizeOf t).run P w = .ok k w := by
  unfold layP at h
  cases hu : P.underlying t with
  | none => simp [hu] at h
  | some d =>
    cases hi : P.info? t with
    | none => simp [hu, hi] at h
    | some i =>
      simp only [hu, hi, Option.some.injEq, Prod.mk.injEq] at h
      obtain ⟨rfl, rfl⟩ := h
      refine ⟨?_, by simp [sizeOf, typeInfo, hi]⟩
      unfold isAgg
      rw [Sem.run_bind, run_underlying hu w]
      cases d <;> simp [isAggD]
/-- A load. -/
theorem run_load_cells {t : TypeId} {a : Bool} {k : Nat} (h : layP P t = some (a, k)) {w : World} {b off : Nat} {l : List Value} (hl : l.length = k) (hc : Cells w b off l) (ha : a = false → k = 1) :
    (Instr.loadAt t (.pointer (some ⟨b, off, none⟩))).run P w = .ok (if a then .agg l.toArray else l.getD 0 undef) w := by
  have h1 := run_isAgg h w
  subst hl
  have h2 := run_loadCells_list (P := P) w ⟨b, off, none⟩ l (fun j v hv => by rw [add_lit]; exact hc j v hv)
  cases a with
  | true =>
    simp only [Instr.loadAt, Instr.sureAddr, Sem.run_bind, Sem.run_pure, Result.andThen_ok, loadVar, h1.1, h1.2, if_true, h2]
  | false =>
    have hk := ha rfl
    cases l with
    | nil => simp at hk
    | cons x l =>
      have := hc 0 x rfl
      simp only [Nat.add_zero] at this
      simp [Instr.loadAt, Instr.sureAddr, loadVar, h1.1, this]
end
end Go.Proofs.Ytgifhhefcmmdfaa
