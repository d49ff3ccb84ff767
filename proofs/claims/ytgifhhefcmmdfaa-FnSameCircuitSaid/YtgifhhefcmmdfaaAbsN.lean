/- The abstract run, fourteenth part: a call by the callee's contract. No program is named. -/
import Derived.Test.YtgifhhefcmmdfaaAbsL
namespace Go.Proofs.Ytgifhhefcmmdfaa
set_option linter.unusedVariables false
open Go.RowKit

/-- A cell as the callee sees it: own rows are only read. -/
def viewC (c : AC) (k : AC → List Nat → AM) : AM := match c with
  | .sl i r n => .getE i fun
    | some (r', .row e z l) => .need (r = r' ∧ 0 < z ∧ l.length = n * z) (k (.ro z n l) [i])
    | some (r', .fro z l) => .need (r = r' ∧ 0 < z ∧ l.length = n * z) (k (.ro z n l) [])
    | _ => .fail
  | .ptr _ _ _ => .fail
  | .fn f c => .need (c = []) (k (.fn f []) [])
  | c => k c []
def viewL : List AC → (List AC → List Nat → AM) → AM
  | [], k => k [] []
  | c :: cs, k => viewC c fun c' v => viewL cs fun cs' v' => k (c' :: cs') (v ++ v')
/-- An own variable handed over: to be written, or to be read. -/
def refP (wr : Bool) (i r : Nat) (ids : List (Nat × Nat)) (es : List Ent) (vw : List Nat) (k : Nat → List (Nat × Nat) → List Ent → List Nat → AM) : AM := .getE i fun
  | some (r', .box cs) => .need (r = r') (if wr then .need (cs.all (AC.on fun _ => false) = true) (k ids.length (ids ++ [(i, r)]) (es ++ [.box cs]) vw)
      else viewL cs fun cs' v => k ids.length (ids ++ [(i, r)]) (es ++ [.rbx cs']) (vw ++ v))
  | some (r', .rbx cs) => .need (r = r' ∧ wr = false) (viewL cs fun cs' v => k ids.length (ids ++ [(i, r)]) (es ++ [.rbx cs']) (vw ++ v))
  | _ => .fail
def refL (wr : Bool) : List (Nat × Nat) → List (Nat × Nat) → List Ent → List Nat → (List (Nat × Nat) → List (Nat × Nat) → List Ent → List Nat → AM) → AM
  | [], ids, es, vw, k => k [] ids es vw
  | p :: ps, ids, es, vw, k => refP wr p.1 p.2 ids es vw fun j ids es vw => refL wr ps ids es vw fun ps' ids es vw => k ((100000 + j, 0) :: ps') ids es vw
/-- The cells of a struct handed over: its own rows may be written. -/
def handL : List AC → List (Nat × Nat) → List Ent → (List AC → List (Nat × Nat) → List Ent → AM) → AM
  | [], ids, es, k => k [] ids es
  | .sl i r n :: cs, ids, es, k => .getE i fun
    | some (r', .row e z l) => .need (r = r' ∧ l.length = n * z ∧ 0 < z) (handL cs (ids ++ [(i, r)]) (es ++ [.row e z l]) fun cs' ids' es' => k (.sl (100000 + ids.length) 0 n :: cs') ids' es')
    | _ => .fail
  | .v x :: cs, ids, es, k => handL cs ids es fun cs' ids' es' => k (.v x :: cs') ids' es'
  | .ro z n l :: cs, ids, es, k => handL cs ids es fun cs' ids' es' => k (.ro z n l :: cs') ids' es'
  | _ :: _, _, _, _ => .fail
/-- An argument. wr: what it points to, or the row that it begins, may be written. -/
def nrmA (wr : Bool) (a : AV) (ids : List (Nat × Nat)) (es : List Ent) (vw : List Nat) (k : AV → List (Nat × Nat) → List Ent → List Nat → AM) : AM := match a with
  | .g (.one (.ptr i r o)) => .need (o = 0) (refP wr i r ids es vw fun j ids es vw => k (.g (.one (.ptr (100000 + j) 0 0))) ids es vw)
  | .g (.one (.fn f caps)) => refL wr caps ids es vw fun caps' ids es vw => k (.g (.one (.fn f caps'))) ids es vw
  | .g (.one (.sl i r n)) => if wr then .getE i fun
      | some (r', .row e z l) => .need (r = r' ∧ l.length = n * z ∧ 0 < z) (k (.g (.one (.sl (100000 + ids.length) 0 n))) (ids ++ [(i, r)]) (es ++ [.row e z l]) vw)
      | _ => .fail
    else viewC (.sl i r n) fun c' v => k (.g (.one c')) ids es (vw ++ v)
  | .g (.one c) => viewC c fun c' v => k (.g (.one c')) ids es (vw ++ v)
  | .g (.agg cs) => if wr then handL cs ids es fun cs' ids es => k (.g (.agg cs')) ids es vw else viewL cs fun cs' v => k (.g (.agg cs')) ids es (vw ++ v)
  | .tup _ => .fail
def nrmL (wr : Nat → Bool) : Nat → List AV → List (Nat × Nat) → List Ent → List Nat → (List AV → List (Nat × Nat) → List Ent → List Nat → AM) → AM
  | _, [], ids, es, vw, k => k [] ids es vw
  | p, a :: l, ids, es, vw, k => nrmA (wr p) a ids es vw fun a' ids es vw => nrmL wr (p + 1) l ids es vw fun l' ids es vw => k (a' :: l') ids es vw
/-- Own rows of a value are only read from now on. -/
def frzC (c : AC) (k : AM) : AM := match c with
  | .sl i r n => .getE i fun
    | some (r', .row e z l) => .need (i < 100000) (.putE i (some (r', .fro z l)) k)
    | _ => k
  | _ => k
def frzL : List AC → AM → AM
  | [], k => k
  | c :: cs, k => frzC c (frzL cs k)
def cellsL : List AV → List AC
  | [] => []
  | .g (.one c) :: l => c :: cellsL l
  | .g (.agg cs) :: l => cs ++ cellsL l
  | .tup _ :: l => cellsL l
/-- Does a value hold what is only read? -/
def AC.noro : AC → Bool
  | .ro _ n _ => n == 0
  | .rp _ => false
  | _ => true
def AG.noro : AG → Bool
  | .one c => c.noro
  | .agg cs => cs.all AC.noro
def AV.noro : AV → Bool
  | .g x => x.noro
  | .tup xs => xs.all AG.noro
def Ent.noro : Ent → Bool
  | .box cs => cs.all AC.noro
  | .row _ _ _ => true
  | _ => false
/-- The blocks handed over to be written are as the callee left them. -/
def backL : List (Nat × Nat) → List Ent → List Ent → AM → AM
  | (i, r) :: ids, .box _ :: es, .box cs' :: es', k => .putE i (some (r, .box cs')) (backL ids es es' k)
  | (i, r) :: ids, .row _ _ _ :: es, .row e' z' l' :: es', k => .putE i (some (r, .row e' z' l')) (backL ids es es' k)
  | _ :: ids, .rbx _ :: es, _ :: es', k => backL ids es es' k
  | [], [], [], k => k
  | _, _, _, _ => .fail
/-- New blocks, each at its turn. -/
def newL (d : Nat) : Nat → List Ent → (List Nat → AM) → AM
  | _, [], k => k []
  | j, e :: es, k => .need (e.live ∧ e.on (fun _ => false) = true ∧ j < 16) (lay1 (nid d j) e fun r => newL d (j + 1) es fun rs => k (r :: rs))
/-- A call by a contract. wr: which parameters may be written through; al: may what comes back share memory with what is only read? -/
def callM (C : Fn3) (wr : Nat → Bool) (al : Bool) (args : List AV) (dst : Option Tmp) : AM :=
  (fun k => if al then frzL (cellsL args) k else k) <|
  nrmL wr 0 args [] [] [] fun args' ids es vw => .need ((ids.map (·.1)).Nodup ∧ (∀ i ∈ vw, i ∉ ids.map (·.1)) ∧ (al = true → vw = []) ∧ (∀ i ∈ ids.map (·.1), i / 16 ≠ dst.getD 0)) <|
  orFail (C args' es) fun (out, news, es') => .need (al = true ∨ (out.noro = true ∧ news.all Ent.noro = true ∧ (es'.all fun e => match e with | .rbx _ => true | e => e.noro) = true)) <|
  .need (news = [] ∨ dst.isSome = true) <|
  backL ids es es' <| newL (dst.getD 0) 0 news fun rs => putD' dst (out.ren fun i => if 100000 ≤ i then (ids[i - 100000]?).getD (0, 0) else (nid (dst.getD 0) i, (rs[i]?).getD 0))
where putD' (d : Option Tmp) (x : AV) : AM := putD d x

section
variable {P : Program} {T : Tab} {F : Ft} {S : St} {K : St → Prop} {w0 w w' : World} {M N : Nat → Prop} {b0 : Nat → Value} {nt : Nat} {β : Nat → Value} {tm : Array Value}
/-- b is the block of an own row that is viewed. -/
def VW (β : Nat → Value) (G : Blk) (v : List Nat) (b : Nat) : Prop := ∃ i ∈ v, ∃ r e, G i = some (r, e) ∧ e.live ∧ blk? (β i) = some b
theorem VW.mono {G : Blk} {v v' : List Nat} {b : Nat} (h : VW β G v b) (hv : ∀ i ∈ v, i ∈ v') : VW β G v' b := let ⟨i, hi, r⟩ := h; ⟨i, hv i hi, r⟩
/-- What may be read, with the rows that are viewed. -/
def Reads (β : Nat → Value) (G : Blk) (ok : Nat → Prop) (v : List Nat) (ok' : Nat → Prop) : Prop := ∀ b, ok b ∨ VW β G v b → ok' b
theorem Reads.less {G : Blk} {ok ok' : Nat → Prop} {v v' : List Nat} (h : Reads β G ok v' ok') (hv : ∀ i ∈ v, i ∈ v') : Reads β G ok v ok' := fun b hb => h b (hb.imp id fun h => h.mono hv)
theorem viewC_run {c : AC} {k : AC → List Nat → AM} {y : Value} (h : (viewC c k).run F S K) (hs : Sim w0 M N b0 nt β S w tm) (hr : c.rep w β S.G (okB w0 N β S.G w) y) :
    ∃ c' v, (k c' v).run F S K ∧ ∀ β' G' ok', Reads β S.G (okB w0 N β S.G w) v ok' → c'.rep w β' G' ok' y := by
  cases c with
  | v x => exact ⟨_, _, h, fun β' G' ok' hok => hr⟩
  | ro sz n l => exact ⟨_, _, h, fun β' G' ok' hok => RoRep.mono (fun b hb => ⟨hok b (.inl hb), rfl⟩) hr⟩
  | rp l =>
    obtain ⟨h1, b, off, e, hb, hc⟩ := hr
    exact ⟨_, _, h, fun β' G' ok' hok => ⟨h1, b, off, e, hok b (.inl hb), hc⟩⟩
  | ptr i r o => exact h.elim
  | fn f c =>
    obtain ⟨rfl, h⟩ := h
    obtain ⟨vs, h1, h2, h3⟩ := hr
    exact ⟨_, _, h, fun β' G' ok' hok => ⟨vs, h1, h2, fun j p hp => by simp at hp⟩⟩
  | sl i r n =>
    obtain ⟨_, h⟩ := h
    dsimp only at h
    split at h
    · rename_i r' e z l hG
      obtain ⟨⟨rfl, hz, hle⟩, h⟩ := h
      obtain ⟨A, m, cap, q1, q2, rfl⟩ := hs.cur_sl hr hG
      obtain ⟨p0, e2, n2, p1, p2⟩ := hs.ents i r _ hG
      refine ⟨_, _, h, fun β' G' ok' hok => ?_⟩
      have h1 : RoRep w ok' z n2 l (β i) := row_ro p2 p0 fun b hb => hok b (.inr ⟨i, List.mem_singleton.2 rfl, r, _, hG, trivial, hb⟩)
      rw [q1] at h1
      have hn2 : n2 = m := by obtain ⟨_, A3, c3, hq, _⟩ := h1; cases hq; rfl
      subst hn2
      exact (ro_whole h1 hle hz).1
    · rename_i r' z l hG
      obtain ⟨⟨rfl, hz, hle⟩, h⟩ := h
      obtain ⟨A, m, cap, q1, q2, rfl⟩ := hs.cur_sl hr hG
      obtain ⟨n2, h1⟩ := hs.ents i r _ hG
      rw [q1] at h1
      have hn2 : n2 = m := by obtain ⟨_, A3, c3, hq, _⟩ := h1; cases hq; rfl
      subst hn2
      exact ⟨_, _, h, fun β' G' ok' hok => (ro_whole (RoRep.mono (fun b hb => ⟨hok b (.inl hb), rfl⟩) h1) hle hz).1⟩
    · exact h.elim
theorem viewL_run (hs : Sim w0 M N b0 nt β S w tm) : ∀ (cs : List AC) (vs : List Value) {k : List AC → List Nat → AM}, (viewL cs k).run F S K → vs.length = cs.length → (∀ (j : Nat) (c : AC), cs[j]? = some c → ∃ z, vs[j]? = some z ∧ c.rep w β S.G (okB w0 N β S.G w) z) →
    ∃ cs' v, (k cs' v).run F S K ∧ ∀ β' G' ok', Reads β S.G (okB w0 N β S.G w) v ok' → CsRep w β' G' ok' cs' vs.toArray
  | [], vs, k, h, hl, hr => by
    have : vs = [] := List.eq_nil_of_length_eq_zero hl
    subst this
    exact ⟨[], [], h, fun β' G' ok' hok => ⟨rfl, fun j c hj => by simp at hj⟩⟩
  | c :: cs, vs, k, h, hl, hr => by
    match vs, hl, hr with
    | y :: vs, hl, hr =>
      obtain ⟨z, hz, hrz⟩ := hr 0 c rfl
      have e : y = z := by simpa using hz
      subst e
      obtain ⟨c', v, h, hc⟩ := viewC_run h hs hrz
      obtain ⟨cs', v', h, hcs⟩ := viewL_run hs cs vs h (by simpa using hl) (fun j d hj => hr (j + 1) d (by simpa using hj))
      refine ⟨_, _, h, fun β' G' ok' hok => ?_⟩
      have h1 := hc β' G' ok' (hok.less fun i hi => List.mem_append_left _ hi)
      obtain ⟨h2, h3⟩ := hcs β' G' ok' (hok.less fun i hi => List.mem_append_right _ hi)
      refine ⟨by simpa using h2, fun j d hj => ?_⟩
      cases j with
      | zero => cases hj; exact ⟨y, rfl, h1⟩
      | succ j =>
        obtain ⟨z, hz, hr⟩ := h3 j d (by simpa using hj)
        exact ⟨z, by simpa using hz, hr⟩
/-- An own block that is handed over, as the callee sees it. -/
def RefOk (w : World) (β : Nat → Value) (G : Blk) (ok : Nat → Prop) (vw : List Nat) (p : Nat × Nat) : Ent → Prop
  | .box cs => G p.1 = some (p.2, .box cs) ∧ cs.all (AC.on fun _ => false) = true
  | .row e z l => G p.1 = some (p.2, .row e z l)
  | .rbx cs' => (∃ cs, G p.1 = some (p.2, .box cs) ∨ G p.1 = some (p.2, .rbx cs)) ∧ ∃ g vs t fr, β p.1 = .pointer (some ⟨g, 0, none⟩) ∧ w.heap[g]? = some (.cells vs t fr) ∧ ∀ β' G' ok', Reads β G ok vw ok' → CsRep w β' G' ok' cs' vs
  | .fro _ _ => False
theorem RefOk.mono {G : Blk} {ok : Nat → Prop} {vw vw' : List Nat} {p : Nat × Nat} {e : Ent} (h : RefOk w β G ok vw p e) (hv : ∀ i ∈ vw, i ∈ vw') : RefOk w β G ok vw' p e := by
  cases e with
  | rbx cs => obtain ⟨h1, g, vs, t, fr, h2, h3, h4⟩ := h; exact ⟨h1, g, vs, t, fr, h2, h3, fun β' G' ok' hok => h4 β' G' ok' (hok.less hv)⟩
  | _ => exact h
structure Acc (w : World) (β : Nat → Value) (G : Blk) (ok : Nat → Prop) (ids : List (Nat × Nat)) (es : List Ent) (vw : List Nat) : Prop where
  len : ids.length = es.length
  ent : ∀ (j : Nat) (p : Nat × Nat) (e : Ent), ids[j]? = some p → es[j]? = some e → RefOk w β G ok vw p e
/-- The callee's numbers for what is handed over. -/
def Hands (β β' : Nat → Value) (G' : Blk) (ids : List (Nat × Nat)) : Prop := ∀ (j : Nat) (p : Nat × Nat), ids[j]? = some p → (∃ e', G' (100000 + j) = some (0, e')) ∧ β' (100000 + j) = β p.1
theorem Hands.less {β' : Nat → Value} {G' : Blk} {ids ids' : List (Nat × Nat)} (h : Hands β β' G' (ids ++ ids')) : Hands β β' G' ids := fun j p hp => h j p (by rw [List.getElem?_append_left (List.getElem?_eq_some_iff.1 hp).1]; exact hp)
/-- What a step of handing over leaves: more handed over, more viewed. -/
structure More (w : World) (β : Nat → Value) (G : Blk) (ok : Nat → Prop) (ids ids' : List (Nat × Nat)) (es es' : List Ent) (vw vw' : List Nat) : Prop where
  acc : Acc w β G ok ids' es' vw'
  ids : ∃ l, ids' = ids ++ l
  vw : ∀ i ∈ vw, i ∈ vw'
theorem More.refl {G : Blk} {ok : Nat → Prop} {ids : List (Nat × Nat)} {es : List Ent} {vw : List Nat} (h : Acc w β G ok ids es vw) : More w β G ok ids ids es es vw vw := ⟨h, ⟨[], by simp⟩, fun i hi => hi⟩
theorem More.trans {G : Blk} {ok : Nat → Prop} {a b c : List (Nat × Nat)} {ea eb ec : List Ent} {va vb vc : List Nat} (h : More w β G ok a b ea eb va vb) (h' : More w β G ok b c eb ec vb vc) : More w β G ok a c ea ec va vc := by
  obtain ⟨l, rfl⟩ := h.ids
  obtain ⟨l', rfl⟩ := h'.ids
  exact ⟨h'.acc, ⟨l ++ l', by rw [List.append_assoc]⟩, fun i hi => h'.vw i (h.vw i hi)⟩
theorem Acc.snoc {G : Blk} {ok : Nat → Prop} {ids : List (Nat × Nat)} {es : List Ent} {vw v : List Nat} {p : Nat × Nat} {e : Ent} (h : Acc w β G ok ids es vw) (he : RefOk w β G ok (vw ++ v) p e) : More w β G ok ids (ids ++ [p]) es (es ++ [e]) vw (vw ++ v) := by
  refine ⟨⟨by simp [h.len], fun j q e' hj he' => ?_⟩, ⟨[p], rfl⟩, fun i hi => List.mem_append_left _ hi⟩
  by_cases hlt : j < ids.length
  · rw [List.getElem?_append_left hlt] at hj
    rw [List.getElem?_append_left (by rw [← h.len]; exact hlt)] at he'
    exact (h.ent j q e' hj he').mono fun i hi => List.mem_append_left _ hi
  · have hj2 := (List.getElem?_eq_some_iff.1 hj).1
    have : j = ids.length := by simp at hj2; omega
    subst this
    have e1 : q = p := by simpa using hj.symm
    have e2 : e' = e := by rw [h.len] at he'; simpa using he'.symm
    subst e1 e2
    exact he
theorem refP_run {wr : Bool} {i r : Nat} {ids : List (Nat × Nat)} {es : List Ent} {vw : List Nat} {k : Nat → List (Nat × Nat) → List Ent → List Nat → AM} {y : Value} (h : (refP wr i r ids es vw k).run F S K) (hs : Sim w0 M N b0 nt β S w tm)
    (hr : PtrRep β S.G i r 0 y) (ha : Acc w β S.G (okB w0 N β S.G w) ids es vw) : ∃ j ids' es' vw', (k j ids' es' vw').run F S K ∧ More w β S.G (okB w0 N β S.G w) ids ids' es es' vw vw' ∧ ∀ β' G', Hands β β' G' ids' → PtrRep β' G' (100000 + j) 0 0 y := by
  have fin : ∀ {e0 e : Ent} {v : List Nat}, S.G i = some (r, e0) → RefOk w β S.G (okB w0 N β S.G w) (vw ++ v) (i, r) e → (k ids.length (ids ++ [(i, r)]) (es ++ [e]) (vw ++ v)).run F S K → ∃ j ids' es' vw', (k j ids' es' vw').run F S K ∧ More w β S.G (okB w0 N β S.G w) ids ids' es es' vw vw' ∧ ∀ β' G', Hands β β' G' ids' → PtrRep β' G' (100000 + j) 0 0 y := by
    intro e0 e v hG he hk
    refine ⟨_, _, _, _, hk, ha.snoc he, fun β' G' hh => ?_⟩
    obtain ⟨⟨e', h1⟩, h2⟩ := hh ids.length (i, r) (by simp)
    obtain ⟨b, hb, hy⟩ := hs.cur_ptr hr hG
    exact ⟨by rw [hy]; rfl, 0, e', h1, Nat.le_refl _, fun _ => ⟨b, by rw [h2]; exact hb, hy⟩⟩
  obtain ⟨_, h⟩ := h
  dsimp only at h
  split at h
  · rename_i r' cs hG
    obtain ⟨rfl, h⟩ := h
    cases wr with
    | true =>
      obtain ⟨hcs, h⟩ := h
      have := fin (v := []) hG (e := .box cs) ⟨hG, hcs⟩ (by simpa using h)
      exact this
    | false =>
      obtain ⟨g, vs, t, he, hβ, hh, hcv⟩ := hs.cur_box hr hG
      obtain ⟨cs', v, h, hv⟩ := viewL_run hs cs vs.toList h (by simpa using hcv.1) (fun j c hj => let ⟨z, hz, hrz⟩ := hcv.2 j c hj; ⟨z, by simpa using hz, hrz⟩)
      exact fin hG (e := .rbx cs') ⟨⟨cs, .inl hG⟩, g, vs, t, (0, 0), hβ, hh, fun β' G' ok' hok => by have := hv β' G' ok' (hok.less fun i hi => List.mem_append_right _ hi); simpa using this⟩ h
  · rename_i r' cs hG
    obtain ⟨⟨rfl, rfl⟩, h⟩ := h
    obtain ⟨g, vs, t, fr, hβ, hh, hcv, _⟩ := hs.ents i r _ hG
    obtain ⟨cs', v, h, hv⟩ := viewL_run hs cs vs.toList h (by simpa using hcv.1) (fun j c hj => let ⟨z, hz, hrz⟩ := hcv.2 j c hj; ⟨z, by simpa using hz, hrz⟩)
    exact fin hG (e := .rbx cs') ⟨⟨cs, .inr hG⟩, g, vs, t, fr, hβ, hh, fun β' G' ok' hok => by have := hv β' G' ok' (hok.less fun i hi => List.mem_append_right _ hi); simpa using this⟩ h
  · exact h.elim
theorem refL_run {wr : Bool} (hs : Sim w0 M N b0 nt β S w tm) : ∀ (ps : List (Nat × Nat)) (ys : List Value) {ids : List (Nat × Nat)} {es : List Ent} {vw : List Nat} {k : List (Nat × Nat) → List (Nat × Nat) → List Ent → List Nat → AM}, (refL wr ps ids es vw k).run F S K → ys.length = ps.length →
    (∀ (j : Nat) (p : Nat × Nat), ps[j]? = some p → ∃ z, ys[j]? = some z ∧ PtrRep β S.G p.1 p.2 0 z) → Acc w β S.G (okB w0 N β S.G w) ids es vw →
    ∃ ps' ids' es' vw', (k ps' ids' es' vw').run F S K ∧ More w β S.G (okB w0 N β S.G w) ids ids' es es' vw vw' ∧ ps'.length = ps.length ∧ ∀ β' G', Hands β β' G' ids' → ∀ (j : Nat) (p : Nat × Nat), ps'[j]? = some p → ∃ z, ys[j]? = some z ∧ PtrRep β' G' p.1 p.2 0 z
  | [], ys, ids, es, vw, k, h, hl, hr, ha => ⟨_, _, _, _, h, More.refl ha, rfl, fun β' G' hh j p hj => by simp at hj⟩
  | p :: ps, ys, ids, es, vw, k, h, hl, hr, ha => by
    match ys, hl, hr with
    | y :: ys, hl, hr =>
      obtain ⟨z, hz, hrz⟩ := hr 0 p rfl
      have e : y = z := by simpa using hz
      subst e
      obtain ⟨j, ids1, es1, vw1, h, h1, h2⟩ := refP_run h hs hrz ha
      obtain ⟨ps', ids2, es2, vw2, h, h3, h4, h5⟩ := refL_run hs ps ys h (by simpa using hl) (fun j d hj => hr (j + 1) d (by simpa using hj)) h1.acc
      refine ⟨_, _, _, _, h, h1.trans h3, by simpa using h4, fun β' G' hh j' q hj => ?_⟩
      cases j' with
      | zero =>
        cases hj
        obtain ⟨l, rfl⟩ := h3.ids
        exact ⟨y, rfl, h2 β' G' hh.less⟩
      | succ j' =>
        obtain ⟨z, hz, hr⟩ := h5 β' G' hh j' q (by simpa using hj)
        exact ⟨z, by simpa using hz, hr⟩
theorem handL_run (hs : Sim w0 M N b0 nt β S w tm) : ∀ (cs : List AC) (vs : List Value) {ids : List (Nat × Nat)} {es : List Ent} {vw : List Nat} {k : List AC → List (Nat × Nat) → List Ent → AM}, (handL cs ids es k).run F S K → vs.length = cs.length → (∀ (j : Nat) (c : AC), cs[j]? = some c → ∃ z, vs[j]? = some z ∧ c.rep w β S.G (okB w0 N β S.G w) z) → Acc w β S.G (okB w0 N β S.G w) ids es vw →
    ∃ cs' ids' es', (k cs' ids' es').run F S K ∧ More w β S.G (okB w0 N β S.G w) ids ids' es es' vw vw ∧ cs'.length = cs.length ∧ ∀ β' G' ok', Reads β S.G (okB w0 N β S.G w) vw ok' → Hands β β' G' ids' → ∀ (j : Nat) (c : AC), cs'[j]? = some c → ∃ z, vs[j]? = some z ∧ c.rep w β' G' ok' z
  | [], vs, ids, es, vw, k, h, hl, hr, ha => ⟨_, _, _, h, More.refl ha, rfl, fun β' G' ok' hok hh j c hj => by simp at hj⟩
  | c :: cs, vs, ids, es, vw, k, h, hl, hr, ha => by
    match vs, hl, hr with
    | y :: vs, hl, hr =>
      obtain ⟨z, hz, hrz⟩ := hr 0 c rfl
      have e : y = z := by simpa using hz
      subst e
      have hr' := fun j d hj => hr (j + 1) d (by simpa using hj)
      have plain : ∀ {c' : AC}, (∀ β' G' ok', Reads β S.G (okB w0 N β S.G w) vw ok' → c'.rep w β' G' ok' y) → (handL cs ids es fun cs' ids' es' => k (c' :: cs') ids' es').run F S K → ∃ cs' ids' es', (k cs' ids' es').run F S K ∧ More w β S.G (okB w0 N β S.G w) ids ids' es es' vw vw ∧ cs'.length = (c :: cs).length ∧ ∀ β' G' ok', Reads β S.G (okB w0 N β S.G w) vw ok' → Hands β β' G' ids' → ∀ (j : Nat) (c : AC), cs'[j]? = some c → ∃ z, (y :: vs)[j]? = some z ∧ c.rep w β' G' ok' z := by
        intro c' hc h
        obtain ⟨cs', ids', es', h, h1, h2, h3⟩ := handL_run hs cs vs h (by simpa using hl) hr' ha
        refine ⟨_, _, _, h, h1, by simpa using h2, fun β' G' ok' hok hh j d hj => ?_⟩
        cases j with
        | zero => cases hj; exact ⟨y, rfl, hc β' G' ok' hok⟩
        | succ j => obtain ⟨z, hz, hr⟩ := h3 β' G' ok' hok hh j d (by simpa using hj); exact ⟨z, by simpa using hz, hr⟩
      match c, h, hrz with
      | .v x, h, hrz => exact plain (c' := .v x) (fun β' G' ok' hok => hrz) h
      | .ro sz n l, h, hrz => exact plain (c' := .ro sz n l) (fun β' G' ok' hok => RoRep.mono (fun b hb => ⟨hok b (.inl hb), rfl⟩) hrz) h
      | .sl i r n, h, hrz =>
        obtain ⟨_, h⟩ := h
        dsimp only at h
        split at h
        · rename_i r' e z l hG
          obtain ⟨⟨rfl, hl1, hz⟩, h⟩ := h
          obtain ⟨A, m, cap, q1, q2, hy⟩ := hs.cur_sl hrz hG
          have hm := ha.snoc (v := []) (p := (i, r)) (e := .row e z l) hG
          simp only [List.append_nil] at hm
          obtain ⟨cs', ids', es', h, h1, h2, h3⟩ := handL_run hs cs vs h (by simpa using hl) hr' hm.acc
          refine ⟨_, _, _, h, hm.trans h1, by simpa using h2, fun β' G' ok' hok hh j d hj => ?_⟩
          cases j with
          | zero =>
            cases hj
            obtain ⟨l2, rfl⟩ := h1.ids
            obtain ⟨⟨e', g1⟩, g2⟩ := hh.less ids.length (i, r) (by simp)
            exact ⟨y, rfl, hrz.1, 0, e', g1, Nat.le_refl _, fun _ => ⟨A, m, cap, by rw [g2]; exact q1, q2, hy⟩⟩
          | succ j => obtain ⟨z, hz, hr⟩ := h3 β' G' ok' hok hh j d (by simpa using hj); exact ⟨z, by simpa using hz, hr⟩
        · exact h.elim
      | .ptr _ _ _, h, hrz => exact h.elim
      | .rp _, h, hrz => exact h.elim
      | .fn _ _, h, hrz => exact h.elim
/-- An argument as the callee sees it. -/
def ARep (w : World) (β : Nat → Value) (G : Blk) (ok : Nat → Prop) (ids : List (Nat × Nat)) (vw : List Nat) (a' : AV) (y : Value) : Prop := ∀ β' G' ok', Reads β G ok vw ok' → Hands β β' G' ids → a'.rep w β' G' ok' y
theorem nrmA_run {wr : Bool} {a : AV} {ids : List (Nat × Nat)} {es : List Ent} {vw : List Nat} {k : AV → List (Nat × Nat) → List Ent → List Nat → AM} {y : Value} (h : (nrmA wr a ids es vw k).run F S K) (hs : Sim w0 M N b0 nt β S w tm)
    (hr : a.rep w β S.G (okB w0 N β S.G w) y) (ha : Acc w β S.G (okB w0 N β S.G w) ids es vw) : ∃ a' ids' es' vw', (k a' ids' es' vw').run F S K ∧ More w β S.G (okB w0 N β S.G w) ids ids' es es' vw vw' ∧ ARep w β S.G (okB w0 N β S.G w) ids' vw' a' y := by
  have hview : ∀ {c : AC}, (viewC c fun c' v => k (.g (.one c')) ids es (vw ++ v)).run F S K → c.rep w β S.G (okB w0 N β S.G w) y → ∃ a' ids' es' vw', (k a' ids' es' vw').run F S K ∧ More w β S.G (okB w0 N β S.G w) ids ids' es es' vw vw' ∧ ARep w β S.G (okB w0 N β S.G w) ids' vw' a' y := by
    intro c h hr
    obtain ⟨c', v, h, hc⟩ := viewC_run h hs hr
    exact ⟨_, _, _, _, h, ⟨⟨ha.len, fun j p e hj he => (ha.ent j p e hj he).mono fun i hi => List.mem_append_left _ hi⟩, ⟨[], by simp⟩, fun i hi => List.mem_append_left _ hi⟩,
      fun β' G' ok' hok hh => hc β' G' ok' (hok.less fun i hi => List.mem_append_right _ hi)⟩
  match a, h, hr with
  | .g (.one (.ptr i r o)), h, hr =>
    obtain ⟨rfl, h⟩ := h
    obtain ⟨j, ids', es', vw', h, h1, h2⟩ := refP_run h hs hr ha
    exact ⟨_, _, _, _, h, h1, fun β' G' ok' hok hh => h2 β' G' hh⟩
  | .g (.one (.fn f caps)), h, hr =>
    obtain ⟨vs, hv, h1, h2⟩ := hr
    obtain ⟨ps', ids', es', vw', h, h3, h4, h5⟩ := refL_run hs caps vs.toList h (by simpa using h1) (fun j p hj => let ⟨z, hz, hrz⟩ := h2 j p hj; ⟨z, by simpa using hz, hrz⟩) ha
    exact ⟨_, _, _, _, h, h3, fun β' G' ok' hok hh => ⟨vs, hv, by rw [h1, h4], fun j p hj => let ⟨z, hz, hrz⟩ := h5 β' G' hh j p hj; ⟨z, by simpa using hz, hrz⟩⟩⟩
  | .g (.one (.sl i r n)), h, hr =>
    cases wr with
    | false => exact hview (c := .sl i r n) h hr
    | true =>
      obtain ⟨_, h⟩ := h
      dsimp only at h
      split at h
      · rename_i r' e z l hG
        obtain ⟨⟨rfl, hl, hz⟩, h⟩ := h
        obtain ⟨A, m, cap, q1, q2, hy⟩ := hs.cur_sl hr hG
        have hm := ha.snoc (v := []) (p := (i, r)) (e := .row e z l) hG
        simp only [List.append_nil] at hm
        refine ⟨_, _, _, _, h, hm, fun β' G' ok' hok hh => ?_⟩
        obtain ⟨⟨e', h1⟩, h2⟩ := hh ids.length (i, r) (by simp)
        exact ⟨hr.1, 0, e', h1, Nat.le_refl _, fun _ => ⟨A, m, cap, by rw [h2]; exact q1, q2, hy⟩⟩
      · exact h.elim
  | .g (.one (.v x)), h, hr => exact hview (c := .v x) h hr
  | .g (.one (.ro z n l)), h, hr => exact hview (c := .ro z n l) h hr
  | .g (.one (.rp l)), h, hr => exact hview (c := .rp l) h hr
  | .g (.agg cs), h, hr =>
    obtain ⟨vs, hv, hc⟩ := hr
    cases wr with
    | true =>
      obtain ⟨cs', ids', es', h, h1, h2, h3⟩ := handL_run hs cs vs.toList h (by simpa using hc.1) (fun j c hj => let ⟨z, hz, hrz⟩ := hc.2 j c hj; ⟨z, by simpa using hz, hrz⟩) ha
      exact ⟨_, _, _, _, h, h1, fun β' G' ok' hok hh => ⟨vs, hv, by rw [h2]; exact hc.1, fun j c hj => let ⟨z, hz, hrz⟩ := h3 β' G' ok' hok hh j c hj; ⟨z, by simpa using hz, hrz⟩⟩⟩
    | false =>
    obtain ⟨cs', v, h, hcs⟩ := viewL_run hs cs vs.toList h (by simpa using hc.1) (fun j c hj => let ⟨z, hz, hrz⟩ := hc.2 j c hj; ⟨z, by simpa using hz, hrz⟩)
    exact ⟨_, _, _, _, h, ⟨⟨ha.len, fun j p e hj he => (ha.ent j p e hj he).mono fun i hi => List.mem_append_left _ hi⟩, ⟨[], by simp⟩, fun i hi => List.mem_append_left _ hi⟩,
      fun β' G' ok' hok hh => ⟨vs, hv, by have := hcs β' G' ok' (hok.less fun i hi => List.mem_append_right _ hi); simpa using this⟩⟩
theorem nrmL_run {wr : Nat → Bool} (hs : Sim w0 M N b0 nt β S w tm) : ∀ (l : List AV) (ys : List Value) {p : Nat} {ids : List (Nat × Nat)} {es : List Ent} {vw : List Nat} {k : List AV → List (Nat × Nat) → List Ent → List Nat → AM}, (nrmL wr p l ids es vw k).run F S K → ys.length = l.length →
    (∀ (j : Nat) (a : AV), l[j]? = some a → ∃ z, ys[j]? = some z ∧ a.rep w β S.G (okB w0 N β S.G w) z) → Acc w β S.G (okB w0 N β S.G w) ids es vw →
    ∃ l' ids' es' vw', (k l' ids' es' vw').run F S K ∧ More w β S.G (okB w0 N β S.G w) ids ids' es es' vw vw' ∧ l'.length = l.length ∧ ∀ (j : Nat) (a' : AV), l'[j]? = some a' → ∃ z, ys[j]? = some z ∧ ARep w β S.G (okB w0 N β S.G w) ids' vw' a' z
  | [], ys, p, ids, es, vw, k, h, hl, hr, ha => ⟨_, _, _, _, h, More.refl ha, rfl, fun j p hj => by simp at hj⟩
  | a :: l, ys, p, ids, es, vw, k, h, hl, hr, ha => by
    match ys, hl, hr with
    | y :: ys, hl, hr =>
      obtain ⟨z, hz, hrz⟩ := hr 0 a rfl
      have e : y = z := by simpa using hz
      subst e
      obtain ⟨a', ids1, es1, vw1, h, h1, h2⟩ := nrmA_run h hs hrz ha
      obtain ⟨l', ids2, es2, vw2, h, h3, h4, h5⟩ := nrmL_run hs l ys h (by simpa using hl) (fun j d hj => hr (j + 1) d (by simpa using hj)) h1.acc
      refine ⟨_, _, _, _, h, h1.trans h3, by simpa using h4, fun j' q hj => ?_⟩
      cases j' with
      | zero =>
        cases hj
        obtain ⟨l, rfl⟩ := h3.ids
        exact ⟨y, rfl, fun β' G' ok' hok hh => h2 β' G' ok' (hok.less h3.vw) hh.less⟩
      | succ j' =>
        obtain ⟨z, hz, hr⟩ := h5 j' q (by simpa using hj)
        exact ⟨z, by simpa using hz, hr⟩
end
end Go.Proofs.Ytgifhhefcmmdfaa
