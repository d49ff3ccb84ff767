/- AbsN, AbsO, AbsP, AbsQ, AbsM: laid into one text. -/
import Derived.Test.YtfbcblknahicdaaQXFB

namespace Go.Proofs.Ytfbcblknahicdaa
set_option linter.unusedVariables false
open Go.RowKit
def viewC (c : AC) (k : AC → List Nat → AM) : AM := match c with
  | .sl i r n => .getE i fun
    | some (r', .row e z l) => .need (r = r' ∧ 0 < z ∧ l.length = n * z) (k (.ro z n l) [i])
    | some (r', .fro z l) => .need (r = r' ∧ 0 < z ∧ l.length = n * z) (k (.ro z n l) [])
    | _ => .fail
  | .ptr _ _ _ => .fail
  | .sb _ _ _ _ => .fail
  | .fn f c => .need (c = []) (k (.fn f []) [])
  | c => k c []
def viewL : List AC → (List AC → List Nat → AM) → AM
  | [], k => k [] []
  | c :: cs, k => viewC c fun c' v => viewL cs fun cs' v' => k (c' :: cs') (v ++ v')
def refP (wr : Bool) (i r : Nat) (ids : List (Nat × Nat)) (es : List Ent) (vw : List Nat) (k : Nat → List (Nat × Nat) → List Ent → List Nat → AM) : AM := .getE i fun
  | some (r', .box cs) => .need (r = r') (if wr then .need (cs.all (AC.on fun _ => false) = true) (k ids.length (ids ++ [(i, r)]) (es ++ [.box cs]) vw)
      else viewL cs fun cs' v => k ids.length (ids ++ [(i, r)]) (es ++ [.rbx cs']) (vw ++ v))
  | some (r', .rbx cs) => .need (r = r' ∧ wr = false) (viewL cs fun cs' v => k ids.length (ids ++ [(i, r)]) (es ++ [.rbx cs']) (vw ++ v))
  | _ => .fail
def refL (wr : Bool) : List (Nat × Nat) → List (Nat × Nat) → List Ent → List Nat → (List (Nat × Nat) → List (Nat × Nat) → List Ent → List Nat → AM) → AM
  | [], ids, es, vw, k => k [] ids es vw
  | p :: ps, ids, es, vw, k => refP wr p.1 p.2 ids es vw fun j ids es vw => refL wr ps ids es vw fun ps' ids es vw => k ((100000 + j, 0) :: ps') ids es vw
def handL : List AC → List (Nat × Nat) → List Ent → (List AC → List (Nat × Nat) → List Ent → AM) → AM
  | [], ids, es, k => k [] ids es
  | .sl i r n :: cs, ids, es, k => .getE i fun
    | some (r', .row e z l) => .need (r = r' ∧ l.length = n * z ∧ 0 < z) (handL cs (ids ++ [(i, r)]) (es ++ [.row e z l]) fun cs' ids' es' => k (.sl (100000 + ids.length) 0 n :: cs') ids' es')
    | _ => .fail
  | .v x :: cs, ids, es, k => handL cs ids es fun cs' ids' es' => k (.v x :: cs') ids' es'
  | .ro z n l :: cs, ids, es, k => handL cs ids es fun cs' ids' es' => k (.ro z n l :: cs') ids' es'
  | _ :: _, _, _, _ => .fail
def nrmA (wr : Bool) (a : AV) (ids : List (Nat × Nat)) (es : List Ent) (vw : List Nat) (k : AV → List (Nat × Nat) → List Ent → List Nat → AM) : AM := match a with
  | .g (.one (.ptr i r o)) => .need (o = 0) (refP wr i r ids es vw fun j ids es vw => k (.g (.one (.ptr (100000 + j) 0 0))) ids es vw)
  | .g (.one (.fn f caps)) => refL wr caps ids es vw fun caps' ids es vw => k (.g (.one (.fn f caps'))) ids es vw
  | .g (.one (.sl i r n)) => if wr then .getE i fun
      | some (r', .row e z l) => .need (r = r' ∧ l.length = n * z ∧ 0 < z) (k (.g (.one (.sl (100000 + ids.length) 0 n))) (ids ++ [(i, r)]) (es ++ [.row e z l]) vw)
      | _ => .fail
    else viewC (.sl i r n) fun c' v => k (.g (.one c')) ids es (vw ++ v)
  | .g (.one c) => viewC c fun c' v => k (.g (.one c')) ids es (vw ++ v)
  | .g (.agg cs) => if wr then handL cs ids es fun cs' ids es => k (.g (.agg cs')) ids es vw else viewL cs fun cs' v => k (.g (.agg cs')) ids es (vw ++ v)
  | .tup _ => .fail
def nrmL (wr : Nat → Bool) : Nat → List AV → List (Nat × Nat) → List Ent → List Nat → (List AV → List (Nat × Nat) → List Ent → List Nat → AM) → AM
  | _, [], ids, es, vw, k => k [] ids es vw
  | p, a :: l, ids, es, vw, k => nrmA (wr p) a ids es vw fun a' ids es vw => nrmL wr (p + 1) l ids es vw fun l' ids es vw => k (a' :: l') ids es vw
def frzC (c : AC) (k : AM) : AM := match c with
  | .sl i r n => .getE i fun
    | some (r', .row e z l) => .need (i < 100000) (.putE i (some (r', .fro z l)) k)
    | _ => k
  | _ => k
def frzL : List AC → AM → AM
  | [], k => k
  | c :: cs, k => frzC c (frzL cs k)
def cellsL : List AV → List AC
  | [] => []
  | .g (.one c) :: l => c :: cellsL l
  | .g (.agg cs) :: l => cs ++ cellsL l
  | .tup _ :: l => cellsL l
def cellsW (wr : Nat → Bool) : Nat → List AV → List AC
  | _, [] => []
  | p, a :: l => (bif wr p then [] else cellsL [a]) ++ cellsW wr (p + 1) l
def AC.noro : AC → Bool
  | .ro _ n _ => n == 0
  | .rp _ => false
  | _ => true
def AG.noro : AG → Bool
  | .one c => c.noro
  | .agg cs => cs.all AC.noro
def AV.noro : AV → Bool
  | .g x => x.noro
  | .tup xs => xs.all AG.noro
def Ent.noro : Ent → Bool
  | .box cs => cs.all AC.noro
  | .row _ _ _ => true
  | _ => false
def backL : List (Nat × Nat) → List Ent → List Ent → AM → AM
  | (i, r) :: ids, .box _ :: es, .box cs' :: es', k => .putE i (some (r, .box cs')) (backL ids es es' k)
  | (i, r) :: ids, .row _ _ _ :: es, .row e' z' l' :: es', k => .putE i (some (r, .row e' z' l')) (backL ids es es' k)
  | _ :: ids, .rbx _ :: es, _ :: es', k => backL ids es es' k
  | [], [], [], k => k
  | _, _, _, _ => .fail
def newL (d : Nat) : Nat → List Ent → (List Nat → AM) → AM
  | _, [], k => k []
  | j, e :: es, k => .need (e.live ∧ e.on (fun _ => false) = true ∧ j < 16) (lay1 (nid d j) e fun r => newL d (j + 1) es fun rs => k (r :: rs))
def callM (C : Fn3) (wr : Nat → Bool) (al : Bool) (args : List AV) (dst : Option Tmp) : AM :=
  (fun k => if al then frzL (cellsW wr 0 args) k else k) <|
  nrmL wr 0 args [] [] [] fun args' ids es vw => .need ((ids.map (·.1)).Nodup ∧ (∀ i ∈ vw, i ∉ ids.map (·.1)) ∧ (al = true → vw = []) ∧ (∀ i ∈ ids.map (·.1), i / 16 ≠ dst.getD 0)) <|
  orFail (C args' es) fun (out, news, es') => .need (al = true ∨ (out.noro = true ∧ news.all Ent.noro = true ∧ (es'.all fun e => match e with | .rbx _ => true | e => e.noro) = true)) <|
  .need (news = [] ∨ dst.isSome = true) <|
  backL ids es es' <| newL (dst.getD 0) 0 news fun rs => putD' dst (out.ren fun i => if 100000 ≤ i then (ids[i - 100000]?).getD (0, 0) else (nid (dst.getD 0) i, (rs[i]?).getD 0))
where putD' (d : Option Tmp) (x : AV) : AM := putD d x
section
variable {P : Program} {T : Tab} {F : Ft} {S : St} {K : St → Prop} {w0 w w' : World} {M N : Nat → Prop} {b0 : Nat → Value} {nt : Nat} {β : Nat → Value} {tm : Array Value}
def VW (β : Nat → Value) (G : Blk) (v : List Nat) (b : Nat) : Prop := ∃ i ∈ v, ∃ r e, G i = some (r, e) ∧ e.live ∧ blk? (β i) = some b
theorem VW.mono {G : Blk} {v v' : List Nat} {b : Nat} (h : VW β G v b) (hv : ∀ i ∈ v, i ∈ v') : VW β G v' b := let ⟨i, hi, r⟩ := h; ⟨i, hv i hi, r⟩
def Reads (β : Nat → Value) (G : Blk) (ok : Nat → Prop) (v : List Nat) (ok' : Nat → Prop) : Prop := ∀ b, ok b ∨ VW β G v b → ok' b
theorem Reads.less {G : Blk} {ok ok' : Nat → Prop} {v v' : List Nat} (h : Reads β G ok v' ok') (hv : ∀ i ∈ v, i ∈ v') : Reads β G ok v ok' := fun b hb => h b (hb.imp id fun h => h.mono hv)
theorem viewC_run {c : AC} {k : AC → List Nat → AM} {y : Value} (h : (viewC c k).run F S K) (hs : Sim w0 M N b0 nt β S w tm) (hr : c.rep w β S.G (okB w0 N β S.G w) y) :
    ∃ c' v, (k c' v).run F S K ∧ ∀ β' G' ok', Reads β S.G (okB w0 N β S.G w) v ok' → c'.rep w β' G' ok' y := by
  cases c with
  | v x => exact ⟨_, _, h, fun β' G' ok' hok => hr⟩
  | ro sz n l => exact ⟨_, _, h, fun β' G' ok' hok => RoRep.mono (fun b hb => ⟨hok b (.inl hb), rfl⟩) hr⟩
  | rp l =>
    obtain ⟨h1, b, off, e, hb, hc⟩ := hr
    exact ⟨_, _, h, fun β' G' ok' hok => ⟨h1, b, off, e, hok b (.inl hb), hc⟩⟩
  | ptr i r o => exact h.elim
  | sb i r n c0 => exact h.elim
  | er => exact ⟨_, _, h, fun β' G' ok' hok => hr⟩
  | fn f c =>
    obtain ⟨rfl, h⟩ := h
    obtain ⟨vs, h1, h2, h3⟩ := hr
    exact ⟨_, _, h, fun β' G' ok' hok => ⟨vs, h1, h2, fun j p hp => by simp at hp⟩⟩
  | sl i r n =>
    obtain ⟨_, h⟩ := h
    dsimp only at h
    split at h
    · rename_i r' e z l hG
      obtain ⟨⟨rfl, hz, hle⟩, h⟩ := h
      obtain ⟨A, m, cap, q1, q2, rfl⟩ := hs.cur_sl hr hG
      obtain ⟨p0, e2, n2, p1, p2⟩ := hs.ents i r _ hG
      refine ⟨_, _, h, fun β' G' ok' hok => ?_⟩
      have h1 : RoRep w ok' z n2 l (β i) := row_ro p2 p0 fun b hb => hok b (.inr ⟨i, List.mem_singleton.2 rfl, r, _, hG, trivial, hb⟩)
      rw [q1] at h1
      have hn2 : n2 = m := by obtain ⟨_, A3, c3, hq, _⟩ := h1; cases hq; rfl
      subst hn2
      exact (ro_whole h1 hle hz).1
    · rename_i r' z l hG
      obtain ⟨⟨rfl, hz, hle⟩, h⟩ := h
      obtain ⟨A, m, cap, q1, q2, rfl⟩ := hs.cur_sl hr hG
      obtain ⟨n2, h1⟩ := hs.ents i r _ hG
      rw [q1] at h1
      have hn2 : n2 = m := by obtain ⟨_, A3, c3, hq, _⟩ := h1; cases hq; rfl
      subst hn2
      exact ⟨_, _, h, fun β' G' ok' hok => (ro_whole (RoRep.mono (fun b hb => ⟨hok b (.inl hb), rfl⟩) h1) hle hz).1⟩
    · exact h.elim
theorem viewL_run (hs : Sim w0 M N b0 nt β S w tm) : ∀ (cs : List AC) (vs : List Value) {k : List AC → List Nat → AM}, (viewL cs k).run F S K → vs.length = cs.length → (∀ (j : Nat) (c : AC), cs[j]? = some c → ∃ z, vs[j]? = some z ∧ c.rep w β S.G (okB w0 N β S.G w) z) →
    ∃ cs' v, (k cs' v).run F S K ∧ ∀ β' G' ok', Reads β S.G (okB w0 N β S.G w) v ok' → CsRep w β' G' ok' cs' vs.toArray
  | [], vs, k, h, hl, hr => by
    have : vs = [] := List.eq_nil_of_length_eq_zero hl
    subst this
    exact ⟨[], [], h, fun β' G' ok' hok => ⟨rfl, fun j c hj => by simp at hj⟩⟩
  | c :: cs, vs, k, h, hl, hr => by
    match vs, hl, hr with
    | y :: vs, hl, hr =>
      obtain ⟨z, hz, hrz⟩ := hr 0 c rfl
      have e : y = z := by simpa using hz
      subst e
      obtain ⟨c', v, h, hc⟩ := viewC_run h hs hrz
      obtain ⟨cs', v', h, hcs⟩ := viewL_run hs cs vs h (by simpa using hl) (fun j d hj => hr (j + 1) d (by simpa using hj))
      refine ⟨_, _, h, fun β' G' ok' hok => ?_⟩
      have h1 := hc β' G' ok' (hok.less fun i hi => List.mem_append_left _ hi)
      obtain ⟨h2, h3⟩ := hcs β' G' ok' (hok.less fun i hi => List.mem_append_right _ hi)
      refine ⟨by simpa using h2, fun j d hj => ?_⟩
      cases j with
      | zero => cases hj; exact ⟨y, rfl, h1⟩
      | succ j =>
        obtain ⟨z, hz, hr⟩ := h3 j d (by simpa using hj)
        exact ⟨z, by simpa using hz, hr⟩
def RefOk (w : World) (β : Nat → Value) (G : Blk) (ok : Nat → Prop) (vw : List Nat) (p : Nat × Nat) : Ent → Prop
  | .box cs => G p.1 = some (p.2, .box cs) ∧ cs.all (AC.on fun _ => false) = true
  | .row e z l => G p.1 = some (p.2, .row e z l)
  | .rbx cs' => (∃ cs, G p.1 = some (p.2, .box cs) ∨ G p.1 = some (p.2, .rbx cs)) ∧ ∃ g vs t fr, β p.1 = .pointer (some ⟨g, 0, none⟩) ∧ w.heap[g]? = some (.cells vs t fr) ∧ ∀ β' G' ok', Reads β G ok vw ok' → CsRep w β' G' ok' cs' vs
  | .fro _ _ => False
  | .gst _ => False
theorem RefOk.mono {G : Blk} {ok : Nat → Prop} {vw vw' : List Nat} {p : Nat × Nat} {e : Ent} (h : RefOk w β G ok vw p e) (hv : ∀ i ∈ vw, i ∈ vw') : RefOk w β G ok vw' p e := by
  cases e with
  | rbx cs => obtain ⟨h1, g, vs, t, fr, h2, h3, h4⟩ := h; exact ⟨h1, g, vs, t, fr, h2, h3, fun β' G' ok' hok => h4 β' G' ok' (hok.less hv)⟩
  | _ => exact h
structure Acc (w : World) (β : Nat → Value) (G : Blk) (ok : Nat → Prop) (ids : List (Nat × Nat)) (es : List Ent) (vw : List Nat) : Prop where
  len : ids.length = es.length
  ent : ∀ (j : Nat) (p : Nat × Nat) (e : Ent), ids[j]? = some p → es[j]? = some e → RefOk w β G ok vw p e
def Hands (β β' : Nat → Value) (G' : Blk) (ids : List (Nat × Nat)) : Prop := ∀ (j : Nat) (p : Nat × Nat), ids[j]? = some p → (∃ e', G' (100000 + j) = some (0, e')) ∧ β' (100000 + j) = β p.1
theorem Hands.less {β' : Nat → Value} {G' : Blk} {ids ids' : List (Nat × Nat)} (h : Hands β β' G' (ids ++ ids')) : Hands β β' G' ids := fun j p hp => h j p (by rw [List.getElem?_append_left (List.getElem?_eq_some_iff.1 hp).1]; exact hp)
structure More (w : World) (β : Nat → Value) (G : Blk) (ok : Nat → Prop) (ids ids' : List (Nat × Nat)) (es es' : List Ent) (vw vw' : List Nat) : Prop where
  acc : Acc w β G ok ids' es' vw'
  ids : ∃ l, ids' = ids ++ l
  vw : ∀ i ∈ vw, i ∈ vw'
theorem More.refl {G : Blk} {ok : Nat → Prop} {ids : List (Nat × Nat)} {es : List Ent} {vw : List Nat} (h : Acc w β G ok ids es vw) : More w β G ok ids ids es es vw vw := ⟨h, ⟨[], by simp⟩, fun i hi => hi⟩
theorem More.trans {G : Blk} {ok : Nat → Prop} {a b c : List (Nat × Nat)} {ea eb ec : List Ent} {va vb vc : List Nat} (h : More w β G ok a b ea eb va vb) (h' : More w β G ok b c eb ec vb vc) : More w β G ok a c ea ec va vc := by
  obtain ⟨l, rfl⟩ := h.ids
  obtain ⟨l', rfl⟩ := h'.ids
  exact ⟨h'.acc, ⟨l ++ l', by rw [List.append_assoc]⟩, fun i hi => h'.vw i (h.vw i hi)⟩
theorem Acc.snoc {G : Blk} {ok : Nat → Prop} {ids : List (Nat × Nat)} {es : List Ent} {vw v : List Nat} {p : Nat × Nat} {e : Ent} (h : Acc w β G ok ids es vw) (he : RefOk w β G ok (vw ++ v) p e) : More w β G ok ids (ids ++ [p]) es (es ++ [e]) vw (vw ++ v) := by
  refine ⟨⟨by simp [h.len], fun j q e' hj he' => ?_⟩, ⟨[p], rfl⟩, fun i hi => List.mem_append_left _ hi⟩
  by_cases hlt : j < ids.length
  · rw [List.getElem?_append_left hlt] at hj
    rw [List.getElem?_append_left (by rw [← h.len]; exact hlt)] at he'
    exact (h.ent j q e' hj he').mono fun i hi => List.mem_append_left _ hi
  · have hj2 := (List.getElem?_eq_some_iff.1 hj).1
    have : j = ids.length := by simp at hj2; omega
    subst this
    have e1 : q = p := by simpa using hj.symm
    have e2 : e' = e := by rw [h.len] at he'; simpa using he'.symm
    subst e1 e2
    exact he
theorem refP_run {wr : Bool} {i r : Nat} {ids : List (Nat × Nat)} {es : List Ent} {vw : List Nat} {k : Nat → List (Nat × Nat) → List Ent → List Nat → AM} {y : Value} (h : (refP wr i r ids es vw k).run F S K) (hs : Sim w0 M N b0 nt β S w tm)
    (hr : PtrRep β S.G i r 0 y) (ha : Acc w β S.G (okB w0 N β S.G w) ids es vw) : ∃ j ids' es' vw', (k j ids' es' vw').run F S K ∧ More w β S.G (okB w0 N β S.G w) ids ids' es es' vw vw' ∧ ∀ β' G', Hands β β' G' ids' → PtrRep β' G' (100000 + j) 0 0 y := by
  have fin : ∀ {e0 e : Ent} {v : List Nat}, S.G i = some (r, e0) → RefOk w β S.G (okB w0 N β S.G w) (vw ++ v) (i, r) e → (k ids.length (ids ++ [(i, r)]) (es ++ [e]) (vw ++ v)).run F S K → ∃ j ids' es' vw', (k j ids' es' vw').run F S K ∧ More w β S.G (okB w0 N β S.G w) ids ids' es es' vw vw' ∧ ∀ β' G', Hands β β' G' ids' → PtrRep β' G' (100000 + j) 0 0 y := by
    intro e0 e v hG he hk
    refine ⟨_, _, _, _, hk, ha.snoc he, fun β' G' hh => ?_⟩
    obtain ⟨⟨e', h1⟩, h2⟩ := hh ids.length (i, r) (by simp)
    obtain ⟨b, hb, hy⟩ := hs.cur_ptr hr hG
    exact ⟨by rw [hy]; rfl, 0, e', h1, Nat.le_refl _, fun _ => ⟨b, by rw [h2]; exact hb, hy⟩⟩
  obtain ⟨_, h⟩ := h
  dsimp only at h
  split at h
  · rename_i r' cs hG
    obtain ⟨rfl, h⟩ := h
    cases wr with
    | true =>
      obtain ⟨hcs, h⟩ := h
      have := fin (v := []) hG (e := .box cs) ⟨hG, hcs⟩ (by simpa using h)
      exact this
    | false =>
      obtain ⟨g, vs, t, he, hβ, hh, hcv⟩ := hs.cur_box hr hG
      obtain ⟨cs', v, h, hv⟩ := viewL_run hs cs vs.toList h (by simpa using hcv.1) (fun j c hj => let ⟨z, hz, hrz⟩ := hcv.2 j c hj; ⟨z, by simpa using hz, hrz⟩)
      exact fin hG (e := .rbx cs') ⟨⟨cs, .inl hG⟩, g, vs, t, (0, 0), hβ, hh, fun β' G' ok' hok => by have := hv β' G' ok' (hok.less fun i hi => List.mem_append_right _ hi); simpa using this⟩ h
  · rename_i r' cs hG
    obtain ⟨⟨rfl, rfl⟩, h⟩ := h
    obtain ⟨g, vs, t, fr, hβ, hh, hcv, _⟩ := hs.ents i r _ hG
    obtain ⟨cs', v, h, hv⟩ := viewL_run hs cs vs.toList h (by simpa using hcv.1) (fun j c hj => let ⟨z, hz, hrz⟩ := hcv.2 j c hj; ⟨z, by simpa using hz, hrz⟩)
    exact fin hG (e := .rbx cs') ⟨⟨cs, .inr hG⟩, g, vs, t, fr, hβ, hh, fun β' G' ok' hok => by have := hv β' G' ok' (hok.less fun i hi => List.mem_append_right _ hi); simpa using this⟩ h
  · exact h.elim
theorem refL_run {wr : Bool} (hs : Sim w0 M N b0 nt β S w tm) : ∀ (ps : List (Nat × Nat)) (ys : List Value) {ids : List (Nat × Nat)} {es : List Ent} {vw : List Nat} {k : List (Nat × Nat) → List (Nat × Nat) → List Ent → List Nat → AM}, (refL wr ps ids es vw k).run F S K → ys.length = ps.length →
    (∀ (j : Nat) (p : Nat × Nat), ps[j]? = some p → ∃ z, ys[j]? = some z ∧ PtrRep β S.G p.1 p.2 0 z) → Acc w β S.G (okB w0 N β S.G w) ids es vw →
    ∃ ps' ids' es' vw', (k ps' ids' es' vw').run F S K ∧ More w β S.G (okB w0 N β S.G w) ids ids' es es' vw vw' ∧ ps'.length = ps.length ∧ ∀ β' G', Hands β β' G' ids' → ∀ (j : Nat) (p : Nat × Nat), ps'[j]? = some p → ∃ z, ys[j]? = some z ∧ PtrRep β' G' p.1 p.2 0 z
  | [], ys, ids, es, vw, k, h, hl, hr, ha => ⟨_, _, _, _, h, More.refl ha, rfl, fun β' G' hh j p hj => by simp at hj⟩
  | p :: ps, ys, ids, es, vw, k, h, hl, hr, ha => by
    match ys, hl, hr with
    | y :: ys, hl, hr =>
      obtain ⟨z, hz, hrz⟩ := hr 0 p rfl
      have e : y = z := by simpa using hz
      subst e
      obtain ⟨j, ids1, es1, vw1, h, h1, h2⟩ := refP_run h hs hrz ha
      obtain ⟨ps', ids2, es2, vw2, h, h3, h4, h5⟩ := refL_run hs ps ys h (by simpa using hl) (fun j d hj => hr (j + 1) d (by simpa using hj)) h1.acc
      refine ⟨_, _, _, _, h, h1.trans h3, by simpa using h4, fun β' G' hh j' q hj => ?_⟩
      cases j' with
      | zero =>
        cases hj
        obtain ⟨l, rfl⟩ := h3.ids
        exact ⟨y, rfl, h2 β' G' hh.less⟩
      | succ j' =>
        obtain ⟨z, hz, hr⟩ := h5 β' G' hh j' q (by simpa using hj)
        exact ⟨z, by simpa using hz, hr⟩
theorem handL_run (hs : Sim w0 M N b0 nt β S w tm) : ∀ (cs : List AC) (vs : List Value) {ids : List (Nat × Nat)} {es : List Ent} {vw : List Nat} {k : List AC → List (Nat × Nat) → List Ent → AM}, (handL cs ids es k).run F S K → vs.length = cs.length → (∀ (j : Nat) (c : AC), cs[j]? = some c → ∃ z, vs[j]? = some z ∧ c.rep w β S.G (okB w0 N β S.G w) z) → Acc w β S.G (okB w0 N β S.G w) ids es vw →
    ∃ cs' ids' es', (k cs' ids' es').run F S K ∧ More w β S.G (okB w0 N β S.G w) ids ids' es es' vw vw ∧ cs'.length = cs.length ∧ ∀ β' G' ok', Reads β S.G (okB w0 N β S.G w) vw ok' → Hands β β' G' ids' → ∀ (j : Nat) (c : AC), cs'[j]? = some c → ∃ z, vs[j]? = some z ∧ c.rep w β' G' ok' z
  | [], vs, ids, es, vw, k, h, hl, hr, ha => ⟨_, _, _, h, More.refl ha, rfl, fun β' G' ok' hok hh j c hj => by simp at hj⟩
  | c :: cs, vs, ids, es, vw, k, h, hl, hr, ha => by
    match vs, hl, hr with
    | y :: vs, hl, hr =>
      obtain ⟨z, hz, hrz⟩ := hr 0 c rfl
      have e : y = z := by simpa using hz
      subst e
      have hr' := fun j d hj => hr (j + 1) d (by simpa using hj)
      have plain : ∀ {c' : AC}, (∀ β' G' ok', Reads β S.G (okB w0 N β S.G w) vw ok' → c'.rep w β' G' ok' y) → (handL cs ids es fun cs' ids' es' => k (c' :: cs') ids' es').run F S K → ∃ cs' ids' es', (k cs' ids' es').run F S K ∧ More w β S.G (okB w0 N β S.G w) ids ids' es es' vw vw ∧ cs'.length = (c :: cs).length ∧ ∀ β' G' ok', Reads β S.G (okB w0 N β S.G w) vw ok' → Hands β β' G' ids' → ∀ (j : Nat) (c : AC), cs'[j]? = some c → ∃ z, (y :: vs)[j]? = some z ∧ c.rep w β' G' ok' z := by
        intro c' hc h
        obtain ⟨cs', ids', es', h, h1, h2, h3⟩ := handL_run hs cs vs h (by simpa using hl) hr' ha
        refine ⟨_, _, _, h, h1, by simpa using h2, fun β' G' ok' hok hh j d hj => ?_⟩
        cases j with
        | zero => cases hj; exact ⟨y, rfl, hc β' G' ok' hok⟩
        | succ j => obtain ⟨z, hz, hr⟩ := h3 β' G' ok' hok hh j d (by simpa using hj); exact ⟨z, by simpa using hz, hr⟩
      match c, h, hrz with
      | .v x, h, hrz => exact plain (c' := .v x) (fun β' G' ok' hok => hrz) h
      | .ro sz n l, h, hrz => exact plain (c' := .ro sz n l) (fun β' G' ok' hok => RoRep.mono (fun b hb => ⟨hok b (.inl hb), rfl⟩) hrz) h
      | .sl i r n, h, hrz =>
        obtain ⟨_, h⟩ := h
        dsimp only at h
        split at h
        · rename_i r' e z l hG
          obtain ⟨⟨rfl, hl1, hz⟩, h⟩ := h
          obtain ⟨A, m, cap, q1, q2, hy⟩ := hs.cur_sl hrz hG
          have hm := ha.snoc (v := []) (p := (i, r)) (e := .row e z l) hG
          simp only [List.append_nil] at hm
          obtain ⟨cs', ids', es', h, h1, h2, h3⟩ := handL_run hs cs vs h (by simpa using hl) hr' hm.acc
          refine ⟨_, _, _, h, hm.trans h1, by simpa using h2, fun β' G' ok' hok hh j d hj => ?_⟩
          cases j with
          | zero =>
            cases hj
            obtain ⟨l2, rfl⟩ := h1.ids
            obtain ⟨⟨e', g1⟩, g2⟩ := hh.less ids.length (i, r) (by simp)
            exact ⟨y, rfl, hrz.1, 0, e', g1, Nat.le_refl _, fun _ => ⟨A, m, cap, by rw [g2]; exact q1, q2, hy⟩⟩
          | succ j => obtain ⟨z, hz, hr⟩ := h3 β' G' ok' hok hh j d (by simpa using hj); exact ⟨z, by simpa using hz, hr⟩
        · exact h.elim
      | .ptr _ _ _, h, hrz => exact h.elim
      | .rp _, h, hrz => exact h.elim
      | .fn _ _, h, hrz => exact h.elim
      | .er, h, hrz => exact h.elim
      | .sb _ _ _ _, h, hrz => exact h.elim
def ARep (w : World) (β : Nat → Value) (G : Blk) (ok : Nat → Prop) (ids : List (Nat × Nat)) (vw : List Nat) (a' : AV) (y : Value) : Prop := ∀ β' G' ok', Reads β G ok vw ok' → Hands β β' G' ids → a'.rep w β' G' ok' y
theorem nrmA_run {wr : Bool} {a : AV} {ids : List (Nat × Nat)} {es : List Ent} {vw : List Nat} {k : AV → List (Nat × Nat) → List Ent → List Nat → AM} {y : Value} (h : (nrmA wr a ids es vw k).run F S K) (hs : Sim w0 M N b0 nt β S w tm)
    (hr : a.rep w β S.G (okB w0 N β S.G w) y) (ha : Acc w β S.G (okB w0 N β S.G w) ids es vw) : ∃ a' ids' es' vw', (k a' ids' es' vw').run F S K ∧ More w β S.G (okB w0 N β S.G w) ids ids' es es' vw vw' ∧ ARep w β S.G (okB w0 N β S.G w) ids' vw' a' y := by
  have hview : ∀ {c : AC}, (viewC c fun c' v => k (.g (.one c')) ids es (vw ++ v)).run F S K → c.rep w β S.G (okB w0 N β S.G w) y → ∃ a' ids' es' vw', (k a' ids' es' vw').run F S K ∧ More w β S.G (okB w0 N β S.G w) ids ids' es es' vw vw' ∧ ARep w β S.G (okB w0 N β S.G w) ids' vw' a' y := by
    intro c h hr
    obtain ⟨c', v, h, hc⟩ := viewC_run h hs hr
    exact ⟨_, _, _, _, h, ⟨⟨ha.len, fun j p e hj he => (ha.ent j p e hj he).mono fun i hi => List.mem_append_left _ hi⟩, ⟨[], by simp⟩, fun i hi => List.mem_append_left _ hi⟩,
      fun β' G' ok' hok hh => hc β' G' ok' (hok.less fun i hi => List.mem_append_right _ hi)⟩
  match a, h, hr with
  | .g (.one (.ptr i r o)), h, hr =>
    obtain ⟨rfl, h⟩ := h
    obtain ⟨j, ids', es', vw', h, h1, h2⟩ := refP_run h hs hr ha
    exact ⟨_, _, _, _, h, h1, fun β' G' ok' hok hh => h2 β' G' hh⟩
  | .g (.one (.fn f caps)), h, hr =>
    obtain ⟨vs, hv, h1, h2⟩ := hr
    obtain ⟨ps', ids', es', vw', h, h3, h4, h5⟩ := refL_run hs caps vs.toList h (by simpa using h1) (fun j p hj => let ⟨z, hz, hrz⟩ := h2 j p hj; ⟨z, by simpa using hz, hrz⟩) ha
    exact ⟨_, _, _, _, h, h3, fun β' G' ok' hok hh => ⟨vs, hv, by rw [h1, h4], fun j p hj => let ⟨z, hz, hrz⟩ := h5 β' G' hh j p hj; ⟨z, by simpa using hz, hrz⟩⟩⟩
  | .g (.one (.sl i r n)), h, hr =>
    cases wr with
    | false => exact hview (c := .sl i r n) h hr
    | true =>
      obtain ⟨_, h⟩ := h
      dsimp only at h
      split at h
      · rename_i r' e z l hG
        obtain ⟨⟨rfl, hl, hz⟩, h⟩ := h
        obtain ⟨A, m, cap, q1, q2, hy⟩ := hs.cur_sl hr hG
        have hm := ha.snoc (v := []) (p := (i, r)) (e := .row e z l) hG
        simp only [List.append_nil] at hm
        refine ⟨_, _, _, _, h, hm, fun β' G' ok' hok hh => ?_⟩
        obtain ⟨⟨e', h1⟩, h2⟩ := hh ids.length (i, r) (by simp)
        exact ⟨hr.1, 0, e', h1, Nat.le_refl _, fun _ => ⟨A, m, cap, by rw [h2]; exact q1, q2, hy⟩⟩
      · exact h.elim
  | .g (.one (.v x)), h, hr => exact hview (c := .v x) h hr
  | .g (.one (.ro z n l)), h, hr => exact hview (c := .ro z n l) h hr
  | .g (.one (.rp l)), h, hr => exact hview (c := .rp l) h hr
  | .g (.one .er), h, hr => exact hview (c := .er) h hr
  | .g (.one (.sb i r n c0)), h, hr => exact hview (c := .sb i r n c0) h hr
  | .g (.agg cs), h, hr =>
    obtain ⟨vs, hv, hc⟩ := hr
    cases wr with
    | true =>
      obtain ⟨cs', ids', es', h, h1, h2, h3⟩ := handL_run hs cs vs.toList h (by simpa using hc.1) (fun j c hj => let ⟨z, hz, hrz⟩ := hc.2 j c hj; ⟨z, by simpa using hz, hrz⟩) ha
      exact ⟨_, _, _, _, h, h1, fun β' G' ok' hok hh => ⟨vs, hv, by rw [h2]; exact hc.1, fun j c hj => let ⟨z, hz, hrz⟩ := h3 β' G' ok' hok hh j c hj; ⟨z, by simpa using hz, hrz⟩⟩⟩
    | false =>
    obtain ⟨cs', v, h, hcs⟩ := viewL_run hs cs vs.toList h (by simpa using hc.1) (fun j c hj => let ⟨z, hz, hrz⟩ := hc.2 j c hj; ⟨z, by simpa using hz, hrz⟩)
    exact ⟨_, _, _, _, h, ⟨⟨ha.len, fun j p e hj he => (ha.ent j p e hj he).mono fun i hi => List.mem_append_left _ hi⟩, ⟨[], by simp⟩, fun i hi => List.mem_append_left _ hi⟩,
      fun β' G' ok' hok hh => ⟨vs, hv, by have := hcs β' G' ok' (hok.less fun i hi => List.mem_append_right _ hi); simpa using this⟩⟩
theorem nrmL_run {wr : Nat → Bool} (hs : Sim w0 M N b0 nt β S w tm) : ∀ (l : List AV) (ys : List Value) {p : Nat} {ids : List (Nat × Nat)} {es : List Ent} {vw : List Nat} {k : List AV → List (Nat × Nat) → List Ent → List Nat → AM}, (nrmL wr p l ids es vw k).run F S K → ys.length = l.length →
    (∀ (j : Nat) (a : AV), l[j]? = some a → ∃ z, ys[j]? = some z ∧ a.rep w β S.G (okB w0 N β S.G w) z) → Acc w β S.G (okB w0 N β S.G w) ids es vw →
    ∃ l' ids' es' vw', (k l' ids' es' vw').run F S K ∧ More w β S.G (okB w0 N β S.G w) ids ids' es es' vw vw' ∧ l'.length = l.length ∧ ∀ (j : Nat) (a' : AV), l'[j]? = some a' → ∃ z, ys[j]? = some z ∧ ARep w β S.G (okB w0 N β S.G w) ids' vw' a' z
  | [], ys, p, ids, es, vw, k, h, hl, hr, ha => ⟨_, _, _, _, h, More.refl ha, rfl, fun j p hj => by simp at hj⟩
  | a :: l, ys, p, ids, es, vw, k, h, hl, hr, ha => by
    match ys, hl, hr with
    | y :: ys, hl, hr =>
      obtain ⟨z, hz, hrz⟩ := hr 0 a rfl
      have e : y = z := by simpa using hz
      subst e
      obtain ⟨a', ids1, es1, vw1, h, h1, h2⟩ := nrmA_run h hs hrz ha
      obtain ⟨l', ids2, es2, vw2, h, h3, h4, h5⟩ := nrmL_run hs l ys h (by simpa using hl) (fun j d hj => hr (j + 1) d (by simpa using hj)) h1.acc
      refine ⟨_, _, _, _, h, h1.trans h3, by simpa using h4, fun j' q hj => ?_⟩
      cases j' with
      | zero =>
        cases hj
        obtain ⟨l, rfl⟩ := h3.ids
        exact ⟨y, rfl, fun β' G' ok' hok hh => h2 β' G' ok' (hok.less h3.vw) hh.less⟩
      | succ j' =>
        obtain ⟨z, hz, hr⟩ := h5 j' q (by simpa using hj)
        exact ⟨z, by simpa using hz, hr⟩
end
section
variable {P : Program} {T : Tab} {F : Ft} {S : St} {K : St → Prop} {w0 w w' : World} {M N : Nat → Prop} {b0 : Nat → Value} {nt : Nat} {β : Nat → Value} {tm : Array Value}
theorem rep_ren2 {G G' : Blk} {β' : Nat → Value} {ok ok' : Nat → Prop} {σ : Nat → Nat × Nat} {c : AC} {y : Value} (hσ : RenOk σ β β' G G' c.refs) (hok : (∀ b, ok b → ok' b) ∨ c.noro = true) (h : c.rep w β G ok y) : (c.ren σ).rep w β' G' ok' y := by
  rcases hok with hok | hn
  · exact AC.rep_ren hσ (fun b hb => ⟨hok b hb, rfl⟩) h
  · cases c with
    | ro sz n l =>
      have hn0 : n = 0 := by simpa [AC.noro] using hn
      subst hn0
      obtain ⟨h1, A, c, h2, h3, h4, _⟩ := h
      exact ⟨h1, A, c, h2, h3, h4, fun hp => by omega⟩
    | rp l => simp [AC.noro] at hn
    | v x => exact h
    | sl i r n =>
      obtain ⟨⟨e, h1⟩, ⟨e', h2⟩, h3⟩ := hσ (i, r) (List.mem_singleton.2 rfl)
      obtain ⟨h0, r', e2, g1, g2, g3⟩ := h
      have : r = r' := by
        have : some (r, e) = some (r', e2) := h1.symm.trans g1
        cases this; rfl
      exact ⟨h0, _, e', h2, Nat.le_refl _, fun _ => by rw [h3]; exact g3 this⟩
    | er => exact h
    | sb i r n c0 => exact SbRep.ren hσ h
    | ptr i r o => exact PtrRep.ren hσ h
    | fn f c =>
      obtain ⟨vs, h1, h2, h3⟩ := h
      refine ⟨vs, h1, by simpa using h2, fun j p hp => ?_⟩
      simp only [List.getElem?_map, Option.map_eq_some_iff] at hp
      obtain ⟨q, hq, rfl⟩ := hp
      obtain ⟨z, hz, hr⟩ := h3 j q hq
      exact ⟨z, hz, hr.ren fun p hp => hσ p (by rw [List.mem_singleton.1 hp]; exact List.mem_of_getElem? hq)⟩
theorem csren2 {G G' : Blk} {β' : Nat → Value} {ok ok' : Nat → Prop} {σ : Nat → Nat × Nat} {cs : List AC} {vs : Array Value} (hσ : RenOk σ β β' G G' (cs.flatMap AC.refs)) (hok : (∀ b, ok b → ok' b) ∨ cs.all AC.noro = true) (h : CsRep w β G ok cs vs) : CsRep w β' G' ok' (cs.map (AC.ren σ)) vs := by
  refine ⟨by simpa using h.1, fun j c hj => ?_⟩
  simp only [List.getElem?_map, Option.map_eq_some_iff] at hj
  obtain ⟨d, hd, rfl⟩ := hj
  obtain ⟨z, hz, hr⟩ := h.2 j d hd
  exact ⟨z, hz, rep_ren2 (fun p hp => hσ p (List.mem_flatMap.2 ⟨d, List.mem_of_getElem? hd, hp⟩)) (hok.imp id fun h => (List.all_eq_true.1 h) d (List.mem_of_getElem? hd)) hr⟩
theorem agren2 {G G' : Blk} {β' : Nat → Value} {ok ok' : Nat → Prop} {σ : Nat → Nat × Nat} {x : AG} {y : Value} (hσ : RenOk σ β β' G G' x.refs) (hok : (∀ b, ok b → ok' b) ∨ x.noro = true) (h : x.rep w β G ok y) : (x.ren σ).rep w β' G' ok' y := by
  cases x with
  | one c => exact rep_ren2 hσ hok h
  | agg cs => obtain ⟨vs, h1, h2⟩ := h; exact ⟨vs, h1, csren2 hσ hok h2⟩
theorem avren2 {G G' : Blk} {β' : Nat → Value} {ok ok' : Nat → Prop} {σ : Nat → Nat × Nat} {x : AV} {y : Value} (hσ : RenOk σ β β' G G' x.refs) (hok : (∀ b, ok b → ok' b) ∨ x.noro = true) (h : x.rep w β G ok y) : (x.ren σ).rep w β' G' ok' y := by
  cases x with
  | g c => exact agren2 hσ hok h
  | tup xs =>
    obtain ⟨vs, h1, h2, h3⟩ := h
    refine ⟨vs, h1, by simpa using h2, fun j x hx => ?_⟩
    simp only [List.getElem?_map, Option.map_eq_some_iff] at hx
    obtain ⟨d, hd, rfl⟩ := hx
    obtain ⟨z, hz, hr⟩ := h3 j d hd
    exact ⟨z, hz, agren2 (fun p hp => hσ p (List.mem_flatMap.2 ⟨d, List.mem_of_getElem? hd, hp⟩)) (hok.imp id fun h => (List.all_eq_true.1 h) d (List.mem_of_getElem? hd)) hr⟩
theorem noref_ren {c : AC} (hc : c.on (fun _ => false) = true) (σ : Nat → Nat × Nat) : c.ren σ = c ∧ c.refs = [] := by
  cases c with
  | sl i r n => cases hc
  | ptr i r o => cases hc
  | sb i r n c0 => cases hc
  | fn f c =>
    cases c with
    | nil => exact ⟨rfl, rfl⟩
    | cons p c => simp [AC.on] at hc
  | _ => exact ⟨rfl, rfl⟩
theorem noref2 {ok ok' : Nat → Prop} {β' : Nat → Value} {G G' : Blk} {c : AC} {y : Value} (hc : c.on (fun _ => false) = true) (hok : (∀ b, ok b → ok' b) ∨ c.noro = true) (h : c.rep w β G ok y) : c.rep w β' G' ok' y := by
  obtain ⟨h1, h2⟩ := noref_ren hc (fun _ => (0, 0))
  have := rep_ren2 (σ := fun _ => (0, 0)) (β' := β') (G' := G') (by rw [h2]; intro p hp; cases hp) hok h
  rwa [h1] at this
theorem give_ent {ok ok' : Nat → Prop} {β' : Nat → Value} {G G' : Blk} {e : Ent} {i i' : Nat} (hl : e.live) (hc : e.on (fun _ => false) = true) (hok : (∀ b, ok b → ok' b) ∨ e.noro = true) (hβ : β' i' = β i) (h : e.rep w β G ok i) : e.rep w β' G' ok' i' := by
  cases e with
  | box cs =>
    obtain ⟨g, vs, t, e1, e2, e3⟩ := h
    exact ⟨g, vs, t, hβ.trans e1, e2, e3.1, fun j c hj => let ⟨z, hz, hr⟩ := e3.2 j c hj; ⟨z, hz, noref2 ((List.all_eq_true.1 hc) c (List.mem_of_getElem? hj)) (hok.imp id fun h => (List.all_eq_true.1 h) c (List.mem_of_getElem? hj)) hr⟩⟩
  | row e sz l =>
    obtain ⟨h0, e', n, h1, h2⟩ := h
    exact ⟨h0, e', n, h1, by rw [hβ]; exact h2⟩
  | fro sz l => exact hl.elim
  | rbx cs => exact hl.elim
  | gst R =>
    obtain ⟨g, o, e1, e2, e3⟩ := h
    exact ⟨g, o, hβ.trans e1, e2, e3⟩
theorem frzC_run {c : AC} {k : AM} (h : (frzC c k).run F S K) (hs : Sim w0 M N b0 nt β S w tm) :
    ∃ S' β', k.run F S' K ∧ Sim w0 M N b0 nt β' S' w tm ∧ S'.E = S.E ∧ (∀ (a : AV) (y : Value), a.rep w β S.G (okB w0 N β S.G w) y → a.rep w β' S'.G (okB w0 N β' S'.G w) y) := by
  have same : k.run F S K → ∃ S' β', k.run F S' K ∧ Sim w0 M N b0 nt β' S' w tm ∧ S'.E = S.E ∧ (∀ (a : AV) (y : Value), a.rep w β S.G (okB w0 N β S.G w) y → a.rep w β' S'.G (okB w0 N β' S'.G w) y) :=
    fun h => ⟨S, β, h, hs, rfl, fun a y h => h⟩
  cases c with
  | sl i r n =>
    obtain ⟨_, h⟩ := h
    dsimp only at h
    split at h
    · rename_i r' e z l hG
      obtain ⟨hi, _, h⟩ := h
      obtain ⟨p0, e2, n2, p1, p2⟩ := hs.ents i r' _ hG
      obtain ⟨β', k1, k2, k3, k4⟩ := hs.change1 (w' := w) i r' (.fro z l) (β i) rfl rfl rfl (Nat.le_refl _)
        (fun r1 e1 hg => by rw [hG] at hg; cases hg; exact ⟨Nat.le_refl _, fun _ => rfl⟩) (fun k _ _ => rfl) (fun b hb _ => hb.elim) (fun _ => ⟨_, hG⟩)
        (fun β' G' hβ hG' hok hold hβi => by
          refine ⟨n2, ?_⟩
          rw [hβi]
          refine row_ro p2 p0 fun b hb => ?_
          have hf := hs.fresh i r' _ b hG trivial hb
          refine ⟨hf.1, ?_, fun hlt => ?_⟩
          · rintro ⟨j, r1, e1, hj, hlive, hjb⟩
            by_cases hji : j = i
            · subst hji
              rw [hG', upd_same] at hj
              cases hj
              exact hlive.elim
            · rw [hG', upd_ne _ _ hji] at hj
              rw [hβ] at hjb
              simp only [hji, if_false] at hjb
              exact hji (hs.apart j i r1 e1 r' _ b hj hlive hG trivial hjb hb)
          · rcases hf.2 with hf | hf
            · omega
            · omega)
      exact ⟨_, β', h, k1, rfl, fun a y ha => AV.rep_mono k3 k4 ha⟩
    · exact same h
  | _ => exact same h
theorem frzL_run : ∀ (cs : List AC) {S : St} {β : Nat → Value} {k : AM}, (frzL cs k).run F S K → Sim w0 M N b0 nt β S w tm →
    ∃ S' β', k.run F S' K ∧ Sim w0 M N b0 nt β' S' w tm ∧ S'.E = S.E ∧ (∀ (a : AV) (y : Value), a.rep w β S.G (okB w0 N β S.G w) y → a.rep w β' S'.G (okB w0 N β' S'.G w) y)
  | [], S, β, k, h, hs => ⟨S, β, h, hs, rfl, fun a y h => h⟩
  | c :: cs, S, β, k, h, hs => by
    obtain ⟨S1, β1, h, hs1, e1, r1⟩ := frzC_run h hs
    obtain ⟨S2, β2, h, hs2, e2, r2⟩ := frzL_run cs h hs1
    exact ⟨S2, β2, h, hs2, e2.trans e1, fun a y ha => r2 a y (r1 a y ha)⟩
def Alike (e e' : Ent) : Prop := (∃ a b, e = .box a ∧ e' = .box b) ∨ (∃ a b c d f g, e = .row a b c ∧ e' = .row d f g)
theorem Alike.live {e e' : Ent} (h : Alike e e') : e'.live := by
  rcases h with ⟨a, b, rfl, rfl⟩ | ⟨a, b, c, d, f, g, rfl, rfl⟩ <;> trivial
def backG (G : Blk) : List (Nat × Nat) → List Ent → List Ent → Blk
  | (i, r) :: ids, .box _ :: es, .box cs' :: es' => backG (upd G i (some (r, .box cs'))) ids es es'
  | (i, r) :: ids, .row _ _ _ :: es, .row e' z' l' :: es' => backG (upd G i (some (r, .row e' z' l'))) ids es es'
  | _ :: ids, .rbx _ :: es, _ :: es' => backG G ids es es'
  | _, _, _ => G
theorem backL_run {k : AM} : ∀ (ids : List (Nat × Nat)) (es es' : List Ent) {S : St}, (backL ids es es' k).run F S K → k.run F ⟨S.E, backG S.G ids es es'⟩ K ∧ (∀ (j : Nat) (e : Ent), es[j]? = some e → e.live → ∃ e', es'[j]? = some e' ∧ Alike e e')
  | [], [], [], S, h => ⟨h, fun j e hj => by simp at hj⟩
  | (i, r) :: ids, .box _ :: es, .box cs' :: es', S, h => by
    obtain ⟨h1, h2⟩ := backL_run ids es es' h.2
    refine ⟨h1, fun j e hj hl => ?_⟩
    cases j with
    | zero => cases hj; exact ⟨_, rfl, .inl ⟨_, _, rfl, rfl⟩⟩
    | succ j => exact h2 j e (by simpa using hj) hl
  | (i, r) :: ids, .row _ _ _ :: es, .row e' z' l' :: es', S, h => by
    obtain ⟨h1, h2⟩ := backL_run ids es es' h.2
    refine ⟨h1, fun j e hj hl => ?_⟩
    cases j with
    | zero => cases hj; exact ⟨_, rfl, .inr ⟨_, _, _, _, _, _, rfl, rfl⟩⟩
    | succ j => exact h2 j e (by simpa using hj) hl
  | _ :: ids, .rbx _ :: es, _ :: es', S, h => by
    obtain ⟨h1, h2⟩ := backL_run ids es es' h
    refine ⟨h1, fun j e hj hl => ?_⟩
    cases j with
    | zero => cases hj; exact hl.elim
    | succ j => exact h2 j e (by simpa using hj) hl
  | [], [], _ :: _, S, h => h.elim
  | [], _ :: _, _, S, h => h.elim
  | _ :: _, [], _, S, h => h.elim
  | _ :: _, .fro _ _ :: _, _, S, h => h.elim
  | _ :: _, .gst _ :: _, _, S, h => h.elim
  | _ :: _, .box _ :: _, [], S, h => h.elim
  | _ :: _, .row _ _ _ :: _, [], S, h => h.elim
  | _ :: _, .rbx _ :: _, [], S, h => h.elim
  | _ :: _, .box _ :: _, .row _ _ _ :: _, S, h => h.elim
  | _ :: _, .box _ :: _, .fro _ _ :: _, S, h => h.elim
  | _ :: _, .box _ :: _, .gst _ :: _, S, h => h.elim
  | _ :: _, .box _ :: _, .rbx _ :: _, S, h => h.elim
  | _ :: _, .row _ _ _ :: _, .box _ :: _, S, h => h.elim
  | _ :: _, .row _ _ _ :: _, .fro _ _ :: _, S, h => h.elim
  | _ :: _, .row _ _ _ :: _, .gst _ :: _, S, h => h.elim
  | _ :: _, .row _ _ _ :: _, .rbx _ :: _, S, h => h.elim
theorem backG_out {i : Nat} : ∀ (ids : List (Nat × Nat)) (es es' : List Ent) (G : Blk), (∀ (j : Nat) (p : Nat × Nat) (e : Ent), ids[j]? = some p → es[j]? = some e → e.live → p.1 ≠ i) → backG G ids es es' i = G i
  | (i', r) :: ids, .box cs :: es, .box cs' :: es', G, h => by
    have h0 := h 0 (i', r) (.box cs) rfl rfl trivial
    have := backG_out ids es es' (upd G i' (some (r, .box cs'))) (fun j p e hj he hl => h (j + 1) p e (by simpa using hj) (by simpa using he) hl)
    rw [backG, this, upd_ne _ _ (fun e => h0 e.symm)]
  | (i', r) :: ids, .row a b c :: es, .row e' z' l' :: es', G, h => by
    have h0 := h 0 (i', r) (.row a b c) rfl rfl trivial
    have := backG_out ids es es' (upd G i' (some (r, .row e' z' l'))) (fun j p e hj he hl => h (j + 1) p e (by simpa using hj) (by simpa using he) hl)
    rw [backG, this, upd_ne _ _ (fun e => h0 e.symm)]
  | _ :: ids, .rbx _ :: es, _ :: es', G, h => by
    have := backG_out ids es es' G (fun j p e hj he hl => h (j + 1) p e (by simpa using hj) (by simpa using he) hl)
    rw [backG, this]
  | [], _, _, G, h => by simp [backG]
  | _ :: _, [], _, G, h => by simp [backG]
  | _ :: _, .fro _ _ :: _, _, G, h => by simp [backG]
  | _ :: _, .gst _ :: _, _, G, h => by simp [backG]
  | _ :: _, .box _ :: _, [], G, h => by simp [backG]
  | _ :: _, .row _ _ _ :: _, [], G, h => by simp [backG]
  | _ :: _, .rbx _ :: _, [], G, h => by simp [backG]
  | _ :: _, .box _ :: _, .row _ _ _ :: _, G, h => by simp [backG]
  | _ :: _, .box _ :: _, .fro _ _ :: _, G, h => by simp [backG]
  | _ :: _, .box _ :: _, .gst _ :: _, G, h => by simp [backG]
  | _ :: _, .box _ :: _, .rbx _ :: _, G, h => by simp [backG]
  | _ :: _, .row _ _ _ :: _, .box _ :: _, G, h => by simp [backG]
  | _ :: _, .row _ _ _ :: _, .fro _ _ :: _, G, h => by simp [backG]
  | _ :: _, .row _ _ _ :: _, .gst _ :: _, G, h => by simp [backG]
  | _ :: _, .row _ _ _ :: _, .rbx _ :: _, G, h => by simp [backG]
theorem backG_at : ∀ (ids : List (Nat × Nat)) (es es' : List Ent) (G : Blk), (ids.map (·.1)).Nodup → (∀ (j : Nat) (e : Ent), es[j]? = some e → e.live → ∃ e', es'[j]? = some e' ∧ Alike e e') → (∀ (j : Nat) (e : Ent), es[j]? = some e → e.live ∨ ∃ cs, e = .rbx cs) →
    es'.length = es.length → ∀ (j : Nat) (p : Nat × Nat) (e e' : Ent), ids[j]? = some p → es[j]? = some e → e.live → es'[j]? = some e' → backG G ids es es' p.1 = some (p.2, e')
  | (i', r) :: ids, e0 :: es, e0' :: es', G, hn, hk, hf, hlen, j, p, e, e', hj, he, hlive, he' => by
    rw [List.map_cons, List.nodup_cons] at hn
    have hrec := backG_at ids es es'
    have h00 : e0.live → Alike e0 e0' := fun hl => by
      obtain ⟨e2, h1, h2⟩ := hk 0 e0 rfl hl
      cases h1; exact h2
    cases j with
    | zero =>
      cases hj; cases he; cases he'
      have hout : ∀ G' : Blk, backG G' ids es es' i' = G' i' := fun G' => backG_out ids es es' G' fun j p e hj _ _ hp => hn.1 (hp ▸ List.mem_map_of_mem (f := (·.1)) (List.mem_of_getElem? hj))
      rcases h00 hlive with ⟨a, b, rfl, rfl⟩ | ⟨a, b, c, d, f, g, rfl, rfl⟩
      · rw [backG, hout, upd_same]
      · rw [backG, hout, upd_same]
    | succ j =>
      have hstep : ∃ G', backG G ((i', r) :: ids) (e0 :: es) (e0' :: es') = backG G' ids es es' := by
        rcases hf 0 e0 rfl with hl0 | ⟨cs, rfl⟩
        · rcases h00 hl0 with ⟨a, b, rfl, rfl⟩ | ⟨a, b, c, d, f, g, rfl, rfl⟩
          · exact ⟨_, by rw [backG]⟩
          · exact ⟨_, by rw [backG]⟩
        · exact ⟨G, by rw [backG]⟩
      obtain ⟨G', hG'⟩ := hstep
      rw [hG']
      exact hrec G' hn.2 (fun j e hj hl' => hk (j + 1) e (by simpa using hj) hl') (fun j e hj => hf (j + 1) e (by simpa using hj)) (by simpa using hlen) j p e e' (by simpa using hj) (by simpa using he) hlive (by simpa using he')
  | [], es, es', G, hn, hk, hf, hlen, j, p, e, e', hj, he, hlive, he' => by simp at hj
  | _ :: _, [], es', G, hn, hk, hf, hlen, j, p, e, e', hj, he, hlive, he' => by simp at he
  | _ :: _, _ :: _, [], G, hn, hk, hf, hlen, j, p, e, e', hj, he, hlive, he' => by simp at hlen
theorem newL_run {d : Nat} : ∀ (news : List Ent) (j0 : Nat) {S : St} {k : List Nat → AM}, (newL d j0 news k).run F S K →
    ∃ rs G', (k rs).run F ⟨S.E, G'⟩ K ∧ rs.length = news.length ∧ (∀ i, (∀ m, m < news.length → i ≠ nid d (j0 + m)) → G' i = S.G i) ∧
      (∀ (m : Nat) (e : Ent), news[m]? = some e → e.live ∧ e.on (fun _ => false) = true ∧ j0 + m < 16 ∧ nid d (j0 + m) < 100000 ∧ ∃ r, rs[m]? = some r ∧ G' (nid d (j0 + m)) = some (r, e) ∧ ∀ r1 e1, S.G (nid d (j0 + m)) = some (r1, e1) → r1 < r)
  | [], j0, S, k, h => ⟨[], S.G, h, rfl, fun i hi => rfl, fun m e hm => by simp at hm⟩
  | e :: news, j0, S, k, h => by
    obtain ⟨⟨hl, hon, hj⟩, h⟩ := h
    obtain ⟨hlt, _, h⟩ := h
    have key : ∀ r, (∀ r1 e1, S.G (nid d j0) = some (r1, e1) → r1 < r) → (newL d (j0 + 1) news fun rs => k (r :: rs)).run F (S.lay (nid d j0) (some (r, e))) K → ∃ rs G', (k rs).run F ⟨S.E, G'⟩ K ∧ rs.length = (e :: news).length ∧ (∀ i, (∀ m, m < (e :: news).length → i ≠ nid d (j0 + m)) → G' i = S.G i) ∧
      (∀ (m : Nat) (e' : Ent), (e :: news)[m]? = some e' → e'.live ∧ e'.on (fun _ => false) = true ∧ j0 + m < 16 ∧ nid d (j0 + m) < 100000 ∧ ∃ r, rs[m]? = some r ∧ G' (nid d (j0 + m)) = some (r, e') ∧ ∀ r1 e1, S.G (nid d (j0 + m)) = some (r1, e1) → r1 < r) := by
      intro r hr h
      obtain ⟨rs, G', h1, h2, h3, h4⟩ := newL_run news (j0 + 1) h
      have hne : ∀ m, nid d j0 ≠ nid d (j0 + 1 + m) := fun m => by unfold nid; omega
      refine ⟨r :: rs, G', h1, by simpa using h2, fun i hi => ?_, fun m e' hm => ?_⟩
      · rw [h3 i (fun m hm => by have := hi (m + 1) (by simpa using hm); rwa [show j0 + (m + 1) = j0 + 1 + m by omega] at this)]
        exact upd_ne _ _ (hi 0 (by simp))
      · cases m with
        | zero =>
          cases hm
          refine ⟨hl, hon, hj, hlt, r, rfl, ?_, hr⟩
          rw [Nat.add_zero, h3 _ (fun m _ => hne m)]
          exact upd_same _ _ _
        | succ m =>
          obtain ⟨q1, q2, q3, q4, r', q5, q6, q7⟩ := h4 m e' (by simpa using hm)
          rw [show j0 + (m + 1) = j0 + 1 + m by omega]
          refine ⟨q1, q2, q3, q4, r', by simpa using q5, q6, fun r1 e1 hg => q7 r1 e1 ?_⟩
          have : (S.lay (nid d j0) (some (r, e))).G (nid d (j0 + 1 + m)) = S.G (nid d (j0 + 1 + m)) := upd_ne _ _ (Ne.symm (hne m))
          rw [this]; exact hg
    dsimp only at h
    split at h
    · rename_i hG
      obtain ⟨_, h⟩ := h
      exact key 0 (fun r1 e1 hg => by rw [hG] at hg; cases hg) h
    · rename_i r e' hG
      obtain ⟨_, h⟩ := h
      exact key (r + 1) (fun r1 e1 hg => by rw [hG] at hg; cases hg; omega) h
end
theorem good_of_con {P : Program} {f : FuncId} {C : Fn3} (hC : ConOk P f C) (wr : Nat → Bool) (al : Bool) : GoodCall P f (callM C wr al) := by
  refine ⟨hC.enters, ?_⟩
  intro F S0 K aa dst h w0 M N b0 nt βa w tm vs hd hsa hargs
  -- own rows that are only read from now on
  have hfrz : ∃ S β, (nrmL wr 0 aa [] [] [] fun args' ids es vw => .need ((ids.map (·.1)).Nodup ∧ (∀ i ∈ vw, i ∉ ids.map (·.1)) ∧ (al = true → vw = []) ∧ (∀ i ∈ ids.map (·.1), i / 16 ≠ dst.getD 0)) <|
      orFail (C args' es) fun (out, news, es') => .need (al = true ∨ (out.noro = true ∧ news.all Ent.noro = true ∧ (es'.all fun e => match e with | .rbx _ => true | e => e.noro) = true)) <|
      .need (news = [] ∨ dst.isSome = true) <|
      backL ids es es' <| newL (dst.getD 0) 0 news fun rs => callM.putD' dst (out.ren fun i => if 100000 ≤ i then (ids[i - 100000]?).getD (0, 0) else (nid (dst.getD 0) i, (rs[i]?).getD 0))).run F S K ∧
      Sim w0 M N b0 nt β S w tm ∧ ArgsRep w β S.G (okB w0 N β S.G w) aa vs := by
    unfold callM at h
    cases al with
    | false => exact ⟨S0, βa, h, hsa, hargs⟩
    | true =>
      obtain ⟨S1, β1, h1, h2, h3, h4⟩ := frzL_run _ h hsa
      exact ⟨S1, β1, h1, h2, hargs.1, fun j a hj => let ⟨z, hz, hr⟩ := hargs.2 j a hj; ⟨z, hz, h4 a z hr⟩⟩
  clear h hsa hargs
  obtain ⟨S, β, h, hs, hargs⟩ := hfrz
  obtain ⟨args', ids, es, vw, h, hmore, hlen, hrep⟩ := nrmL_run hs aa vs.toList h (by simpa using hargs.1) (fun j a hj => let ⟨z, hz, hr⟩ := hargs.2 j a hj; ⟨z, by simpa using hz, hr⟩) ⟨rfl, fun j p e hj he => by simp at hj⟩
  have hacc := hmore.acc
  obtain ⟨⟨hnd, hvw, hal, hidd⟩, h⟩ := h
  obtain ⟨⟨out, news, es'⟩, hCe, h⟩ := orFail_run h
  obtain ⟨hro, hdst, h⟩ := h
  -- the callee's beginning
  let βc : Nat → Value := fun i => if 100000 ≤ i then (match ids[i - 100000]? with | some p => β p.1 | none => undef) else undef
  have hβc : ∀ (j : Nat) (p : Nat × Nat), ids[j]? = some p → βc (100000 + j) = β p.1 := fun j p hp => by simp [βc, hp]
  have hGin : ∀ i r e, Gin es i = some (r, e) → r = 0 ∧ ∃ (j : Nat) (p : Nat × Nat), i = 100000 + j ∧ es[j]? = some e ∧ ids[j]? = some p ∧ βc i = β p.1 ∧ RefOk w β S.G (okB w0 N β S.G w) vw p e := by
    intro i r e hi
    unfold Gin at hi
    split at hi
    · rename_i hge
      simp only [Option.map_eq_some_iff, Prod.mk.injEq] at hi
      obtain ⟨e0, he0, h0, rfl⟩ := hi
      have hlt : i - 100000 < ids.length := by rw [hacc.len]; exact (List.getElem?_eq_some_iff.1 he0).1
      have hp : ids[i - 100000]? = some ids[i - 100000] := List.getElem?_eq_getElem hlt
      have ei : i = 100000 + (i - 100000) := by omega
      exact ⟨h0.symm, i - 100000, _, ei, he0, hp, by have h1 := hβc _ _ hp; rwa [← ei] at h1, hacc.ent _ _ _ hp he0⟩
    · cases hi
  have hGin2 : ∀ (j : Nat) (e : Ent), es[j]? = some e → Gin es (100000 + j) = some (0, e) := fun j e he => by
    unfold Gin
    rw [if_pos (by omega), show 100000 + j - 100000 = j by omega, he]; rfl
  -- a live block handed over is a live own block
  have hlive : ∀ (p : Nat × Nat) (e : Ent), RefOk w β S.G (okB w0 N β S.G w) vw p e → e.live → S.G p.1 = some (p.2, e) := by
    intro p e hr hl
    cases e with
    | box cs => exact hr.1
    | row a b c => exact hr
    | fro a b => exact hl.elim
    | rbx cs => exact hl.elim
    | gst R => exact hr.elim
  have hownc : ∀ b, ownB βc (Gin es) b → ∃ (j : Nat) (p : Nat × Nat) (e : Ent), ids[j]? = some p ∧ es[j]? = some e ∧ e.live ∧ S.G p.1 = some (p.2, e) ∧ blk? (β p.1) = some b := by
    rintro b ⟨i, r, e, hi, hl, hb⟩
    obtain ⟨_, j, p, rfl, he, hp, hβ, hr⟩ := hGin i r e hi
    exact ⟨j, p, e, hp, he, hl, hlive p e hr hl, by rw [← hβ]; exact hb⟩
  have hMc : ∀ b, Mof βc es b → ∃ (j : Nat) (p : Nat × Nat) (e : Ent), ids[j]? = some p ∧ es[j]? = some e ∧ e.live ∧ S.G p.1 = some (p.2, e) ∧ blk? (β p.1) = some b := by
    rintro b ⟨j, e, he, hl, hb⟩
    exact hownc b ⟨100000 + j, 0, e, hGin2 j e he, hl, hb⟩
  let Nc : Nat → Prop := fun b => b < w.heap.size ∧ ¬ Mof βc es b ∧ (al = true → okB w0 N β S.G w b)
  have hVW : ∀ b, VW β S.G vw b → b < w.heap.size ∧ ¬ ownB βc (Gin es) b := by
    rintro b ⟨i, hi, r, e, hG, hl, hb⟩
    refine ⟨(hs.fresh i r e b hG hl hb).1, fun ho => ?_⟩
    obtain ⟨j, p, e', hp, he', hl', hG', hb'⟩ := hownc b ho
    have := hs.apart i p.1 r e p.2 e' b hG hl hG' hl' hb hb'
    exact hvw i hi (by rw [this]; exact List.mem_map_of_mem (f := (·.1)) (List.mem_of_getElem? hp))
  have hMown : ∀ b, Mof βc es b → ownB βc (Gin es) b := by
    rintro b ⟨j, e, he, hl, hb⟩
    exact ⟨100000 + j, 0, e, hGin2 j e he, hl, hb⟩
  have hreads : Reads β S.G (okB w0 N β S.G w) vw (okB w Nc βc (Gin es) w) := by
    intro b hb
    rcases hb with hb | hb
    · have hno : ¬ ownB βc (Gin es) b := fun ho => by
        obtain ⟨j, p, e, _, _, hl, hG, hbp⟩ := hownc b ho
        exact hb.2.1 ⟨p.1, p.2, e, hG, hl, hbp⟩
      exact ⟨hb.1, hno, fun _ => ⟨hb.1, fun hM => hno (hMown b hM), fun _ => hb⟩⟩
    · obtain ⟨h1, h2⟩ := hVW b hb
      refine ⟨h1, h2, fun _ => ⟨h1, fun hM => h2 (hMown b hM), fun ha => ?_⟩⟩
      have := hal ha
      subst this
      obtain ⟨i, hi, _⟩ := hb
      cases hi
  have hhands : Hands β βc (Gin es) ids := fun j p hp => by
    have hlt : j < es.length := by rw [← hacc.len]; exact (List.getElem?_eq_some_iff.1 hp).1
    exact ⟨⟨es[j], hGin2 j _ (List.getElem?_eq_getElem hlt)⟩, hβc j p hp⟩
  have hinit : Sim w (Mof βc es) Nc βc vs.size βc ⟨argsE args', Gin es⟩ w vs := by
    have hgk : Gk w (Mof βc es) Nc := by
      obtain ⟨g1, g2⟩ := hs.glo
      refine ⟨g1.keep fun b hb => hs.block b (g2 b hb).2.2 (g2 b hb).2.1, fun b hb => ?_⟩
      obtain ⟨q1, q2, q3⟩ := g2 b hb
      have hsz := hs.size
      have hno : ¬ ownB β S.G b := by
        rintro ⟨i, r, e, hi, hl, hbi⟩
        rcases (hs.fresh i r e b hi hl hbi).2 with h1 | h1
        · omega
        · exact q2 h1.1
      have hnm : ¬ Mof βc es b := fun hM => by
        obtain ⟨j, p, e, _, _, hl, hG, hbp⟩ := hMc b hM
        exact hno ⟨p.1, p.2, e, hG, hl, hbp⟩
      exact ⟨⟨by omega, hnm, fun _ => ⟨by omega, hno, fun _ => q1⟩⟩, hnm, by omega⟩
    refine ⟨rfl, rfl, rfl, hgk, Nat.le_refl _, fun _ _ _ => rfl, ?_, ?_, ?_, fun _ _ _ _ => rfl, rfl, ?_⟩
    · intro i r e hi
      obtain ⟨_, j, p, rfl, he, hp, hβ, hr⟩ := hGin i r e hi
      cases e with
      | box cs =>
        obtain ⟨hG, hon⟩ := hr
        obtain ⟨g, vs', t, e1, e2, e3⟩ := hs.ents p.1 p.2 _ hG
        exact ⟨g, vs', t, hβ.trans e1, e2, e3.1, fun j c hj => let ⟨z, hz, hrz⟩ := e3.2 j c hj; ⟨z, hz, noref ((List.all_eq_true.1 hon) c (List.mem_of_getElem? hj)) (fun b hb => hreads b (.inl hb)) hrz⟩⟩
      | row a b c =>
        obtain ⟨h0, e', n, h1, h2⟩ := hs.ents p.1 p.2 _ hr
        exact ⟨h0, e', n, h1, by rw [hβ]; exact h2⟩
      | fro a b => exact hr.elim
      | gst R => exact hr.elim
      | rbx cs =>
        obtain ⟨⟨cs0, hG⟩, g, vs', t, fr, e1, e2, e3⟩ := hr
        refine ⟨g, vs', t, fr, hβ.trans e1, e2, e3 _ _ _ hreads, fun ho => ?_⟩
        obtain ⟨j', q, e', hq, he', hl', hGq, hbq⟩ := hownc g ho
        have hbp : blk? (β p.1) = some g := by rw [e1]; rfl
        rcases hG with hG | hG
        · have hpq := hs.apart p.1 q.1 p.2 _ q.2 e' g hG trivial hGq hl' hbp hbq
          have h1 : (ids.map (·.1))[j]? = some p.1 := by simp [hp]
          have h2 : (ids.map (·.1))[j']? = some p.1 := by simp [hq, hpq]
          have hjj : j = j' := (List.getElem?_inj (List.getElem?_eq_some_iff.1 h1).1 hnd).1 (h1.trans h2.symm)
          subst hjj
          rw [he] at he'
          cases he'
          exact hl'.elim
        · obtain ⟨g2, vs2, t2, fr2, f1, f2, f3, f4⟩ := hs.ents p.1 p.2 _ hG
          rw [e1] at f1
          cases f1
          exact f4 ⟨q.1, q.2, e', hGq, hl', hbq⟩
    · intro i i' r e r' e' b hi hl hi' hl' hb hb'
      obtain ⟨_, j, p, rfl, he, hp, hβ, hr⟩ := hGin i r e hi
      obtain ⟨_, j', p', rfl, he', hp', hβ', hr'⟩ := hGin i' r' e' hi'
      have hpq := hs.apart p.1 p'.1 p.2 e p'.2 e' b (hlive p e hr hl) hl (hlive p' e' hr' hl') hl' (by rw [← hβ]; exact hb) (by rw [← hβ']; exact hb')
      have h1 : (ids.map (·.1))[j]? = some p.1 := by simp [hp]
      have h2 : (ids.map (·.1))[j']? = some p.1 := by simp [hp', hpq]
      have hjj : j = j' := (List.getElem?_inj (List.getElem?_eq_some_iff.1 h1).1 hnd).1 (h1.trans h2.symm)
      rw [hjj]
    · intro i r e b hi hl hb
      obtain ⟨_, j, p, rfl, he, hp, hβ, hr⟩ := hGin i r e hi
      refine ⟨(hs.fresh p.1 p.2 e b (hlive p e hr hl) hl (by rw [← hβ]; exact hb)).1, .inr ⟨⟨j, e, he, hl, hb⟩, by omega⟩⟩
    · intro i a ha
      have hj : args'[i]? = some a := ha
      obtain ⟨z, hz, hr⟩ := hrep i a hj
      have hz' : vs[i]? = some z := by simpa using hz
      have hlt : i < vs.size := (Array.getElem?_eq_some_iff.1 hz').1
      refine ⟨hlt, ?_⟩
      have e1 : vs.getD i undef = z := by rw [Array.getD_eq_getD_getElem?, hz']; rfl
      rw [e1]
      exact hr _ _ _ hreads hhands
  have hcall := hC.does args' es out news es' hCe w vs βc Nc (fun b hb => ⟨hb.1, hb.2.1⟩) hinit (by rw [hlen]; exact hargs.1)
  obtain ⟨h, hkind⟩ := backL_run ids es es' h
  obtain ⟨rs, G', h, hrs, hG'out, hG'new⟩ := newL_run news 0 h
  refine hcall.mono ?_
  rintro e w' ⟨v, βe, rfl, hse, hout, hel, hon', hrefs⟩
  have hdin : ∀ (k : Nat), k < news.length → ∀ p ∈ ids, p.1 ≠ nid (dst.getD 0) k := by
    intro k hk p hp he
    have h1 := hidd p.1 (List.mem_map_of_mem (f := (·.1)) hp)
    obtain ⟨_, _, hk16, _⟩ := hG'new k _ (List.getElem?_eq_getElem hk)
    have hk : k < 16 := by omega
    have h2 : nid (dst.getD 0) k / 16 = dst.getD 0 := by unfold nid; omega
    rw [he] at h1
    exact h1 h2
  have hesl : ∀ (j : Nat) (e : Ent), es[j]? = some e → e.live ∨ ∃ cs, e = .rbx cs := by
    intro j e he
    have hlt : j < ids.length := by rw [hacc.len]; exact (List.getElem?_eq_some_iff.1 he).1
    have hr := hacc.ent j _ e (List.getElem?_eq_getElem hlt) he
    cases e with
    | box cs => exact .inl trivial
    | row a b c => exact .inl trivial
    | fro a b => exact hr.elim
    | rbx cs => exact .inr ⟨cs, rfl⟩
    | gst R => exact hr.elim
  -- the caller's blocks behind the call
  have hGref : ∀ (j : Nat) (p : Nat × Nat) (e e' : Ent), ids[j]? = some p → es[j]? = some e → e.live → es'[j]? = some e' → G' p.1 = some (p.2, e') := by
    intro j p e e' hp he hl he'
    rw [hG'out p.1 (fun m hm => by rw [Nat.zero_add]; exact hdin m hm p (List.mem_of_getElem? hp))]
    exact backG_at ids es es' S.G hnd hkind hesl hel j p e e' hp he hl he'
  have hGsame : ∀ i, (∀ m, m < news.length → i ≠ nid (dst.getD 0) m) → (∀ (j : Nat) (p : Nat × Nat) (e : Ent), ids[j]? = some p → es[j]? = some e → e.live → p.1 ≠ i) → G' i = S.G i := by
    intro i h1 h2
    rw [hG'out i (fun m hm => by rw [Nat.zero_add]; exact h1 m hm)]
    exact backG_out ids es es' S.G h2
  let d := dst.getD 0
  let βn : Nat → Value := fun i => if i / 16 = d ∧ i % 16 < news.length then βe (i % 16) else β i
  have hn16 : ∀ k, k < news.length → k < 16 := fun k hk => by
    obtain ⟨_, _, hk16, _⟩ := hG'new k _ (List.getElem?_eq_getElem hk)
    omega
  have hβn1 : ∀ k, k < news.length → βn (nid d k) = βe k := fun k hk => by
    have := hn16 k hk
    have e1 : nid d k / 16 = d := by unfold nid; omega
    have e2 : nid d k % 16 = k := by unfold nid; omega
    simp [βn, e1, e2, hk]
  have hβn2 : ∀ i, (∀ m, m < news.length → i ≠ nid d m) → βn i = β i := fun i hi => by
    have : ¬ (i / 16 = d ∧ i % 16 < news.length) := fun ⟨h1, h2⟩ => hi (i % 16) h2 (by unfold nid; omega)
    simp [βn, this]
  have hGnew : ∀ (k : Nat) (e : Ent), news[k]? = some e → e.live ∧ e.on (fun _ => false) = true ∧ nid d k < 100000 ∧ ∃ r, rs[k]? = some r ∧ G' (nid d k) = some (r, e) ∧ ∀ r1 e1, S.G (nid d k) = some (r1, e1) → r1 < r := by
    intro k e he
    obtain ⟨q1, q2, q3, q4, r, q5, q6, q7⟩ := hG'new k e he
    rw [Nat.zero_add] at q4 q6 q7
    refine ⟨q1, q2, q4, r, q5, q6, fun r1 e1 hg => q7 r1 e1 ?_⟩
    have hk : k < news.length := (List.getElem?_eq_some_iff.1 he).1
    show backG S.G ids es es' (nid (dst.getD 0) k) = _
    rw [backG_out ids es es' S.G (fun j p e hp _ _ => hdin k hk p (List.mem_of_getElem? hp))]
    exact hg
  have hpinj : ∀ (j : Nat) (p : Nat × Nat), ids[j]? = some p → j < es'.length → βe (100000 + j) = β p.1 := by
    intro j p hp hj
    have hgo : Gout news es' (100000 + j) = some (0, es'[j]) := by
      unfold Gout
      rw [if_pos (by omega), show 100000 + j - 100000 = j by omega, List.getElem?_eq_getElem hj]; rfl
    rw [hse.pin (100000 + j) _ (by omega) hgo, hβc j p hp]
  let Ch : Nat → Prop := fun i => (∃ k, k < news.length ∧ i = nid d k) ∨ (∃ (j : Nat) (p : Nat × Nat) (e : Ent), ids[j]? = some p ∧ es[j]? = some e ∧ e.live ∧ p.1 = i)
  have href_new : ∀ (j : Nat) (p : Nat × Nat), ids[j]? = some p → ∀ m, m < news.length → p.1 ≠ nid d m := fun j p hp m hm => hdin m hm p (List.mem_of_getElem? hp)
  have hes'j : ∀ (j : Nat) (e : Ent), es[j]? = some e → e.live → ∃ e', es'[j]? = some e' ∧ Alike e e' := hkind
  have hGoutnew : ∀ (k : Nat) (e : Ent), news[k]? = some e → k < 100000 → Gout news es' k = some (0, e) := fun k e he hk => by
    unfold Gout
    rw [if_neg (by omega), he]; rfl
  have hGoutref : ∀ (j : Nat) (e : Ent), es'[j]? = some e → Gout news es' (100000 + j) = some (0, e) := fun j e he => by
    unfold Gout
    rw [if_pos (by omega), show 100000 + j - 100000 = j by omega, he]; rfl
  have hk100 : ∀ k, k < news.length → k < 100000 := fun k hk => by have := hn16 k hk; omega
  have hchange := hs.change (w' := w') (β' := βn) Ch G' hse.os hse.tape hse.output hse.size
    (fun i hi => by
      have h1 : ∀ m, m < news.length → i ≠ nid d m := fun m hm he => hi (.inl ⟨m, hm, he⟩)
      exact ⟨hGsame i h1 (fun j p e hp he hl hpi => hi (.inr ⟨j, p, e, hp, he, hl, hpi⟩)), hβn2 i h1⟩)
    (fun i r e hi hG => by
      rcases hi with ⟨k, hk, rfl⟩ | ⟨j, p, e0, hp, he0, hl, rfl⟩
      · obtain ⟨_, _, _, r', _, q1, q2⟩ := hGnew k _ (List.getElem?_eq_getElem hk)
        have := q2 r e hG
        exact ⟨r', _, q1, by omega, fun he => by omega⟩
      · obtain ⟨e', he', _⟩ := hes'j j e0 he0 hl
        have hS := hlive p e0 (hacc.ent j p e0 hp he0) hl
        have hgr := hGref j p e0 e' hp he0 hl he'
        rw [hS] at hG
        cases hG
        exact ⟨p.2, e', hgr, Nat.le_refl _, fun _ => hβn2 p.1 (href_new j p hp)⟩)
    (fun k hk hne => by
      refine hse.block k hk fun hM => ?_
      obtain ⟨j, p, e, hp, he, hl, hG, hb⟩ := hMc k hM
      exact hne p.1 p.2 e (.inr ⟨j, p, e, hp, he, hl, rfl⟩) hG hl hb)
    (fun i r e b hi hG hl hb => by
      rcases hi with ⟨k, hk, rfl⟩ | ⟨j, p, e0, hp, he0, hl0, rfl⟩
      · rw [hβn1 k hk] at hb
        obtain ⟨q0, _, _, r', _, q1, _⟩ := hGnew k _ (List.getElem?_eq_getElem hk)
        obtain ⟨f1, f2⟩ := hse.fresh k 0 _ b (hGoutnew k _ (List.getElem?_eq_getElem hk) (hk100 k hk)) q0 hb
        refine ⟨f1, .inl ?_⟩
        rcases f2 with f2 | ⟨_, f2⟩
        · exact f2
        · have := hk100 k hk; omega
      · rw [hβn2 p.1 (href_new j p hp)] at hb
        have hS := hlive p e0 (hacc.ent j p e0 hp he0) hl0
        have hf := hs.fresh p.1 p.2 e0 b hS hl0 hb
        have := hse.size
        exact ⟨by omega, .inr ⟨p.2, e0, hS, hl0, hb⟩⟩)
    (fun i hi hge => by
      rcases hi with ⟨k, hk, rfl⟩ | ⟨j, p, e0, hp, he0, hl0, rfl⟩
      · obtain ⟨_, _, q, _⟩ := hGnew k _ (List.getElem?_eq_getElem hk)
        omega
      · exact ⟨_, hlive p e0 (hacc.ent j p e0 hp he0) hl0⟩)
    (fun i i' r e r' e' b hi hi' hG hl hG' hl' hwb hb hb' => by
      rcases hi with ⟨k, hk, rfl⟩ | ⟨j, p, e0, hp, he0, hl0, rfl⟩
      · rcases hi' with ⟨k', hk', rfl⟩ | ⟨j', p', e0', hp', he0', hl0', rfl⟩
        · rw [hβn1 k hk] at hb
          rw [hβn1 k' hk'] at hb'
          obtain ⟨q0, _⟩ := hGnew k _ (List.getElem?_eq_getElem hk)
          obtain ⟨q0', _⟩ := hGnew k' _ (List.getElem?_eq_getElem hk')
          rw [hse.apart k k' 0 _ 0 _ b (hGoutnew k _ (List.getElem?_eq_getElem hk) (hk100 k hk)) q0 (hGoutnew k' _ (List.getElem?_eq_getElem hk') (hk100 k' hk')) q0' hb hb']
        · rw [hβn2 p'.1 (href_new j' p' hp')] at hb'
          have := (hs.fresh p'.1 p'.2 e0' b (hlive p' e0' (hacc.ent j' p' e0' hp' he0') hl0') hl0' hb').1
          omega
      · rw [hβn2 p.1 (href_new j p hp)] at hb
        have := (hs.fresh p.1 p.2 e0 b (hlive p e0 (hacc.ent j p e0 hp he0) hl0) hl0 hb).1
        omega)
  -- what may be read behind the call
  have hokn : al = true → ∀ b, okB w Nc βe (Gout news es') w' b → okB w0 N βn G' w' b := by
    intro ha b ⟨q1, q2, q3⟩
    refine ⟨q1, ?_, fun hlt => ?_⟩
    · rintro ⟨i, r, e, hi, hl, hb⟩
      by_cases hci : Ch i
      · rcases hci with ⟨k, hk, rfl⟩ | ⟨j, p, e0, hp, he0, hl0, rfl⟩
        · rw [hβn1 k hk] at hb
          obtain ⟨q0, _⟩ := hGnew k _ (List.getElem?_eq_getElem hk)
          exact q2 ⟨k, 0, _, hGoutnew k _ (List.getElem?_eq_getElem hk) (hk100 k hk), q0, hb⟩
        · obtain ⟨e', he', hal'⟩ := hes'j j e0 he0 hl0
          rw [hβn2 p.1 (href_new j p hp), ← hpinj j p hp (List.getElem?_eq_some_iff.1 he').1] at hb
          exact q2 ⟨100000 + j, 0, e', hGoutref j e' he', hal'.live, hb⟩
      · have h1 : ∀ m, m < news.length → i ≠ nid d m := fun m hm he => hci (.inl ⟨m, hm, he⟩)
        rw [hGsame i h1 (fun j p e hp he hl hpi => hci (.inr ⟨j, p, e, hp, he, hl, hpi⟩))] at hi
        rw [hβn2 i h1] at hb
        have hf := hs.fresh i r e b hi hl hb
        exact ((q3 hf.1).2.2 ha).2.1 ⟨i, r, e, hi, hl, hb⟩
    · have := hs.size
      exact ((q3 (by omega)).2.2 ha).2.2 hlt
  obtain ⟨hsn, _, _⟩ := hchange (fun hok hold i r e hi hG => by
    rcases hi with ⟨k, hk, rfl⟩ | ⟨j, p, e0, hp, he0, hl0, rfl⟩
    · obtain ⟨q0, q1, _, r', _, q2, _⟩ := hGnew k _ (List.getElem?_eq_getElem hk)
      rw [q2] at hG
      cases hG
      refine give_ent q0 q1 ?_ (hβn1 k hk) (hse.ents k 0 _ (hGoutnew k _ (List.getElem?_eq_getElem hk) (hk100 k hk)))
      rcases hro with ha | ⟨_, hr2, _⟩
      · exact .inl (hokn ha)
      · exact .inr ((List.all_eq_true.1 hr2) _ (List.getElem_mem hk))
    · obtain ⟨e', he', hal'⟩ := hes'j j e0 he0 hl0
      rw [hGref j p e0 e' hp he0 hl0 he'] at hG
      cases hG
      have hje' : j < es'.length := (List.getElem?_eq_some_iff.1 he').1
      have hrefent := hse.ents (100000 + j) 0 e (hGoutref j e he')
      have hβ : βn p.1 = βe (100000 + j) := by rw [hβn2 p.1 (href_new j p hp), hpinj j p hp hje']
      refine give_ent hal'.live ((List.all_eq_true.1 hon') _ (List.mem_of_getElem? he')) ?_ hβ hrefent
      rcases hro with ha | ⟨_, _, hr3⟩
      · exact .inl (hokn ha)
      · right
        have h3 := (List.all_eq_true.1 hr3) _ (List.mem_of_getElem? he')
        have hl' := hal'.live
        cases e with
        | rbx cs => exact hl'.elim
        | _ => exact h3)
  -- the result
  have hσ : RenOk (fun i => if 100000 ≤ i then (ids[i - 100000]?).getD (0, 0) else (nid (dst.getD 0) i, (rs[i]?).getD 0)) βe βn (Gout news es') G' out.refs := by
    intro p hp
    obtain ⟨e, he⟩ := hrefs p hp
    refine ⟨⟨e, he⟩, ?_⟩
    have he0 := he
    unfold Gout at he
    split at he
    · rename_i hge
      simp only [Option.map_eq_some_iff, Prod.mk.injEq] at he
      obtain ⟨e1, he1, h0, rfl⟩ := he
      have hlt : p.1 - 100000 < es'.length := (List.getElem?_eq_some_iff.1 he1).1
      have hlt2 : p.1 - 100000 < ids.length := by rw [hacc.len, ← hel]; exact hlt
      have hq : ids[p.1 - 100000]? = some ids[p.1 - 100000] := List.getElem?_eq_getElem hlt2
      have hlt3 : p.1 - 100000 < es.length := by rw [← hacc.len]; exact hlt2
      have hq2 : es[p.1 - 100000]? = some es[p.1 - 100000] := List.getElem?_eq_getElem hlt3
      dsimp only
      rw [if_pos hge, hq]
      simp only [Option.getD_some]
      have hpe : p.1 = 100000 + (p.1 - 100000) := by omega
      refine ⟨?_, ?_⟩
      · rcases hesl _ _ hq2 with hl | ⟨cs, hcs⟩
        · exact ⟨_, hGref _ _ _ _ hq hq2 hl he1⟩
        · have hr := hacc.ent _ _ _ hq hq2
          rw [hcs] at hr
          obtain ⟨⟨cs0, hG⟩, _⟩ := hr
          have hex : ∃ e2, S.G ids[p.1 - 100000].1 = some (ids[p.1 - 100000].2, e2) := by
            rcases hG with hG | hG <;> exact ⟨_, hG⟩
          obtain ⟨e2, hG⟩ := hex
          refine ⟨e2, ?_⟩
          rw [hGsame _ (href_new _ _ hq) ?_]
          · exact hG
          · intro j' q e' hq' he' hl' hqe
            have h1 : (ids.map (·.1))[j']? = some q.1 := by simp [hq']
            have h2 : (ids.map (·.1))[p.1 - 100000]? = some q.1 := by simp [hq, hqe]
            have hjj : j' = p.1 - 100000 := (List.getElem?_inj (List.getElem?_eq_some_iff.1 h1).1 hnd).1 (h1.trans h2.symm)
            rw [hjj, hq2] at he'
            have he2 := Option.some.inj he'
            rw [← he2, hcs] at hl'
            exact hl'.elim
      · rw [hβn2 _ (href_new _ _ hq)]
        have := hpinj _ _ hq hlt
        rw [← hpe] at this
        exact this.symm
    · rename_i hlt
      simp only [Option.map_eq_some_iff, Prod.mk.injEq] at he
      obtain ⟨e1, he1, h0, rfl⟩ := he
      have hk : p.1 < news.length := (List.getElem?_eq_some_iff.1 he1).1
      obtain ⟨_, _, _, r', q1, q2, _⟩ := hGnew p.1 _ he1
      dsimp only
      rw [if_neg hlt, q1]
      exact ⟨⟨_, q2⟩, hβn1 p.1 hk⟩
  have hrepn := avren2 (w := w') (G := Gout news es') (G' := G') (ok := okB w Nc βe (Gout news es') w') (ok' := okB w0 N βn G' w') hσ (hro.imp (fun ha => hokn ha) (fun h => h.1)) hout
  cases dst with
  | none => exact ⟨v, βn, _, rfl, h, hsn⟩
  | some t => exact ⟨v, βn, _, rfl, h.2, hsn.put (hd t rfl) hrepn⟩
def mskOf (ops : Array Oper) (i : Nat) : Nat := (Region.before ops).getD i 0
def dstOf (ops : Array Oper) (i : Nat) : Option Tmp := (ops[i]?).bind (·.dst)
def afterOf (ops : Array Oper) (i : Nat) : List Edge := match ops[i]? with
  | some o => o.after.toList
  | none => []
abbrev Grp := List (Nat × List Nat)
def wc : Grp → Nat → Bool
  | [], _ => false
  | p :: l, e => Nat.beq p.1 e || wc l e
def tc : Grp → Nat → Nat → Bool
  | [], _, _ => false
  | p :: l, e, i => (Nat.beq p.1 e && p.2.contains i) || tc l e i
theorem tc_wc : ∀ {W : Grp} {e i : Nat}, tc W e i = true → wc W e = true
  | [], e, i, h => by cases h
  | p :: l, e, i, h => by
    simp only [tc, wc, Bool.or_eq_true, Bool.and_eq_true] at h ⊢
    exact h.imp (fun h => h.1) tc_wc
def offB (W : Grp) (i j : Nat) : Bool := W.all fun p => !(tc W p.1 i && tc W p.1 j)
theorem wc_mem : ∀ {W : Grp} {e : Nat}, wc W e = true → ∃ p ∈ W, p.1 = e
  | [], e, h => by cases h
  | p :: l, e, h => by
    simp only [wc, Bool.or_eq_true] at h
    rcases h with h | h
    · exact ⟨p, List.mem_cons_self, Nat.eq_of_beq_eq_true h⟩
    · obtain ⟨q, h1, h2⟩ := wc_mem h; exact ⟨q, List.mem_cons_of_mem _ h1, h2⟩
theorem off_tc {W : Grp} {i j e : Nat} (h : offB W i j = true) : ¬ (tc W e i = true ∧ tc W e j = true) := by
  rintro ⟨h1, h2⟩
  obtain ⟨p, hp, rfl⟩ := wc_mem (tc_wc h1)
  have := (List.all_eq_true.1 h) p hp
  rw [h1, h2] at this
  cases this
def Fd (ops : Array Oper) (W : Grp) (i : Nat) : Ft where
  sr s := match ops[i]? with
    | some o => (o.looksAt ops).contains s
    | none => false
  sw s := dstOf ops i == some s
  er e := (!wc W e || tc W e i) && (List.range ops.size).all (fun j => match dstOf ops j with
    | some d => !(e / 16 == d) || j == i || (mskOf ops i).testBit j
    | none => true)
  ew e := tc W e i || (match dstOf ops i with
    | some d => e / 16 == d
    | none => false)
def drawB (ops : Array Oper) (W : Grp) : Bool :=
  (List.range ops.size).all fun i =>
    (afterOf ops i).all (fun e => !Region.binds .any e || decide (e.on < i)) &&
    (List.range ops.size).all (fun j => !(mskOf ops i).testBit j || (decide (j < i) && (afterOf ops i).any (fun e => Region.binds .any e && (e.on == j || (mskOf ops e.on).testBit j)))) &&
    (List.range i).all (fun j => (mskOf ops i).testBit j || ((match ops[j]?, ops[i]? with
      | some x, some y => Oper.apart ops x y
      | _, _ => false) && offB W i j)) &&
    (W.all fun p => tc W p.1 i || match dstOf ops i with
      | some d => !(p.1 / 16 == d)
      | none => true)
section
variable {ops : Array Oper} {W : Grp}
structure DrawOk (ops : Array Oper) (W : Grp) : Prop where
  c1 : ∀ i, i < ops.size → ∀ e ∈ afterOf ops i, Region.binds .any e = true → e.on < i
  c2 : ∀ i j, i < ops.size → j < ops.size → (mskOf ops i).testBit j = true → j < i ∧ ∃ e ∈ afterOf ops i, Region.binds .any e = true ∧ (e.on = j ∨ (mskOf ops e.on).testBit j = true)
  c3 : ∀ i j, i < ops.size → j < i → (mskOf ops i).testBit j = true ∨ (∃ x y, ops[j]? = some x ∧ ops[i]? = some y ∧ Oper.apart ops x y = true ∧ ∀ e, ¬ (tc W e i = true ∧ tc W e j = true))
  c4 : ∀ i, i < ops.size → ∀ e, wc W e = true → ∀ d, dstOf ops i = some d → tc W e i = false → e / 16 ≠ d
theorem drawOk_of (h : drawB ops W = true) : DrawOk ops W := by
  have h1 : ∀ i, i < ops.size → _ := fun i hi => (List.all_eq_true.1 h) i (List.mem_range.2 hi)
  simp only [Bool.and_eq_true, List.all_eq_true, List.mem_range] at h1
  refine ⟨fun i hi e he hb => ?_, fun i j hi hj hb => ?_, fun i j hi hj => ?_, fun i hi e he d hd hni => ?_⟩
  · have := (h1 i hi).1.1.1 e he
    simpa [hb] using this
  · have := (h1 i hi).1.1.2 j hj
    simp only [hb, Bool.not_true, Bool.false_or, Bool.and_eq_true, decide_eq_true_eq, List.any_eq_true, Bool.or_eq_true, beq_iff_eq] at this
    obtain ⟨a, e, he, hbe, hc⟩ := this
    exact ⟨a, e, he, hbe, hc⟩
  · have := (h1 i hi).1.2 j hj
    cases hb : (mskOf ops i).testBit j with
    | true => exact .inl rfl
    | false =>
      right
      simp only [hb, Bool.false_or, Bool.and_eq_true] at this
      obtain ⟨a, b⟩ := this
      split at a
      · rename_i x y hx hy
        exact ⟨x, y, hx, hy, a, fun e => off_tc b⟩
      · cases a
  · have h2 := (h1 i hi).2
    obtain ⟨p, hp, rfl⟩ := wc_mem he
    have := h2 p hp
    rw [hni, Bool.false_or, hd] at this
    simpa using this
theorem fd_apart (h : DrawOk ops W) {i j : Nat} (hi : i < ops.size) (hj : j < i) (hb : (mskOf ops i).testBit j = false) : (Fd ops W j).apart (Fd ops W i) := by
  obtain ⟨x, y, hx, hy, hap, hT⟩ := (h.c3 i j hi hj).resolve_left (by rw [hb]; simp)
  obtain ⟨a1, a2, a3⟩ := Oper.apart_spec hap
  have hdj : dstOf ops j = x.dst := by simp [dstOf, hx]
  have hdi : dstOf ops i = y.dst := by simp [dstOf, hy]
  have hji : j < ops.size := by omega
  have hbj : (mskOf ops j).testBit i = false := by
    cases hq : (mskOf ops j).testBit i with
    | false => rfl
    | true => have := (h.c2 j i hji hi hq).1; omega
  refine ⟨fun s hs => ?_, fun s hs => ?_, fun e he => ?_, fun e he => ?_⟩
  · simp only [Fd, hdj, beq_iff_eq] at hs
    refine ⟨?_, ?_⟩
    · simp only [Fd, hy]; simpa using a1 s hs
    · simp only [Fd, hdi, beq_eq_false_iff_ne]; exact fun hq => a2 s hs hq
  · simp only [Fd, hdi, beq_iff_eq] at hs
    simp only [Fd, hx]; simpa using a3 s hs
  · have hW : wc W e = true → ∀ k, k < ops.size → ∀ d, dstOf ops k = some d → tc W e k = false → (e / 16 == d) = false := fun hw k hk d hd hk2 => by
      have := h.c4 k hk e hw d hd hk2
      simpa using this
    simp only [Fd, Bool.or_eq_true] at he
    rcases he with h2 | h1
    · have h1 := tc_wc h2
      have hni : tc W e i = false := by
        cases hq : tc W e i with
        | false => rfl
        | true => exact absurd ⟨hq, h2⟩ (hT e)
      refine ⟨by simp only [Fd, h1, hni]; simp, ?_⟩
      simp only [Fd, hni, Bool.false_or]
      split
      · rename_i d hd; exact hW h1 i hi d hd hni
      · rfl
    · cases hd : dstOf ops j with
      | none => rw [hd] at h1; cases h1
      | some d =>
        rw [hd] at h1
        dsimp only at h1
        refine ⟨?_, ?_⟩
        · simp only [Fd, Bool.and_eq_false_iff]
          right
          rw [List.all_eq_false]
          refine ⟨j, List.mem_range.2 hji, ?_⟩
          rw [hd]
          have hne : (j == i) = false := beq_eq_false_iff_ne.2 (Nat.ne_of_lt hj)
          simp only [h1, hb, hne]
          decide
        · have hnW : tc W e i = false := by
            cases hq2 : tc W e i with
            | false => rfl
            | true =>
              cases hj2 : tc W e j with
              | false => have := hW (tc_wc hq2) j hji d hd hj2; rw [h1] at this; cases this
              | true => exact absurd ⟨hq2, hj2⟩ (hT e)
          simp only [Fd, hnW, Bool.false_or]
          split
          · rename_i d' hd'
            cases hq : (e / 16 == d') with
            | false => rfl
            | true =>
              have e1 : d = d' := (beq_iff_eq.1 h1).symm.trans (beq_iff_eq.1 hq)
              subst e1
              exact absurd (by rw [← hdi]; exact hd') (a2 d (by rw [← hdj]; exact hd))
          · rfl
  · have hW : wc W e = true → ∀ k, k < ops.size → ∀ d, dstOf ops k = some d → tc W e k = false → (e / 16 == d) = false := fun hw k hk d hd hk2 => by
      have := h.c4 k hk e hw d hd hk2
      simpa using this
    simp only [Fd, Bool.or_eq_true] at he
    rcases he with h2 | h1
    · have h1 := tc_wc h2
      have hnj : tc W e j = false := by
        cases hq : tc W e j with
        | false => rfl
        | true => exact absurd ⟨h2, hq⟩ (hT e)
      simp only [Fd, h1, hnj]; simp
    · cases hd : dstOf ops i with
      | none => rw [hd] at h1; cases h1
      | some d =>
        rw [hd] at h1
        dsimp only at h1
        simp only [Fd, Bool.and_eq_false_iff]
        right
        rw [List.all_eq_false]
        refine ⟨i, List.mem_range.2 hi, ?_⟩
        rw [hd]
        have hne : (i == j) = false := beq_eq_false_iff_ne.2 (Nat.ne_of_gt hj)
        simp only [h1, hbj, hne]
        decide
end
def gopI (P : Program) (T : Tab) (cf : FuncId → Option (List AV → Option Tmp → AM)) (ops : Array Oper) (i : Nat) : AM :=
  match ops[i]? with
  | some o => gop P T cf ops o
  | none => .done
section
variable {P : Program} {T : Tab} {cf : FuncId → Option (List AV → Option Tmp → AM)} {S : St} {K : St → Prop} {w0 w w' : World} {M N : Nat → Prop} {b0 : Nat → Value} {nt : Nat} {β : Nat → Value} {tm : Array Value} {ds : List Deferred} {Q : Exit → Act → World → Prop} {ops : Array Oper} {Fs : Nat → Ft} {W : Grp}
theorem runX_runs : ∀ (l : List Oper) (i : Nat) (S : St), (∀ k, l[k]? = ops[i + k]?) → runX Fs P T cf ops i l S K → runs Fs (gopI P T cf ops) (List.range' i l.length) S K
  | [], i, S, _, h => h
  | o :: l, i, S, hl, h => by
    have h0 : ops[i]? = some o := by simpa using (hl 0).symm
    have h1 : (gop P T cf ops o).run (Fs i) S (fun S' => runs Fs (gopI P T cf ops) (List.range' (i + 1) l.length) S' K) :=
      AM.run_mono (fun S' hS => runX_runs l (i + 1) S' (fun k => by have := hl (k + 1); simpa [Nat.add_assoc, Nat.add_comm 1 k] using this) hS) _ _ h
    show runs Fs (gopI P T cf ops) (i :: List.range' (i + 1) l.length) S K
    unfold runs gopI
    simp only [h0]
    exact h1
theorem draw_any (hT : TabOk P T) (hcf : ∀ f m, cf f = some m → GoodCall P f m) (hd : ∀ i t, dstOf ops i = some t → t < nt) (hok : DrawOk ops W) (hQ : ∀ S' β' w' tm', K S' → Sim w0 M N b0 nt β' S' w' tm' → Q .normal ⟨tm', ds⟩ w') :
    ∀ (fuel : Nat) (listed : Array Bool) (L : List Nat) (S : St) (β : Nat → Value) (w : World) (tm : Array Value), listed.size = ops.size → L.length ≤ fuel → L.Pairwise (· < ·) → (∀ i, i ∈ L ↔ i < ops.size ∧ listed.getD i true = false) →
      (∀ i, i < ops.size → listed.getD i true = true → ∀ e ∈ afterOf ops i, Region.binds .any e = true → listed.getD e.on true = true) →
      runs (Fd ops W) (gopI P T cf ops) L S K → Sim w0 M N b0 nt β S w tm → wpAny P .any ops Q fuel listed ⟨tm, ds⟩ w := by
  intro fuel
  have hready : ∀ (listed : Array Bool) (L : List Nat), listed.size = ops.size → L.Pairwise (· < ·) → (∀ i, i ∈ L ↔ i < ops.size ∧ listed.getD i true = false) → Region.ready .any ops listed = [] → L = [] := by
    intro listed L hsz hp hL hr
    cases L with
    | nil => rfl
    | cons i L =>
      exfalso
      obtain ⟨h1, h2⟩ := (hL i).1 List.mem_cons_self
      have hmem : i ∈ Region.ready .any ops listed := by
        unfold Region.ready
        refine List.mem_filter.2 ⟨List.mem_range.2 h1, ?_⟩
        have ho : ops[i]? = some ops[i] := Array.getElem?_eq_getElem h1
        simp only [h2, Bool.not_false, Bool.true_and, ho, Option.map_some, Option.getD_some]
        rw [Array.all_eq_true_iff_forall_mem]
        intro e he
        cases hb : Region.binds .any e with
        | false => rfl
        | true =>
          have hea : e ∈ afterOf ops i := by unfold afterOf; rw [ho]; simpa using he
          have hlt := hok.c1 i h1 e hea hb
          simp only [Bool.not_true, Bool.false_or]
          cases hq : listed.getD e.on false with
          | true => rfl
          | false =>
            have hq2 : listed.getD e.on true = false := by
              cases hx : listed[e.on]? with
              | none =>
                have h5 := Array.getElem?_eq_none_iff.1 hx
                omega
              | some b => simp [hx] at hq ⊢; exact hq
            have hin := (hL e.on).2 ⟨by omega, hq2⟩
            have := (List.pairwise_cons.1 hp).1
            rcases List.mem_cons.1 hin with he1 | he1
            · omega
            · have := this _ he1; omega
      rw [hr] at hmem
      cases hmem
  induction fuel with
  | zero =>
    intro listed L S β w tm hsz hlen hp hL hcl h hs
    have : L = [] := List.eq_nil_of_length_eq_zero (by omega)
    subst this
    refine ⟨?_, hQ S β w tm h hs⟩
    cases hr : Region.ready .any ops listed with
    | nil => rfl
    | cons i l =>
      have hi : i ∈ Region.ready .any ops listed := by rw [hr]; exact List.mem_cons_self
      unfold Region.ready at hi
      obtain ⟨h1, h2⟩ := List.mem_filter.1 hi
      simp only [Bool.and_eq_true, Bool.not_eq_true'] at h2
      have := (hL i).2 ⟨List.mem_range.1 h1, h2.1⟩
      cases this
  | succ fuel ih =>
    intro listed L S β w tm hsz hlen hp hL hcl h hs
    refine ⟨fun hr => ?_, fun i hi => ?_⟩
    · have := hready listed L hsz hp hL hr
      subst this
      exact hQ S β w tm h hs
    · unfold Region.ready at hi
      obtain ⟨h1, h2⟩ := List.mem_filter.1 hi
      have hlt := List.mem_range.1 h1
      simp only [Bool.and_eq_true, Bool.not_eq_true'] at h2
      obtain ⟨h2, h3⟩ := h2
      have ho : ops[i]? = some ops[i] := Array.getElem?_eq_getElem hlt
      rw [ho] at h3
      simp only [Option.map_some, Option.getD_some] at h3
      rw [Array.all_eq_true_iff_forall_mem] at h3
      have hedges : ∀ e ∈ afterOf ops i, Region.binds .any e = true → listed.getD e.on true = true := by
        intro e he hb
        have hea : e ∈ ops[i].after := by unfold afterOf at he; rw [ho] at he; simpa using he
        have := h3 e hea
        rw [hb] at this
        simp only [Bool.not_true, Bool.false_or] at this
        cases hx : listed[e.on]? with
        | none => simp [hx] at this
        | some b => simp [hx] at this ⊢; exact this
      have hin := (hL i).2 ⟨hlt, h2⟩
      obtain ⟨L1, L2, rfl⟩ := List.append_of_mem hin
      obtain ⟨p1, p2, p3⟩ := List.pairwise_append.1 hp
      have hcl2 : ∀ k, ∀ j, k < ops.size → j < ops.size → (∀ e ∈ afterOf ops k, Region.binds .any e = true → listed.getD e.on true = true) → (mskOf ops k).testBit j = true → listed.getD j true = true := by
        intro k
        induction k using Nat.strongRecOn with
        | _ k ihk =>
          intro j hk hj hall hb
          obtain ⟨_, e, he, hbe, hc⟩ := hok.c2 k j hk hj hb
          have hel := hall e he hbe
          have helt := hok.c1 k hk e he hbe
          rcases hc with hc | hc
          · rw [← hc]; exact hel
          · exact ihk e.on helt j (by omega) hj (hcl e.on (by omega) hel) hc
      have hfirst := runs_first (F := Fd ops W) (m := gopI P T cf ops) (K := K) i L2 L1 S (fun j hj => by
        have hji : j < i := p3 j hj i List.mem_cons_self
        refine fd_apart hok hlt hji ?_
        cases hq : (mskOf ops i).testBit j with
        | false => rfl
        | true =>
          have h5 := hcl2 i j hlt (by omega) hedges hq
          have h6 := ((hL j).1 (List.mem_append_left _ hj)).2
          rw [h5] at h6; cases h6) h
      have hnot : ∀ j, j ∈ L1 ++ L2 ↔ j ∈ L1 ++ i :: L2 ∧ j ≠ i := by
        intro j
        simp only [List.mem_append, List.mem_cons]
        constructor
        · rintro (hj | hj)
          · have := p3 j hj i List.mem_cons_self; exact ⟨.inl hj, by omega⟩
          · have := (List.pairwise_cons.1 p2).1 j hj; exact ⟨.inr (.inr hj), by omega⟩
        · rintro ⟨hj | hj | hj, hne⟩
          · exact .inl hj
          · exact absurd hj hne
          · exact .inr hj
      have hnext : Nx w0 M N b0 nt ds (fun S' => runs (Fd ops W) (gopI P T cf ops) (L1 ++ L2) S' K) (wpAny P .any ops Q fuel (listed.setIfInBounds i true)) := by
        intro S' β' w' tm' hK hs'
        have hgd : ∀ j, j ≠ i → (listed.setIfInBounds i true).getD j true = listed.getD j true := fun j hj => by
          simp only [Array.getD_eq_getD_getElem?, Array.getElem?_setIfInBounds_ne (Ne.symm hj)]
        have hgi : (listed.setIfInBounds i true).getD i true = true := by
          simp [hsz, hlt]
        refine ih (listed.setIfInBounds i true) (L1 ++ L2) S' β' w' tm' (by simpa using hsz) ?_ ?_ ?_ ?_ hK hs'
        · simp only [List.length_append, List.length_cons] at hlen ⊢; omega
        · exact List.pairwise_append.2 ⟨p1, (List.pairwise_cons.1 p2).2, fun a ha b hb => p3 a ha b (List.mem_cons_of_mem _ hb)⟩
        · intro j
          rw [hnot j, hL j]
          by_cases hji : j = i
          · subst hji
            rw [hgi]
            constructor
            · rintro ⟨_, h⟩; exact absurd rfl h
            · rintro ⟨_, h⟩; cases h
          · rw [hgd j hji]
            exact ⟨fun h => h.1, fun h => ⟨h, hji⟩⟩
        · intro j hj hjl e he hb
          by_cases hei : e.on = i
          · rw [hei]; exact hgi
          · rw [hgd _ hei]
            by_cases hji : j = i
            · subst hji; exact hedges e he hb
            · rw [hgd j hji] at hjl; exact hcl j hj hjl e he hb
      unfold gopI at hfirst
      simp only [ho] at hfirst
      have hg := gop_sound (Q := Q) (ds := ds) hT hcf hfirst hs (fun t ht => hd i t (by unfold dstOf; rw [ho]; exact ht)) hnext
      unfold wpOp
      simp only [ho]
      split
      · rename_i hw; rw [if_pos hw] at hg; exact .inl hg
      · rename_i hw; rw [if_neg hw] at hg; exact hg
variable {KE : Exit → St → Prop}
theorem aw_draw (hm : P.follows .mixedOrders = true) (hT : TabOk P T) (hcf : ∀ f m, cf f = some m → GoodCall P f m) {id : Nat} {l : List Oper} (W : Grp) (hd : (l.all fun o => match o.dst with | some d => decide (d < nt) | none => true) = true) (hok : drawB l.toArray W = true)
    (h : runX (Fd l.toArray W) P T cf l.toArray 0 l S (KE .normal)) : AW P nt (.region id l.toArray true) KE S := fun w0 M N b0 β w tm hs => by
  refine wp_region_any hm ?_
  have hdst : ∀ i t, dstOf l.toArray i = some t → t < nt := by
    intro i t ht
    unfold dstOf at ht
    cases ho : l.toArray[i]? with
    | none => rw [ho] at ht; cases ht
    | some o =>
      rw [ho] at ht
      have hmem : o ∈ l := List.mem_of_getElem? (by simpa using ho)
      have := (List.all_eq_true.1 hd) o hmem
      have ht' : o.dst = some t := ht
      rw [ht'] at this
      simpa using this
  have hr := runX_runs (ops := l.toArray) l 0 S (fun k => by simp) h
  refine draw_any (W := W) hT hcf hdst (drawOk_of hok) (fun S' β' w' tm' hK hs' => ⟨β', S', hK, hs', rfl⟩) _ _ (List.range' 0 l.length) S β _ tm (by simp) (by simp) ?_ ?_ ?_ hr (hs.draw _)
  · exact List.pairwise_lt_range'
  · intro i
    simp only [List.mem_range'_1, Nat.zero_le, true_and, Nat.zero_add, List.size_toArray]
    constructor
    · intro hi; exact ⟨hi, by simp [hi]⟩
    · exact fun hi => hi.1
  · intro i hi hl
    have : (Array.replicate l.toArray.size false).getD i true = false := by simp at hi; simp [hi]
    rw [this] at hl
    cases hl
end
def rdO (F : Ft) (S : St) : Operand → Option AV
  | .tmp t => bif F.sr t then S.E t else none
  | .const v => bif v.oneCell' then some (.g (.one (.v v))) else none
  | .func f => some (.g (.one (.fn f [])))
  | .global _ => none
def rdV (F : Ft) (S : St) (x : Operand) : Option Value := match rdO F S x with
  | some a => pval a
  | none => none
abbrev vI (n : Int) : AV := .g (.one (.v (.int .i64 n)))
abbrev vB (b : Bool) : AV := .g (.one (.v (.bool b)))
def runA (F : Nat → Ft) (P : Program) (T : Tab) (cf : FuncId → Option (List AV → Option Tmp → AM)) (ops : Array Oper) (i : Nat) (o : Oper) (rest : List Oper) (S : St) (K : St → Prop) : Prop :=
  (aop P T cf o).run (F i) S (fun S' => runX F P T cf ops (i + 1) rest S' K)
section
variable {P : Program} {T : Tab} {cf : FuncId → Option (List AV → Option Tmp → AM)} {F : Ft} {Fs : Nat → Ft} {i : Nat} {rest : List Oper} {S : St} {K : St → Prop} {ops : Array Oper} {d : Tmp} {x y c : Operand} {a b : AV} {ty : TypeId} {pos : String} {af : Array Edge} {g : Option (Nat × Bool)}
theorem getO_of {k : AV → AM} (h : rdO F S x = some a) (hk : (k a).run F S K) : (getO x k).run F S K := by
  cases x with
  | tmp t =>
    simp only [rdO] at h
    cases hF : F.sr t <;> simp only [hF, cond_true, cond_false] at h
    · cases h
    · exact ⟨hF, a, h, hk⟩
  | const v =>
    simp only [rdO] at h
    cases hF : v.oneCell' <;> simp only [hF, cond_true, cond_false] at h
    · cases h
    · cases h; exact ⟨hF, hk⟩
  | func f => cases h; exact hk
  | global g => cases h
theorem getV_of {k : Value → AM} {v : Value} (h : rdV F S x = some v) (hk : (k v).run F S K) : (getV x k).run F S K := by
  unfold rdV at h
  split at h
  · rename_i a ha
    refine getO_of ha ?_
    simp only [h]; exact hk
  · cases h
theorem putD_of (hw : F.sw d = true) (hk : K (S.put d (some a))) : (putD (some d) a).run F S K := ⟨hw, hk⟩
theorem r_move (hx : rdO (Fs i) S x = some a) (hw : (Fs i).sw d = true) (k : runX Fs P T cf ops (i + 1) rest (S.put d (some a)) K) : runA Fs P T cf ops i ⟨some d, .move x, ty, pos, af, g⟩ rest S K := getO_of hx (putD_of hw k)
theorem r_assign (hx : rdO (Fs i) S x = some a) (hw : (Fs i).sw d = true) (k : runX Fs P T cf ops (i + 1) rest (S.put d (some a)) K) : runA Fs P T cf ops i ⟨some d, .assign x, ty, pos, af, g⟩ rest S K := getO_of hx (putD_of hw k)
theorem r_pick_t {t : Bool} (hc : rdO (Fs i) S c = some (vB t)) (ht : t = true) (hx : rdO (Fs i) S x = some a) (hw : (Fs i).sw d = true) (k : runX Fs P T cf ops (i + 1) rest (S.put d (some a)) K) : runA Fs P T cf ops i ⟨some d, .pick c x y, ty, pos, af, g⟩ rest S K := by
  subst ht
  exact getO_of hc (getO_of (x := x) hx (putD_of hw k))
theorem r_pick_f {t : Bool} (hc : rdO (Fs i) S c = some (vB t)) (ht : t = false) (hy : rdO (Fs i) S y = some a) (hw : (Fs i).sw d = true) (k : runX Fs P T cf ops (i + 1) rest (S.put d (some a)) K) : runA Fs P T cf ops i ⟨some d, .pick c x y, ty, pos, af, g⟩ rest S K := by
  subst ht
  exact getO_of hc (getO_of (x := y) hy (putD_of hw k))
theorem r_none {dst : Option Tmp} {o : Op} (h : runA Fs P T cf ops i ⟨dst, o, ty, pos, af, none⟩ rest S K) : runX Fs P T cf ops i (⟨dst, o, ty, pos, af, none⟩ :: rest) S K := h
theorem r_nil (h : K S) : runX Fs P T cf ops i [] S K := h
theorem r_guard {o : Op} {j : Nat} {want t : Bool} {dj : Tmp} (hj : (ops[j]?).bind (·.dst) = some dj) (hc : rdO (Fs i) S (.tmp dj) = some (vB t)) (hw : (Fs i).sw d = true)
    (h1 : t = want → runA Fs P T cf ops i ⟨some d, o, ty, pos, af, some (j, want)⟩ rest S K) (h2 : t = !want → runX Fs P T cf ops (i + 1) rest (S.put d (some (.tup []))) K) : runX Fs P T cf ops i (⟨some d, o, ty, pos, af, some (j, want)⟩ :: rest) S K := by
  unfold runX gop
  dsimp only
  rw [hj]
  have : (getO (.tmp dj) fun x => match x with
      | .g (.one (.v (.bool b))) => if b = want then aop P T cf ⟨some d, o, ty, pos, af, some (j, want)⟩ else putD (some d) (.tup [])
      | .tup [] => putD (some d) (.tup [])
      | _ => .fail).run (Fs i) S (fun S' => runX Fs P T cf ops (i + 1) rest S' K) := by
    refine getO_of hc ?_
    dsimp only
    by_cases hb : t = want
    · rw [if_pos hb]; exact h1 hb
    · rw [if_neg hb]; exact ⟨hw, h2 (by cases t <;> cases want <;> simp_all)⟩
  exact this
theorem r_gu {o : Op} {j : Nat} {want : Bool} {dj : Tmp} (hj : (ops[j]?).bind (·.dst) = some dj) (hc : rdO (Fs i) S (.tmp dj) = some (.tup [])) (hw : (Fs i).sw d = true)
    (h2 : runX Fs P T cf ops (i + 1) rest (S.put d (some (.tup []))) K) : runX Fs P T cf ops i (⟨some d, o, ty, pos, af, some (j, want)⟩ :: rest) S K := by
  unfold runX gop
  dsimp only
  rw [hj]
  have : (getO (.tmp dj) fun x => match x with
      | .g (.one (.v (.bool b))) => if b = want then aop P T cf ⟨some d, o, ty, pos, af, some (j, want)⟩ else putD (some d) (.tup [])
      | .tup [] => putD (some d) (.tup [])
      | _ => .fail).run (Fs i) S (fun S' => runX Fs P T cf ops (i + 1) rest S' K) := by
    refine getO_of hc ?_
    exact ⟨hw, h2⟩
  exact this
theorem r_pure2 {o : BinOp} {t yt : TypeId} {u v r : Value} (hx : rdV (Fs i) S x = some u) (hy : rdV (Fs i) S y = some v) (hr : ∀ w, (do eqGuard o t x y u v; binOp o t u v : Sem Value).run P w = .ok r w) (hok : okv r = true) (hw : (Fs i).sw d = true) (k : runX Fs P T cf ops (i + 1) rest (S.put d (some (ofv r))) K) :
    runA Fs P T cf ops i ⟨some d, .binOp o t x y yt, ty, pos, af, g⟩ rest S K := by
  have h1 : (getV y fun b => exr P (do eqGuard o t x y u b; binOp o t u b) (some d)).run (Fs i) S (fun S' => runX Fs P T cf ops (i + 1) rest S' K) := getV_of hy ⟨r, ⟨hok, hr⟩, putD_of hw k⟩
  unfold rdV at hx
  split at hx
  · rename_i a ha
    refine getO_of ha ?_
    have h2 : isRo a = none := by
      unfold isRo
      split
      · cases hx
      · rfl
    simp only [h2, hx]
    exact h1
  · cases hx
theorem r_nilcmp {o : BinOp} {t yt : TypeId} {z n : Nat} {l : List Value} {r : Value} (hx : rdO (Fs i) S x = some (.g (.one (.ro z n l)))) (h0 : 0 < n) (hr : ∀ b off c w, (do eqGuard o t x (.const (.slice none 0 0)) (.slice (some ⟨b, off, none⟩) n c) (.slice none 0 0); binOp o t (.slice (some ⟨b, off, none⟩) n c) (.slice none 0 0) : Sem Value).run P w = .ok r w) (hok : okv r = true) (hw : (Fs i).sw d = true) (k : runX Fs P T cf ops (i + 1) rest (S.put d (some (ofv r))) K) :
    runA Fs P T cf ops i ⟨some d, .binOp o t x (.const (.slice none 0 0)) yt, ty, pos, af, g⟩ rest S K :=
  getO_of hx ⟨⟨h0, rfl⟩, r, ⟨hok, hr⟩, putD_of hw k⟩
theorem r_pure1 {o : UnOp} {t : TypeId} {u r : Value} (hx : rdV (Fs i) S x = some u) (hr : ∀ w, (Op.unary o u).run P w = .ok r w) (hok : okv r = true) (hw : (Fs i).sw d = true) (k : runX Fs P T cf ops (i + 1) rest (S.put d (some (ofv r))) K) :
    runA Fs P T cf ops i ⟨some d, .unOp o t x, ty, pos, af, g⟩ rest S K := getV_of hx ⟨r, ⟨hok, hr⟩, putD_of hw k⟩
theorem r_not {t : TypeId} {u : Bool} (hx : rdV (Fs i) S x = some (.bool u)) (hw : (Fs i).sw d = true) (k : runX Fs P T cf ops (i + 1) rest (S.put d (some (vB !u))) K) : runA Fs P T cf ops i ⟨some d, .unOp .not t x, ty, pos, af, g⟩ rest S K :=
  r_pure1 hx (r := .bool !u) (fun w => rfl) rfl hw k
def cmpI (o : BinOp) (m n : Int) : Option Bool := match o with
  | .eql => some (m == n)
  | .neq => some (m != n)
  | .lss => some (decide (m < n))
  | .leq => some (decide (m ≤ n))
  | .gtr => some (decide (m > n))
  | .geq => some (decide (m ≥ n))
  | _ => none
theorem r_cmp {o : BinOp} {t yt : TypeId} {kd : IntKind} {m n : Int} {q : Bool} (hx : rdV (Fs i) S x = some (.int kd m)) (hy : rdV (Fs i) S y = some (.int kd n)) (hq : cmpI o m n = some q) (hw : (Fs i).sw d = true) (k : runX Fs P T cf ops (i + 1) rest (S.put d (some (vB q))) K) :
    runA Fs P T cf ops i ⟨some d, .binOp o t x y yt, ty, pos, af, g⟩ rest S K := by
  refine r_pure2 hx hy (r := .bool q) (fun w => ?_) rfl hw k
  cases o <;> simp only [cmpI, Option.some.injEq] at hq <;> first | (cases hq; done) | (subst hq; simp [eqGuard, binOp, Op.intCmp])
def arI (o : BinOp) (m n : Int) : Option Int := match o with
  | .add => some (m + n)
  | .sub => some (m - n)
  | .mul => some (m * n)
  | _ => none
theorem r_ar {o : BinOp} {t yt : TypeId} {m n q : Int} (hx : rdV (Fs i) S x = some (.int .i64 m)) (hy : rdV (Fs i) S y = some (.int .i64 n)) (hq : arI o m n = some q) (hb : -9223372036854775808 ≤ q ∧ q ≤ 9223372036854775807) (hw : (Fs i).sw d = true) (k : runX Fs P T cf ops (i + 1) rest (S.put d (some (vI q))) K) :
    runA Fs P T cf ops i ⟨some d, .binOp o t x y yt, ty, pos, af, g⟩ rest S K := by
  refine r_pure2 hx hy (r := .int .i64 q) (fun w => ?_) rfl hw k
  have hwrap : IntKind.i64.wrap q = q := IntWalk.i64_in _ hb
  cases o <;> simp only [arI, Option.some.injEq] at hq <;> first | (cases hq; done) | (subst hq; simp [eqGuard, binOp, Op.intArith, hwrap])
theorem r_neg {t : TypeId} {n : Int} (hx : rdV (Fs i) S x = some (.int .i64 n)) (hb : -9223372036854775807 ≤ n ∧ n ≤ 9223372036854775807) (hw : (Fs i).sw d = true) (k : runX Fs P T cf ops (i + 1) rest (S.put d (some (vI (-n)))) K) : runA Fs P T cf ops i ⟨some d, .unOp .neg t x, ty, pos, af, g⟩ rest S K := by
  refine r_pure1 hx (r := .int .i64 (-n)) (fun w => ?_) rfl hw k
  have hwrap : IntKind.i64.wrap (-n) = -n := IntWalk.i64_in _ (by omega)
  simp [Op.unary, Op.intArith, hwrap]
theorem r_rem {t yt : TypeId} {m n : Int} (hx : rdV (Fs i) S x = some (.int .i64 m)) (hy : rdV (Fs i) S y = some (.int .i64 n)) (h0 : 0 ≤ m) (h1 : 1 ≤ n) (hw : (Fs i).sw d = true) (k : runX Fs P T cf ops (i + 1) rest (S.put d (some (vI (m % n)))) K) :
    runA Fs P T cf ops i ⟨some d, .binOp .rem t x y yt, ty, pos, af, g⟩ rest S K := by
  refine r_pure2 hx hy (r := .int .i64 (m % n)) (fun w => ?_) rfl hw k
  have hne : ¬ n = 0 := by omega
  simp [eqGuard, binOp, Op.intDiv, hne, Int.tmod_eq_emod_of_nonneg h0]
theorem r_quo {t yt : TypeId} {m n : Int} (hx : rdV (Fs i) S x = some (.int .i64 m)) (hy : rdV (Fs i) S y = some (.int .i64 n)) (h0 : 0 ≤ m ∧ m ≤ 9223372036854775807) (h1 : 1 ≤ n) (hw : (Fs i).sw d = true) (k : runX Fs P T cf ops (i + 1) rest (S.put d (some (vI (m / n)))) K) :
    runA Fs P T cf ops i ⟨some d, .binOp .quo t x y yt, ty, pos, af, g⟩ rest S K := by
  refine r_pure2 hx hy (r := .int .i64 (m / n)) (fun w => ?_) rfl hw k
  have hne : ¬ n = 0 := by omega
  simp [eqGuard, binOp, Op.intDiv, hne, IntWalk.i64_quo m n ⟨h0.1, h0.2, h1⟩]
theorem r_shl {t yt : TypeId} {yk : IntKind} {m n q : Int} (hx : rdV (Fs i) S x = some (.int .i64 m)) (hy : rdV (Fs i) S y = some (.int yk n)) (h0 : 0 ≤ n ∧ n ≤ 64) (hq : q = m * 2 ^ n.toNat) (hb : -9223372036854775808 ≤ q ∧ q ≤ 9223372036854775807) (hw : (Fs i).sw d = true) (k : runX Fs P T cf ops (i + 1) rest (S.put d (some (vI q))) K) :
    runA Fs P T cf ops i ⟨some d, .binOp .shl t x y yt, ty, pos, af, g⟩ rest S K := by
  refine r_pure2 hx hy (r := .int .i64 q) (fun w => ?_) rfl hw k
  have hne : ¬ n < 0 := by omega
  have hmin : min n.toNat 64 = n.toNat := by omega
  have hwrap : IntKind.i64.wrap (m * 2 ^ n.toNat) = q := by rw [← hq]; exact IntWalk.i64_in _ hb
  have hbits : IntKind.i64.bits = 64 := rfl
  have e : binOp .shl t (.int .i64 m) (.int yk n) = Op.shift .shl .i64 m yk n := rfl
  rw [e]
  simp only [eqGuard, Op.shift, hne, if_false, hbits, hmin, hwrap]
  rfl
theorem r_shr {t yt : TypeId} {yk : IntKind} {m n : Int} (hx : rdV (Fs i) S x = some (.int .i64 m)) (hy : rdV (Fs i) S y = some (.int yk n)) (h0 : 0 ≤ n ∧ n ≤ 64) (hw : (Fs i).sw d = true) (k : runX Fs P T cf ops (i + 1) rest (S.put d (some (vI (m / 2 ^ n.toNat)))) K) :
    runA Fs P T cf ops i ⟨some d, .binOp .shr t x y yt, ty, pos, af, g⟩ rest S K := by
  refine r_pure2 hx hy (r := .int .i64 (m / 2 ^ n.toNat)) (fun w => ?_) rfl hw k
  have hne : ¬ n < 0 := by omega
  have hmin : min n.toNat 64 = n.toNat := by omega
  have hbits : IntKind.i64.bits = 64 := rfl
  have hf : m.fdiv (2 ^ n.toNat) = m / 2 ^ n.toNat := Int.fdiv_eq_ediv_of_nonneg m (Int.le_of_lt (Int.pow_pos (by omega)))
  have e : binOp .shr t (.int .i64 m) (.int yk n) = Op.shift .shr .i64 m yk n := rfl
  rw [e]
  simp only [eqGuard, Op.shift, hne, if_false, hbits, hmin, hf]
  rfl
def bitI (o : BinOp) (m n : Int) : Option Int := match o with
  | .and => some ((m.toNat &&& n.toNat : Nat) : Int)
  | .or => some ((m.toNat ||| n.toNat : Nat) : Int)
  | .xor => some ((m.toNat ^^^ n.toNat : Nat) : Int)
  | _ => none
theorem r_bit {o : BinOp} {t yt : TypeId} {m n q : Int} (hx : rdV (Fs i) S x = some (.int .i64 m)) (hy : rdV (Fs i) S y = some (.int .i64 n)) (hq : bitI o m n = some q) (h0 : 0 ≤ m ∧ m ≤ 9223372036854775807) (h1 : 0 ≤ n ∧ n ≤ 9223372036854775807) (hw : (Fs i).sw d = true) (k : runX Fs P T cf ops (i + 1) rest (S.put d (some (vI q))) K) :
    runA Fs P T cf ops i ⟨some d, .binOp o t x y yt, ty, pos, af, g⟩ rest S K := by
  refine r_pure2 hx hy (r := .int .i64 q) (fun w => ?_) rfl hw k
  obtain ⟨a, rfl⟩ := Int.eq_ofNat_of_zero_le h0.1
  obtain ⟨b, rfl⟩ := Int.eq_ofNat_of_zero_le h1.1
  have ha : a < 2 ^ 63 := by have := h0.2; omega
  have hb : b < 2 ^ 63 := by have := h1.2; omega
  have hbits : IntKind.i64.bits = 64 := rfl
  have hand : a &&& b < 2 ^ 63 := Nat.lt_of_le_of_lt Nat.and_le_left ha
  have hor : a ||| b < 2 ^ 63 := Nat.or_lt_two_pow ha hb
  have hxor : a ^^^ b < 2 ^ 63 := Nat.xor_lt_two_pow ha hb
  have w1 : ∀ c : Nat, c < 2 ^ 63 → IntKind.i64.wrap (c : Int) = (c : Int) := fun c hc => IntWalk.i64_in _ (by omega)
  have ea : a % 2 ^ 64 = a := Nat.mod_eq_of_lt (by omega)
  have eb : b % 2 ^ 64 = b := Nat.mod_eq_of_lt (by omega)
  cases o <;> simp only [bitI, Option.some.injEq] at hq <;> first | (cases hq; done) | skip
  · subst hq
    simp [eqGuard, binOp, Op.intBits, hbits, ea, eb, w1 _ hand]
  · subst hq
    simp [eqGuard, binOp, Op.intBits, hbits, ea, eb, w1 _ hor]
  · subst hq
    simp [eqGuard, binOp, Op.intBits, hbits, ea, eb, w1 _ hxor]
end
end Go.Proofs.Ytfbcblknahicdaa
