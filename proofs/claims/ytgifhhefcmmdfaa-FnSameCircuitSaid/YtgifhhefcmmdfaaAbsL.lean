/- The abstract run, twelfth part: contracts of functions: what a call makes of data; from a body to its contract. No program is named. -/
import Derived.Test.YtgifhhefcmmdfaaAbsK
namespace Go.Proofs.Ytgifhhefcmmdfaa
set_option linter.unusedVariables false
open Go.RowKit

/-- Own blocks by other numbers. -/
def AC.ren (σ : Nat → Nat × Nat) : AC → AC
  | .sl i _ n => .sl (σ i).1 (σ i).2 n
  | .ptr i _ o => .ptr (σ i).1 (σ i).2 o
  | .fn f c => .fn f (c.map fun p => σ p.1)
  | c => c
def AG.ren (σ : Nat → Nat × Nat) : AG → AG
  | .one c => .one (c.ren σ)
  | .agg cs => .agg (cs.map (AC.ren σ))
def AV.ren (σ : Nat → Nat × Nat) : AV → AV
  | .g x => .g (x.ren σ)
  | .tup xs => .tup (xs.map (AG.ren σ))
/-- The own blocks that a value speaks of, with their turns. -/
def AC.refs : AC → List (Nat × Nat)
  | .sl i r _ => [(i, r)]
  | .ptr i r _ => [(i, r)]
  | .fn _ c => c
  | _ => []
def AG.refs : AG → List (Nat × Nat)
  | .one c => c.refs
  | .agg cs => cs.flatMap AC.refs
def AV.refs : AV → List (Nat × Nat)
  | .g x => x.refs
  | .tup xs => xs.flatMap AG.refs
section
variable {w w' : World} {β β' : Nat → Value} {G G' : Blk} {ok ok' : Nat → Prop} {σ : Nat → Nat × Nat}
/-- A renaming that fits the blocks that a value speaks of. -/
def RenOk (σ : Nat → Nat × Nat) (β β' : Nat → Value) (G G' : Blk) (l : List (Nat × Nat)) : Prop := ∀ p ∈ l, (∃ e, G p.1 = some (p.2, e)) ∧ (∃ e', G' (σ p.1).1 = some ((σ p.1).2, e')) ∧ β' (σ p.1).1 = β p.1
theorem PtrRep.ren {i r o : Nat} {y : Value} (hσ : RenOk σ β β' G G' [(i, r)]) (h : PtrRep β G i r o y) : PtrRep β' G' (σ i).1 (σ i).2 o y := by
  obtain ⟨⟨e, h1⟩, ⟨e', h2⟩, h3⟩ := hσ (i, r) (List.mem_singleton.2 rfl)
  obtain ⟨h0, r', e2, g1, g2, g3⟩ := h
  have : r = r' := by
    have : some (r, e) = some (r', e2) := h1.symm.trans g1
    cases this; rfl
  exact ⟨h0, _, e', h2, Nat.le_refl _, fun _ => by rw [h3]; exact g3 this⟩
theorem AC.rep_ren {c : AC} {y : Value} (hσ : RenOk σ β β' G G' c.refs) (hok : ∀ b, ok b → ok' b ∧ w'.heap[b]? = w.heap[b]?) (h : c.rep w β G ok y) : (c.ren σ).rep w' β' G' ok' y := by
  cases c with
  | v x => exact h
  | ro sz n l => exact RoRep.mono hok h
  | sl i r n =>
    obtain ⟨⟨e, h1⟩, ⟨e', h2⟩, h3⟩ := hσ (i, r) (List.mem_singleton.2 rfl)
    obtain ⟨h0, r', e2, g1, g2, g3⟩ := h
    have : r = r' := by
      have : some (r, e) = some (r', e2) := h1.symm.trans g1
      cases this; rfl
    exact ⟨h0, _, e', h2, Nat.le_refl _, fun _ => by rw [h3]; exact g3 this⟩
  | ptr i r o => exact PtrRep.ren hσ h
  | rp l => obtain ⟨h1, b, off, e, hb, hc⟩ := h; exact ⟨h1, b, off, e, (hok b hb).1, hc.keep (hok b hb).2⟩
  | fn f c =>
    obtain ⟨vs, h1, h2, h3⟩ := h
    refine ⟨vs, h1, by simpa using h2, fun j p hp => ?_⟩
    simp only [List.getElem?_map, Option.map_eq_some_iff] at hp
    obtain ⟨q, hq, rfl⟩ := hp
    obtain ⟨z, hz, hr⟩ := h3 j q hq
    exact ⟨z, hz, hr.ren fun p hp => hσ p (by rw [List.mem_singleton.1 hp]; exact List.mem_of_getElem? hq)⟩
theorem CsRep.ren {cs : List AC} {vs : Array Value} (hσ : RenOk σ β β' G G' (cs.flatMap AC.refs)) (hok : ∀ b, ok b → ok' b ∧ w'.heap[b]? = w.heap[b]?) (h : CsRep w β G ok cs vs) : CsRep w' β' G' ok' (cs.map (AC.ren σ)) vs := by
  refine ⟨by simpa using h.1, fun j c hj => ?_⟩
  simp only [List.getElem?_map, Option.map_eq_some_iff] at hj
  obtain ⟨d, hd, rfl⟩ := hj
  obtain ⟨z, hz, hr⟩ := h.2 j d hd
  exact ⟨z, hz, AC.rep_ren (fun p hp => hσ p (List.mem_flatMap.2 ⟨d, List.mem_of_getElem? hd, hp⟩)) hok hr⟩
theorem AG.rep_ren {x : AG} {y : Value} (hσ : RenOk σ β β' G G' x.refs) (hok : ∀ b, ok b → ok' b ∧ w'.heap[b]? = w.heap[b]?) (h : x.rep w β G ok y) : (x.ren σ).rep w' β' G' ok' y := by
  cases x with
  | one c => exact AC.rep_ren hσ hok h
  | agg cs => obtain ⟨vs, h1, h2⟩ := h; exact ⟨vs, h1, h2.ren hσ hok⟩
theorem AV.rep_ren {x : AV} {y : Value} (hσ : RenOk σ β β' G G' x.refs) (hok : ∀ b, ok b → ok' b ∧ w'.heap[b]? = w.heap[b]?) (h : x.rep w β G ok y) : (x.ren σ).rep w' β' G' ok' y := by
  cases x with
  | g c => exact AG.rep_ren hσ hok h
  | tup xs =>
    obtain ⟨vs, h1, h2, h3⟩ := h
    refine ⟨vs, h1, by simpa using h2, fun j x hx => ?_⟩
    simp only [List.getElem?_map, Option.map_eq_some_iff] at hx
    obtain ⟨d, hd, rfl⟩ := hx
    obtain ⟨z, hz, hr⟩ := h3 j d hd
    exact ⟨z, hz, AG.rep_ren (fun p hp => hσ p (List.mem_flatMap.2 ⟨d, List.mem_of_getElem? hd, hp⟩)) hok hr⟩
end
/-- The own blocks that a call is handed over, and those that it gives back. -/
def Gin (es : List Ent) : Blk := fun i => if 100000 ≤ i then (es[i - 100000]?).map fun e => (0, e) else none
def Gout (news es : List Ent) : Blk := fun i => if 100000 ≤ i then (es[i - 100000]?).map fun e => (0, e) else (news[i]?).map fun e => (0, e)
def argsE (as : List AV) : Slots := fun i => as[i]?
/-- What a function makes of data: the result, its new blocks, and the blocks handed over as they are then. -/
abbrev Fn3 := List AV → List Ent → Option (AV × List Ent × List Ent)
/-- The blocks handed over. -/
def Mof (β : Nat → Value) (es : List Ent) (b : Nat) : Prop := ∃ j e, es[j]? = some e ∧ e.live ∧ blk? (β (100000 + j)) = some b
/-- A function keeps its contract. -/
structure ConOk (P : Program) (f : FuncId) (C : Fn3) : Prop where
  enters : ∀ args w, (callFunc f args).run P w = .ok (.enter f args) w
  does : ∀ as es out news es', C as es = some (out, news, es') → ∀ w vs β N, (∀ b, N b → b < w.heap.size ∧ ¬ Mof β es b) → Sim w (Mof β es) N β vs.size β ⟨argsE as, Gin es⟩ w vs → vs.size = as.length →
    Calls P f vs w fun e w' => ∃ v β', e = .returned v ∧ Sim w (Mof β es) N β 0 β' ⟨fun _ => none, Gout news es'⟩ w' #[] ∧ out.rep w' β' (Gout news es') (okB w N β' (Gout news es') w') v ∧
      es'.length = es.length ∧ (es'.all fun e => e.on fun _ => false) = true ∧ (∀ p ∈ out.refs, ∃ e, Gout news es' p.1 = some (p.2, e))
/-- A result slot. -/
def readR (tm : Array Value) : ResultVar → Sem Value
  | .tmp t => pure (tm.getD t undef)
  | .cell a t => do loadVar t (← asAddr (tm.getD a undef))
/-- The result slots, read. -/
def resG (T : Tab) (S : St) : ResultVar → Option AG
  | .tmp t => match S.E t with
    | some (.g x) => some x
    | _ => none
  | .cell t ty => match S.E t, find1 T.lay ty with
    | some (.g (.one (.ptr i r 0))), some (agg, size) => match S.G i with
      | some (r', .box cs) => if r = r' ∧ cs.length = size then (match ofa agg cs with
        | some (.g y) => some y
        | _ => none) else none
      | _ => none
    | _, _ => none
def resL (T : Tab) (S : St) : List ResultVar → Option (List AG)
  | [] => some []
  | x :: l => match resG T S x, resL T S l with
    | some a, some as => some (a :: as)
    | _, _ => none
def tupOf : List AG → AV
  | [x] => .g x
  | xs => .tup xs
/-- What holds where a function ends: its result by the numbers of ids, and the blocks. -/
def RetOk (T : Tab) (rs : Array ResultVar) (out : AV) (news es' : List Ent) (S : St) : Prop :=
  ∃ (xs : List AG) (τ : Nat → Nat) (ids : List (Nat × Nat)), resL T S rs.toList = some xs ∧ (tupOf xs).ren (fun i => (τ i, 0)) = out ∧
    ids.length = news.length ∧ news.length ≤ 100 ∧ (∀ (k : Nat) (e : Ent), news[k]? = some e → ∃ p : Nat × Nat, ids[k]? = some p ∧ S.G p.1 = some (p.2, e) ∧ e.on (fun _ => false) = true) ∧ (ids.map (·.1)).Nodup ∧ (ids.all fun (p : Nat × Nat) => decide (p.1 < 100000)) = true ∧
    (∀ (j : Nat) (e : Ent), es'[j]? = some e → S.G (100000 + j) = some (0, e) ∧ e.on (fun _ => false) = true) ∧
    (∀ p ∈ (tupOf xs).refs, (∃ e, S.G p.1 = some (p.2, e)) ∧ ((∃ k : Nat, ids[k]? = some p ∧ τ p.1 = k) ∨ (∃ j, p.1 = 100000 + j ∧ j < es'.length ∧ τ p.1 = 100000 + j)))
def retK (T : Tab) (rs : Array ResultVar) (out : AV) (news es' : List Ent) : Exit → St → Prop
  | .ret, S => RetOk T rs out news es' S
  | .normal, S => RetOk T rs out news es' S
  | _, _ => False
section
variable {P : Program} {T : Tab} {w0 w w' : World} {M N : Nat → Prop} {b0 : Nat → Value} {nt : Nat} {β : Nat → Value} {S : St} {tm : Array Value}
theorem Sim.wider (h : Sim w0 M N b0 nt β S w tm) (k : Nat) (v : Value) : Sim w0 M N b0 (nt + k) β S w (tm ++ Array.replicate k v) :=
  ⟨h.os, h.tape, h.output, h.size, h.block, h.ents, h.apart, h.fresh, h.pin, by simp [h.wide], fun i a ha => by
    obtain ⟨h1, h2⟩ := h.env i a ha
    refine ⟨by omega, ?_⟩
    have hlt : i < tm.size := by rw [h.wide]; exact h1
    have e : (tm ++ Array.replicate k v).getD i undef = tm.getD i undef := by
      simp only [Array.getD_eq_getD_getElem?, Array.getElem?_append, hlt, if_true]
    rw [e]; exact h2⟩
theorem resG_run (hT : TabOk P T) (hs : Sim w0 M N b0 nt β S w tm) {x : ResultVar} {a : AG} (h : resG T S x = some a) :
    ∃ v, (readR tm x).run P w = .ok v w ∧ a.rep w β S.G (okB w0 N β S.G w) v := by
  cases x with
  | tmp t =>
    simp only [resG] at h
    split at h
    · rename_i x hx
      cases h
      exact ⟨_, rfl, (hs.env t _ hx).2⟩
    · cases h
  | cell t ty =>
    simp only [resG] at h
    split at h
    · rename_i i r agg size hx hl
      have hr : PtrRep β S.G i r 0 (tm.getD t undef) := (hs.env t _ hx).2
      split at h
      · rename_i r' cs hG
        split at h
        · rename_i hc
          obtain ⟨rfl, hlen⟩ := hc
          split at h
          · rename_i y hy
            cases h
            obtain ⟨g, vs, t', he, hβ, hh, hcs⟩ := hs.cur_box hr hG
            obtain ⟨p1, p2⟩ := csRep_part hcs 0 size
            have e1 : (cs.drop 0).take size = cs := by rw [List.drop_zero, ← hlen, List.take_length]
            rw [e1] at p1 p2
            obtain ⟨q1, q2⟩ := ofa_rep hy p1 p2
            have hlay := hT.lay _ (find1_mem hl)
            have hlen2 : ((vs.toList.drop 0).take size).length = size := by simp [hcs.1]; omega
            have hrun := run_load_cells hlay hlen2 (cells_of_heap hh 0 size) (fun hf => by have := q2 hf; omega)
            refine ⟨_, ?_, q1⟩
            unfold readR
            dsimp only
            rw [he]
            simp only [asAddr, Sem.run_bind, Sem.run_pure, Result.andThen_ok]
            simpa [Instr.loadAt, Instr.sureAddr] using hrun
          · cases h
        · cases h
      · cases h
    · cases h
theorem noref {ok ok' : Nat → Prop} {β' : Nat → Value} {G G' : Blk} {c : AC} {y : Value} (hc : c.on (fun _ => false) = true) (hok : ∀ b, ok b → ok' b) (h : c.rep w β G ok y) : c.rep w β' G' ok' y := by
  cases c with
  | v x => exact h
  | ro sz n l => exact RoRep.mono (fun b hb => ⟨hok b hb, rfl⟩) h
  | sl i r n => cases hc
  | ptr i r o => cases hc
  | rp l => obtain ⟨h1, b, off, e, hb, hcc⟩ := h; exact ⟨h1, b, off, e, hok b hb, hcc⟩
  | fn f c =>
    cases c with
    | nil => obtain ⟨vs, h1, h2, h3⟩ := h; exact ⟨vs, h1, h2, fun j p hp => by simp at hp⟩
    | cons p c => simp [AC.on] at hc
theorem noref_ent {ok ok' : Nat → Prop} {β' : Nat → Value} {G G' : Blk} {e : Ent} {i i' : Nat} (hc : e.on (fun _ => false) = true) (hok : ∀ b, ok b → ok' b) (hown : ∀ b, ownB β' G' b → ownB β G b) (hβ : β' i' = β i) (h : e.rep w β G ok i) : e.rep w β' G' ok' i' := by
  cases e with
  | box cs =>
    obtain ⟨g, vs, t, e1, e2, e3⟩ := h
    exact ⟨g, vs, t, hβ.trans e1, e2, e3.1, fun j c hj => let ⟨z, hz, hr⟩ := e3.2 j c hj; ⟨z, hz, noref ((List.all_eq_true.1 hc) c (List.mem_of_getElem? hj)) hok hr⟩⟩
  | row e sz l =>
    obtain ⟨h0, e', n, h1, h2⟩ := h
    exact ⟨h0, e', n, h1, by rw [hβ]; exact h2⟩
  | fro sz l =>
    obtain ⟨n, h1⟩ := h
    exact ⟨n, by rw [hβ]; exact RoRep.mono (fun b hb => ⟨hok b hb, rfl⟩) h1⟩
  | rbx cs =>
    obtain ⟨g, vs, t, fr, e1, e2, e3, e4⟩ := h
    exact ⟨g, vs, t, fr, hβ.trans e1, e2, ⟨e3.1, fun j c hj => let ⟨z, hz, hr⟩ := e3.2 j c hj; ⟨z, hz, noref ((List.all_eq_true.1 hc) c (List.mem_of_getElem? hj)) hok hr⟩⟩, fun ho => e4 (hown g ho)⟩
theorem resL_run (hT : TabOk P T) (hs : Sim w0 M N b0 nt β S w tm) : ∀ (l : List ResultVar) {as : List AG}, resL T S l = some as → ∃ vs : List Value, (l.mapM (readR tm)).run P w = .ok vs w ∧ vs.length = as.length ∧ ∀ (j : Nat) (a : AG), as[j]? = some a → ∃ z, vs[j]? = some z ∧ a.rep w β S.G (okB w0 N β S.G w) z
  | [], as, h => by cases h; exact ⟨[], rfl, rfl, fun j a hj => by simp at hj⟩
  | x :: l, as, h => by
    simp only [resL] at h
    split at h
    · rename_i a as' ha has
      cases h
      obtain ⟨v, h1, h2⟩ := resG_run hT hs ha
      obtain ⟨vs, h3, h4, h5⟩ := resL_run hT hs l has
      refine ⟨v :: vs, ?_, by simpa using h4, fun j b hj => ?_⟩
      · rw [List.mapM_cons, Sem.run_bind, h1]
        simp only [Result.andThen_ok, Sem.run_bind, h3, Sem.run_pure]
      · cases j with
        | zero => cases hj; exact ⟨v, rfl, h2⟩
        | succ j => exact h5 j b (by simpa using hj)
    · cases h
theorem ret_sound (hT : TabOk P T) (hs : Sim w0 M N b0 nt β S w tm) {fn : Func} {out : AV} {news es' : List Ent} (h : RetOk T fn.results out news es' S) :
    ∃ v β', (results fn tm).run P w = .ok v w ∧ Sim w0 M N b0 0 β' ⟨fun _ => none, Gout news es'⟩ w #[] ∧ out.rep w β' (Gout news es') (okB w0 N β' (Gout news es') w) v ∧
      (∀ p ∈ out.refs, ∃ e, Gout news es' p.1 = some (p.2, e)) := by
  obtain ⟨xs, τ, ids, h1, h2, h3, hnews, h4, h5, h6, h7, h8⟩ := h
  obtain ⟨vs, g1, g2, g3⟩ := resL_run hT hs _ h1
  let β' : Nat → Value := fun i => if 100000 ≤ i then β i else match ids[i]? with | some p => β p.1 | none => undef
  have hβ1 : ∀ j, β' (100000 + j) = β (100000 + j) := fun j => by simp [β']
  have hβ2 : ∀ k p, k < 100000 → ids[k]? = some p → β' k = β p.1 := fun k p hk hp => by simp [β', hp, show ¬ 100000 ≤ k by omega]
  have hid : ∀ p ∈ ids, p.1 < 100000 := fun p hp => by simpa using (List.all_eq_true.1 h6) p hp
  -- an own block of before for each that is given back
  have old : ∀ i r e, Gout news es' i = some (r, e) → ∃ i0 r0, S.G i0 = some (r0, e) ∧ β' i = β i0 ∧ e.on (fun _ => false) = true ∧ ((i < 100000 ∧ ∃ p, ids[i]? = some p ∧ p.1 = i0) ∨ (100000 ≤ i ∧ i0 = i)) := by
    intro i r e hi
    unfold Gout at hi
    split at hi
    · rename_i hge
      simp only [Option.map_eq_some_iff, Prod.mk.injEq] at hi
      obtain ⟨e0, he0, _, rfl⟩ := hi
      obtain ⟨q1, q2⟩ := h7 _ _ he0
      have e1 : 100000 + (i - 100000) = i := by omega
      rw [e1] at q1
      exact ⟨i, 0, q1, by simp [β', hge], q2, .inr ⟨hge, rfl⟩⟩
    · rename_i hlt
      simp only [Option.map_eq_some_iff, Prod.mk.injEq] at hi
      obtain ⟨e0, he0, _, rfl⟩ := hi
      obtain ⟨p, q1, q2, q3⟩ := h4 _ _ he0
      exact ⟨p.1, p.2, q2, hβ2 i p (by omega) q1, q3, .inl ⟨by omega, p, q1, rfl⟩⟩
  have hown : ∀ b, ownB β' (Gout news es') b → ownB β S.G b := fun b ⟨i, r, e, hi, hl, hb⟩ => by
    obtain ⟨i0, r0, q1, q2, _⟩ := old i r e hi
    exact ⟨i0, r0, e, q1, hl, by rw [← q2]; exact hb⟩
  have hok : ∀ b, okB w0 N β S.G w b → okB w0 N β' (Gout news es') w b := fun b ⟨a1, a2, a3⟩ => ⟨a1, fun ho => a2 (hown b ho), a3⟩
  have hsim : Sim w0 M N b0 0 β' ⟨fun _ => none, Gout news es'⟩ w #[] := by
    refine ⟨hs.os, hs.tape, hs.output, hs.size, hs.block, ?_, ?_, ?_, ?_, rfl, fun i a ha => by cases ha⟩
    · intro i r e hi
      obtain ⟨i0, r0, q1, q2, q3, _⟩ := old i r e hi
      exact noref_ent q3 hok hown q2 (hs.ents i0 r0 e q1)
    · intro i j r e r' e' b hi hl hj hl' hbi hbj
      obtain ⟨i0, r0, q1, q2, _, q4⟩ := old i r e hi
      obtain ⟨j0, s0, p1, p2, _, p4⟩ := old j r' e' hj
      rw [q2] at hbi
      rw [p2] at hbj
      have he := hs.apart i0 j0 r0 e s0 e' b q1 hl p1 hl' hbi hbj
      rcases q4 with ⟨a1, p, a2, a3⟩ | ⟨a1, a2⟩ <;> rcases p4 with ⟨b1, q, b2, b3⟩ | ⟨b1, b2⟩
      · have hi1 : (ids.map (·.1))[i]? = some i0 := by simp [a2, a3]
        have hj1 : (ids.map (·.1))[j]? = some i0 := by simp [b2, b3, he]
        have hlt : i < (ids.map (·.1)).length := (List.getElem?_eq_some_iff.1 hi1).1
        exact (List.getElem?_inj hlt h5).1 (hi1.trans hj1.symm)
      · have := hid p (List.mem_of_getElem? a2)
        omega
      · have := hid q (List.mem_of_getElem? b2)
        omega
      · omega
    · intro i r e b hi hl hb
      obtain ⟨i0, r0, q1, q2, _, q4⟩ := old i r e hi
      rw [q2] at hb
      obtain ⟨f1, f2⟩ := hs.fresh i0 r0 e b q1 hl hb
      refine ⟨f1, ?_⟩
      rcases f2 with f2 | ⟨f2, f3⟩
      · exact .inl f2
      · rcases q4 with ⟨a1, p, a2, a3⟩ | ⟨a1, a2⟩
        · have := hid p (List.mem_of_getElem? a2)
          omega
        · exact .inr ⟨f2, a1⟩
    · intro i e hge hi
      replace hi : Gout news es' i = some (0, e) := hi
      obtain ⟨i0, r0, q1, q2, _, q4⟩ := old i 0 e hi
      rcases q4 with ⟨a1, _⟩ | ⟨_, rfl⟩
      · omega
      · have : S.G i0 = some (0, e) := by
          have hj := h7 (i0 - 100000) e (by
            unfold Gout at hi
            rw [if_pos hge] at hi
            simp only [Option.map_eq_some_iff, Prod.mk.injEq] at hi
            obtain ⟨e0, he0, _, rfl⟩ := hi
            exact he0)
          rw [show 100000 + (i0 - 100000) = i0 by omega] at hj
          exact hj.1
        rw [q2]; exact hs.pin i0 e hge this
  have hren : RenOk (fun i => (τ i, 0)) β β' S.G (Gout news es') (tupOf xs).refs := by
    intro p hp
    obtain ⟨q1, q2⟩ := h8 p hp
    refine ⟨q1, ?_⟩
    rcases q2 with ⟨k, hk, hτ⟩ | ⟨j, hj, hjl, hτ⟩
    · have hklt : k < news.length := by rw [← h3]; exact (List.getElem?_eq_some_iff.1 hk).1
      dsimp only
      rw [hτ]
      refine ⟨⟨news[k], ?_⟩, hβ2 k p (by omega) hk⟩
      unfold Gout
      rw [if_neg (by omega), List.getElem?_eq_getElem hklt]; rfl
    · dsimp only
      rw [hτ]
      refine ⟨⟨es'[j], ?_⟩, by rw [hβ1, hj]⟩
      unfold Gout
      rw [if_pos (by omega), show 100000 + j - 100000 = j by omega, List.getElem?_eq_getElem hjl]; rfl
  have hrefs : ∀ p ∈ out.refs, ∃ e, Gout news es' p.1 = some (p.2, e) := by
    have key : ∀ (c : AC), ∀ p ∈ (c.ren fun i => (τ i, 0)).refs, ∃ q ∈ c.refs, p = (τ q.1, 0) := by
      intro c p hp
      cases c with
      | sl i r n => exact ⟨(i, r), List.mem_singleton.2 rfl, List.mem_singleton.1 hp⟩
      | ptr i r o => exact ⟨(i, r), List.mem_singleton.2 rfl, List.mem_singleton.1 hp⟩
      | fn f c => obtain ⟨q, hq, rfl⟩ := List.mem_map.1 hp; exact ⟨q, hq, rfl⟩
      | _ => cases hp
    have key2 : ∀ (c : AG), ∀ p ∈ (c.ren fun i => (τ i, 0)).refs, ∃ q ∈ c.refs, p = (τ q.1, 0) := by
      intro c p hp
      cases c with
      | one c => exact key c p hp
      | agg cs =>
        obtain ⟨d, hd, hp⟩ := List.mem_flatMap.1 hp
        obtain ⟨c, hc, rfl⟩ := List.mem_map.1 hd
        obtain ⟨q, hq, e⟩ := key c p hp
        exact ⟨q, List.mem_flatMap.2 ⟨c, hc, hq⟩, e⟩
    have key3 : ∀ (a : AV), ∀ p ∈ (a.ren fun i => (τ i, 0)).refs, ∃ q ∈ a.refs, p = (τ q.1, 0) := by
      intro a p hp
      cases a with
      | g c => exact key2 c p hp
      | tup xs =>
        obtain ⟨d, hd, hp⟩ := List.mem_flatMap.1 hp
        obtain ⟨c, hc, rfl⟩ := List.mem_map.1 hd
        obtain ⟨q, hq, e⟩ := key2 c p hp
        exact ⟨q, List.mem_flatMap.2 ⟨c, hc, hq⟩, e⟩
    intro p hp
    rw [← h2] at hp
    obtain ⟨q, hq, rfl⟩ := key3 _ p hp
    exact (hren q hq).2.1
  -- the result
  have hres : ∃ v, (results fn tm).run P w = .ok v w ∧ (tupOf xs).rep w β S.G (okB w0 N β S.G w) v := by
    have hm : (fn.results.mapM (readR tm)).run P w = .ok vs.toArray w := by
      rw [Array.mapM_eq_mapM_toList, Sem.run_map, g1]
      rfl
    have e0 : results fn tm = (do let vs ← fn.results.mapM (readR tm); pure (if h : vs.size = 1 then vs[0] else .tuple vs)) := rfl
    rw [e0, Sem.run_bind, hm]
    simp only [Result.andThen_ok]
    match xs, g2, g3 with
    | [x], g2, g3 =>
      obtain ⟨v, rfl⟩ : ∃ v, vs = [v] := List.length_eq_one_iff.1 g2
      obtain ⟨z, hz, hr⟩ := g3 0 x rfl
      have e1 : v = z := by simpa using hz
      subst e1
      exact ⟨v, rfl, hr⟩
    | [], g2, g3 =>
      have e1 : vs = [] := List.eq_nil_of_length_eq_zero g2
      subst e1
      exact ⟨.tuple #[], rfl, #[], rfl, rfl, fun j x hx => by simp at hx⟩
    | x :: y :: xs, g2, g3 =>
      have hne : ¬ vs.toArray.size = 1 := by simp at g2 ⊢; omega
      refine ⟨.tuple vs.toArray, by rw [dif_neg hne]; rfl, vs.toArray, rfl, by simpa using g2, fun j a hj => ?_⟩
      obtain ⟨z, hz, hr⟩ := g3 j a hj
      exact ⟨z, by simpa using hz, hr⟩
  obtain ⟨v, hv, hr⟩ := hres
  refine ⟨v, β', hv, hsim, ?_, hrefs⟩
  rw [← h2]
  exact AV.rep_ren hren (fun b hb => ⟨hok b hb, rfl⟩) hr
/-- From a body to its contract. -/
theorem con_of_body (hT : TabOk P T) {f : FuncId} {C : Fn3} {fn : Func} {c : Code} (hf : P.funcs[f]? = some fn) (hb : fn.body = some c) (hent : ∀ args w, (callFunc f args).run P w = .ok (.enter f args) w)
    (h : ∀ as es out news es', C as es = some (out, news, es') → as.length ≤ fn.ntmps ∧ es'.length = es.length ∧ AW P fn.ntmps c (retK T fn.results out news es') ⟨argsE as, Gin es⟩) : ConOk P f C := by
  refine ⟨hent, fun as es out news es' hC w vs β N hN hs hvs => ?_⟩
  obtain ⟨hnt, hlen, hA⟩ := h as es out news es' hC
  refine calls_of_wp hf hb ?_
  have hs2 := hs.wider (fn.ntmps - vs.size) undef
  have e1 : vs.size + (fn.ntmps - vs.size) = fn.ntmps := by omega
  rw [e1] at hs2
  refine wp_mono (hA w (Mof β es) N β β w _ hs2) ?_
  rintro e a w' ⟨β1, S1, hK, hs1, hd⟩
  have fin : RetOk T fn.results out news es' S1 → ∃ v, (results fn a.tmps).run P w' = .ok v w' ∧ (fun e w' => ∃ v β', e = Ending.returned v ∧ Sim w (Mof β es) N β 0 β' ⟨fun _ => none, Gout news es'⟩ w' #[] ∧ out.rep w' β' (Gout news es') (okB w N β' (Gout news es') w') v ∧
      es'.length = es.length ∧ (es'.all fun e => e.on fun _ => false) = true ∧ (∀ p ∈ out.refs, ∃ e, Gout news es' p.1 = some (p.2, e))) (.returned v) w' := by
    intro hr
    obtain ⟨v, β', g1, g2, g3, g5⟩ := ret_sound (fn := fn) hT hs1 hr
    refine ⟨v, g1, v, β', rfl, g2, g3, hlen, ?_, g5⟩
    obtain ⟨_, _, _, _, _, _, _, _, _, _, h7, _⟩ := hr
    rw [List.all_eq_true]
    intro e he
    obtain ⟨j, hj⟩ := List.getElem?_of_mem he
    exact (h7 j e hj).2
  cases e with
  | normal => exact ⟨hd, fin hK⟩
  | ret => exact ⟨hd, fin hK⟩
  | _ => exact hK.elim
end
end Go.Proofs.Ytgifhhefcmmdfaa
