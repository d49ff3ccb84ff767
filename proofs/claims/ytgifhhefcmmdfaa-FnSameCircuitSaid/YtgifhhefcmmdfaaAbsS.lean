/- The abstract run: returns, facts on arguments, loops by lists of slots. No program is named. -/
import Derived.Test.YtgifhhefcmmdfaaAbsR
namespace Go.Proofs.Ytgifhhefcmmdfaa
set_option linter.unusedVariables false
open Go.RowKit

/-- Cells as they must be. -/
def AC.fit : AC → Prop
  | .ro z n l => l.length = n * z ∧ n ≤ 9223372036854775807
  | .v x => x.oneCell' = true
  | _ => True
def AG.fit : AG → Prop
  | .one c => c.fit
  | .agg cs => ∀ c ∈ cs, c.fit
def AV.fit : AV → Prop
  | .g x => x.fit
  | .tup xs => ∀ x ∈ xs, x.fit
def Ent.fit : Ent → Prop
  | .box cs => ∀ c ∈ cs, c.fit
  | .rbx cs => ∀ c ∈ cs, c.fit
  | .row _ z l => ∃ n, l.length = n * z ∧ n ≤ 9223372036854775807
  | .fro _ _ => True
section
variable {P : Program} {T : Tab} {w0 w : World} {M N : Nat → Prop} {b0 : Nat → Value} {nt : Nat} {β : Nat → Value} {S : St} {tm : Array Value} {ok : Nat → Prop} {G : Blk}
theorem fitC {c : AC} {y : Value} (h : c.rep w β G ok y) : c.fit := by
  cases c with
  | v x => exact h.2
  | ro z n l =>
    obtain ⟨⟨h1, _⟩, A, c, _, h2, h3, _⟩ := h
    unfold maxLen at h3
    exact ⟨h1, by omega⟩
  | _ => exact trivial
theorem fitCs {cs : List AC} {vs : Array Value} (h : CsRep w β G ok cs vs) : ∀ c ∈ cs, c.fit := by
  intro c hc
  obtain ⟨j, hj⟩ := List.getElem?_of_mem hc
  obtain ⟨z, _, hr⟩ := h.2 j c hj
  exact fitC hr
theorem fitG {x : AG} {y : Value} (h : x.rep w β G ok y) : x.fit := by
  cases x with
  | one c => exact fitC h
  | agg cs => obtain ⟨vs, _, hc⟩ := h; exact fitCs hc
theorem fitA {a : AV} {y : Value} (h : a.rep w β G ok y) : a.fit := by
  cases a with
  | g x => exact fitG h
  | tup xs =>
    obtain ⟨vs, _, _, h3⟩ := h
    intro x hx
    obtain ⟨j, hj⟩ := List.getElem?_of_mem hx
    obtain ⟨z, _, hr⟩ := h3 j x hj
    exact fitG hr
theorem fitE {e : Ent} {i : Nat} (h : e.rep w β G ok i) : e.fit := by
  cases e with
  | box cs => obtain ⟨g, vs, t, _, _, hc⟩ := h; exact fitCs hc
  | rbx cs => obtain ⟨g, vs, t, fr, _, _, hc, _⟩ := h; exact fitCs hc
  | row e z l =>
    obtain ⟨_, e', n, _, h1, h2⟩ := h
    refine ⟨n, h1, ?_⟩
    rcases h2 with ⟨_, rfl⟩ | ⟨g, cap, cur, _, _, _, h5, h6, _⟩
    · omega
    · unfold maxLen at h6; omega
  | fro z l => exact trivial
/-- From a body to its contract, with the facts on arguments. -/
theorem con_fn (hT : TabOk P T) {f : FuncId} {C : Fn3} {fn : Func} {c : Code} (hf : P.funcs[f]? = some fn) (hb : fn.body = some c) (hent : ∀ args w, (callFunc f args).run P w = .ok (.enter f args) w)
    (h : ∀ aa es out news es', C aa es = some (out, news, es') → (∀ a ∈ aa, a.fit) → (∀ e ∈ es, e.fit) → Nat.ble aa.length fn.ntmps = true ∧ es'.length = es.length ∧ AW P fn.ntmps c (retK T fn.results out news es') ⟨argsE aa, Gin es⟩) : ConOk P f C := by
  refine ⟨hent, fun aa es out news es' hC w vs β N hN hs hvs => ?_⟩
  have h1 : ∀ a ∈ aa, a.fit := fun a ha => by
    obtain ⟨j, hj⟩ := List.getElem?_of_mem ha
    exact fitA (hs.env j a hj).2
  have h2 : ∀ e ∈ es, e.fit := fun e he => by
    obtain ⟨j, hj⟩ := List.getElem?_of_mem he
    exact fitE (hs.ents (100000 + j) 0 e (by show Gin es _ = _; unfold Gin; rw [if_pos (by omega), show 100000 + j - 100000 = j by omega, hj]; rfl))
  obtain ⟨k1, k2, k3⟩ := h aa es out news es' hC h1 h2
  -- the body, once, at these arguments
  refine calls_of_wp hf hb ?_
  have hs2 := hs.wider (fn.ntmps - vs.size) undef
  have e1 : vs.size + (fn.ntmps - vs.size) = fn.ntmps := by have := Nat.le_of_ble_eq_true k1; omega
  rw [e1] at hs2
  refine wp_mono (k3 w (Mof β es) N β β w _ hs2) ?_
  rintro e a w' ⟨β1, S1, hK, hs1, hd⟩
  have fin : RetOk T fn.results out news es' S1 → ∃ v, (results fn a.tmps).run P w' = .ok v w' ∧ (fun e w' => ∃ v β', e = Ending.returned v ∧ Sim w (Mof β es) N β 0 β' ⟨fun _ => none, Gout news es'⟩ w' #[] ∧ out.rep w' β' (Gout news es') (okB w N β' (Gout news es') w') v ∧
      es'.length = es.length ∧ (es'.all fun e => e.on fun _ => false) = true ∧ (∀ p ∈ out.refs, ∃ e, Gout news es' p.1 = some (p.2, e))) (.returned v) w' := by
    intro hr
    obtain ⟨v, β', g1, g2, g3, g5⟩ := ret_sound (fn := fn) hT hs1 hr
    refine ⟨v, g1, v, β', rfl, g2, g3, k2, ?_, g5⟩
    obtain ⟨_, _, _, _, _, _, _, _, _, _, h7, _⟩ := hr
    rw [List.all_eq_true]
    intro e he
    obtain ⟨j, hj⟩ := List.getElem?_of_mem he
    exact (h7 j e hj).2
  cases e with
  | normal => exact ⟨hd, fin hK⟩
  | ret => exact ⟨hd, fin hK⟩
  | _ => exact hK.elim
/-- Blocks of a state. -/
def HasG (S : St) : Nat → List Ent → Prop
  | _, [] => True
  | k, e :: l => S.G k = some (0, e) ∧ e.on (fun _ => false) = true ∧ HasG S (k + 1) l
def HasN (S : St) : List (Nat × Nat) → List Ent → Prop
  | [], [] => True
  | p :: ids, e :: l => S.G p.1 = some (p.2, e) ∧ e.on (fun _ => false) = true ∧ HasN S ids l
  | _, _ => False
theorem HasG.get : ∀ {l : List Ent} {k : Nat}, HasG S k l → ∀ (j : Nat) (e : Ent), l[j]? = some e → S.G (k + j) = some (0, e) ∧ e.on (fun _ => false) = true
  | [], k, h, j, e, hj => by simp at hj
  | e0 :: l, k, h, j, e, hj => by
    cases j with
    | zero => cases hj; exact ⟨h.1, h.2.1⟩
    | succ j =>
      have := HasG.get h.2.2 j e (by simpa using hj)
      rwa [show k + 1 + j = k + (j + 1) by omega] at this
theorem HasN.get : ∀ {ids : List (Nat × Nat)} {l : List Ent}, HasN S ids l → ids.length = l.length ∧ ∀ (j : Nat) (e : Ent), l[j]? = some e → ∃ p, ids[j]? = some p ∧ S.G p.1 = some (p.2, e) ∧ e.on (fun _ => false) = true
  | [], [], h => ⟨rfl, fun j e hj => by simp at hj⟩
  | p :: ids, e0 :: l, h => by
    obtain ⟨h1, h2⟩ := HasN.get h.2.2
    refine ⟨by simp [h1], fun j e hj => ?_⟩
    cases j with
    | zero => cases hj; exact ⟨p, rfl, h.1, h.2.1⟩
    | succ j =>
      obtain ⟨q, q1, q2⟩ := h2 j e (by simpa using hj)
      exact ⟨q, by simpa using q1, q2⟩
  | [], _ :: _, h => h.elim
  | _ :: _, [], h => h.elim
/-- The number of an own block among those that are given back. -/
def idx : List (Nat × Nat) → Nat → Nat
  | [], _ => 0
  | p :: l, i => bif Nat.beq p.1 i then 0 else idx l i + 1
def tau (ids : List (Nat × Nat)) (i : Nat) : Nat := bif Nat.ble 100000 i then i else idx ids i
theorem idx_at : ∀ {ids : List (Nat × Nat)} {p : Nat × Nat}, (ids.map (·.1)).Nodup → p ∈ ids → ids[idx ids p.1]? = some p
  | q :: l, p, hn, hp => by
    rw [List.map_cons, List.nodup_cons] at hn
    unfold idx
    rcases List.mem_cons.1 hp with rfl | hp
    · simp [Nat.beq_refl]
    · have hne : Nat.beq q.1 p.1 = false := by
        rw [Bool.eq_false_iff]
        intro hb
        have := Nat.eq_of_beq_eq_true hb
        exact hn.1 (by rw [this]; exact List.mem_map_of_mem (f := (·.1)) hp)
      simp only [hne, cond_false]
      simpa using idx_at hn.2 hp
def retB (ids : List (Nat × Nat)) (refs : List (Nat × Nat)) (n : Nat) : Bool := decide ((ids.map (·.1)).Nodup) && Nat.ble ids.length 100 && ids.all (fun p => Nat.blt p.1 100000) && refs.all (fun p => ids.contains p || (Nat.ble 100000 p.1 && Nat.blt p.1 (100000 + n) && Nat.beq p.2 0))
/-- A return. -/
theorem ret_of {rs : Array ResultVar} {out : AV} {news es' : List Ent} (ids : List (Nat × Nat)) {xs : List AG} (hx : resL T S rs.toList = some xs) (hB : retB ids (tupOf xs).refs es'.length = true) (ho : (tupOf xs).ren (fun i => (tau ids i, 0)) = out) (hn : HasN S ids news) (he : HasG S 100000 es') : RetOk T rs out news es' S := by
  simp only [retB, Bool.and_eq_true, decide_eq_true_eq] at hB
  obtain ⟨⟨⟨b1, b2⟩, b3⟩, b4⟩ := hB
  obtain ⟨n1, n2⟩ := hn.get
  have hg := he.get
  have hlt : ∀ p ∈ ids, p.1 < 100000 := fun p hp => blt_lt ((List.all_eq_true.1 b3) p hp)
  refine ⟨xs, tau ids, ids, hx, ho, n1, by rw [← n1]; exact Nat.le_of_ble_eq_true b2, n2, b1, List.all_eq_true.2 fun p hp => by simpa using hlt p hp, hg, fun p hp => ?_⟩
  have := (List.all_eq_true.1 b4) p hp
  simp only [Bool.or_eq_true, Bool.and_eq_true, List.contains_iff_mem] at this
  rcases this with h | ⟨⟨h1, h2⟩, h3⟩
  · have hi := idx_at b1 h
    have hk : idx ids p.1 < news.length := by rw [← n1]; exact (List.getElem?_eq_some_iff.1 hi).1
    obtain ⟨q, q1, q2, _⟩ := n2 _ _ (List.getElem?_eq_getElem hk)
    rw [hi] at q1
    cases q1
    refine ⟨⟨_, q2⟩, .inl ⟨_, hi, ?_⟩⟩
    have hb : Nat.ble 100000 p.1 = false := by rw [Bool.eq_false_iff]; intro hb; have := Nat.le_of_ble_eq_true hb; have := hlt p h; omega
    simp [tau, hb]
  · have g1 := Nat.le_of_ble_eq_true h1
    have g2 := blt_lt h2
    have g3 := Nat.eq_of_beq_eq_true h3
    have hj : p.1 - 100000 < es'.length := by omega
    have := (hg _ _ (List.getElem?_eq_getElem hj)).1
    rw [show 100000 + (p.1 - 100000) = p.1 by omega] at this
    exact ⟨⟨_, by rw [g3]; exact this⟩, .inr ⟨p.1 - 100000, by omega, hj, by simp [tau, h1]; omega⟩⟩
theorem aw_retK {rs : Array ResultVar} {out : AV} {news es' : List Ent} {nt : Nat} (h : RetOk T rs out news es' S) : AW P nt .ret (retK T rs out news es') S := aw_ret h
/-- A state by lists. -/
def ofL (E : List (Nat × AV)) (G : List (Nat × (Nat × Ent))) : St := ⟨find1 E, find1 G⟩
def HasE (S : St) : List (Nat × AV) → Prop
  | [] => True
  | p :: l => S.E p.1 = some p.2 ∧ HasE S l
def HasB (S : St) : List (Nat × (Nat × Ent)) → Prop
  | [] => True
  | p :: l => S.G p.1 = some p.2 ∧ HasB S l
theorem HasE.mem : ∀ {l : List (Nat × AV)}, HasE S l → ∀ p ∈ l, S.E p.1 = some p.2
  | p0 :: l, h, p, hp => by
    rcases List.mem_cons.1 hp with rfl | hp
    · exact h.1
    · exact HasE.mem h.2 p hp
theorem HasB.mem : ∀ {l : List (Nat × (Nat × Ent))}, HasB S l → ∀ p ∈ l, S.G p.1 = some p.2
  | p0 :: l, h, p, hp => by
    rcases List.mem_cons.1 hp with rfl | hp
    · exact h.1
    · exact HasB.mem h.2 p hp
def keyB (G : List (Nat × (Nat × Ent))) (i : Nat) : Bool := G.any fun p => Nat.beq p.1 i
def onB (E : List (Nat × AV)) (G : List (Nat × (Nat × Ent))) : Bool := E.all (fun p => p.2.on (keyB G)) && G.all (fun p => p.2.2.on (keyB G))
theorem find1_key {G : List (Nat × (Nat × Ent))} {i : Nat} (h : keyB G i = true) : ∃ x, find1 G i = some x := by
  unfold keyB at h
  induction G with
  | nil => simp at h
  | cons p l ih =>
    obtain ⟨k, x⟩ := p
    unfold find1
    cases hk : Nat.beq k i with
    | true => exact ⟨x, rfl⟩
    | false =>
      simp only [List.any_cons, hk, Bool.false_or] at h
      exact ih h
/-- Only these slots and blocks are known from now on. -/
theorem cut_ofL {nt : Nat} {c : Code} {KE : Exit → St → Prop} (E : List (Nat × AV)) (G : List (Nat × (Nat × Ent))) (hB : onB E G = true) (hE : HasE S E) (hG : HasB S G) (h : AW P nt c KE (ofL E G)) : AW P nt c KE S := by
  simp only [onB, Bool.and_eq_true] at hB
  refine aw_cut (find1 E) (find1 G) (keyB G) (fun i hi => ?_) (fun i r e hi => ?_) (fun i a hi => ?_) h
  · obtain ⟨x, hx⟩ := find1_key hi
    rw [hx]; exact (hG.mem _ (find1_mem hx)).symm
  · have hm := find1_mem hi
    exact ⟨hG.mem _ hm, (List.all_eq_true.1 hB.2) _ hm⟩
  · have hm := find1_mem hi
    exact ⟨hE.mem _ hm, (List.all_eq_true.1 hB.1) _ hm⟩
/-- Does a state hold these slots and blocks? -/
def Is (S : St) (E : List (Nat × AV)) (G : List (Nat × (Nat × Ent))) : Prop := onB E G = true ∧ HasE S E ∧ HasB S G
/-- A loop, by the slots and blocks at its head, which depend on a value g; q g holds there; it goes down. -/
theorem aw_rounds {nt : Nat} {c : Code} {KE : Exit → St → Prop} {σ : Type} (E : σ → List (Nat × AV)) (G : σ → List (Nat × (Nat × Ent))) (q : σ → Prop) (μ : σ → Nat) (g0 : σ) (hq : q g0) (h0 : Is S (E g0) (G g0))
    (round : ∀ g, q g → AW P nt c (fun e S'' => match e with
      | .normal => ∃ g', q g' ∧ Is S'' (E g') (G g') ∧ μ g' < μ g
      | e => KE e S'') (ofL (E g) (G g))) : AW P nt (.loop c) KE S := by
  refine aw_loop (fun g S' => q g ∧ Is S' (E g) (G g)) μ g0 ⟨hq, h0⟩ fun g S' ⟨hg, hI⟩ => ?_
  refine cut_ofL (E g) (G g) hI.1 hI.2.1 hI.2.2 ((round g hg).mono fun e S'' hK => ?_)
  cases e with
  | normal => obtain ⟨g', h1, h2, h3⟩ := hK; exact ⟨g', ⟨h1, h2⟩, h3⟩
  | _ => exact hK
end
end Go.Proofs.Ytgifhhefcmmdfaa
