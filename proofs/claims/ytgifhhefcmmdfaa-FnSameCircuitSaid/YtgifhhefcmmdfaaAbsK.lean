/- The abstract run, eleventh part: regions, in the order of the text and in whatever order; code. No program is named. -/
import Derived.Test.YtgifhhefcmmdfaaAbsJ
namespace Go.Proofs.Ytgifhhefcmmdfaa
set_option linter.unusedVariables false
open Go.RowKit

/-- An operation of a region with its guard. -/
def gop (P : Program) (T : Tab) (cf : FuncId → Option (List AV → Option Tmp → AM)) (ops : Array Oper) (o : Oper) : AM :=
  match o.guard with
  | none => aop P T cf o
  | some (j, want) => match (ops[j]?).bind (·.dst) with
    | none => .fail
    | some d => .getS d fun x => match x with
      | .g (.one (.v (.bool b))) => if b = want then aop P T cf o else putD o.dst (.tup [])
      | .tup [] => putD o.dst (.tup [])
      | _ => .fail
/-- Everything may be touched. -/
def Ft.all : Ft := ⟨fun _ => true, fun _ => true, fun _ => true, fun _ => true⟩
/-- The operations of a region in the order of the text, the first one by its number. -/
def runX (F : Nat → Ft) (P : Program) (T : Tab) (cf : FuncId → Option (List AV → Option Tmp → AM)) (ops : Array Oper) : Nat → List Oper → St → (St → Prop) → Prop
  | _, [], S, K => K S
  | i, o :: rest, S, K => (gop P T cf ops o).run (F i) S (fun S' => runX F P T cf ops (i + 1) rest S' K)
def Fa : Nat → Ft := fun _ => Ft.all
section
variable {P : Program} {T : Tab} {cf : FuncId → Option (List AV → Option Tmp → AM)} {F : Ft} {S : St} {K : St → Prop} {w0 w w' : World} {M N : Nat → Prop} {b0 : Nat → Value} {nt : Nat} {β : Nat → Value} {tm : Array Value} {ds : List Deferred} {Q : Exit → Act → World → Prop} {ops : Array Oper}
theorem gop_sound {o : Oper} {next : Act → World → Prop} (hT : TabOk P T) (hcf : ∀ f m, cf f = some m → GoodCall P f m) (h : (gop P T cf ops o).run F S K) (hs : Sim w0 M N b0 nt β S w tm) (hd : ∀ t, o.dst = some t → t < nt) (hn : Nx w0 M N b0 nt ds K next) :
    if Region.wanted o (yielded ops tm) then o.wp P ⟨tm, ds⟩ w next Q else next (Act.put ⟨tm, ds⟩ o.dst undef) w := by
  unfold gop at h
  unfold Region.wanted
  cases hg : o.guard with
  | none =>
    simp only [hg] at h
    exact aop_sound hT hcf h hs hd hn
  | some p =>
    obtain ⟨j, want⟩ := p
    simp only [hg] at h
    cases hdj : (ops[j]?).bind (·.dst) with
    | none => simp only [hdj] at h; exact h.elim
    | some d =>
      simp only [hdj] at h
      obtain ⟨_, x, hx, h⟩ := h
      obtain ⟨h1, h2⟩ := hs.env d x hx
      match x, h, h2 with
      | .g (.one (.v (.bool b))), h, h2 =>
        have e : tm.getD d undef = .bool b := h2.1
        have e2 : tm[d]? = some (.bool b) := by
          have hlt : d < tm.size := by rw [hs.wide]; exact h1
          rw [Array.getElem?_eq_getElem hlt]
          rw [Array.getD_eq_getD_getElem?, Array.getElem?_eq_getElem hlt] at e
          simpa using e
        have hy : yielded ops tm j = some b := by
          unfold yielded
          rw [hdj]
          simp [e2]
        simp only [hy]
        by_cases hb : b = want
        · subst hb
          simp only [if_true] at h
          simp only [beq_self_eq_true, if_true]
          exact aop_sound hT hcf h hs hd hn
        · simp only [hb, if_false] at h
          have hne : (some b == some want) = false := by simpa using hb
          simp only [hne]
          exact putD_run h hs hd ⟨#[], rfl, rfl, fun j x hx => by simp at hx⟩ hn
      | .tup [], h, h2 =>
        obtain ⟨vs, e, hz, _⟩ := h2
        have hy : yielded ops tm j = none := by
          unfold yielded
          rw [hdj]
          have hlt : d < tm.size := by rw [hs.wide]; exact h1
          rw [Array.getD_eq_getD_getElem?, Array.getElem?_eq_getElem hlt] at e
          have e2 : tm[d]? = some (.tuple vs) := by rw [Array.getElem?_eq_getElem hlt]; simpa using e
          simp [e2]
        simp only [hy]
        have hne : ((none : Option Bool) == some want) = false := rfl
        simp only [hne]
        exact putD_run h hs hd ⟨#[], rfl, rfl, fun j x hx => by simp at hx⟩ hn
theorem runX_sound {Fs : Nat → Ft} (hT : TabOk P T) (hcf : ∀ f m, cf f = some m → GoodCall P f m) : ∀ (l : List Oper) (i : Nat) (S : St) (β : Nat → Value) (w : World) (tm : Array Value), (∀ o ∈ l, ∀ t, o.dst = some t → t < nt) → runX Fs P T cf ops i l S K → Sim w0 M N b0 nt β S w tm →
    (∀ S' β' w' tm', K S' → Sim w0 M N b0 nt β' S' w' tm' → Q .normal ⟨tm', ds⟩ w') → wpList P ops Q l ⟨tm, ds⟩ w
  | [], i, S, β, w, tm, _, h, hs, hq => hq _ _ _ _ h hs
  | o :: l, i, S, β, w, tm, hd, h, hs, hq => by
    have := gop_sound (Q := Q) (ds := ds) (next := wpList P ops Q l) hT hcf h hs (hd o (List.mem_cons_self)) (fun S' β' w' tm' hK hs' => runX_sound hT hcf l (i + 1) S' β' w' tm' (fun o' ho' => hd o' (List.mem_cons_of_mem _ ho')) hK hs' hq)
    unfold wpList
    split
    · rename_i hw; rw [if_pos hw] at this; exact .inl this
    · rename_i hw; rw [if_neg hw] at this; exact this

/-- What code does abstractly. -/
def AW (P : Program) (nt : Nat) (c : Code) (K : Exit → St → Prop) (S : St) : Prop :=
  ∀ w0 M N b0 β w tm, Sim w0 M N b0 nt β S w tm → c.wp P (fun e a w' => ∃ β' S', K e S' ∧ Sim w0 M N b0 nt β' S' w' a.tmps ∧ a.defers = []) ⟨tm, []⟩ w
variable {KE : Exit → St → Prop} {c x y : Code}
theorem AW.mono {K' : Exit → St → Prop} (h : AW P nt c KE S) (hk : ∀ e S, KE e S → K' e S) : AW P nt c K' S := fun w0 M N b0 β w tm hs =>
  wp_mono (h w0 M N b0 β w tm hs) fun e a w' ⟨β', S', h1, h2⟩ => ⟨β', S', hk _ _ h1, h2⟩
theorem aw_skip (h : KE .normal S) : AW P nt .skip KE S := fun w0 M N b0 β w tm hs => wp_skip ⟨β, S, h, hs, rfl⟩
theorem aw_exit {id : Nat} (h : KE (.exit id) S) : AW P nt (.exit id) KE S := fun w0 M N b0 β w tm hs => wp_exit ⟨β, S, h, hs, rfl⟩
theorem aw_ret (h : KE .ret S) : AW P nt .ret KE S := fun w0 M N b0 β w tm hs => wp_ret ⟨β, S, h, hs, rfl⟩
def thenK (P : Program) (nt : Nat) (y : Code) (KE : Exit → St → Prop) : Exit → St → Prop
  | .normal, S => AW P nt y KE S
  | e, S => KE e S
theorem aw_seq (h : AW P nt x (thenK P nt y KE) S) : AW P nt (.seq x y) KE S := fun w0 M N b0 β w tm hs =>
  wp_seq (wp_mono (h w0 M N b0 β w tm hs) fun e a w' ⟨β', S', h1, h2, h3⟩ => by
    obtain ⟨tm', ds'⟩ := a
    dsimp only at h2 h3
    subst h3
    cases e with
    | normal => exact h1 w0 M N b0 β' w' tm' h2
    | _ => exact ⟨β', S', h1, h2, rfl⟩)
def evalO (S : St) : Operand → Option AV
  | .tmp t => S.E t
  | .const v => some (.g (.one (.v v)))
  | _ => none
theorem aw_cond {o : Operand} {b : Bool} (hb : evalO S o = some (.g (.one (.v (.bool b))))) (ht : b = true → AW P nt x KE S) (hf : b = false → AW P nt y KE S) : AW P nt (.cond o x y) KE S := fun w0 M N b0 β w tm hs => by
  have he : Act.eval ⟨tm, []⟩ o = .bool b := by
    cases o with
    | tmp t => exact (hs.env t _ hb).2.1
    | const v => simp only [evalO, Option.some.injEq, AV.g.injEq, AG.one.injEq, AC.v.injEq] at hb; exact hb
    | global g => cases hb
    | func f => cases hb
  exact wp_cond_split he (fun h => ht h w0 M N b0 β w tm hs) (fun h => hf h w0 M N b0 β w tm hs)
def blockK (id : Nat) (KE : Exit → St → Prop) : Exit → St → Prop
  | .exit id', S => if id' = id then KE .normal S else KE (.exit id') S
  | e, S => KE e S
theorem aw_block {id : Nat} (h : AW P nt c (blockK id KE) S) : AW P nt (.block id c) KE S := fun w0 M N b0 β w tm hs =>
  wp_block (wp_mono (h w0 M N b0 β w tm hs) fun e a w' ⟨β', S', h1, h2, h3⟩ => by
    cases e with
    | exit id' =>
      simp only [blockK] at h1
      simp only [Exit.inBlock]
      split at h1
      · rename_i he; rw [if_pos he]; exact ⟨β', S', h1, h2, h3⟩
      · rename_i he; rw [if_neg he]; exact ⟨β', S', h1, h2, h3⟩
    | _ => exact ⟨β', S', h1, h2, h3⟩)
/-- A loop: what holds at the head of each round, by a number g, which goes down. -/
theorem aw_loop {σ : Type} (I : σ → St → Prop) (μ : σ → Nat) (g0 : σ) (h0 : I g0 S)
    (round : ∀ g S', I g S' → AW P nt c (fun e S'' => match e with
      | .normal => ∃ g', I g' S'' ∧ μ g' < μ g
      | e => KE e S'') S') : AW P nt (.loop c) KE S := fun w0 M N b0 β w tm hs => by
  intro b k cs
  have key : ∀ n g S' β' w' tm', μ g = n → I g S' → Sim w0 M N b0 nt β' S' w' tm' → ∃ e a' w'', (∃ β' S', KE e S' ∧ Sim w0 M N b0 nt β' S' w'' a'.tmps ∧ a'.defers = []) ∧ Arrives P (lone (b.at ⟨tm', []⟩ (.code c :: .inLoop c :: k)) cs w') b k cs e a' w'' := by
    intro n
    induction n using Nat.strongRecOn with
    | _ n ih =>
      intro g S' β' w' tm' hn hI hs'
      obtain ⟨e, a₁, w₁, hq, harr⟩ := round g S' hI w0 M N b0 β' w' tm' hs' b (.inLoop c :: k) cs
      cases e with
      | normal =>
        obtain ⟨β₁, S₁, ⟨g', hI', hlt⟩, hs₁, hd⟩ := hq
        obtain ⟨tm₁, ds₁⟩ := a₁
        dsimp only at hs₁ hd
        subst hd
        obtain ⟨e₂, a₂, w₂, hq₂, harr₂⟩ := ih (μ g') (hn ▸ hlt) g' S₁ β₁ w₁ tm₁ rfl hI' hs₁
        exact ⟨e₂, a₂, w₂, hq₂, .of_steps (Steps.trans harr (.one step_inLoop)) harr₂⟩
      | exit id => exact ⟨_, a₁, w₁, hq, .pass (x := .inLoop c) rfl (fun _ _ => .inl (by simp)) harr⟩
      | goto l => exact ⟨_, a₁, w₁, hq, .pass (x := .inLoop c) rfl (fun _ _ => .inl (by simp)) harr⟩
      | ret => exact ⟨_, a₁, w₁, hq, .pass (x := .inLoop c) rfl (fun _ _ => .inl (by simp)) harr⟩
      | panic ch => exact ⟨_, a₁, w₁, hq, .pass (x := .inLoop c) rfl (fun _ _ => .inl (by simp)) harr⟩
      | outgrown => exact ⟨_, a₁, w₁, hq, .pass (x := .inLoop c) rfl (fun _ _ => .inl (by simp)) harr⟩
  obtain ⟨e, a', w', hq, harr⟩ := key _ g0 S β w tm rfl h0 hs
  exact ⟨e, a', w', hq, .of_steps (.one step_loop) harr⟩
/-- A region in the order of the text. -/
theorem aw_region (hT : TabOk P T) (hcf : ∀ f m, cf f = some m → GoodCall P f m) {id : Nat} {l : List Oper} (hd : (l.all fun o => match o.dst with | some d => decide (d < nt) | none => true) = true)
    (h : runX Fa P T cf l.toArray 0 l S (KE .normal)) : AW P nt (.region id l.toArray false) KE S := fun w0 M N b0 β w tm hs =>
  wp_region_lit (runX_sound hT hcf l 0 S β w tm (fun o ho t ht => by
    have := (List.all_eq_true.1 hd) o ho
    rw [ht] at this
    simpa using this) h hs (fun S' β' w' tm' hK hs' => ⟨β', S', hK, hs', rfl⟩))
/-- Fewer slots and fewer own blocks are known: those that are kept must not speak of those that go. -/
def AC.on (G : Nat → Bool) : AC → Bool
  | .sl i _ _ => G i
  | .ptr i _ _ => G i
  | .fn _ c => c.all fun p => G p.1
  | _ => true
def AG.on (G : Nat → Bool) : AG → Bool
  | .one c => c.on G
  | .agg cs => cs.all (AC.on G)
def AV.on (G : Nat → Bool) : AV → Bool
  | .g x => x.on G
  | .tup xs => xs.all (AG.on G)
def Ent.on (G : Nat → Bool) : Ent → Bool
  | .box cs => cs.all (AC.on G)
  | .rbx cs => cs.all (AC.on G)
  | _ => true
def cutG (S : St) (L : List Nat) : Blk := fun i => bif L.any (Nat.beq i) then S.G i else none
def cutE (S : St) (L : List Nat) : Slots := fun i => bif L.any (Nat.beq i) then S.E i else none
section
variable {ok ok' : Nat → Prop} {G G' : Blk} {on : Nat → Bool}
theorem PtrRep.cut {i r o : Nat} {y : Value} (hG : ∀ i, on i = true → G' i = G i) (hi : on i = true) (h : PtrRep β G i r o y) : PtrRep β G' i r o y := by
  obtain ⟨h0, r', e, h1, h2⟩ := h
  exact ⟨h0, r', e, by rw [hG i hi]; exact h1, h2⟩
theorem AC.rep_cut {c : AC} {y : Value} (hG : ∀ i, on i = true → G' i = G i) (hok : ∀ b, ok b → ok' b) (hc : c.on on = true) (h : c.rep w β G ok y) : c.rep w β G' ok' y := by
  cases c with
  | v x => exact h
  | ro sz n l => exact RoRep.mono (fun b hb => ⟨hok b hb, rfl⟩) h
  | sl i r n =>
    obtain ⟨h0, r', e, h1, h2⟩ := h
    exact ⟨h0, r', e, by rw [hG i hc]; exact h1, h2⟩
  | ptr i r o => exact PtrRep.cut hG hc h
  | rp l => obtain ⟨h1, b, off, e, hb, hcc⟩ := h; exact ⟨h1, b, off, e, hok b hb, hcc⟩
  | fn f c =>
    obtain ⟨vs, h1, h2, h3⟩ := h
    refine ⟨vs, h1, h2, fun j p hp => ?_⟩
    obtain ⟨z, hz, hr⟩ := h3 j p hp
    exact ⟨z, hz, hr.cut hG ((List.all_eq_true.1 hc) p (List.mem_of_getElem? hp))⟩
theorem CsRep.cut {cs : List AC} {vs : Array Value} (hG : ∀ i, on i = true → G' i = G i) (hok : ∀ b, ok b → ok' b) (hc : cs.all (AC.on on) = true) (h : CsRep w β G ok cs vs) : CsRep w β G' ok' cs vs :=
  ⟨h.1, fun j c hj => let ⟨z, hz, hr⟩ := h.2 j c hj; ⟨z, hz, AC.rep_cut hG hok ((List.all_eq_true.1 hc) c (List.mem_of_getElem? hj)) hr⟩⟩
theorem AG.rep_cut {x : AG} {y : Value} (hG : ∀ i, on i = true → G' i = G i) (hok : ∀ b, ok b → ok' b) (hc : x.on on = true) (h : x.rep w β G ok y) : x.rep w β G' ok' y := by
  cases x with
  | one c => exact AC.rep_cut hG hok hc h
  | agg cs => obtain ⟨vs, h1, h2⟩ := h; exact ⟨vs, h1, h2.cut hG hok hc⟩
theorem AV.rep_cut {x : AV} {y : Value} (hG : ∀ i, on i = true → G' i = G i) (hok : ∀ b, ok b → ok' b) (hc : x.on on = true) (h : x.rep w β G ok y) : x.rep w β G' ok' y := by
  cases x with
  | g c => exact AG.rep_cut hG hok hc h
  | tup xs =>
    obtain ⟨vs, h1, h2, h3⟩ := h
    exact ⟨vs, h1, h2, fun j x hx => let ⟨z, hz, hr⟩ := h3 j x hx; ⟨z, hz, AG.rep_cut hG hok ((List.all_eq_true.1 hc) x (List.mem_of_getElem? hx)) hr⟩⟩
end
theorem Sim.cut (h : Sim w0 M N b0 nt β S w tm) (E' : Slots) (G' : Blk) (on : Nat → Bool) (hG : ∀ i, on i = true → G' i = S.G i) (hG2 : ∀ i r e, G' i = some (r, e) → S.G i = some (r, e) ∧ e.on on = true) (hE : ∀ i a, E' i = some a → S.E i = some a ∧ a.on on = true) :
    Sim w0 M N b0 nt β ⟨E', G'⟩ w tm := by
  have hok : ∀ b, okB w0 N β S.G w b → okB w0 N β G' w b := fun b ⟨h1, h2, h3⟩ => ⟨h1, fun ⟨i, r, e, hi, hl, hb⟩ => h2 ⟨i, r, e, (hG2 i r e hi).1, hl, hb⟩, h3⟩
  refine ⟨h.os, h.tape, h.output, h.size, h.block, ?_, ?_, ?_, fun i e hi hg => h.pin i e hi (hG2 i 0 e hg).1, h.wide, ?_⟩
  · intro i r e hi
    obtain ⟨h1, h2⟩ := hG2 i r e hi
    have hr := h.ents i r e h1
    cases e with
    | box cs => obtain ⟨g, vs, t, e1, e2, e3⟩ := hr; exact ⟨g, vs, t, e1, e2, e3.cut hG hok h2⟩
    | row e sz l => exact hr
    | fro sz l => obtain ⟨n, e1⟩ := hr; exact ⟨n, RoRep.mono (fun b hb => ⟨hok b hb, rfl⟩) e1⟩
    | rbx cs => obtain ⟨g, vs, t, fr, e1, e2, e3, e4⟩ := hr; exact ⟨g, vs, t, fr, e1, e2, e3.cut hG hok h2, fun ⟨i, r, e, hi, hl, hb⟩ => e4 ⟨i, r, e, (hG2 i r e hi).1, hl, hb⟩⟩
  · intro i j r e r' e' b hi hl hj hl' hbi hbj
    exact h.apart i j r e r' e' b (hG2 i r e hi).1 hl (hG2 j r' e' hj).1 hl' hbi hbj
  · intro i r e b hi hl hb
    exact h.fresh i r e b (hG2 i r e hi).1 hl hb
  · intro i a ha
    obtain ⟨h1, h2⟩ := hE i a ha
    obtain ⟨h3, h4⟩ := h.env i a h1
    exact ⟨h3, AV.rep_cut hG hok h2 h4⟩
theorem aw_cut (E' : Slots) (G' : Blk) (on : Nat → Bool) (hG : ∀ i, on i = true → G' i = S.G i) (hG2 : ∀ i r e, G' i = some (r, e) → S.G i = some (r, e) ∧ e.on on = true) (hE : ∀ i a, E' i = some a → S.E i = some a ∧ a.on on = true)
    (h : AW P nt c KE ⟨E', G'⟩) : AW P nt c KE S := fun w0 M N b0 β w tm hs => h w0 M N b0 β w tm (hs.cut E' G' on hG hG2 hE)
end
end Go.Proofs.Ytgifhhefcmmdfaa
