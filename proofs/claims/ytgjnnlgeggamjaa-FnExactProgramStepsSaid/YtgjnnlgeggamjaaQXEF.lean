/- BK, TRO, TRZ: laid into one text. -/
import Derived.Test.YtgjnnlgeggamjaaQXED
import Derived.Test.YtgjnnlgeggamjaaQXEE
import Derived.WalkKit
import Derived.OrdersIn
import Derived.OwnWalkIn
import Derived.TacticsInMore
import Derived.RangeFuncBox
import Derived.RangeFuncCalls
import Derived.Maps.AppendAt

namespace Go.Proofs.Ytgjnnlgeggamjaa
set_option linter.unusedVariables false
open Go.RowKit
theorem kon_pureZ {P : Program} {f : FuncId} {aa : List AV} {out : AV} (hent : ∀ args w, (callFunc f args).run P w = .ok (.enter f args) w)
    (hpl : aa.all (AV.on fun _ => false) = true) (hout : out.refs = [])
    (h : ∀ (w : World) (ok : Nat → Prop) (vs : Array Value), Glo w → gsz ≤ w.heap.size → (∀ b, ok b → b < w.heap.size) → vs.size = aa.length → Args0 w ok aa vs →
      Calls P f vs w fun en W' => ∃ v, en = .returned v ∧ Below w.heap.size w W' ∧ ∀ β G ok, out.rep W' β G ok v) :
    Kon P f aa [] out [] [] := by
  refine ⟨cOf (fun _ : Unit => (aa, [])) (fun _ => (out, [], [])), ⟨hent, ?_⟩, cOf_at (A := fun _ : Unit => (aa, [])) (R := fun _ => (out, [], [])) (fun _ _ _ => rfl) ()⟩
  intro aa' es out' news es' hC w vs β N hN hs hvs
  obtain ⟨_, rfl, rfl, rfl, rfl, rfl⟩ := cOf_some hC
  have hz : gsz ≤ w.heap.size := by
    rcases Nat.eq_zero_or_pos gsz with h0 | h0
    · omega
    · have := (hs.glo.2 (gsz - 1) (by omega)).2.2; omega
  refine (h w _ vs hs.glo.1 hz (fun b hb => hb.1) hvs (args_of_sim hpl hs)).mono ?_
  rintro en W' ⟨v, rfl, hB, hrep⟩
  refine ⟨v, fun _ => undef, rfl, ?_, hrep _ _ _, rfl, rfl, fun p hp => ?_⟩
  · refine { os := hB.os, tape := hB.tape, output := hB.output, glo := hs.glo, size := hB.size, block := fun k hk _ => hB.block k hk, ents := ?_, apart := ?_, fresh := ?_, pin := ?_, wide := rfl, env := ?_ }
    · intro i r e hi
      replace hi : Gout [] [] i = some (r, e) := hi
      rw [gout_nil] at hi; cases hi
    · intro i j r e r' e' b hi
      replace hi : Gout [] [] i = some (r, e) := hi
      rw [gout_nil] at hi; cases hi
    · intro i r e b hi
      replace hi : Gout [] [] i = some (r, e) := hi
      rw [gout_nil] at hi; cases hi
    · intro i e _ hi
      replace hi : Gout [] [] i = some (0, e) := hi
      rw [gout_nil] at hi; cases hi
    · intro i a ha; cases ha
  · rw [hout] at hp; cases hp
theorem calls_of_kon {P : Program} {f : FuncId} {aa : List AV} {out : AV} (hK : Kon P f aa [] out [] []) {vs : Array Value} {w : World} (hs : vs.size = aa.length) (hr : ∀ (j : Nat) (a : AV), aa[j]? = some a → ∃ z, vs[j]? = some z ∧ Rep0 w a z) (hgl : Glo w) (hgz : gsz ≤ w.heap.size) :
    Calls P f vs w fun e w' => ∃ v β G ok, e = .returned v ∧ out.rep w' β G ok v ∧ Below w.heap.size w w' := by
  obtain ⟨C, hC, h⟩ := hK
  have hG : Gin [] = fun _ => none := funext gin_nil
  have hM : ∀ b, ¬ Mof (fun _ => undef) [] b := by
    rintro b ⟨j, e, hj, _⟩
    simp at hj
  have hok : ∀ b, okB w (fun b => b < w.heap.size) (fun _ => undef) (Gin []) w b ↔ b < w.heap.size := fun b =>
    ⟨fun h => h.1, fun h => ⟨h, ownB_none gin_nil b, fun h => h⟩⟩
  have hok2 : okB w (fun b => b < w.heap.size) (fun _ => undef) (Gin []) w = fun b => b < w.heap.size := funext fun b => propext (hok b)
  have sim : Sim w (Mof (fun _ => undef) []) (fun b => b < w.heap.size) (fun _ => undef) vs.size (fun _ => undef) ⟨argsE aa, Gin []⟩ w vs := by
    refine ⟨rfl, rfl, rfl, ⟨hgl, fun b hb => ⟨by show b < w.heap.size; omega, hM b, by omega⟩⟩, Nat.le_refl _, fun _ _ _ => rfl, fun i r e hi => ?_, fun i j r e r' e' b hi => ?_, fun i r e b hi => ?_, fun i e _ hi => ?_, rfl, fun i a ha => ?_⟩
    · rw [show (⟨argsE aa, Gin []⟩ : St).G i = Gin [] i from rfl, gin_nil] at hi; cases hi
    · rw [show (⟨argsE aa, Gin []⟩ : St).G i = Gin [] i from rfl, gin_nil] at hi; cases hi
    · rw [show (⟨argsE aa, Gin []⟩ : St).G i = Gin [] i from rfl, gin_nil] at hi; cases hi
    · rw [show (⟨argsE aa, Gin []⟩ : St).G i = Gin [] i from rfl, gin_nil] at hi
    · have ha' : aa[i]? = some a := ha
      obtain ⟨z, hz, hrz⟩ := hr i a ha'
      have hlt : i < vs.size := (Array.getElem?_eq_some_iff.1 hz).1
      refine ⟨hlt, ?_⟩
      rw [hok2]
      show a.rep w _ (Gin []) _ _
      rw [hG]
      have : vs.getD i undef = z := by rw [Array.getD_eq_getD_getElem?, hz]; rfl
      rw [this]
      exact hrz
  refine (hC.does aa [] _ _ _ h w vs (fun _ => undef) (fun b => b < w.heap.size) (fun b hb => ⟨hb, hM b⟩) sim hs).mono ?_
  rintro e w' ⟨v, β', rfl, hsim, hrep, _⟩
  exact ⟨v, _, _, _, rfl, hrep, hsim.os, hsim.tape, hsim.output, hsim.size, fun k hk => hsim.block k hk (hM k)⟩
end Go.Proofs.Ytgjnnlgeggamjaa
namespace Go.Proofs.Ytgjnnlgeggamjaa
set_option linter.unusedVariables false
set_option linter.unusedSimpArgs false
open Go.RowKit
abbrev Fl := Nat → Bool
def up1 (f : Fl) (i : Nat) : Fl := fun j => bif Nat.beq j i then true else f j
def upv (v : Nat → Value) (i : Nat) (x : Value) : Nat → Value := fun j => bif Nat.beq j i then x else v j
theorem up1_same (f : Fl) (i : Nat) : up1 f i i = true := by simp [up1, Nat.beq_refl]
theorem up1_ne (f : Fl) {i j : Nat} (h : j ≠ i) : up1 f i j = f j := by
  have : Nat.beq j i = false := by rw [Bool.eq_false_iff]; intro hb; exact h (Nat.eq_of_beq_eq_true hb)
  simp [up1, this]
theorem upv_same (v : Nat → Value) (i : Nat) (x : Value) : upv v i x i = x := by simp [upv, Nat.beq_refl]
theorem upv_ne (v : Nat → Value) {i j : Nat} (x : Value) (h : j ≠ i) : upv v i x j = v j := by
  have : Nat.beq j i = false := by rw [Bool.eq_false_iff]; intro hb; exact h (Nat.eq_of_beq_eq_true hb)
  simp [upv, this]
theorem up1_mono (f : Fl) (i j : Nat) (h : f j = true) : up1 f i j = true := by
  rcases Nat.decEq j i with h1 | h1
  · rw [up1_ne _ h1]; exact h
  · subst h1; exact up1_same _ _
def dsO (ops : Array Oper) (i : Nat) : Option Tmp := (ops[i]?).bind (·.dst)
structure OgS (ops : Array Oper) (N : Nat) (fx : List (Nat × Value)) (M : Fl → (Nat → Value) → World → Prop) (f : Fl) (a : Act) (w : World) : Prop where
  df : a.defers = []
  sz : a.tmps.size = N
  fx : ∀ p ∈ fx, a.tmps.getD p.1 undef = p.2
  cl : ∀ i o, ops[i]? = some o → f i = true → ∀ e ∈ o.after, Region.binds .any e = true → f e.on = true
  ex : ∃ v, (∀ i d, f i = true → dsO ops i = some d → a.tmps.getD d undef = v i) ∧ M f v w
def ogB (ops : Array Oper) (N : Nat) (ks : List Nat) : Bool :=
  (List.range ops.size).all fun i => match ops[i]? with
    | none => false
    | some o => o.guard.isNone && (o.after.all fun e => decide (e.on < i)) && match o.dst with
      | none => true
      | some d => decide (d < N) && !(ks.contains d) && (List.range i).all fun j => !(dsO ops j == some d)
section
variable {F : Fence} {n : Nat} {P : Program} {ops : Array Oper} {Q : Exit → Act → World → Prop} {N : Nat} {fx : List (Nat × Value)} {M : Fl → (Nat → Value) → World → Prop}
theorem ogB_at (h : ogB ops N (fx.map (·.1)) = true) {i : Nat} {o : Oper} (ho : ops[i]? = some o) : o.guard = none ∧ (∀ e ∈ o.after, e.on < i) ∧ ∀ d, o.dst = some d → d < N ∧ (∀ p ∈ fx, p.1 ≠ d) ∧ ∀ j, j < i → dsO ops j ≠ some d := by
  have hlt : i < ops.size := (Array.getElem?_eq_some_iff.1 ho).1
  have h1 := List.all_eq_true.1 h i (List.mem_range.2 hlt)
  rw [ho] at h1
  simp only [Bool.and_eq_true] at h1
  obtain ⟨⟨h2, h3⟩, h4⟩ := h1
  refine ⟨by simpa using h2, fun e he => ?_, fun d hd => ?_⟩
  · have := (Array.all_eq_true_iff_forall_mem.1 h3) e he
    simpa using this
  · rw [hd] at h4
    simp only [Bool.and_eq_true, decide_eq_true_eq, Bool.not_eq_true', List.all_eq_true, List.mem_range] at h4
    refine ⟨h4.1.1, fun p hp e => ?_, fun j hj e => ?_⟩
    · have : (fx.map (·.1)).contains d = true := by
        rw [List.contains_iff_mem]; exact List.mem_map.2 ⟨p, hp, e⟩
      rw [this] at h4; cases h4.1.2
    · have := h4.2 j hj
      rw [e] at this
      simp at this
theorem ready_done (hc : ogB ops N (fx.map (·.1)) = true) {listed : Array Bool} (hs : listed.size = ops.size) (hr : Region.ready .any ops listed = []) : ∀ i, i < ops.size → listed.getD i false = true := by
  intro i
  induction i using Nat.strongRecOn with
  | ind i ih =>
    intro hi
    cases hb : listed.getD i false with
    | true => rfl
    | false =>
      exfalso
      have ho : ops[i]? = some ops[i] := Array.getElem?_eq_getElem hi
      have hmem : i ∈ Region.ready .any ops listed := by
        refine mem_ready.2 ⟨?_, ops[i], ho, fun e he _ => ?_⟩
        · have : i < listed.size := by omega
          simp [Array.getD, this] at hb ⊢
          exact hb
        · have h1 := (ogB_at hc ho).2.1 e he
          exact ih e.on h1 (by omega)
      rw [hr] at hmem; cases hmem
def lft (l : Array Bool) : Nat := l.toList.countP (· == false)
theorem lft_set {l : Array Bool} {i : Nat} (h : l[i]? = some false) : lft (l.setIfInBounds i true) + 1 = lft l := by
  obtain ⟨l⟩ := l
  unfold lft
  simp only [List.setIfInBounds_toArray]
  have h' : l[i]? = some false := by simpa using h
  clear h
  induction l generalizing i with
  | nil => simp at h'
  | cons b l ih =>
    cases i with
    | zero =>
      simp at h'
      subst h'
      simp
    | succ i =>
      simp at h'
      rw [List.set_cons_succ, List.countP_cons, List.countP_cons, ← ih (by simpa using h')]
      omega
theorem og_any (hc : ogB ops N (fx.map (·.1)) = true)
    (hs : ∀ (f : Fl) (i : Nat) (o : Oper) (a : Act) (w : World) (v : Nat → Value), ops[i]? = some o → f i = false → (∀ e ∈ o.after, Region.binds .any e = true → f e.on = true) → (∀ i o, ops[i]? = some o → f i = true → ∀ e ∈ o.after, Region.binds .any e = true → f e.on = true) → a.defers = [] → (∀ p ∈ fx, a.eval (.tmp p.1) = p.2) → (∀ j d, f j = true → dsO ops j = some d → a.eval (.tmp d) = v j) → M f v w →
      o.wpIn F n P a w (fun a' w' => ∃ x, a' = a.put o.dst x ∧ M (up1 f i) (upv v i x) w') Q)
    (he : ∀ (f : Fl) (a : Act) (w : World) (v : Nat → Value), (∀ i, i < ops.size → f i = true) → a.defers = [] → a.tmps.size = N → (∀ p ∈ fx, a.eval (.tmp p.1) = p.2) → M f v w → Q .normal a w) :
    ∀ (fuel : Nat) (listed : Array Bool) (a : Act) (w : World), listed.size = ops.size → lft listed ≤ fuel → OgS ops N fx M (fun i => listed.getD i false) a w → wpAnyIn F n P .any ops Q fuel listed a w := by
  have hend : ∀ (listed : Array Bool) (a : Act) (w : World), listed.size = ops.size → Region.ready .any ops listed = [] → OgS ops N fx M (fun i => listed.getD i false) a w → Q .normal a w := fun listed a w hsz hr h => by
    obtain ⟨v, h1, h2⟩ := h.ex
    exact he _ a w v (ready_done hc hsz hr) h.df h.sz h.fx h2
  have hz : ∀ (listed : Array Bool) (i : Nat), i ∈ Region.ready .any ops listed → lft listed ≠ 0 := fun listed i hi h0 => by
    obtain ⟨h1, o, ho, h2⟩ := mem_ready.1 hi
    have : listed[i]? = some false := by
      rcases Nat.lt_or_ge i listed.size with h | h
      · simp [Array.getD, h] at h1 ⊢; exact h1
      · simp [Array.getD, Nat.not_lt.2 h] at h1
    have := lft_set this
    omega
  intro fuel
  induction fuel with
  | zero =>
    intro listed a w hsz hl h
    have hr : Region.ready .any ops listed = [] := by
      cases hq : Region.ready .any ops listed with
      | nil => rfl
      | cons i l => exact absurd (by omega) (hz listed i (by rw [hq]; exact List.mem_cons_self))
    exact ⟨hr, hend listed a w hsz hr h⟩
  | succ fuel ih =>
    intro listed a w hsz hl h
    refine ⟨fun hr => hend listed a w hsz hr h, fun i hi => ?_⟩
    obtain ⟨h1, o, ho, h2⟩ := mem_ready.1 hi
    have hlf : listed[i]? = some false := by
      rcases Nat.lt_or_ge i listed.size with h | h
      · simp [Array.getD, h] at h1 ⊢; exact h1
      · simp [Array.getD, Nat.not_lt.2 h] at h1
    have hlt : i < listed.size := (Array.getElem?_eq_some_iff.1 hlf).1
    have hfi : listed.getD i false = false := by rw [Array.getD_eq_getD_getElem?, hlf]; rfl
    have hup : (fun j => (listed.setIfInBounds i true).getD j false) = up1 (fun j => listed.getD j false) i := by
      funext j
      rcases Nat.decEq j i with hj | hj
      · rw [up1_ne _ hj, Array.getD_eq_getD_getElem?, Array.getD_eq_getD_getElem?, Array.getElem?_setIfInBounds_ne (Ne.symm hj)]
      · subst hj; rw [up1_same, Array.getD_eq_getD_getElem?, Array.getElem?_setIfInBounds_self_of_lt hlt]; rfl
    obtain ⟨b1, b2, b3⟩ := ogB_at hc ho
    obtain ⟨v, hv, hM⟩ := h.ex
    have hst := hs (fun j => listed.getD j false) i o a w v ho hfi h2 h.cl h.df h.fx hv hM
    unfold wpOpIn
    rw [ho]
    have hw : Region.wanted o (yielded ops a.tmps) = true := by unfold Region.wanted; rw [b1]
    simp only [hw, if_true]
    refine Oper.wpIn_mono (fun a' w' hh => ?_) hst
    obtain ⟨x, rfl, hM'⟩ := hh
    refine ih _ _ _ (by rw [Array.size_setIfInBounds]; exact hsz) (by have := lft_set hlf; omega) ?_
    rw [hup]
    have hget : ∀ d, o.dst ≠ some d → (a.put o.dst x).tmps.getD d undef = a.tmps.getD d undef := by
      intro d hd
      cases hq : o.dst with
      | none => rfl
      | some d' =>
        have hne : d' ≠ d := fun e => hd (by rw [hq, e])
        show (a.tmps.setIfInBounds d' x).getD d undef = _
        rw [Array.getD_eq_getD_getElem?, Array.getD_eq_getD_getElem?, Array.getElem?_setIfInBounds_ne hne]
    refine ⟨?_, ?_, ?_, ?_, ?_⟩
    · cases o.dst <;> exact h.df
    · cases o.dst with
      | none => exact h.sz
      | some d => show (a.tmps.setIfInBounds d x).size = N; rw [Array.size_setIfInBounds]; exact h.sz
    · intro p hp
      rw [hget _ (fun e => (b3 _ e).2.1 p hp rfl)]
      exact h.fx p hp
    · intro j oj hoj hj e hee hb
      rcases Nat.decEq j i with hji | hji
      · rw [up1_ne _ hji] at hj
        exact up1_mono _ _ _ (h.cl j oj hoj hj e hee hb)
      · subst hji
        rw [ho] at hoj; cases hoj
        exact up1_mono _ _ _ (h2 e hee hb)
    · refine ⟨upv v i x, fun j d hj hd => ?_, hM'⟩
      rcases Nat.decEq j i with hji | hji
      · rw [up1_ne _ hji] at hj
        rw [upv_ne _ _ hji, hget, hv j d hj hd]
        intro e
        obtain ⟨c1, c2, c3⟩ := b3 d e
        rcases Nat.lt_or_ge j i with h5 | h5
        · exact c3 j h5 hd
        · have hji2 : i < j := by omega
          have hoj : ∃ oj, ops[j]? = some oj ∧ oj.dst = some d := by
            unfold dsO at hd
            cases hq : ops[j]? with
            | none => rw [hq] at hd; cases hd
            | some oj => rw [hq] at hd; exact ⟨oj, rfl, hd⟩
          obtain ⟨oj, hoj, hdj⟩ := hoj
          exact ((ogB_at hc hoj).2.2 d hdj).2.2 i hji2 (by unfold dsO; rw [ho]; exact e)
      · subst hji
        have hd' : o.dst = some d := by unfold dsO at hd; rw [ho] at hd; exact hd
        rw [upv_same, hd']
        show (a.tmps.setIfInBounds d x).getD d undef = x
        have hlt2 : d < a.tmps.size := by rw [h.sz]; exact (b3 d hd').1
        rw [Array.getD_eq_getD_getElem?, Array.getElem?_setIfInBounds_self_of_lt hlt2]; rfl
theorem og_region {id : Nat} {a : Act} {w : World} (hm : P.follows .mixedOrders = true) (hc : ogB ops N (fx.map (·.1)) = true) (hdf : a.defers = []) (hsz : a.tmps.size = N) (hfx : ∀ p ∈ fx, a.eval (.tmp p.1) = p.2) (h0 : M (fun _ => false) (fun _ => undef) w.drew)
    (hs : ∀ (f : Fl) (i : Nat) (o : Oper) (a : Act) (w : World) (v : Nat → Value), ops[i]? = some o → f i = false → (∀ e ∈ o.after, Region.binds .any e = true → f e.on = true) → (∀ i o, ops[i]? = some o → f i = true → ∀ e ∈ o.after, Region.binds .any e = true → f e.on = true) → a.defers = [] → (∀ p ∈ fx, a.eval (.tmp p.1) = p.2) → (∀ j d, f j = true → dsO ops j = some d → a.eval (.tmp d) = v j) → M f v w →
      o.wpIn F n P a w (fun a' w' => ∃ x, a' = a.put o.dst x ∧ M (up1 f i) (upv v i x) w') Q)
    (he : ∀ (f : Fl) (a : Act) (w : World) (v : Nat → Value), (∀ i, i < ops.size → f i = true) → a.defers = [] → a.tmps.size = N → (∀ p ∈ fx, a.eval (.tmp p.1) = p.2) → M f v w → Q .normal a w) :
    (Code.region id ops true).wpIn F n P Q a w := by
  refine wpIn_region_any hm ?_
  refine og_any (fx := fx) (M := M) hc hs he ops.size _ a w.drew (by simp) ?_ ?_
  · unfold lft
    exact Nat.le_trans List.countP_le_length (by simp)
  · have hf : (fun i => (Array.replicate ops.size false).getD i false) = (fun _ : Nat => false) := by
      funext i
      rw [Array.getD_eq_getD_getElem?]
      rcases Nat.lt_or_ge i ops.size with h | h
      · simp [h]
      · simp [h]
    rw [hf]
    exact ⟨hdf, hsz, hfx, (by intro i o _ h; cases h), ⟨fun _ => undef, (by intro i d h; cases h), h0⟩⟩
theorem og_val {o : Oper} {a : Act} {w w' : World} {x : Value} {K : Act → World → Prop} (hF : ∀ f, F.fn f) (hnd : ∀ c, o.op ≠ .defer c) (hr : (execOp a.eval o).run P w = .ok (.value x) w') (hK : K (a.put o.dst x) w') : o.wpIn F n P a w K Q := by
  refine ⟨fun f _ => hF f, ?_⟩
  rw [Oper.semAt_eq _ _ _ hnd, hr]
  exact hK
theorem og_skip {o : Oper} {a : Act} {w w' : World} {K : Act → World → Prop} (hF : ∀ f, F.fn f) (hnd : ∀ c, o.op ≠ .defer c) (hr : (execOp a.eval o).run P w = .ok .skip w') (hK : K (a.put o.dst undef) w') : o.wpIn F n P a w K Q := by
  refine ⟨fun f _ => hF f, ?_⟩
  rw [Oper.semAt_eq _ _ _ hnd, hr]
  exact hK
theorem og_call {o : Oper} {a : Act} {w : World} {fn : FuncId} {args : Array Value} {K : Act → World → Prop} (hF : ∀ f, F.fn f) (hd : F.depth = none) (hnd : ∀ c, o.op ≠ .defer c) (hr : (execOp a.eval o).run P w = .ok (.enter fn args) w)
    (hK : CallsIn F (n - 1) P fn args w fun e w' => ∃ x, e = .returned x ∧ K (a.put o.dst x) w') : o.wpIn F n P a w K Q := by
  refine ⟨fun f _ => hF f, ?_⟩
  rw [Oper.semAt_eq _ _ _ hnd, hr]
  refine ⟨fun h => (by rw [hd] at h; cases h), hK.mono ?_⟩
  rintro e w' ⟨x, rfl, h⟩
  exact h
end
theorem wpOpIn_mono {F : Fence} {n : Nat} {P : Program} {ops : Array Oper} {Q : Exit → Act → World → Prop} {i : Nat} {K K' : Act → World → Prop} {a : Act} {w : World} (h : ∀ a w, K a w → K' a w) (hk : wpOpIn F n P ops Q i K a w) : wpOpIn F n P ops Q i K' a w := by
  unfold wpOpIn at hk ⊢
  split
  · rename_i he; rw [he] at hk; exact h _ _ hk
  · rename_i o he
    rw [he] at hk
    dsimp only at hk
    split
    · rename_i hw; rw [if_pos hw] at hk; exact Oper.wpIn_mono h hk
    · rename_i hw; rw [if_neg hw] at hk; exact ⟨hk.1, h _ _ hk.2⟩
def ogC (ops : Array Oper) (N : Nat) (ks : List Nat) : Bool :=
  (List.range ops.size).all fun i => match ops[i]? with
    | none => false
    | some o => (o.after.all fun e => decide (e.on < i)) && match o.dst with
      | none => true
      | some d => decide (d < N) && !(ks.contains d) && (List.range i).all fun j => !(dsO ops j == some d)
section
variable {F : Fence} {n : Nat} {P : Program} {ops : Array Oper} {Q : Exit → Act → World → Prop} {N : Nat} {fx : List (Nat × Value)} {M : Fl → (Nat → Value) → World → Prop}
theorem ogC_at (h : ogC ops N (fx.map (·.1)) = true) {i : Nat} {o : Oper} (ho : ops[i]? = some o) : (∀ e ∈ o.after, e.on < i) ∧ ∀ d, o.dst = some d → d < N ∧ (∀ p ∈ fx, p.1 ≠ d) ∧ ∀ j, j < i → dsO ops j ≠ some d := by
  have hlt : i < ops.size := (Array.getElem?_eq_some_iff.1 ho).1
  have h1 := List.all_eq_true.1 h i (List.mem_range.2 hlt)
  rw [ho] at h1
  simp only [Bool.and_eq_true] at h1
  obtain ⟨h3, h4⟩ := h1
  refine ⟨fun e he => ?_, fun d hd => ?_⟩
  · have := (Array.all_eq_true_iff_forall_mem.1 h3) e he
    simpa using this
  · rw [hd] at h4
    simp only [Bool.and_eq_true, decide_eq_true_eq, Bool.not_eq_true', List.all_eq_true, List.mem_range] at h4
    refine ⟨h4.1.1, fun p hp e => ?_, fun j hj e => ?_⟩
    · have : (fx.map (·.1)).contains d = true := by
        rw [List.contains_iff_mem]; exact List.mem_map.2 ⟨p, hp, e⟩
      rw [this] at h4; cases h4.1.2
    · have := h4.2 j hj
      rw [e] at this
      simp at this
theorem ready_doneG (hc : ogC ops N (fx.map (·.1)) = true) {listed : Array Bool} (hs : listed.size = ops.size) (hr : Region.ready .any ops listed = []) : ∀ i, i < ops.size → listed.getD i false = true := by
  intro i
  induction i using Nat.strongRecOn with
  | ind i ih =>
    intro hi
    cases hb : listed.getD i false with
    | true => rfl
    | false =>
      exfalso
      have ho : ops[i]? = some ops[i] := Array.getElem?_eq_getElem hi
      have hmem : i ∈ Region.ready .any ops listed := by
        refine mem_ready.2 ⟨?_, ops[i], ho, fun e he _ => ?_⟩
        · have : i < listed.size := by omega
          simp [Array.getD, this] at hb ⊢
          exact hb
        · have h1 := (ogC_at hc ho).1 e he
          exact ih e.on h1 (by omega)
      rw [hr] at hmem; cases hmem
theorem og_anyG (hc : ogC ops N (fx.map (·.1)) = true)
    (hs : ∀ (f : Fl) (i : Nat) (o : Oper) (a : Act) (w : World) (v : Nat → Value), ops[i]? = some o → f i = false → (∀ e ∈ o.after, Region.binds .any e = true → f e.on = true) → (∀ i o, ops[i]? = some o → f i = true → ∀ e ∈ o.after, Region.binds .any e = true → f e.on = true) → a.defers = [] → (∀ p ∈ fx, a.eval (.tmp p.1) = p.2) → (∀ j d, f j = true → dsO ops j = some d → a.eval (.tmp d) = v j) → M f v w →
      wpOpIn F n P ops Q i (fun a' w' => ∃ x, a' = a.put o.dst x ∧ M (up1 f i) (upv v i x) w') a w)
    (he : ∀ (f : Fl) (a : Act) (w : World) (v : Nat → Value), (∀ i, i < ops.size → f i = true) → a.defers = [] → a.tmps.size = N → (∀ p ∈ fx, a.eval (.tmp p.1) = p.2) → (∀ i d, f i = true → dsO ops i = some d → a.eval (.tmp d) = v i) → M f v w → Q .normal a w) :
    ∀ (fuel : Nat) (listed : Array Bool) (a : Act) (w : World), listed.size = ops.size → lft listed ≤ fuel → OgS ops N fx M (fun i => listed.getD i false) a w → wpAnyIn F n P .any ops Q fuel listed a w := by
  have hend : ∀ (listed : Array Bool) (a : Act) (w : World), listed.size = ops.size → Region.ready .any ops listed = [] → OgS ops N fx M (fun i => listed.getD i false) a w → Q .normal a w := fun listed a w hsz hr h => by
    obtain ⟨v, h1, h2⟩ := h.ex
    exact he _ a w v (ready_doneG hc hsz hr) h.df h.sz h.fx h1 h2
  have hz : ∀ (listed : Array Bool) (i : Nat), i ∈ Region.ready .any ops listed → lft listed ≠ 0 := fun listed i hi h0 => by
    obtain ⟨h1, o, ho, h2⟩ := mem_ready.1 hi
    have : listed[i]? = some false := by
      rcases Nat.lt_or_ge i listed.size with h | h
      · simp [Array.getD, h] at h1 ⊢; exact h1
      · simp [Array.getD, Nat.not_lt.2 h] at h1
    have := lft_set this
    omega
  intro fuel
  induction fuel with
  | zero =>
    intro listed a w hsz hl h
    have hr : Region.ready .any ops listed = [] := by
      cases hq : Region.ready .any ops listed with
      | nil => rfl
      | cons i l => exact absurd (by omega) (hz listed i (by rw [hq]; exact List.mem_cons_self))
    exact ⟨hr, hend listed a w hsz hr h⟩
  | succ fuel ih =>
    intro listed a w hsz hl h
    refine ⟨fun hr => hend listed a w hsz hr h, fun i hi => ?_⟩
    obtain ⟨h1, o, ho, h2⟩ := mem_ready.1 hi
    have hlf : listed[i]? = some false := by
      rcases Nat.lt_or_ge i listed.size with h | h
      · simp [Array.getD, h] at h1 ⊢; exact h1
      · simp [Array.getD, Nat.not_lt.2 h] at h1
    have hlt : i < listed.size := (Array.getElem?_eq_some_iff.1 hlf).1
    have hfi : listed.getD i false = false := by rw [Array.getD_eq_getD_getElem?, hlf]; rfl
    have hup : (fun j => (listed.setIfInBounds i true).getD j false) = up1 (fun j => listed.getD j false) i := by
      funext j
      rcases Nat.decEq j i with hj | hj
      · rw [up1_ne _ hj, Array.getD_eq_getD_getElem?, Array.getD_eq_getD_getElem?, Array.getElem?_setIfInBounds_ne (Ne.symm hj)]
      · subst hj; rw [up1_same, Array.getD_eq_getD_getElem?, Array.getElem?_setIfInBounds_self_of_lt hlt]; rfl
    obtain ⟨b2, b3⟩ := ogC_at hc ho
    obtain ⟨v, hv, hM⟩ := h.ex
    have hst := hs (fun j => listed.getD j false) i o a w v ho hfi h2 h.cl h.df h.fx hv hM
    refine wpOpIn_mono (fun a' w' hh => ?_) hst
    obtain ⟨x, rfl, hM'⟩ := hh
    refine ih _ _ _ (by rw [Array.size_setIfInBounds]; exact hsz) (by have := lft_set hlf; omega) ?_
    rw [hup]
    have hget : ∀ d, o.dst ≠ some d → (a.put o.dst x).tmps.getD d undef = a.tmps.getD d undef := by
      intro d hd
      cases hq : o.dst with
      | none => rfl
      | some d' =>
        have hne : d' ≠ d := fun e => hd (by rw [hq, e])
        show (a.tmps.setIfInBounds d' x).getD d undef = _
        rw [Array.getD_eq_getD_getElem?, Array.getD_eq_getD_getElem?, Array.getElem?_setIfInBounds_ne hne]
    refine ⟨?_, ?_, ?_, ?_, ?_⟩
    · cases o.dst <;> exact h.df
    · cases o.dst with
      | none => exact h.sz
      | some d => show (a.tmps.setIfInBounds d x).size = N; rw [Array.size_setIfInBounds]; exact h.sz
    · intro p hp
      rw [hget _ (fun e => (b3 _ e).2.1 p hp rfl)]
      exact h.fx p hp
    · intro j oj hoj hj e hee hb
      rcases Nat.decEq j i with hji | hji
      · rw [up1_ne _ hji] at hj
        exact up1_mono _ _ _ (h.cl j oj hoj hj e hee hb)
      · subst hji
        rw [ho] at hoj; cases hoj
        exact up1_mono _ _ _ (h2 e hee hb)
    · refine ⟨upv v i x, fun j d hj hd => ?_, hM'⟩
      rcases Nat.decEq j i with hji | hji
      · rw [up1_ne _ hji] at hj
        rw [upv_ne _ _ hji, hget, hv j d hj hd]
        intro e
        obtain ⟨c1, c2, c3⟩ := b3 d e
        rcases Nat.lt_or_ge j i with h5 | h5
        · exact c3 j h5 hd
        · have hji2 : i < j := by omega
          have hoj : ∃ oj, ops[j]? = some oj ∧ oj.dst = some d := by
            unfold dsO at hd
            cases hq : ops[j]? with
            | none => rw [hq] at hd; cases hd
            | some oj => rw [hq] at hd; exact ⟨oj, rfl, hd⟩
          obtain ⟨oj, hoj, hdj⟩ := hoj
          exact ((ogC_at hc hoj).2 d hdj).2.2 i hji2 (by unfold dsO; rw [ho]; exact e)
      · subst hji
        have hd' : o.dst = some d := by unfold dsO at hd; rw [ho] at hd; exact hd
        rw [upv_same, hd']
        show (a.tmps.setIfInBounds d x).getD d undef = x
        have hlt2 : d < a.tmps.size := by rw [h.sz]; exact (b3 d hd').1
        rw [Array.getD_eq_getD_getElem?, Array.getElem?_setIfInBounds_self_of_lt hlt2]; rfl
theorem og_regionG {id : Nat} {a : Act} {w : World} (hm : P.follows .mixedOrders = true) (hc : ogC ops N (fx.map (·.1)) = true) (hdf : a.defers = []) (hsz : a.tmps.size = N) (hfx : ∀ p ∈ fx, a.eval (.tmp p.1) = p.2) (h0 : M (fun _ => false) (fun _ => undef) w.drew)
    (hs : ∀ (f : Fl) (i : Nat) (o : Oper) (a : Act) (w : World) (v : Nat → Value), ops[i]? = some o → f i = false → (∀ e ∈ o.after, Region.binds .any e = true → f e.on = true) → (∀ i o, ops[i]? = some o → f i = true → ∀ e ∈ o.after, Region.binds .any e = true → f e.on = true) → a.defers = [] → (∀ p ∈ fx, a.eval (.tmp p.1) = p.2) → (∀ j d, f j = true → dsO ops j = some d → a.eval (.tmp d) = v j) → M f v w →
      wpOpIn F n P ops Q i (fun a' w' => ∃ x, a' = a.put o.dst x ∧ M (up1 f i) (upv v i x) w') a w)
    (he : ∀ (f : Fl) (a : Act) (w : World) (v : Nat → Value), (∀ i, i < ops.size → f i = true) → a.defers = [] → a.tmps.size = N → (∀ p ∈ fx, a.eval (.tmp p.1) = p.2) → (∀ i d, f i = true → dsO ops i = some d → a.eval (.tmp d) = v i) → M f v w → Q .normal a w) :
    (Code.region id ops true).wpIn F n P Q a w := by
  refine wpIn_region_any hm ?_
  refine og_anyG (fx := fx) (M := M) hc hs he ops.size _ a w.drew (by simp) ?_ ?_
  · unfold lft
    exact Nat.le_trans List.countP_le_length (by simp)
  · have hf : (fun i => (Array.replicate ops.size false).getD i false) = (fun _ : Nat => false) := by
      funext i
      rw [Array.getD_eq_getD_getElem?]
      rcases Nat.lt_or_ge i ops.size with h | h
      · simp [h]
      · simp [h]
    rw [hf]
    exact ⟨hdf, hsz, hfx, (by intro i o _ h; cases h), ⟨fun _ => undef, (by intro i d h; cases h), h0⟩⟩
theorem og_run {i : Nat} {o : Oper} {K : Act → World → Prop} {a : Act} {w : World} (ho : ops[i]? = some o) (hg : o.guard = none) (h : o.wpIn F n P a w K Q) : wpOpIn F n P ops Q i K a w := by
  unfold wpOpIn
  rw [ho]
  have hw : Region.wanted o (yielded ops a.tmps) = true := by unfold Region.wanted; rw [hg]
  simp only [hw, if_true]
  exact h
theorem yielded_at {j d : Nat} {a : Act} {b : Bool} (hd : dsO ops j = some d) (hb : a.tmps.getD d undef = .bool b) : yielded ops a.tmps j = some b := by
  unfold yielded
  unfold dsO at hd
  rw [hd]
  rw [Array.getD_eq_getD_getElem?] at hb
  cases hq : a.tmps[d]? with
  | none => rw [hq] at hb; cases hb
  | some y => rw [hq] at hb; have : y = .bool b := hb; subst this; simp [hq]
theorem og_grd {i j d : Nat} {b : Bool} {o : Oper} {K : Act → World → Prop} {a : Act} {w : World} (ho : ops[i]? = some o) (hg : o.guard = some (j, b)) (hd : dsO ops j = some d) (hb : a.tmps.getD d undef = .bool b) (h : o.wpIn F n P a w K Q) : wpOpIn F n P ops Q i K a w := by
  unfold wpOpIn
  rw [ho]
  have hw : Region.wanted o (yielded ops a.tmps) = true := by unfold Region.wanted; rw [hg]; simp [yielded_at hd hb]
  simp only [hw, if_true]
  exact h
theorem og_off {i j d : Nat} {b b' : Bool} {o : Oper} {K : Act → World → Prop} {a : Act} {w : World} (hF : ∀ f, F.fn f) (ho : ops[i]? = some o) (hg : o.guard = some (j, b)) (hd : dsO ops j = some d) (hb : a.tmps.getD d undef = .bool b') (hne : b' ≠ b) (h : K (a.put o.dst undef) w) : wpOpIn F n P ops Q i K a w := by
  unfold wpOpIn
  rw [ho]
  have hw : Region.wanted o (yielded ops a.tmps) = false := by unfold Region.wanted; rw [hg]; simp [yielded_at hd hb, hne]
  simp only [hw]
  exact ⟨fun f _ => hF f, h⟩
end
end Go.Proofs.Ytgjnnlgeggamjaa
