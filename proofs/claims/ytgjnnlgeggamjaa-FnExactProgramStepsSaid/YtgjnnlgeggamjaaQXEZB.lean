/- TRU: laid into one text. -/
import Derived.Test.YtgjnnlgeggamjaaQXEF
import Derived.Test.YtgjnnlgeggamjaaQXET
import Derived.Test.YtgjnnlgeggamjaaQXEW
import Derived.Test.YtgjnnlgeggamjaaQXEY

namespace Go.Proofs.Ytgjnnlgeggamjaa
set_option linter.unusedVariables false
set_option linter.unusedSimpArgs false
open Go.RowKit Go.Shelf
attribute [local go_sem] Oper.semAt_some
theorem lvl_rep (w : World) (g : Gt) : Rep0 w (lV g.k g.a g.b g.c) (lvl g) := by
  refine ⟨_, rfl, rfl, ?_⟩
  intro j c hj
  rcases j with _ | _ | _ | _ | j
  · cases hj; exact ⟨_, rfl, rfl, rfl⟩
  · cases hj; exact ⟨_, rfl, rfl, rfl⟩
  · cases hj; exact ⟨_, rfl, rfl, rfl⟩
  · cases hj; exact ⟨_, rfl, rfl, rfl⟩
  · simp at hj
theorem rep_lvl {w : World} {β : Nat → Value} {G : Blk} {ok : Nat → Prop} {g : Gt} {v : Value} (h : (lV g.k g.a g.b g.c).rep w β G ok v) : v = lvl g := by
  obtain ⟨vs, rfl, hsz, hc⟩ := h
  obtain ⟨vs⟩ := vs
  have hsz : vs.length = 4 := hsz
  match vs, hsz with
  | [y0, y1, y2, y3], _ =>
    obtain ⟨z0, e0, r0, _⟩ := hc 0 _ rfl
    obtain ⟨z1, e1, r1, _⟩ := hc 1 _ rfl
    obtain ⟨z2, e2, r2, _⟩ := hc 2 _ rfl
    obtain ⟨z3, e3, r3, _⟩ := hc 3 _ rfl
    cases e0; cases e1; cases e2; cases e3
    subst r0; subst r1; subst r2; subst r3
    rfl
theorem lb_calls (l : Gt) (hl : lkG l = true) (w : World) : Calls Try.prog 60 #[lvl l] w fun e w' => e = .returned (lvl (lb l)) ∧ Below w.heap.size w w' := by
  refine (calls_of_kon (k_lbI l hl) rfl ?_ trivial (Nat.zero_le _)).mono ?_
  · intro j a hj
    rcases j with _ | j
    · cases hj; exact ⟨_, rfl, lvl_rep w l⟩
    · simp at hj
  · rintro e w' ⟨v, β, G, ok, rfl, hr, hb⟩
    rw [rep_lvl hr]
    exact ⟨rfl, hb⟩
theorem own_slice {w : World} {B e sz n : Nat} {v : Value} {xs : List Value} (h : w.ownsRow B e sz v n xs) : ∃ A n c, v = .slice A n c := by
  rcases h.2 with ⟨rfl, _⟩ | ⟨g, cap, cu, rfl, _⟩
  · exact ⟨_, _, _, rfl⟩
  · exact ⟨_, _, _, rfl⟩
theorem len_snoc (l : List Gt) (g : Gt) : l.length + 1 = (l ++ [g]).length := by simp
abbrev gE7 : Gt := ⟨7, 0, 0, 0⟩
theorem nbq (a b : Nat) : Nat.beq a b = decide (a = b) := by
  cases h : Nat.beq a b with
  | true => have := Nat.eq_of_beq_eq_true h; simp [this]
  | false => have := Nat.ne_of_beq_eq_false h; simp [this]
theorem own_not {w : World} {B n Bx : Nat} {v : Value} {xs : List Value} {cs : Array Value} {fz : Nat × Nat} (h : w.ownsRow B 47 4 v n xs) (hx : w.heap[Bx]? = some (.cells cs 83 fz)) : v.ownBlock ≠ some Bx := by
  intro e
  rcases h.2 with ⟨rfl, _⟩ | ⟨g, cap, cu, rfl, _, hh, _⟩
  · cases e
  · cases e; rw [hh] at hx; cases hx
theorem add0 (g j : Nat) : (⟨g, 0, none⟩ : Addr).add j = ⟨g, j, none⟩ := by unfold Addr.add; split <;> simp_all
def BI (w : World) (Bs B : Nat) (pv ov : Value) (L : List Gt) (W : World) : Prop :=
  (∃ v, Boxed W w.heap.size 24 v ∧ W.ownsRow B 47 4 v L.length (cV L) ∧ (v.ownBlock = ov.ownBlock ∨ ∃ g, v.ownBlock = some g ∧ w.heap.size ≤ g)) ∧ Boxed W Bs 51 pv ∧
  (W.os = w.os ∧ W.tape = w.tape ∧ W.output = w.output ∧ w.heap.size ≤ W.heap.size ∧ ∀ k, k < w.heap.size → ov.ownBlock ≠ some k → W.heap[k]? = w.heap[k]?)
theorem cells_kept {X Y : World} {row : Option Nat} {B : Nat} {cs : Array Value} {t : TypeId} {fz : Nat × Nat} (h : X.heap[B]? = some (.cells cs t fz)) (hg : X.grownBy Y row) (hr : ∀ r, row = some r → ∃ o : Obj, X.heap[r]? = some o ∧ o.isCells = false) : Y.heap[B]? = some (.cells cs t fz) :=
  (hg.block B (Array.getElem?_eq_some_iff.1 h).1 (fun e => by obtain ⟨o, h1, h2⟩ := hr B e.symm; rw [h] at h1; cases h1; cases h2)).trans h
theorem own_kept {X Y : World} {row : Option Nat} {B e sz n : Nat} {v : Value} {xs : List Value} (h : X.ownsRow B e sz v n xs) (hg : X.grownBy Y row) (hr : ∀ r, row = some r → ∃ o : Obj, X.heap[r]? = some o ∧ o.isCells = false) : Y.ownsRow B e sz v n xs := by
  refine ⟨h.1, ?_⟩
  rcases h.2 with h2 | ⟨g, cap, cu, rfl, h1, h2, h3⟩
  · exact .inl h2
  · exact .inr ⟨g, cap, cu, rfl, h1, cells_kept h2 hg hr, h3⟩
theorem BI.own {β : Type} {w : World} {Bs B B' : Nat} {pv ov : Value} (f : β → List Gt) (hB : w.heap.size ≤ B') : OwnFrom B' (fun s W => BI w Bs B pv ov (f s) W) := by
  rintro s X Y row ⟨⟨v, h1, h2, h3⟩, h4, h5, h6, h7, h8, h9⟩ hg hr
  have hr2 := fun r e => (hr r e).2
  refine ⟨⟨v, cells_kept h1 hg hr2, own_kept h2 hg hr2, h3⟩, cells_kept h4 hg hr2, hg.os.trans h5, hg.tape.trans h6, hg.output.trans h7, Nat.le_trans h8 hg.size, fun k hk ho => (hg.block k (by omega) (fun e => ?_)).trans (h9 k hk ho)⟩
  have := (hr k e.symm).1
  omega
theorem BI.region {w W w' : World} {Bs B Bx : Nat} {pv ov v0 : Value} {L L' : List Gt} {D : Nat → Prop} {cst : List (Nat × Value)} {bs : List (Nat × Nat × List Value)} {rows : List (Nat × List Gt)} {st : Nat} {f : Fl} {v : Nat → Value} {cs : Array Value} {fz : Nat × Nat} (B0 : Nat)
    (hBI : BI w Bs B pv ov L W) (h2 : W.ownsRow B 47 4 v0 L.length (cV L)) (h3 : v0.ownBlock = ov.ownBlock ∨ ∃ g, v0.ownBlock = some g ∧ w.heap.size ≤ g) (hBs : w.heap.size < Bs) (hD : ∀ b, D b → b < w.heap.size ∧ ov.ownBlock ≠ some b)
    (hx : W.heap[Bx]? = some (.cells cs 83 fz)) (hBx : w.heap.size < Bx)
    (hM : MR 47 24 cst bs rows st W w.heap.size B v0 L f v w') (hf : f st = true) (hl : curl rows f L = L') :
    BI w Bs B pv ov L' w' ∧ KeepsFrom B0 W w' ∧ KD D Bs W w' ∧ w'.heap[Bx]? = some (.cells cs 83 fz) := by
  obtain ⟨⟨vv, hbx, _⟩, h4, h5, h6, h7, h8, h9⟩ := hBI
  have hno : ∀ k, k < w.heap.size → ov.ownBlock ≠ some k → v0.ownBlock ≠ some k := fun k hk ho e => by
    rcases h3 with h | ⟨g, h, hg⟩
    · exact ho (h ▸ e)
    · rw [h] at e; cases e; omega
  have hkeep : ∀ k o, W.heap[k]? = some o → (∀ cc fzz, o ≠ .cells cc 47 fzz) → k ≠ w.heap.size → w'.heap[k]? = some o := fun k o ho hne hk => by
    refine (hM.l.block k (Array.getElem?_eq_some_iff.1 ho).1 hk (fun e => ?_)).trans ho
    rcases h2.2 with ⟨rfl, _⟩ | ⟨g, cap, cu, rfl, _, hh, _⟩
    · cases e
    · cases e; rw [hh] at ho; cases ho; exact hne _ _ rfl
  have hls := hM.l.size
  have hBOc : ∀ o, W.heap[w.heap.size]? = some o → ∃ cc tt fzz, w'.heap[w.heap.size]? = some (.cells cc tt fzz) := fun o _ => ⟨_, _, _, hM.x⟩
  have hxx := hM.x
  rw [hf] at hxx
  refine ⟨⟨⟨_, hxx, ?_, ?_⟩, hkeep Bs _ h4 (fun _ _ e => by cases e) (by omega), hM.l.os.trans h5, hM.l.tape.trans h6, hM.l.output.trans h7, by omega, fun k hk ho => (hM.l.block k (by omega) (by omega) (hno k hk ho)).trans (h9 k hk ho)⟩, ⟨hls, fun k o _ ho hc => ?_⟩, ⟨fun b hb => ?_, fun u hu => hkeep Bs _ hu (fun _ _ e => by cases e) (by omega)⟩, hkeep Bx _ hx (fun _ _ e => by cases e) (by omega)⟩
  · rw [← hl]; exact hM.r
  · rcases hM.k with h | ⟨g, h, hg⟩
    · rw [show (bif true then cur rows f v v0 else v0) = cur rows f v v0 from rfl, h]; exact h3
    · exact .inr ⟨g, h, by omega⟩
  · refine hkeep k o ho (fun _ _ e => by rw [e] at hc; cases hc) (fun e => ?_)
    subst e
    rw [show W.heap[w.heap.size]? = _ from hbx] at ho
    cases ho; cases hc
  · obtain ⟨q1, q2⟩ := hD b hb
    exact hM.l.block b (by omega) (by omega) (hno b q1 q2)
def BOK (t : PS) : Prop := ∀ (w : World) (D : Nat → Prop) (pv ov : Value) (O : List Gt) (B : Nat), TV w D t pv → (∀ b, D b → b < w.heap.size ∧ ov.ownBlock ≠ some b) → w.ownsRow B 47 4 ov O.length (cV O) → B ≤ w.heap.size → (fl t).length ≤ 1000 → O.length ≤ 2000000 * (1001 - (fl t).length) → wf t → lkA t →
  Calls Try.prog 38 #[pv, ov] w fun e w' => ∃ v, e = .returned v ∧ w'.ownsRow B 47 4 v (O ++ fl (bk t)).length (cV (O ++ fl (bk t))) ∧ w.grownBy w' ov.ownBlock ∧ (v.ownBlock = ov.ownBlock ∨ ∃ g, v.ownBlock = some g ∧ w.heap.size ≤ g)
theorem infoLn : (Try.prog.info? 47).map (fun i => (i.zero, i.size, i.bytes)) = some (some (.agg #[.int .i64 0, .int .i64 0, .int .i64 0, .int .i64 0]), 4, 32) := by kernel_rfl
set_option maxRecDepth 100000 in
set_option maxHeartbeats 8000000 in
theorem back_in (F : Fence) (hro : F.round = none) (hdp : F.depth = none) (hfn : ∀ f, F.fn f) (hwd : ∀ {f : FuncId} {args : Array Value} {w : World} {Q : Ending → World → Prop} (m : Nat), Calls Try.prog f args w Q → CallsIn F m Try.prog f args w Q) (n : Nat) (hn : 5 ≤ n) (t : PS) (IH : ∀ p, (fl p).length < (fl t).length → BOK p)
    (w : World) (D : Nat → Prop) (pv ov : Value) (O : List Gt) (B : Nat) (hT : TV w D t pv) (hD : ∀ b, D b → b < w.heap.size ∧ ov.ownBlock ≠ some b) (hO : w.ownsRow B 47 4 ov O.length (cV O)) (hB : B ≤ w.heap.size) (hN : (fl t).length ≤ 1000) (hNO : O.length ≤ 2000000 * (1001 - (fl t).length)) (hwf : wf t) (hlk : lkA t) :
    CallsIn F n Try.prog 38 #[pv, ov] w fun e w' => ∃ v, e = .returned v ∧ w'.ownsRow B 47 4 v (O ++ fl (bk t)).length (cV (O ++ fl (bk t))) ∧ w.grownBy w' ov.ownBlock ∧ (v.ownBlock = ov.ownBlock ∨ ∃ g, v.ownBlock = some g ∧ w.heap.size ≤ g) := by
  have h1 : 1 ≤ n := by omega
  obtain ⟨A, c, ps, rfl, hrc, hcs⟩ := id hT
  have hpl := pl_fl t
  obtain ⟨A2, c2, rfl⟩ : ∃ A2 c2, ov = .slice A2 O.length c2 := by
    rcases hO.2 with ⟨rfl, h0⟩ | ⟨g, cap, cu, rfl, _⟩
    · exact ⟨none, 0, by rw [h0]⟩
    · exact ⟨_, _, rfl⟩
  obtain ⟨i0, hi, hz0, hz1, hz2⟩ := info_parts infoLn
  have h59 := hfn 59
  have h72 := hfn 72
  have h60 := hfn 60
  have h38 := hfn 38
  refine callsIn_of_wp_marks Try.func38 rfl (hfn _) ?_ hro
  simp only [Try.ntmps38, List.size_toArray, List.length_cons, List.length_nil, Nat.reduceAdd, Nat.reduceSub, Array.replicate_succ, Array.replicate_zero, List.push_toArray, List.append_toArray, List.nil_append, List.cons_append]
  gi_wp2_with (gi_at_call 59; refine (bwb_fn F (n - 1) h59 hro _ _ _ _).mono ?_; rintro e w' ⟨rfl, rfl⟩)
  obtain ⟨W0, hW0⟩ : ∃ W0, RowKit.Hid ((w.alloc (.cells #[.slice A2 O.length c2] 24)).alloc (.cells #[.slice A (pl t) c] 51) = W0) := ⟨_, rfl⟩
  have hsz : W0.heap.size = w.heap.size + 2 := by rw [← hW0.out]; simp
  have bO : Boxed W0 w.heap.size 24 (.slice A2 O.length c2) := by rw [← hW0.out]; exact (Boxed.new w _ _).alloc _
  have bN : Boxed W0 (w.heap.size + 1) 51 (.slice A (pl t) c) := by
    rw [← hW0.out]
    have := Boxed.new (w.alloc (.cells #[.slice A2 O.length c2] 24)) 51 (.slice A (pl t) c)
    rwa [World.size_alloc] at this
  have hk0 : ∀ k, k < w.heap.size → W0.heap[k]? = w.heap[k]? := fun k hk => by rw [← hW0.out]; exact (Below.heap_alloc _ _ _ (by simp; omega)).trans (Below.heap_alloc _ _ _ hk)
  have hB0 : Below w.heap.size w W0 := by rw [← hW0.out]; exact ((Below.refl _ w).alloc (Nat.le_refl _) _).alloc (by simp) _
  have hbi0 : BI w (w.heap.size + 1) B (.slice A (pl t) c) (.slice A2 O.length c2) (O ++ bkS t ([] : List (Fin (pl t)))) W0 := by
    rw [show O ++ bkS t ([] : List (Fin (pl t))) = O from List.append_nil O]
    exact ⟨⟨_, bO, own_keep hO fun g hg => hk0 g (own_lt hO hg).2, .inl rfl⟩, bN, hB0.os, hB0.tape, hB0.output, by omega, fun k hk _ => hk0 k hk⟩
  rw [hW0.out]
  clear hW0
  refine wpIn_rangeFunc_ownH hro h1 (gf := 72) (lb := #[.pointer (some ⟨w.heap.size + 1, 0, none⟩)]) rfl h72 (Go.Proofs.enters_of Try.func72 (by kernel_rfl) rfl)
    (bwb_stops F (n - 1) h72 hro (by omega) (w.heap.size + 1) D A (pl t) c ps (by omega) hrc.len W0 bN (fun b hb => by have := (hD b hb).1; omega) (fun h => by
      obtain ⟨b, off, e1, e2, e3⟩ := hcs h
      exact ⟨b, off, e1, e2, e3.keep (hk0 b (hD b e2).1)⟩)) KD.trans (fun W l o o' hl h ho hw => ⟨fun b hb => ?_, fun v b => ?_⟩) (Below.refl _ _) (fun _ => rfl)
    (fun pre W => BI w (w.heap.size + 1) B (.slice A (pl t) c) (.slice A2 O.length c2) (O ++ bkS t pre) W)
    (fun _ _ _ => False)
    (BI.own _ (by omega))
    (fun _ _ _ _ _ hs _ _ => hs)
    hbi0
    (fun x a' W => ∃ Bx, w.heap.size + 1 < Bx ∧ W.heap[Bx]? = some (.cells #[cx ps x.val 0, cx ps x.val 1, cx ps x.val 2, cx ps x.val 3, cx ps x.val 4, cx ps x.val 5, cx ps x.val 6, cx ps x.val 7, cx ps x.val 8, cx ps x.val 9] 83 (0, 0)) ∧ a' = { tmps := #[.slice A (pl t) c, .slice A2 O.length c2, undef, .pointer (some ⟨w.heap.size, 0, none⟩), .slice none 0 0, undef, .pointer (some ⟨Bx, 0, none⟩), .slice A (pl t) c, .func (.func 72) #[] #[.pointer (some ⟨w.heap.size + 1, 0, none⟩)], .int .i64 (x.val : Int), elv ps x.val, undef, undef, undef, undef, undef, undef, undef, undef, undef, undef, undef, undef, undef, undef, undef, undef, undef, undef, undef, undef, undef, undef, undef, undef, undef, undef, undef, undef, undef, undef, undef, undef, undef, undef, undef, undef, undef, undef, undef, undef, undef, undef, undef, undef, undef, undef, undef, undef], defers := [] })
    (fun x a' _ X Y row hs hg hr => by obtain ⟨Bx, h1, h2, h3⟩ := hs; exact ⟨Bx, h1, cells_kept h2 hg (fun r e => (hr r e).2), h3⟩)
    ?assign ?body ?done ?stop
  · have := (hD b hb).1
    exact World.putObj_heap_other (by omega)
  · exact b.kept (grownBy_putObj' W l o') (fun e => by cases e; rw [show W.heap[w.heap.size + 1]? = _ from b] at h; cases h; cases ho)
  case assign =>
    rintro lp pre x W K hI hK
    obtain ⟨l1, e1, A3, n3, c3, A4, n4, c4, g0, g1, g2, g3, g4, g5, g6, g7, g8, g9⟩ := cx_shape hrc x.isLt
    have hel : elv ps x.val = .agg #[.int .i64 l1.k, .int .i64 l1.a, .int .i64 l1.b, .int .i64 l1.c, .slice A3 n3 c3, .slice A4 n4 c4, .int .i64 e1.k, .int .i64 e1.a, .int .i64 e1.b, .int .i64 e1.c] := by
      unfold elv; rw [g0, g1, g2, g3, g4, g5, g6, g7, g8, g9]
    have hK' := fun a' W' h1 h2 h3 (h4 : ∃ Bx, w.heap.size + 1 < Bx ∧ W'.heap[Bx]? = some (.cells #[.int .i64 l1.k, .int .i64 l1.a, .int .i64 l1.b, .int .i64 l1.c, .slice A3 n3 c3, .slice A4 n4 c4, .int .i64 e1.k, .int .i64 e1.a, .int .i64 e1.b, .int .i64 e1.c] 83 (0, 0)) ∧ a' = _) => hK a' W' h1 h2 h3 (by rw [g0, g1, g2, g3, g4, g5, g6, g7, g8, g9]; exact h4)
    rw [hel] at hK' ⊢
    have hKH := Lib.hid hK'
    clear hK hK' hel g0 g1 g2 g3 g4 g5 g6 g7 g8 g9
    have hIo := BI.own (w := w) (Bs := w.heap.size + 1) (B := B) (B' := W0.heap.size) (pv := .slice A (pl t) c) (ov := .slice A2 O.length c2) (fun _ : Unit => O ++ bkS t pre) (by omega) ()
    gi_wp2
    refine hKH.out _ _ ((KeepsOthers.alloc _ _).from _) ⟨fun b hb => ?_, fun v b => b.alloc _⟩ (hIo _ _ none hI (World.grownBy_alloc _ _ _) (fun r e => by cases e)) ⟨W.heap.size, ?_, World.alloc_heap_new W _, rfl⟩
    · have := (hD b hb).1
      have := hI.2.2.2.2.2.1
      exact Below.heap_alloc _ _ _ (by omega)
    · exact hI.2.1.lt
  case body =>
    rintro lp pre x a' W hlp ⟨r, hr⟩ hI ⟨Bx, hBx, bX, rfl⟩ hlt
    have hF2 : ∀ f, (F.inRound lp).fn f := hfn
    have hdp2 : (F.inRound lp).depth = none := hdp
    have hxl := elt_len t x.val
    have hxw := elt_wf t x.val hwf
    have hxk := elt_lk x.val hlk
    refine wpIn_mono (Q := fun e _ W' => e = Exit.normal ∧ KeepsFrom W0.heap.size W W' ∧ KD D (w.heap.size + 1) W W' ∧ BI w (w.heap.size + 1) B (.slice A (pl t) c) (.slice A2 O.length c2) ((O ++ bkS t pre) ++ fl (bk (elt t x.val))) W') ?_ (fun e a' W' h => by
      obtain ⟨rfl, q1, q2, q3⟩ := h
      refine ⟨q1, q2, ?_⟩
      show BI _ _ _ _ _ (O ++ bkS t (pre ++ [x])) W'
      rw [bkS_snoc, ← List.append_assoc]
      exact q3)
    have hLl : (O ++ bkS t pre).length ≤ 2000000 * (1001 - (fl t).length) + 1000000 := by
      have h2 := bkS_len hwf hlk pre
      have h3 : pre.length * (fl t).length ≤ 1000 * 1000 := Nat.mul_le_mul (by omega) hN
      rw [List.length_append]; omega
    generalize O ++ bkS t pre = L at hI hLl ⊢
    obtain ⟨⟨v0, bb, br, bk0⟩, _⟩ := id hI
    rcases elt_cases t x.val x.isLt with ⟨l, he⟩ | ⟨l, e, p, he⟩ | ⟨l, m, e, p, q, he⟩
    · obtain ⟨g0, g1, g2, g3, g4, g5, g6, g7, g8, g9⟩ := cx_of (elt_one hrc x.isLt he)
      rw [g0, g1, g2, g3, g4, g5, g6, g7, g8, g9] at bX
      rw [he] at hxw hxk ⊢
      have hlk1 := (lkA_one hxk).1
      have hkk := hxw.1
      have e4 : (l.k == 4) = false := beq_eq_false_iff_ne.2 (by omega)
      have e6 : (l.k == 6) = false := beq_eq_false_iff_ne.2 (by omega)
      have c0 : W.cell? ⟨Bx, 0, none⟩ = some (.int .i64 l.k) := by simp [World.cell?, bX]
      clear hkk hxw g0 g1 g2 g3 g4 g5 g6 g7 g8 g9
      gi_wp2
      refine og_region (fx := [(3, .pointer (some ⟨w.heap.size, 0, none⟩)), (6, .pointer (some ⟨Bx, 0, none⟩))]) (M := MR 47 24 [(0, v0), (1, .pointer (some ⟨Bx, 0, none⟩)), (2, lvl l), (3, lvl (lb l))] [(4, 5, lC (lb l))] [(5, L ++ [lb l])] 6 W w.heap.size B v0 L) mixed (by kernel_rfl) rfl rfl ?_ (MR.start bb br) ?_ ?_
      · intro p hp
        simp at hp
        rcases hp with rfl | rfl <;> rfl
      · intro f i o a w' v ho hfi hdep hcl hdf hfx hev hM
        have a3 := hfx _ List.mem_cons_self
        have a6 := hfx _ (List.mem_cons_of_mem _ List.mem_cons_self)
        dsimp only at a3 a6
        have hBw : w'.heap[Bx]? = _ := (hM.l.block Bx (Array.getElem?_eq_some_iff.1 bX).1 (by omega) (own_not br bX)).trans bX
        have hil : i < 7 := by have := (Array.getElem?_eq_some_iff.1 ho).1; simpa using this
        rcases (show i = 0 ∨ i = 1 ∨ i = 2 ∨ i = 3 ∨ i = 4 ∨ i = 5 ∨ i = 6 by omega) with rfl | rfl | rfl | rfl | rfl | rfl | rfl
        · cases ho
          have hst : f 6 = false := by cases h : f 6 with | false => rfl | true => exact absurd (hcl 6 _ rfl h ⟨0, .phase⟩ (by simp) rfl) (by rw [hfi]; decide)
          have hbx := hM.x
          rw [hst] at hbx
          exact og_val hF2 (by intro c h; cases h) (ro_ldL rfl a3 hbx.cell) ⟨_, rfl, hM.const (by simp) (by simp) (by decide) (by simp)⟩
        · cases ho
          exact og_val hF2 (by intro c h; cases h) (ro_f0 rfl a6) ⟨_, rfl, hM.const (by simp) (by simp) (by decide) (by simp)⟩
        · cases ho
          have hd := (hev 1 15 (hdep ⟨1, .data⟩ (by simp) rfl) rfl).trans (hM.c (1, .pointer (some ⟨Bx, 0, none⟩)) (by simp) (hdep ⟨1, .data⟩ (by simp) rfl))
          have x0 : w'.cell? ⟨Bx, 0, none⟩ = some (.int .i64 l.k) := by simp [World.cell?, hBw]
          have x1 : w'.cell? ⟨Bx, 1, none⟩ = some (.int .i64 l.a) := by simp [World.cell?, hBw]
          have x2 : w'.cell? ⟨Bx, 2, none⟩ = some (.int .i64 l.b) := by simp [World.cell?, hBw]
          have x3 : w'.cell? ⟨Bx, 3, none⟩ = some (.int .i64 l.c) := by simp [World.cell?, hBw]
          exact og_val hF2 (by intro c h; cases h) (ro_ldG (g := l) rfl hd x0 x1 x2 x3) ⟨_, rfl, hM.const (by simp) (by simp) (by decide) (by simp)⟩
        · cases ho
          have hd := (hev 2 16 (hdep ⟨2, .data⟩ (by simp) rfl) rfl).trans (hM.c (2, lvl l) (by simp) (hdep ⟨2, .data⟩ (by simp) rfl))
          refine og_call hF2 hdp2 (by intro c h; cases h) (ro_lb rfl hd) ?_
          refine (CallsIn.inRound lp (hwd _ (lb_calls l hlk1 w'))).mono ?_
          rintro e0 w2 ⟨rfl, hb⟩
          exact ⟨_, rfl, _, rfl, (hM.below hb).const (by simp) (by simp) (by decide) (by simp)⟩
        · cases ho
          have hd := (hev 3 17 (hdep ⟨3, .data⟩ (by simp) rfl) rfl).trans (hM.c (3, lvl (lb l)) (by simp) (hdep ⟨3, .data⟩ (by simp) rfl))
          exact og_val hF2 (by intro c h; cases h) (ro_mk rfl hd) ⟨_, rfl, hM.made (by simp) (by simp) (by decide) (by simp) (by simp)⟩
        · cases ho
          have hst : f 6 = false := by cases h : f 6 with | false => rfl | true => exact absurd (hcl 6 _ rfl h ⟨5, .phase⟩ (by simp) rfl) (by rw [hfi]; decide)
          have hcur : cur [(5, L ++ [lb l])] f v v0 = v0 := by simp [cur, hfi]
          have hcl0 : curl [(5, L ++ [lb l])] f L = L := by simp [curl, hfi]
          have hrow := hM.r
          rw [hcur, hcl0] at hrow
          have hcn : ∀ y, cur [(5, L ++ [lb l])] (up1 f 5) (upv v 5 y) v0 = y := fun y => by simp [cur, up1, upv, nbq, hfi]
          have hln : curl [(5, L ++ [lb l])] (up1 f 5) L = L ++ [lb l] := by simp [curl, up1, nbq, hfi]
          have hdx := (hev 0 14 (hdep ⟨0, .data⟩ (by simp) rfl) rfl).trans (hM.c (0, v0) (by simp) (hdep ⟨0, .data⟩ (by simp) rfl))
          obtain ⟨n0, m1, m2, m3, m4, m5⟩ := hM.b (4, 5, lC (lb l)) (by simp) (hdep ⟨4, .data⟩ (by simp) rfl) hfi
          have hdy := (hev 4 18 (hdep ⟨4, .data⟩ (by simp) rfl) rfl).trans m1
          obtain ⟨v9, w9, hrun, hown, hgrow, _, hat⟩ := run_append_own_at (P := Try.prog) w' B 24 24 47 i0 (.agg #[.int .i64 0, .int .i64 0, .int .i64 0, .int .i64 0]) 4 32 Try.underlying24 hi hz0 hz1 hz2 rfl (by decide) v0 _ _ hrow ⟨n0, 0, none⟩ 1 1 (lC (lb l)) rfl (fun j u hu => by rw [add0]; exact m4 j u hu) (by intro u hu; simp at hu; rcases hu with rfl | rfl | rfl | rfl <;> rfl) (by simp [maxLen]; omega) (by first | omega | (simp only [List.length_append, List.length_cons, List.length_nil]; omega)) (by have := hM.l.size; have := hI.2.2.2.2.2.1; omega)
          refine og_val hF2 (by intro c h; cases h) (ro_app rfl hdx hdy hrun) ⟨_, rfl, hM.row (by decide) (hcn _) hln (by simp) (by decide) hst (by simp) (by rw [hcur]; exact hgrow) ?_ ?_⟩
          · have e0 : cV (L) ++ lC (lb l) = cV (L ++ [lb l]) := by rw [show lC (lb l) = cV [lb l] from rfl]; exact cV_append _ _
            rw [e0] at hown
            have e1 : (L).length + 1 = (L ++ [lb l]).length := len_snoc _ _
            rw [e1] at hown; exact hown
          · rw [hcur]; exact hat.imp id fun e => ⟨_, e, Nat.le_refl _⟩
        · cases ho
          have hp5 : f 5 = true := (hdep ⟨5, .data⟩ (by simp) rfl)
          have hcur : cur [(5, L ++ [lb l])] f v v0 = v 5 := by simp [cur, hp5]
          have hd := hev 5 19 (hdep ⟨5, .data⟩ (by simp) rfl) rfl
          have hbx := hM.x
          rw [hfi] at hbx
          have hrow := hM.r
          rw [hcur] at hrow
          obtain ⟨A7, n7, c7, hvv⟩ := own_slice hrow
          refine og_skip hF2 (by intro c h; cases h) (ro_st rfl a3 (hd.trans hvv) hbx.cell hbx.frozen) ⟨_, rfl, ?_⟩
          rw [← hvv, ← hcur]
          exact hM.store (by decide) (by simp) (by simp) (by simp) bb.lt
      · intro f a w' v hall hdf hsz hfx hM
        have hR := BI.region W0.heap.size hI br bk0 (by omega) hD bX (by omega) hM (hall 6 (by decide)) (show curl [(5, L ++ [lb l])] f L = L ++ [lb l] by simp [curl, hall 5 (by decide)])
        obtain ⟨hI1, hk1, hd1, bX1⟩ := hR
        exact ⟨rfl, hk1, hd1, hI1⟩
    · obtain ⟨A3, c3, hce, hTVp⟩ := elt_rep hrc x.isLt he
      obtain ⟨g0, g1, g2, g3, g4, g5, g6, g7, g8, g9⟩ := cx_of hce
      rw [g0, g1, g2, g3, g4, g5, g6, g7, g8, g9] at bX
      rw [he] at hxw hxk hxl ⊢
      obtain ⟨_, hkp, _, _⟩ := lkA_rep hxk
      have hwp := hxw.2.1
      have hkk := hxw.1
      have hbp := (bk_ok hwp hkp).2.2.1
      rw [fl, List.length_cons, List.length_append, List.length_cons] at hxl
      have e4 : (l.k == 4) = true := beq_iff_eq.2 hkk.1
      have c0 : W.cell? ⟨Bx, 0, none⟩ = some (.int .i64 l.k) := by simp [World.cell?, bX]
      clear hkk hxw hxk g0 g1 g2 g3 g4 g5 g6 g7 g8 g9 hce
      gi_wp2
      refine og_region (fx := [(3, .pointer (some ⟨w.heap.size, 0, none⟩)), (6, .pointer (some ⟨Bx, 0, none⟩))]) (M := MR 47 24 [(0, .pointer (some ⟨Bx, 4, none⟩)), (1, .slice A3 (pl p) c3), (2, v0), (3, .pointer (some ⟨Bx, 0, none⟩)), (4, lvl l), (8, .pointer (some ⟨Bx, 6, none⟩)), (9, lvl e)] [(5, 6, lC l), (10, 11, lC e)] [(6, L ++ [l]), (7, L ++ [l] ++ fl (bk p)), (11, L ++ [l] ++ fl (bk p) ++ [e])] 12 W w.heap.size B v0 L) mixed (by kernel_rfl) rfl rfl ?_ (MR.start bb br) ?_ ?_
      · intro p hp
        simp at hp
        rcases hp with rfl | rfl <;> rfl
      · intro f i o a w' v ho hfi hdep hcl hdf hfx hev hM
        have a3 := hfx _ List.mem_cons_self
        have a6 := hfx _ (List.mem_cons_of_mem _ List.mem_cons_self)
        dsimp only at a3 a6
        have hBw : w'.heap[Bx]? = _ := (hM.l.block Bx (Array.getElem?_eq_some_iff.1 bX).1 (by omega) (own_not br bX)).trans bX
        have hil : i < 13 := by have := (Array.getElem?_eq_some_iff.1 ho).1; simpa using this
        rcases (show i = 0 ∨ i = 1 ∨ i = 2 ∨ i = 3 ∨ i = 4 ∨ i = 5 ∨ i = 6 ∨ i = 7 ∨ i = 8 ∨ i = 9 ∨ i = 10 ∨ i = 11 ∨ i = 12 by omega) with rfl | rfl | rfl | rfl | rfl | rfl | rfl | rfl | rfl | rfl | rfl | rfl | rfl
        · cases ho
          exact og_val hF2 (by intro c h; cases h) (ro_f1 rfl a6) ⟨_, rfl, hM.const (by simp) (by simp) (by decide) (by simp)⟩
        · cases ho
          have hd := (hev 0 22 (hdep ⟨0, .data⟩ (by simp) rfl) rfl).trans (hM.c (0, .pointer (some ⟨Bx, 4, none⟩)) (by simp) (hdep ⟨0, .data⟩ (by simp) rfl))
          have hcx : w'.cell? ⟨Bx, 4, none⟩ = some (.slice A3 (pl p) c3) := by simp [World.cell?, hBw]
          exact og_val hF2 (by intro c h; cases h) (ro_ldB rfl hd hcx) ⟨_, rfl, hM.const (by simp) (by simp) (by decide) (by simp)⟩
        · cases ho
          have hst : f 12 = false := by cases h : f 12 with | false => rfl | true => exact absurd (hcl 12 _ rfl h ⟨2, .phase⟩ (by simp) rfl) (by rw [hfi]; decide)
          have hbx := hM.x
          rw [hst] at hbx
          exact og_val hF2 (by intro c h; cases h) (ro_ldL rfl a3 hbx.cell) ⟨_, rfl, hM.const (by simp) (by simp) (by decide) (by simp)⟩
        · cases ho
          exact og_val hF2 (by intro c h; cases h) (ro_f0 rfl a6) ⟨_, rfl, hM.const (by simp) (by simp) (by decide) (by simp)⟩
        · cases ho
          have hd := (hev 3 25 (hdep ⟨3, .data⟩ (by simp) rfl) rfl).trans (hM.c (3, .pointer (some ⟨Bx, 0, none⟩)) (by simp) (hdep ⟨3, .data⟩ (by simp) rfl))
          have x0 : w'.cell? ⟨Bx, 0, none⟩ = some (.int .i64 l.k) := by simp [World.cell?, hBw]
          have x1 : w'.cell? ⟨Bx, 1, none⟩ = some (.int .i64 l.a) := by simp [World.cell?, hBw]
          have x2 : w'.cell? ⟨Bx, 2, none⟩ = some (.int .i64 l.b) := by simp [World.cell?, hBw]
          have x3 : w'.cell? ⟨Bx, 3, none⟩ = some (.int .i64 l.c) := by simp [World.cell?, hBw]
          exact og_val hF2 (by intro c h; cases h) (ro_ldG (g := l) rfl hd x0 x1 x2 x3) ⟨_, rfl, hM.const (by simp) (by simp) (by decide) (by simp)⟩
        · cases ho
          have hd := (hev 4 26 (hdep ⟨4, .data⟩ (by simp) rfl) rfl).trans (hM.c (4, lvl l) (by simp) (hdep ⟨4, .data⟩ (by simp) rfl))
          exact og_val hF2 (by intro c h; cases h) (ro_mk rfl hd) ⟨_, rfl, hM.made (by simp) (by simp) (by decide) (by simp) (by simp)⟩
        · cases ho
          have hst : f 12 = false := by cases h : f 12 with | false => rfl | true => exact absurd (hcl 12 _ rfl h ⟨6, .phase⟩ (by simp) rfl) (by rw [hfi]; decide)
          have hcur : cur [(6, L ++ [l]), (7, L ++ [l] ++ fl (bk p)), (11, L ++ [l] ++ fl (bk p) ++ [e])] f v v0 = v0 := by simp [cur, hfi]
          have hcl0 : curl [(6, L ++ [l]), (7, L ++ [l] ++ fl (bk p)), (11, L ++ [l] ++ fl (bk p) ++ [e])] f L = L := by simp [curl, hfi]
          have hrow := hM.r
          rw [hcur, hcl0] at hrow
          have hn7 : f 7 = false := by cases h : f 7 with | false => rfl | true => exact absurd (hcl 7 _ rfl h ⟨6, .data⟩ (by simp) rfl) (by first | (rw [hfi]; decide) | (rw [hn6]; decide))
          have hn11 : f 11 = false := by cases h : f 11 with | false => rfl | true => exact absurd (hcl 11 _ rfl h ⟨7, .data⟩ (by simp) rfl) (by first | (rw [hfi]; decide) | (rw [hn7]; decide))
          have hcn : ∀ y, cur [(6, L ++ [l]), (7, L ++ [l] ++ fl (bk p)), (11, L ++ [l] ++ fl (bk p) ++ [e])] (up1 f 6) (upv v 6 y) v0 = y := fun y => by simp [cur, up1, upv, nbq, hfi, hn7, hn11]
          have hln : curl [(6, L ++ [l]), (7, L ++ [l] ++ fl (bk p)), (11, L ++ [l] ++ fl (bk p) ++ [e])] (up1 f 6) L = L ++ [l] := by simp [curl, up1, nbq, hfi, hn7, hn11]
          have hdx := (hev 2 24 (hdep ⟨2, .data⟩ (by simp) rfl) rfl).trans (hM.c (2, v0) (by simp) (hdep ⟨2, .data⟩ (by simp) rfl))
          obtain ⟨n0, m1, m2, m3, m4, m5⟩ := hM.b (5, 6, lC l) (by simp) (hdep ⟨5, .data⟩ (by simp) rfl) hfi
          have hdy := (hev 5 27 (hdep ⟨5, .data⟩ (by simp) rfl) rfl).trans m1
          obtain ⟨v9, w9, hrun, hown, hgrow, _, hat⟩ := run_append_own_at (P := Try.prog) w' B 24 24 47 i0 (.agg #[.int .i64 0, .int .i64 0, .int .i64 0, .int .i64 0]) 4 32 Try.underlying24 hi hz0 hz1 hz2 rfl (by decide) v0 _ _ hrow ⟨n0, 0, none⟩ 1 1 (lC l) rfl (fun j u hu => by rw [add0]; exact m4 j u hu) (by intro u hu; simp at hu; rcases hu with rfl | rfl | rfl | rfl <;> rfl) (by simp [maxLen]; omega) (by first | omega | (simp only [List.length_append, List.length_cons, List.length_nil]; omega)) (by have := hM.l.size; have := hI.2.2.2.2.2.1; omega)
          refine og_val hF2 (by intro c h; cases h) (ro_app rfl hdx hdy hrun) ⟨_, rfl, hM.row (by decide) (hcn _) hln (by simp) (by decide) hst (by simp) (by rw [hcur]; exact hgrow) ?_ ?_⟩
          · have e0 : cV (L) ++ lC l = cV (L ++ [l]) := by rw [show lC l = cV [l] from rfl]; exact cV_append _ _
            rw [e0] at hown
            have e1 : (L).length + 1 = (L ++ [l]).length := len_snoc _ _
            rw [e1] at hown; exact hown
          · rw [hcur]; exact hat.imp id fun e => ⟨_, e, Nat.le_refl _⟩
        · cases ho
          have hst : f 12 = false := by cases h : f 12 with | false => rfl | true => exact absurd (hcl 12 _ rfl h ⟨7, .phase⟩ (by simp) rfl) (by rw [hfi]; decide)
          have hp6 : f 6 = true := (hdep ⟨6, .data⟩ (by simp) rfl)
          have hcur : cur [(6, L ++ [l]), (7, L ++ [l] ++ fl (bk p)), (11, L ++ [l] ++ fl (bk p) ++ [e])] f v v0 = (v 6) := by simp [cur, hfi, hp6]
          have hcl0 : curl [(6, L ++ [l]), (7, L ++ [l] ++ fl (bk p)), (11, L ++ [l] ++ fl (bk p) ++ [e])] f L = L ++ [l] := by simp [curl, hfi, hp6]
          have hrow := hM.r
          rw [hcur, hcl0] at hrow
          have hn11 : f 11 = false := by cases h : f 11 with | false => rfl | true => exact absurd (hcl 11 _ rfl h ⟨7, .data⟩ (by simp) rfl) (by first | (rw [hfi]; decide) | (rw [hn7]; decide))
          have hcn : ∀ y, cur [(6, L ++ [l]), (7, L ++ [l] ++ fl (bk p)), (11, L ++ [l] ++ fl (bk p) ++ [e])] (up1 f 7) (upv v 7 y) v0 = y := fun y => by simp [cur, up1, upv, nbq, hfi, hp6, hn11]
          have hln : curl [(6, L ++ [l]), (7, L ++ [l] ++ fl (bk p)), (11, L ++ [l] ++ fl (bk p) ++ [e])] (up1 f 7) L = L ++ [l] ++ fl (bk p) := by simp [curl, up1, nbq, hfi, hp6, hn11]
          have hdx := (hev 1 23 (hdep ⟨1, .data⟩ (by simp) rfl) rfl).trans (hM.c (1, .slice A3 (pl p) c3) (by simp) (hdep ⟨1, .data⟩ (by simp) rfl))
          have hdy := hev 6 28 (hdep ⟨6, .data⟩ (by simp) rfl) rfl
          have hnoD : ∀ b, D b → b < W.heap.size ∧ b ≠ w.heap.size ∧ v0.ownBlock ≠ some b := fun b hb => by
            obtain ⟨q1, q2⟩ := hD b hb
            have q3 := hI.2.2.2.2.2.1
            refine ⟨by omega, by omega, fun e => ?_⟩
            rcases bk0 with h | ⟨g, h, hg⟩
            · exact q2 (h ▸ e)
            · rw [h] at e; cases e; omega
          have hTp : TV w' D p (.slice A3 (pl p) c3) := hTVp.keep fun b hb => ⟨hb, by
            obtain ⟨q1, q2, q3⟩ := hnoD b hb
            exact (hM.l.block b q1 q2 q3).trans (hI.2.2.2.2.2.2 b (hD b hb).1 (hD b hb).2)⟩
          have hkk := hM.k
          rw [hcur] at hkk
          have hDp : ∀ b, D b → b < w'.heap.size ∧ ((v 6)).ownBlock ≠ some b := fun b hb => by
            obtain ⟨q1, q2, q3⟩ := hnoD b hb
            have q4 := hM.l.size
            refine ⟨by omega, fun e => ?_⟩
            rcases hkk with h | ⟨g, h, hg⟩
            · exact q3 (h ▸ e)
            · rw [h] at e; cases e; omega
          have hCp := IH p (by omega) w' D _ _ _ B hTp hDp hrow (by have := hM.l.size; have := hI.2.2.2.2.2.1; omega) (by omega) (by simp only [List.length_append, List.length_cons, List.length_nil]; omega) hwp hkp
          refine og_call hF2 hdp2 (by intro c h; cases h) (ro_bk rfl hdx hdy) ?_
          refine (CallsIn.inRound lp (hwd _ hCp)).mono ?_
          rintro e0 w2 ⟨y, rfl, hown, hgrow, hat⟩
          exact ⟨_, rfl, _, rfl, hM.row (by decide) (hcn _) hln (by simp) (by decide) hst (by simp) (by rw [hcur]; exact hgrow) hown (by rw [hcur]; exact hat)⟩
        · cases ho
          exact og_val hF2 (by intro c h; cases h) (ro_f3 rfl a6) ⟨_, rfl, hM.const (by simp) (by simp) (by decide) (by simp)⟩
        · cases ho
          have hd := (hev 8 30 (hdep ⟨8, .data⟩ (by simp) rfl) rfl).trans (hM.c (8, .pointer (some ⟨Bx, 6, none⟩)) (by simp) (hdep ⟨8, .data⟩ (by simp) rfl))
          have x0 : w'.cell? ⟨Bx, 6, none⟩ = some (.int .i64 e.k) := by simp [World.cell?, hBw]
          have x1 : w'.cell? ⟨Bx, 7, none⟩ = some (.int .i64 e.a) := by simp [World.cell?, hBw]
          have x2 : w'.cell? ⟨Bx, 8, none⟩ = some (.int .i64 e.b) := by simp [World.cell?, hBw]
          have x3 : w'.cell? ⟨Bx, 9, none⟩ = some (.int .i64 e.c) := by simp [World.cell?, hBw]
          exact og_val hF2 (by intro c h; cases h) (ro_ldG (g := e) rfl hd x0 x1 x2 x3) ⟨_, rfl, hM.const (by simp) (by simp) (by decide) (by simp)⟩
        · cases ho
          have hd := (hev 9 31 (hdep ⟨9, .data⟩ (by simp) rfl) rfl).trans (hM.c (9, lvl e) (by simp) (hdep ⟨9, .data⟩ (by simp) rfl))
          exact og_val hF2 (by intro c h; cases h) (ro_mk rfl hd) ⟨_, rfl, hM.made (by simp) (by simp) (by decide) (by simp) (by simp)⟩
        · cases ho
          have hst : f 12 = false := by cases h : f 12 with | false => rfl | true => exact absurd (hcl 12 _ rfl h ⟨11, .phase⟩ (by simp) rfl) (by rw [hfi]; decide)
          have hp7 : f 7 = true := (hdep ⟨7, .data⟩ (by simp) rfl)
          have hp6 : f 6 = true := hcl 7 _ rfl hp7 ⟨6, .data⟩ (by simp) rfl
          have hcur : cur [(6, L ++ [l]), (7, L ++ [l] ++ fl (bk p)), (11, L ++ [l] ++ fl (bk p) ++ [e])] f v v0 = (v 7) := by simp [cur, hfi, hp7, hp6]
          have hcl0 : curl [(6, L ++ [l]), (7, L ++ [l] ++ fl (bk p)), (11, L ++ [l] ++ fl (bk p) ++ [e])] f L = L ++ [l] ++ fl (bk p) := by simp [curl, hfi, hp7, hp6]
          have hrow := hM.r
          rw [hcur, hcl0] at hrow
          have hcn : ∀ y, cur [(6, L ++ [l]), (7, L ++ [l] ++ fl (bk p)), (11, L ++ [l] ++ fl (bk p) ++ [e])] (up1 f 11) (upv v 11 y) v0 = y := fun y => by simp [cur, up1, upv, nbq, hfi, hp7, hp6]
          have hln : curl [(6, L ++ [l]), (7, L ++ [l] ++ fl (bk p)), (11, L ++ [l] ++ fl (bk p) ++ [e])] (up1 f 11) L = L ++ [l] ++ fl (bk p) ++ [e] := by simp [curl, up1, nbq, hfi, hp7, hp6]
          have hdx := hev 7 29 (hdep ⟨7, .data⟩ (by simp) rfl) rfl
          obtain ⟨n0, m1, m2, m3, m4, m5⟩ := hM.b (10, 11, lC e) (by simp) (hdep ⟨10, .data⟩ (by simp) rfl) hfi
          have hdy := (hev 10 32 (hdep ⟨10, .data⟩ (by simp) rfl) rfl).trans m1
          obtain ⟨v9, w9, hrun, hown, hgrow, _, hat⟩ := run_append_own_at (P := Try.prog) w' B 24 24 47 i0 (.agg #[.int .i64 0, .int .i64 0, .int .i64 0, .int .i64 0]) 4 32 Try.underlying24 hi hz0 hz1 hz2 rfl (by decide) (v 7) _ _ hrow ⟨n0, 0, none⟩ 1 1 (lC e) rfl (fun j u hu => by rw [add0]; exact m4 j u hu) (by intro u hu; simp at hu; rcases hu with rfl | rfl | rfl | rfl <;> rfl) (by simp [maxLen]; omega) (by first | omega | (simp only [List.length_append, List.length_cons, List.length_nil]; omega)) (by have := hM.l.size; have := hI.2.2.2.2.2.1; omega)
          refine og_val hF2 (by intro c h; cases h) (ro_app rfl hdx hdy hrun) ⟨_, rfl, hM.row (by decide) (hcn _) hln (by simp) (by decide) hst (by simp) (by rw [hcur]; exact hgrow) ?_ ?_⟩
          · have e0 : cV (L ++ [l] ++ fl (bk p)) ++ lC e = cV (L ++ [l] ++ fl (bk p) ++ [e]) := by rw [show lC e = cV [e] from rfl]; exact cV_append _ _
            rw [e0] at hown
            have e1 : (L ++ [l] ++ fl (bk p)).length + 1 = (L ++ [l] ++ fl (bk p) ++ [e]).length := len_snoc _ _
            rw [e1] at hown; exact hown
          · rw [hcur]; exact hat.imp id fun e => ⟨_, e, Nat.le_refl _⟩
        · cases ho
          have hp11 : f 11 = true := (hdep ⟨11, .data⟩ (by simp) rfl)
          have hp7 : f 7 = true := hcl 11 _ rfl hp11 ⟨7, .data⟩ (by simp) rfl
          have hp6 : f 6 = true := hcl 7 _ rfl hp7 ⟨6, .data⟩ (by simp) rfl
          have hcur : cur [(6, L ++ [l]), (7, L ++ [l] ++ fl (bk p)), (11, L ++ [l] ++ fl (bk p) ++ [e])] f v v0 = v 11 := by simp [cur, hp11, hp7, hp6]
          have hd := hev 11 33 (hdep ⟨11, .data⟩ (by simp) rfl) rfl
          have hbx := hM.x
          rw [hfi] at hbx
          have hrow := hM.r
          rw [hcur] at hrow
          obtain ⟨A7, n7, c7, hvv⟩ := own_slice hrow
          refine og_skip hF2 (by intro c h; cases h) (ro_st rfl a3 (hd.trans hvv) hbx.cell hbx.frozen) ⟨_, rfl, ?_⟩
          rw [← hvv, ← hcur]
          exact hM.store (by decide) (by simp) (by simp) (by simp) bb.lt
      · intro f a w' v hall hdf hsz hfx hM
        have hR := BI.region W0.heap.size hI br bk0 (by omega) hD bX (by omega) hM (hall 12 (by decide)) (show curl [(6, L ++ [l]), (7, L ++ [l] ++ fl (bk p)), (11, L ++ [l] ++ fl (bk p) ++ [e])] f L = L ++ [l] ++ fl (bk p) ++ [e] by simp [curl, hall 6 (by decide), hall 7 (by decide), hall 11 (by decide)])
        obtain ⟨hI1, hk1, hd1, bX1⟩ := hR
        refine ⟨rfl, hk1, hd1, ?_⟩
        rw [show L ++ fl (bk (.rep l e p .nil)) = L ++ [l] ++ fl (bk p) ++ [e] by simp [bk, app, fl]]
        exact hI1
    · obtain ⟨A3, c3, A4, c4, hce, hTVp, hTVq⟩ := elt_iff hrc x.isLt he
      obtain ⟨g0, g1, g2, g3, g4, g5, g6, g7, g8, g9⟩ := cx_of hce
      rw [g0, g1, g2, g3, g4, g5, g6, g7, g8, g9] at bX
      rw [he] at hxw hxk hxl ⊢
      obtain ⟨hlkl, hkp, hlkm, hkq, hlke, _⟩ := lkA_iff hxk
      have hwp := hxw.2.1
      have hwq := hxw.2.2.1
      have hkk := hxw.1
      have hbp := (bk_ok hwp hkp).2.2.1
      have hbq := (bk_ok hwq hkq).2.2.1
      rw [fl, List.length_cons, List.length_append, List.length_cons, List.length_append, List.length_cons] at hxl
      have e4 : (l.k == 4) = false := beq_eq_false_iff_ne.2 (by omega)
      have e6 : (l.k == 6) = true := beq_iff_eq.2 hkk.1
      have hm7 : m = gE7 := by
        have h7 := hkk.2.1
        rcases lk_cases hlkm with ⟨h1, _⟩ | ⟨h1, _⟩ | ⟨h1, _⟩ | ⟨h1, h2, h3, h4⟩
        · omega
        · omega
        · omega
        · obtain ⟨k, a, b, c⟩ := m; dsimp only at *; rw [h7, h2, h3, h4]
      have c0 : W.cell? ⟨Bx, 0, none⟩ = some (.int .i64 l.k) := by simp [World.cell?, bX]
      clear hkk hxw hxk g0 g1 g2 g3 g4 g5 g6 g7 g8 g9 hce
      gi_wp2
      refine og_region (fx := [(3, .pointer (some ⟨w.heap.size, 0, none⟩)), (6, .pointer (some ⟨Bx, 0, none⟩))]) (M := MR 47 24 [(0, .pointer (some ⟨Bx, 5, none⟩)), (1, .slice A4 (pl q) c4), (2, v0), (3, .pointer (some ⟨Bx, 6, none⟩)), (4, lvl e), (5, lvl (lb e))] [(6, 7, lC (lb e))] [(7, L ++ [lb e]), (8, L ++ [lb e] ++ fl (bk q))] 9 W w.heap.size B v0 L) mixed (by kernel_rfl) rfl rfl ?_ (MR.start bb br) ?_ ?_
      · intro p hp
        simp at hp
        rcases hp with rfl | rfl <;> rfl
      · intro f i o a w' v ho hfi hdep hcl hdf hfx hev hM
        have a3 := hfx _ List.mem_cons_self
        have a6 := hfx _ (List.mem_cons_of_mem _ List.mem_cons_self)
        dsimp only at a3 a6
        have hBw : w'.heap[Bx]? = _ := (hM.l.block Bx (Array.getElem?_eq_some_iff.1 bX).1 (by omega) (own_not br bX)).trans bX
        have hil : i < 10 := by have := (Array.getElem?_eq_some_iff.1 ho).1; simpa using this
        rcases (show i = 0 ∨ i = 1 ∨ i = 2 ∨ i = 3 ∨ i = 4 ∨ i = 5 ∨ i = 6 ∨ i = 7 ∨ i = 8 ∨ i = 9 by omega) with rfl | rfl | rfl | rfl | rfl | rfl | rfl | rfl | rfl | rfl
        · cases ho
          exact og_val hF2 (by intro c h; cases h) (ro_f2 rfl a6) ⟨_, rfl, hM.const (by simp) (by simp) (by decide) (by simp)⟩
        · cases ho
          have hd := (hev 0 36 (hdep ⟨0, .data⟩ (by simp) rfl) rfl).trans (hM.c (0, .pointer (some ⟨Bx, 5, none⟩)) (by simp) (hdep ⟨0, .data⟩ (by simp) rfl))
          have hcx : w'.cell? ⟨Bx, 5, none⟩ = some (.slice A4 (pl q) c4) := by simp [World.cell?, hBw]
          exact og_val hF2 (by intro c h; cases h) (ro_ldB rfl hd hcx) ⟨_, rfl, hM.const (by simp) (by simp) (by decide) (by simp)⟩
        · cases ho
          have hst : f 9 = false := by cases h : f 9 with | false => rfl | true => exact absurd (hcl 9 _ rfl h ⟨2, .phase⟩ (by simp) rfl) (by rw [hfi]; decide)
          have hbx := hM.x
          rw [hst] at hbx
          exact og_val hF2 (by intro c h; cases h) (ro_ldL rfl a3 hbx.cell) ⟨_, rfl, hM.const (by simp) (by simp) (by decide) (by simp)⟩
        · cases ho
          exact og_val hF2 (by intro c h; cases h) (ro_f3 rfl a6) ⟨_, rfl, hM.const (by simp) (by simp) (by decide) (by simp)⟩
        · cases ho
          have hd := (hev 3 39 (hdep ⟨3, .data⟩ (by simp) rfl) rfl).trans (hM.c (3, .pointer (some ⟨Bx, 6, none⟩)) (by simp) (hdep ⟨3, .data⟩ (by simp) rfl))
          have x0 : w'.cell? ⟨Bx, 6, none⟩ = some (.int .i64 e.k) := by simp [World.cell?, hBw]
          have x1 : w'.cell? ⟨Bx, 7, none⟩ = some (.int .i64 e.a) := by simp [World.cell?, hBw]
          have x2 : w'.cell? ⟨Bx, 8, none⟩ = some (.int .i64 e.b) := by simp [World.cell?, hBw]
          have x3 : w'.cell? ⟨Bx, 9, none⟩ = some (.int .i64 e.c) := by simp [World.cell?, hBw]
          exact og_val hF2 (by intro c h; cases h) (ro_ldG (g := e) rfl hd x0 x1 x2 x3) ⟨_, rfl, hM.const (by simp) (by simp) (by decide) (by simp)⟩
        · cases ho
          have hd := (hev 4 40 (hdep ⟨4, .data⟩ (by simp) rfl) rfl).trans (hM.c (4, lvl e) (by simp) (hdep ⟨4, .data⟩ (by simp) rfl))
          refine og_call hF2 hdp2 (by intro c h; cases h) (ro_lb rfl hd) ?_
          refine (CallsIn.inRound lp (hwd _ (lb_calls e hlke w'))).mono ?_
          rintro e0 w2 ⟨rfl, hb⟩
          exact ⟨_, rfl, _, rfl, (hM.below hb).const (by simp) (by simp) (by decide) (by simp)⟩
        · cases ho
          have hd := (hev 5 41 (hdep ⟨5, .data⟩ (by simp) rfl) rfl).trans (hM.c (5, lvl (lb e)) (by simp) (hdep ⟨5, .data⟩ (by simp) rfl))
          exact og_val hF2 (by intro c h; cases h) (ro_mk rfl hd) ⟨_, rfl, hM.made (by simp) (by simp) (by decide) (by simp) (by simp)⟩
        · cases ho
          have hst : f 9 = false := by cases h : f 9 with | false => rfl | true => exact absurd (hcl 9 _ rfl h ⟨7, .phase⟩ (by simp) rfl) (by rw [hfi]; decide)
          have hcur : cur [(7, L ++ [lb e]), (8, L ++ [lb e] ++ fl (bk q))] f v v0 = v0 := by simp [cur, hfi]
          have hcl0 : curl [(7, L ++ [lb e]), (8, L ++ [lb e] ++ fl (bk q))] f L = L := by simp [curl, hfi]
          have hrow := hM.r
          rw [hcur, hcl0] at hrow
          have hn8 : f 8 = false := by cases h : f 8 with | false => rfl | true => exact absurd (hcl 8 _ rfl h ⟨7, .data⟩ (by simp) rfl) (by first | (rw [hfi]; decide) | (rw [hn7]; decide))
          have hcn : ∀ y, cur [(7, L ++ [lb e]), (8, L ++ [lb e] ++ fl (bk q))] (up1 f 7) (upv v 7 y) v0 = y := fun y => by simp [cur, up1, upv, nbq, hfi, hn8]
          have hln : curl [(7, L ++ [lb e]), (8, L ++ [lb e] ++ fl (bk q))] (up1 f 7) L = L ++ [lb e] := by simp [curl, up1, nbq, hfi, hn8]
          have hdx := (hev 2 38 (hdep ⟨2, .data⟩ (by simp) rfl) rfl).trans (hM.c (2, v0) (by simp) (hdep ⟨2, .data⟩ (by simp) rfl))
          obtain ⟨n0, m1, m2, m3, m4, m5⟩ := hM.b (6, 7, lC (lb e)) (by simp) (hdep ⟨6, .data⟩ (by simp) rfl) hfi
          have hdy := (hev 6 42 (hdep ⟨6, .data⟩ (by simp) rfl) rfl).trans m1
          obtain ⟨v9, w9, hrun, hown, hgrow, _, hat⟩ := run_append_own_at (P := Try.prog) w' B 24 24 47 i0 (.agg #[.int .i64 0, .int .i64 0, .int .i64 0, .int .i64 0]) 4 32 Try.underlying24 hi hz0 hz1 hz2 rfl (by decide) v0 _ _ hrow ⟨n0, 0, none⟩ 1 1 (lC (lb e)) rfl (fun j u hu => by rw [add0]; exact m4 j u hu) (by intro u hu; simp at hu; rcases hu with rfl | rfl | rfl | rfl <;> rfl) (by simp [maxLen]; omega) (by first | omega | (simp only [List.length_append, List.length_cons, List.length_nil]; omega)) (by have := hM.l.size; have := hI.2.2.2.2.2.1; omega)
          refine og_val hF2 (by intro c h; cases h) (ro_app rfl hdx hdy hrun) ⟨_, rfl, hM.row (by decide) (hcn _) hln (by simp) (by decide) hst (by simp) (by rw [hcur]; exact hgrow) ?_ ?_⟩
          · have e0 : cV (L) ++ lC (lb e) = cV (L ++ [lb e]) := by rw [show lC (lb e) = cV [lb e] from rfl]; exact cV_append _ _
            rw [e0] at hown
            have e1 : (L).length + 1 = (L ++ [lb e]).length := len_snoc _ _
            rw [e1] at hown; exact hown
          · rw [hcur]; exact hat.imp id fun e => ⟨_, e, Nat.le_refl _⟩
        · cases ho
          have hst : f 9 = false := by cases h : f 9 with | false => rfl | true => exact absurd (hcl 9 _ rfl h ⟨8, .phase⟩ (by simp) rfl) (by rw [hfi]; decide)
          have hp7 : f 7 = true := (hdep ⟨7, .data⟩ (by simp) rfl)
          have hcur : cur [(7, L ++ [lb e]), (8, L ++ [lb e] ++ fl (bk q))] f v v0 = (v 7) := by simp [cur, hfi, hp7]
          have hcl0 : curl [(7, L ++ [lb e]), (8, L ++ [lb e] ++ fl (bk q))] f L = L ++ [lb e] := by simp [curl, hfi, hp7]
          have hrow := hM.r
          rw [hcur, hcl0] at hrow
          have hcn : ∀ y, cur [(7, L ++ [lb e]), (8, L ++ [lb e] ++ fl (bk q))] (up1 f 8) (upv v 8 y) v0 = y := fun y => by simp [cur, up1, upv, nbq, hfi, hp7]
          have hln : curl [(7, L ++ [lb e]), (8, L ++ [lb e] ++ fl (bk q))] (up1 f 8) L = L ++ [lb e] ++ fl (bk q) := by simp [curl, up1, nbq, hfi, hp7]
          have hdx := (hev 1 37 (hdep ⟨1, .data⟩ (by simp) rfl) rfl).trans (hM.c (1, .slice A4 (pl q) c4) (by simp) (hdep ⟨1, .data⟩ (by simp) rfl))
          have hdy := hev 7 43 (hdep ⟨7, .data⟩ (by simp) rfl) rfl
          have hnoD : ∀ b, D b → b < W.heap.size ∧ b ≠ w.heap.size ∧ v0.ownBlock ≠ some b := fun b hb => by
            obtain ⟨q1, q2⟩ := hD b hb
            have q3 := hI.2.2.2.2.2.1
            refine ⟨by omega, by omega, fun e => ?_⟩
            rcases bk0 with h | ⟨g, h, hg⟩
            · exact q2 (h ▸ e)
            · rw [h] at e; cases e; omega
          have hTp : TV w' D q (.slice A4 (pl q) c4) := hTVq.keep fun b hb => ⟨hb, by
            obtain ⟨q1, q2, q3⟩ := hnoD b hb
            exact (hM.l.block b q1 q2 q3).trans (hI.2.2.2.2.2.2 b (hD b hb).1 (hD b hb).2)⟩
          have hkk := hM.k
          rw [hcur] at hkk
          have hDp : ∀ b, D b → b < w'.heap.size ∧ ((v 7)).ownBlock ≠ some b := fun b hb => by
            obtain ⟨q1, q2, q3⟩ := hnoD b hb
            have q4 := hM.l.size
            refine ⟨by omega, fun e => ?_⟩
            rcases hkk with h | ⟨g, h, hg⟩
            · exact q3 (h ▸ e)
            · rw [h] at e; cases e; omega
          have hCp := IH q (by omega) w' D _ _ _ B hTp hDp hrow (by have := hM.l.size; have := hI.2.2.2.2.2.1; omega) (by omega) (by simp only [List.length_append, List.length_cons, List.length_nil]; omega) hwq hkq
          refine og_call hF2 hdp2 (by intro c h; cases h) (ro_bk rfl hdx hdy) ?_
          refine (CallsIn.inRound lp (hwd _ hCp)).mono ?_
          rintro e0 w2 ⟨y, rfl, hown, hgrow, hat⟩
          exact ⟨_, rfl, _, rfl, hM.row (by decide) (hcn _) hln (by simp) (by decide) hst (by simp) (by rw [hcur]; exact hgrow) hown (by rw [hcur]; exact hat)⟩
        · cases ho
          have hp8 : f 8 = true := (hdep ⟨8, .data⟩ (by simp) rfl)
          have hp7 : f 7 = true := hcl 8 _ rfl hp8 ⟨7, .data⟩ (by simp) rfl
          have hcur : cur [(7, L ++ [lb e]), (8, L ++ [lb e] ++ fl (bk q))] f v v0 = v 8 := by simp [cur, hp8, hp7]
          have hd := hev 8 44 (hdep ⟨8, .data⟩ (by simp) rfl) rfl
          have hbx := hM.x
          rw [hfi] at hbx
          have hrow := hM.r
          rw [hcur] at hrow
          obtain ⟨A7, n7, c7, hvv⟩ := own_slice hrow
          refine og_skip hF2 (by intro c h; cases h) (ro_st rfl a3 (hd.trans hvv) hbx.cell hbx.frozen) ⟨_, rfl, ?_⟩
          rw [← hvv, ← hcur]
          exact hM.store (by decide) (by simp) (by simp) (by simp) bb.lt
      · intro f a w' v hall hdf hsz hfx hM
        have hR := BI.region W0.heap.size hI br bk0 (by omega) hD bX (by omega) hM (hall 9 (by decide)) (show curl [(7, L ++ [lb e]), (8, L ++ [lb e] ++ fl (bk q))] f L = L ++ [lb e] ++ fl (bk q) by simp [curl, hall 7 (by decide), hall 8 (by decide)])
        obtain ⟨hI1, hk1, hd1, bX1⟩ := hR
        obtain ⟨W1, hW1⟩ : ∃ W1, W1 = w' := ⟨_, rfl⟩
        rw [← hW1] at hI1 hk1 hd1 bX1
        clear hM hall
        obtain ⟨L1, hL1⟩ : ∃ L1, L ++ [lb e] ++ fl (bk q) = L1 := ⟨_, rfl⟩
        rw [hL1] at hI1
        have hl1 : L1.length = L.length + 1 + (fl q).length := by rw [← hL1, List.length_append, List.length_append, hbq]; rfl
        obtain ⟨⟨v1, bb1, br1, bk1⟩, _⟩ := id hI1
        gi_wp2
        rw [← hW1]
        refine og_region (fx := [(3, .pointer (some ⟨w.heap.size, 0, none⟩)), (6, .pointer (some ⟨Bx, 0, none⟩))]) (M := MR 47 24 [(0, .pointer (some ⟨Bx, 4, none⟩)), (1, .slice A3 (pl p) c3), (2, v1), (3, lvl gE7)] [(4, 5, lC gE7)] [(5, L1 ++ [gE7]), (6, L1 ++ [gE7] ++ fl (bk p))] 7 W1 w.heap.size B v1 L1) mixed (by kernel_rfl) hdf hsz ?_ (MR.start bb1 br1) ?_ ?_
        · exact hfx
        · intro f i o a w' v ho hfi hdep hcl hdf hfx hev hM
          have a3 := hfx _ List.mem_cons_self
          have a6 := hfx _ (List.mem_cons_of_mem _ List.mem_cons_self)
          dsimp only at a3 a6
          have hBw : w'.heap[Bx]? = _ := (hM.l.block Bx (Array.getElem?_eq_some_iff.1 bX1).1 (by omega) (own_not br1 bX1)).trans bX1
          have hil : i < 8 := by have := (Array.getElem?_eq_some_iff.1 ho).1; simpa using this
          rcases (show i = 0 ∨ i = 1 ∨ i = 2 ∨ i = 3 ∨ i = 4 ∨ i = 5 ∨ i = 6 ∨ i = 7 by omega) with rfl | rfl | rfl | rfl | rfl | rfl | rfl | rfl
          · cases ho
            exact og_val hF2 (by intro c h; cases h) (ro_f1 rfl a6) ⟨_, rfl, hM.const (by simp) (by simp) (by decide) (by simp)⟩
          · cases ho
            have hd := (hev 0 45 (hdep ⟨0, .data⟩ (by simp) rfl) rfl).trans (hM.c (0, .pointer (some ⟨Bx, 4, none⟩)) (by simp) (hdep ⟨0, .data⟩ (by simp) rfl))
            have hcx : w'.cell? ⟨Bx, 4, none⟩ = some (.slice A3 (pl p) c3) := by simp [World.cell?, hBw]
            exact og_val hF2 (by intro c h; cases h) (ro_ldB rfl hd hcx) ⟨_, rfl, hM.const (by simp) (by simp) (by decide) (by simp)⟩
          · cases ho
            have hst : f 7 = false := by cases h : f 7 with | false => rfl | true => exact absurd (hcl 7 _ rfl h ⟨2, .phase⟩ (by simp) rfl) (by rw [hfi]; decide)
            have hbx := hM.x
            rw [hst] at hbx
            exact og_val hF2 (by intro c h; cases h) (ro_ldL rfl a3 hbx.cell) ⟨_, rfl, hM.const (by simp) (by simp) (by decide) (by simp)⟩
          · cases ho
            exact og_val hF2 (by intro c h; cases h) (ro_b7 rfl) ⟨_, rfl, hM.const (by simp) (by simp) (by decide) (by simp)⟩
          · cases ho
            have hd := (hev 3 48 (hdep ⟨3, .data⟩ (by simp) rfl) rfl).trans (hM.c (3, lvl gE7) (by simp) (hdep ⟨3, .data⟩ (by simp) rfl))
            exact og_val hF2 (by intro c h; cases h) (ro_mk rfl hd) ⟨_, rfl, hM.made (by simp) (by simp) (by decide) (by simp) (by simp)⟩
          · cases ho
            have hst : f 7 = false := by cases h : f 7 with | false => rfl | true => exact absurd (hcl 7 _ rfl h ⟨5, .phase⟩ (by simp) rfl) (by rw [hfi]; decide)
            have hcur : cur [(5, L1 ++ [gE7]), (6, L1 ++ [gE7] ++ fl (bk p))] f v v1 = v1 := by simp [cur, hfi]
            have hcl0 : curl [(5, L1 ++ [gE7]), (6, L1 ++ [gE7] ++ fl (bk p))] f L1 = L1 := by simp [curl, hfi]
            have hrow := hM.r
            rw [hcur, hcl0] at hrow
            have hn6 : f 6 = false := by cases h : f 6 with | false => rfl | true => exact absurd (hcl 6 _ rfl h ⟨5, .data⟩ (by simp) rfl) (by first | (rw [hfi]; decide) | (rw [hn5]; decide))
            have hcn : ∀ y, cur [(5, L1 ++ [gE7]), (6, L1 ++ [gE7] ++ fl (bk p))] (up1 f 5) (upv v 5 y) v1 = y := fun y => by simp [cur, up1, upv, nbq, hfi, hn6]
            have hln : curl [(5, L1 ++ [gE7]), (6, L1 ++ [gE7] ++ fl (bk p))] (up1 f 5) L1 = L1 ++ [gE7] := by simp [curl, up1, nbq, hfi, hn6]
            have hdx := (hev 2 47 (hdep ⟨2, .data⟩ (by simp) rfl) rfl).trans (hM.c (2, v1) (by simp) (hdep ⟨2, .data⟩ (by simp) rfl))
            obtain ⟨n0, m1, m2, m3, m4, m5⟩ := hM.b (4, 5, lC gE7) (by simp) (hdep ⟨4, .data⟩ (by simp) rfl) hfi
            have hdy := (hev 4 49 (hdep ⟨4, .data⟩ (by simp) rfl) rfl).trans m1
            obtain ⟨v9, w9, hrun, hown, hgrow, _, hat⟩ := run_append_own_at (P := Try.prog) w' B 24 24 47 i0 (.agg #[.int .i64 0, .int .i64 0, .int .i64 0, .int .i64 0]) 4 32 Try.underlying24 hi hz0 hz1 hz2 rfl (by decide) v1 _ _ hrow ⟨n0, 0, none⟩ 1 1 (lC gE7) rfl (fun j u hu => by rw [add0]; exact m4 j u hu) (by intro u hu; simp at hu; rcases hu with rfl | rfl | rfl | rfl <;> rfl) (by simp [maxLen]; omega) (by first | omega | (simp only [List.length_append, List.length_cons, List.length_nil]; omega)) (by have := hM.l.size; have := hI1.2.2.2.2.2.1; omega)
            refine og_val hF2 (by intro c h; cases h) (ro_app rfl hdx hdy hrun) ⟨_, rfl, hM.row (by decide) (hcn _) hln (by simp) (by decide) hst (by simp) (by rw [hcur]; exact hgrow) ?_ ?_⟩
            · have e0 : cV (L1) ++ lC gE7 = cV (L1 ++ [gE7]) := by rw [show lC gE7 = cV [gE7] from rfl]; exact cV_append _ _
              rw [e0] at hown
              have e1 : (L1).length + 1 = (L1 ++ [gE7]).length := len_snoc _ _
              rw [e1] at hown; exact hown
            · rw [hcur]; exact hat.imp id fun e => ⟨_, e, Nat.le_refl _⟩
          · cases ho
            have hst : f 7 = false := by cases h : f 7 with | false => rfl | true => exact absurd (hcl 7 _ rfl h ⟨6, .phase⟩ (by simp) rfl) (by rw [hfi]; decide)
            have hp5 : f 5 = true := (hdep ⟨5, .data⟩ (by simp) rfl)
            have hcur : cur [(5, L1 ++ [gE7]), (6, L1 ++ [gE7] ++ fl (bk p))] f v v1 = (v 5) := by simp [cur, hfi, hp5]
            have hcl0 : curl [(5, L1 ++ [gE7]), (6, L1 ++ [gE7] ++ fl (bk p))] f L1 = L1 ++ [gE7] := by simp [curl, hfi, hp5]
            have hrow := hM.r
            rw [hcur, hcl0] at hrow
            have hcn : ∀ y, cur [(5, L1 ++ [gE7]), (6, L1 ++ [gE7] ++ fl (bk p))] (up1 f 6) (upv v 6 y) v1 = y := fun y => by simp [cur, up1, upv, nbq, hfi, hp5]
            have hln : curl [(5, L1 ++ [gE7]), (6, L1 ++ [gE7] ++ fl (bk p))] (up1 f 6) L1 = L1 ++ [gE7] ++ fl (bk p) := by simp [curl, up1, nbq, hfi, hp5]
            have hdx := (hev 1 46 (hdep ⟨1, .data⟩ (by simp) rfl) rfl).trans (hM.c (1, .slice A3 (pl p) c3) (by simp) (hdep ⟨1, .data⟩ (by simp) rfl))
            have hdy := hev 5 50 (hdep ⟨5, .data⟩ (by simp) rfl) rfl
            have hnoD : ∀ b, D b → b < W1.heap.size ∧ b ≠ w.heap.size ∧ v1.ownBlock ≠ some b := fun b hb => by
              obtain ⟨q1, q2⟩ := hD b hb
              have q3 := hI1.2.2.2.2.2.1
              refine ⟨by omega, by omega, fun e => ?_⟩
              rcases bk1 with h | ⟨g, h, hg⟩
              · exact q2 (h ▸ e)
              · rw [h] at e; cases e; omega
            have hTp : TV w' D p (.slice A3 (pl p) c3) := hTVp.keep fun b hb => ⟨hb, by
              obtain ⟨q1, q2, q3⟩ := hnoD b hb
              exact (hM.l.block b q1 q2 q3).trans (hI1.2.2.2.2.2.2 b (hD b hb).1 (hD b hb).2)⟩
            have hkk := hM.k
            rw [hcur] at hkk
            have hDp : ∀ b, D b → b < w'.heap.size ∧ ((v 5)).ownBlock ≠ some b := fun b hb => by
              obtain ⟨q1, q2, q3⟩ := hnoD b hb
              have q4 := hM.l.size
              refine ⟨by omega, fun e => ?_⟩
              rcases hkk with h | ⟨g, h, hg⟩
              · exact q3 (h ▸ e)
              · rw [h] at e; cases e; omega
            have hCp := IH p (by omega) w' D _ _ _ B hTp hDp hrow (by have := hM.l.size; have := hI1.2.2.2.2.2.1; omega) (by omega) (by simp only [List.length_append, List.length_cons, List.length_nil]; omega) hwp hkp
            refine og_call hF2 hdp2 (by intro c h; cases h) (ro_bk rfl hdx hdy) ?_
            refine (CallsIn.inRound lp (hwd _ hCp)).mono ?_
            rintro e0 w2 ⟨y, rfl, hown, hgrow, hat⟩
            exact ⟨_, rfl, _, rfl, hM.row (by decide) (hcn _) hln (by simp) (by decide) hst (by simp) (by rw [hcur]; exact hgrow) hown (by rw [hcur]; exact hat)⟩
          · cases ho
            have hp6 : f 6 = true := (hdep ⟨6, .data⟩ (by simp) rfl)
            have hp5 : f 5 = true := hcl 6 _ rfl hp6 ⟨5, .data⟩ (by simp) rfl
            have hcur : cur [(5, L1 ++ [gE7]), (6, L1 ++ [gE7] ++ fl (bk p))] f v v1 = v 6 := by simp [cur, hp6, hp5]
            have hd := hev 6 51 (hdep ⟨6, .data⟩ (by simp) rfl) rfl
            have hbx := hM.x
            rw [hfi] at hbx
            have hrow := hM.r
            rw [hcur] at hrow
            obtain ⟨A7, n7, c7, hvv⟩ := own_slice hrow
            refine og_skip hF2 (by intro c h; cases h) (ro_st rfl a3 (hd.trans hvv) hbx.cell hbx.frozen) ⟨_, rfl, ?_⟩
            rw [← hvv, ← hcur]
            exact hM.store (by decide) (by simp) (by simp) (by simp) bb1.lt
        · intro f a w' v hall hdf hsz hfx hM
          have hR := BI.region W0.heap.size hI1 br1 bk1 (by omega) hD bX1 (by omega) hM (hall 7 (by decide)) (show curl [(5, L1 ++ [gE7]), (6, L1 ++ [gE7] ++ fl (bk p))] f L1 = L1 ++ [gE7] ++ fl (bk p) by simp [curl, hall 5 (by decide), hall 6 (by decide)])
          obtain ⟨hI2, hk2, hd2, bX2⟩ := hR
          obtain ⟨W2, hW2⟩ : ∃ W2, W2 = w' := ⟨_, rfl⟩
          rw [← hW2] at hI2 hk2 hd2 bX2
          clear hM hall
          obtain ⟨L2, hL2⟩ : ∃ L2, L1 ++ [gE7] ++ fl (bk p) = L2 := ⟨_, rfl⟩
          rw [hL2] at hI2
          have hl2 : L2.length = L1.length + 1 + (fl p).length := by rw [← hL2, List.length_append, List.length_append, hbp]; rfl
          obtain ⟨⟨v2, bb2, br2, bk2⟩, _⟩ := id hI2
          gi_wp2
          rw [← hW2]
          refine og_region (fx := [(3, .pointer (some ⟨w.heap.size, 0, none⟩)), (6, .pointer (some ⟨Bx, 0, none⟩))]) (M := MR 47 24 [(0, v2), (1, .pointer (some ⟨Bx, 0, none⟩)), (2, lvl l), (3, lvl (lb l))] [(4, 5, lC (lb l))] [(5, L2 ++ [lb l])] 6 W2 w.heap.size B v2 L2) mixed (by kernel_rfl) hdf hsz ?_ (MR.start bb2 br2) ?_ ?_
          · exact hfx
          · intro f i o a w' v ho hfi hdep hcl hdf hfx hev hM
            have a3 := hfx _ List.mem_cons_self
            have a6 := hfx _ (List.mem_cons_of_mem _ List.mem_cons_self)
            dsimp only at a3 a6
            have hBw : w'.heap[Bx]? = _ := (hM.l.block Bx (Array.getElem?_eq_some_iff.1 bX2).1 (by omega) (own_not br2 bX2)).trans bX2
            have hil : i < 7 := by have := (Array.getElem?_eq_some_iff.1 ho).1; simpa using this
            rcases (show i = 0 ∨ i = 1 ∨ i = 2 ∨ i = 3 ∨ i = 4 ∨ i = 5 ∨ i = 6 by omega) with rfl | rfl | rfl | rfl | rfl | rfl | rfl
            · cases ho
              have hst : f 6 = false := by cases h : f 6 with | false => rfl | true => exact absurd (hcl 6 _ rfl h ⟨0, .phase⟩ (by simp) rfl) (by rw [hfi]; decide)
              have hbx := hM.x
              rw [hst] at hbx
              exact og_val hF2 (by intro c h; cases h) (ro_ldL rfl a3 hbx.cell) ⟨_, rfl, hM.const (by simp) (by simp) (by decide) (by simp)⟩
            · cases ho
              exact og_val hF2 (by intro c h; cases h) (ro_f0 rfl a6) ⟨_, rfl, hM.const (by simp) (by simp) (by decide) (by simp)⟩
            · cases ho
              have hd := (hev 1 53 (hdep ⟨1, .data⟩ (by simp) rfl) rfl).trans (hM.c (1, .pointer (some ⟨Bx, 0, none⟩)) (by simp) (hdep ⟨1, .data⟩ (by simp) rfl))
              have x0 : w'.cell? ⟨Bx, 0, none⟩ = some (.int .i64 l.k) := by simp [World.cell?, hBw]
              have x1 : w'.cell? ⟨Bx, 1, none⟩ = some (.int .i64 l.a) := by simp [World.cell?, hBw]
              have x2 : w'.cell? ⟨Bx, 2, none⟩ = some (.int .i64 l.b) := by simp [World.cell?, hBw]
              have x3 : w'.cell? ⟨Bx, 3, none⟩ = some (.int .i64 l.c) := by simp [World.cell?, hBw]
              exact og_val hF2 (by intro c h; cases h) (ro_ldG (g := l) rfl hd x0 x1 x2 x3) ⟨_, rfl, hM.const (by simp) (by simp) (by decide) (by simp)⟩
            · cases ho
              have hd := (hev 2 54 (hdep ⟨2, .data⟩ (by simp) rfl) rfl).trans (hM.c (2, lvl l) (by simp) (hdep ⟨2, .data⟩ (by simp) rfl))
              refine og_call hF2 hdp2 (by intro c h; cases h) (ro_lb rfl hd) ?_
              refine (CallsIn.inRound lp (hwd _ (lb_calls l hlkl w'))).mono ?_
              rintro e0 w2 ⟨rfl, hb⟩
              exact ⟨_, rfl, _, rfl, (hM.below hb).const (by simp) (by simp) (by decide) (by simp)⟩
            · cases ho
              have hd := (hev 3 55 (hdep ⟨3, .data⟩ (by simp) rfl) rfl).trans (hM.c (3, lvl (lb l)) (by simp) (hdep ⟨3, .data⟩ (by simp) rfl))
              exact og_val hF2 (by intro c h; cases h) (ro_mk rfl hd) ⟨_, rfl, hM.made (by simp) (by simp) (by decide) (by simp) (by simp)⟩
            · cases ho
              have hst : f 6 = false := by cases h : f 6 with | false => rfl | true => exact absurd (hcl 6 _ rfl h ⟨5, .phase⟩ (by simp) rfl) (by rw [hfi]; decide)
              have hcur : cur [(5, L2 ++ [lb l])] f v v2 = v2 := by simp [cur, hfi]
              have hcl0 : curl [(5, L2 ++ [lb l])] f L2 = L2 := by simp [curl, hfi]
              have hrow := hM.r
              rw [hcur, hcl0] at hrow
              have hcn : ∀ y, cur [(5, L2 ++ [lb l])] (up1 f 5) (upv v 5 y) v2 = y := fun y => by simp [cur, up1, upv, nbq, hfi]
              have hln : curl [(5, L2 ++ [lb l])] (up1 f 5) L2 = L2 ++ [lb l] := by simp [curl, up1, nbq, hfi]
              have hdx := (hev 0 52 (hdep ⟨0, .data⟩ (by simp) rfl) rfl).trans (hM.c (0, v2) (by simp) (hdep ⟨0, .data⟩ (by simp) rfl))
              obtain ⟨n0, m1, m2, m3, m4, m5⟩ := hM.b (4, 5, lC (lb l)) (by simp) (hdep ⟨4, .data⟩ (by simp) rfl) hfi
              have hdy := (hev 4 56 (hdep ⟨4, .data⟩ (by simp) rfl) rfl).trans m1
              obtain ⟨v9, w9, hrun, hown, hgrow, _, hat⟩ := run_append_own_at (P := Try.prog) w' B 24 24 47 i0 (.agg #[.int .i64 0, .int .i64 0, .int .i64 0, .int .i64 0]) 4 32 Try.underlying24 hi hz0 hz1 hz2 rfl (by decide) v2 _ _ hrow ⟨n0, 0, none⟩ 1 1 (lC (lb l)) rfl (fun j u hu => by rw [add0]; exact m4 j u hu) (by intro u hu; simp at hu; rcases hu with rfl | rfl | rfl | rfl <;> rfl) (by simp [maxLen]; omega) (by first | omega | (simp only [List.length_append, List.length_cons, List.length_nil]; omega)) (by have := hM.l.size; have := hI2.2.2.2.2.2.1; omega)
              refine og_val hF2 (by intro c h; cases h) (ro_app rfl hdx hdy hrun) ⟨_, rfl, hM.row (by decide) (hcn _) hln (by simp) (by decide) hst (by simp) (by rw [hcur]; exact hgrow) ?_ ?_⟩
              · have e0 : cV (L2) ++ lC (lb l) = cV (L2 ++ [lb l]) := by rw [show lC (lb l) = cV [lb l] from rfl]; exact cV_append _ _
                rw [e0] at hown
                have e1 : (L2).length + 1 = (L2 ++ [lb l]).length := len_snoc _ _
                rw [e1] at hown; exact hown
              · rw [hcur]; exact hat.imp id fun e => ⟨_, e, Nat.le_refl _⟩
            · cases ho
              have hp5 : f 5 = true := (hdep ⟨5, .data⟩ (by simp) rfl)
              have hcur : cur [(5, L2 ++ [lb l])] f v v2 = v 5 := by simp [cur, hp5]
              have hd := hev 5 57 (hdep ⟨5, .data⟩ (by simp) rfl) rfl
              have hbx := hM.x
              rw [hfi] at hbx
              have hrow := hM.r
              rw [hcur] at hrow
              obtain ⟨A7, n7, c7, hvv⟩ := own_slice hrow
              refine og_skip hF2 (by intro c h; cases h) (ro_st rfl a3 (hd.trans hvv) hbx.cell hbx.frozen) ⟨_, rfl, ?_⟩
              rw [← hvv, ← hcur]
              exact hM.store (by decide) (by simp) (by simp) (by simp) bb2.lt
          · intro f a w' v hall hdf hsz hfx hM
            have hR := BI.region W0.heap.size hI2 br2 bk2 (by omega) hD bX2 (by omega) hM (hall 6 (by decide)) (show curl [(5, L2 ++ [lb l])] f L2 = L2 ++ [lb l] by simp [curl, hall 5 (by decide)])
            obtain ⟨hI3, hk3, hd3, bX3⟩ := hR
            refine ⟨rfl, (hk1.trans hk2).trans hk3, (hd1.trans hd2).trans hd3, ?_⟩
            rw [show L ++ fl (bk (.iff l m e p q .nil)) = L2 ++ [lb l] by rw [← hL2, ← hL1, hm7]; simp [bk, app, fl]]
            exact hI3
  case done =>
    rintro Dd zs W hDd rfl ⟨⟨v, b1, b2, b3⟩, b4, b5, b6, b7, b8, b9⟩ hK
    have cO := b1.cell
    gi_wp2
    refine ⟨by simp, .inl ⟨_, _, rfl, run_takeDeferred hK, ?_⟩⟩
    rw [bkS_all] at b2
    refine ⟨_, results_tmp rfl _ _ _, v, rfl, ownsRow_putObj b2 (.deferred none) hK rfl, ⟨b5, b6, b7, by rw [World.putObj_size]; exact b8, fun k hk ho => ?_⟩, b3⟩
    exact (World.putObj_heap_other (by omega)).trans (b9 k hk (fun e => ho e.symm))
  case stop =>
    rintro Dd c' pre W _ _ h _
    exact h.elim
end Go.Proofs.Ytgjnnlgeggamjaa
