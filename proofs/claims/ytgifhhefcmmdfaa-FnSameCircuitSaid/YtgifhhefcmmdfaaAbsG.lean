/- The abstract run, seventh part: addresses of fields and elements, and plain work. No program is named. -/
import Derived.Test.YtgifhhefcmmdfaaAbsF
namespace Go.Proofs.Ytgifhhefcmmdfaa
set_option linter.unusedVariables false
open Go.RowKit

section
variable {P : Program} {T : Tab} {F : Ft} {S : St} {K : St → Prop} {w0 w w' : World} {M N : Nat → Prop} {b0 : Nat → Value} {nt : Nat} {β : Nat → Value} {tm : Array Value} {ds : List Deferred} {next : Act → World → Prop} {Q : Exit → Act → World → Prop} {o : Oper}
variable {cf : FuncId → Option (List AV → Option Tmp → AM)}
theorem s_move {x : Operand} (ho : o.op = .move x ∨ o.op = .assign x) (h : (aop P T cf o).run F S K) (hs : Sim w0 M N b0 nt β S w tm) (hd : ∀ t, o.dst = some t → t < nt) (hn : Nx w0 M N b0 nt ds K next) : o.wp P ⟨tm, ds⟩ w next Q := by
  rcases ho with ho | ho <;>
  · simp only [aop, ho] at h
    obtain ⟨a, h, hr⟩ := getO_run (ds := ds) h hs
    exact wp_value (by unfold execOp; simp only [ho]; rfl) (putD_run h hs hd hr hn)
theorem s_pick {c x y : Operand} (ho : o.op = .pick c x y) (h : (aop P T cf o).run F S K) (hs : Sim w0 M N b0 nt β S w tm) (hd : ∀ t, o.dst = some t → t < nt) (hn : Nx w0 M N b0 nt ds K next) : o.wp P ⟨tm, ds⟩ w next Q := by
  simp only [aop, ho] at h
  obtain ⟨cv, h, hrc⟩ := getO_run (ds := ds) h hs
  match cv, h, hrc with
  | .g (.one (.v (.bool t))), h, hrc =>
    have e : Act.eval ⟨tm, ds⟩ c = .bool t := hrc.1
    obtain ⟨a, h, hr⟩ := getO_run (ds := ds) h hs
    refine wp_value (v := Act.eval ⟨tm, ds⟩ (if t then x else y)) (w' := w) ?_ (putD_run h hs hd hr hn)
    unfold execOp; simp only [ho, e, asBool, Sem.run_bind, Sem.run_pure, Result.andThen_ok]
    cases t <;> rfl
theorem val_run {s : Sem Value} {r : Value} (h : s.run P w = .ok r w) : (do pure (Next.value (← s)) : Sem Next).run P w = .ok (.value r) w := by simp [h]
theorem s_binOp {op : BinOp} {t : TypeId} {x y : Operand} {yt : TypeId} (ho : o.op = .binOp op t x y yt) (h : (aop P T cf o).run F S K) (hs : Sim w0 M N b0 nt β S w tm) (hd : ∀ t, o.dst = some t → t < nt) (hn : Nx w0 M N b0 nt ds K next) : o.wp P ⟨tm, ds⟩ w next Q := by
  simp only [aop, ho] at h
  obtain ⟨a, h, hr⟩ := getO_run (ds := ds) h hs
  split at h
  · rename_i n hn0
    unfold isRo at hn0
    split at hn0
    · rename_i z n' l
      cases hn0
      obtain ⟨⟨h0, hy⟩, h⟩ := h
      obtain ⟨_, A, c, e, _, _, h5⟩ := hr
      obtain ⟨b, off, rfl, _⟩ := h5 h0
      obtain ⟨r, ⟨h6, h7⟩, h⟩ := h
      refine wp_value (v := r) (w' := w) ?_ (putD_run h hs hd (ofv_rep h6) hn)
      unfold execOp
      simp only [ho]
      have h8 := h7 b off c w
      have ey : Act.eval ⟨tm, ds⟩ y = .slice none 0 0 := by rw [hy]; rfl
      rw [e, ey]
      exact val_run h8
    · cases hn0
  · split at h
    · rename_i v hv
      have := pval_rep hv hr
      rw [← this] at h
      have h := getV_run (ds := ds) h hs
      exact exr_sound h hs hd hn (by unfold execOp; simp only [ho])
    · exact h.elim
theorem s_unOp {op : UnOp} {t : TypeId} {x : Operand} (ho : o.op = .unOp op t x) (h : (aop P T cf o).run F S K) (hs : Sim w0 M N b0 nt β S w tm) (hd : ∀ t, o.dst = some t → t < nt) (hn : Nx w0 M N b0 nt ds K next) : o.wp P ⟨tm, ds⟩ w next Q := by
  simp only [aop, ho] at h
  have h := getV_run (ds := ds) h hs
  exact exr_sound h hs hd hn (by unfold execOp; simp only [ho])
theorem s_convert {a b : TypeId} {x : Operand} (ho : o.op = .convert a b x) (h : (aop P T cf o).run F S K) (hs : Sim w0 M N b0 nt β S w tm) (hd : ∀ t, o.dst = some t → t < nt) (hn : Nx w0 M N b0 nt ds K next) : o.wp P ⟨tm, ds⟩ w next Q := by
  simp only [aop, ho] at h
  have h := getV_run (ds := ds) h hs
  exact exr_sound h hs hd hn (by unfold execOp; simp only [ho])
theorem s_index {t : TypeId} {x y : Operand} (ho : o.op = .index t x y) (h : (aop P T cf o).run F S K) (hs : Sim w0 M N b0 nt β S w tm) (hd : ∀ t, o.dst = some t → t < nt) (hn : Nx w0 M N b0 nt ds K next) : o.wp P ⟨tm, ds⟩ w next Q := by
  simp only [aop, ho] at h
  have h := getV_run (ds := ds) (getV_run (ds := ds) h hs) hs
  exact exr_sound h hs hd hn (by unfold execOp; simp only [ho])
theorem s_extract {x : Operand} {k : Nat} (ho : o.op = .extract x k) (h : (aop P T cf o).run F S K) (hs : Sim w0 M N b0 nt β S w tm) (hd : ∀ t, o.dst = some t → t < nt) (hn : Nx w0 M N b0 nt ds K next) : o.wp P ⟨tm, ds⟩ w next Q := by
  simp only [aop, ho] at h
  obtain ⟨a, h, hr⟩ := getO_run (ds := ds) h hs
  match a, h, hr with
  | .tup xs, h, hr =>
    obtain ⟨y, hy, h⟩ := orFail_run h
    obtain ⟨vs, he, h1, h2⟩ := hr
    obtain ⟨z, hz, hrz⟩ := h2 k y hy
    refine wp_value (v := z) (w' := w) ?_ (putD_run h hs hd hrz hn)
    unfold execOp
    simp only [ho, he, Instr.extract, hz, Sem.run_bind, Sem.run_pure, Result.andThen_ok]
theorem s_nilCheck {x : Operand} (ho : o.op = .nilCheck x) (h : (aop P T cf o).run F S K) (hs : Sim w0 M N b0 nt β S w tm) (hd : ∀ t, o.dst = some t → t < nt) (hn : Nx w0 M N b0 nt ds K next) : o.wp P ⟨tm, ds⟩ w next Q := by
  simp only [aop, ho] at h
  obtain ⟨a, h, hr⟩ := getO_run (ds := ds) h hs
  match a, h, hr with
  | .g (.one (.ptr i r off)), h, hr =>
    obtain ⟨_, h⟩ := h
    dsimp only at h
    split at h
    · rename_i r' e hG
      obtain ⟨rfl, h⟩ := h
      obtain ⟨b, _, he⟩ := hs.cur_ptr hr hG
      refine wp_value (v := Act.eval ⟨tm, ds⟩ x) (w' := w) ?_ (putD_run h hs hd hr hn)
      unfold execOp
      simp only [ho, he, Sem.run_pure]
    · exact h.elim
  | .g (.one (.rp l)), h, hr =>
    refine wp_value (v := Act.eval ⟨tm, ds⟩ x) (w' := w) ?_ (putD_run h hs hd hr hn)
    obtain ⟨_, b, off, he, _⟩ := hr
    unfold execOp
    simp only [ho, he, Sem.run_pure]
theorem s_fieldAddr (hT : TabOk P T) {s f : Nat} {x : Operand} (ho : o.op = .fieldAddr s x f) (h : (aop P T cf o).run F S K) (hs : Sim w0 M N b0 nt β S w tm) (hd : ∀ t, o.dst = some t → t < nt) (hn : Nx w0 M N b0 nt ds K next) : o.wp P ⟨tm, ds⟩ w next Q := by
  simp only [aop, ho] at h
  obtain ⟨a, h, hr⟩ := getO_run (ds := ds) h hs
  obtain ⟨⟨off, agg, size⟩, hf, h⟩ := orFail_run h
  obtain ⟨hlt, h⟩ := h
  obtain ⟨fs, fd, h1, h2, h3, h5, h4⟩ := fld_facts hT hf hlt
  have ha := run_isAgg h3 w
  have hne : ¬ size = 0 := by omega
  have hrun : ∀ b i, (Instr.fieldAt s (.pointer (some ⟨b, i, none⟩)) f).run P w = .ok (.pointer (some ⟨b, i + off, none⟩)) w := by
    intro b i
    simp only [Instr.fieldAt, Sem.run_bind, run_underlying h1, Result.andThen_ok, h2, Instr.sureAddr, Sem.run_pure, fieldPlace, ha.2, hne, if_false, add_lit, h5]
  match a, h, hr with
  | .g (.one (.ptr i r b)), h, hr =>
    obtain ⟨_, h⟩ := h
    dsimp only at h
    split at h
    · rename_i r' e hG
      obtain ⟨rfl, h⟩ := h
      obtain ⟨g, hb, he⟩ := hs.cur_ptr hr hG
      refine wp_value (v := .pointer (some ⟨g, b + off, none⟩)) (w' := w) ?_ (putD_run h hs hd ⟨rfl, r, e, hG, Nat.le_refl _, fun _ => ⟨g, hb, rfl⟩⟩ hn)
      unfold execOp
      simp only [ho, he, Sem.run_bind, hrun, Result.andThen_ok, Sem.run_pure]
    · exact h.elim
  | .g (.one (.rp l)), h, hr =>
    obtain ⟨h0, b, i, he, hok, hc⟩ := hr
    refine wp_value (v := .pointer (some ⟨b, i + off, none⟩)) (w' := w) ?_ (putD_run h hs hd ⟨?_, b, i + off, rfl, hok, ?_⟩ hn)
    · unfold execOp
      simp only [ho, he, Sem.run_bind, hrun, Result.andThen_ok, Sem.run_pure]
    · rw [List.all_eq_true] at h0 ⊢
      exact fun x hx => h0 x (List.mem_of_mem_drop hx)
    · intro j x hj
      rw [List.getElem?_drop] at hj
      rw [Nat.add_assoc]; exact hc _ x hj
theorem elt_facts (hT : TabOk P T) {t e sz by' : Nat} {agg : Bool} {arr : Option Nat} (h : find1 T.elt t = some (arr, e, agg, sz, by')) :
    (P.underlying t = some (match arr with | none => .slice e | some n => .array n e)) ∧ layP P e = some (agg, sz) ∧ 0 < sz ∧ ∃ i, P.info? e = some i ∧ i.bytes = by' ∧ i.size = sz := by
  obtain ⟨h1, h2⟩ := hT.elt _ (find1_mem h)
  unfold eltP at h1
  split at h1
  · rename_i e' he
    split at h1
    · rename_i a k i hl hi
      simp only [Option.some.injEq, Prod.mk.injEq] at h1
      obtain ⟨rfl, rfl, rfl, rfl, rfl⟩ := h1
      refine ⟨he, hl, h2, i, hi, rfl, ?_⟩
      unfold layP at hl
      rw [hi] at hl
      cases hu : P.underlying e' <;> simp_all
    · cases h1
  · rename_i n e' he
    split at h1
    · rename_i a k i hl hi
      simp only [Option.some.injEq, Prod.mk.injEq] at h1
      obtain ⟨rfl, rfl, rfl, rfl, rfl⟩ := h1
      refine ⟨he, hl, h2, i, hi, rfl, ?_⟩
      unfold layP at hl
      rw [hi] at hl
      cases hu : P.underlying e' <;> simp_all
    · cases h1
  · cases h1
theorem s_indexAddr (hT : TabOk P T) {t : Nat} {x y : Operand} (ho : o.op = .indexAddr t x y) (h : (aop P T cf o).run F S K) (hs : Sim w0 M N b0 nt β S w tm) (hd : ∀ t, o.dst = some t → t < nt) (hn : Nx w0 M N b0 nt ds K next) : o.wp P ⟨tm, ds⟩ w next Q := by
  simp only [aop, ho] at h
  obtain ⟨a, h, hr⟩ := getO_run (ds := ds) h hs
  have h := getV_run (ds := ds) h hs
  obtain ⟨⟨arr, e, agg, sz, by'⟩, hl, h⟩ := orFail_run h
  obtain ⟨hu, hlay, hpos, _⟩ := elt_facts hT hl
  have ha := run_isAgg hlay w
  split at h
  · rename_i k j hy
    have hslice : arr = none → ∀ (b off n c : Nat), 0 ≤ j → j < (n : Int) → (Instr.indexAt t (.slice (some ⟨b, off, none⟩) n c) (.int k j)).run P w = .ok (.pointer (some ⟨b, off + j.toNat * sz, none⟩)) w := by
      rintro rfl b off n c h0 h1
      have hc : 0 ≤ j ∧ j < (n : Int) := ⟨h0, h1⟩
      simp only [Instr.indexAt, asIntOf, Sem.run_bind, Sem.run_pure, Result.andThen_ok, run_underlying hu, Sem.run_ite]
      rw [if_pos hc]
      simp only [ha.2, Result.andThen_ok, add_lit]
    have harray : ∀ (n : Nat), arr = some n → ∀ (b off : Nat), 0 ≤ j → j < (n : Int) → (Instr.indexAt t (.pointer (some ⟨b, off, none⟩)) (.int k j)).run P w = .ok (.pointer (some ⟨b, off + j.toNat * sz, none⟩)) w := by
      rintro n rfl b off h0 h1
      have hc : 0 ≤ j ∧ j < (n : Int) := ⟨h0, h1⟩
      simp only [Instr.indexAt, asIntOf, Sem.run_bind, Sem.run_pure, Result.andThen_ok, run_underlying hu, Instr.sureAddr, Sem.run_ite]
      rw [if_pos hc]
      simp only [ha.2, Result.andThen_ok, add_lit]
    have fin : ∀ {v : Value} {z : AV}, (Instr.indexAt t (Act.eval ⟨tm, ds⟩ x) (.int k j)).run P w = .ok v w → (putD o.dst z).run F S K → z.rep w β S.G (okB w0 N β S.G w) v → o.wp P ⟨tm, ds⟩ w next Q := by
      intro v z hrun hp hz
      refine wp_value (v := v) (w' := w) ?_ (putD_run hp hs hd hz hn)
      unfold execOp
      simp only [ho, hy, Sem.run_bind, hrun, Result.andThen_ok, Sem.run_pure]
    have hro : ∀ {z n : Nat} {l : List Value}, arr = none → z = sz → 0 ≤ j → j < (n : Int) → RoRep w (okB w0 N β S.G w) z n l (Act.eval ⟨tm, ds⟩ x) → (putD o.dst (.g (.one (.rp (l.drop (j.toNat * sz)))))).run F S K → o.wp P ⟨tm, ds⟩ w next Q := by
      rintro z n l harr rfl h0 h1 ⟨⟨hlen, hone⟩, A, c, he, _, _, hcells⟩ hp
      obtain ⟨b, off, rfl, hok, hc⟩ := hcells (by omega)
      refine fin (by rw [he]; exact hslice harr b off n c h0 h1) hp ⟨?_, b, off + j.toNat * z, rfl, hok, ?_⟩
      · rw [List.all_eq_true] at hone ⊢
        exact fun x hx => hone x (List.mem_of_mem_drop hx)
      · intro j' x hj
        rw [List.getElem?_drop] at hj
        rw [Nat.add_assoc]; exact hc _ x hj
    match a, h, hr with
    | .g (.one (.ptr i r off)), h, hr =>
      cases arr with
      | some n =>
        obtain ⟨_, h⟩ := h
        dsimp only at h
        split at h
        · rename_i r' e' hG
          obtain ⟨⟨rfl, h0, h1⟩, h⟩ := h
          obtain ⟨g, hb, he⟩ := hs.cur_ptr hr hG
          exact fin (by rw [he]; exact harray n rfl g off h0 h1) h ⟨rfl, r, e', hG, Nat.le_refl _, fun _ => ⟨g, hb, rfl⟩⟩
        · exact h.elim
      | none => exact h.elim
    | .g (.one (.sl i r n)), h, hr =>
      cases arr with
      | some n => exact h.elim
      | none =>
        obtain ⟨_, h⟩ := h
        dsimp only at h
        split at h
        · rename_i r' e' z l hG
          obtain ⟨⟨rfl, hz, h0, h1⟩, h⟩ := h
          obtain ⟨_, r1, e1, g1, g2, g3⟩ := hr
          rw [hG] at g1
          cases g1
          obtain ⟨A, m, c, q1, q2, q3⟩ := g3 rfl
          obtain ⟨p0, e2, n2, p1, p2, p3⟩ := hs.ents i r _ hG
          rw [q1] at p3
          rcases p3 with ⟨p3, _⟩ | ⟨g, cap, cur, p3, _, p4, p5, p6, p7, p8⟩
          · cases p3; omega
          · cases p3
            refine fin (by rw [q3]; exact hslice rfl g 0 n _ h0 h1) h ⟨rfl, r, _, hG, Nat.le_refl _, fun _ => ⟨g, by rw [q1]; rfl, by simp⟩⟩
        · rename_i r' z l hG
          obtain ⟨⟨rfl, hz, h0, h1, hle⟩, h⟩ := h
          obtain ⟨_, r1, e1, g1, g2, g3⟩ := hr
          rw [hG] at g1
          cases g1
          obtain ⟨A, m, c, q1, q2, q3⟩ := g3 rfl
          obtain ⟨n2, ⟨hl1, hl2⟩, A2, c2, q4, q5, q6, q7⟩ := hs.ents i r _ hG
          rw [q1] at q4
          cases q4
          obtain ⟨b, off, rfl, hok, hc⟩ := q7 (by omega)
          refine fin (by rw [q3]; exact hslice rfl b off n c h0 h1) h ⟨?_, b, off + j.toNat * sz, rfl, hok, ?_⟩
          · rw [List.all_eq_true] at hl2 ⊢
            exact fun x hx => hl2 x (List.mem_of_mem_drop hx)
          · intro j' x hj
            rw [List.getElem?_drop] at hj
            rw [Nat.add_assoc]; exact hc _ x hj
        · exact h.elim
    | .g (.one (.ro z n' l)), h, hr =>
      cases arr with
      | some n => exact h.elim
      | none =>
        obtain ⟨⟨hz, h0, h1⟩, h⟩ := h
        exact hro rfl hz h0 h1 hr h
  · exact h.elim
end
end Go.Proofs.Ytgifhhefcmmdfaa
