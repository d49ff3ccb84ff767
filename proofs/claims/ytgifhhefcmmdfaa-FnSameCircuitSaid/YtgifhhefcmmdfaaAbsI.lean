/- The abstract run, ninth part: pieces of slices, append, len, plain builtins, calls. No program is named. -/
import Derived.Test.YtgifhhefcmmdfaaAbsH
import Derived.Maps.AppendAt
namespace Go.Proofs.Ytgifhhefcmmdfaa
set_option linter.unusedVariables false
open Go.RowKit

section
variable {P : Program} {T : Tab} {F : Ft} {S : St} {K : St → Prop} {w0 w w' : World} {M N : Nat → Prop} {b0 : Nat → Value} {nt : Nat} {β : Nat → Value} {tm : Array Value} {ds : List Deferred} {next : Act → World → Prop} {Q : Exit → Act → World → Prop} {o : Oper}
variable {cf : FuncId → Option (List AV → Option Tmp → AM)}
theorem getVo_run {x : Option Operand} {k : Option Value → AM} (h : (getVo x k).run F S K) (hs : Sim w0 M N b0 nt β S w tm) : (k (x.map (Act.eval ⟨tm, ds⟩))).run F S K := by
  cases x with
  | none => exact h
  | some x => exact getV_run (ds := ds) h hs
theorem RoRep.part {ok : Nat → Prop} {sz n : Nat} {l : List Value} {A : Option Addr} {c : Nat} (h : RoRep w ok sz n l (.slice A n c)) (a b m : Nat) (h1 : a ≤ b) (h2 : b ≤ m) (h3 : m ≤ n) (A' : Option Addr)
    (hA : A' = (if m = a then A else A.map (·.add (a * sz)))) : RoRep w ok sz (b - a) ((l.drop (a * sz)).take ((b - a) * sz)) (.slice A' (b - a) (m - a)) := by
  obtain ⟨⟨g1, g2⟩, A1, c1, g3, g4, g5, g6⟩ := h
  cases g3
  have hm : (b - a) * sz + a * sz ≤ n * sz := by rw [← Nat.add_mul]; exact Nat.mul_le_mul_right sz (by omega)
  refine ⟨⟨?_, ?_⟩, A', m - a, rfl, by omega, by omega, fun hn => ?_⟩
  · simp only [List.length_take, List.length_drop]; omega
  · rw [List.all_eq_true] at g2 ⊢
    exact fun x hx => g2 x (List.mem_of_mem_drop (List.mem_of_mem_take hx))
  · obtain ⟨g, off, rfl, hok, hc⟩ := g6 (by omega)
    refine ⟨g, off + a * sz, ?_, hok, hc.part _ _⟩
    rw [hA, if_neg (by omega)]
    simp [add_lit]
theorem bound_run {P : Program} (v : Value) (k : IntKind) (x : Int) (y : Nat) (code : BoundsCode) (w : World) (hv : v = .int k x) (h0 : 0 ≤ x) (h1 : x ≤ y) : (Instr.sliceBound v y code).run P w = .ok x.toNat w := by
  subst hv
  simp only [Instr.sliceBound, asIntOf, Sem.run_bind, Sem.run_pure, Result.andThen_ok, Sem.run_ite]
  rw [if_pos ⟨h0, h1⟩]
/-- The bounds of a piece. -/
theorem bounds_run {P : Program} {n c : Nat} {lo hi mx : Option Value} {l h m : Int} (hl : lo0 lo = some l) (hh : hi0 n hi = some h) (hm : hi0 n mx = some m) (h0 : 0 ≤ l) (h1 : l ≤ h) (h2 : h ≤ m) (h3 : m ≤ n) (hc : n ≤ c) (hmx : hi = none → mx = none) (w : World) :
    (Instr.sliceBounds true n c lo hi mx).run P w = .ok (l.toNat, h.toNat, if mx = none then c else m.toNat) w := by
  have hlo : ∀ (code : BoundsCode), lo = none ∧ l = 0 ∨ ∃ v, lo = some v ∧ (Instr.sliceBound v h.toNat code).run P w = .ok l.toNat w := by
    intro code
    unfold lo0 at hl
    split at hl
    · cases hl; exact .inl ⟨rfl, rfl⟩
    · cases hl; exact .inr ⟨_, rfl, bound_run _ _ _ _ _ _ rfl h0 (by omega)⟩
    · cases hl
  have hm' : mx = none ∨ ∃ v, mx = some v ∧ (Instr.sliceBound v c .slice3Acap).run P w = .ok m.toNat w := by
    unfold hi0 at hm
    split at hm
    · exact .inl rfl
    · cases hm; exact .inr ⟨_, rfl, bound_run _ _ _ _ _ _ rfl (by omega) (by omega)⟩
    · cases hm
  have hhi : hi = none ∧ h = n ∨ ∃ v k, hi = some v ∧ v = .int k h := by
    unfold hi0 at hh
    split at hh
    · cases hh; exact .inl ⟨rfl, rfl⟩
    · cases hh; exact .inr ⟨_, _, rfl, rfl⟩
    · cases hh
  rcases hm' with rfl | ⟨mv, rfl, hmr⟩
  · rcases hhi with ⟨rfl, rfl⟩ | ⟨v, k, rfl, hv⟩
    · rcases hlo .sliceB with ⟨rfl, rfl⟩ | ⟨v, rfl, hr⟩
      · simp [Instr.sliceBounds]
      · simp only [Int.toNat_natCast] at hr
        simp [Instr.sliceBounds, hr]
    · have hr2 : ∀ code, (Instr.sliceBound v c code).run P w = .ok h.toNat w := fun code => bound_run v k h c code w hv (by omega) (by omega)
      rcases hlo .sliceB with ⟨rfl, rfl⟩ | ⟨v', rfl, hr⟩
      · simp [Instr.sliceBounds, hr2]
      · simp [Instr.sliceBounds, hr2, hr]
  · rcases hhi with ⟨rfl, _⟩ | ⟨v, k, rfl, hv⟩
    · cases hmx rfl
    · have hr2 : (Instr.sliceBound v m.toNat .slice3B).run P w = .ok h.toNat w := bound_run v k h _ _ w hv (by omega) (by omega)
      rcases hlo .slice3C with ⟨rfl, rfl⟩ | ⟨v', rfl, hr⟩
      · simp [Instr.sliceBounds, hmr, hr2]
      · simp [Instr.sliceBounds, hmr, hr2, hr]
/-- A slice value of an own row, or of one that is only read from now on. -/
theorem Sim.cur_sl (hs : Sim w0 M N b0 nt β S w tm) {i r n : Nat} {e : Ent} {y : Value} (h : AC.rep w β S.G (okB w0 N β S.G w) (.sl i r n) y) (he : S.G i = some (r, e)) : ∃ A m c, β i = .slice A m c ∧ n ≤ m ∧ y = .slice A n c := by
  obtain ⟨_, r', e', h1, h2, h3⟩ := h
  rw [he] at h1
  obtain ⟨rfl, _⟩ := Prod.mk.inj (Option.some.inj h1)
  exact h3 rfl
theorem row_ro {ok : Nat → Prop} {w : World} {v : Value} {e : TypeId} {sz n : Nat} {l : List Value} (h : ownR w e sz v n l) (h1 : l.all (·.oneCell') = true) (hok : ∀ b, blk? v = some b → ok b) : RoRep w ok sz n l v := by
  obtain ⟨h2, h3⟩ := h
  rcases h3 with ⟨rfl, rfl⟩ | ⟨g, cap, cur, rfl, _, p4, p5, p6, p7, p8⟩
  · exact ⟨⟨h2, h1⟩, none, 0, rfl, by omega, by unfold maxLen; omega, fun h => by omega⟩
  · refine ⟨⟨h2, h1⟩, _, cap, rfl, p5, p6, fun hn => ⟨g, 0, rfl, hok g rfl, ?_⟩⟩
    have := row_cells (w := w) p4 p8 0 l.length
    simpa using this
theorem ro_prefix {ok : Nat → Prop} {w : World} {sz m n : Nat} {l : List Value} {A : Option Addr} {c : Nat} (h : RoRep w ok sz m l (.slice A m c)) (hn : n ≤ m) (hl : n * sz ≤ l.length) : RoRep w ok sz n (l.take (n * sz)) (.slice A n c) := by
  obtain ⟨⟨g1, g2⟩, A1, c1, g3, g4, g5, g6⟩ := h
  cases g3
  refine ⟨⟨by simp only [List.length_take]; omega, ?_⟩, A, c, rfl, by omega, g5, fun h0 => ?_⟩
  · rw [List.all_eq_true] at g2 ⊢
    exact fun x hx => g2 x (List.mem_of_mem_take hx)
  · obtain ⟨b, off, e, hok, hc⟩ := g6 (by omega)
    refine ⟨b, off, e, hok, ?_⟩
    have := hc.part 0 (n * sz)
    simpa using this
/-- A piece of a slice. -/
theorem run_piece (hT : TabOk P T) {t e sz n c : Nat} {agg : Bool} {A : Option Addr} {l h' m : Int} {lv hv mv : Option Value} (by' : Nat) (hl : find1 T.elt t = some (none, e, agg, sz, by')) (g1 : lo0 lv = some l) (g2 : hi0 n hv = some h') (g3 : hi0 n mv = some m) (g4 : 0 ≤ l) (g5 : l ≤ h') (g6 : h' ≤ m) (g7 : m ≤ n) (g8 : n ≤ c) (g9 : hv = none → mv = none) :
    (Instr.sliceAt t (.slice A n c) lv hv mv).run P w = .ok (.slice (if (if mv = none then c else m.toNat) = l.toNat then A else A.map (·.add (l.toNat * sz))) (h'.toNat - l.toNat) ((if mv = none then c else m.toNat) - l.toNat)) w := by
  obtain ⟨hu, hlay, _⟩ := elt_facts hT hl
  have hb := bounds_run (P := P) g1 g2 g3 g4 g5 g6 g7 g8 g9 w
  have hsz := (run_isAgg hlay w).2
  simp only [Instr.sliceAt, Instr.slice, Sem.run_bind, run_underlying hu, Result.andThen_ok, hb, hsz, Sem.run_pure]
theorem ro_piece (hT : TabOk P T) {ok : Nat → Prop} {t e sz n : Nat} {agg : Bool} {c : List Value} {v0 : Value} {l h' m : Int} {lv hv mv : Option Value} (by' : Nat) (hrr : RoRep w ok sz n c v0) (hl : find1 T.elt t = some (none, e, agg, sz, by')) (g1 : lo0 lv = some l) (g2 : hi0 n hv = some h') (g3 : hi0 n mv = some m) (g4 : 0 ≤ l) (g5 : l ≤ h') (g6 : h' ≤ m) (g7 : m ≤ n) (g9 : hv = none → mv = none) :
    ∃ v, (Instr.sliceAt t v0 lv hv mv).run P w = .ok v w ∧ RoRep w ok sz (h' - l).toNat ((c.drop (l.toNat * sz)).take ((h' - l).toNat * sz)) v := by
  obtain ⟨g10, A, cap, he, g11, g12, g13⟩ := hrr
  rw [he, run_piece hT by' hl g1 g2 g3 g4 g5 g6 g7 g11 g9]
  refine ⟨_, rfl, ?_⟩
  have hrr : RoRep w ok sz n c (.slice A n cap) := ⟨g10, A, cap, rfl, g11, g12, g13⟩
  have e1 : (h' - l).toNat = h'.toNat - l.toNat := by omega
  rw [e1]
  by_cases hmn : mv = none
  · simp only [hmn, if_true]
    obtain ⟨⟨q1, q2⟩, A1, c1, q3, q4, q5, q6⟩ := hrr
    cases q3
    have hmul : (h'.toNat - l.toNat) * sz + l.toNat * sz ≤ n * sz := by rw [← Nat.add_mul]; exact Nat.mul_le_mul_right sz (by omega)
    refine ⟨⟨by simp only [List.length_take, List.length_drop]; omega, ?_⟩, _, cap - l.toNat, rfl, by omega, by omega, fun hpos => ?_⟩
    · rw [List.all_eq_true] at q2 ⊢
      exact fun x hx => q2 x (List.mem_of_mem_drop (List.mem_of_mem_take hx))
    · obtain ⟨g, off, rfl, hok, hc⟩ := q6 (by omega)
      refine ⟨g, off + l.toNat * sz, ?_, hok, hc.part _ _⟩
      rw [if_neg (by omega)]
      simp [add_lit]
  · simp only [hmn, if_false]
    exact hrr.part l.toNat h'.toNat m.toNat (by omega) (by omega) (by omega) _ rfl
theorem take_piece {α : Type} (c : List α) (a b k : Nat) (h : a + b ≤ k) : ((c.take k).drop a).take b = (c.drop a).take b := by
  rw [List.drop_take, List.take_take, Nat.min_eq_left (by omega)]
/-- A slice that is the whole row. -/
theorem ro_whole {ok : Nat → Prop} {w : World} {sz m n : Nat} {l : List Value} {A : Option Addr} {c : Nat} (h : RoRep w ok sz m l (.slice A m c)) (hl : l.length = n * sz) (hz : 0 < sz) : RoRep w ok sz n l (.slice A n c) ∧ n = m := by
  have e : n * sz = m * sz := hl.symm.trans h.1.1
  have e2 : n = m := Nat.eq_of_mul_eq_mul_right hz e
  subst e2
  exact ⟨h, rfl⟩
theorem s_slice (hT : TabOk P T) {t : Nat} {x : Operand} {lo hi mx : Option Operand} (ho : o.op = .slice t x lo hi mx) (h : (aop P T cf o).run F S K) (hs : Sim w0 M N b0 nt β S w tm) (hd : ∀ t, o.dst = some t → t < nt) (hn : Nx w0 M N b0 nt ds K next) : o.wp P ⟨tm, ds⟩ w next Q := by
  simp only [aop, ho] at h
  obtain ⟨a, h, hr⟩ := getO_run (ds := ds) h hs
  have h := getVo_run (ds := ds) (getVo_run (ds := ds) (getVo_run (ds := ds) h hs) hs) hs
  generalize hlv : lo.map (Act.eval ⟨tm, ds⟩) = lv at h
  generalize hhv : hi.map (Act.eval ⟨tm, ds⟩) = hv at h
  generalize hmv : mx.map (Act.eval ⟨tm, ds⟩) = mv at h
  have fin : ∀ {β' : Nat → Value} {S' : St} {v : Value} {z : AV}, (Instr.sliceAt t (Act.eval ⟨tm, ds⟩ x) lv hv mv).run P w = .ok v w → Sim w0 M N b0 nt β' S' w tm → (putD o.dst z).run F S' K → z.rep w β' S'.G (okB w0 N β' S'.G w) v → o.wp P ⟨tm, ds⟩ w next Q := by
    intro β' S' v z hrun hs' hp hz
    refine wp_value (v := v) (w' := w) ?_ (putD_run hp hs' hd hz hn)
    unfold execOp
    simp only [ho, hlv, hhv, hmv, Sem.run_bind, hrun, Result.andThen_ok, Sem.run_pure]
  match a, h, hr with
  | .g (.one (.v (.string s))), h, hr =>
    obtain ⟨r, ⟨g1, g2⟩, h⟩ := h
    have e : Act.eval ⟨tm, ds⟩ x = .string s := hr.1
    exact fin (by rw [e]; exact g2 w) hs h (ofv_rep g1)
  | .g (.one (.v (.slice none 0 0))), h, hr =>
    obtain ⟨⟨arr, e, agg, sz, by'⟩, hl, h⟩ := orFail_run h
    obtain ⟨l, g1, h⟩ := orFail_run h
    obtain ⟨h', g2, h⟩ := orFail_run h
    obtain ⟨m, g3, h⟩ := orFail_run h
    obtain ⟨⟨rfl, rfl, rfl, rfl, g9⟩, hk⟩ := h
    have e : Act.eval ⟨tm, ds⟩ x = .slice none 0 0 := hr.1
    have := run_piece (w := w) (P := P) hT (A := none) (n := 0) (c := 0) by' hl g1 g2 g3 (by omega) (by omega) (by omega) (by omega) (by omega) g9
    refine fin (by rw [e]; exact this) hs hk ?_
    have e2 : (Value.slice (if (if mv = none then 0 else (0 : Int).toNat) = (0 : Int).toNat then none else Option.map (fun (x : Addr) => x.add ((0 : Int).toNat * sz)) none) ((0 : Int).toNat - (0 : Int).toNat) ((if mv = none then 0 else (0 : Int).toNat) - (0 : Int).toNat)) = .slice none 0 0 := by
      split <;> simp
    rw [e2]
    exact ⟨rfl, rfl⟩
  | .g (.one (.ro z n c)), h, hr =>
    obtain ⟨⟨arr, e, agg, sz, by'⟩, hl, h⟩ := orFail_run h
    obtain ⟨l, g1, h⟩ := orFail_run h
    obtain ⟨h', g2, h⟩ := orFail_run h
    obtain ⟨m, g3, h⟩ := orFail_run h
    obtain ⟨⟨harr, hz, g4, g5, g6, g7, g9⟩, hk⟩ := h
    dsimp only at harr hz hk
    subst harr hz
    obtain ⟨v, k1, k2⟩ := ro_piece (P := P) hT by' hr hl g1 g2 g3 g4 g5 g6 g7 g9
    exact fin k1 hs hk k2
  | .g (.one (.sl i r n)), h, hr =>
    obtain ⟨⟨arr, e, agg, sz, by'⟩, hl, h⟩ := orFail_run h
    obtain ⟨l, g1, h⟩ := orFail_run h
    obtain ⟨h', g2, h⟩ := orFail_run h
    obtain ⟨m, g3, h⟩ := orFail_run h
    obtain ⟨_, h⟩ := h
    dsimp only at h
    have hmul : ∀ z : Nat, 0 ≤ l → l ≤ h' → h' ≤ m → m ≤ n → l.toNat * z + (h' - l).toNat * z ≤ n * z := by
      intro z q1 q2 q3 q4
      rw [← Nat.add_mul]; exact Nat.mul_le_mul_right z (by omega)
    split at h
    · rename_i r' e' z c hG
      obtain ⟨⟨hr', harr, hz, hle, g4, g5, g6, g7, g9⟩, hk⟩ := h
      subst hr' harr hz
      obtain ⟨A, m', cap, q1, q2, q3⟩ := hs.cur_sl hr hG
      obtain ⟨p0, e2, n2, p1, p2⟩ := hs.ents i r _ hG
      have hn2 : n2 = m' ∧ n2 ≤ cap := by
        rw [q1] at p2
        rcases p2.2 with ⟨p3, rfl⟩ | ⟨g, cap', cur, p3, _, _, p5, _⟩
        · cases p3; exact ⟨rfl, by omega⟩
        · cases p3; exact ⟨rfl, p5⟩
      obtain ⟨rfl, hcap⟩ := hn2
      split at hk
      · have hw2 := run_piece (w := w) (P := P) hT (A := A) (n := n) (c := cap) by' hl g1 g2 g3 g4 g5 g6 g7 (by omega) g9
        cases g1
        have e3 : (Value.slice (if (if (none : Option Value) = none then cap else m.toNat) = (0 : Int).toNat then A else Option.map (fun (x : Addr) => x.add ((0 : Int).toNat * z)) A) (h'.toNat - (0 : Int).toNat) ((if (none : Option Value) = none then cap else m.toNat) - (0 : Int).toNat)) = .slice A h'.toNat cap := by
          have e4 : Option.map (fun (x : Addr) => x.add ((0 : Int).toNat * z)) A = A := by cases A <;> simp [Addr.add]
          rw [e4]
          simp
        refine fin (by rw [q3]; exact hw2) hs hk ?_
        rw [e3]
        exact ⟨rfl, r, _, hG, Nat.le_refl _, fun _ => ⟨A, n2, cap, q1, by omega, rfl⟩⟩
      · obtain ⟨_, hk⟩ := hk
        have hw2 := run_piece (w := w) (P := P) hT (A := A) (n := n) (c := cap) by' hl g1 g2 g3 g4 g5 g6 g7 (by omega) g9
        cases g1
        have e3 : ∀ v0 : Value, (Value.slice (if (if (some v0 : Option Value) = none then cap else m.toNat) = (0 : Int).toNat then A else Option.map (fun (x : Addr) => x.add ((0 : Int).toNat * z)) A) (h'.toNat - (0 : Int).toNat) ((if (some v0 : Option Value) = none then cap else m.toNat) - (0 : Int).toNat)) = .slice A h'.toNat m.toNat := by
          intro v0
          have e4 : Option.map (fun (x : Addr) => x.add ((0 : Int).toNat * z)) A = A := by cases A <;> simp [Addr.add]
          rw [e4]
          simp
        rw [e3] at hw2
        have hblk : ∀ b, blk? (Value.slice A h'.toNat m.toNat) = some b → blk? (β i) = some b := by
          intro b hb
          rw [q1]
          cases A with
          | none => cases hb
          | some a => exact hb
        have hle2 : h'.toNat * z ≤ c.length := Nat.le_trans (Nat.mul_le_mul_right z (by omega)) hle
        obtain ⟨β', h1, h2, h3, h4⟩ := hs.change1 (w' := w) i (r + 1) (.row e' z (c.take (h'.toNat * z))) (.slice A h'.toNat m.toNat) rfl rfl rfl (Nat.le_refl _)
          (fun r1 e1 hg => by rw [hG] at hg; cases hg; exact ⟨Nat.le_succ _, fun he => by omega⟩)
          (fun k _ _ => rfl)
          (fun b _ hb => ⟨(hs.fresh i r _ b hG trivial (hblk b hb)).1, .inr ⟨r, _, hG, trivial, hblk b hb⟩⟩)
          (fun _ => ⟨_, hG⟩)
          (fun β' G' _ _ hok hold hβ => ⟨by
              rw [List.all_eq_true] at p0 ⊢
              exact fun x hx => p0 x (List.mem_of_mem_take hx), e2, h'.toNat, p1, by
              rw [hβ]
              rw [q1] at p2
              refine ⟨by simp only [List.length_take]; omega, ?_⟩
              rcases p2.2 with ⟨p3, hz0⟩ | ⟨g, cap', cur, p3, p4, p5, p6, p7, p8, p9⟩
              · cases p3
                exact .inl ⟨by rw [show h'.toNat = 0 by omega, show m.toNat = 0 by omega], by omega⟩
              · cases p3
                refine .inr ⟨g, m.toNat, cur, rfl, p4, p5, by omega, by omega, ?_, ?_⟩
                · exact Nat.le_trans (Nat.mul_le_mul_right z (by omega)) p8
                · rw [← p9, List.take_take, Nat.min_eq_left (Nat.mul_le_mul_right z (by omega))]⟩)
        exact fin (by rw [q3]; exact hw2) h1 hk ⟨rfl, r + 1, _, upd_same _ _ _, Nat.le_refl _, fun _ => ⟨A, h'.toNat, m.toNat, h2, Nat.le_refl _, rfl⟩⟩
      · obtain ⟨hi', _, hk⟩ := hk
        obtain ⟨β', k1, k2, k3, k4⟩ := hs.change1 (w' := w) i r (.fro z c) (β i) rfl rfl rfl (Nat.le_refl _)
          (fun r1 e1 hg => by rw [hG] at hg; cases hg; exact ⟨Nat.le_refl _, fun _ => rfl⟩) (fun k _ _ => rfl) (fun b hb _ => hb.elim) (fun _ => ⟨_, hG⟩)
          (fun β' G' hβ hG' hok hold hβi => by
            refine ⟨n2, ?_⟩
            rw [hβi]
            refine row_ro p2 p0 fun b hb => ?_
            have hf := hs.fresh i r _ b hG trivial hb
            refine ⟨hf.1, ?_, fun hlt => ?_⟩
            · rintro ⟨j, r1, e1, hj, hlive, hjb⟩
              by_cases hji : j = i
              · subst hji
                rw [hG', upd_same] at hj
                cases hj
                exact hlive.elim
              · rw [hG', upd_ne _ _ hji] at hj
                rw [hβ] at hjb
                simp only [hji, if_false] at hjb
                exact hji (hs.apart j i r1 e1 r _ b hj hlive hG trivial hjb hb)
            · rcases hf.2 with hf | hf
              · omega
              · omega)
        obtain ⟨n3, hfro⟩ := k1.ents i r _ (upd_same _ _ _)
        have hr2 : RoRep w (okB w0 N β' (S.lay i (some (r, Ent.fro z c))).G w) z n (c.take (n * z)) (Act.eval ⟨tm, ds⟩ x) := by
          rw [q3]
          rw [k2, q1] at hfro
          have hn3 : n3 = n2 := by
            obtain ⟨_, A3, c3, hq, _⟩ := hfro
            cases hq; rfl
          subst hn3
          exact ro_prefix hfro q2 hle
        obtain ⟨v, j1, j2⟩ := ro_piece (P := P) hT by' hr2 hl g1 g2 g3 g4 g5 g6 g7 g9
        refine fin j1 k1 hk ?_
        rw [take_piece _ _ _ _ (hmul z g4 g5 g6 g7)] at j2
        exact j2
    · rename_i r' z c hG
      obtain ⟨⟨hr', harr, hz, hle, g4, g5, g6, g7, g9⟩, hk⟩ := h
      subst hr' harr hz
      obtain ⟨A, m', cap, q1, q2, q3⟩ := hs.cur_sl hr hG
      obtain ⟨n3, hfro⟩ := hs.ents i r _ hG
      have hr2 : RoRep w (okB w0 N β S.G w) z n (c.take (n * z)) (Act.eval ⟨tm, ds⟩ x) := by
        rw [q3]
        rw [q1] at hfro
        have hn3 : n3 = m' := by
          obtain ⟨_, A3, c3, hq, _⟩ := hfro
          cases hq; rfl
        subst hn3
        exact ro_prefix hfro q2 hle
      obtain ⟨v, j1, j2⟩ := ro_piece (P := P) hT by' hr2 hl g1 g2 g3 g4 g5 g6 g7 g9
      refine fin j1 hs hk ?_
      rw [take_piece _ _ _ _ (hmul z g4 g5 g6 g7)] at j2
      exact j2
    · exact h.elim
end
end Go.Proofs.Ytgifhhefcmmdfaa
