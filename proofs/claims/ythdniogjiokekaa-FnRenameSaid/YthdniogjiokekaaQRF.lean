/- CutB: laid into one text. -/
import Derived.Test.YthdniogjiokekaaQRE

/- A piece of an own row laid behind another own row, in one step: the piece is not kept. No program is named. -/
namespace Go.Proofs.Ythdniogjiokekaa
set_option linter.unusedVariables false
set_option linter.unusedSimpArgs false
open Go.RowKit
section
variable {P : Program} {T : Tab} {S : St} {w0 w w' : World} {M N : Nat → Prop} {b0 : Nat → Value} {nt : Nat} {β : Nat → Value} {tm : Array Value} {ds : List Deferred} {next : Act → World → Prop} {Q : Exit → Act → World → Prop} {o : Oper} {K : St → Prop}
theorem s_append_sl (hT : TabOk P T) {x y : Operand} {t e sz by' m i r n d : Nat} {agg : Bool} {z news l : List Value} (ho : o.op = .call { callee := .builtin .append, args := #[x, y], argTypes := #[t, t] }) (hdst : o.dst = some d) (hl : find1 T.elt t = some (none, e, agg, sz, by')) (hz : find1 T.zer e = some z) (hzl : z.length = sz)
    (hsrc : RoRep w (fun b => b < w.heap.size) sz m news (Act.eval ⟨tm, ds⟩ y)) (hra : AC.rep w β S.G (okB w0 N β S.G w) (.sl i r n) (Act.eval ⟨tm, ds⟩ x)) (hG : S.G i = some (r, .row (some e) sz l)) (hle : n * sz ≤ l.length) (g1 : n + m ≤ maxLen) (g2 : (n + m) * by' ≤ 140737488355328)
    (hs : Sim w0 M N b0 nt β S w tm) (hd : d < nt) (hk : K ((S.lay i (some (r + 1, .row (some e) sz (l.take (n * sz) ++ news)))).put d (some (.g (.one (.sl i (r + 1) (n + m))))))) (hn : Nx w0 M N b0 nt ds K next) : o.wp P ⟨tm, ds⟩ w next Q := by
  obtain ⟨hu, hlay, hpos, i0, hi, hby, hisz⟩ := elt_facts hT hl
  obtain ⟨i', z1, hi', hz1, hzc, hz2⟩ := zer_facts hT hz
  have ei : i' = i0 := by rw [hi] at hi'; exact (Option.some.inj hi').symm
  subst ei
  have hzs : z1.cells.size = sz := by rw [hzc]; simpa using hzl
  obtain ⟨⟨n1, n2⟩, A, c, hy, n3, n4, n5⟩ := hsrc
  have happ : ∀ (v : Value) (n : Nat) (xs : List Value), ownR w e sz v n xs → n + m ≤ maxLen → (n + m) * by' ≤ 140737488355328 → ∃ v' w', (Builtin.append_ #[t, t] o.type #[v, Act.eval ⟨tm, ds⟩ y]).run P w = .ok v' w' ∧ ownR w' e sz v' (n + m) (xs ++ news) ∧ w.grownBy w' v.ownBlock ∧ (v'.ownBlock = v.ownBlock ∨ v'.ownBlock = some w.heap.size) := by
    intro v n xs hown g1 g2
    rw [hy]
    cases A with
    | none =>
      have hm : m = 0 := by
        rcases Nat.eq_zero_or_pos m with h0 | h0
        · exact h0
        · obtain ⟨b, off, hA, _⟩ := n5 h0; cases hA
      subst hm
      have hnews : news = [] := List.eq_nil_of_length_eq_zero (by omega)
      subst hnews
      refine ⟨v, w, ?_, by simpa using hown, World.grownBy.refl w _, .inl rfl⟩
      rcases hown.2 with ⟨rfl, rfl⟩ | ⟨g, cap, cur, rfl, _, _, hnc, _⟩
      · simp [Builtin.append_, run_underlying hu, sizeOf, typeInfo, hi, Builtin.lenOf, Builtin.firstCells]
      · simp [Builtin.append_, run_underlying hu, sizeOf, typeInfo, hi, Builtin.lenOf, Builtin.firstCells, hnc, storeCells]
    | some ad =>
      have hcells : ∀ j u, news[j]? = some u → w.cell? (ad.add j) = some u := by
        intro j u hu'
        rcases Nat.eq_zero_or_pos m with h0 | h0
        · subst h0
          have hnews : news = [] := List.eq_nil_of_length_eq_zero (by omega)
          subst hnews; simp at hu'
        · obtain ⟨b, off, hA, _, hc⟩ := n5 h0
          cases hA
          rw [add_lit]; exact hc j u hu'
      obtain ⟨v', w', k1, k2, k3, k5⟩ := run_append_ownR (P := P) w t o.type e i' z1 sz by' hu hi hz1 hisz hby hzs hpos v n xs hown ad m c news n1 hcells (fun u hu' => (List.all_eq_true.1 n2) u hu') g1 g2
      exact ⟨v', w', k1, k2, k3, k5⟩
  have hexec : ∀ {v' : Value} {w' : World}, (Builtin.append_ #[t, t] o.type #[Act.eval ⟨tm, ds⟩ x, Act.eval ⟨tm, ds⟩ y]).run P w = .ok v' w' → (execOp (Act.eval ⟨tm, ds⟩) o).run P w = .ok (.value v') w' := by
    intro v' w' hr
    unfold execOp
    simp only [ho, resolve, invoke, builtin, Sem.run_bind, Sem.run_pure, Result.andThen_ok, List.map_toArray, List.map_cons, List.map_nil, hr]
  have own_blk : ∀ {v' : Value} {w' : World} {n : Nat} {xs : List Value}, ownR w' e sz v' n xs → blk? v' = v'.ownBlock ∧ ∀ b, blk? v' = some b → b < w'.heap.size := by
    intro v' w' n xs h
    refine ⟨?_, fun b hb => ?_⟩
    · rcases h.2 with ⟨rfl, _⟩ | ⟨g, cap, cur, rfl, _⟩ <;> rfl
    · rcases h.2 with ⟨rfl, _⟩ | ⟨g, cap, cur, rfl, _, hg, _⟩
      · cases hb
      · cases hb; exact (Array.getElem?_eq_some_iff.1 hg).1
  have sl_of : ∀ {v' : Value} {w' : World} {n : Nat} {xs : List Value}, ownR w' e sz v' n xs → ∃ A c, v' = .slice A n c := by
    intro v' w' n xs h
    rcases h.2 with ⟨rfl, rfl⟩ | ⟨g, cap, cur, rfl, _⟩
    · exact ⟨_, _, rfl⟩
    · exact ⟨_, _, rfl⟩
  obtain ⟨A1, m1, cap, q1, q2, q3⟩ := hs.cur_sl hra hG
  obtain ⟨p0, e2, n6, p1, p2⟩ := hs.ents i r _ hG
  have e3 := p1 _ rfl
  subst e3
  rw [q1] at p2
  have hn6 : n6 = m1 := by
    rcases p2.2 with ⟨p3, rfl⟩ | ⟨g, cap', cur, p3, _⟩
    · cases p3; rfl
    · cases p3; rfl
  subst hn6
  obtain ⟨v', w', k1, k2, k3, k4⟩ := happ _ n _ (own_prefix p2 q2) g1 g2
  obtain ⟨o1, o2⟩ := own_blk k2
  obtain ⟨A', c', rfl⟩ := sl_of k2
  have hown : (Value.slice A1 n cap).ownBlock = blk? (β i) := by rw [q1]; cases A1 <;> rfl
  obtain ⟨β', h1, h2, h3, h4⟩ := hs.change1 (w' := w') i (r + 1) (.row (some e) sz (l.take (n * sz) ++ news)) (.slice A' (n + m) c') k3.os k3.tape k3.output k3.size
    (fun r1 e1 hg => by rw [hG] at hg; cases hg; exact ⟨Nat.le_succ _, fun he => by omega⟩)
    (fun k hk hne => k3.block k hk (fun ek => hne r _ hG trivial (by rw [← hown]; exact ek.symm)))
    (fun b _ hb => ⟨o2 b hb, by
      rw [o1] at hb
      rcases k4 with k4 | k4
      · right; exact ⟨r, _, hG, trivial, by rw [← hown, ← k4]; exact hb⟩
      · left; rw [k4] at hb; cases hb; exact Nat.le_refl _⟩)
    (fun _ => ⟨_, hG⟩)
    (fun β' G' _ _ hok hold hβ => ⟨by
        rw [List.all_append, Bool.and_eq_true]
        refine ⟨?_, n2⟩
        rw [List.all_eq_true] at p0 ⊢
        exact fun x hx => p0 x (List.mem_of_mem_take hx), e, n + m, fun x hx => by cases hx; rfl, by rw [hβ]; exact k2⟩)
  have hk' : (putD o.dst (.g (.one (.sl i (r + 1) (n + m))))).run Ft.all (S.lay i (some (r + 1, .row (some e) sz (l.take (n * sz) ++ news)))) K := by rw [hdst]; exact ⟨rfl, hk⟩
  exact wp_value (hexec (by rw [q3]; exact k1)) (putD_run hk' h1 (fun t ht => by rw [hdst] at ht; cases ht; exact hd) ⟨rfl, r + 1, _, upd_same _ _ _, Nat.le_refl _, fun _ => ⟨_, n + m, _, h2, Nat.le_refl _, rfl⟩⟩ hn)
/-- The operations of a region from here on, in fact. -/
def WX (P : Program) (nt : Nat) (ops : Array Oper) (l : List Oper) (S : St) (K : St → Prop) : Prop :=
  ∀ w0 M N b0 β w tm, Sim w0 M N b0 nt β S w tm → wpList P ops (fun e a w' => ∃ β' S', (e = .normal ∧ K S') ∧ Sim w0 M N b0 nt β' S' w' a.tmps ∧ a.defers = []) l ⟨tm, []⟩ w
theorem wx_region {id : Nat} {l : List Oper} {KE : Exit → St → Prop} (h : WX P nt l.toArray l S (KE .normal)) : AW P nt (.region id l.toArray false) KE S := fun w0 M N b0 β w tm hs =>
  wp_mono (wp_region_lit (h w0 M N b0 β w tm hs)) fun e a w' ⟨β', S', ⟨he, hk⟩, h2⟩ => by subst he; exact ⟨β', S', hk, h2⟩
theorem wx_end (hT : TabOk P T) {cf : FuncId → Option (List AV → Option Tmp → AM)} (hcf : ∀ f m, cf f = some m → GoodCall P f m) {ops : Array Oper} {i : Nat} {l : List Oper} (hd : (l.all fun o => match o.dst with | some d => decide (d < nt) | none => true) = true) (h : runX Fa P T cf ops i l S K) : WX P nt ops l S K := fun w0 M N b0 β w tm hs =>
  runX_sound hT hcf l i S β w tm (fun o ho t ht => by
    have := (List.all_eq_true.1 hd) o ho
    rw [ht] at this
    simpa using this) h hs (fun S' β' w' tm' hK hs' => ⟨β', S', ⟨rfl, hK⟩, hs', rfl⟩)
theorem wx_app (hT : TabOk P T) {cf : FuncId → Option (List AV → Option Tmp → AM)} (hcf : ∀ f m, cf f = some m → GoodCall P f m) {ops : Array Oper} {l2 : List Oper} : ∀ {l1 : List Oper} {i : Nat} {S : St}, (∀ o ∈ l1, ∀ t, o.dst = some t → t < nt) → runX Fa P T cf ops i l1 S (fun S' => WX P nt ops l2 S' K) → WX P nt ops (l1 ++ l2) S K
  | [], i, S, _, h => h
  | o :: l1, i, S, hd, h => fun w0 M N b0 β w tm hs => by
    have h1 : (gop P T cf ops o).run (Fa i) S (fun S' => WX P nt ops (l1 ++ l2) S' K) :=
      AM.run_mono (fun S' h' => wx_app hT hcf (fun o' ho' => hd o' (List.mem_cons_of_mem _ ho')) h') _ _ h
    refine wpList_step fun K' hK' => ?_
    exact gop_sound hT hcf h1 hs (hd o (List.mem_cons_self)) (fun S' β' w' tm' hk hs' => hK' _ _ (hk w0 M N b0 β' w' tm' hs'))
theorem wx_run (k : Nat) (hT : TabOk P T) {cf : FuncId → Option (List AV → Option Tmp → AM)} (hcf : ∀ f m, cf f = some m → GoodCall P f m) {ops : Array Oper} {l : List Oper} (hd : (l.all fun o => match o.dst with | some d => decide (d < nt) | none => true) = true)
    (h : runX Fa P T cf ops 0 (l.take k) S (fun S' => WX P nt ops (l.drop k) S' K)) : WX P nt ops l S K := by
  have := wx_app hT hcf (l1 := l.take k) (l2 := l.drop k) (fun o ho t ht => by
    have := (List.all_eq_true.1 hd) o (List.mem_of_mem_take ho)
    rw [ht] at this
    simpa using this) h
  rwa [List.take_append_drop] at this
/-- A piece from a place on, laid behind a row. -/
theorem wx_piece (hT : TabOk P T) {t e sz by' j r n i r2 n2 d1 d2 tx tl ty ty1 ty2 : Nat} {p : Int} {pos pos2 : String} {af af2 : Array Edge} {agg : Bool} {z L L2 : List Value} {ops : Array Oper} {rest : List Oper}
    (hd : (Nat.blt d1 nt && Nat.blt d2 nt && !(Nat.beq d1 ty)) = true) (hl : find1 T.elt t = some (none, e, agg, sz, by')) (hz : find1 T.zer e = some z) (hzl : z.length = sz) (hx : S.E tx = some (.g (.one (.sl j r n)))) (hp : S.E tl = some (vI p)) (hG : S.G j = some (r, .row (some e) sz L)) (hy : S.E ty = some (.g (.one (.sl i r2 n2)))) (hG2 : S.G i = some (r2, .row (some e) sz L2))
    (hb : Nat.ble by' 1000 = true) (h1 : L.length = n * sz) (h2 : L2.length = n2 * sz) (h3 : 0 ≤ p ∧ p ≤ n ∧ n ≤ 1000000 ∧ n2 ≤ 1000000)
    (hk : WX P nt ops rest (((S.put d1 none).lay i (some (r2 + 1, .row (some e) sz (L2 ++ L.drop (p.toNat * sz))))).put d2 (some (.g (.one (.sl i (r2 + 1) (n2 + ((n : Int) - p).toNat)))))) K) :
    WX P nt ops (⟨some d1, .slice t (.tmp tx) (some (.tmp tl)) none none, ty1, pos, af, none⟩ :: ⟨some d2, .call { callee := .builtin .append, args := #[.tmp ty, .tmp d1], argTypes := #[t, t] }, ty2, pos2, af2, none⟩ :: rest) S K := fun w0 M N b0 β w tm hs => by
  obtain ⟨hpos0, _⟩ := elt_facts hT hl
  have hpos : 0 < sz := (elt_facts hT hl).2.2.1
  simp only [Bool.and_eq_true, Bool.not_eq_true', beq_eq_false_iff_ne] at hd
  obtain ⟨⟨hd1, hd2⟩, hd3⟩ := hd
  have hd1 := blt_lt hd1
  have hd2 := blt_lt hd2
  have hd3' : ty ≠ d1 := fun e => by rw [e] at hd3; simp at hd3
  obtain ⟨hx1, hx2⟩ := hs.env tx _ hx
  obtain ⟨hp1, hp2⟩ := hs.env tl _ hp
  obtain ⟨n', l', ⟨⟨rfl, rfl⟩, _⟩, hro⟩ := getSl_run (F := Ft.all) (S := S) (K := fun _ => True) (sz := sz) (k := fun n' l' => .need (n' = n ∧ l' = L) .done) (x := .g (.one (.sl j r n))) ⟨rfl, by rw [hG]; exact ⟨⟨rfl, rfl, hpos, h1⟩, ⟨rfl, rfl⟩, trivial⟩⟩ hs hx2
  obtain ⟨v, hv1, hv2⟩ := ro_piece (P := P) (lv := some (.int .i64 p)) (hv := none) (mv := none) (l := p) (h' := n') (m := n') hT by' hro hl rfl rfl rfl h3.1 h3.2.1 (Int.le_refl _) (Int.le_refl _) (fun h => rfl)
  refine wpList_plain rfl fun K1 hK1 => wp_value (v := v) (w' := w) ?_ (hK1 _ _ ?_)
  · unfold execOp
    have e1 : Act.eval ⟨tm, []⟩ (.tmp tl) = .int .i64 p := hp2.1
    have e2 : Act.eval ⟨tm, []⟩ (.tmp tx) = tm.getD tx undef := rfl
    simp only [Option.map_some, Option.map_none, e1, e2, Sem.run_bind, hv1, Result.andThen_ok, Sem.run_pure]
  · have hs1 := hs.del d1 v
    have eL : (l'.drop (p.toNat * sz)).take (((n' : Int) - p).toNat * sz) = l'.drop (p.toNat * sz) := by
      apply List.take_of_length_le
      rw [List.length_drop, h1, ← Nat.sub_mul]
      exact Nat.mul_le_mul_right _ (by omega)
    rw [eL] at hv2
    refine wpList_plain rfl fun K2 hK2 => ?_
    obtain ⟨hy1, hy2⟩ := hs1.env ty _ (show (S.put d1 none).E ty = _ by rw [show (S.put d1 none).E ty = S.E ty from (upd_ne S.E none hd3')]; exact hy)
    have ev : Act.eval ⟨tm.setIfInBounds d1 v, []⟩ (.tmp d1) = v := by
      show (tm.setIfInBounds d1 v).getD d1 undef = v
      have : d1 < tm.size := by rw [hs.wide]; exact hd1
      simp [Array.getD_eq_getD_getElem?, this]
    have eL2 : L2.take (n2 * sz) = L2 := List.take_of_length_le (by omega)
    have hby : by' ≤ 1000 := Nat.le_of_ble_eq_true hb
    have hm : (n2 + ((n' : Int) - p).toNat) ≤ 2000000 := by omega
    refine s_append_sl hT (m := ((n' : Int) - p).toNat) rfl rfl hl hz hzl (by rw [ev]; exact hv2) hy2 hG2 (by omega) (by unfold maxLen; omega) ?_ hs1 hd2 (K := fun S' => WX P nt ops rest S' K) (by rw [eL2]; exact hk) (fun S' β' w' tm' hk' hs' => hK2 _ _ (hk' w0 M N b0 β' w' tm' hs'))
    calc (n2 + ((n' : Int) - p).toNat) * by' ≤ 2000000 * 1000 := Nat.mul_le_mul hm hby
      _ ≤ 140737488355328 := by decide
end
end Go.Proofs.Ythdniogjiokekaa
