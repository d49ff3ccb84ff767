/- The abstract run, tenth part: append, len, plain builtins, calls; all operations together. No program is named. -/
import Derived.Test.YtgifhhefcmmdfaaAbsI
namespace Go.Proofs.Ytgifhhefcmmdfaa
set_option linter.unusedVariables false
open Go.RowKit

section
variable {P : Program} {T : Tab} {F : Ft} {S : St} {K : St → Prop} {w0 w w' : World} {M N : Nat → Prop} {b0 : Nat → Value} {nt : Nat} {β : Nat → Value} {tm : Array Value} {ds : List Deferred} {next : Act → World → Prop} {Q : Exit → Act → World → Prop} {o : Oper}
variable {cf : FuncId → Option (List AV → Option Tmp → AM)}
/-- The elements of a slice, in fact. -/
theorem getSl_run {x : AV} {sz : Nat} {k : Nat → List Value → AM} {y : Value} (h : (getSl x sz k).run F S K) (hs : Sim w0 M N b0 nt β S w tm) (hr : x.rep w β S.G (okB w0 N β S.G w) y) :
    ∃ n l, (k n l).run F S K ∧ RoRep w (fun b => b < w.heap.size) sz n l y := by
  have hany : ∀ {sz n : Nat} {l : List Value} {y : Value}, RoRep w (okB w0 N β S.G w) sz n l y → RoRep w (fun b => b < w.heap.size) sz n l y :=
    fun h => RoRep.mono (fun b hb => ⟨hb.1, rfl⟩) h
  unfold getSl at h
  split at h
  · obtain ⟨rfl, h⟩ := h
    exact ⟨_, _, h, hany hr⟩
  · obtain ⟨rfl, _⟩ := hr
    exact ⟨0, [], h, ⟨by simp, rfl⟩, none, 0, rfl, Nat.le_refl _, by unfold maxLen; omega, fun h => by omega⟩
  · rename_i i r n
    obtain ⟨_, h⟩ := h
    dsimp only at h
    split at h
    · rename_i r' e z l hG
      obtain ⟨⟨rfl, rfl, hz, hle⟩, h⟩ := h
      obtain ⟨A, m, cap, q1, q2, rfl⟩ := hs.cur_sl hr hG
      obtain ⟨p0, e2, n2, p1, p2⟩ := hs.ents i r _ hG
      have h1 : RoRep w (fun b => b < w.heap.size) z n2 l (β i) := row_ro p2 p0 fun b hb => (hs.fresh i r _ b hG trivial hb).1
      rw [q1] at h1
      have hn2 : n2 = m := by obtain ⟨_, A3, c3, hq, _⟩ := h1; cases hq; rfl
      subst hn2
      exact ⟨_, _, h, (ro_whole h1 hle hz).1⟩
    · rename_i r' z l hG
      obtain ⟨⟨rfl, rfl, hz, hle⟩, h⟩ := h
      obtain ⟨A, m, cap, q1, q2, rfl⟩ := hs.cur_sl hr hG
      obtain ⟨n2, h1⟩ := hs.ents i r _ hG
      rw [q1] at h1
      have hn2 : n2 = m := by obtain ⟨_, A3, c3, hq, _⟩ := h1; cases hq; rfl
      subst hn2
      exact ⟨_, _, h, (ro_whole (hany h1) hle hz).1⟩
    · exact h.elim
  · exact h.elim
theorem ownR_of {w : World} {e : TypeId} {sz n : Nat} {v : Value} {l : List Value} (h : w.ownsRow 0 e sz v n l) : ownR w e sz v n l :=
  ⟨h.1, h.2.imp id fun ⟨g, cap, cur, h1, h2, h3, h4, h5, h6, h7⟩ => ⟨g, cap, cur, h1, h2, h3, h4, h5, Nat.le_of_eq h6.symm, h7⟩⟩
/-- What is laid behind a row of our own. -/
theorem run_append_ownR {P : Program} (w : World) (t ty e : TypeId) (i : TypeInfo) (z : Value) (size bytes : Nat) (ht : P.underlying t = some (.slice e)) (hi : P.info? e = some i) (hz : i.zero = some z)
    (hsize : i.size = size) (hby : i.bytes = bytes) (hzs : z.cells.size = size) (hsz : 0 < size) (v : Value) (n : Nat) (xs : List Value) (hown : ownR w e size v n xs)
    (a : Addr) (m c : Nat) (news : List Value) (hl : news.length = m * size) (hnews : ∀ j u, news[j]? = some u → w.cell? (a.add j) = some u) (h1 : ∀ u ∈ news, u.oneCell' = true)
    (h63 : n + m ≤ maxLen) (hbytes : (n + m) * bytes ≤ 140737488355328) :
    ∃ v' w', (Builtin.append_ #[t, t] ty #[v, .slice (some a) m c]).run P w = .ok v' w' ∧ ownR w' e size v' (n + m) (xs ++ news) ∧ w.grownBy w' v.ownBlock ∧ (v'.ownBlock = v.ownBlock ∨ v'.ownBlock = some w.heap.size) := by
  rcases hown with ⟨h0, ⟨rfl, rfl⟩ | ⟨g, cap, cur, rfl, hb, hg, hc1, hc2, hc3, hc4⟩⟩
  · obtain ⟨v', w', k1, k2, k3, _, k5⟩ := run_append_own_at (P := P) w 0 t ty e i z size bytes ht hi hz hsize hby hzs hsz (.slice none 0 0) 0 xs ⟨h0, .inl ⟨rfl, rfl⟩⟩ a m c news hl hnews h1 h63 hbytes (Nat.zero_le _)
    exact ⟨v', w', k1, ownR_of k2, k3, k5⟩
  · subst hsize hby
    have hlen : (xs ++ news).length = (n + m) * i.size := by rw [List.length_append, h0, hl, Nat.add_mul]
    by_cases hroom : n + m ≤ cap
    · have hmul : (n + m) * i.size ≤ cap * i.size := Nat.mul_le_mul_right _ hroom
      have hfit : n * i.size + news.length ≤ cur.size := by rw [hl, ← Nat.add_mul]; omega
      refine ⟨_, _, run_append_room (P := P) w t ty e i ht hi g n cap cur hg a m c news hl hnews h1 hroom hfit, ⟨hlen, .inr ⟨g, cap, _, rfl, hb, setRow_heap w g cur _ e _ hg, hroom, hc2, ?_, ?_⟩⟩,
        ⟨rfl, rfl, rfl, by simp, fun k _ hk => setRow_other w g k _ fun e => hk (by simp [Value.ownBlock, e])⟩, .inl rfl⟩
      · simp only [List.size_toArray, List.length_append, List.length_take, List.length_drop, Array.length_toList]
        omega
      · rw [hc4, ← hlen]; exact List.take_left
    · have holds : ∀ j u, xs[j]? = some u → w.cell? ((⟨g, 0, none⟩ : Addr).add j) = some u := by
        intro j u hu
        have hadd : (⟨g, 0, none⟩ : Addr).add j = ⟨g, j, none⟩ := by unfold Addr.add; split <;> simp_all
        rw [hadd, cell_of_row w g j cur e (0, 0) hg]
        rw [← hc4, List.getElem?_take] at hu
        split at hu
        · simpa using hu
        · cases hu
      have hsm : n + m ≤ 9223372036854775807 := by simp only [maxLen] at h63; omega
      have hr := run_append_grow (P := P) w t ty e i z ht hi hz ⟨g, 0, none⟩ n cap xs h0 holds a m c news hl hnews (by omega) (by omega) (growslice_fits (by omega) hbytes)
      refine ⟨_, _, hr, ⟨hlen, .inr ⟨w.heap.size, _, _, rfl, Nat.zero_le _, heap_alloc_new w.drew _, grownCap_ge w (n + m) cap e, grownCap_le_maxLen w (n + m) cap e h63, ?_, ?_⟩⟩, ⟨rfl, rfl, rfl, by simp, fun k hk _ => heap_alloc_old w.drew _ hk⟩, .inr rfl⟩
      · have hge := grownCap_ge w (n + m) cap e
        simp only [Array.size_append, List.size_toArray, size_zeroCells, hzs, h0, hl, ← Nat.add_mul]
        exact Nat.mul_le_mul_right _ (by omega)
      · simp only [Array.toList_append, List.append_assoc]
        rw [← List.append_assoc, ← hlen]
        exact List.take_left
theorem own_prefix {w : World} {e : TypeId} {sz m n : Nat} {l : List Value} {A : Option Addr} {c : Nat} (h : ownR w e sz (.slice A m c) m l) (hn : n ≤ m) : ownR w e sz (.slice A n c) n (l.take (n * sz)) := by
  obtain ⟨h1, h2⟩ := h
  have hmul : n * sz ≤ m * sz := Nat.mul_le_mul_right sz hn
  refine ⟨by simp only [List.length_take]; omega, ?_⟩
  rcases h2 with ⟨h2, rfl⟩ | ⟨g, cap, cur, h2, h3, h4, h5, h6, h7, h8⟩
  · cases h2
    have : n = 0 := by omega
    subst this
    exact .inl ⟨rfl, rfl⟩
  · cases h2
    refine .inr ⟨g, _, cur, rfl, h3, h4, by omega, h6, h7, ?_⟩
    rw [← h8, List.take_take, Nat.min_eq_left hmul]
theorem s_append (hT : TabOk P T) {x y : Operand} {t : TypeId} (ho : o.op = .call { callee := .builtin .append, args := #[x, y], argTypes := #[t, t] }) (h : (aop P T cf o).run F S K) (hs : Sim w0 M N b0 nt β S w tm) (hd : ∀ t, o.dst = some t → t < nt) (hn : Nx w0 M N b0 nt ds K next) : o.wp P ⟨tm, ds⟩ w next Q := by
  simp only [aop, ho] at h
  obtain ⟨a, h, hra⟩ := getO_run (ds := ds) h hs
  obtain ⟨b, h, hrb⟩ := getO_run (ds := ds) h hs
  obtain ⟨⟨arr, e, agg, sz, by'⟩, hl, h⟩ := orFail_run h
  obtain ⟨z, hz, h⟩ := orFail_run h
  obtain ⟨m, news, h, hsrc⟩ := getSl_run h hs hrb
  obtain ⟨⟨harr, _, hzl⟩, hk0⟩ := h
  dsimp only at harr hzl hk0 hz
  subst harr
  obtain ⟨hu, hlay, hpos, i0, hi, hby, hisz⟩ := elt_facts hT hl
  obtain ⟨i', z1, hi', hz1, hzc, hz2⟩ := zer_facts hT hz
  have ei : i' = i0 := by rw [hi] at hi'; exact (Option.some.inj hi').symm
  subst ei
  have hzs : z1.cells.size = sz := by rw [hzc]; simpa using hzl
  obtain ⟨⟨n1, n2⟩, A, c, hy, n3, n4, n5⟩ := hsrc
  -- append in fact
  have happ : ∀ (v : Value) (n : Nat) (xs : List Value), ownR w e sz v n xs → n + m ≤ maxLen → (n + m) * by' ≤ 140737488355328 → ∃ v' w', (Builtin.append_ #[t, t] o.type #[v, Act.eval ⟨tm, ds⟩ y]).run P w = .ok v' w' ∧ ownR w' e sz v' (n + m) (xs ++ news) ∧ w.grownBy w' v.ownBlock ∧ (v'.ownBlock = v.ownBlock ∨ v'.ownBlock = some w.heap.size) := by
    intro v n xs hown g1 g2
    rw [hy]
    cases A with
    | none =>
      have hm : m = 0 := by
        rcases Nat.eq_zero_or_pos m with h0 | h0
        · exact h0
        · obtain ⟨b, off, hA, _⟩ := n5 h0; cases hA
      subst hm
      have hnews : news = [] := List.eq_nil_of_length_eq_zero (by omega)
      subst hnews
      refine ⟨v, w, ?_, by simpa using hown, World.grownBy.refl w _, .inl rfl⟩
      rcases hown.2 with ⟨rfl, rfl⟩ | ⟨g, cap, cur, rfl, _, _, hnc, _⟩
      · simp [Builtin.append_, run_underlying hu, sizeOf, typeInfo, hi, Builtin.lenOf, Builtin.firstCells]
      · simp [Builtin.append_, run_underlying hu, sizeOf, typeInfo, hi, Builtin.lenOf, Builtin.firstCells, hnc, storeCells]
    | some ad =>
      have hcells : ∀ j u, news[j]? = some u → w.cell? (ad.add j) = some u := by
        intro j u hu'
        rcases Nat.eq_zero_or_pos m with h0 | h0
        · subst h0
          have hnews : news = [] := List.eq_nil_of_length_eq_zero (by omega)
          subst hnews; simp at hu'
        · obtain ⟨b, off, hA, _, hc⟩ := n5 h0
          cases hA
          rw [add_lit]; exact hc j u hu'
      obtain ⟨v', w', k1, k2, k3, k5⟩ := run_append_ownR (P := P) w t o.type e i' z1 sz by' hu hi hz1 hisz hby hzs hpos v n xs hown ad m c news n1 hcells (fun u hu' => (List.all_eq_true.1 n2) u hu') g1 g2
      exact ⟨v', w', k1, k2, k3, k5⟩
  have hexec : ∀ {v' : Value} {w' : World}, (Builtin.append_ #[t, t] o.type #[Act.eval ⟨tm, ds⟩ x, Act.eval ⟨tm, ds⟩ y]).run P w = .ok v' w' → (execOp (Act.eval ⟨tm, ds⟩) o).run P w = .ok (.value v') w' := by
    intro v' w' hr
    unfold execOp
    simp only [ho, resolve, invoke, builtin, Sem.run_bind, Sem.run_pure, Result.andThen_ok, List.map_toArray, List.map_cons, List.map_nil, hr]
  have own_blk : ∀ {v' : Value} {w' : World} {n : Nat} {xs : List Value}, ownR w' e sz v' n xs → blk? v' = v'.ownBlock ∧ ∀ b, blk? v' = some b → b < w'.heap.size := by
    intro v' w' n xs h
    refine ⟨?_, fun b hb => ?_⟩
    · rcases h.2 with ⟨rfl, _⟩ | ⟨g, cap, cur, rfl, _⟩ <;> rfl
    · rcases h.2 with ⟨rfl, _⟩ | ⟨g, cap, cur, rfl, _, hg, _⟩
      · cases hb
      · cases hb; exact (Array.getElem?_eq_some_iff.1 hg).1
  have sl_of : ∀ {v' : Value} {w' : World} {n : Nat} {xs : List Value}, ownR w' e sz v' n xs → ∃ A c, v' = .slice A n c := by
    intro v' w' n xs h
    rcases h.2 with ⟨rfl, rfl⟩ | ⟨g, cap, cur, rfl, _⟩
    · exact ⟨_, _, rfl⟩
    · exact ⟨_, _, rfl⟩
  match a, hk0, hra with
  | .g (.one (.v (.slice none 0 0))), hk0, hra =>
    obtain ⟨d, hdst, h⟩ := orFail_dst hk0
    obtain ⟨⟨g1, g2⟩, h⟩ := h
    have ex : Act.eval ⟨tm, ds⟩ x = .slice none 0 0 := hra.1
    obtain ⟨v', w', k1, k2, k3, k4⟩ := happ (.slice none 0 0) 0 [] ⟨by simp, .inl ⟨rfl, rfl⟩⟩ (by simpa using g1) (by simpa using g2)
    simp only [Nat.zero_add, List.nil_append] at k2
    obtain ⟨q1, q2⟩ := own_blk k2
    obtain ⟨A', c', rfl⟩ := sl_of k2
    obtain ⟨r, β', h1, h2, h3, h4, h5⟩ := lay1_run h hs (w' := w') (.slice A' m c') trivial k3.os k3.tape k3.output k3.size (fun k hk => k3.block k hk (by simp [Value.ownBlock]))
      (fun b hb => ⟨q2 b hb, by
        rw [q1] at hb
        rcases k4 with k4 | k4
        · rw [k4] at hb; cases hb
        · rw [k4] at hb; cases hb; exact Nat.le_refl _⟩)
      (fun β' G' hok hold hβ => ⟨n2, e, m, fun x hx => by cases hx; rfl, by rw [hβ]; exact k2⟩)
    exact wp_value (hexec (by rw [ex]; exact k1)) (putD_run h1 h2 hd ⟨rfl, r, _, upd_same _ _ _, Nat.le_refl _, fun _ => ⟨_, m, _, h3, Nat.le_refl _, rfl⟩⟩ hn)
  | .g (.one (.sl i r n)), hk0, hra =>
    obtain ⟨_, h⟩ := hk0
    dsimp only at h
    split at h
    · rename_i r' e' s l hG
      obtain ⟨⟨hr', he', hs', hle, g1, g2⟩, hew, hk⟩ := h
      subst hr' he' hs'
      obtain ⟨A1, m1, cap, q1, q2, q3⟩ := hs.cur_sl hra hG
      obtain ⟨p0, e2, n6, p1, p2⟩ := hs.ents i r _ hG
      have e3 := p1 _ rfl
      subst e3
      rw [q1] at p2
      have hn6 : n6 = m1 := by
        rcases p2.2 with ⟨p3, rfl⟩ | ⟨g, cap', cur, p3, _⟩
        · cases p3; rfl
        · cases p3; rfl
      subst hn6
      obtain ⟨v', w', k1, k2, k3, k4⟩ := happ _ n _ (own_prefix p2 q2) g1 g2
      obtain ⟨o1, o2⟩ := own_blk k2
      obtain ⟨A', c', rfl⟩ := sl_of k2
      have hown : (Value.slice A1 n cap).ownBlock = blk? (β i) := by rw [q1]; cases A1 <;> rfl
      obtain ⟨β', h1, h2, h3, h4⟩ := hs.change1 (w' := w') i (r + 1) (.row (some e') s (l.take (n * s) ++ news)) (.slice A' (n + m) c') k3.os k3.tape k3.output k3.size
        (fun r1 e1 hg => by rw [hG] at hg; cases hg; exact ⟨Nat.le_succ _, fun he => by omega⟩)
        (fun k hk hne => k3.block k hk (fun ek => hne r _ hG trivial (by rw [← hown]; exact ek.symm)))
        (fun b _ hb => ⟨o2 b hb, by
          rw [o1] at hb
          rcases k4 with k4 | k4
          · right; exact ⟨r, _, hG, trivial, by rw [← hown, ← k4]; exact hb⟩
          · left; rw [k4] at hb; cases hb; exact Nat.le_refl _⟩)
        (fun _ => ⟨_, hG⟩)
        (fun β' G' _ _ hok hold hβ => ⟨by
            rw [List.all_append, Bool.and_eq_true]
            refine ⟨?_, n2⟩
            rw [List.all_eq_true] at p0 ⊢
            exact fun x hx => p0 x (List.mem_of_mem_take hx), e', n + m, fun x hx => by cases hx; rfl, by rw [hβ]; exact k2⟩)
      exact wp_value (hexec (by rw [q3]; exact k1)) (putD_run hk h1 hd ⟨rfl, r + 1, _, upd_same _ _ _, Nat.le_refl _, fun _ => ⟨_, n + m, _, h2, Nat.le_refl _, rfl⟩⟩ hn)
    · exact h.elim
theorem getVs_run (hs : Sim w0 M N b0 nt β S w tm) : ∀ (l : List Operand) {k : List Value → AM}, (getVs l k).run F S K → (k (l.map (Act.eval ⟨tm, ds⟩))).run F S K
  | [], k, h => h
  | x :: l, k, h => by
    have h := getV_run (ds := ds) h hs
    exact getVs_run hs l (k := fun as => k (Act.eval ⟨tm, ds⟩ x :: as)) h
theorem s_builtin {b : Builtin} {args : Array Operand} {ts : Array TypeId} (ho : o.op = .call { callee := .builtin b, args := args, argTypes := ts }) (hb1 : b ≠ .append) (hb2 : b ≠ .len) (h : (aop P T cf o).run F S K) (hs : Sim w0 M N b0 nt β S w tm) (hd : ∀ t, o.dst = some t → t < nt) (hn : Nx w0 M N b0 nt ds K next) : o.wp P ⟨tm, ds⟩ w next Q := by
  have h' : (getVs args.toList fun vs => .exv (fun r => okv r = true ∧ ∀ w, (builtin b ts o.type (args.map isConst) vs.toArray).run P w = .ok (.value r) w) fun r => putD o.dst (ofv r)).run F S K := by
    simp only [aop, ho] at h
    cases b <;> first | exact h | exact absurd rfl hb1 | exact absurd rfl hb2
  have h := getVs_run (ds := ds) hs _ h'
  obtain ⟨r, ⟨h1, h2⟩, h3⟩ := h
  refine wp_value (v := r) (w' := w) ?_ (putD_run h3 hs hd (ofv_rep h1) hn)
  unfold execOp
  have e : (args.toList.map (Act.eval ⟨tm, ds⟩)).toArray = args.map (Act.eval ⟨tm, ds⟩) := by rw [← Array.toList_map, Array.toArray_toList]
  rw [e] at h2
  simp only [ho, resolve, invoke, Sem.run_bind, Sem.run_pure, Result.andThen_ok]
  exact h2 w
theorem run_len_slice (hT : TabOk P T) {t e sz by' : Nat} {agg : Bool} (hl : find1 T.elt t = some (none, e, agg, sz, by')) (ty : TypeId) (A : Option Addr) (n c : Nat) (w : World) : (Builtin.len_ #[t] ty #[.slice A n c]).run P w = .ok (.int .i64 n) w := by
  obtain ⟨hu, _⟩ := elt_facts hT hl
  simp [Builtin.len_, run_underlying hu, goInt]
theorem s_len (hT : TabOk P T) {x : Operand} {t : TypeId} (ho : o.op = .call { callee := .builtin .len, args := #[x], argTypes := #[t] }) (h : (aop P T cf o).run F S K) (hs : Sim w0 M N b0 nt β S w tm) (hd : ∀ t, o.dst = some t → t < nt) (hn : Nx w0 M N b0 nt ds K next) : o.wp P ⟨tm, ds⟩ w next Q := by
  simp only [aop, ho] at h
  obtain ⟨a, h, hr⟩ := getO_run (ds := ds) h hs
  have hexec : ∀ {v : Value}, (builtin .len #[t] o.type #[isConst x] #[Act.eval ⟨tm, ds⟩ x]).run P w = .ok (.value v) w → (execOp (Act.eval ⟨tm, ds⟩) o).run P w = .ok (.value v) w := by
    intro v hv
    unfold execOp
    simp only [ho, resolve, invoke, Sem.run_bind, Sem.run_pure, Result.andThen_ok, List.map_toArray, List.map_cons, List.map_nil]
    exact hv
  have hint : ∀ (n : Nat), okv (.int .i64 n) = true := fun _ => rfl
  split at h
  · rename_i s
    obtain ⟨r, ⟨g1, g2⟩, h⟩ := h
    have e : Act.eval ⟨tm, ds⟩ x = .string s := hr.1
    exact wp_value (w' := w) (hexec (by rw [e]; simpa using g2 w)) (putD_run h hs hd (ofv_rep g1) hn)
  · obtain ⟨⟨arr, e, agg, sz, by'⟩, hl, h⟩ := orFail_run h
    obtain ⟨harr, hk⟩ := h
    dsimp only at harr
    subst harr
    have hlen : ∀ {A : Option Addr} {n c : Nat}, Act.eval ⟨tm, ds⟩ x = .slice A n c → (builtin .len #[t] o.type #[isConst x] #[Act.eval ⟨tm, ds⟩ x]).run P w = .ok (.value (.int .i64 n)) w := by
      intro A n c e
      rw [e]
      simp only [builtin, Sem.run_bind, run_len_slice hT hl, Result.andThen_ok, Sem.run_pure]
    split at hk
    · obtain ⟨_, A, c, e, _⟩ := hr
      exact wp_value (w' := w) (hexec (hlen e)) (putD_run hk hs hd ⟨rfl, rfl⟩ hn)
    · exact wp_value (w' := w) (hexec (hlen hr.1)) (putD_run hk hs hd ⟨rfl, rfl⟩ hn)
    · obtain ⟨_, hk⟩ := hk
      dsimp only at hk
      split at hk
      · rename_i r' e' hG
        obtain ⟨rfl, hk⟩ := hk
        obtain ⟨A, m, c, _, _, e⟩ := hs.cur_sl hr hG
        exact wp_value (w' := w) (hexec (hlen e)) (putD_run hk hs hd ⟨rfl, rfl⟩ hn)
      · exact hk.elim
    · exact hk.elim
/-- The arguments of a call, abstractly and in fact. -/
def ArgsRep (w : World) (β : Nat → Value) (G : Blk) (ok : Nat → Prop) (as : List AV) (vs : Array Value) : Prop := vs.size = as.length ∧ ∀ (j : Nat) (a : AV), as[j]? = some a → ∃ z, vs[j]? = some z ∧ a.rep w β G ok z
/-- What a call does abstractly is what it does. -/
structure GoodCall (P : Program) (f : FuncId) (m : List AV → Option Tmp → AM) : Prop where
  enters : ∀ args w, (callFunc f args).run P w = .ok (.enter f args) w
  does : ∀ F S K (as : List AV) (dst : Option Tmp), (m as dst).run F S K → ∀ w0 M N b0 nt β w tm vs, (∀ t, dst = some t → t < nt) → Sim w0 M N b0 nt β S w tm → ArgsRep w β S.G (okB w0 N β S.G w) as vs →
    Calls P f vs w fun e w' => ∃ v β' S', e = .returned v ∧ K S' ∧ Sim w0 M N b0 nt β' S' w' (match dst with | some d => tm.setIfInBounds d v | none => tm)
theorem getL_run (hs : Sim w0 M N b0 nt β S w tm) : ∀ (l : List Operand) {k : List AV → AM}, (getL l k).run F S K → ∃ as, (k as).run F S K ∧ ArgsRep w β S.G (okB w0 N β S.G w) as (l.map (Act.eval ⟨tm, ds⟩)).toArray
  | [], k, h => ⟨[], h, rfl, fun j a hj => by simp at hj⟩
  | x :: l, k, h => by
    obtain ⟨a, h, hr⟩ := getO_run (ds := ds) h hs
    obtain ⟨as, h, h1, h2⟩ := getL_run hs l h
    refine ⟨a :: as, h, by simpa using h1, fun j b hj => ?_⟩
    cases j with
    | zero => cases hj; exact ⟨_, rfl, hr⟩
    | succ j =>
      obtain ⟨z, hz, hrz⟩ := h2 j b (by simpa using hj)
      exact ⟨z, by simpa using hz, hrz⟩
theorem s_call (hcf : ∀ f m, cf f = some m → GoodCall P f m) {f : Operand} {args : Array Operand} {ts : Array TypeId} (ho : o.op = .call { callee := .value f, args := args, argTypes := ts }) (h : (aop P T cf o).run F S K) (hs : Sim w0 M N b0 nt β S w tm) (hd : ∀ t, o.dst = some t → t < nt) (hn : Nx w0 M N b0 nt ds K next) : o.wp P ⟨tm, ds⟩ w next Q := by
  simp only [aop, ho] at h
  obtain ⟨a, h, hrf⟩ := getO_run (ds := ds) h hs
  match a, h, hrf with
  | .g (.one (.fn fid caps)), h, hrf =>
    obtain ⟨as, h, hra⟩ := getL_run (ds := ds) hs _ h
    obtain ⟨m, hm, h⟩ := orFail_run h
    have hg := hcf fid m hm
    obtain ⟨cv, he, hc1, hc2⟩ := hrf
    have hargs : ArgsRep w β S.G (okB w0 N β S.G w) (as ++ caps.map fun p => .g (.one (.ptr p.1 p.2 0))) (args.map (Act.eval ⟨tm, ds⟩) ++ cv) := by
      obtain ⟨h1, h2⟩ := hra
      have e1 : (args.toList.map (Act.eval ⟨tm, ds⟩)).toArray = args.map (Act.eval ⟨tm, ds⟩) := by rw [← Array.toList_map, Array.toArray_toList]
      rw [e1] at h1 h2
      refine ⟨by simp only [Array.size_append, List.length_append, List.length_map, hc1, h1], fun j b hj => ?_⟩
      rw [List.getElem?_append] at hj
      split at hj
      · rename_i hlt
        obtain ⟨z, hz, hrz⟩ := h2 j b hj
        exact ⟨z, by rw [Array.getElem?_append, if_pos (by rw [h1]; exact hlt)]; exact hz, hrz⟩
      · rename_i hge
        simp only [List.getElem?_map, Option.map_eq_some_iff] at hj
        obtain ⟨p, hp, rfl⟩ := hj
        obtain ⟨z, hz, hrz⟩ := hc2 _ p hp
        exact ⟨z, by rw [Array.getElem?_append, if_neg (by rw [h1]; exact hge), h1]; exact hz, hrz⟩
    have hcall := hg.does F S K _ _ h w0 M N b0 nt β w tm _ hd hs hargs
    have hrun : (execOp (Act.eval ⟨tm, ds⟩) o).run P w = .ok (.enter fid (args.map (Act.eval ⟨tm, ds⟩) ++ cv)) w := by
      unfold execOp
      simp only [ho, resolve, he, Deferred.ofValue, invoke, Sem.run_bind, Sem.run_pure, Result.andThen_ok]
      have := hg.enters (args.map (Act.eval ⟨tm, ds⟩) ++ cv) w
      simpa using this
    unfold Oper.wp
    rw [hrun]
    refine Calls.mono hcall ?_
    rintro e w' ⟨v, β', S', rfl, hK, hs'⟩
    have : Act.put ⟨tm, ds⟩ o.dst v = ⟨match o.dst with | some d => tm.setIfInBounds d v | none => tm, ds⟩ := by
      cases o.dst <;> rfl
    show next (Act.put ⟨tm, ds⟩ o.dst v) w'
    rw [this]
    exact hn _ _ _ _ hK hs'
theorem ptrsOf_rep : ∀ {l : List AV} {ps : List (Nat × Nat)} {vs : Array Value}, ptrsOf l = some ps → ArgsRep w β S.G (okB w0 N β S.G w) l vs → ps.length = l.length ∧ ∀ (j : Nat) (p : Nat × Nat), ps[j]? = some p → ∃ z, vs[j]? = some z ∧ PtrRep β S.G p.1 p.2 0 z
  | [], ps, vs, h, hr => by cases h; exact ⟨rfl, fun j p hj => by simp at hj⟩
  | a :: l, ps, vs, h, hr => by
    unfold ptrsOf at h
    split at h
    · rename_i h1; cases h1
    · rename_i i r l' h1
      cases h1
      split at h
      · rename_i ps' h2
        cases h
        have hr2 : ArgsRep w β S.G (okB w0 N β S.G w) l (vs.toList.tail.toArray) := by
          refine ⟨by have := hr.1; simp at this ⊢; omega, fun j b hj => ?_⟩
          obtain ⟨z, hz, hz2⟩ := hr.2 (j + 1) b (by simpa using hj)
          exact ⟨z, by simpa using hz, hz2⟩
        obtain ⟨g1, g2⟩ := ptrsOf_rep (vs := vs.toList.tail.toArray) h2 hr2
        refine ⟨by simp [g1], fun j p hj => ?_⟩
        cases j with
        | zero =>
          cases hj
          obtain ⟨z, hz, hz2⟩ := hr.2 0 _ rfl
          exact ⟨z, hz, hz2⟩
        | succ j =>
          obtain ⟨z, hz, hz2⟩ := g2 j p (by simpa using hj)
          exact ⟨z, by simpa using hz, hz2⟩
      · cases h
    · cases h
theorem s_makeFunc {fn : Fn} {first caps : Array Operand} (ho : o.op = .makeFunc fn first caps) (h : (aop P T cf o).run F S K) (hs : Sim w0 M N b0 nt β S w tm) (hd : ∀ t, o.dst = some t → t < nt) (hn : Nx w0 M N b0 nt ds K next) : o.wp P ⟨tm, ds⟩ w next Q := by
  simp only [aop, ho] at h
  cases fn with
  | func f =>
    dsimp only at h
    obtain ⟨h0, h⟩ := h
    obtain ⟨as, h, hr⟩ := getL_run (ds := ds) hs _ h
    obtain ⟨ps, hps, h⟩ := orFail_run h
    have e1 : (caps.toList.map (Act.eval ⟨tm, ds⟩)).toArray = caps.map (Act.eval ⟨tm, ds⟩) := by rw [← Array.toList_map, Array.toArray_toList]
    rw [e1] at hr
    obtain ⟨h1, h2⟩ := ptrsOf_rep hps hr
    have e2 : first.map (Act.eval ⟨tm, ds⟩) = #[] := by rw [Array.eq_empty_of_size_eq_zero h0]; simp
    refine wp_value (v := .func (.func f) #[] (caps.map (Act.eval ⟨tm, ds⟩))) (w' := w) ?_ (putD_run h hs hd ⟨caps.map (Act.eval ⟨tm, ds⟩), rfl, by rw [hr.1, h1], h2⟩ hn)
    unfold execOp
    simp only [ho, Instr.makeFunc, e2]
    rfl
  | _ => exact h.elim
/-- Every operation does what it does abstractly. -/
theorem aop_sound (hT : TabOk P T) (hcf : ∀ f m, cf f = some m → GoodCall P f m) (h : (aop P T cf o).run F S K) (hs : Sim w0 M N b0 nt β S w tm) (hd : ∀ t, o.dst = some t → t < nt) (hn : Nx w0 M N b0 nt ds K next) : o.wp P ⟨tm, ds⟩ w next Q := by
  cases ho : o.op with
  | move x => exact s_move (.inl ho) h hs hd hn
  | assign x => exact s_move (.inr ho) h hs hd hn
  | pick c a b => exact s_pick ho h hs hd hn
  | binOp op t x y yt => exact s_binOp ho h hs hd hn
  | makeFunc fn first caps => exact s_makeFunc ho h hs hd hn
  | unOp op t x => exact s_unOp ho h hs hd hn
  | convert a b x => exact s_convert ho h hs hd hn
  | index t x y => exact s_index ho h hs hd hn
  | extract x k => exact s_extract ho h hs hd hn
  | field t x f => exact s_field hT ho h hs hd hn
  | alloc t => exact s_alloc hT ho h hs hd hn
  | box t x => exact s_box ho h hs hd hn
  | load t x => exact s_load hT ho h hs hd hn
  | store t x y => exact s_store hT ho h hs hd hn
  | nilCheck x => exact s_nilCheck ho h hs hd hn
  | fieldAddr t x f => exact s_fieldAddr hT ho h hs hd hn
  | indexAddr t x y => exact s_indexAddr hT ho h hs hd hn
  | build t ps => exact s_build hT ho h hs hd hn
  | buildSlice t n ps => exact s_buildSlice hT ho h hs hd hn
  | makeSlice t x y => exact s_makeSlice hT ho h hs hd hn
  | slice t x lo hi mx => exact s_slice hT ho h hs hd hn
  | call c =>
    obtain ⟨callee, args, ts⟩ := c
    cases callee with
    | value f => exact s_call hcf ho h hs hd hn
    | invoke r m => simp only [aop, ho] at h; exact h.elim
    | builtin b =>
      by_cases hb1 : b = .append
      · subst hb1
        have h' := h
        simp only [aop, ho] at h'
        split at h'
        · rename_i x y t t' hx ht
          have e1 : args = #[x, y] := by rw [← Array.toArray_toList (xs := args), hx]
          have e2 : ts = #[t, t'] := by rw [← Array.toArray_toList (xs := ts), ht]
          subst e1 e2
          have e3 : t' = t := by
            obtain ⟨a, h', _⟩ := getO_run (ds := ds) h' hs
            obtain ⟨b, h', hrb⟩ := getO_run (ds := ds) h' hs
            obtain ⟨_, _, h'⟩ := orFail_run h'
            obtain ⟨_, _, h'⟩ := orFail_run h'
            obtain ⟨_, _, h', _⟩ := getSl_run h' hs hrb
            exact h'.1.2.1
          subst e3
          exact s_append hT ho h hs hd hn
        · exact h'.elim
      · by_cases hb2 : b = .len
        · subst hb2
          have h' := h
          simp only [aop, ho] at h'
          split at h'
          · rename_i x t hx ht
            have e1 : args = #[x] := by rw [← Array.toArray_toList (xs := args), hx]
            have e2 : ts = #[t] := by rw [← Array.toArray_toList (xs := ts), ht]
            subst e1 e2
            exact s_len hT ho h hs hd hn
          · exact h'.elim
        · exact s_builtin ho hb1 hb2 h hs hd hn
  | _ => simp only [aop, ho] at h; exact h.elim
end
end Go.Proofs.Ytgifhhefcmmdfaa
