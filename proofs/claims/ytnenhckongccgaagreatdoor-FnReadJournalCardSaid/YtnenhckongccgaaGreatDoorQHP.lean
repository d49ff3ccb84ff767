/- KMA, KMB, KMC, KMD, KGX, KGV, KGY, PJ, PK, KCB, KCC, KBP, KME, KGK: laid into one text. -/
import Derived.Test.YtnenhckongccgaaGreatDoorQHF
import Derived.Test.YtnenhckongccgaaGreatDoorQHI
import Derived.Test.YtnenhckongccgaaGreatDoorQHN
import Derived.Test.YtnenhckongccgaaGreatDoorQHO
import Derived.Deep.RegionLaw
import Derived.Shelf.RegionOpenPlain
import Derived.Laws.CopyRow
import Derived.LoopN
import Derived.Lib.SliceRun
import Derived.Lib.AppendZeros

namespace Go.Proofs.YtnenhckongccgaaGreatDoor
set_option linter.unusedVariables false
set_option linter.unusedSimpArgs false
open Go.RowKit Go.Shelf
theorem run_clear_row {P : Program} (w : World) (t e ty : TypeId) (z : Value) (ht : P.underlying t = some (.slice e)) (hv : (zeroValue e).run P w = .ok z w) (g o n c : Nat) (cur : Array Value) (hg : w.heap[g]? = some (.cells cur e (0, 0))) (hn : 0 < n)
    (h1 : ∀ v ∈ (Builtin.zeroCells z.cells n).toList, v.oneCell' = true) (hfit : o + (Builtin.zeroCells z.cells n).size ≤ cur.size) :
    (Builtin.clear_ #[t] ty #[.slice (some ⟨g, o, none⟩) n c]).run P w = .ok (.tuple #[]) (w.setRow g (cur.toList.take o ++ (Builtin.zeroCells z.cells n).toList ++ cur.toList.drop (o + (Builtin.zeroCells z.cells n).toList.length)).toArray) := by
  have hst := run_storeCells_at P g o e (Builtin.zeroCells z.cells n).toList 0 cur w hg (by simpa using hfit) h1
  simp only [Nat.add_zero] at hst
  obtain ⟨m, rfl⟩ : ∃ m, n = m + 1 := ⟨n - 1, by omega⟩
  simp [Builtin.clear_, run_underlying ht, hv, hst]
theorem step_append_run {P : Program} {ops : Array Oper} {o : Oper} {a : Act} {w w' : World} {v v1 v2 : Value} {K : Act → World → Prop} {Q : Exit → Act → World → Prop} {E : Prop}
    (hg : o.guard = none) (s x : Operand) (t : TypeId) (hop : o.op = Op.call { callee := Callee.builtin Builtin.append, args := #[s, x], argTypes := #[t, t] })
    (hs : a.eval s = v1) (hx : a.eval x = v2) (hrun : ∀ ty, (Builtin.append_ #[t, t] ty #[v1, v2]).run P w = .ok v w') (hK : K (a.put o.dst v) w') :
    if Region.wanted o (yielded ops a.tmps) = true then Oper.wp P o a w K Q else E := by
  have hw : Region.wanted o (yielded ops a.tmps) = true := by simp [Region.wanted, hg]
  rw [if_pos hw]
  unfold Oper.wp
  simp [execOp, hop, resolve, invoke, builtin, hs, hx, hrun, Result.andThen]
  exact hK
theorem zc4 (n : Nat) : ∀ v ∈ (Builtin.zeroCells (gvl ⟨0, 0, 0, 0⟩).cells n).toList, v.oneCell' = true := by
  intro v hv
  simp only [Builtin.zeroCells, Array.toList_map, List.mem_map] at hv
  obtain ⟨i, _, rfl⟩ := hv
  have e : (gvl ⟨0, 0, 0, 0⟩).cells = #[.int .i64 0, .int .i64 0, .int .i64 0, .int .i64 0] := rfl
  rw [e]
  have h4 : i % 4 < 4 := Nat.mod_lt _ (by decide)
  show ((#[Value.int .i64 0, .int .i64 0, .int .i64 0, .int .i64 0] : Array Value)[i % 4]!).oneCell' = true
  generalize i % 4 = k at h4
  obtain rfl | rfl | rfl | rfl : k = 0 ∨ k = 1 ∨ k = 2 ∨ k = 3 := by omega
  all_goals rfl
set_option maxHeartbeats 4000000 in
set_option maxRecDepth 1000000 in
theorem delG : IsDel Tryz.prog 158 56 4 := by
  refine ⟨Go.Proofs.enters_of Tryz.func158 (by kernel_rfl) rfl, ?_⟩
  intro g n c cur w a b hg hn hc hcs hab hbn hone
  obtain ⟨i0, hi, hz0, hz1, hz2⟩ := info_parts infoG
  have hc63 : c ≤ 9223372036854775807 := by unfold maxLen at hc; omega
  obtain ⟨news, hnews⟩ : ∃ news, news = (cur.toList.take (n * 4)).drop (b * 4) := ⟨_, rfl⟩
  have hncs : n * 4 ≤ cur.size := by omega
  have hlen : news.length = (n - b) * 4 := by rw [hnews, List.length_drop, List.length_take, Array.length_toList]; omega
  have hget : ∀ t u, news[t]? = some u → b * 4 + t < n * 4 ∧ cur[b * 4 + t]? = some u := by
    intro t u hu
    have ht : t < (n - b) * 4 := by
      have := (List.getElem?_eq_some_iff.1 hu).1
      rwa [hlen] at this
    refine ⟨by omega, ?_⟩
    rw [hnews, List.getElem?_drop, List.getElem?_take, if_pos (by omega), Array.getElem?_toList] at hu
    exact hu
  have h1c : ∀ u ∈ news, u.oneCell' = true := by
    intro u hu
    rw [hnews] at hu
    exact List.all_eq_true.1 hone u (List.mem_of_mem_drop hu)
  obtain ⟨A, hA, hsrc⟩ : ∃ A : Addr, (if c = b then some (⟨g, 0, none⟩ : Addr) else some ⟨g, b * 4, none⟩) = some A ∧ Hid (∀ t u, news[t]? = some u → w.drew.cell? (A.add t) = some u) := by
    by_cases h : c = b
    · refine ⟨⟨g, 0, none⟩, by simp [h], ⟨fun t u hu => ?_⟩⟩
      have := (hget t u hu).1
      omega
    · refine ⟨⟨g, b * 4, none⟩, by simp [h], ⟨fun t u hu => ?_⟩⟩
      rw [Addr.add_lit]
      show w.cell? ⟨g, b * 4 + t, none⟩ = some u
      rw [cell_of_row w g _ cur _ _ hg]
      exact (hget t u hu).2
  have hrun : ∀ ty, (Builtin.append_ #[23, 23] ty #[.slice (some ⟨g, 0, none⟩) a c, .slice (some A) (n - b) (c - b)]).run Tryz.prog w.drew = .ok (.slice (some ⟨g, 0, none⟩) (a + (n - b)) c) (w.drew.setRow g (cur.toList.take (a * i0.size) ++ news ++ cur.toList.drop (a * i0.size + news.length)).toArray) := fun ty =>
    run_append_room (P := Tryz.prog) w.drew 23 ty 56 i0 Tryz.underlying23 hi g a c cur hg A (n - b) (c - b) news (by rw [hlen, hz1]) hsrc.out h1c (by omega) (by rw [hlen, hz1]; omega)
  rw [hz1, hlen] at hrun
  obtain ⟨W1, hW1⟩ : ∃ W1, W1 = w.drew.setRow g (cur.toList.take (a * 4) ++ news ++ cur.toList.drop (a * 4 + (n - b) * 4)).toArray := ⟨_, rfl⟩
  have hg1 : W1.heap[g]? = some (.cells (cur.toList.take (a * 4) ++ news ++ cur.toList.drop (a * 4 + (n - b) * 4)).toArray 56 (0, 0)) := by
    rw [hW1]; exact setRow_heap w.drew g cur _ _ _ hg
  have hk1 : w.grownBy W1 (some g) := by
    rw [hW1]
    exact ⟨rfl, rfl, rfl, by rw [size_setRow]; exact Nat.le_refl _, fun k _ hk => setRow_other w.drew g k _ fun e => hk (by rw [e])⟩
  rw [← hW1] at hrun
  clear hW1
  have hsz1 : ((cur.toList.take (a * 4) ++ news ++ cur.toList.drop (a * 4 + (n - b) * 4)).toArray).size = cur.size := by
    simp only [List.size_toArray, List.length_append, List.length_take, List.length_drop, Array.length_toList, hlen]; omega
  have hv : (zeroValue 56).run Tryz.prog W1 = .ok (gvl ⟨0, 0, 0, 0⟩) W1 := by simp [zeroValue, typeInfo, hi, hz0]
  have hzs : (Builtin.zeroCells (gvl ⟨0, 0, 0, 0⟩).cells (b - a)).size = (b - a) * 4 := size_zeroCells _ _
  have hcl : ∀ ty, (Builtin.clear_ #[23] ty #[.slice (some ⟨g, (a + (n - b)) * 4, none⟩) (n - (a + (n - b))) (c - (a + (n - b)))]).run Tryz.prog W1 = .ok (.tuple #[]) _ := fun ty => by
    rw [show n - (a + (n - b)) = b - a by omega]
    exact run_clear_row W1 _ _ ty _ Tryz.underlying23 hv g ((a + (n - b)) * 4) (b - a) _ _ hg1 (by omega) (zc4 _) (by rw [hzs, hsz1]; omega)
  obtain ⟨W2, hW2⟩ : ∃ W2, W2 = W1.setRow g (((cur.toList.take (a * 4) ++ news ++ cur.toList.drop (a * 4 + (n - b) * 4)).toArray).toList.take ((a + (n - b)) * 4) ++ (Builtin.zeroCells (gvl ⟨0, 0, 0, 0⟩).cells (b - a)).toList ++ ((cur.toList.take (a * 4) ++ news ++ cur.toList.drop (a * 4 + (n - b) * 4)).toArray).toList.drop ((a + (n - b)) * 4 + (Builtin.zeroCells (gvl ⟨0, 0, 0, 0⟩).cells (b - a)).toList.length)).toArray := ⟨_, rfl⟩
  rw [← hW2] at hcl
  have hfin : (∃ cur', W2.heap[g]? = some (.cells cur' 56 (0, 0)) ∧ c * 4 ≤ cur'.size ∧ cur'.toList.take ((n - (b - a)) * 4) = (cur.toList.take (n * 4)).take (a * 4) ++ (cur.toList.take (n * 4)).drop (b * 4)) ∧ w.grownBy W2 (some g) := by
    refine ⟨⟨_, by rw [hW2]; exact setRow_heap W1 g _ _ _ _ hg1, ?_, ?_⟩, ?_⟩
    · simp only [List.size_toArray, List.length_append, List.length_take, List.length_drop, Array.length_toList, hlen, hzs]; omega
    · have hl0 : (cur.toList.take (a * 4) ++ news).length = (n - (b - a)) * 4 := by
        rw [List.length_append, List.length_take, Array.length_toList, hlen]; omega
      have e0 : (a + (n - b)) * 4 = (n - (b - a)) * 4 := by omega
      simp only []
      rw [e0, List.append_assoc, List.append_assoc, ← hl0]
      rw [List.take_append_of_le_length (by simp), ← List.append_assoc, List.take_take, Nat.min_self, List.append_assoc, ← List.append_assoc, List.take_left, List.take_take, Nat.min_eq_left (by omega), hnews]
    · exact ⟨by rw [hW2]; exact hk1.os, by rw [hW2]; exact hk1.tape, by rw [hW2]; exact hk1.output, by rw [hW2, size_setRow]; exact hk1.size, fun k hk hne => by rw [hW2, setRow_other W1 g k _ fun e => hne (by rw [e])]; exact hk1.block k hk hne⟩
  clear hW2 hk1 hsz1 hv hzs hg1 hget hnews hlen h1c hg hone hncs
  have X := Hid.mk hfin
  clear hfin
  have hrunH := Hid.mk hrun
  clear hrun
  have mixed0 := mixed
  have hac : a ≤ c := by omega
  have hbc : b ≤ c := by omega
  go_enter Tryz.func158, Tryz.ntmps158
  go_wp2_with fail
  go_region_law_o (refine step_append_run rfl (.tmp 22) (.tmp 25) 23 rfl (by simp [Act.eval, Act.put]; first | done | rfl) (by simp [Act.eval, Act.put]; first | done | rfl) hrunH.out ?_)
  go_wp2
  go_ret
  exact ⟨by rw [show n - (b - a) = a + (n - b) by omega]; rfl, X.out⟩
theorem wpList_app_run {P : Program} {ops : Array Oper} {rest : List Oper} {o : Oper} {a : Act} {w w' : World} {v v1 v2 : Value} {Q : Exit → Act → World → Prop} (hgd : o.guard = none) (s x : Operand) (t : TypeId)
    (ho : o.op = .call { callee := .builtin .append, args := #[s, x], argTypes := #[t, t] }) (hs : a.eval s = v1) (hx : a.eval x = v2) (hrun : (Builtin.append_ #[t, t] o.type #[v1, v2]).run P w = .ok v w')
    (h : wpList P ops Q rest (a.put o.dst v) w') : wpList P ops Q (o :: rest) a w :=
  wpList_plain hgd fun _ hK => by
    unfold Oper.wp execOp
    simp only [ho, resolve, invoke, builtin, Sem.run_bind, Sem.run_pure, Result.andThen_ok, List.map_toArray, List.map_cons, List.map_nil, hs, hx, hrun]
    exact hK _ _ h
theorem wpList_app_run2 {P : Program} {ops : Array Oper} {rest : List Oper} {o : Oper} {a : Act} {w w' : World} {v v1 v2 : Value} {Q : Exit → Act → World → Prop} (hgd : o.guard = none) (s x : Operand) (t t2 : TypeId)
    (ho : o.op = .call { callee := .builtin .append, args := #[s, x], argTypes := #[t, t2] }) (hs : a.eval s = v1) (hx : a.eval x = v2) (hrun : (Builtin.append_ #[t, t2] o.type #[v1, v2]).run P w = .ok v w')
    (h : wpList P ops Q rest (a.put o.dst v) w') : wpList P ops Q (o :: rest) a w :=
  wpList_plain hgd fun _ hK => by
    unfold Oper.wp execOp
    simp only [ho, resolve, invoke, builtin, Sem.run_bind, Sem.run_pure, Result.andThen_ok, List.map_toArray, List.map_cons, List.map_nil, hs, hx, hrun]
    exact hK _ _ h
theorem ro_src {w : World} {A : Option Addr} {n c : Nat} {x : List Gt} (h : RoRep w (fun b => b < w.heap.size) 4 n (cV x) (.slice A n c)) {m : Nat} (hm : n = m) (h0 : 0 < n) : ∃ ad, A = some ad ∧ (∀ j u, (cV x)[j]? = some u → w.cell? (ad.add j) = some u) := by
  obtain ⟨⟨h1, h2⟩, A', c', e, h3, h4, h5⟩ := h
  cases e
  obtain ⟨b, off, rfl, hb, hc⟩ := h5 h0
  exact ⟨_, rfl, fun j u hj => by rw [Addr.add_lit]; exact hc j u hj⟩
set_option maxHeartbeats 1000000 in
set_option maxRecDepth 100000 in
theorem clone_w (A : Option Addr) (l : List Gt) (c : Nat) (w : World) (hl : l.length ≤ 1000000) (h : RoRep w (fun b => b < w.heap.size) 4 l.length (cV l) (.slice A l.length c)) :
    Calls Tryz.prog 156 #[.slice A l.length c] w fun e W' => ∃ v, e = .returned v ∧ W'.ownsRow w.heap.size 56 4 v l.length (cV l) ∧ Below w.heap.size w W' := by
  cases A with
  | none =>
    obtain ⟨⟨h1, h2⟩, A', c', e, h3, h4, h5⟩ := h
    cases e
    have h0 : l.length = 0 := by
      rcases Nat.eq_zero_or_pos l.length with h0 | h0
      · exact h0
      · obtain ⟨b, off, hA, _⟩ := h5 h0
        cases hA
    have hl0 : l = [] := List.eq_nil_of_length_eq_zero h0
    subst hl0
    have hnil := fun (w : World) (A : Option Addr) (n c : Nat) => Go.Lib.run_eql_slice_nil (P := Tryz.prog) w 23 56 A n c 0 0 Tryz.underlying23
    go_enter Tryz.func156, Tryz.ntmps156
    go_wp2
    go_ret
    exact ⟨_, rfl, ⟨rfl, .inl ⟨rfl, rfl⟩⟩, Below.refl _ _⟩
  | some ad =>
    obtain ⟨i0, hi, hz0, hz1, hz2⟩ := info_parts infoG
    have hone := h.1.2
    have hcells : ∀ j u, (cV l)[j]? = some u → w.cell? (ad.add j) = some u := by
      rcases Nat.eq_zero_or_pos l.length with h0 | h0
      · intro j u hj
        have hl0 : l = [] := List.eq_nil_of_length_eq_zero h0
        subst hl0
        cases j <;> cases hj
      · obtain ⟨ad', e, h⟩ := ro_src h rfl h0
        cases e
        exact h
    have hown : (w.alloc (.cells #[] 56)).ownsRow w.heap.size 56 4 (.slice (some ⟨w.heap.size, 0, none⟩) 0 0) 0 [] := ⟨rfl, .inr ⟨w.heap.size, 0, #[], rfl, Nat.le_refl _, World.alloc_heap_new w _, Nat.le_refl _, Nat.zero_le _, rfl, rfl⟩⟩
    have happ : ∀ ty, ∃ v' w', (Builtin.append_ #[23, 23] ty #[.slice (some ⟨w.heap.size, 0, none⟩) 0 0, .slice (some ad) l.length c]).run Tryz.prog (w.alloc (.cells #[] 56)) = .ok v' w' ∧ w'.ownsRow w.heap.size 56 4 v' l.length (cV l) ∧ Below w.heap.size w w' := by
      intro ty
      obtain ⟨v', w', k1, k2, k3, _, k5⟩ := run_append_own_at (P := Tryz.prog) (w.alloc (.cells #[] 56)) w.heap.size 23 ty 56 i0 _ 4 32 Tryz.underlying23 hi hz0 hz1 hz2 rfl (by decide) _ 0 [] hown ad l.length c (cV l) (cV_len l) (fun j u hj => (Go.Lib.cell?_alloc_some _ (hcells j u hj))) (fun u hu => List.all_eq_true.1 hone u hu) (by unfold maxLen; omega) (by omega) (by simp)
      rw [Nat.zero_add, List.nil_append] at k2
      refine ⟨v', w', k1, k2, ?_⟩
      have hb0 : Below w.heap.size w (w.alloc (.cells #[] 56)) := (Below.refl _ w).alloc (Nat.le_refl _) _
      refine hb0.trans ⟨k3.os, k3.tape, k3.output, k3.size, fun k hk => k3.block k (by simp; omega) (fun e => ?_)⟩
      simp [Value.ownBlock] at e
      omega
    obtain ⟨v', w', k1, k2, k3⟩ := happ 23
    replace k1 := Hid.mk k1
    have hnil := fun (w : World) (A : Option Addr) (n c : Nat) => Go.Lib.run_eql_slice_nil (P := Tryz.prog) w 23 56 A n c 0 0 Tryz.underlying23
    go_enter Tryz.func156, Tryz.ntmps156
    go_wp2_with (at_builtin; refine wpList_app_run rfl (.tmp 5) (.tmp 6) 23 rfl rfl rfl k1.out ?_)
    go_ret
    exact ⟨_, rfl, k2, k3⟩
theorem app_src {w : World} {base : Nat} {v : Value} {n : Nat} {xs : List Value} {A : Option Addr} {m c : Nat} {l : List Gt} (hb : base ≤ w.heap.size) (hown : w.ownsRow base 56 4 v n xs) (h : RoRep w (fun b => b < w.heap.size) 4 m (cV l) (.slice A m c)) (hn : n ≤ 1000000) (hm : m ≤ 1000000) :
    ∃ v' w', (∀ ty, (Builtin.append_ #[23, 23] ty #[v, .slice A m c]).run Tryz.prog w = .ok v' w') ∧ w'.ownsRow base 56 4 v' (n + m) (xs ++ cV l) ∧ Below base w w' := by
  obtain ⟨i0, hi, hz0, hz1, hz2⟩ := info_parts infoG
  have hone := h.1.2
  have hlen := h.1.1
  have hu : Tryz.prog.underlying 23 = some (.slice 56) := Tryz.underlying23
  have hno : ∀ k, v.ownBlock = some k → base ≤ k := fun k hk => (hown.lt k hk).1
  cases A with
  | none =>
    have h0 : m = 0 := by
      rcases Nat.eq_zero_or_pos m with h0 | h0
      · exact h0
      · obtain ⟨ad, hA, _⟩ := ro_src h rfl h0
        cases hA
    subst h0
    have e : cV l = [] := List.eq_nil_of_length_eq_zero (by omega)
    rw [e]
    refine ⟨v, w, fun ty => ?_, by simpa using hown, Below.refl _ _⟩
    rcases hown.2 with ⟨rfl, rfl⟩ | ⟨g, cap, cur, rfl, _, _, hnc, _⟩
    · simp [Builtin.append_, run_underlying hu, sizeOf, typeInfo, hi, Builtin.lenOf, Builtin.firstCells]
    · simp [Builtin.append_, run_underlying hu, sizeOf, typeInfo, hi, Builtin.lenOf, Builtin.firstCells, hnc, storeCells]
  | some ad =>
    have hcells : ∀ j u, (cV l)[j]? = some u → w.cell? (ad.add j) = some u := by
      rcases Nat.eq_zero_or_pos m with h0 | h0
      · subst h0
        have e : cV l = [] := List.eq_nil_of_length_eq_zero (by omega)
        intro j u hj
        rw [e] at hj; cases hj
      · obtain ⟨ad', e, h⟩ := ro_src h rfl h0
        cases e
        exact h
    obtain ⟨v', w', k1, k2, k3, _, k5⟩ := run_append_own_at (P := Tryz.prog) w base 23 23 56 i0 _ 4 32 hu hi hz0 hz1 hz2 rfl (by decide) v n xs hown ad m c (cV l) hlen hcells (fun u hu => List.all_eq_true.1 hone u hu) (by unfold maxLen; omega) (by omega) hb
    exact ⟨v', w', fun ty => k1, k2, k3.os, k3.tape, k3.output, k3.size, fun k hk => k3.block k (by omega) (fun e => by have := hno k e.symm; omega)⟩
set_option maxRecDepth 100000 in
theorem grow_w (n : Nat) (w : World) (hn : n ≤ 2000000) :
    Calls Tryz.prog 162 #[.slice none 0 0, .int .i64 n] w fun e W' => ∃ v, e = .returned v ∧ W'.ownsRow w.heap.size 56 4 v 0 [] ∧ Below w.heap.size w W' := by
  have mixed0 := mixed
  have h1 : ¬ ((n : Int) < 0) := by omega
  rcases Nat.eq_zero_or_pos n with h0 | h0
  · subst h0
    go_enter Tryz.func162, Tryz.ntmps162
    go_wp2
    go_ret
    exact ⟨_, rfl, World.ownsRow_nil _ _ _ _, Below.refl _ _⟩
  · obtain ⟨i0, hi, hz0, hz1, hz2⟩ := info_parts infoG
    have hrz : ∀ ty, (Builtin.append_ #[23, 3] ty #[.slice none 0 0, .int .i64 n]).run Tryz.prog w = _ := fun ty =>
      Lib.run_append_nil_zeros (P := Tryz.prog) w 23 3 ty 56 i0 _ .i64 .i64 Tryz.underlying23 Tryz.underlying3 hi hz0 n h0 (by rw [hz1]; decide) (by omega) (by rw [hz2]; omega)
    have hGn : n ≤ grownCap w n 0 56 := grownCap_ge w _ _ _
    have hGm := grownCap_le_maxLen w n 0 56 (by unfold maxLen; omega)
    obtain ⟨G, hG⟩ : ∃ G, G = grownCap w n 0 56 := ⟨_, rfl⟩
    rw [← hG] at hrz hGn hGm
    obtain ⟨cs, hcs⟩ : ∃ cs, cs = Builtin.zeroCells (gvl ⟨0, 0, 0, 0⟩).cells n ++ Builtin.zeroCells (gvl ⟨0, 0, 0, 0⟩).cells (G - n) := ⟨_, rfl⟩
    rw [← hcs] at hrz
    have hsz : cs.size = G * 4 := by
      rw [hcs, Array.size_append, size_zeroCells, size_zeroCells]
      have e : (gvl ⟨0, 0, 0, 0⟩).cells.size = 4 := rfl
      rw [e]; omega
    have hown : (w.drew.alloc (.cells cs 56)).ownsRow w.heap.size 56 4 (.slice (some ⟨w.heap.size, 0, none⟩) 0 G) 0 [] := ⟨rfl, .inr ⟨w.heap.size, G, cs, rfl, Nat.le_refl _, World.alloc_heap_new w.drew _, Nat.zero_le _, hGm, hsz, rfl⟩⟩
    have hbel : Below w.heap.size w (w.drew.alloc (.cells cs 56)) := (show Below w.heap.size w w.drew from ⟨rfl, rfl, rfl, Nat.le_refl _, fun _ _ => rfl⟩).alloc (Nat.le_refl _) _
    have hG63 : G ≤ 9223372036854775807 := by unfold maxLen at hGm; omega
    clear hG hcs hsz
    replace hrz := Hid.mk hrz
    go_enter Tryz.func162, Tryz.ntmps162
    go_wp2_with (at_builtin; refine wpList_app_run2 rfl (.tmp 20) (.tmp 21) 23 3 rfl rfl rfl (hrz.out _) ?_)
    go_ret
    exact ⟨_, rfl, hown, hbel⟩
theorem cellOf {w : World} {g j : Nat} {cs : Array Value} {t : TypeId} {fr : Nat × Nat} {v : Value} (h : w.heap[g]? = some (.cells cs t fr)) (hv : cs[j]? = some v) : w.cell? ⟨g, j, none⟩ = some v := by
  rw [cell_of_row w g j cs t fr h]; exact hv
set_option maxRecDepth 100000 in
set_option maxHeartbeats 2000000 in
theorem concat_w (g : Nat) (x y : List Gt) (A1 A2 : Option Addr) (c1 c2 : Nat) (w : World) (hg : w.heap[g]? = some (.cells #[.slice A1 x.length c1, .slice A2 y.length c2] 23 (0, 0)))
    (hx : RoRep w (fun b => b < w.heap.size) 4 x.length (cV x) (.slice A1 x.length c1)) (hy : RoRep w (fun b => b < w.heap.size) 4 y.length (cV y) (.slice A2 y.length c2)) (hxl : x.length ≤ 1000000) (hyl : y.length ≤ 1000000) :
    Calls Tryz.prog 140 #[.slice (some ⟨g, 0, none⟩) 2 2] w fun e W' => ∃ v, e = .returned v ∧ W'.ownsRow w.heap.size 56 4 v (x.length + y.length) (cV x ++ cV y) ∧ Below w.heap.size w W' := by
  have mixed0 := mixed
  have hlt : g < w.heap.size := (Array.getElem?_eq_some_iff.1 hg).1
  have q0 : w.cell? ⟨g, 0, none⟩ = some (.slice A1 x.length c1) := cellOf hg rfl
  have q1 : w.cell? ⟨g, 1, none⟩ = some (.slice A2 y.length c2) := cellOf hg rfl
  clear hg
  have hs1 : ¬ ((x.length : Int) < 0) := by omega
  have hs2 : ¬ ((x.length : Int) + (y.length : Int) < 0) := by omega
  have hmono : ∀ {W : World}, Below w.heap.size w W → ∀ {n : Nat} {l : List Value} {v : Value}, RoRep w (fun b => b < w.heap.size) 4 n l v → RoRep W (fun b => b < W.heap.size) 4 n l v := fun hB _ _ _ h => RoRep.mono (fun b hb => ⟨Nat.lt_of_lt_of_le hb hB.size, hB.block b hb⟩) h
  replace hx := Hid.mk hx
  replace hy := Hid.mk hy
  go_enter Tryz.func140, Tryz.ntmps140
  go_wp2
  refine wp_loop_rounds 3 ?_
  rw [rounds_succ]
  go_wp2
  rw [rounds_succ]
  go_wp2
  rw [rounds_succ]
  go_wp2_with (go_at_call 162; refine (grow_w (x.length + y.length) w (by omega)).mono ?_; rintro e W1 ⟨v1, rfl, o1, b1⟩)
  have p0 := (b1.cell (p := ⟨g, 0, none⟩) hlt).trans q0
  obtain ⟨v2, W2, k1, o2, b2⟩ := app_src b1.size o1 (hmono b1 hx.out) (Nat.zero_le _) hxl
  have b12 := b1.trans b2
  have p1 := (b12.cell (p := ⟨g, 1, none⟩) hlt).trans q1
  rw [Nat.zero_add, List.nil_append] at o2
  obtain ⟨v3, W3, k2, o3, b3⟩ := app_src b12.size o2 (hmono b12 hy.out) hxl hyl
  have b13 := b12.trans b3
  replace k1 := Hid.mk k1
  replace k2 := Hid.mk k2
  clear q0 q1 o1 o2 b2 b3
  go_wp2
  refine wp_loop_rounds 3 ?_
  rw [rounds_succ]
  go_wp2_with (at_builtin; refine wpList_app_run rfl (.tmp 31) (.tmp 32) 23 rfl rfl rfl (k1.out _) ?_)
  rw [rounds_succ]
  go_wp2_with (at_builtin; refine wpList_app_run rfl (.tmp 31) (.tmp 32) 23 rfl rfl rfl (k2.out _) ?_)
  rw [rounds_succ]
  go_wp2
  go_ret
  exact ⟨_, rfl, o3, b13⟩
end Go.Proofs.YtnenhckongccgaaGreatDoor
namespace Go.Proofs.YtnenhckongccgaaGreatDoor
set_option linter.unusedVariables false
set_option linter.unusedSimpArgs false
open Go.RowKit
theorem info_S : (Tryz.prog.info? 23).map (fun i => (i.zero, i.size, i.bytes)) = some (some (.slice none 0 0), 1, 24) := by kernel_rfl
theorem build_2 (w : World) (A1 A2 : Option Addr) (n1 n2 c1 c2 : Nat) : (Instr.buildSlice 167 2 #[(0, .slice A1 n1 c1), (1, .slice A2 n2 c2)]).run Tryz.prog w = .ok (.slice (some ⟨w.heap.size, 0, none⟩) 2 2) (w.alloc (.cells #[.slice A1 n1 c1, .slice A2 n2 c2] 23)) := by
  obtain ⟨i0, hi, hz0, hz1, hz2⟩ := info_parts info_S
  have hs : (sizeOf 23).run Tryz.prog w = .ok 1 w := by simp [sizeOf, typeInfo, hi, hz1]
  have hz : (zeroValue 23).run Tryz.prog w = .ok (.slice none 0 0) w := by simp [zeroValue, typeInfo, hi, hz0]
  have g1 : Instr.fill (fun i => some (i * 1, 1)) ((Array.range 2).map ((Value.slice none 0 0).cells[· % (Value.slice none 0 0).cells.size]!)) [(0, .slice A1 n1 c1), (1, .slice A2 n2 c2)] = some #[.slice A1 n1 c1, .slice A2 n2 c2] := by kernel_rfl
  simp only [Instr.buildSlice, Sem.run_bind, run_underlying Tryz.underlying167, Result.andThen_ok, hs, Sem.run_pure, Sem.run_ite]
  rw [if_neg (by decide), if_neg (by decide)]
  simp only [Result.andThen_ok, hz, g1, Sem.run_bind, newRow, run_newObj, Sem.run_pure]
  rfl
theorem sim_alloc {w0 w : World} {M N : Nat → Prop} {b0 β : Nat → Value} {nt : Nat} {S : St} {tm : Array Value} (hs : Sim w0 M N b0 nt β S w tm) (o : Obj) : Sim w0 M N b0 nt β S (w.alloc o) tm :=
  (hs.change (w' := w.alloc o) (β' := β) (fun _ => False) S.G rfl rfl rfl (by simp) (fun j _ => ⟨rfl, rfl⟩) (fun j r e h => h.elim) (fun k hk _ => Below.heap_alloc w o k hk) (fun j r e b h => h.elim) (fun j h => h.elim) (fun i j r e r' e' b h => h.elim) (fun _ _ j r e h => h.elim)).1
theorem ro_lt {w : World} {ok : Nat → Prop} {n : Nat} {l : List Value} {v : Value} (hok : ∀ b, ok b → b < w.heap.size) (h : RoRep w ok 4 n l v) : RoRep w (fun b => b < w.heap.size) 4 n l v := RoRep.mono (fun b hb => ⟨hok b hb, rfl⟩) h
set_option maxRecDepth 100000 in
set_option maxHeartbeats 1000000 in
theorem wx_concat {S : St} {nt : Nat} {K : St → Prop} {x y : List Gt} {r d1 d2 tx ty ty1 ty2 ts : Nat} {pos pos2 : String} {af af2 : Array Edge} {ops : Array Oper} {rest : List Oper}
    (hd : (Nat.blt d1 nt && Nat.blt d2 nt && Nat.blt (nid d2 0) 100000) = true) (hx : S.E tx = some (roA x)) (hy : S.E ty = some (roA y)) (hl : x.length ≤ 1000000 ∧ y.length ≤ 1000000) (hr : nvO S (nid d2 0) = some r)
    (hk : WX Tryz.prog nt ops rest (((S.put d1 none).lay (nid d2 0) (some (r, gRow (x ++ y)))).put d2 (some (.g (.one (.sl (nid d2 0) r (x ++ y).length))))) K) :
    WX Tryz.prog nt ops (⟨some d1, .buildSlice 167 2 #[(0, .tmp tx), (1, .tmp ty)], ty1, pos, af, none⟩ :: ⟨some d2, .call { callee := .value (.func 140), args := #[.tmp d1], argTypes := #[ts] }, ty2, pos2, af2, none⟩ :: rest) S K := fun w0 M N b0 β w tm hs => by
  simp only [Bool.and_eq_true] at hd
  obtain ⟨⟨hd1, hd2⟩, hd3⟩ := hd
  have hd1 := blt_lt hd1
  have hd2 := blt_lt hd2
  have hd3 := blt_lt hd3
  have hx2 := ro_lt (fun b hb => hb.1) (hs.env tx _ hx).2
  have hy2 := ro_lt (fun b hb => hb.1) (hs.env ty _ hy).2
  have hx3 := hx2
  have hy3 := hy2
  obtain ⟨_, A1, c1, ex, _⟩ := hx3
  obtain ⟨_, A2, c2, ey, _⟩ := hy3
  rw [ex] at hx2
  rw [ey] at hy2
  refine wpList_plain rfl fun K1 hK1 => wp_value (v := .slice (some ⟨w.heap.size, 0, none⟩) 2 2) (w' := w.alloc (.cells #[.slice A1 x.length c1, .slice A2 y.length c2] 23)) ?_ (hK1 _ _ ?_)
  · unfold execOp
    have e1 : (#[(0, Operand.tmp tx), (1, Operand.tmp ty)] : Array (Nat × Operand)).map (fun (i, x) => (i, Act.eval ⟨tm, []⟩ x)) = #[(0, .slice A1 x.length c1), (1, .slice A2 y.length c2)] := by
      simp only [List.map_toArray, List.map_cons, List.map_nil]
      show #[(0, tm.getD tx undef), (1, tm.getD ty undef)] = _
      rw [ex, ey]
    simp only [Sem.run_bind, e1, build_2, Result.andThen_ok, Sem.run_pure]
  · obtain ⟨w1, hw1⟩ : ∃ w1, w1 = w.alloc (.cells #[.slice A1 x.length c1, .slice A2 y.length c2] 23) := ⟨_, rfl⟩
    have hg : w1.heap[w.heap.size]? = some (.cells #[.slice A1 x.length c1, .slice A2 y.length c2] 23 (0, 0)) := by rw [hw1]; exact World.alloc_heap_new w _
    have hB0 : ∀ b, b < w.heap.size → b < w1.heap.size ∧ w1.heap[b]? = w.heap[b]? := fun b hb => by rw [hw1]; exact ⟨by simp; omega, Below.heap_alloc w _ b hb⟩
    have hs1 := (sim_alloc hs (.cells #[.slice A1 x.length c1, .slice A2 y.length c2] 23)).del d1 (.slice (some ⟨w.heap.size, 0, none⟩) 2 2)
    rw [← hw1] at hs1 ⊢
    have hcall := concat_w w.heap.size x y A1 A2 c1 c2 w1 hg (RoRep.mono hB0 hx2) (RoRep.mono hB0 hy2) hl.1 hl.2
    refine wpList_plain rfl fun K2 hK2 => ?_
    have ev : Act.eval ⟨tm.setIfInBounds d1 (.slice (some ⟨w.heap.size, 0, none⟩) 2 2), []⟩ (.tmp d1) = .slice (some ⟨w.heap.size, 0, none⟩) 2 2 := by
      show (tm.setIfInBounds d1 _).getD d1 undef = _
      have : d1 < tm.size := by rw [hs.wide]; exact hd1
      simp [Array.getD_eq_getD_getElem?, this]
    have hent := Go.Proofs.enters_of Tryz.func140 (by kernel_rfl) rfl
    have hrun : (execOp (Act.eval ⟨tm.setIfInBounds d1 (.slice (some ⟨w.heap.size, 0, none⟩) 2 2), []⟩) ⟨some d2, .call { callee := .value (.func 140), args := #[.tmp d1], argTypes := #[ts] }, ty2, pos2, af2, none⟩).run Tryz.prog w1 = .ok (.enter 140 #[.slice (some ⟨w.heap.size, 0, none⟩) 2 2]) w1 := by
      unfold execOp
      have he : Act.eval ⟨tm.setIfInBounds d1 (.slice (some ⟨w.heap.size, 0, none⟩) 2 2), []⟩ (.func 140) = .func (.func 140) #[] #[] := rfl
      simp only [resolve, he, Deferred.ofValue, invoke, Sem.run_bind, Sem.run_pure, Result.andThen_ok, List.map_toArray, List.map_cons, List.map_nil, ev]
      simp [hent]
    unfold Oper.wp
    change Oper.upon Tryz.prog _ (⟨tm.setIfInBounds d1 (.slice (some ⟨w.heap.size, 0, none⟩) 2 2), []⟩ : Act) K2 _ ((execOp (Act.eval ⟨tm.setIfInBounds d1 (.slice (some ⟨w.heap.size, 0, none⟩) 2 2), []⟩) ⟨some d2, .call { callee := .value (.func 140), args := #[.tmp d1], argTypes := #[ts] }, ty2, pos2, af2, none⟩).run Tryz.prog w1)
    rw [hrun]
    refine Calls.mono hcall ?_
    rintro e W' ⟨v, rfl, hown, hB⟩
    have hown2 : ownR W' 56 4 v (x.length + y.length) (cV x ++ cV y) := ⟨hown.1, hown.2.imp id fun ⟨g, cap, cur, h1, h2, h3, h4, h5, h6, h7⟩ => ⟨g, cap, cur, h1, Nat.zero_le _, h3, h4, h5, Nat.le_of_eq h6.symm, h7⟩⟩
    have hblk : ∀ b, blk? v = some b → b < W'.heap.size ∧ w1.heap.size ≤ b := by
      intro b hb
      rcases hown.2 with ⟨rfl, _⟩ | ⟨g, cap, cur, rfl, hg, hgb, _⟩
      · cases hb
      · cases hb
        exact ⟨(Array.getElem?_eq_some_iff.1 hgb).1, hg⟩
    have hsl : ∃ A c, v = .slice A (x.length + y.length) c := by
      rcases hown.2 with ⟨rfl, h0⟩ | ⟨g, cap, cur, rfl, _⟩
      · rw [h0]; exact ⟨_, _, rfl⟩
      · exact ⟨_, _, rfl⟩
    have ecV : cV x ++ cV y = cV (x ++ y) := cV_append x y
    rw [ecV] at hown2
    have hver : ∀ r1 e1, (S.put d1 none).G (nid d2 0) = some (r1, e1) → r1 < r := by
      intro r1 e1 hg1
      unfold nvO at hr
      rw [show S.G (nid d2 0) = some (r1, e1) from hg1] at hr
      cases hr
      exact Nat.lt_succ_self _
    obtain ⟨β', h1, h2, h3, h4⟩ := hs1.change1 (w' := W') (nid d2 0) r (gRow (x ++ y)) v hB.os hB.tape hB.output hB.size
      (fun r1 e1 hg1 => by have := hver r1 e1 hg1; exact ⟨by omega, fun he => by omega⟩)
      (fun k hk _ => hB.block k hk) (fun b _ hb => ⟨(hblk b hb).1, .inl (hblk b hb).2⟩) (fun hge => by omega)
      (fun β' G' _ _ hok hold hβ => ⟨cV_one _, 56, x.length + y.length, fun z hz => by cases hz; rfl, by rw [hβ]; exact hown2⟩)
    obtain ⟨A, c, rfl⟩ := hsl
    have hlen : (x ++ y).length = x.length + y.length := List.length_append
    rw [hlen] at hk
    exact hK2 _ _ (hk w0 M N b0 β' W' _ (h1.put hd2 ⟨rfl, r, _, upd_same _ _ _, Nat.le_refl _, fun _ => ⟨A, x.length + y.length, c, h2, Nat.le_refl _, rfl⟩⟩))
theorem q_delC {α : Type} [Cel α] {P : Program} {T : Tab} {Fs : Nat → Ft} {i : Nat} {rest : List Oper} {S : St} {K : St → Prop} {ops : Array Oper} {d : Tmp} {ty : TypeId} {pos : String} {af : Array Edge} {g : Option (Nat × Bool)} {f : FuncId} {e0 : TypeId} {args : Array Operand} {ts : Array TypeId} {j r n : Nat} {a b : Int} {l : List α}
    (h1 : rdL (Fs i) S args.toList = some [.g (.one (.sl j r n)), vI a, vI b]) (hG : S.G j = some (r, .row (some e0) (Cel.sz α) (cV l))) (hF : ((Fs i).er j && ((Fs i).ew j && (Fs i).sw d)) = true) (hf : IsDel P f e0 (Cel.sz α)) (hp : n = l.length ∧ 0 ≤ a ∧ a < b ∧ b ≤ n)
    (k : runX Fs P T (cfU P) ops (i + 1) rest ((S.lay j (some (r + 1, .row (some e0) (Cel.sz α) (cV (l.take a.toNat ++ l.drop b.toNat))))).put d (some (.g (.one (.sl j (r + 1) (l.take a.toNat ++ l.drop b.toNat).length))))) K) :
    runA Fs P T (cfU P) ops i ⟨some d, .call { callee := .value (.func f), args := args, argTypes := ts }, ty, pos, af, g⟩ rest S K := by
  obtain ⟨rfl, h0, hab, hbn⟩ := hp
  have e1 : (cV l).take (a.toNat * Cel.sz α) ++ (cV l).drop (b.toNat * Cel.sz α) = cV (l.take a.toNat ++ l.drop b.toNat) := by
    rw [← cV_append, cV_drop, ← cV_take]
  have e2 : l.length - (b - a).toNat = (l.take a.toNat ++ l.drop b.toNat).length := by
    rw [List.length_append, List.length_take, List.length_drop]; omega
  refine q_del (S' := (S.lay j (some (r + 1, .row (some e0) (Cel.sz α) (cV (l.take a.toNat ++ l.drop b.toNat))))).put d (some (.g (.one (.sl j (r + 1) (l.take a.toNat ++ l.drop b.toNat).length))))) (p := r = r ∧ (cV l).length = l.length * Cel.sz α ∧ 0 < Cel.sz α ∧ Cel.sz α = Cel.sz α ∧ some e0 = some e0 ∧ 0 ≤ a ∧ a < b ∧ b ≤ l.length) ?_ hf ⟨rfl, cV_len l, Cel.pos, rfl, rfl, h0, hab, hbn⟩ k
  rw [h1]
  simp only [evDel, hF, cond_true, hG, e1, e2]
theorem k_clone (l : List Gt) (hl : l.length ≤ 1000000) : Kon Tryz.prog 156 [roA l] [] (slA 0 0 l) [gRow l] [] := by
  refine kon_fresh (Go.Proofs.enters_of Tryz.func156 (by kernel_rfl) rfl) ?_
  rintro w ok y hok h
  have h2 := h
  obtain ⟨_, A, c, rfl, _⟩ := h2
  exact clone_w A l c w hl (ro_lt hok h)
end Go.Proofs.YtnenhckongccgaaGreatDoor
namespace Go.Proofs.YtnenhckongccgaaGreatDoor
set_option linter.unusedVariables false
set_option linter.unusedSimpArgs false
set_option maxRecDepth 20000
open Go.RowKit
attribute [local irreducible] runA runX AW
def wsTS : WsT := (212, ([0], false)) :: (214, ([0], false)) :: (216, ([0], false)) :: wsT
theorem gq_KGX {H G : Prop} (k : H) (h : Hid H → G := by (intro hh; repeat1' (first | (first | (refine nxA ?_; (first | (refine z_op (by rfl) ?_; refine z_ex ?_ (pu_of hix rfl) ?_; focus (first | exact trivial | exact ⟨⟨by decide, by decide⟩, fun w => rfl⟩ | exact zQZ)) | ((first | (refine z_op (by rfl) ?_; first | refine z_ok ?_ ?_ | refine z_ex ?_ (by first | exact zL1 | ((first | fail); exact zWW) | exact zL2 | fail | exact zL3 | fail) ?_) | ((first | refine q_callE wsTS wsZ (by rfl) ?_ | refine q_callVE wsTS (by rfl) (by rfl) ?_); refine ⟨_, _, _, (by first | assumption | exact k_isNaN _ | exact k_less _ _), _, by rfl, ?_, ?_⟩)); focus (first | exact trivial | exact ⟨⟨by decide, by decide⟩, fun w => rfl⟩ | exact zQZ)) | fail)) | refine swA ?_) | refine awA ?_); exact hh.out)) : G := h ⟨k⟩
theorem hm9 : ∀ w : World, (Op.unary .not (.bool true)).run Tryz.prog w = .ok (.bool false) w := fun w => rfl
theorem k_isNaN (x : Int) : Kon Tryz.prog 231 [vI x] [] (vB false) [] [] := by
  have h : (x != x) = false := by simp
  have hix := hm9
  (refine kM Tryz.func231 rfl ?_; intro hfit hfe)
  (repeat (first | refine gq_KGX ?_ | (refine ga2A ?_; intro _hq)))
  (refine rtA ?_; try rfl)
  exact congrArg vB h
theorem k_less (x y : Int) : Kon Tryz.prog 222 [vI x, vI y] [] (vB (decide (x < y))) [] [] := by
  have hix := hm9
  (refine kM Tryz.func222 rfl ?_; intro hfit hfe)
  (repeat (first | refine gq_KGX ?_ | (refine ga2A ?_; intro _hq)))
  (refine rtA ?_; try rfl)
abbrev vUk (n : Int) : AV := .g (.one (.v (.int .u64 n)))
theorem k_ins1 (x : Int) : Kon Tryz.prog 216 [.g (.one (.sl 100000 0 1)), vI 0, vI 1] [iRow [x]] (.tup []) [] [iRow [x]] := by
  have hix := hm9
  (refine kM Tryz.func216 rfl ?_; intro hfit hfe)
  (repeat (first | refine gq_KGX ?_ | (refine ga2A ?_; intro _hq)))
  refine aw_unroll 1 ?_
  (repeat (first | refine gq_KGX ?_ | (refine ga2A ?_; intro _hq)))
  (refine rtA ?_; try rfl)
theorem k_ins2 (x y : Int) : Kon Tryz.prog 216 [.g (.one (.sl 100000 0 2)), vI 0, vI 2] [iRow [x, y]] (.tup []) [] [iRow (if y < x then [y, x] else [x, y])] := by
  have hix := hm9
  cases h : decide (y < x) with
  | false =>
    rw [if_neg (by simpa using h)]
    (refine kM Tryz.func216 rfl ?_; intro hfit hfe)
    (repeat (first | refine gq_KGX ?_ | (refine ga2A ?_; intro _hq)))
    refine aw_unroll 2 ?_
    (repeat (first | refine gq_KGX ?_ | (refine ga2A ?_; intro _hq)))
    refine aw_unroll 2 ?_
    (repeat (first | refine gq_KGX ?_ | (refine ga2A ?_; intro _hq) | refine gdA ?_))
    (refine rtA ?_; try rfl)
  | true =>
    rw [if_pos (by simpa using h)]
    (refine kM Tryz.func216 rfl ?_; intro hfit hfe)
    (repeat (first | refine gq_KGX ?_ | (refine ga2A ?_; intro _hq)))
    refine aw_unroll 2 ?_
    (repeat (first | refine gq_KGX ?_ | (refine ga2A ?_; intro _hq)))
    refine aw_unroll 2 ?_
    (repeat (first | refine gq_KGX ?_ | (refine ga2A ?_; intro _hq)))
    (refine aw_draw mixed T0ok cfU_ok [] (by rfl) (by kernel_rfl) ?_)
    (repeat (first | refine gq_KGX ?_ | (refine ga2A ?_; intro _hq)))
    (refine aw_draw2 mixed T0ok cfU_ok [(100000, [1008, 1009, 1012, 1013, 1014, 15, 1016, 17])] (by rfl) (by kernel_rfl) ?_)
    (repeat (first | refine gq_KGX ?_ | (refine ga2A ?_; intro _hq) | refine gdA ?_))
    (refine rtA ?_; try rfl)
abbrev L8 : ByteArray := ⟨#[0, 1, 2]⟩
theorem k_len61 : Kon Tryz.prog 192 [vUk 1] [] (vI (0 + 1)) [] [] := by
  have hix : ∀ w : World, (Instr.index 9 (.string L8) (.int .u8 1)).run Tryz.prog w = .ok (.int .u8 1) w := fun w => by kernel_rfl
  (refine kM Tryz.func192 rfl ?_; intro hfit hfe)
  (repeat (first | refine gq_KGX ?_ | (refine ga2A ?_; intro _hq)))
  (refine rtA ?_; try rfl)
theorem k_len62 : Kon Tryz.prog 192 [vUk 2] [] (vI (0 + 2)) [] [] := by
  have hix : ∀ w : World, (Instr.index 9 (.string L8) (.int .u8 2)).run Tryz.prog w = .ok (.int .u8 2) w := fun w => by kernel_rfl
  (refine kM Tryz.func192 rfl ?_; intro hfit hfe)
  (repeat (first | refine gq_KGX ?_ | (refine ga2A ?_; intro _hq)))
  (refine rtA ?_; try rfl)
theorem k_len1 : Kon Tryz.prog 215 [vUk 1] [] (vI (0 + 1)) [] [] := by
  have hK := k_len61
  have hix := hm9
  (refine kM Tryz.func215 rfl ?_; intro hfit hfe)
  (repeat (first | refine gq_KGX ?_ | (refine ga2A ?_; intro _hq)))
  (refine rtA ?_; try rfl)
theorem k_len2 : Kon Tryz.prog 215 [vUk 2] [] (vI (0 + 2)) [] [] := by
  have hK := k_len62
  have hix := hm9
  (refine kM Tryz.func215 rfl ?_; intro hfit hfe)
  (repeat (first | refine gq_KGX ?_ | (refine ga2A ?_; intro _hq)))
  (refine rtA ?_; try rfl)
theorem k_pdq1 (x q : Int) : Kon Tryz.prog 214 [.g (.one (.sl 100000 0 1)), vI 0, vI 1, vI q] [iRow [x]] (.tup []) [] [iRow [x]] := by
  have hix := hm9
  have hK := k_ins1 x
  (refine kM Tryz.func214 rfl ?_; intro hfit hfe)
  (repeat (first | refine gq_KGX ?_ | (refine ga2A ?_; intro _hq)))
  refine aw_unroll 1 ?_
  (repeat (first | refine gq_KGX ?_ | (refine ga2A ?_; intro _hq)))
  (refine rtA ?_; try rfl)
theorem k_pdq2 (x y q : Int) : Kon Tryz.prog 214 [.g (.one (.sl 100000 0 2)), vI 0, vI 2, vI q] [iRow [x, y]] (.tup []) [] [iRow (if y < x then [y, x] else [x, y])] := by
  have hix := hm9
  have hK := k_ins2 x y
  (refine kM Tryz.func214 rfl ?_; intro hfit hfe)
  (repeat (first | refine gq_KGX ?_ | (refine ga2A ?_; intro _hq)))
  refine aw_unroll 1 ?_
  (repeat (first | refine gq_KGX ?_ | (refine ga2A ?_; intro _hq)))
  (refine rtA ?_; try rfl)
theorem k_sort1 (x : Int) : Kon Tryz.prog 212 [.g (.one (.sl 100000 0 1))] [iRow [x]] (.tup []) [] [iRow [x]] := by
  have hix := hm9
  have hL := k_len1
  have hK := k_pdq1 x (0 + 1)
  (refine kM Tryz.func212 rfl ?_; intro hfit hfe)
  (repeat (first | refine gq_KGX ?_ | (refine ga2A ?_; intro _hq)))
  (refine rtA ?_; try rfl)
theorem k_sort2 (x y : Int) : Kon Tryz.prog 212 [.g (.one (.sl 100000 0 2))] [iRow [x, y]] (.tup []) [] [iRow (if y < x then [y, x] else [x, y])] := by
  have hix := hm9
  have hL := k_len2
  have hK := k_pdq2 x y (0 + 2)
  (refine kM Tryz.func212 rfl ?_; intro hfit hfe)
  (repeat (first | refine gq_KGX ?_ | (refine ga2A ?_; intro _hq)))
  (refine rtA ?_; try rfl)
theorem gq_KGV {H G : Prop} (k : H) (h : Hid H → G := by (intro hh; repeat1' (first | (first | (refine nxA ?_; (first | fail | ((first | (refine z_op (by rfl) ?_; first | refine z_ok ?_ ?_ | refine z_ex ?_ (by first | exact zL1 | ((first | fail); exact zWW) | exact zL2 | exact rw_c Int rfl | exact zL3 | fail) ?_) | ((first | refine q_callE wsT wsZ (by rfl) ?_ | refine q_callVE wsT (by rfl) (by rfl) ?_); refine ⟨_, _, _, (by first | assumption | exact k_gvS _ _ (by omega) | exact k_linesS _ | exact k_has _ _ (by omega)), _, by rfl, ?_, ?_⟩)); focus (first | exact trivial | fail | exact zQZ)) | fail)) | refine swA ?_) | refine awA ?_); exact hh.out)) : G := h ⟨k⟩
theorem gs_KGV {H G : Prop} (k : H) (h : Hid H → G := by (intro hh; repeat1' (first | (refine nxA ?_; (first | fail | ((first | (refine z_op (by rfl) ?_; first | refine z_ok ?_ ?_ | refine z_ex ?_ (by first | exact zL1 | ((first | fail); exact zWW) | exact zL2 | exact rw_c Int rfl | exact zL3 | fail) ?_) | ((first | refine q_callE wsT wsZ (by rfl) ?_ | refine q_callVE wsT (by rfl) (by rfl) ?_); refine ⟨_, _, _, (by first | assumption | exact k_gvS _ _ (by omega) | exact k_linesS _ | exact k_has _ _ (by omega)), _, by rfl, ?_, ?_⟩)); focus (first | exact trivial | fail | exact zQZ)) | fail)) | refine swA ?_); exact hh.out)) : G := h ⟨k⟩
def mn (a b : Int) : Int := if b < a then b else a
def mx (a b : Int) : Int := if b > a then b else a
def chgL (g : Gt) : List Int := if g.k = 0 then [g.a] else if g.k = 1 then [g.b] else if g.k = 2 then [g.c] else if g.k = 3 then [mn g.a g.b, mx g.a g.b] else [mn g.b g.c, mx g.b g.c]
def chM (n : Int) (g : Gt) : List Int := if gok n g = true then chgL g else []
theorem chgL_len (g : Gt) : (chgL g).length ≤ 2 := by unfold chgL; split <;> (try split) <;> (try split) <;> (try split) <;> simp
theorem chM_len (n : Int) (g : Gt) : (chM n g).length ≤ 2 := by unfold chM; split; exact chgL_len g; simp
theorem k_chS (n : Int) (g : Gt) (hr : -9223372036854775808 ≤ n ∧ n ≤ 9223372036854775807) : Kon Tryz.prog 182 [vI n, gV g] [] (slA 0 0 (chM n g)) [iRow (chM n g)] [] := by
  have hK := k_gvS n g hr
  unfold chM
  cases h : gok n g with
  | false =>
    rw [h] at hK
    rw [if_neg (by decide)]
    (refine kM Tryz.func182 rfl ?_; intro hfit hfe)
    (repeat (first | refine gq_KGV ?_ | (refine ga1A ?_; intro _q ⟨_he, _hq⟩)))
    (refine rtA ?_; try rfl)
  | true =>
    rw [h] at hK
    rw [if_pos rfl]
    have hb := (gok_bd h).2.1
    obtain ⟨k, a, b, c⟩ := g
    dsimp only at hb hK ⊢
    have h' : k = 0 ∨ k = 1 ∨ k = 2 ∨ k = 3 ∨ k = 4 := by omega
    rcases h' with rfl | rfl | rfl | rfl | rfl
    all_goals
      (refine kM Tryz.func182 rfl ?_; intro hfit hfe)
      (repeat (first | refine gq_KGV ?_ | (refine ga1A ?_; intro _q ⟨_he, _hq⟩)))
      (refine rtA ?_; try rfl)
def anyB (l m : List Int) : Bool := l.any (fun x => hasB m x)
theorem any_drop {l m : List Int} {i : Nat} (hi : i < l.length) : anyB (l.drop i) m = (hasB m (l.getD i 0) || anyB (l.drop (i + 1)) m) := by
  have e : l.getD i 0 = l[i] := by simp [List.getD_eq_getElem?_getD, hi]
  rw [List.drop_eq_getElem_cons hi, e]; rfl
def touB (g h : Gt) : Bool := anyB (chgL g) (lns h)
def apaB (g h : Gt) : Bool := !(touB g h) && !(touB h g)
def apM (n : Int) (a b : Gt) : Bool := gok n a && (gok n b && apaB a b)
theorem lns_len (g : Gt) : (lns g).length ≤ 3 := by unfold lns; split <;> (try split) <;> (try split) <;> simp
theorem apM_eq (n : Int) (a b : Gt) : (!(anyB (chM n a) (lns b)) && (!(anyB (chM n b) (lns a)) && (gok n a && gok n b))) = apM n a b := by
  unfold apM apaB touB chM
  cases gok n a <;> cases gok n b <;> simp
set_option maxHeartbeats 2000000 in
theorem k_apS (n : Int) (a b : Gt) (hr : -9223372036854775808 ≤ n ∧ n ≤ 9223372036854775807) : Kon Tryz.prog 163 [vI n, gV a, gV b] [] (vB (apM n a b)) [] [] := by
  rw [← apM_eq]
  have hX := k_chS n a hr
  have hY := k_chS n b hr
  have lX := chM_len n a
  have lY := chM_len n b
  generalize chM n a = X at hX lX ⊢
  generalize chM n b = Y at hY lY ⊢
  have la := lns_len a
  have lb := lns_len b
  have hA := k_linesS a
  have hB := k_linesS b
  generalize lns a = A at hA la ⊢
  generalize lns b = B at hB lb ⊢
  have hHA : ∀ x, Kon Tryz.prog 143 [roA A, vI x] [] (vB (hasB A x)) [] [] := fun x => k_has A x (by omega)
  have hHB : ∀ x, Kon Tryz.prog 143 [roA B, vI x] [] (vB (hasB B x)) [] [] := fun x => k_has B x (by omega)
  (refine kM Tryz.func163 rfl ?_; intro hfit hfe)
  (repeat refine gcA ?_)
  (repeat (first | refine gs_KGV ?_ | (refine ga1A ?_; intro _q ⟨_he, _hq⟩)))
  (repeat refine gcA ?_)
  (repeat (first | refine gs_KGV ?_ | (refine ga1A ?_; intro _q ⟨_he, _hq⟩)))
  (refine aw_freeze 208 (by rfl) (by rfl) ?_; refine aw_slot 7 1 (by rfl) (by rfl) (by first | exact trivial | omega | exact cvB (fun w => rfl) | ((repeat (any_goals (first | exact rfl | exact cV_len _ | exact cV_ln rfl (by omega) | exact Cel.pos | omega | exact trivial | refine And.intro ?_ ?_))); first | done | fail) | (simp [*]; first | done | fail)) ?_)
  (repeat refine gcA ?_)
  (repeat (first | refine gs_KGV ?_ | (refine ga1A ?_; intro _q ⟨_he, _hq⟩)))
  (refine aw_freeze 256 (by rfl) (by rfl) ?_; refine aw_slot 8 1 (by rfl) (by rfl) (by first | exact trivial | omega | exact cvB (fun w => rfl) | ((repeat (any_goals (first | exact rfl | exact cV_len _ | exact cV_ln rfl (by omega) | exact Cel.pos | omega | exact trivial | refine And.intro ?_ ?_))); first | done | fail) | (simp [*]; first | done | fail)) ?_)
  (repeat (first | refine gq_KGV ?_ | (refine ga1A ?_; intro _q ⟨_he, _hq⟩)))
  (refine aw_rd [0, 4, 5, 7, 8] [64, 80] (fun i : Nat => [(9, vI i)]) (fun _ => []) (fun i => i ≤ X.length ∧ anyB (X.drop i) B = anyB X B) (fun i => X.length - i) 0 (by rfl) (by rfl) ?_ (by rfl) zHE zHE ?_)
  · exact ⟨Nat.zero_le _, by rw [List.drop_zero]⟩
  rintro i ⟨hi, hz⟩
  rcases Nat.lt_or_ge i X.length with h6 | h6
  · have hd : decide ((i : Int) < (X.length : Int)) = true := by simpa using h6
    rw [any_drop h6] at hz
    replace hz : (hasB B (X.getD (i : Int).toNat (Cel.no : Int)) || anyB (X.drop (i + 1)) B) = anyB X B := hz
    have hK2 := hHB (X.getD (i : Int).toNat (Cel.no : Int))
    cases hv : hasB B (X.getD (i : Int).toNat (Cel.no : Int)) with
    | true =>
      rw [hv] at hK2
      rw [hv, Bool.true_or] at hz
      rw [← hz]
      clear hz
      (repeat (first | refine gq_KGV ?_ | (refine ga1A ?_; intro _q ⟨_he, _hq⟩) | refine gdA ?_))
      (refine rtA ?_; try rfl)
    | false =>
      rw [hv] at hK2
      rw [hv, Bool.false_or] at hz
      have hinv : i + 1 ≤ X.length ∧ anyB (X.drop (i + 1)) B = anyB X B := ⟨h6, hz⟩
      clear hz
      (repeat (first | refine gq_KGV ?_ | (refine ga1A ?_; intro _q ⟨_he, _hq⟩) | refine gdA ?_))
      exact ⟨i + 1, hinv, ⟨by rfl, zHE, zHE⟩, (by first | omega | (dsimp only; omega))⟩
  · have hd : decide ((i : Int) < (X.length : Int)) = false := by simp; omega
    rw [List.drop_of_length_le h6] at hz
    rw [← hz]
    clear hz
    (repeat (first | refine gq_KGV ?_ | (refine ga1A ?_; intro _q ⟨_he, _hq⟩)))
    (refine aw_rd [0, 4, 5, 8] [64, 80] (fun i : Nat => [(10, vI i)]) (fun _ => []) (fun i => i ≤ Y.length ∧ anyB (Y.drop i) A = anyB Y A) (fun i => Y.length - i) 0 (by rfl) (by rfl) ?_ (by rfl) zHE zHE ?_)
    · exact ⟨Nat.zero_le _, by rw [List.drop_zero]⟩
    rintro j ⟨hj, hz⟩
    rcases Nat.lt_or_ge j Y.length with h7 | h7
    · have hd : decide ((j : Int) < (Y.length : Int)) = true := by simpa using h7
      rw [any_drop h7] at hz
      replace hz : (hasB A (Y.getD (j : Int).toNat (Cel.no : Int)) || anyB (Y.drop (j + 1)) A) = anyB Y A := hz
      have hK2 := hHA (Y.getD (j : Int).toNat (Cel.no : Int))
      cases hv : hasB A (Y.getD (j : Int).toNat (Cel.no : Int)) with
      | true =>
        rw [hv] at hK2
        rw [hv, Bool.true_or] at hz
        rw [← hz]
        clear hz
        (repeat (first | refine gq_KGV ?_ | (refine ga1A ?_; intro _q ⟨_he, _hq⟩) | refine gdA ?_))
        (refine rtA ?_; try rfl)
      | false =>
        rw [hv] at hK2
        rw [hv, Bool.false_or] at hz
        have hinv : j + 1 ≤ Y.length ∧ anyB (Y.drop (j + 1)) A = anyB Y A := ⟨h7, hz⟩
        clear hz
        (repeat (first | refine gq_KGV ?_ | (refine ga1A ?_; intro _q ⟨_he, _hq⟩) | refine gdA ?_))
        exact ⟨j + 1, hinv, ⟨by rfl, zHE, zHE⟩, (by first | omega | (dsimp only; omega))⟩
    · have hd : decide ((j : Int) < (Y.length : Int)) = false := by simp; omega
      rw [List.drop_of_length_le h7] at hz
      rw [← hz]
      clear hz
      have hGa := k_gvS n a hr
      have hGb := k_gvS n b hr
      cases h1 : gok n a <;> cases h2 : gok n b <;> rw [h1] at hGa <;> rw [h2] at hGb
      all_goals
        (repeat (first | refine gq_KGV ?_ | (refine ga1A ?_; intro _q ⟨_he, _hq⟩)))
        (refine rtA ?_; try rfl)
theorem gq_KGY {H G : Prop} (k : H) (h : Hid H → G := by (intro hh; repeat1' (first | (first | (refine nxA ?_; (first | fail | ((first | (refine z_op (by rfl) ?_; first | refine z_ok ?_ ?_ | refine z_ex ?_ (by first | exact zL1 | ((first | fail); exact zWW) | exact zL2 | fail | exact zL3 | fail) ?_) | ((first | refine q_callE wsTS wsZ (by rfl) ?_ | refine q_callVE wsTS (by rfl) (by rfl) ?_); refine ⟨_, _, _, (by first | assumption | exact k_gv _ _ | exact k_sort1 _ | exact k_sort2 _ _ | exact k_idxI _ _ (by omega) | exact k_cont _ _ (by omega)), _, by rfl, ?_, ?_⟩)); focus (first | exact trivial | fail | exact zQZ)) | fail)) | refine swA ?_) | refine awA ?_); exact hh.out)) : G := h ⟨k⟩
theorem sort_mn (x y : Int) : (if y < x then [y, x] else [x, y]) = [mn x y, mx x y] := by
  unfold mn mx
  by_cases h : y < x
  · rw [if_pos h, if_pos h, if_neg (by omega)]
  · rw [if_neg h, if_neg h]
    by_cases h2 : y > x
    · rw [if_pos h2]
    · rw [if_neg h2, show y = x by omega]
theorem k_chg (g : Gt) (h : 0 ≤ g.k ∧ g.k ≤ 4) : Kon Tryz.prog 207 [gV g] [] (slA 0 0 (chgL g)) [iRow (chgL g)] [] := by
  have hK := k_nat1 g h
  obtain ⟨k, a, b, c⟩ := g
  dsimp only at h hK ⊢
  have h' : k = 0 ∨ k = 1 ∨ k = 2 ∨ k = 3 ∨ k = 4 := by omega
  rcases h' with rfl | rfl | rfl | rfl | rfl
  · have hS : Kon Tryz.prog 118 [gV ⟨0, a, b, c⟩, vI 1] [] (slA 0 0 [a]) [iRow [a]] [] := k_some _ 1 (by decide)
    (refine kM Tryz.func207 rfl ?_; intro hfit hfe)
    (repeat (first | refine gq_KGY ?_ | (refine ga1A ?_; intro _q ⟨_he, _hq⟩)))
    (refine rtA ?_; try rfl)
  · have hS : Kon Tryz.prog 118 [gV ⟨1, a, b, c⟩, vI 2] [] (slA 0 0 [b]) [iRow [b]] [] := k_some _ 2 (by decide)
    (refine kM Tryz.func207 rfl ?_; intro hfit hfe)
    (repeat (first | refine gq_KGY ?_ | (refine ga1A ?_; intro _q ⟨_he, _hq⟩)))
    (refine rtA ?_; try rfl)
  · have hS : Kon Tryz.prog 118 [gV ⟨2, a, b, c⟩, vI 4] [] (slA 0 0 [c]) [iRow [c]] [] := k_some _ 4 (by decide)
    (refine kM Tryz.func207 rfl ?_; intro hfit hfe)
    (repeat (first | refine gq_KGY ?_ | (refine ga1A ?_; intro _q ⟨_he, _hq⟩)))
    (refine rtA ?_; try rfl)
  · have hS : Kon Tryz.prog 118 [gV ⟨3, a, b, c⟩, vI 3] [] (slA 0 0 [a, b]) [iRow [a, b]] [] := k_some _ 3 (by decide)
    have hO := k_sort2 a b
    rw [sort_mn] at hO
    (refine kM Tryz.func207 rfl ?_; intro hfit hfe)
    (repeat (first | refine gq_KGY ?_ | (refine ga1A ?_; intro _q ⟨_he, _hq⟩)))
    (refine rtA ?_; try rfl)
  · have hS : Kon Tryz.prog 118 [gV ⟨4, a, b, c⟩, vI 6] [] (slA 0 0 [b, c]) [iRow [b, c]] [] := k_some _ 6 (by decide)
    have hO := k_sort2 b c
    rw [sort_mn] at hO
    (refine kM Tryz.func207 rfl ?_; intro hfit hfe)
    (repeat (first | refine gq_KGY ?_ | (refine ga1A ?_; intro _q ⟨_he, _hq⟩)))
    (refine rtA ?_; try rfl)
def idxI (x : Int) : List Int → Nat → Int
  | [], _ => -1
  | y :: l, i => if (x == y) = true then (i : Int) else idxI x l (i + 1)
theorem idxI_has {x : Int} : ∀ (l : List Int) (i : Nat), decide (idxI x l i ≥ 0) = hasB l x
  | [], i => rfl
  | y :: l, i => by
    have e : hasB (y :: l) x = ((y == x) || hasB l x) := rfl
    rw [e, beqC y x]
    cases h : (x == y) with
    | true => simp [idxI, h]
    | false => rw [Bool.false_or, ← idxI_has l (i + 1), idxI, h, if_neg (by decide)]
theorem idxI_drop {x : Int} {l : List Int} {i : Nat} (hi : i < l.length) : idxI x (l.drop i) i = if (x == l.getD i Cel.no) = true then (i : Int) else idxI x (l.drop (i + 1)) (i + 1) := by
  have e : l.getD i Cel.no = l[i] := by simp [List.getD_eq_getElem?_getD, hi]
  rw [List.drop_eq_getElem_cons hi, e]; rfl
theorem k_idxI (l : List Int) (x : Int) (h : l.length ≤ 100000000) : Kon Tryz.prog 213 [roA l, vI x] [] (vI (idxI x l 0)) [] [] := by
  (refine kM Tryz.func213 rfl ?_; intro hfit hfe)
  (repeat (first | refine gq_KGY ?_ | (refine ga1A ?_; intro _q ⟨_he, _hq⟩)))
  (refine aw_rd [0, 1, 7] [] (fun i : Nat => [(8, vI i)]) (fun _ => []) (fun i => i ≤ l.length ∧ idxI x (l.drop i) i = idxI x l 0) (fun i => l.length - i) 0 (by rfl) (by rfl) ?_ (by rfl) zHE zHE ?_)
  · exact ⟨Nat.zero_le _, by rw [List.drop_zero]⟩
  rintro i ⟨hi, hz⟩
  rcases Nat.lt_or_ge i l.length with h6 | h6
  · have hd : decide ((i : Int) < (l.length : Int)) = true := by simpa using h6
    rw [idxI_drop h6] at hz
    replace hz : (if (x == l.getD (i : Int).toNat Cel.no) = true then (i : Int) else idxI x (l.drop (i + 1)) (i + 1)) = idxI x l 0 := hz
    cases hb : (x == l.getD (i : Int).toNat Cel.no) with
    | true =>
      rw [hb, if_pos rfl] at hz
      rw [← hz]
      clear hz
      (repeat (first | refine gq_KGY ?_ | (refine ga1A ?_; intro _q ⟨_he, _hq⟩)))
      (refine rtA ?_; try rfl)
    | false =>
      rw [hb, if_neg (by decide)] at hz
      have hinv : i + 1 ≤ l.length ∧ idxI x (l.drop (i + 1)) (i + 1) = idxI x l 0 := ⟨h6, hz⟩
      clear hz
      (repeat (first | refine gq_KGY ?_ | (refine ga1A ?_; intro _q ⟨_he, _hq⟩)))
      exact ⟨i + 1, hinv, ⟨by rfl, zHE, zHE⟩, (by first | omega | (dsimp only; omega))⟩
  · have hd : decide ((i : Int) < (l.length : Int)) = false := by simp; omega
    rw [List.drop_of_length_le h6, idxI] at hz
    rw [← hz]
    clear hz
    (repeat (first | refine gq_KGY ?_ | (refine ga1A ?_; intro _q ⟨_he, _hq⟩)))
    (refine rtA ?_; try rfl)
theorem k_cont (l : List Int) (x : Int) (h : l.length ≤ 100000000) : Kon Tryz.prog 209 [roA l, vI x] [] (vB (hasB l x)) [] [] := by
  rw [← idxI_has l 0]
  (refine kM Tryz.func209 rfl ?_; intro hfit hfe)
  (repeat (first | refine gq_KGY ?_ | (refine ga1A ?_; intro _q ⟨_he, _hq⟩)))
  (refine rtA ?_; try rfl)
abbrev capT : AV := .g (.one (.fn 208 [(100000, 0)]))
abbrev boxG (g : Gt) : Ent := .rbx (gCs g)
theorem k_tou1 (g : Gt) (x : Int) (h : 0 ≤ g.k ∧ g.k ≤ 4) : Kon Tryz.prog 208 [vI x, .g (.one (.ptr 100000 0 0))] [boxG g] (vB (hasB (lns g) x)) [] [boxG g] := by
  have hL := k_lines g h
  have hC := k_cont (lns g) x (by have := lns_len g; omega)
  (refine kM Tryz.func208 rfl ?_; intro hfit hfe)
  (repeat (first | refine gq_KGY ?_ | (refine ga1A ?_; intro _q ⟨_he, _hq⟩)))
  (refine rtA ?_; try rfl)
def tidx (g : Gt) : List Int → Nat → Int
  | [], _ => -1
  | y :: l, i => if hasB (lns g) y = true then (i : Int) else tidx g l (i + 1)
theorem tidx_any {g : Gt} : ∀ (l : List Int) (i : Nat), decide (tidx g l i ≥ 0) = anyB l (lns g)
  | [], i => rfl
  | y :: l, i => by
    have e : anyB (y :: l) (lns g) = (hasB (lns g) y || anyB l (lns g)) := rfl
    rw [e]
    cases h : hasB (lns g) y with
    | true => simp [tidx, h]
    | false => rw [Bool.false_or, ← tidx_any l (i + 1), tidx, h, if_neg (by decide)]
theorem tidx_drop {g : Gt} {l : List Int} {i : Nat} (hi : i < l.length) : tidx g (l.drop i) i = if hasB (lns g) (l.getD i Cel.no) = true then (i : Int) else tidx g (l.drop (i + 1)) (i + 1) := by
  have e : l.getD i Cel.no = l[i] := by simp [List.getD_eq_getElem?_getD, hi]
  rw [List.drop_eq_getElem_cons hi, e]; rfl
theorem k_idxT (g : Gt) (l : List Int) (hg : 0 ≤ g.k ∧ g.k ≤ 4) (h : l.length ≤ 100000000) : Kon Tryz.prog 211 [roA l, capT] [boxG g] (vI (tidx g l 0)) [] [boxG g] := by
  (refine kM Tryz.func211 rfl ?_; intro hfit hfe)
  (repeat (first | refine gq_KGY ?_ | (refine ga1A ?_; intro _q ⟨_he, _hq⟩)))
  (refine aw_rd [0, 1, 7] [100000] (fun i : Nat => [(8, vI i)]) (fun _ => []) (fun i => i ≤ l.length ∧ tidx g (l.drop i) i = tidx g l 0) (fun i => l.length - i) 0 (by rfl) (by rfl) ?_ (by rfl) zHE zHE ?_)
  · exact ⟨Nat.zero_le _, by rw [List.drop_zero]⟩
  rintro i ⟨hi, hz⟩
  rcases Nat.lt_or_ge i l.length with h6 | h6
  · have hd : decide ((i : Int) < (l.length : Int)) = true := by simpa using h6
    rw [tidx_drop h6] at hz
    have hK := k_tou1 g (l.getD (i : Int).toNat Cel.no) hg
    replace hz : (if hasB (lns g) (l.getD (i : Int).toNat Cel.no) = true then (i : Int) else tidx g (l.drop (i + 1)) (i + 1)) = tidx g l 0 := hz
    cases hb : hasB (lns g) (l.getD (i : Int).toNat Cel.no) with
    | true =>
      rw [hb, if_pos rfl] at hz
      rw [hb] at hK
      rw [← hz]
      clear hz
      (repeat (first | refine gq_KGY ?_ | (refine ga1A ?_; intro _q ⟨_he, _hq⟩)))
      (refine rtA ?_; try rfl)
    | false =>
      rw [hb, if_neg (by decide)] at hz
      rw [hb] at hK
      have hinv : i + 1 ≤ l.length ∧ tidx g (l.drop (i + 1)) (i + 1) = tidx g l 0 := ⟨h6, hz⟩
      clear hz
      (repeat (first | refine gq_KGY ?_ | (refine ga1A ?_; intro _q ⟨_he, _hq⟩)))
      exact ⟨i + 1, hinv, ⟨by rfl, zHE, zHE⟩, (by first | omega | (dsimp only; omega))⟩
  · have hd : decide ((i : Int) < (l.length : Int)) = false := by simp; omega
    rw [List.drop_of_length_le h6, tidx] at hz
    rw [← hz]
    clear hz
    (repeat (first | refine gq_KGY ?_ | (refine ga1A ?_; intro _q ⟨_he, _hq⟩)))
    (refine rtA ?_; try rfl)
theorem k_contT (g : Gt) (l : List Int) (hg : 0 ≤ g.k ∧ g.k ≤ 4) (h : l.length ≤ 100000000) : Kon Tryz.prog 206 [roA l, capT] [boxG g] (vB (anyB l (lns g))) [] [boxG g] := by
  have hI := k_idxT g l hg h
  rw [← tidx_any l 0]
  (refine kM Tryz.func206 rfl ?_; intro hfit hfe)
  (repeat (first | refine gq_KGY ?_ | (refine ga1A ?_; intro _q ⟨_he, _hq⟩)))
  (refine rtA ?_; try rfl)
theorem k_tou (g h : Gt) (hg : 0 ≤ g.k ∧ g.k ≤ 4) (hh : 0 ≤ h.k ∧ h.k ≤ 4) : Kon Tryz.prog 198 [gV g, gV h] [] (vB (touB g h)) [] [] := by
  have hC := k_chg g hg
  have hT := k_contT h (chgL g) hh (by have := chgL_len g; omega)
  unfold touB
  (refine kM Tryz.func198 rfl ?_; intro hfit hfe)
  (repeat (first | refine gq_KGY ?_ | (refine ga1A ?_; intro _q ⟨_he, _hq⟩)))
  (refine rtA ?_; try rfl)
theorem k_apa (g h : Gt) (hg : 0 ≤ g.k ∧ g.k ≤ 4) (hh : 0 ≤ h.k ∧ h.k ≤ 4) : Kon Tryz.prog 180 [gV g, gV h] [] (vB (apaB g h)) [] [] := by
  have h1 := k_tou g h hg hh
  have h2 := k_tou h g hh hg
  unfold apaB
  cases e : touB g h <;> rw [e] at h1
  all_goals
    (refine kM Tryz.func180 rfl ?_; intro hfit hfe)
    (repeat (first | refine gq_KGY ?_ | (refine ga1A ?_; intro _q ⟨_he, _hq⟩)))
    (refine rtA ?_; try rfl)
end Go.Proofs.YtnenhckongccgaaGreatDoor
namespace Go.Proofs.YtnenhckongccgaaGreatDoor
set_option linter.unusedVariables false
set_option linter.unusedSimpArgs false
theorem mn_or (a b : Int) : (mn a b = a ∧ mx a b = b) ∨ (mn a b = b ∧ mx a b = a) := by
  unfold mn mx
  by_cases h : b < a
  · right; rw [if_pos h, if_neg (by omega)]; exact ⟨rfl, rfl⟩
  · left; rw [if_neg h]
    by_cases h2 : b > a
    · rw [if_pos h2]; exact ⟨rfl, rfl⟩
    · rw [if_neg h2]; exact ⟨rfl, by omega⟩
theorem mn_mem (a b x : Int) : x ∈ [mn a b, mx a b] ↔ x = a ∨ x = b := by
  rcases mn_or a b with ⟨h1, h2⟩ | ⟨h1, h2⟩ <;> rw [h1, h2] <;> simp [or_comm]
theorem gm_told {n : Int} {g : Gt} (h : gok n g = true) {i : Nat} (hb : (gm g).testBit i = true) : ∃ x ∈ chgL g, x.toNat = i ∧ 0 ≤ x ∧ x < n := by
  obtain ⟨_, hf⟩ := gok_facts h
  rcases hf with ⟨hk, ha, _⟩ | ⟨hk | hk, ha, hb', hne, _⟩ | ⟨hk | hk, ha, hb', hne, hc, hne2, hne3⟩
  · rw [gm0 hk, two_bit] at hb
    exact ⟨g.a, by unfold chgL; rw [if_pos hk]; simp, of_decide_eq_true hb, ha⟩
  · rw [gm1 hk, two_bit] at hb
    exact ⟨g.b, by unfold chgL; rw [if_neg (by omega), if_pos hk]; simp, of_decide_eq_true hb, hb'⟩
  · rw [gm3 hk, Nat.testBit_xor, two_bit, two_bit] at hb
    have e : chgL g = [mn g.a g.b, mx g.a g.b] := by unfold chgL; rw [if_neg (by omega), if_neg (by omega), if_neg (by omega), if_pos hk]
    rw [e]
    by_cases h1 : g.a.toNat = i
    · exact ⟨g.a, (mn_mem _ _ _).2 (.inl rfl), h1, ha⟩
    · rw [decide_eq_false h1, Bool.false_xor] at hb
      exact ⟨g.b, (mn_mem _ _ _).2 (.inr rfl), of_decide_eq_true hb, hb'⟩
  · rw [gm2 hk, two_bit] at hb
    exact ⟨g.c, by unfold chgL; rw [if_neg (by omega), if_neg (by omega), if_pos hk]; simp, of_decide_eq_true hb, hc⟩
  · rw [gm4 hk, Nat.testBit_xor, two_bit, two_bit] at hb
    have e : chgL g = [mn g.b g.c, mx g.b g.c] := by unfold chgL; rw [if_neg (by omega), if_neg (by omega), if_neg (by omega), if_neg (by omega)]
    rw [e]
    by_cases h1 : g.b.toNat = i
    · exact ⟨g.b, (mn_mem _ _ _).2 (.inl rfl), h1, hb'⟩
    · rw [decide_eq_false h1, Bool.false_xor] at hb
      exact ⟨g.c, (mn_mem _ _ _).2 (.inr rfl), of_decide_eq_true hb, hc⟩
theorem lns_in {n : Int} {g : Gt} (h : gok n g = true) : ∀ x ∈ lns g, 0 ≤ x ∧ x < n := by
  obtain ⟨_, hf⟩ := gok_facts h
  intro x hx
  unfold lns at hx
  split at hx
  · simp at hx; omega
  · split at hx
    · simp at hx; omega
    · split at hx
      · simp at hx; omega
      · cases hx
theorem gc_congr {n : Int} {g : Gt} (h : gok n g = true) {w w' : Int} (he : ∀ x ∈ lns g, bt w x = bt w' x) : gc g w = gc g w' := by
  obtain ⟨_, hf⟩ := gok_facts h
  rcases hf with ⟨hk, ha, _⟩ | ⟨hk | hk, ha, hb', hne, _⟩ | ⟨hk | hk, ha, hb', hne, hc, hne2, hne3⟩
  · rw [gc0 hk, gc0 hk]
  · have e : lns g = [g.a, g.b] := by unfold lns; rw [if_neg (by omega), if_pos (by omega)]
    rw [e] at he
    rw [gc1 hk, gc1 hk, he g.a (by simp)]
  · have e : lns g = [g.a, g.b] := by unfold lns; rw [if_neg (by omega), if_pos (by omega)]
    rw [e] at he
    rw [gc3 hk, gc3 hk, he g.a (by simp), he g.b (by simp)]
  · have e : lns g = [g.a, g.b, g.c] := by unfold lns; rw [if_neg (by omega), if_neg (by omega), if_pos (by omega)]
    rw [e] at he
    rw [gc2 hk, gc2 hk, he g.a (by simp), he g.b (by simp)]
  · have e : lns g = [g.a, g.b, g.c] := by unfold lns; rw [if_neg (by omega), if_neg (by omega), if_pos (by omega)]
    rw [e] at he
    rw [gc4 hk, gc4 hk, he g.a (by simp), he g.b (by simp), he g.c (by simp)]
theorem tou_f {g h : Gt} (ht : touB g h = false) : ∀ x ∈ chgL g, ∀ y ∈ lns h, x ≠ y := by
  intro x hx y hy e
  subst e
  have : touB g h = true := by
    unfold touB anyB
    rw [List.any_eq_true]
    exact ⟨x, hx, by unfold hasB; rw [List.any_eq_true]; exact ⟨x, hy, by simp⟩⟩
  rw [this] at ht; cases ht
theorem gc_keep {n : Int} {g h : Gt} (hg : gok n g = true) (hh : gok n h = true) (ht : touB g h = false) (w : Int) : gc h (gr g w) = gc h w := by
  refine gc_congr hh fun y hy => ?_
  rw [gr_bt]
  have hf : (gm g).testBit y.toNat = false := by
    cases hb : (gm g).testBit y.toNat with
    | false => rfl
    | true =>
      obtain ⟨x, hx, he, h0, _⟩ := gm_told hg hb
      have hy0 := lns_in hh y hy
      exact absurd (show x = y by omega) (tou_f ht x hx y hy)
  rw [hf, Bool.and_false, Bool.xor_false]
theorem apa_t {a b : Gt} (h : apaB a b = true) : touB a b = false ∧ touB b a = false := by
  unfold apaB at h
  simp only [Bool.and_eq_true, Bool.not_eq_true'] at h
  exact h
theorem apa_comm {n : Int} {a b : Gt} (ha : gok n a = true) (hb : gok n b = true) (h : apaB a b = true) (w : Int) : gr a (gr b w) = gr b (gr a w) := by
  obtain ⟨h1, h2⟩ := apa_t h
  have e1 := gc_keep ha hb h1 w
  have e2 := gc_keep hb ha h2 w
  have e : (gr a (gr b w)).toNat = (gr b (gr a w)).toNat := by
    apply Nat.eq_of_testBit_eq
    intro i
    rw [gr_bit, gr_bit, gr_bit, gr_bit, e1, e2]
    cases gc a w <;> cases gc b w <;> cases w.toNat.testBit i <;> cases (gm a).testBit i <;> cases (gm b).testBit i <;> rfl
  have := gr_nn a (gr b w)
  have := gr_nn b (gr a w)
  omega
def uI (g : Gt) : List Gt → Nat → Int
  | [], _ => -1
  | x :: l, k => bif geq x g then (k : Int) else bif apaB x g then uI g l (k + 1) else -1
def usl : List Gt → Nat → Int × Int
  | [], _ => (-1, -1)
  | g :: l, i => bif decide (uI g l (i + 1) ≥ 0) then ((i : Int), uI g l (i + 1)) else usl l (i + 1)
theorem uI_drop {g : Gt} {l : List Gt} {i : Nat} (hi : i < l.length) : uI g (l.drop i) i = bif geq (l.getD i Cel.no) g then (i : Int) else bif apaB (l.getD i Cel.no) g then uI g (l.drop (i + 1)) (i + 1) else -1 := by
  have e : l.getD i Cel.no = l[i] := by simp [List.getD_eq_getElem?_getD, hi]
  rw [List.drop_eq_getElem_cons hi, e]; rfl
theorem usl_drop {l : List Gt} {i : Nat} (hi : i < l.length) : usl (l.drop i) i = bif decide (uI (l.getD i Cel.no) (l.drop (i + 1)) (i + 1) ≥ 0) then ((i : Int), uI (l.getD i Cel.no) (l.drop (i + 1)) (i + 1)) else usl (l.drop (i + 1)) (i + 1) := by
  have e : l.getD i Cel.no = l[i] := by simp [List.getD_eq_getElem?_getD, hi]
  rw [List.drop_eq_getElem_cons hi, e]; rfl
theorem uI_spec {g : Gt} : ∀ (l : List Gt) (k : Nat), uI g l k = -1 ∨ ∃ j : Nat, uI g l k = ((k + j : Nat) : Int) ∧ j < l.length ∧ l.getD j Cel.no = g ∧ ∀ x ∈ l.take j, apaB x g = true
  | [], k => .inl rfl
  | x :: l, k => by
    rw [uI]
    cases h : geq x g with
    | true => exact .inr ⟨0, by simp, by simp, geq_iff.1 h, fun y hy => by cases hy⟩
    | false =>
      cases h2 : apaB x g with
      | false => exact .inl rfl
      | true =>
        rcases uI_spec l (k + 1) with h3 | ⟨j, h3, h4, h5, h6⟩
        · exact .inl h3
        · refine .inr ⟨j + 1, ?_, by simp; omega, by simpa using h5, fun y hy => ?_⟩
          · show uI g l (k + 1) = _
            rw [h3]; congr 1; omega
          · rw [List.take_succ_cons] at hy
            rcases List.mem_cons.1 hy with rfl | hy
            · exact h2
            · exact h6 y hy
theorem usl_spec : ∀ (l : List Gt) (i : Nat), usl l i = (-1, -1) ∨ ∃ a b : Nat, usl l i = (((i + a : Nat) : Int), ((i + b : Nat) : Int)) ∧ a < b ∧ b < l.length ∧ l.getD a Cel.no = l.getD b Cel.no ∧ ∀ x ∈ (l.drop (a + 1)).take (b - (a + 1)), apaB x (l.getD a Cel.no) = true
  | [], i => .inl rfl
  | g :: l, i => by
    rw [usl]
    rcases uI_spec (g := g) l (i + 1) with h | ⟨j, h1, h2, h3, h4⟩
    · rw [h]
      rcases usl_spec l (i + 1) with h5 | ⟨a, b, h5, h6, h7, h8, h9⟩
      · exact .inl h5
      · refine .inr ⟨a + 1, b + 1, ?_, by omega, by simp; omega, by simpa using h8, ?_⟩
        · show usl l (i + 1) = _
          rw [h5]; congr 2 <;> omega
        · simpa using h9
    · right
      refine ⟨0, j + 1, ?_, by omega, by simp; omega, by simpa using h3.symm, by simpa using h4⟩
      rw [h1, decide_eq_true (by omega)]
      show ((i : Int), ((i + 1 + j : Nat) : Int)) = _
      congr 2; omega
theorem cr_one (g : Gt) (l : List Gt) (w : Int) : cr (g :: l) w = cr l (gr g w) := rfl
theorem cr_thru {n : Int} {g : Gt} (hg : gok n g = true) : ∀ {m : List Gt}, m.all (gok n) = true → (∀ x ∈ m, apaB x g = true) → ∀ w : Int, gr g (cr m w) = cr m (gr g w)
  | [], _, _, w => rfl
  | x :: m, hm, ha, w => by
    rw [List.all_cons, Bool.and_eq_true] at hm
    rw [cr_one, cr_one, cr_thru hg hm.2 (fun y hy => ha y (List.mem_cons_of_mem _ hy))]
    rw [apa_comm hm.1 hg (ha x (List.mem_cons_self))]
theorem cr_less {n : Int} {g : Gt} {p m s : List Gt} (hg : gok n g = true) (hp : p.all (gok n) = true) (hm : m.all (gok n) = true) (ha : ∀ x ∈ m, apaB x g = true) {w : Int} (hw : 0 ≤ w ∧ w < 2 ^ n.toNat) : cr (p ++ g :: m ++ g :: s) w = cr (p ++ m ++ s) w := by
  have hw2 := cr_lt hp hw
  rw [cr_append, cr_append, cr_append, cr_append, cr_one, cr_one, cr_thru hg hm ha, gr_gr hg hw2.1]
theorem split_pair {l : List Gt} {a b : Nat} (h1 : a < b) (h2 : b < l.length) : l = l.take a ++ l.getD a Cel.no :: (l.drop (a + 1)).take (b - (a + 1)) ++ l.getD b Cel.no :: l.drop (b + 1) := by
  have ea : l.getD a Cel.no = l[a] := by simp [List.getD_eq_getElem?_getD, show a < l.length by omega]
  have eb : l.getD b Cel.no = l[b] := by simp [List.getD_eq_getElem?_getD, h2]
  have e1 : l.drop a = l[a] :: l.drop (a + 1) := List.drop_eq_getElem_cons (by omega)
  have e2 : l.drop b = l[b] :: l.drop (b + 1) := List.drop_eq_getElem_cons h2
  have e3 : l.drop (a + 1) = (l.drop (a + 1)).take (b - (a + 1)) ++ l.drop b := by
    have := (List.take_append_drop (b - (a + 1)) (l.drop (a + 1))).symm
    rw [List.drop_drop, show a + 1 + (b - (a + 1)) = b by omega] at this
    exact this
  calc l = l.take a ++ l.drop a := (List.take_append_drop a l).symm
    _ = _ := by
      rw [e1, ea, eb, List.append_assoc, List.cons_append, ← e2]
      congr 2
end Go.Proofs.YtnenhckongccgaaGreatDoor
namespace Go.Proofs.YtnenhckongccgaaGreatDoor
set_option linter.unusedVariables false
set_option linter.unusedSimpArgs false
set_option maxRecDepth 20000
open Go.RowKit
attribute [local irreducible] runA runX AW
theorem gq_KCB {H G : Prop} (k : H) (h : Hid H → G := by (intro hh; repeat1' (first | (first | (refine nxA ?_; (first | fail | ((first | (refine z_op (by rfl) ?_; first | refine z_ok ?_ ?_ | refine z_ex ?_ (by first | exact zL1 | ((first | fail); exact zWW) | exact zL2 | fail | exact zL3 | (first | exact pu_of (fun w => eq_gate _ _ _ _ _ _ _ _ _ _ w) rfl)) ?_) | ((first | refine q_callE wsT wsZ (by rfl) ?_ | refine q_callVE wsT (by rfl) (by rfl) ?_); refine ⟨_, _, _, (by first | assumption | exact k_cv _ _ (by omega)), _, by rfl, ?_, ?_⟩)); focus (first | exact trivial | fail | exact zQZ)) | fail)) | refine swA ?_) | refine awA ?_); exact hh.out)) : G := h ⟨k⟩
abbrev prO (x y : Int) : AV := .tup [.one (.v (.int .i64 x)), .one (.v (.int .i64 y))]
abbrev gAt (l : List Gt) (i : Nat) : Gt := l.getD (i : Int).toNat Cel.no
set_option maxHeartbeats 2000000 in
theorem k_usl (n : Int) (l : List Gt) (ha : l.all (gok n) = true) (hl : l.length ≤ 1000) : Kon Tryz.prog 157 [roA l] [] (prO (usl l 0).1 (usl l 0).2) [] [] := by
  (refine kM Tryz.func157 rfl ?_; intro hfit hfe)
  (repeat (first | refine gq_KCB ?_ | (refine ga1A ?_; intro _q ⟨_he, _hq⟩)))
  (refine aw_rd [0, 2, 3, 7, 8] [] (fun i : Nat => [(9, vI i)]) (fun _ => []) (fun i => i ≤ l.length ∧ usl (l.drop i) i = usl l 0) (fun i => l.length - i) 0 (by rfl) (by rfl) ?_ (by rfl) zHE zHE ?_)
  · exact ⟨Nat.zero_le _, by rw [List.drop_zero]⟩
  rintro i ⟨hi, hz⟩
  rcases Nat.lt_or_ge i l.length with h5 | h5
  · have hd : decide ((i : Int) < (l.length : Int)) = true := decide_eq_true (by omega)
    rw [usl_drop h5] at hz
    have hgi := gok_bd (all_at ha h5)
    obtain ⟨g, hg⟩ : ∃ g, gAt l i = g := ⟨_, rfl⟩
    have hg' : l.getD i Cel.no = g := hg
    rw [hg'] at hz hgi
    (repeat (first | refine gq_KCB ?_ | (refine ga1A ?_; intro _q ⟨_he, _hq⟩)))
    rw [show l.getD (i : Int).toNat Cel.no = g from hg]
    (refine aw_rd [0, 2, 3, 4, 5, 7, 8, 9] [80] (fun k : Nat => [(6, vI k)]) (fun _ => []) (fun k => i + 1 ≤ k ∧ k ≤ l.length ∧ uI g (l.drop k) k = uI g (l.drop (i + 1)) (i + 1)) (fun k => l.length - k) (i + 1) (by rfl) (by rfl) ?_ (by rfl) zHE zHE ?_)
    · exact ⟨Nat.le_refl _, h5, rfl⟩
    rintro k ⟨hk1, hk2, hu⟩
    rcases Nat.lt_or_ge k l.length with h6 | h6
    · have hd2 : decide ((k : Int) < (l.length : Int)) = true := decide_eq_true (by omega)
      rw [uI_drop h6] at hu
      have hgk := gok_bd (all_at ha h6)
      obtain ⟨x, hx⟩ : ∃ x, gAt l k = x := ⟨_, rfl⟩
      have hx' : l.getD k Cel.no = x := hx
      rw [hx'] at hu hgk
      (repeat (first | refine gq_KCB ?_ | (refine ga1A ?_; intro _q ⟨_he, _hq⟩)))
      (refine aw_draw mixed T0ok cfU_ok [] (by rfl) (by kernel_rfl) ?_)
      (repeat (first | refine gq_KCB ?_ | (refine ga1A ?_; intro _q ⟨_he, _hq⟩)))
      rw [show l.getD (k : Int).toNat Cel.no = x from hx]
      cases hge : geq x g with
      | true =>
        have hge' := hge
        unfold geq at hge'
        rw [hge] at hu
        dsimp only [cond_true] at hu
        rw [← hu, decide_eq_true (show (k : Int) ≥ 0 by omega)] at hz
        dsimp only [cond_true] at hz
        rw [← hz]
        clear hz hu hge
        (repeat (first | refine gq_KCB ?_ | (refine ga1A ?_; intro _q ⟨_he, _hq⟩) | refine gdA ?_))
        (refine rtA ?_; try rfl)
      | false =>
        have hge' := hge
        unfold geq at hge'
        rw [hge] at hu
        dsimp only [cond_false] at hu
        have hA := k_apa x g hgk.2.1 hgi.2.1
        cases hap : apaB x g with
        | true =>
          rw [hap] at hu hA
          dsimp only [cond_true] at hu
          have hinv : i + 1 ≤ k + 1 ∧ k + 1 ≤ l.length ∧ uI g (l.drop (k + 1)) (k + 1) = uI g (l.drop (i + 1)) (i + 1) := ⟨by omega, h6, hu⟩
          clear hz hu hge
          (repeat (first | refine gq_KCB ?_ | (refine ga1A ?_; intro _q ⟨_he, _hq⟩) | refine gdA ?_))
          rw [show l.getD (k : Int).toNat Cel.no = x from hx]
          (repeat (first | refine gq_KCB ?_ | (refine ga1A ?_; intro _q ⟨_he, _hq⟩) | refine gdA ?_))
          exact ⟨k + 1, hinv, ⟨by rfl, zHE, zHE⟩, (by first | omega | (dsimp only; omega))⟩
        | false =>
          rw [hap] at hu hA
          dsimp only [cond_false] at hu
          rw [← hu, decide_eq_false (by omega)] at hz
          dsimp only [cond_false] at hz
          have hinv : i + 1 ≤ l.length ∧ usl (l.drop (i + 1)) (i + 1) = usl l 0 := ⟨h5, hz⟩
          clear hz hu hge
          (repeat (first | refine gq_KCB ?_ | (refine ga1A ?_; intro _q ⟨_he, _hq⟩) | refine gdA ?_))
          rw [show l.getD (k : Int).toNat Cel.no = x from hx]
          (repeat (first | refine gq_KCB ?_ | (refine ga1A ?_; intro _q ⟨_he, _hq⟩) | refine gdA ?_))
          exact ⟨i + 1, hinv, ⟨by rfl, zHE, zHE⟩, (by first | omega | (dsimp only; omega))⟩
    · have hd2 : decide ((k : Int) < (l.length : Int)) = false := decide_eq_false (by omega)
      rw [List.drop_of_length_le h6, uI] at hu
      rw [← hu, decide_eq_false (by omega)] at hz
      dsimp only [cond_false] at hz
      have hinv : i + 1 ≤ l.length ∧ usl (l.drop (i + 1)) (i + 1) = usl l 0 := ⟨h5, hz⟩
      clear hz hu
      (repeat (first | refine gq_KCB ?_ | (refine ga1A ?_; intro _q ⟨_he, _hq⟩) | refine gdA ?_))
      exact ⟨i + 1, hinv, ⟨by rfl, zHE, zHE⟩, (by first | omega | (dsimp only; omega))⟩
  · have hd : decide ((i : Int) < (l.length : Int)) = false := decide_eq_false (by omega)
    rw [List.drop_of_length_le h5, usl] at hz
    rw [← hz]
    clear hz
    (repeat (first | refine gq_KCB ?_ | (refine ga1A ?_; intro _q ⟨_he, _hq⟩)))
    (refine rtA ?_; try rfl)
theorem gq_KCC {H G : Prop} (k : H) (h : Hid H → G := by (intro hh; repeat1' (first | (first | (refine nxA ?_; (first | fail | ((first | (refine z_op (by rfl) ?_; first | refine z_ok ?_ ?_ | refine z_ex ?_ (by first | exact zL1 | ((first | fail); exact zWW) | exact zL2 | fail | exact zL3 | (first | exact pu_of (fun w => eq_gate _ _ _ _ _ _ _ _ _ _ w) rfl)) ?_) | ((first | refine q_callE wsT wsZ (by rfl) ?_ | refine q_callVE wsT (by rfl) (by rfl) ?_); refine ⟨_, _, _, (by first | assumption), _, by rfl, ?_, ?_⟩)); focus (first | exact trivial | fail | exact zQZ)) | fail)) | refine swA ?_) | refine awA ?_); exact hh.out)) : G := h ⟨k⟩
abbrev prS (x y : Int) : AV := .tup [.one (.v (.int .i64 x)), .one (.v (.int .i64 y))]
def seg (l : List Gt) (a b : Nat) : List Gt := (l.drop (a + 1)).take (b - (a + 1))
theorem seg_succ {l : List Gt} {a b : Nat} (h : a + 1 ≤ b) (hb : b < l.length) : seg l a (b + 1) = seg l a b ++ [l.getD b Cel.no] := by
  have e : l.getD b Cel.no = l[b] := by simp [List.getD_eq_getElem?_getD, hb]
  unfold seg
  rw [show b + 1 - (a + 1) = (b - (a + 1)) + 1 by omega]
  have hlt : b - (a + 1) < (l.drop (a + 1)).length := by rw [List.length_drop]; omega
  rw [List.take_succ_eq_append_getElem hlt, List.getElem_drop, e]
  congr 3; omega
def frB (n : Int) (l : List Gt) (a b k : Nat) : Bool := geq (l.getD a Cel.no) (l.getD b Cel.no) && (seg l a k).all (fun x => geq x (l.getD b Cel.no) || apM n x (l.getD b Cel.no))
theorem frB_start (n : Int) (l : List Gt) (a b : Nat) : frB n l a b (a + 1) = geq (l.getD a Cel.no) (l.getD b Cel.no) := by
  unfold frB seg; simp
theorem frB_succ {n : Int} {l : List Gt} {a b k : Nat} (h : a + 1 ≤ k) (hk : k < l.length) : frB n l a b (k + 1) = (frB n l a b k && (geq (l.getD k Cel.no) (l.getD b Cel.no) || apM n (l.getD k Cel.no) (l.getD b Cel.no))) := by
  unfold frB
  rw [seg_succ h hk, List.all_append]
  simp [Bool.and_assoc]
theorem frB_false {n : Int} {l : List Gt} {a b : Nat} : ∀ (d k : Nat), a + 1 ≤ k → k + d ≤ l.length → frB n l a b k = false → frB n l a b (k + d) = false
  | 0, k, _, _, h => h
  | d + 1, k, h1, h2, h => by
    have := frB_false (n := n) (l := l) (a := a) (b := b) d (k + 1) (by omega) (by omega) (by rw [frB_succ h1 (by omega), h]; rfl)
    rwa [show k + (d + 1) = k + 1 + d by omega]
def Mid (l : List Gt) (a b : Nat) : Prop := ((∀ x ∈ seg l a b, geq x (l.getD a Cel.no) = false ∧ apaB x (l.getD a Cel.no) = true) ∧ uI (l.getD a Cel.no) (l.drop b) b = uI (l.getD a Cel.no) (l.drop (a + 1)) (a + 1)) ∨
  ((∃ x ∈ seg l a b, geq x (l.getD a Cel.no) = false ∧ apaB x (l.getD a Cel.no) = false) ∧ uI (l.getD a Cel.no) (l.drop (a + 1)) (a + 1) = -1)
theorem mid_start (l : List Gt) (a : Nat) : Mid l a (a + 1) := .inl ⟨fun x hx => by unfold seg at hx; simp at hx, rfl⟩
theorem apM_ok {n : Int} {x y : Gt} (hx : gok n x = true) (hy : gok n y = true) : apM n x y = apaB x y := by unfold apM; rw [hx, hy]; rfl
theorem seg_ok {n : Int} {l : List Gt} (h : l.all (gok n) = true) {a b : Nat} : ∀ x ∈ seg l a b, gok n x = true := by
  intro x hx
  rw [List.all_eq_true] at h
  exact h x (List.mem_of_mem_drop (List.mem_of_mem_take hx))
theorem mid_found {n : Int} {l : List Gt} (h : l.all (gok n) = true) {a b : Nat} (ha : a + 1 ≤ b) (hb : b < l.length) (hm : Mid l a b) (hf : frB n l a b b = true) : usl (l.drop a) a = ((a : Int), (b : Int)) := by
  unfold frB at hf
  rw [Bool.and_eq_true] at hf
  obtain ⟨h1, h2⟩ := hf
  have e : l.getD a Cel.no = l.getD b Cel.no := geq_iff.1 h1
  rcases hm with ⟨m1, m2⟩ | ⟨⟨x, hx, m1, m2⟩, _⟩
  · have hu : uI (l.getD a Cel.no) (l.drop b) b = (b : Int) := by
      rw [uI_drop hb, ← e, geq_refl]; rfl
    rw [usl_drop (by omega), ← m2, hu, decide_eq_true (by omega)]; rfl
  · have := List.all_eq_true.1 h2 x hx
    rw [← e, m1, Bool.false_or, apM_ok (seg_ok h x hx) (all_at h (by omega)), m2] at this
    cases this
theorem mid_next {n : Int} {l : List Gt} (h : l.all (gok n) = true) {a b : Nat} (ha : a + 1 ≤ b) (hb : b < l.length) (hm : Mid l a b) (hf : frB n l a b b = false) : Mid l a (b + 1) := by
  unfold Mid
  rw [seg_succ ha hb]
  rcases hm with ⟨m1, m2⟩ | ⟨⟨x, hx, m1, m2⟩, m3⟩
  · have hne : geq (l.getD b Cel.no) (l.getD a Cel.no) = false := by
      cases hq : geq (l.getD b Cel.no) (l.getD a Cel.no) with
      | false => rfl
      | true =>
        have e : l.getD b Cel.no = l.getD a Cel.no := geq_iff.1 hq
        have : frB n l a b b = true := by
          unfold frB
          rw [e, geq_refl, Bool.true_and, List.all_eq_true]
          intro x hx
          rw [apM_ok (seg_ok h x hx) (all_at h (by omega)), (m1 x hx).2, Bool.or_true]
        rw [this] at hf; cases hf
    rw [uI_drop hb, hne] at m2
    dsimp only [cond_false] at m2
    cases hap : apaB (l.getD b Cel.no) (l.getD a Cel.no) with
    | true =>
      rw [hap] at m2
      left
      refine ⟨fun x hx => ?_, m2⟩
      rcases List.mem_append.1 hx with hx | hx
      · exact m1 x hx
      · rw [List.mem_singleton.1 hx]; exact ⟨hne, hap⟩
    | false =>
      rw [hap] at m2
      right
      exact ⟨⟨_, List.mem_append_right _ (List.mem_singleton.2 rfl), hne, hap⟩, m2.symm⟩
  · exact .inr ⟨⟨x, List.mem_append_left _ hx, m1, m2⟩, m3⟩
theorem mid_end {l : List Gt} {a : Nat} (ha : a < l.length) (hm : Mid l a l.length) : usl (l.drop a) a = usl (l.drop (a + 1)) (a + 1) := by
  have hu : uI (l.getD a Cel.no) (l.drop (a + 1)) (a + 1) = -1 := by
    rcases hm with ⟨_, m2⟩ | ⟨_, m2⟩
    · rw [List.drop_of_length_le (Nat.le_refl _), uI] at m2; exact m2.symm
    · exact m2
  rw [usl_drop ha, hu]; rfl
set_option maxHeartbeats 4000000 in
theorem k_uspS (n : Int) (l : List Gt) (h : cokB n l = true) : Kon Tryz.prog 144 [vI n, roA l] [] (prS (usl l 0).1 (usl l 0).2) [] [] := by
  obtain ⟨hn, hl, ha⟩ := cokB_t h
  have hC := k_cvS n l (by omega) (by omega)
  rw [h] at hC
  (refine kM Tryz.func144 rfl ?_; intro hfit hfe)
  (repeat (first | refine gq_KCC ?_ | (refine ga1A ?_; intro _q ⟨_he, _hq⟩)))
  (refine aw_rd [0, 1, 4, 5] [] (fun i : Nat => [(6, vI i)]) (fun _ => []) (fun i => i ≤ l.length ∧ usl (l.drop i) i = usl l 0) (fun i => l.length - i) 0 (by rfl) (by rfl) ?_ (by rfl) zHE zHE ?_)
  · exact ⟨Nat.zero_le _, by rw [List.drop_zero]⟩
  rintro i ⟨hi, hz⟩
  rcases Nat.lt_or_ge i l.length with h5 | h5
  · have hd : decide ((i : Int) < (l.length : Int)) = true := decide_eq_true (by omega)
    (repeat (first | refine gq_KCC ?_ | (refine ga1A ?_; intro _q ⟨_he, _hq⟩)))
    (refine aw_rd [0, 1, 4, 5, 6] [] (fun b : Nat => [(7, vI b)]) (fun _ => []) (fun b => i + 1 ≤ b ∧ b ≤ l.length ∧ Mid l i b) (fun b => l.length - b) (i + 1) (by rfl) (by rfl) ?_ (by rfl) zHE zHE ?_)
    · exact ⟨Nat.le_refl _, h5, mid_start l i⟩
    rintro b ⟨hb1, hb2, hm⟩
    rcases Nat.lt_or_ge b l.length with h6 | h6
    · have hd2 : decide ((b : Int) < (l.length : Int)) = true := decide_eq_true (by omega)
      (repeat (first | refine gq_KCC ?_ | (refine ga1A ?_; intro _q ⟨_he, _hq⟩)))
      (refine aw_draw mixed T0ok cfU_ok [] (by rfl) (by kernel_rfl) ?_)
      (repeat (first | refine gq_KCC ?_ | (refine ga1A ?_; intro _q ⟨_he, _hq⟩)))
      refine aw_rd [0, 1, 4, 5, 6, 7] [] (fun g : Nat × Bool => [(8, vB g.2), (9, vI g.1)]) (fun _ => []) (fun g => (i + 1 ≤ g.1 ∧ g.1 ≤ b) ∧ g.2 = frB n l i b g.1) (fun g => b - g.1) (i + 1, geq (l.getD i Cel.no) (l.getD b Cel.no)) (by rfl) (by rfl) ?_ (by rfl) zHE zHE ?_
      · exact ⟨⟨Nat.le_refl _, hb1⟩, (frB_start n l i b).symm⟩
      rintro ⟨k, f⟩ ⟨⟨hk1, hk2⟩, hf⟩
      dsimp only at hk1 hk2 hf ⊢
      have fin : (k = b ∨ f = false) → f = frB n l i b b := by
        rintro (rfl | rfl)
        · exact hf
        · have := frB_false (n := n) (l := l) (a := i) (b := b) (b - k) k hk1 (by omega) hf.symm
          rw [show k + (b - k) = b by omega] at this
          exact this.symm
      cases hkb : decide ((k : Int) < (b : Int)) with
      | false =>
        have hk3 : k = b := by have := of_decide_eq_false hkb; omega
        have hff := fin (.inl hk3)
        clear fin
        cases f with
        | true =>
          have hu := mid_found ha hb1 h6 hm hff.symm
          rw [← hz, hu]
          clear hz hu hm hff hf
          (repeat (first | refine gq_KCC ?_ | (refine ga1A ?_; intro _q ⟨_he, _hq⟩)))
          (refine rtA ?_; try rfl)
        | false =>
          have hm2 := mid_next ha hb1 h6 hm hff.symm
          have hinv : i + 1 ≤ b + 1 ∧ b + 1 ≤ l.length ∧ Mid l i (b + 1) := ⟨by omega, h6, hm2⟩
          clear hz hm hff hf hm2
          (repeat (first | refine gq_KCC ?_ | (refine ga1A ?_; intro _q ⟨_he, _hq⟩)))
          exact ⟨b + 1, hinv, ⟨by rfl, zHE, zHE⟩, (by first | omega | (dsimp only; omega))⟩
      | true =>
        have hk3 : k < b := by have := of_decide_eq_true hkb; omega
        cases f with
        | false =>
          have hff := fin (.inr rfl)
          clear fin
          have hm2 := mid_next ha hb1 h6 hm hff.symm
          have hinv : i + 1 ≤ b + 1 ∧ b + 1 ≤ l.length ∧ Mid l i (b + 1) := ⟨by omega, h6, hm2⟩
          clear hz hm hff hf hm2
          (repeat (first | refine gq_KCC ?_ | (refine ga1A ?_; intro _q ⟨_he, _hq⟩)))
          exact ⟨b + 1, hinv, ⟨by rfl, zHE, zHE⟩, (by first | omega | (dsimp only; omega))⟩
        | true =>
          clear fin
          have hs := frB_succ (n := n) (l := l) (a := i) (b := b) hk1 (show k < l.length by omega)
          rw [← hf, Bool.true_and] at hs
          have hA := k_apS n (l.getD k Cel.no) (l.getD b Cel.no) (by omega)
          cases hge : geq (l.getD k Cel.no) (l.getD b Cel.no) with
          | true =>
            have hge' : ((l.getD (k : Int).toNat Cel.no : Gt).k == (l.getD (b : Int).toNat Cel.no : Gt).k && ((l.getD (k : Int).toNat Cel.no : Gt).a == (l.getD (b : Int).toNat Cel.no : Gt).a && ((l.getD (k : Int).toNat Cel.no : Gt).b == (l.getD (b : Int).toNat Cel.no : Gt).b && (l.getD (k : Int).toNat Cel.no : Gt).c == (l.getD (b : Int).toNat Cel.no : Gt).c))) = true := hge
            rw [hge, Bool.true_or] at hs
            have hinv : (i + 1 ≤ k + 1 ∧ k + 1 ≤ b) ∧ true = frB n l i b (k + 1) := ⟨by omega, hs.symm⟩
            clear hz hm hf hge hs
            (repeat (first | refine gq_KCC ?_ | (refine ga1A ?_; intro _q ⟨_he, _hq⟩) | refine gdA ?_))
            exact ⟨(k + 1, true), hinv, ⟨by rfl, zHE, zHE⟩, (by first | omega | (dsimp only; omega))⟩
          | false =>
            have hge' : ((l.getD (k : Int).toNat Cel.no : Gt).k == (l.getD (b : Int).toNat Cel.no : Gt).k && ((l.getD (k : Int).toNat Cel.no : Gt).a == (l.getD (b : Int).toNat Cel.no : Gt).a && ((l.getD (k : Int).toNat Cel.no : Gt).b == (l.getD (b : Int).toNat Cel.no : Gt).b && (l.getD (k : Int).toNat Cel.no : Gt).c == (l.getD (b : Int).toNat Cel.no : Gt).c))) = false := hge
            rw [hge, Bool.false_or] at hs
            have hinv : (i + 1 ≤ k + 1 ∧ k + 1 ≤ b) ∧ apM n (l.getD k Cel.no) (l.getD b Cel.no) = frB n l i b (k + 1) := ⟨by omega, hs.symm⟩
            clear hz hm hf hge hs
            (repeat (first | refine gq_KCC ?_ | (refine ga1A ?_; intro _q ⟨_he, _hq⟩) | refine gdA ?_))
            exact ⟨(k + 1, apM n (l.getD k Cel.no) (l.getD b Cel.no)), hinv, ⟨by rfl, zHE, zHE⟩, (by first | omega | (dsimp only; omega))⟩
    · have hd2 : decide ((b : Int) < (l.length : Int)) = false := decide_eq_false (by omega)
      have hbl : b = l.length := by omega
      subst hbl
      have he := mid_end h5 hm
      have hinv : i + 1 ≤ l.length ∧ usl (l.drop (i + 1)) (i + 1) = usl l 0 := ⟨h5, he.symm.trans hz⟩
      clear hz hm he
      (repeat (first | refine gq_KCC ?_ | (refine ga1A ?_; intro _q ⟨_he, _hq⟩)))
      exact ⟨i + 1, hinv, ⟨by rfl, zHE, zHE⟩, (by first | omega | (dsimp only; omega))⟩
  · have hd : decide ((i : Int) < (l.length : Int)) = false := decide_eq_false (by omega)
    rw [List.drop_of_length_le h5, usl] at hz
    rw [← hz]
    clear hz
    (repeat (first | refine gq_KCC ?_ | (refine ga1A ?_; intro _q ⟨_he, _hq⟩)))
    (refine rtA ?_; try rfl)
theorem cokB_mk3 {n : Int} {l : List Gt} (h1 : 1 ≤ n ∧ n ≤ 8) (h2 : l.length ≤ 24) (h3 : l.all (gok n) = true) : cokB n l = true := by
  unfold cokB btw
  rw [decide_eq_true h1.1, decide_eq_true h1.2, decide_eq_true (by omega), h3]; rfl
def drp (l : List Gt) (a b : Int) : Nat → List Gt
  | 0 => []
  | i + 1 => if ((i : Int) != a && (i : Int) != b) = true then drp l a b i ++ [l.getD i Cel.no] else drp l a b i
theorem drp_len (l : List Gt) (a b : Int) : ∀ i : Nat, (drp l a b i).length ≤ i
  | 0 => Nat.le_refl _
  | i + 1 => by
    have := drp_len l a b i
    rw [drp]; split
    · rw [List.length_append]; simp; omega
    · omega
theorem drp_less (l : List Gt) (a : Nat) (b : Int) : ∀ i : Nat, a < i → (drp l a b i).length < i
  | 0, h => by omega
  | i + 1, h => by
    rw [drp]; split
    · rename_i hc
      have : a < i := by
        rcases Nat.lt_or_ge a i with h1 | h1
        · exact h1
        · obtain rfl : a = i := by omega
          simp at hc
      have := drp_less l a b i this
      rw [List.length_append]; simp; omega
    · have := drp_len l a b i
      omega
theorem drp_mem (l : List Gt) (a b : Int) : ∀ i : Nat, i ≤ l.length → ∀ g ∈ drp l a b i, g ∈ l
  | 0, _, g, h => by cases h
  | i + 1, hi, g, h => by
    rw [drp] at h; split at h
    · rcases List.mem_append.1 h with h | h
      · exact drp_mem l a b i (by omega) g h
      · have e : l.getD i Cel.no = l[i] := by simp [List.getD_eq_getElem?_getD, show i < l.length by omega]
        rw [List.mem_singleton.1 h, e]
        exact List.getElem_mem _
    · exact drp_mem l a b i (by omega) g h
theorem drp_ok {n : Int} {l : List Gt} {a b : Int} (h : cokB n l = true) : cokB n (drp l a b l.length) = true := by
  obtain ⟨hn, hl, ha⟩ := cokB_t h
  refine cokB_mk3 hn (by have := drp_len l a b l.length; omega) ?_
  rw [List.all_eq_true] at ha ⊢
  exact fun g hg => ha g (drp_mem l a b l.length (Nat.le_refl _) g hg)
def shr (l : List Gt) : Nat → List Gt
  | 0 => l
  | f + 1 => if (usl l 0).1 < 0 then l else shr (drp l (usl l 0).1 (usl l 0).2 l.length) f
theorem shr_len : ∀ (f : Nat) (l : List Gt), (shr l f).length ≤ l.length
  | 0, l => Nat.le_refl _
  | f + 1, l => by
    rw [shr]; split
    · exact Nat.le_refl _
    · exact Nat.le_trans (shr_len f _) (drp_len _ _ _ _)
theorem usl_less (l : List Gt) (h : ¬ (usl l 0).1 < 0) : (drp l (usl l 0).1 (usl l 0).2 l.length).length < l.length := by
  rcases usl_spec l 0 with hu | ⟨a, b, hu, hab, hbl, _⟩
  · rw [hu] at h; simp at h
  · rw [hu, Nat.zero_add]
    exact drp_less l a _ l.length (by omega)
theorem shr_step (l : List Gt) (h : ¬ (usl l 0).1 < 0) : shr (drp l (usl l 0).1 (usl l 0).2 l.length) (drp l (usl l 0).1 (usl l 0).2 l.length).length = shr l l.length := by
  have key : ∀ (f f' : Nat) (o : List Gt), o.length ≤ f → o.length ≤ f' → shr o f = shr o f' := by
    intro f
    induction f with
    | zero =>
      intro f' o h1 h2
      have e : o = [] := List.eq_nil_of_length_eq_zero (by omega)
      subst e
      cases f' with
      | zero => rfl
      | succ f' => rw [shr, shr]; rfl
    | succ f ih =>
      intro f' o h1 h2
      cases f' with
      | zero =>
        have e : o = [] := List.eq_nil_of_length_eq_zero (by omega)
        subst e
        rw [shr, shr]; rfl
      | succ f' =>
        rw [shr, shr]
        split
        · rfl
        · rename_i hn
          have := usl_less o hn
          exact ih f' _ (by omega) (by omega)
  have hl := usl_less l h
  obtain ⟨m, hm⟩ : ∃ m, l.length = m + 1 := ⟨l.length - 1, by omega⟩
  conv => rhs; rw [hm, shr, if_neg h]
  exact key _ _ _ (Nat.le_refl _) (by omega)
def wsTM : WsT := [(139, ([], true)), (121, ([], true))]
theorem gq_KME {H G : Prop} (k : H) (h : Hid H → G := by (intro hh; repeat1' (first | (first | (refine nxA ?_; (first | fail | ((first | (refine z_op (by rfl) ?_; first | refine z_ok ?_ ?_ | refine z_ex ?_ (by first | exact zL1 | ((first | fail); exact zWW) | exact zL2 | fail | exact zL3 | fail) ?_) | ((first | refine q_callE wsTM wsZ (by rfl) ?_ | refine q_callVE wsTM (by rfl) (by rfl) ?_); refine ⟨_, _, _, (by first | assumption | exact k_clone _ (by omega) | exact k_clipR _), _, by rfl, ?_, ?_⟩)); focus (first | exact trivial | fail | exact zQZ)) | refine q_delC (α := Gt) (by rfl) (by rfl) (by rfl) delG (by first | exact trivial | omega | exact cvB (fun w => rfl) | ((repeat (any_goals (first | exact rfl | exact cV_len _ | exact cV_ln rfl (by omega) | exact Cel.pos | omega | exact trivial | refine And.intro ?_ ?_))); first | done | fail) | (simp [*]; first | done | fail)) ?_)) | refine swA ?_) | refine awA ?_); exact hh.out)) : G := h ⟨k⟩
theorem gs_KME {H G : Prop} (k : H) (h : Hid H → G := by (intro hh; repeat1' (first | (refine nxA ?_; (first | fail | ((first | (refine z_op (by rfl) ?_; first | refine z_ok ?_ ?_ | refine z_ex ?_ (by first | exact zL1 | ((first | fail); exact zWW) | exact zL2 | fail | exact zL3 | fail) ?_) | ((first | refine q_callE wsTM wsZ (by rfl) ?_ | refine q_callVE wsTM (by rfl) (by rfl) ?_); refine ⟨_, _, _, (by first | assumption | exact k_clone _ (by omega) | exact k_clipR _), _, by rfl, ?_, ?_⟩)); focus (first | exact trivial | fail | exact zQZ)) | refine q_delC (α := Gt) (by rfl) (by rfl) (by rfl) delG (by first | exact trivial | omega | exact cvB (fun w => rfl) | ((repeat (any_goals (first | exact rfl | exact cV_len _ | exact cV_ln rfl (by omega) | exact Cel.pos | omega | exact trivial | refine And.intro ?_ ?_))); first | done | fail) | (simp [*]; first | done | fail)) ?_)) | refine swA ?_); exact hh.out)) : G := h ⟨k⟩
theorem k_clipR (l : List Gt) : Kon Tryz.prog 139 [roA l] [] (roA l) [] [] := by
  (refine kM Tryz.func139 rfl ?_; intro hfit hfe)
  (repeat (first | refine gq_KME ?_ | (refine ga1A ?_; intro _q ⟨_he, _hq⟩)))
  (refine rtA ?_; try rfl)
theorem drp_lt (l : List Gt) (a b : Nat) : ∀ i : Nat, i ≤ l.length → i ≤ a → a < b → drp l a b i = l.take i
  | 0, _, _, _ => by simp [drp]
  | i + 1, hi, h, hab => by
    have e : l.getD i Cel.no = l[i] := by simp [List.getD_eq_getElem?_getD, show i < l.length by omega]
    rw [drp, if_pos (by simp only [Bool.and_eq_true, bne_iff_ne]; omega), drp_lt l a b i (by omega) (by omega) hab, e, List.take_append_getElem]
theorem drp_mid (l : List Gt) (a b : Nat) : ∀ i : Nat, i ≤ l.length → a < i → i ≤ b → drp l a b i = l.take a ++ (l.take i).drop (a + 1)
  | 0, _, h, _ => by omega
  | i + 1, hi, h, hb => by
    have e : l.getD i Cel.no = l[i] := by simp [List.getD_eq_getElem?_getD, show i < l.length by omega]
    rcases Nat.lt_or_ge a i with h1 | h1
    · rw [drp, if_pos (by simp only [Bool.and_eq_true, bne_iff_ne]; omega), drp_mid l a b i (by omega) h1 (by omega), e, List.append_assoc, ← List.take_append_getElem (show i < l.length by omega), List.drop_append_of_le_length (by rw [List.length_take]; omega)]
    · obtain rfl : a = i := by omega
      rw [drp, if_neg (by simp), drp_lt l a b a (by omega) (Nat.le_refl _) (by omega)]
      simp
theorem drp_del (l : List Gt) (a b : Nat) (hab : a < b) : ∀ i : Nat, i ≤ l.length → b < i → drp l a b i = l.take a ++ ((l.take b).drop (a + 1) ++ (l.take i).drop (b + 1))
  | 0, _, h => by omega
  | i + 1, hi, h => by
    have e : l.getD i Cel.no = l[i] := by simp [List.getD_eq_getElem?_getD, show i < l.length by omega]
    rcases Nat.lt_or_ge b i with h1 | h1
    · rw [drp, if_pos (by simp only [Bool.and_eq_true, bne_iff_ne]; omega), drp_del l a b hab i (by omega) h1, e, List.append_assoc, List.append_assoc, ← List.take_append_getElem (show i < l.length by omega), List.drop_append_of_le_length (by rw [List.length_take]; omega)]
    · obtain rfl : b = i := by omega
      rw [drp, if_neg (by simp), drp_mid l a b b (by omega) hab (Nat.le_refl _)]
      simp
theorem del_drp (l : List Gt) (a b : Nat) (hab : a < b) (hb : b < l.length) : (l.take (b : Int).toNat ++ l.drop ((b : Int) + 1).toNat).take (a : Int).toNat ++ (l.take (b : Int).toNat ++ l.drop ((b : Int) + 1).toNat).drop ((a : Int) + 1).toNat = drp l a b l.length := by
  have e1 : (a : Int).toNat = a := by omega
  have e2 : (b : Int).toNat = b := by omega
  have e3 : ((a : Int) + 1).toNat = a + 1 := by omega
  have e4 : ((b : Int) + 1).toNat = b + 1 := by omega
  rw [e1, e2, e3, e4, drp_del l a b hab l.length (Nat.le_refl _) hb, List.take_length, List.take_append_of_le_length (by rw [List.length_take]; omega), List.take_take, Nat.min_eq_left (by omega), List.drop_append_of_le_length (by rw [List.length_take]; omega)]
theorem k_shI (n : Int) (l : List Gt) (ha : l.all (gok n) = true) (hl : l.length ≤ 1000) : Kon Tryz.prog 121 [roA l] [] (roA (shr l l.length)) [] [] := by
  (refine kM Tryz.func121 rfl ?_; intro hfit hfe)
  (repeat (first | refine gq_KME ?_ | (refine ga1A ?_; intro _q ⟨_he, _hq⟩)))
  (refine aw_rd [2] [] (fun g : Nat × List Gt => [(3, .g (.one (.sl 112 g.1 g.2.length)))]) (fun g => [(112, (g.1, gRow g.2))]) (fun g => g.2.all (gok n) = true ∧ g.2.length ≤ 1000 ∧ shr g.2 g.2.length = shr l l.length) (fun g => g.2.length) (0, l) (by rfl) (by rfl) ?_ (by rfl) zHE zHE ?_)
  · exact ⟨ha, hl, rfl⟩
  rintro ⟨r, o⟩ ⟨ho, hol, hs⟩
  dsimp only at ho hol hs ⊢
  have hU := k_usl n o ho hol
  cases hd : decide ((usl o 0).1 < 0) with
  | true =>
    have e : shr o o.length = o := by
      cases hm : o.length with
      | zero => rfl
      | succ m => rw [shr, if_pos (of_decide_eq_true hd)]
    rw [← hs, e]
    clear hs e
    (repeat refine gcA ?_)
    (repeat (first | refine gs_KME ?_ | (refine ga1A ?_; intro _q ⟨_he, _hq⟩)))
    (repeat refine gcA ?_)
    (repeat (first | refine gs_KME ?_ | (refine ga1A ?_; intro _q ⟨_he, _hq⟩)))
    (refine aw_freeze 112 (by rfl) (by rfl) ?_; refine aw_slot 3 4 (by rfl) (by rfl) (by first | exact trivial | omega | exact cvB (fun w => rfl) | ((repeat (any_goals (first | exact rfl | exact cV_len _ | exact cV_ln rfl (by omega) | exact Cel.pos | omega | exact trivial | refine And.intro ?_ ?_))); first | done | fail) | (simp [*]; first | done | fail)) ?_)
    (repeat (first | refine gq_KME ?_ | (refine ga1A ?_; intro _q ⟨_he, _hq⟩)))
    (refine rtA ?_; try rfl)
  | false =>
    have hnn := of_decide_eq_false hd
    rcases usl_spec o 0 with hu | ⟨a, b, hu, hab, hbl, _⟩
    · rw [hu] at hnn; simp at hnn
    · rw [Nat.zero_add, Nat.zero_add] at hu
      have hE := del_drp o a b hab hbl
      have hless := usl_less o hnn
      have hst := (shr_step o hnn).trans hs
      have hall : (drp o (usl o 0).1 (usl o 0).2 o.length).all (gok n) = true := by
        rw [List.all_eq_true] at ho ⊢
        exact fun g hg => ho g (drp_mem o _ _ o.length (Nat.le_refl _) g hg)
      rw [hu] at hU hd hless hst hall
      dsimp only at hU hd hless hst hall
      rw [← hE] at hless hst hall
      clear hs hE hu hnn
      have hless2 := hless
      simp only [List.length_append, List.length_take, List.length_drop] at hless2
      have hX : (o.take (b : Int).toNat ++ o.drop ((b : Int) + 1).toNat).length = o.length - 1 := by
        rw [List.length_append, List.length_take, List.length_drop]; omega
      clear hless2
      obtain ⟨X, hXe⟩ : ∃ X, (o.take (b : Int).toNat ++ o.drop ((b : Int) + 1).toNat).take (a : Int).toNat ++ (o.take (b : Int).toNat ++ o.drop ((b : Int) + 1).toNat).drop ((a : Int) + 1).toNat = X := ⟨_, rfl⟩
      rw [hXe] at hless hst hall
      have hinv : X.all (gok n) = true ∧ X.length ≤ 1000 ∧ shr X X.length = shr l l.length := ⟨hall, by omega, hst⟩
      clear hst hall
      rw [← hXe] at hinv hless
      clear hXe
      (repeat (first | refine gq_KME ?_ | (refine ga1A ?_; intro _q ⟨_he, _hq⟩)))
      exact ⟨(r + 1 + 1, _), hinv, ⟨by rfl, zHE, zHE⟩, (by first | omega | (dsimp only; omega))⟩
theorem gq_KGK {H G : Prop} (k : H) (h : Hid H → G := by (intro hh; repeat1' (first | (first | (refine nxA ?_; (first | fail | ((first | (refine z_op (by rfl) ?_; first | refine z_ok ?_ ?_ | refine z_ex ?_ (by first | exact zL1 | ((first | refine mk_c Gt rfl rfl rfl ?_); exact zWW) | exact zL2 | fail | exact zL3 | fail) ?_) | ((first | refine q_callE wsTB wsZ (by rfl) ?_ | refine q_callVE wsTB (by rfl) (by rfl) ?_); refine ⟨_, _, _, (by first | assumption | exact k_within _ _ _ | exact k_l1In _ _ _ | exact k_wvS2 _ _ | exact k_wv _ _ | exact k_ahead _ _ _ _ _ (by omega) (by omega)), _, by rfl, ?_, ?_⟩)); focus (first | exact trivial | fail | exact zQZ)) | fail)) | refine swA ?_) | refine awA ?_); exact hh.out)) : G := h ⟨k⟩
def wsTB : WsT := (64, ([], true)) :: wsT
abbrev roG (l : List Gt) : AC := .ro 4 l.length (cV l)
abbrev bG (n : Int) (l : List Gt) (f w a : Int) : AV := .g (.agg [.v (.int .i64 n), roG l, .v (.int .i64 f), .v (.int .i64 w), .v (.int .i64 a)])
def bok (n : Int) (l : List Gt) (f w a : Int) : Bool := cokB n l && (wvB n f && (btw a 0 (l.length : Int) && (w == cr (l.take a.toNat) f)))
theorem k_ahead (n : Int) (l : List Gt) (f w a : Int) (hl : l.length ≤ 100000000) (ha : 0 ≤ a ∧ a ≤ l.length) : Kon Tryz.prog 64 [bG n l f w a] [] (.g (.one (roG (l.take a.toNat)))) [] [] := by
  (refine kM Tryz.func64 rfl ?_; intro hfit hfe)
  (repeat (first | refine gq_KGK ?_ | (refine ga0A ?_; intro _hq)))
  (refine rtA ?_; try rfl)
theorem all_take {p : Gt → Bool} {l : List Gt} (h : l.all p = true) (k : Nat) : (l.take k).all p = true := by
  rw [List.all_eq_true] at h ⊢
  exact fun x hx => h x (List.mem_of_mem_take hx)
theorem all_dropT {p : Gt → Bool} {l : List Gt} (h : l.all p = true) (k : Nat) : (l.drop k).all p = true := by
  rw [List.all_eq_true] at h ⊢
  exact fun x hx => h x (List.mem_of_mem_drop hx)
theorem cokB_of {n : Int} {l : List Gt} (h1 : 1 ≤ n ∧ n ≤ 8) (h2 : l.length ≤ 24) (h3 : l.all (gok n) = true) : cokB n l = true := by
  unfold cokB btw
  rw [decide_eq_true h1.1, decide_eq_true h1.2, decide_eq_true (by omega), h3]; rfl
theorem cokB_take {n : Int} {l : List Gt} (h : cokB n l = true) (k : Nat) : cokB n (l.take k) = true := by
  obtain ⟨h1, h2, h3⟩ := cokB_t h
  exact cokB_of h1 (by rw [List.length_take]; omega) (all_take h3 k)
set_option maxHeartbeats 1000000 in
theorem k_bv (n : Int) (l : List Gt) (f w a : Int) (hl : l.length ≤ 100000000) (hr : -9223372036854775808 ≤ n ∧ n ≤ 9223372036854775807) : Kon Tryz.prog 15 [bG n l f w a] [] (vB (bok n l f w a)) [] [] := by
  unfold bok
  have hC := k_cv n l hl
  cases h1 : cokB n l with
  | false =>
    rw [h1] at hC
    (refine kM Tryz.func15 rfl ?_; intro hfit hfe)
    (repeat (first | refine gq_KGK ?_ | (refine ga0A ?_; intro _hq) | refine gdA ?_))
    (refine rtA ?_; try rfl)
  | true =>
    rw [h1] at hC
    have hc := cokB_t h1
    cases h2 : wvB n f with
    | false =>
      (refine kM Tryz.func15 rfl ?_; intro hfit hfe)
      (repeat (first | refine gq_KGK ?_ | (refine ga0A ?_; intro _hq) | refine gdA ?_))
      (refine rtA ?_; try rfl)
    | true =>
      cases h3 : btw a 0 (l.length : Int) with
      | false =>
        (refine kM Tryz.func15 rfl ?_; intro hfit hfe)
        (repeat (first | refine gq_KGK ?_ | (refine ga0A ?_; intro _hq) | refine gdA ?_))
        (refine rtA ?_; try rfl)
      | true =>
        have h3' := btw_t h3
        have hlt : (l.take a.toNat).length ≤ 100000000 := by rw [List.length_take]; omega
        (have hA := k_ahead n l f w a hl h3'; have hR := k_runAll n (l.take a.toNat) f (all_take hc.2.2 _) hlt h2)
        (refine kM Tryz.func15 rfl ?_; intro hfit hfe)
        (repeat (first | refine gq_KGK ?_ | (refine ga0A ?_; intro _hq) | refine gdA ?_))
        (refine rtA ?_; try rfl)
set_option maxHeartbeats 1000000 in
theorem k_bvS (n : Int) (l : List Gt) (f w a : Int) (hl : l.length ≤ 100000000) (hr : -9223372036854775808 ≤ n ∧ n ≤ 9223372036854775807) : Kon Tryz.prog 12 [bG n l f w a] [] (vB (bok n l f w a)) [] [] := by
  unfold bok
  have hC := k_cvS n l hl hr
  cases h1 : cokB n l with
  | false =>
    rw [h1] at hC
    (refine kM Tryz.func12 rfl ?_; intro hfit hfe)
    (repeat (first | refine gq_KGK ?_ | (refine ga0A ?_; intro _hq) | refine gdA ?_))
    (refine rtA ?_; try rfl)
  | true =>
    rw [h1] at hC
    have hc := cokB_t h1
    cases h2 : wvB n f with
    | false =>
      (refine kM Tryz.func12 rfl ?_; intro hfit hfe)
      (repeat (first | refine gq_KGK ?_ | (refine ga0A ?_; intro _hq) | refine gdA ?_))
      (refine rtA ?_; try rfl)
    | true =>
      cases h3 : btw a 0 (l.length : Int) with
      | false =>
        (refine kM Tryz.func12 rfl ?_; intro hfit hfe)
        (repeat (first | refine gq_KGK ?_ | (refine ga0A ?_; intro _hq) | refine gdA ?_))
        (refine rtA ?_; try rfl)
      | true =>
        have h3' := btw_t h3
        have hlt : (l.take a.toNat).length ≤ 100000000 := by rw [List.length_take]; omega
        (have hR := k_crunS n (l.take a.toNat) f hlt hr; have hk : cokB n (l.take a.toNat) = true := cokB_take h1 a.toNat; rw [crM, hk, h2, Bool.and_self, if_pos rfl] at hR)
        (refine kM Tryz.func12 rfl ?_; intro hfit hfe)
        (repeat (first | refine gq_KGK ?_ | (refine ga0A ?_; intro _hq) | refine gdA ?_))
        (refine rtA ?_; try rfl)
end Go.Proofs.YtnenhckongccgaaGreatDoor
