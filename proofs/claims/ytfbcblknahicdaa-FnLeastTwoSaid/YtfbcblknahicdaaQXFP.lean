/- LTP, LTM: laid into one text. -/
import Derived.Test.YtfbcblknahicdaaQXFG
import Derived.Test.YtfbcblknahicdaaQXFK
import Derived.Test.YtfbcblknahicdaaQXFO
import Derived.ChangeKeysEq

namespace Go.Proofs.Ytfbcblknahicdaa
set_option linter.unusedVariables false
set_option linter.unusedSimpArgs false
def stj (k j : Nat) : BS := (g5.take j).foldl (ins (tbA (bst k) k) (dsA (bst k) k)) (bst k)
def nxt (k j : Nat) : List Int := (tbA S24 k).map (gr (g5.getD j Cel.no))
def rks (s : BS) : List Int := s.map fun x => rkM x.1
def tbs (s : BS) : List (List Int) := s.map (·.1)
def dss (s : BS) : List Int := s.map fun x => (x.2 : Int)
theorem stj_0 (k : Nat) : stj k 0 = bst k := rfl
theorem stj_5 (k : Nat) : stj k 5 = bst (k + 1) := rfl
theorem stj_s : ∀ k, k < 24 → ∀ j, j < 5 → stj k (j + 1) = if inB (stj k j) (nxt k j) = true then stj k j else stj k j ++ [(nxt k j, dsA S24 k + 1)] := by decide +kernel
theorem stj_len : ∀ k, k < 24 → ∀ j, j < 6 → k < (stj k j).length ∧ (stj k j).length ≤ 24 ∧ (stj k j).getD k ([], 0) = S24.getD k ([], 0) := by decide +kernel
theorem stj_has : ∀ k, k < 24 → ∀ j, j < 5 → hasB (rks (stj k j)) (rkM (nxt k j)) = inB (stj k j) (nxt k j) := by decide +kernel
theorem nxt_ok : ∀ k, k < 24 → ∀ j, j < 5 → gok 2 (g5.getD j Cel.no) = true ∧ (nxt k j).length = 4 ∧ ∀ i, i < 4 → 0 ≤ (nxt k j).getD i Cel.no ∧ (nxt k j).getD i Cel.no < 4 := by decide +kernel
theorem tbA_ok : ∀ k, k < 24 → (tbA S24 k).length = 4 ∧ ∀ i, i < 4 → (0 ≤ (tbA S24 k).getD i Cel.no ∧ (tbA S24 k).getD i Cel.no < 4) ∧ wvB 2 ((tbA S24 k).getD i Cel.no) = true := by decide +kernel
theorem rk_ne : ∀ k, k < 24 → ∀ j, j < 24 → (rkM (tbA S24 k) == rkM (tbA S24 j)) = (k == j) := by decide +kernel
theorem map_take_s (T : List Int) (f : Int → Int) (i : Nat) (h : i < T.length) : (T.map f).take (i + 1) = (T.map f).take i ++ [f (T.getD i Cel.no)] := by
  have h2 : i < (T.map f).length := by rw [List.length_map]; exact h
  have e : T.getD i Cel.no = T[i] := by rw [List.getD_eq_getElem?_getD, List.getElem?_eq_getElem h, Option.getD_some]
  rw [List.take_add_one, List.getElem?_eq_getElem h2, e, List.getElem_map]; rfl
theorem nxt_take {k j i : Nat} (hk : k < 24) (hi : i < 4) : (nxt k j).take (i + 1) = (nxt k j).take i ++ [gr (g5.getD j Cel.no) ((tbA S24 k).getD i Cel.no)] :=
  map_take_s _ _ i (by rw [(tbA_ok k hk).1]; exact hi)
theorem rks_len (s : BS) : (rks s).length = s.length := List.length_map _
theorem tbs_len (s : BS) : (tbs s).length = s.length := List.length_map _
theorem dss_len (s : BS) : (dss s).length = s.length := List.length_map _
theorem rks_snoc (s : BS) (x : List Int × Nat) : rks (s ++ [x]) = rks s ++ [rkM x.1] := by simp [rks]
theorem tbs_snoc (s : BS) (x : List Int × Nat) : tbs (s ++ [x]) = tbs s ++ [x.1] := by simp [tbs]
theorem dss_snoc (s : BS) (x : List Int × Nat) : dss (s ++ [x]) = dss s ++ [(x.2 : Int)] := by simp [dss]
theorem tbs_at {s : BS} {k : Nat} (h : s.getD k ([], 0) = S24.getD k ([], 0)) : (tbs s).getD k [] = tbA S24 k := by
  have : (tbs s).getD k ([] : List Int) = (s.getD k ([], 0)).1 := by simp only [tbs, List.getD_eq_getElem?_getD, List.getElem?_map]; cases s[k]? <;> rfl
  rw [this, h]; rfl
theorem dss_at {s : BS} {k : Nat} (hk : k < s.length) (h : s.getD k ([], 0) = S24.getD k ([], 0)) : (dss s).getD k Cel.no = (dsA S24 k : Int) := by
  have : (dss s).getD k (Cel.no : Int) = ((s.getD k ([], 0)).2 : Int) := by simp only [dss, List.getD_eq_getElem?_getD, List.getElem?_map, List.getElem?_eq_getElem hk]; rfl
  rw [this, h]; rfl
theorem bst_facts (k : Nat) (hk : k < 24) : k < (bst k).length ∧ (bst k).length ≤ 24 ∧ (bst k).getD k ([], 0) = S24.getD k ([], 0) := stj_len k hk 0 (by decide)
end Go.Proofs.Ytfbcblknahicdaa
namespace Go.Proofs.Ytfbcblknahicdaa
set_option linter.unusedVariables false
set_option linter.unusedSimpArgs false
set_option maxRecDepth 20000
open Go.RowKit Go.Maps Go.WideMaps
abbrev a4 (a b c d : Int) : Value := .agg #[.int .i64 a, .int .i64 b, .int .i64 c, .int .i64 d]
theorem equal_arr4 (a b c d a' b' c' d' : Int) (w : World) : (Op.equalIn 10000 42 (a4 a b c d) (a4 a' b' c' d')).run Try.prog w = .ok (a == a' && (b == b' && (c == c' && d == d'))) w := by
  have hu : Try.prog.underlying 42 = some (.array 4 3) := by kernel_rfl
  have hi : Try.prog.underlying 3 = some (.int .i64) := by kernel_rfl
  have hc : Try.prog.cellsOf 3 = 1 := by kernel_rfl
  obtain ⟨i, hii⟩ := Option.isSome_iff_exists.1 (show (Try.prog.info? 3).isSome = true by kernel_rfl)
  rw [run_equalIn_array (P := Try.prog) w 9999 _ _ hu hii, hc]
  have hz : ∀ (xs : Array Value) (k : Nat) (v : Value) (w : World), xs[k]? = some v → (part 3 xs k).run Try.prog w = .ok v w := fun xs k v w h => run_part_plain w (by kernel_rfl) h
  have z0 := fun w => hz #[.int .i64 a, .int .i64 b, .int .i64 c, .int .i64 d] (0 * 1) _ w rfl
  have y0 := fun w => hz #[.int .i64 a', .int .i64 b', .int .i64 c', .int .i64 d'] (0 * 1) _ w rfl
  have z1 := fun w => hz #[.int .i64 a, .int .i64 b, .int .i64 c, .int .i64 d] (1 * 1) _ w rfl
  have y1 := fun w => hz #[.int .i64 a', .int .i64 b', .int .i64 c', .int .i64 d'] (1 * 1) _ w rfl
  have z2 := fun w => hz #[.int .i64 a, .int .i64 b, .int .i64 c, .int .i64 d] (2 * 1) _ w rfl
  have y2 := fun w => hz #[.int .i64 a', .int .i64 b', .int .i64 c', .int .i64 d'] (2 * 1) _ w rfl
  have z3 := fun w => hz #[.int .i64 a, .int .i64 b, .int .i64 c, .int .i64 d] (3 * 1) _ w rfl
  have y3 := fun w => hz #[.int .i64 a', .int .i64 b', .int .i64 c', .int .i64 d'] (3 * 1) _ w rfl
  have e : ∀ (x y : Int) w, (Op.equalIn 9999 3 (.int .i64 x) (.int .i64 y)).run Try.prog w = .ok (x == y) w := fun x y w => run_equalIn_int (P := Try.prog) w 9998 3 .i64 .i64 x y hi
  rw [show List.range 4 = [0, 1, 2, 3] from rfl]
  simp only [Op.eqItems, Sem.run_bind, z0, y0, Result.andThen_ok]
  erw [e a a' w]
  cases (a == a')
  · rfl
  simp only [Result.andThen_ok, Bool.not_true, Bool.false_eq_true, if_false, Sem.run_bind, z1, y1]
  erw [e b b' w]
  cases (b == b')
  · rfl
  simp only [Result.andThen_ok, Bool.not_true, Bool.false_eq_true, if_false, Sem.run_bind, z2, y2]
  erw [e c c' w]
  cases (c == c')
  · rfl
  simp only [Result.andThen_ok, Bool.not_true, Bool.false_eq_true, if_false, Sem.run_bind, z3, y3]
  erw [e d d' w]
  cases (d == d') <;> rfl
theorem eq_arr4 (x y : Operand) (a b c d a' b' c' d' : Int) (w : World) : (do eqGuard .eql 42 x y (a4 a b c d) (a4 a' b' c' d'); binOp .eql 42 (a4 a b c d) (a4 a' b' c' d') : Sem Value).run Try.prog w = .ok (.bool (a == a' && (b == b' && (c == c' && d == d')))) w := by
  rw [Sem.run_bind, run_eqGuard_agg (hm := by kernel_rfl)]
  simp only [Result.andThen_ok]
  rw [run_eql_struct, equal_arr4]; rfl
def maR (m : Nat) (s : BS) : Nat → Obj → Prop := fun g o => g = m ∧ ∃ w : World, w.heap[m]? = some o ∧ w.ownsMap Try.prog 42 (plainElem (H := Unit) Try.prog 3) m s.length (mD Unit ky4 s)
theorem maR_at {m : Nat} {s : BS} {g : Nat} {o : Obj} {w : World} (h : maR m s g o) (hw : w.heap[g]? = some o) : g = m ∧ w.ownsMap Try.prog 42 (plainElem (H := Unit) Try.prog 3) m s.length (mD Unit ky4 s) := by
  obtain ⟨rfl, w1, h1, es, clock, h2, h3⟩ := h
  exact ⟨rfl, es, clock, (hw.trans h1.symm).trans h2, h3⟩
theorem maR_mk {m : Nat} {s : BS} {o : Obj} {w : World} (hw : w.heap[m]? = some o) (h : w.ownsMap Try.prog 42 (plainElem (H := Unit) Try.prog 3) m s.length (mD Unit ky4 s)) : maR m s m o := ⟨rfl, w, hw, h⟩
theorem ky4_lit (t : List Int) : WideAt.IsKeyLit (ky4 t) := by unfold ky4; trivial
theorem hu_map : Try.prog.underlying 43 = some (.map 42 3) := by kernel_rfl
theorem hu_int : Try.prog.underlying 3 = some (.int .i64) := by kernel_rfl
theorem zero_int (w : World) : (zeroValue 3).run Try.prog w = .ok (.int .i64 0) w := by kernel_rfl
theorem ma_look {m : Nat} {s : BS} {w : World} (h : w.ownsMap Try.prog 42 (plainElem (H := Unit) Try.prog 3) m s.length (mD Unit ky4 s)) {a b c d : Nat} (ha : a < 4 ∧ b < 4 ∧ c < 4 ∧ d < 4) {s1 s2 : BS} {n : Nat} (hs : s = s1 ++ ([(a : Int), (b : Int), (c : Int), (d : Int)], n) :: s2) (hd : ∀ x ∈ s, dom4 x.1) (hn : inB s2 [(a : Int), (b : Int), (c : Int), (d : Int)] = false) :
    (Instr.lookup 43 (.map (some m)) (a4 a b c d) false).run Try.prog w = .ok (.int .i64 (n : Int)) w := by
  obtain ⟨v, h1, h2, _⟩ := h.lookup_int keyed4 hu_map hu_int (zero_int w) (key4 ha.1 ha.2.1 ha.2.2.1 ha.2.2.2)
  rw [hs] at h2 hd
  rw [mD_at ky4_lit ky4_inj ⟨a, b, c, d, ha, rfl⟩ hd hn] at h2
  simp only [DataW.lit.injEq, Lit.int.injEq, true_and] at h2
  rw [h1, ← h2]
theorem ma_has {m : Nat} {s : BS} {w : World} (h : w.ownsMap Try.prog 42 (plainElem (H := Unit) Try.prog 3) m s.length (mD Unit ky4 s)) {a b c d : Nat} (ha : a < 4 ∧ b < 4 ∧ c < 4 ∧ d < 4) (hd : ∀ x ∈ s, dom4 x.1) :
    ∃ v : Int, (Instr.lookup 43 (.map (some m)) (a4 a b c d) true).run Try.prog w = .ok (.tuple #[.int .i64 v, .bool (inB s [(a : Int), (b : Int), (c : Int), (d : Int)])]) w := by
  obtain ⟨v, ps, h1, h2⟩ := h.look_ok keyed4 hu_map (zero_int w) (plainElem_int hu_int (by decide)) (key4 ha.1 ha.2.1 ha.2.2.1 ha.2.2.2)
  obtain ⟨c', rfl, _⟩ := plainElem_int_inv hu_int h2
  rw [mD_has ky4_lit ky4_inj ⟨a, b, c, d, ha, rfl⟩ hd] at h1
  exact ⟨c', h1⟩
theorem ma_put {m : Nat} {s : BS} {w : World} (h : w.ownsMap Try.prog 42 (plainElem (H := Unit) Try.prog 3) m s.length (mD Unit ky4 s)) (hl : s.length ≤ 1000) {a b c d : Nat} (ha : a < 4 ∧ b < 4 ∧ c < 4 ∧ d < 4) (n : Nat) (hn : n ≤ 1000) :
    ∃ w' o', (Instr.mapUpdate 43 (.map (some m)) (a4 a b c d) (.int .i64 (n : Int))).run Try.prog w = .ok () w' ∧ Oth m w w' ∧ w'.heap[m]? = some o' ∧ maR m (s ++ [([(a : Int), (b : Int), (c : Int), (d : Int)], n)]) m o' := by
  have hw : (Lit.int .i64 (n : Int)).wf = true := WalkArith.wf_i64 (by omega)
  obtain ⟨w', h1, h2, h3⟩ := h.update keyed4 hu_map (by unfold maxLen; omega) (key4 ha.1 ha.2.1 ha.2.2.1 ha.2.2.2) (plainElem_int hu_int hw)
  rw [← mD_snoc s ([(a : Int), (b : Int), (c : Int), (d : Int)], n), show s.length + 1 = (s ++ [([(a : Int), (b : Int), (c : Int), (d : Int)], n)]).length by rw [List.length_append]; rfl] at h2
  obtain ⟨es, clock, h4, h5⟩ := h2
  exact ⟨w', _, h1, ⟨h3.os, h3.tape, h3.output, h3.size, fun k hk hne => h3.block k hk (by simp [hne])⟩, h4, maR_mk h4 ⟨es, clock, h4, h5⟩⟩
theorem ma_new (w : World) : maR w.heap.size [] w.heap.size (.map #[] 0) := maR_mk (w := w.alloc (.map #[] 0)) (heap_alloc_new w _) (World.ownsMap_made w _ _ _)
def dmB (t : List Int) : Bool := (t.length == 4) && t.all fun x => decide (0 ≤ x) && decide (x < 4)
theorem dmB_ok {t : List Int} (h : dmB t = true) : dom4 t := by
  unfold dmB at h
  rw [Bool.and_eq_true, beq_iff_eq] at h
  match t, h.1 with
  | [a, b, c, d], _ =>
    have h2 := h.2
    simp only [List.all_cons, List.all_nil, Bool.and_eq_true, decide_eq_true_eq, Bool.and_true] at h2
    refine ⟨a.toNat, b.toNat, c.toNat, d.toNat, by omega, ?_⟩
    rw [Int.toNat_of_nonneg (by omega), Int.toNat_of_nonneg (by omega), Int.toNat_of_nonneg (by omega), Int.toNat_of_nonneg (by omega)]
theorem dom_all : ∀ k, k < 24 → ∀ j, j < 6 → ((stj k j).all fun x => dmB x.1) = true := by decide +kernel
theorem dom_stj {k j : Nat} (hk : k < 24) (hj : j < 6) : ∀ x ∈ stj k j, dom4 x.1 := fun x hx => dmB_ok ((List.all_eq_true.1 (dom_all k hk j hj)) x hx)
theorem dom_at : ∀ k, k < 24 → dmB (tbA S24 k) = true := by decide +kernel
theorem dom_nx : ∀ k, k < 24 → ∀ j, j < 5 → dmB (nxt k j) = true := by decide +kernel
theorem stj_cut : ∀ k, k < 24 → ∀ j, j < 6 → stj k j = (stj k j).take k ++ (tbA S24 k, dsA S24 k) :: (stj k j).drop (k + 1) ∧ inB ((stj k j).drop (k + 1)) (tbA S24 k) = false := by decide +kernel
end Go.Proofs.Ytfbcblknahicdaa
