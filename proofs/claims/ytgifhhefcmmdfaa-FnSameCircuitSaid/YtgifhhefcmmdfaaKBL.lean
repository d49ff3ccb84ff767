/- impl.backwards of gates: the list in the other order, in fresh memory. -/
import Derived.RangeFuncNested
import Derived.RangeFuncBox
import Derived.RangeFuncLeaves
import Derived.Shelf.Abstract
import Derived.WalkKit
import Derived.OwnWalkIn
import Derived.TacticsInMore
import Derived.LoopNIn
import Derived.LoopIn
import Derived.Maps.AppendAt
import Derived.Test.YtgifhhefcmmdfaaKGJ
namespace Go.Proofs.Ytgifhhefcmmdfaa
set_option linter.unusedVariables false
set_option linter.unusedSimpArgs false
open Go.RowKit Go.Shelf
attribute [local go_sem] Oper.semAt_some
abbrev gvl (g : Gt) : Value := .agg #[.int .i64 g.k, .int .i64 g.a, .int .i64 g.b, .int .i64 g.c]
def upto {α : Type} (f : Nat → α) (k : Nat) : List α := (List.range k).map f
theorem upto_succ {α : Type} (f : Nat → α) (k : Nat) : upto f (k + 1) = upto f k ++ [f k] := by simp [upto, List.range_succ]
theorem upto_length {α : Type} (f : Nat → α) (k : Nat) : (upto f k).length = k := by simp [upto]
/-- What a round keeps: what lay below n₀, and the captured box. -/
def K2 (n₀ Bs : Nat) (W W' : World) : Prop := Below n₀ W W' ∧ ∀ v, Boxed W Bs 23 v → Boxed W' Bs 23 v
theorem K2.refl (n₀ Bs : Nat) (W : World) : K2 n₀ Bs W W := ⟨Below.refl _ _, fun _ h => h⟩
theorem K2.trans {n₀ Bs : Nat} {A B C : World} (h : K2 n₀ Bs A B) (k : K2 n₀ Bs B C) : K2 n₀ Bs A C := ⟨h.1.trans k.1, fun v b => k.2 v (h.2 v b)⟩
theorem K2_t {n₀ Bs : Nat} {A B C : World} (h : K2 n₀ Bs A B) (k : K2 n₀ Bs B C) : K2 n₀ Bs A C := h.trans k
theorem K2_b {n₀ Bs : Nat} {w : World} (hn : n₀ ≤ w.heap.size) (W : World) (l : Nat) (o o' : Obj) (hl : w.heap.size ≤ l) (h : W.heap[l]? = some o) (ho : o.isCells = false) (hw : o.isWalk = false) : K2 n₀ Bs W (W.putObj l o') :=
  ⟨belowK_b hn W l o o' hl h ho hw, fun v b => b.kept (grownBy_putObj' W l o') (fun e => by cases e; rw [show W.heap[Bs]? = _ from b] at h; cases h; cases ho)⟩
set_option maxRecDepth 100000 in
set_option maxHeartbeats 2000000 in
/-- slices.Backward's closure, for every loop body that keeps what lay below n₀. -/
theorem bw1_in (F : Fence) (n : Nat) (h7 : F.fn 126) (hro : F.round = none) (hn : 1 ≤ n) (l Bs n₀ b off len cap : Nat) (f : Nat → Gt) (hreach : len * 32 ≤ 140737488351232) (hb : b < n₀) (J Jx : List (Int × Gt) → World → Prop)
    (hY : ∀ pre x W, J pre W → pre.length < len → YieldAt F (n - 1) Try.prog l #[.int .i64 x.1, gvl x.2] W fun e W' =>
      (e = .returned (.bool true) ∧ J (pre ++ [x]) W' ∧ K2 n₀ Bs W W') ∨ (e = .returned (.bool false) ∧ Jx (pre ++ [x]) W'))
    (W : World) (hBs : Boxed W Bs 23 (.slice (some ⟨b, off, none⟩) len cap)) (hc : ∀ j, j < len → W.cell? ⟨b, off + j * 4, none⟩ = some (.int .i64 (f j).k) ∧ W.cell? ⟨b, off + j * 4 + 1, none⟩ = some (.int .i64 (f j).a) ∧ W.cell? ⟨b, off + j * 4 + 2, none⟩ = some (.int .i64 (f j).b) ∧ W.cell? ⟨b, off + j * 4 + 3, none⟩ = some (.int .i64 (f j).c)) (h0 : J [] W) :
    CallsIn F n Try.prog 126 #[.func (.yield l) #[] #[], .pointer (some ⟨Bs, 0, none⟩)] W fun e W' => (∃ v, e = .returned v) ∧
      ((∃ ys, ys = upto (fun j => ((len : Int) - 1 - j, f (len - 1 - j))) len ∧ J ys W') ∨ (∃ pre, (∃ k, k ≤ len ∧ pre = upto (fun j => ((len : Int) - 1 - j, f (len - 1 - j))) k) ∧ Jx pre W')) := by
  refine callsIn_of_wp Try.func126 rfl h7 ?_ hro
  simp only [Try.ntmps126, List.size_toArray, List.length_cons, List.length_nil, Nat.reduceAdd, Nat.reduceSub, Array.replicate_succ, Array.replicate_zero, List.push_toArray, List.append_toArray, List.nil_append, List.cons_append]
  have hBs0 := hBs.cell
  gi_wp2
  gi_loopw [3] (fun i wr => ∃ k : Nat, k ≤ len ∧ i = .int .i64 ((len : Int) - 1 - k) ∧ J (upto (fun j => ((len : Int) - 1 - j, f (len - 1 - j))) k) wr ∧ K2 n₀ Bs W wr)
    (fun i _ => (intOf i + 1).toNat)
  case atStart => exact ⟨0, Nat.zero_le _, by simp, h0, K2.refl _ _ _⟩
  case round =>
    obtain ⟨k, hk, rfl, hJs, hnx⟩ := hrel
    have hBs' := (hnx.2 _ hBs).cell
    by_cases hlt : k < len
    · obtain ⟨fn, tmps, assign, body, hy, hR⟩ := hY _ ((len : Int) - 1 - k, f (len - 1 - k)) wr hJs (by rw [upto_length]; exact hlt)
      dsimp only at hy
      obtain ⟨m, hm⟩ : ∃ m : Nat, len - 1 - k = m := ⟨_, rfl⟩
      have hm2 : (len : Int) - 1 - k = (m : Int) := by omega
      rw [hm2, hm] at hy
      obtain ⟨c0, c1, c2, c3⟩ := hc m (by omega)
      have c0 := (hnx.1.cell (p := ⟨b, off + m * 4, none⟩) hb).trans c0
      have c1 := (hnx.1.cell (p := ⟨b, off + m * 4 + 1, none⟩) hb).trans c1
      have c2 := (hnx.1.cell (p := ⟨b, off + m * 4 + 2, none⟩) hb).trans c2
      have c3 := (hnx.1.cell (p := ⟨b, off + m * 4 + 3, none⟩) hb).trans c3
      rw [hm2]
      gi_wp2
      refine hR.mono ?_
      rintro e W3 (⟨rfl, hJ3, hk3⟩ | ⟨rfl, hJx3⟩)
      · gi_wp2
        go_roundw
        case rel => exact ⟨k + 1, by omega, by simp; omega, by rw [upto_succ]; exact hJ3, hnx.trans hk3⟩
        case measure => simp [intOf]
      · gi_wp2
        refine bodyPost_ret (results_none rfl _ _ _) rfl ?_
        exact ⟨⟨_, rfl⟩, .inr ⟨_, ⟨k + 1, by omega, (upto_succ _ _).symm⟩, hJx3⟩⟩
    · obtain rfl : k = len := by omega
      rw [show (k : Int) - 1 - k = -1 by omega]
      gi_wp2
      go_end0
      exact ⟨⟨_, rfl⟩, .inl ⟨_, rfl, hJs⟩⟩
set_option maxRecDepth 100000 in
set_option maxHeartbeats 1000000 in
/-- .. at the nil slice: no round. -/
theorem bw1_nil_in (F : Fence) (n : Nat) (h7 : F.fn 126) (hro : F.round = none) (l Bs cap : Nat) (A : Option Addr) (J : List (Int × Gt) → World → Prop) (W : World) (hBs : W.cell? ⟨Bs, 0, none⟩ = some (.slice A 0 cap)) (h0 : J [] W) :
    CallsIn F n Try.prog 126 #[.func (.yield l) #[] #[], .pointer (some ⟨Bs, 0, none⟩)] W fun e W' => (∃ v, e = .returned v) ∧ J [] W' := by
  refine callsIn_of_wp Try.func126 rfl h7 ?_ hro
  simp only [Try.ntmps126, List.size_toArray, List.length_cons, List.length_nil, Nat.reduceAdd, Nat.reduceSub, Array.replicate_succ, Array.replicate_zero, List.push_toArray, List.append_toArray, List.nil_append, List.cons_append]
  gi_wp2
  gi_loopw [3] (fun i wr => i = .int .i64 (-1) ∧ J [] wr) (fun _ _ => 0)
  case atStart => exact ⟨rfl, h0⟩
  case round =>
    obtain ⟨rfl, hJs⟩ := hrel
    gi_wp2
    go_end0
    exact ⟨⟨_, rfl⟩, hJs⟩
set_option maxHeartbeats 1000000 in
/-- slices.Backward(s): the slice value is boxed; the function value captures the box. -/
theorem bw_in (F : Fence) (n : Nat) (h5 : F.fn 112) (hro : F.round = none) (a : Option Addr) (len cap : Nat) (w : World) :
    CallsIn F n Try.prog 112 #[.slice a len cap] w fun e w' => e = .returned (.func (.func 126) #[] #[.pointer (some ⟨w.heap.size, 0, none⟩)]) ∧ w' = w.alloc (.cells #[.slice a len cap] 23) := by
  refine callsIn_of_wp Try.func112 rfl h5 ?_ hro
  simp only [Try.ntmps112, List.size_toArray, List.length_cons, List.length_nil, Nat.reduceAdd, Nat.reduceSub, Array.replicate_succ, Array.replicate_zero, List.push_toArray, List.append_toArray, List.nil_append, List.cons_append]
  gi_wp2
  go_ret
  exact ⟨rfl, rfl⟩
/-- The slice value holds gates, in a block below n₀; or there are none. -/
def HoldsG (n₀ : Nat) (W : World) (sv : Value) (len : Nat) (f : Nat → Gt) : Prop :=
  (∃ A cap, sv = .slice A 0 cap ∧ len = 0) ∨ ∃ b off cap, sv = .slice (some ⟨b, off, none⟩) len cap ∧ b < n₀ ∧ ∀ j, j < len → W.cell? ⟨b, off + j * 4, none⟩ = some (.int .i64 (f j).k) ∧ W.cell? ⟨b, off + j * 4 + 1, none⟩ = some (.int .i64 (f j).a) ∧ W.cell? ⟨b, off + j * 4 + 2, none⟩ = some (.int .i64 (f j).b) ∧ W.cell? ⟨b, off + j * 4 + 3, none⟩ = some (.int .i64 (f j).c)
theorem HoldsG.below {n₀ : Nat} {A B : World} (h : Below n₀ A B) {sv : Value} {len : Nat} {f : Nat → Gt} : HoldsG n₀ A sv len f → HoldsG n₀ B sv len f
  | .inl e => .inl e
  | .inr ⟨b, off, cap, e, hb, hc⟩ => .inr ⟨b, off, cap, e, hb, fun j hj => by
    obtain ⟨c0, c1, c2, c3⟩ := hc j hj
    exact ⟨(h.cell (p := ⟨b, off + j * 4, none⟩) hb).trans c0, (h.cell (p := ⟨b, off + j * 4 + 1, none⟩) hb).trans c1, (h.cell (p := ⟨b, off + j * 4 + 2, none⟩) hb).trans c2, (h.cell (p := ⟨b, off + j * 4 + 3, none⟩) hb).trans c3⟩⟩
def bwL (len : Nat) (f : Nat → Gt) (k : Nat) : List (Int × Gt) := upto (fun j => ((len : Int) - 1 - j, f (len - 1 - j))) k
theorem bw_stops (F : Fence) (n : Nat) (h7 : F.fn 126) (hro : F.round = none) (hn : 1 ≤ n) (Bs n₀ : Nat) (sv : Value) (len : Nat) (f : Nat → Gt) (hreach : len * 32 ≤ 140737488351232) (w : World) (hBs : Bs < w.heap.size) (hn₀ : n₀ ≤ w.heap.size)
    (hc : Boxed w Bs 23 sv) (hI : HoldsG n₀ w sv len f) :
    SeqStopsK F n Try.prog 126 #[.pointer (some ⟨Bs, 0, none⟩)] (fun x : Int × Gt => #[.int .i64 x.1, gvl x.2]) (K2 n₀ Bs) (fun ys => ys = bwL len f len) (fun pre => ∃ k, k ≤ len ∧ pre = bwL len f k) len w := fun l J Jx W hW _ _ hY h0 => by
  have hc' : Boxed W Bs _ _ := (hW.block Bs hBs).trans hc
  rcases hI.below (hW.mono hn₀) with ⟨A, cap, rfl, rfl⟩ | ⟨b, off, cap, rfl, hb, hcs⟩
  · exact (bw1_nil_in F n h7 hro l Bs cap A J W hc'.cell h0).mono fun e W' ⟨he, hj⟩ => ⟨he, .inl ⟨_, rfl, hj⟩⟩
  · exact bw1_in F n h7 hro hn l Bs n₀ b off len cap f hreach hb J Jx hY W hc' hcs h0
theorem infoG : (Try.prog.info? 37).map (fun i => (i.zero, i.size, i.bytes)) = some (some (gvl ⟨0, 0, 0, 0⟩), 4, 32) := by kernel_rfl
theorem cells4_new (w : World) (k a b c : Value) (t : TypeId) : ∀ j u, [k, a, b, c][j]? = some u → (w.alloc (.cells #[k, a, b, c] t)).cell? ((⟨w.heap.size, 0, none⟩ : Addr).add j) = some u := by
  intro j u hj
  match j, hj with
  | 0, hj => simp at hj; subst hj; simp [Addr.add]
  | 1, hj => simp at hj; subst hj; simp [Addr.add]
  | 2, hj => simp at hj; subst hj; simp [Addr.add]
  | 3, hj => simp at hj; subst hj; simp [Addr.add]
  | j + 4, hj => simp at hj
theorem cells4_own {k a b c : Value} {t Bx : Nat} {X Y : World} {row : Option Nat} (h : X.heap[Bx]? = some (.cells #[k, a, b, c] t (0, 0))) (hg : X.grownBy Y row) (hr : ∀ r, row = some r → ∃ o : Obj, X.heap[r]? = some o ∧ o.isCells = false) : Y.heap[Bx]? = some (.cells #[k, a, b, c] t (0, 0)) :=
  (hg.block Bx (Array.getElem?_eq_some_iff.1 h).1 (fun e => by obtain ⟨o, h1, h2⟩ := hr Bx e.symm; rw [h] at h1; cases h1; cases h2)).trans h
set_option maxRecDepth 100000 in
set_option maxHeartbeats 2000000 in
theorem back_in (F : Fence) (n : Nat) (h3 : F.fn 79) (h4 : F.fn 112) (h5 : F.fn 126) (hro : F.round = none) (hn : 3 ≤ n) (A : Option Addr) (len cap : Nat) (f : Nat → Gt) (hlen : len ≤ 1000000) (w : World) (hL : HoldsG w.heap.size w (.slice A len cap) len f) :
    CallsIn F n Try.prog 79 #[.slice A len cap] w fun e W' => ∃ v, e = .returned v ∧ W'.ownsRow w.heap.size 37 4 v len (cV ((bwL len f len).map (·.2))) ∧ Below w.heap.size w W' := by
  have h1 : 1 ≤ n := by omega
  obtain ⟨i0, hi, hz0, hz1, hz2⟩ := info_parts infoG
  obtain ⟨M, hM⟩ : ∃ M, madeCells (gvl ⟨0, 0, 0, 0⟩).cells (len * i0.size) = M := ⟨_, rfl⟩
  have hmk : (Instr.makeSlice 23 (.int .i64 0) (.int .i64 len)).run Try.prog w = .ok (.slice (some ⟨w.heap.size, 0, none⟩) 0 len) (w.alloc (.cells M 37)) := by
    have := run_make (P := Try.prog) w 23 37 i0 (gvl ⟨0, 0, 0, 0⟩) Try.underlying23 hi hz0 .i64 .i64 0 (len : Nat) (by omega) (by omega) (by rw [hz2]; omega) (by omega)
    rw [← hM]
    simpa using this
  refine callsIn_of_wp_marks Try.func79 rfl h3 ?_ hro
  simp only [Try.ntmps79, List.size_toArray, List.length_cons, List.length_nil, Nat.reduceAdd, Nat.reduceSub, Array.replicate_succ, Array.replicate_zero, List.push_toArray, List.append_toArray, List.nil_append, List.cons_append]
  gi_wp2_with (gi_at_call 112; refine (bw_in F (n - 1) h4 hro _ _ _ _).mono ?_; rintro e w' ⟨rfl, rfl⟩)
  have bO := (Boxed.new (w.alloc (.cells M 37)) 23 (.slice (some ⟨w.heap.size, 0, none⟩) 0 len)).alloc (.cells #[.slice A len cap] 23)
  have bN := Boxed.new ((w.alloc (.cells M 37)).alloc (.cells #[.slice (some ⟨w.heap.size, 0, none⟩) 0 len] 23)) 23 (.slice A len cap)
  have bR : (((w.alloc (.cells M 37)).alloc (.cells #[.slice (some ⟨w.heap.size, 0, none⟩) 0 len] 23)).alloc (.cells #[.slice A len cap] 23)).ownsRow w.heap.size 37 4 (.slice (some ⟨w.heap.size, 0, none⟩) 0 len) 0 [] := World.ownsRow.alloc (World.ownsRow.alloc ⟨rfl, .inr ⟨_, len, M, rfl, Nat.le_refl _, World.alloc_heap_new w _, Nat.zero_le _, by simp [maxLen]; omega, by rw [← hM, size_madeCells, hz1], by simp⟩⟩ _) _
  have hB0 : Below w.heap.size w (((w.alloc (.cells M 37)).alloc (.cells #[.slice (some ⟨w.heap.size, 0, none⟩) 0 len] 23)).alloc (.cells #[.slice A len cap] 23)) := (((Below.refl _ w).alloc (Nat.le_refl _) _).alloc (by simp) _).alloc (by simp; omega) _
  simp only [World.size_alloc] at bO bN
  have hsz : (((w.alloc (.cells M 37)).alloc (.cells #[.slice (some ⟨w.heap.size, 0, none⟩) 0 len] 23)).alloc (.cells #[.slice A len cap] 23)).heap.size = w.heap.size + 3 := by simp
  obtain ⟨W0, hW0⟩ : ∃ W0, ((w.alloc (.cells M 37)).alloc (.cells #[.slice (some ⟨w.heap.size, 0, none⟩) 0 len] 23)).alloc (.cells #[.slice A len cap] 23) = W0 := ⟨_, rfl⟩
  rw [hW0] at bO bN bR hB0 hsz ⊢
  clear hW0
  refine wpIn_rangeFunc_ownH hro h1 (gf := 126) (lb := #[.pointer (some ⟨w.heap.size + 1 + 1, 0, none⟩)]) rfl h5 (Go.Proofs.enters_of Try.func126 (by kernel_rfl) rfl)
    (bw_stops F (n - 1) h5 hro (by omega) (w.heap.size + 1 + 1) w.heap.size _ len f (by omega) W0 (by omega) (by omega) bN (hL.below hB0)) K2_t (K2_b (by omega)) (Below.refl _ _) (fun _ => rfl)
    (fun pre W => ((∃ v, Boxed W (w.heap.size + 1) 23 v ∧ W.ownsRow w.heap.size 37 4 v pre.length (cV (pre.map (·.2))) ∧ True) ∧ Boxed W (w.heap.size + 1 + 1) 23 (.slice A len cap)) ∧ Below w.heap.size w W)
    (fun _ _ _ => False)
    (OwnFrom.and (OwnFrom.and (Own.from (holdsRow_own w.heap.size (w.heap.size + 1) 23 37 4 (fun (pre : List (Int × Gt)) => pre.length) (fun pre => cV (pre.map (·.2))) (fun _ _ => True)) _) (Own.from (boxed_own _ _ _) _)) (ownFrom_below (Nat.le_refl _) (by omega)))
    (fun _ _ _ _ _ hs _ _ => hs)
    ⟨⟨⟨_, bO, bR, trivial⟩, bN⟩, hB0⟩
    (fun x a' W => ∃ Bx, w.heap.size + 1 + 1 < Bx ∧ W.heap[Bx]? = some (.cells #[.int .i64 x.2.k, .int .i64 x.2.a, .int .i64 x.2.b, .int .i64 x.2.c] 37 (0, 0)) ∧ a' = { tmps := #[.slice A len cap, undef, .slice none 0 0, .pointer (some ⟨w.heap.size + 1, 0, none⟩), undef, .pointer (some ⟨Bx, 0, none⟩), .slice A len cap, .int .i64 len, .slice (some ⟨w.heap.size, 0, none⟩) 0 len, .slice A len cap, .func (.func 126) #[] #[.pointer (some ⟨w.heap.size + 1 + 1, 0, none⟩)], .int .i64 x.1, gvl x.2, undef, undef, undef, undef, undef], defers := [] })
    (fun x a' _ X Y row hs hg hr => by obtain ⟨Bx, h1, h2, h3⟩ := hs; exact ⟨Bx, h1, cells4_own h2 hg (fun r e => (hr r e).2), h3⟩)
    ?assign ?body ?done ?stop
  case assign =>
    rintro l pre x W K ⟨⟨⟨v, bO1, bR1, _⟩, bN1⟩, hB1⟩ hK
    gi_wp2
    have hkb : ∀ v, Boxed W (w.heap.size + 1 + 1) 23 v → Boxed (W.alloc (.cells #[.int .i64 x.2.k, .int .i64 x.2.a, .int .i64 x.2.b, .int .i64 x.2.c] 37)) (w.heap.size + 1 + 1) 23 v := fun v b => b.alloc _
    exact hK _ _ ((KeepsOthers.alloc _ _).from _) ⟨(Below.refl _ W).alloc hB1.size _, hkb⟩ ⟨⟨⟨_, bO1.alloc _, bR1.alloc _, trivial⟩, hkb _ bN1⟩, hB1.alloc hB1.size _⟩ ⟨W.heap.size, bN1.lt, World.alloc_heap_new W _, rfl⟩
  case body =>
    rintro l pre x a' W hl ⟨r, hr⟩ ⟨⟨⟨v, bO1, bR1, _⟩, bN1⟩, hB1⟩ ⟨Bx, hBx, bX, rfl⟩ hlt
    have cO := bO1.cell
    have c0 : W.cell? ⟨Bx, 0, none⟩ = some (.int .i64 x.2.k) := by simp [World.cell?, bX]
    have c1 : W.cell? ⟨Bx, 1, none⟩ = some (.int .i64 x.2.a) := by simp [World.cell?, bX]
    have c2 : W.cell? ⟨Bx, 2, none⟩ = some (.int .i64 x.2.b) := by simp [World.cell?, bX]
    have c3 : W.cell? ⟨Bx, 3, none⟩ = some (.int .i64 x.2.c) := by simp [World.cell?, bX]
    gi_wp2_with (gi_at_builtin; refine wpListIn_append_own _ rfl _ _ 23 rfl w.heap.size 37 i0 (gvl ⟨0, 0, 0, 0⟩) 4 32 Try.underlying23 hi hz0 hz1 hz2 rfl (by decide) _ _ _ rfl (bR1.alloc _) ⟨W.heap.size, 0, none⟩ 1 1 [.int .i64 x.2.k, .int .i64 x.2.a, .int .i64 x.2.b, .int .i64 x.2.c] rfl rfl (cells4_new _ _ _ _ _ _) (by simp [Value.oneCell']) (by simp [maxLen]; omega) (by omega) (by have := hB1.size; simp; omega) ?_; intro v' w1 hown' hgrow _; obtain ⟨g', cap', rfl⟩ := ownsRow_succ hown'; obtain ⟨hv1, hv2, hr2, hk2, hb2⟩ := bO1.appended (by decide) bR1 hB1.size (by omega) hown' hgrow; have hc1 := hv1.cell; have hf1 := hv1.frozen)
    have hbk : ∀ v, Boxed W (w.heap.size + 1 + 1) 23 v → Boxed (w1.setCell ⟨w.heap.size + 1, 0, none⟩ (.slice (some ⟨g', 0, none⟩) (pre.length + 1) cap')) (w.heap.size + 1 + 1) 23 v := fun v b => ((b.alloc _).kept hgrow (b.not_row (by decide) bR1)).other (by omega) _
    exact ⟨hk2.from _, ⟨hb2, hbk⟩, ⟨⟨_, hv2, by simp only [List.map_append, List.length_append, ← cV_append]; exact hr2, trivial⟩, hbk _ bN1⟩, hB1.trans hb2⟩
  case done =>
    rintro D zs W hD rfl ⟨⟨⟨v, bO1, bR1, _⟩, bN1⟩, hB1⟩ hK
    have cO := bO1.cell
    gi_wp2
    refine ⟨by simp, .inl ⟨_, _, rfl, run_takeDeferred hK, ?_⟩⟩
    refine ⟨_, results_tmp rfl _ _ _, v, rfl, ?_, hB1.trans (belowK_b (w := w) (Nat.le_refl _) W D _ _ (by omega) hK rfl rfl)⟩
    have := ownsRow_putObj bR1 (.deferred none) hK rfl
    rwa [show (bwL len f len).length = len from upto_length _ _] at this
  case stop =>
    rintro D c pre W _ _ h _
    exact h.elim
/-- A call that lays one row of gates anew keeps a contract. -/
theorem kon_fresh {P : Program} {f : FuncId} {e : TypeId} {l r : List Gt} (hent : ∀ args w, (callFunc f args).run P w = .ok (.enter f args) w)
    (h : ∀ (w : World) (ok : Nat → Prop) (y : Value), (∀ b, ok b → b < w.heap.size) → RoRep w ok 4 l.length (cV l) y → Calls P f #[y] w fun en W' => ∃ v, en = .returned v ∧ W'.ownsRow w.heap.size e 4 v r.length (cV r) ∧ Below w.heap.size w W') :
    Kon P f [roA l] [] (slA 0 0 r) [rwE e r] [] := by
  refine ⟨cOf (fun _ : Unit => ([roA l], [])) (fun _ => (slA 0 0 r, [rwE e r], [])), ⟨hent, ?_⟩, cOf_at (A := fun _ : Unit => ([roA l], [])) (R := fun _ => (slA 0 0 r, [rwE e r], [])) (fun _ _ _ => rfl) ()⟩
  intro aa es out news es' hC w vs β N hN hs hvs
  obtain ⟨_, rfl, rfl, rfl, rfl, rfl⟩ := cOf_some hC
  have hv := (hs.env 0 (roA l) rfl).2
  obtain ⟨y, rfl⟩ : ∃ y, vs = #[y] := by
    obtain ⟨xs⟩ := vs
    match xs, hvs with
    | [y], _ => exact ⟨y, rfl⟩
  refine (h w _ y (fun b hb => hb.1) hv).mono ?_
  rintro en W' ⟨v, rfl, hown, hB⟩
  have hblk : ∀ b, blk? v = some b → b < W'.heap.size ∧ w.heap.size ≤ b := by
    intro b hb
    rcases hown.2 with ⟨rfl, _⟩ | ⟨g, cap, cur, rfl, hg, hgb, _⟩
    · cases hb
    · cases hb
      exact ⟨(Array.getElem?_eq_some_iff.1 hgb).1, hg⟩
  have hG : ∀ {i r1 e1}, Gout [rwE e r] [] i = some (r1, e1) → i = 0 ∧ r1 = 0 ∧ e1 = rwE e r := by
    intro i r1 e1 hi
    unfold Gout at hi
    split at hi
    · simp at hi
    · match i, hi with
      | 0, hi => simp at hi; exact ⟨rfl, hi.1.symm, hi.2.symm⟩
      | i + 1, hi => simp at hi
  obtain ⟨hown1, hown2⟩ := hown
  have hsl : ∃ A c, v = .slice A r.length c := by
    rcases hown2 with ⟨rfl, h0⟩ | ⟨g, cap, cur, rfl, _⟩
    · rw [h0]; exact ⟨_, _, rfl⟩
    · exact ⟨_, _, rfl⟩
  obtain ⟨A, c, rfl⟩ := hsl
  refine ⟨_, fun _ => .slice A r.length c, rfl, ?_, ?_, rfl, rfl, ?_⟩
  · refine { os := hB.os, tape := hB.tape, output := hB.output, size := hB.size, block := fun k hk _ => hB.block k hk, ents := ?_, apart := ?_, fresh := ?_, pin := ?_, wide := rfl, env := ?_ }
    · intro i r1 e1 hi
      obtain ⟨rfl, rfl, rfl⟩ := hG hi
      refine ⟨?_, e, r.length, fun x hx => by cases hx; rfl, hown1, ?_⟩
      · exact cV_one r
      · exact hown2.imp id fun ⟨g, cap, cur, h1, h2, h3, h4, h5, h6, h7⟩ => ⟨g, cap, cur, h1, Nat.zero_le _, h3, h4, h5, Nat.le_of_eq h6.symm, h7⟩
    · intro i j r1 e1 r2 e2 b hi _ hj _ _ _
      rw [(hG hi).1, (hG hj).1]
    · intro i r1 e1 b hi _ hb
      exact ⟨(hblk b hb).1, .inl (hblk b hb).2⟩
    · intro i e1 hi hg
      have := (hG hg).1
      omega
    · intro i a hi; cases hi
  · exact ⟨rfl, 0, rwE e r, rfl, Nat.le_refl _, fun _ => ⟨A, _, c, rfl, Nat.le_refl _, rfl⟩⟩
  · intro p hp
    simp [AV.refs, AG.refs, AC.refs] at hp
    subst hp
    exact ⟨_, rfl⟩
theorem bwL_rev (l : List Gt) : (bwL l.length (fun j => l.getD j Cel.no) l.length).map (·.2) = l.reverse := by
  apply List.ext_getElem
  · simp [bwL, upto_length]
  · intro i h1 h2
    have hi : i < l.length := by simpa using h2
    have h3 : l.length - 1 - i < l.length := by omega
    simp [bwL, upto, List.getElem_reverse, List.getD_eq_getElem?_getD, h3]
theorem k_backwards (l : List Gt) (hl : l.length ≤ 1000000) : Kon Try.prog 79 [roA l] [] (slA 0 0 l.reverse) [gRow l.reverse] [] := by
  refine kon_fresh (Go.Proofs.enters_of Try.func79 (by kernel_rfl) rfl) ?_
  rintro w ok y hok ⟨⟨hn, hone⟩, A, c, rfl, hc1, hc2, hcs⟩
  have hL : HoldsG w.heap.size w (.slice A l.length c) l.length (fun j => l.getD j Cel.no) := by
    rcases Nat.eq_zero_or_pos l.length with h0 | h0
    · exact .inl ⟨A, c, by rw [h0], h0⟩
    · obtain ⟨b, off, rfl, hb, hcell⟩ := hcs h0
      refine .inr ⟨b, off, c, rfl, hok b hb, fun j hj => ?_⟩
      have hx : ∀ (o : Nat) (v : Value), (Cel.f (l.getD j (Cel.no : Gt)))[o]? = some v → w.cell? ⟨b, off + j * 4 + o, none⟩ = some v := fun o v hv => by
        have := hcell _ _ (cV_cell hj hv)
        rwa [← Nat.add_assoc] at this
      exact ⟨hx 0 _ rfl, hx 1 _ rfl, hx 2 _ rfl, hx 3 _ rfl⟩
  refine (callsIn_wide.1 (back_in Fence.wide 3 trivial trivial trivial rfl (Nat.le_refl _) A l.length c _ hl w hL)).mono ?_
  rintro en W' ⟨v, rfl, hown, hB⟩
  rw [bwL_rev] at hown
  exact ⟨v, rfl, by rw [List.length_reverse]; exact hown, hB⟩
end Go.Proofs.Ytgifhhefcmmdfaa
