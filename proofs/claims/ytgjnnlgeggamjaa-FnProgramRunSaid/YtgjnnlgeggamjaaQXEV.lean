/- TRN: laid into one text. -/
import Derived.Test.YtgjnnlgeggamjaaQXEK
import Derived.Test.YtgjnnlgeggamjaaQXEU
import Derived.BigRegion
import Derived.ChangeAlike

namespace Go.Proofs.Ytgjnnlgeggamjaa
set_option linter.unusedVariables false
set_option linter.unusedSimpArgs false
open Go.RowKit
def mcs (r : List Int) (n : Nat) : Array Value := (r.map (fun x => Value.int .i64 x) ++ [Value.int .i64 (n : Int)]).toArray
theorem mcs_size {r : List Int} {n : Nat} (h : r.length = 4) : (mcs r n).size = 5 := by simp [mcs, h]
theorem mcs_at {r : List Int} {n : Nat} (i : Nat) (h : i < r.length) : (mcs r n)[i]? = some (.int .i64 (r.getD i 0)) := by
  simp [mcs, List.getElem?_append_left, h, List.getD_eq_getElem?_getD]
theorem mcs_n {r : List Int} {n : Nat} (h : r.length = 4) : (mcs r n)[4]? = some (.int .i64 (n : Int)) := by
  simp [mcs, List.getElem?_append_right, h]
theorem mcs_set {r : List Int} {n : Nat} (i : Nat) (v : Int) (h : i < r.length) : (mcs r n).setIfInBounds i (.int .i64 v) = mcs (r.set i v) n := by
  simp [mcs, List.set_append_left, h, List.map_set]
theorem mcs_setn {r : List Int} {n : Nat} (h : r.length = 4) : (mcs r n).setIfInBounds 4 (.int .i64 ((n : Int) + 1)) = mcs r (n + 1) := by
  simp [mcs, List.set_append_right, h]
structure Bm (w : World) (g : Nat) (cs : Array Value) : Prop extends Bk w g cs where
  fz : ∃ c e, w.heap[g]? = some (.cells c e (0, 0))
theorem Bm.alloc {w : World} {g : Nat} {cs : Array Value} (h : Bm w g cs) (o : Obj) : Bm (w.alloc o) g cs := ⟨h.toBk.alloc o, by rw [Below.heap_alloc w o g h.lt]; exact h.fz⟩
theorem Bm.drew {w : World} {g : Nat} {cs : Array Value} (h : Bm w g cs) : Bm w.drew g cs := ⟨h.toBk.drew, h.fz⟩
theorem Bm.set {w : World} {g : Nat} {cs : Array Value} (h : Bm w g cs) (i : Nat) (u : Value) (hi : i < cs.size) : Bm (w.setCell ⟨g, i, none⟩ u) g (cs.setIfInBounds i u) := by
  refine ⟨h.toBk.set i u hi, ?_⟩
  obtain ⟨c, e, hh⟩ := h.fz
  exact ⟨c.setIfInBounds i u, e, by simp [World.setCell, Array.getElem?_modify, hh]⟩
attribute [local go_sem] Oper.semAt_some
set_option maxHeartbeats 4000000 in
theorem do_0 (i j : Nat) (hi : i < 4) (hj : j < 4) (r : List Int) (n : Nat) (B : Nat) (w : World) (hr : rok r) (hn : n < 4000000000000000000) (hM : Bm w B (mcs r n)) (x y : Int) (hx : r.getD i 0 = x) (hy : r.getD j 0 = y) :
    Calls Try.prog 74 #[.pointer (some ⟨B, 0, none⟩), .agg #[.int .i64 0, .int .i64 (i : Int), .int .i64 (j : Int), .int .i64 0]] w fun e w' => e = .returned (.tuple #[]) ∧ Bm w' B (mcs (r.set i ((x + y) % 64)) (n + 1)) ∧ Oth B w w' := by
  have h4 := hr.1
  have hlen : r.length = 4 := h4
  have x1 := hr.2 i hi
  have x2 := hr.2 j hj
  rw [hx] at x1
  rw [hy] at x2
  have k1 : (mcs r n)[4]? = some (.int .i64 (n : Int)) := mcs_n h4
  have hlt := hM.lt
  have bM := hM.alloc (.cells #[.int .i64 0, .int .i64 (i : Int), .int .i64 (j : Int), .int .i64 0] 47)
  have bN := (hM.set 4 (.int .i64 ((n : Int) + 1)) (by rw [mcs_size h4]; omega)).alloc (.cells #[.int .i64 0, .int .i64 (i : Int), .int .i64 (j : Int), .int .i64 0] 47)
  rw [mcs_setn h4] at bN
  have bY := Bk.new' (w.setCell ⟨B, 4, none⟩ (.int .i64 ((n : Int) + 1))) #[.int .i64 0, .int .i64 (i : Int), .int .i64 (j : Int), .int .i64 0] 47 w.heap.size (by simp [World.setCell])
  have c4 : (w.alloc (.cells #[.int .i64 0, .int .i64 (i : Int), .int .i64 (j : Int), .int .i64 0] 47)).cell? ⟨B, 4, none⟩ = some (.int .i64 (n : Int)) := (bM.cell 4).trans k1
  have f4 := bM.free 4
  have hw1 : IntKind.i64.wrap ((n : Int) + 1) = (n : Int) + 1 := IntWalk.i64_in _ (by show (-9223372036854775808 : Int) ≤ (n : Int) + 1 ∧ (n : Int) + 1 ≤ 9223372036854775807; omega)
  go_enter Try.func74, Try.ntmps74
  go_upto_region 3 with fail
  obtain ⟨W, hW⟩ : ∃ W, RowKit.Hid ((w.setCell ⟨B, 4, none⟩ (.int .i64 ((n : Int) + 1))).alloc (.cells #[.int .i64 0, .int .i64 (i : Int), .int .i64 (j : Int), .int .i64 0] 47) = W) := ⟨_, rfl⟩
  have hO : Oth B w W := by rw [← hW.out]; exact ((Oth.refl B w).setCell rfl _).alloc _
  rw [hW.out] at bN bY ⊢
  clear hW
  have y0 : W.cell? ⟨w.heap.size, 0, none⟩ = some (.int .i64 0) := bY.cell 0
  have y1 : W.cell? ⟨w.heap.size, 1, none⟩ = some (.int .i64 (i : Int)) := bY.cell 1
  have y2 : W.cell? ⟨w.heap.size, 2, none⟩ = some (.int .i64 (j : Int)) := bY.cell 2
  have y3 : W.cell? ⟨w.heap.size, 3, none⟩ = some (.int .i64 0) := bY.cell 3
  have z1 : W.cell? ⟨B, i, none⟩ = some (.int .i64 x) := (bN.cell i).trans (hx ▸ mcs_at i (by omega))
  have z2 : W.cell? ⟨B, j, none⟩ = some (.int .i64 y) := (bN.cell j).trans (hy ▸ mcs_at j (by omega))
  have zf := bN.free i
  have i1 : (0 : Int) ≤ (i : Int) := by omega
  have i2 : (i : Int) < 4 := by omega
  have j1 : (0 : Int) ≤ (j : Int) := by omega
  have j2 : (j : Int) < 4 := by omega
  clear hx hy
  have hws : IntKind.i64.wrap (x + y) = x + y := IntWalk.i64_in _ (by show (-9223372036854775808 : Int) ≤ _ ∧ _ ≤ (9223372036854775807 : Int); omega)
  go_upto_region 5 with fail
  go_region
  go_wp2
  have hf := (bN.set i (.int .i64 ((x + y) % 64)) (by rw [mcs_size hlen]; omega)).drew
  rw [mcs_set i ((x + y) % 64) (by omega)] at hf
  exact bodyPost_end (results_none rfl _ _ _) rfl ⟨rfl, hf, (hO.setCell rfl _).drew⟩
set_option maxHeartbeats 4000000 in
theorem do_1 (i j : Nat) (hi : i < 4) (hj : j < 4) (r : List Int) (n : Nat) (B : Nat) (w : World) (hr : rok r) (hn : n < 4000000000000000000) (hM : Bm w B (mcs r n)) (x y : Int) (hx : r.getD i 0 = x) (hy : r.getD j 0 = y) :
    Calls Try.prog 74 #[.pointer (some ⟨B, 0, none⟩), .agg #[.int .i64 1, .int .i64 (i : Int), .int .i64 (j : Int), .int .i64 0]] w fun e w' => e = .returned (.tuple #[]) ∧ Bm w' B (mcs (r.set i ((x + 64 - y) % 64)) (n + 1)) ∧ Oth B w w' := by
  have h4 := hr.1
  have hlen : r.length = 4 := h4
  have x1 := hr.2 i hi
  have x2 := hr.2 j hj
  rw [hx] at x1
  rw [hy] at x2
  have k1 : (mcs r n)[4]? = some (.int .i64 (n : Int)) := mcs_n h4
  have hlt := hM.lt
  have bM := hM.alloc (.cells #[.int .i64 1, .int .i64 (i : Int), .int .i64 (j : Int), .int .i64 0] 47)
  have bN := (hM.set 4 (.int .i64 ((n : Int) + 1)) (by rw [mcs_size h4]; omega)).alloc (.cells #[.int .i64 1, .int .i64 (i : Int), .int .i64 (j : Int), .int .i64 0] 47)
  rw [mcs_setn h4] at bN
  have bY := Bk.new' (w.setCell ⟨B, 4, none⟩ (.int .i64 ((n : Int) + 1))) #[.int .i64 1, .int .i64 (i : Int), .int .i64 (j : Int), .int .i64 0] 47 w.heap.size (by simp [World.setCell])
  have c4 : (w.alloc (.cells #[.int .i64 1, .int .i64 (i : Int), .int .i64 (j : Int), .int .i64 0] 47)).cell? ⟨B, 4, none⟩ = some (.int .i64 (n : Int)) := (bM.cell 4).trans k1
  have f4 := bM.free 4
  have hw1 : IntKind.i64.wrap ((n : Int) + 1) = (n : Int) + 1 := IntWalk.i64_in _ (by show (-9223372036854775808 : Int) ≤ (n : Int) + 1 ∧ (n : Int) + 1 ≤ 9223372036854775807; omega)
  go_enter Try.func74, Try.ntmps74
  go_upto_region 3 with fail
  obtain ⟨W, hW⟩ : ∃ W, RowKit.Hid ((w.setCell ⟨B, 4, none⟩ (.int .i64 ((n : Int) + 1))).alloc (.cells #[.int .i64 1, .int .i64 (i : Int), .int .i64 (j : Int), .int .i64 0] 47) = W) := ⟨_, rfl⟩
  have hO : Oth B w W := by rw [← hW.out]; exact ((Oth.refl B w).setCell rfl _).alloc _
  rw [hW.out] at bN bY ⊢
  clear hW
  have y0 : W.cell? ⟨w.heap.size, 0, none⟩ = some (.int .i64 1) := bY.cell 0
  have y1 : W.cell? ⟨w.heap.size, 1, none⟩ = some (.int .i64 (i : Int)) := bY.cell 1
  have y2 : W.cell? ⟨w.heap.size, 2, none⟩ = some (.int .i64 (j : Int)) := bY.cell 2
  have y3 : W.cell? ⟨w.heap.size, 3, none⟩ = some (.int .i64 0) := bY.cell 3
  have z1 : W.cell? ⟨B, i, none⟩ = some (.int .i64 x) := (bN.cell i).trans (hx ▸ mcs_at i (by omega))
  have z2 : W.cell? ⟨B, j, none⟩ = some (.int .i64 y) := (bN.cell j).trans (hy ▸ mcs_at j (by omega))
  have zf := bN.free i
  have i1 : (0 : Int) ≤ (i : Int) := by omega
  have i2 : (i : Int) < 4 := by omega
  have j1 : (0 : Int) ≤ (j : Int) := by omega
  have j2 : (j : Int) < 4 := by omega
  clear hx hy
  have hws : IntKind.i64.wrap (x + 64) = x + 64 := IntWalk.i64_in _ (by show (-9223372036854775808 : Int) ≤ _ ∧ _ ≤ (9223372036854775807 : Int); omega)
  have hws2 : IntKind.i64.wrap (x + 64 - y) = x + 64 - y := IntWalk.i64_in _ (by show (-9223372036854775808 : Int) ≤ _ ∧ _ ≤ (9223372036854775807 : Int); omega)
  go_upto_region 7 with fail
  go_region
  go_wp2
  have hf := (bN.set i (.int .i64 ((x + 64 - y) % 64)) (by rw [mcs_size hlen]; omega)).drew
  rw [mcs_set i ((x + 64 - y) % 64) (by omega)] at hf
  exact bodyPost_end (results_none rfl _ _ _) rfl ⟨rfl, hf, (hO.setCell rfl _).drew⟩
set_option maxHeartbeats 4000000 in
theorem do_2 (i : Nat) (c : Int) (hi : i < 4) (hj : 0 ≤ c ∧ c < 64) (r : List Int) (n : Nat) (B : Nat) (w : World) (hr : rok r) (hn : n < 4000000000000000000) (hM : Bm w B (mcs r n)) (x : Int) (hx : r.getD i 0 = x) :
    Calls Try.prog 74 #[.pointer (some ⟨B, 0, none⟩), .agg #[.int .i64 2, .int .i64 (i : Int), .int .i64 0, .int .i64 c]] w fun e w' => e = .returned (.tuple #[]) ∧ Bm w' B (mcs (r.set i ((x + c) % 64)) (n + 1)) ∧ Oth B w w' := by
  have h4 := hr.1
  have hlen : r.length = 4 := h4
  have x1 := hr.2 i hi
  rw [hx] at x1
  have k1 : (mcs r n)[4]? = some (.int .i64 (n : Int)) := mcs_n h4
  have hlt := hM.lt
  have bM := hM.alloc (.cells #[.int .i64 2, .int .i64 (i : Int), .int .i64 0, .int .i64 c] 47)
  have bN := (hM.set 4 (.int .i64 ((n : Int) + 1)) (by rw [mcs_size h4]; omega)).alloc (.cells #[.int .i64 2, .int .i64 (i : Int), .int .i64 0, .int .i64 c] 47)
  rw [mcs_setn h4] at bN
  have bY := Bk.new' (w.setCell ⟨B, 4, none⟩ (.int .i64 ((n : Int) + 1))) #[.int .i64 2, .int .i64 (i : Int), .int .i64 0, .int .i64 c] 47 w.heap.size (by simp [World.setCell])
  have c4 : (w.alloc (.cells #[.int .i64 2, .int .i64 (i : Int), .int .i64 0, .int .i64 c] 47)).cell? ⟨B, 4, none⟩ = some (.int .i64 (n : Int)) := (bM.cell 4).trans k1
  have f4 := bM.free 4
  have hw1 : IntKind.i64.wrap ((n : Int) + 1) = (n : Int) + 1 := IntWalk.i64_in _ (by show (-9223372036854775808 : Int) ≤ (n : Int) + 1 ∧ (n : Int) + 1 ≤ 9223372036854775807; omega)
  go_enter Try.func74, Try.ntmps74
  go_upto_region 3 with fail
  obtain ⟨W, hW⟩ : ∃ W, RowKit.Hid ((w.setCell ⟨B, 4, none⟩ (.int .i64 ((n : Int) + 1))).alloc (.cells #[.int .i64 2, .int .i64 (i : Int), .int .i64 0, .int .i64 c] 47) = W) := ⟨_, rfl⟩
  have hO : Oth B w W := by rw [← hW.out]; exact ((Oth.refl B w).setCell rfl _).alloc _
  rw [hW.out] at bN bY ⊢
  clear hW
  have y0 : W.cell? ⟨w.heap.size, 0, none⟩ = some (.int .i64 2) := bY.cell 0
  have y1 : W.cell? ⟨w.heap.size, 1, none⟩ = some (.int .i64 (i : Int)) := bY.cell 1
  have y2 : W.cell? ⟨w.heap.size, 2, none⟩ = some (.int .i64 0) := bY.cell 2
  have y3 : W.cell? ⟨w.heap.size, 3, none⟩ = some (.int .i64 c) := bY.cell 3
  have z1 : W.cell? ⟨B, i, none⟩ = some (.int .i64 x) := (bN.cell i).trans (hx ▸ mcs_at i (by omega))
  have zf := bN.free i
  have i1 : (0 : Int) ≤ (i : Int) := by omega
  have i2 : (i : Int) < 4 := by omega
  clear hx
  have hws : IntKind.i64.wrap (x + c) = x + c := IntWalk.i64_in _ (by show (-9223372036854775808 : Int) ≤ _ ∧ _ ≤ (9223372036854775807 : Int); omega)
  go_upto_region 9 with fail
  go_region
  go_wp2
  have hf := (bN.set i (.int .i64 ((x + c) % 64)) (by rw [mcs_size hlen]; omega)).drew
  rw [mcs_set i ((x + c) % 64) (by omega)] at hf
  exact bodyPost_end (results_none rfl _ _ _) rfl ⟨rfl, hf, (hO.setCell rfl _).drew⟩
set_option maxHeartbeats 4000000 in
theorem do_3 (i j : Nat) (hi : i < 4) (hj : j < 4) (hij : i ≠ j) (r : List Int) (n : Nat) (B : Nat) (w : World) (hr : rok r) (hn : n < 4000000000000000000) (hM : Bm w B (mcs r n)) (x y : Int) (hx : r.getD i 0 = x) (hy : r.getD j 0 = y) :
    Calls Try.prog 74 #[.pointer (some ⟨B, 0, none⟩), .agg #[.int .i64 3, .int .i64 (i : Int), .int .i64 (j : Int), .int .i64 0]] w fun e w' => e = .returned (.tuple #[]) ∧ Bm w' B (mcs ((r.set i y).set j x) (n + 1)) ∧ Oth B w w' := by
  have h4 := hr.1
  have hlen : r.length = 4 := h4
  have x1 := hr.2 i hi
  have x2 := hr.2 j hj
  rw [hx] at x1
  rw [hy] at x2
  have k1 : (mcs r n)[4]? = some (.int .i64 (n : Int)) := mcs_n h4
  have hlt := hM.lt
  have bM := hM.alloc (.cells #[.int .i64 3, .int .i64 (i : Int), .int .i64 (j : Int), .int .i64 0] 47)
  have bN := (hM.set 4 (.int .i64 ((n : Int) + 1)) (by rw [mcs_size h4]; omega)).alloc (.cells #[.int .i64 3, .int .i64 (i : Int), .int .i64 (j : Int), .int .i64 0] 47)
  rw [mcs_setn h4] at bN
  have bY := Bk.new' (w.setCell ⟨B, 4, none⟩ (.int .i64 ((n : Int) + 1))) #[.int .i64 3, .int .i64 (i : Int), .int .i64 (j : Int), .int .i64 0] 47 w.heap.size (by simp [World.setCell])
  have c4 : (w.alloc (.cells #[.int .i64 3, .int .i64 (i : Int), .int .i64 (j : Int), .int .i64 0] 47)).cell? ⟨B, 4, none⟩ = some (.int .i64 (n : Int)) := (bM.cell 4).trans k1
  have f4 := bM.free 4
  have hw1 : IntKind.i64.wrap ((n : Int) + 1) = (n : Int) + 1 := IntWalk.i64_in _ (by show (-9223372036854775808 : Int) ≤ (n : Int) + 1 ∧ (n : Int) + 1 ≤ 9223372036854775807; omega)
  go_enter Try.func74, Try.ntmps74
  go_upto_region 3 with fail
  obtain ⟨W, hW⟩ : ∃ W, RowKit.Hid ((w.setCell ⟨B, 4, none⟩ (.int .i64 ((n : Int) + 1))).alloc (.cells #[.int .i64 3, .int .i64 (i : Int), .int .i64 (j : Int), .int .i64 0] 47) = W) := ⟨_, rfl⟩
  have hO : Oth B w W := by rw [← hW.out]; exact ((Oth.refl B w).setCell rfl _).alloc _
  rw [hW.out] at bN bY ⊢
  clear hW
  have y0 : W.cell? ⟨w.heap.size, 0, none⟩ = some (.int .i64 3) := bY.cell 0
  have y1 : W.cell? ⟨w.heap.size, 1, none⟩ = some (.int .i64 (i : Int)) := bY.cell 1
  have y2 : W.cell? ⟨w.heap.size, 2, none⟩ = some (.int .i64 (j : Int)) := bY.cell 2
  have y3 : W.cell? ⟨w.heap.size, 3, none⟩ = some (.int .i64 0) := bY.cell 3
  have z1 : W.cell? ⟨B, i, none⟩ = some (.int .i64 x) := (bN.cell i).trans (hx ▸ mcs_at i (by omega))
  have z2 : W.cell? ⟨B, j, none⟩ = some (.int .i64 y) := (bN.cell j).trans (hy ▸ mcs_at j (by omega))
  have zf := bN.free i
  have i1 : (0 : Int) ≤ (i : Int) := by omega
  have i2 : (i : Int) < 4 := by omega
  have j1 : (0 : Int) ≤ (j : Int) := by omega
  have j2 : (j : Int) < 4 := by omega
  clear hx hy
  have zg := bN.free j
  go_upto_region 11 with fail
  go_region
  go_wp2
  have h1 := bN.set i (.int .i64 y) (by rw [mcs_size hlen]; omega)
  rw [mcs_set i y (by omega)] at h1
  have h2 := (h1.set j (.int .i64 x) (by rw [mcs_size (by simp [hlen])]; omega)).drew
  rw [mcs_set j x (by simp [hlen]; omega)] at h2
  exact bodyPost_end (results_none rfl _ _ _) rfl ⟨rfl, h2, ((hO.setCell rfl _).setCell rfl _).drew⟩
theorem do_ok (l : Gt) (hl : lkG l = true) (hk : 0 ≤ l.k ∧ l.k ≤ 3) (r : List Int) (n : Nat) (B : Nat) (w : World) (hr : rok r) (hn : n < 4000000000000000000) (hM : Bm w B (mcs r n)) :
    Calls Try.prog 74 #[.pointer (some ⟨B, 0, none⟩), .agg #[.int .i64 l.k, .int .i64 l.a, .int .i64 l.b, .int .i64 l.c]] w fun e w' => e = .returned (.tuple #[]) ∧ Bm w' B (mcs (do1 l r) (n + 1)) ∧ Oth B w w' := by
  have hc := lk_cases hl
  obtain ⟨k, a, b, c⟩ := l
  dsimp only at hc hk ⊢
  have ha : 0 ≤ a ∧ a ≤ 3 := by omega
  have hb : 0 ≤ b ∧ b ≤ 3 := by omega
  obtain ⟨i, rfl⟩ : ∃ i : Nat, a = (i : Int) := ⟨a.toNat, by omega⟩
  obtain ⟨j, rfl⟩ : ∃ j : Nat, b = (j : Int) := ⟨b.toNat, by omega⟩
  have h4 : k = 0 ∨ k = 1 ∨ k = 2 ∨ k = 3 := by omega
  rcases h4 with rfl | rfl | rfl | rfl
  · obtain rfl : c = 0 := by omega
    exact do_0 i j (by omega) (by omega) r n B w hr hn hM _ _ rfl rfl
  · obtain rfl : c = 0 := by omega
    exact do_1 i j (by omega) (by omega) r n B w hr hn hM _ _ rfl rfl
  · obtain rfl : j = 0 := by omega
    exact do_2 i c (by omega) (by omega) r n B w hr hn hM _ rfl
  · obtain rfl : c = 0 := by omega
    exact do_3 i j (by omega) (by omega) (by omega) r n B w hr hn hM _ _ rfl rfl
end Go.Proofs.Ytgjnnlgeggamjaa
