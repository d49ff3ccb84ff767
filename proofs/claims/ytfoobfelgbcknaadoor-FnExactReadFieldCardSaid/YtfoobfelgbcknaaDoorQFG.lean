/- FTB: laid into one text. -/
import Derived.Test.YtfoobfelgbcknaaDoorQFF
import Derived.RangeFuncNested
import Derived.RangeFuncBox
import Derived.RangeFuncLeaves
import Derived.Shelf.Abstract
import Derived.WalkKit
import Derived.OwnWalkIn
import Derived.TacticsInMore
import Derived.LoopNIn
import Derived.LoopIn
import Derived.Maps.AppendAt

namespace Go.Proofs.YtfoobfelgbcknaaDoor
set_option linter.unusedVariables false
set_option linter.unusedSimpArgs false
open Go.RowKit Go.Shelf
attribute [local go_sem] Oper.semAt_some
abbrev svl (g : List UInt8) : Value := .string (str g)
def upto {α : Type} (f : Nat → α) (k : Nat) : List α := (List.range k).map f
theorem upto_succ {α : Type} (f : Nat → α) (k : Nat) : upto f (k + 1) = upto f k ++ [f k] := by simp [upto, List.range_succ]
theorem upto_length {α : Type} (f : Nat → α) (k : Nat) : (upto f k).length = k := by simp [upto]
def K2 (n₀ Bs : Nat) (W W' : World) : Prop := Below n₀ W W' ∧ ∀ v, Boxed W Bs 40 v → Boxed W' Bs 40 v
theorem K2.refl (n₀ Bs : Nat) (W : World) : K2 n₀ Bs W W := ⟨Below.refl _ _, fun _ h => h⟩
theorem K2.trans {n₀ Bs : Nat} {A B C : World} (h : K2 n₀ Bs A B) (k : K2 n₀ Bs B C) : K2 n₀ Bs A C := ⟨h.1.trans k.1, fun v b => k.2 v (h.2 v b)⟩
theorem K2_t {n₀ Bs : Nat} {A B C : World} (h : K2 n₀ Bs A B) (k : K2 n₀ Bs B C) : K2 n₀ Bs A C := h.trans k
theorem K2_b {n₀ Bs : Nat} {w : World} (hn : n₀ ≤ w.heap.size) (W : World) (l : Nat) (o o' : Obj) (hl : w.heap.size ≤ l) (h : W.heap[l]? = some o) (ho : o.isCells = false) (hw : o.isWalk = false) : K2 n₀ Bs W (W.putObj l o') :=
  ⟨belowK_b hn W l o o' hl h ho hw, fun v b => b.kept (grownBy_putObj' W l o') (fun e => by cases e; rw [show W.heap[Bs]? = _ from b] at h; cases h; cases ho)⟩
set_option maxRecDepth 100000 in
set_option maxHeartbeats 2000000 in
theorem bw1_in (F : Fence) (n : Nat) (h7 : F.fn 55) (hro : F.round = none) (hn : 1 ≤ n) (l Bs n₀ b off len cap : Nat) (f : Nat → List UInt8) (hreach : len * 16 ≤ 140737488351232) (hb : b < n₀) (J Jx : List (Int × List UInt8) → World → Prop)
    (hY : ∀ pre x W, J pre W → pre.length < len → YieldAt F (n - 1) Tryd.prog l #[.int .i64 x.1, svl x.2] W fun e W' =>
      (e = .returned (.bool true) ∧ J (pre ++ [x]) W' ∧ K2 n₀ Bs W W') ∨ (e = .returned (.bool false) ∧ Jx (pre ++ [x]) W'))
    (W : World) (hBs : Boxed W Bs 40 (.slice (some ⟨b, off, none⟩) len cap)) (hc : ∀ j, j < len → W.cell? ⟨b, off + j, none⟩ = some (svl (f j))) (h0 : J [] W) :
    CallsIn F n Tryd.prog 55 #[.func (.yield l) #[] #[], .pointer (some ⟨Bs, 0, none⟩)] W fun e W' => (∃ v, e = .returned v) ∧
      ((∃ ys, ys = upto (fun j => ((len : Int) - 1 - j, f (len - 1 - j))) len ∧ J ys W') ∨ (∃ pre, (∃ k, k ≤ len ∧ pre = upto (fun j => ((len : Int) - 1 - j, f (len - 1 - j))) k) ∧ Jx pre W')) := by
  refine callsIn_of_wp Tryd.func55 rfl h7 ?_ hro
  simp only [Tryd.ntmps55, List.size_toArray, List.length_cons, List.length_nil, Nat.reduceAdd, Nat.reduceSub, Array.replicate_succ, Array.replicate_zero, List.push_toArray, List.append_toArray, List.nil_append, List.cons_append]
  have hBs0 := hBs.cell
  gi_wp2
  gi_loopw [3] (fun i wr => ∃ k : Nat, k ≤ len ∧ i = .int .i64 ((len : Int) - 1 - k) ∧ J (upto (fun j => ((len : Int) - 1 - j, f (len - 1 - j))) k) wr ∧ K2 n₀ Bs W wr)
    (fun i _ => (intOf i + 1).toNat)
  case atStart => exact ⟨0, Nat.zero_le _, by simp, h0, K2.refl _ _ _⟩
  case round =>
    obtain ⟨k, hk, rfl, hJs, hnx⟩ := hrel
    have hBs' := (hnx.2 _ hBs).cell
    by_cases hlt : k < len
    · obtain ⟨fn, tmps, assign, body, hy, hR⟩ := hY _ ((len : Int) - 1 - k, f (len - 1 - k)) wr hJs (by rw [upto_length]; exact hlt)
      dsimp only at hy
      obtain ⟨m, hm⟩ : ∃ m : Nat, len - 1 - k = m := ⟨_, rfl⟩
      have hm2 : (len : Int) - 1 - k = (m : Int) := by omega
      rw [hm2, hm] at hy
      have c0 := hc m (by omega)
      have c0 := (hnx.1.cell (p := ⟨b, off + m, none⟩) hb).trans c0
      rw [hm2]
      gi_wp2
      refine hR.mono ?_
      rintro e W3 (⟨rfl, hJ3, hk3⟩ | ⟨rfl, hJx3⟩)
      · gi_wp2
        go_roundw
        case rel => exact ⟨k + 1, by omega, by simp; omega, by rw [upto_succ]; exact hJ3, hnx.trans hk3⟩
        case measure => simp [intOf]
      · gi_wp2
        refine bodyPost_ret (results_none rfl _ _ _) rfl ?_
        exact ⟨⟨_, rfl⟩, .inr ⟨_, ⟨k + 1, by omega, (upto_succ _ _).symm⟩, hJx3⟩⟩
    · obtain rfl : k = len := by omega
      rw [show (k : Int) - 1 - k = -1 by omega]
      gi_wp2
      go_end0
      exact ⟨⟨_, rfl⟩, .inl ⟨_, rfl, hJs⟩⟩
set_option maxRecDepth 100000 in
set_option maxHeartbeats 1000000 in
theorem bw1_nil_in (F : Fence) (n : Nat) (h7 : F.fn 55) (hro : F.round = none) (l Bs cap : Nat) (A : Option Addr) (J : List (Int × List UInt8) → World → Prop) (W : World) (hBs : W.cell? ⟨Bs, 0, none⟩ = some (.slice A 0 cap)) (h0 : J [] W) :
    CallsIn F n Tryd.prog 55 #[.func (.yield l) #[] #[], .pointer (some ⟨Bs, 0, none⟩)] W fun e W' => (∃ v, e = .returned v) ∧ J [] W' := by
  refine callsIn_of_wp Tryd.func55 rfl h7 ?_ hro
  simp only [Tryd.ntmps55, List.size_toArray, List.length_cons, List.length_nil, Nat.reduceAdd, Nat.reduceSub, Array.replicate_succ, Array.replicate_zero, List.push_toArray, List.append_toArray, List.nil_append, List.cons_append]
  gi_wp2
  gi_loopw [3] (fun i wr => i = .int .i64 (-1) ∧ J [] wr) (fun _ _ => 0)
  case atStart => exact ⟨rfl, h0⟩
  case round =>
    obtain ⟨rfl, hJs⟩ := hrel
    gi_wp2
    go_end0
    exact ⟨⟨_, rfl⟩, hJs⟩
set_option maxHeartbeats 1000000 in
theorem bw_in (F : Fence) (n : Nat) (h5 : F.fn 45) (hro : F.round = none) (a : Option Addr) (len cap : Nat) (w : World) :
    CallsIn F n Tryd.prog 45 #[.slice a len cap] w fun e w' => e = .returned (.func (.func 55) #[] #[.pointer (some ⟨w.heap.size, 0, none⟩)]) ∧ w' = w.alloc (.cells #[.slice a len cap] 40) := by
  refine callsIn_of_wp Tryd.func45 rfl h5 ?_ hro
  simp only [Tryd.ntmps45, List.size_toArray, List.length_cons, List.length_nil, Nat.reduceAdd, Nat.reduceSub, Array.replicate_succ, Array.replicate_zero, List.push_toArray, List.append_toArray, List.nil_append, List.cons_append]
  gi_wp2
  go_ret
  exact ⟨rfl, rfl⟩
def HoldsG (n₀ : Nat) (W : World) (sv : Value) (len : Nat) (f : Nat → List UInt8) : Prop :=
  (∃ A cap, sv = .slice A 0 cap ∧ len = 0) ∨ ∃ b off cap, sv = .slice (some ⟨b, off, none⟩) len cap ∧ b < n₀ ∧ ∀ j, j < len → W.cell? ⟨b, off + j, none⟩ = some (svl (f j))
theorem HoldsG.below {n₀ : Nat} {A B : World} (h : Below n₀ A B) {sv : Value} {len : Nat} {f : Nat → List UInt8} : HoldsG n₀ A sv len f → HoldsG n₀ B sv len f
  | .inl e => .inl e
  | .inr ⟨b, off, cap, e, hb, hc⟩ => .inr ⟨b, off, cap, e, hb, fun j hj => by
    exact (h.cell (p := ⟨b, off + j, none⟩) hb).trans (hc j hj)⟩
def bwL (len : Nat) (f : Nat → List UInt8) (k : Nat) : List (Int × List UInt8) := upto (fun j => ((len : Int) - 1 - j, f (len - 1 - j))) k
theorem bw_stops (F : Fence) (n : Nat) (h7 : F.fn 55) (hro : F.round = none) (hn : 1 ≤ n) (Bs n₀ : Nat) (sv : Value) (len : Nat) (f : Nat → List UInt8) (hreach : len * 16 ≤ 140737488351232) (w : World) (hBs : Bs < w.heap.size) (hn₀ : n₀ ≤ w.heap.size)
    (hc : Boxed w Bs 40 sv) (hI : HoldsG n₀ w sv len f) :
    SeqStopsK F n Tryd.prog 55 #[.pointer (some ⟨Bs, 0, none⟩)] (fun x : Int × List UInt8 => #[.int .i64 x.1, svl x.2]) (K2 n₀ Bs) (fun ys => ys = bwL len f len) (fun pre => ∃ k, k ≤ len ∧ pre = bwL len f k) len w := fun l J Jx W hW _ _ hY h0 => by
  have hc' : Boxed W Bs _ _ := (hW.block Bs hBs).trans hc
  rcases hI.below (hW.mono hn₀) with ⟨A, cap, rfl, rfl⟩ | ⟨b, off, cap, rfl, hb, hcs⟩
  · exact (bw1_nil_in F n h7 hro l Bs cap A J W hc'.cell h0).mono fun e W' ⟨he, hj⟩ => ⟨he, .inl ⟨_, rfl, hj⟩⟩
  · exact bw1_in F n h7 hro hn l Bs n₀ b off len cap f hreach hb J Jx hY W hc' hcs h0
theorem infoG : (Tryd.prog.info? 9).map (fun i => (i.zero, i.size, i.bytes)) = some (some (svl []), 1, 16) := by kernel_rfl
theorem cells1_new (w : World) (k : Value) (t : TypeId) : ∀ j u, [k][j]? = some u → (w.alloc (.cells #[k] t)).cell? ((⟨w.heap.size, 0, none⟩ : Addr).add j) = some u := by
  intro j u hj
  match j, hj with
  | 0, hj => simp at hj; subst hj; simp [Addr.add]
  | j + 1, hj => simp at hj
set_option maxRecDepth 100000 in
set_option maxHeartbeats 2000000 in
theorem back_in (F : Fence) (n : Nat) (h3 : F.fn 25) (h4 : F.fn 45) (h5 : F.fn 55) (hro : F.round = none) (hn : 3 ≤ n) (A : Option Addr) (len cap : Nat) (f : Nat → List UInt8) (hlen : len ≤ 2000000) (w : World) (hL : HoldsG w.heap.size w (.slice A len cap) len f) :
    CallsIn F n Tryd.prog 25 #[.slice A len cap] w fun e W' => ∃ v, e = .returned v ∧ W'.ownsRow w.heap.size 9 1 v len (cV ((bwL len f len).map (·.2))) ∧ Below w.heap.size w W' := by
  have h1 : 1 ≤ n := by omega
  obtain ⟨i0, hi, hz0, hz1, hz2⟩ := info_parts infoG
  obtain ⟨M, hM⟩ : ∃ M, madeCells (svl []).cells (len * i0.size) = M := ⟨_, rfl⟩
  have hmk : (Instr.makeSlice 40 (.int .i64 0) (.int .i64 len)).run Tryd.prog w = .ok (.slice (some ⟨w.heap.size, 0, none⟩) 0 len) (w.alloc (.cells M 9)) := by
    have := run_make (P := Tryd.prog) w 40 9 i0 (svl []) Tryd.underlying40 hi hz0 .i64 .i64 0 (len : Nat) (by omega) (by omega) (by rw [hz2]; omega) (by omega)
    rw [← hM]
    simpa using this
  refine callsIn_of_wp_marks Tryd.func25 rfl h3 ?_ hro
  simp only [Tryd.ntmps25, List.size_toArray, List.length_cons, List.length_nil, Nat.reduceAdd, Nat.reduceSub, Array.replicate_succ, Array.replicate_zero, List.push_toArray, List.append_toArray, List.nil_append, List.cons_append]
  gi_wp2_with (gi_at_call 45; refine (bw_in F (n - 1) h4 hro _ _ _ _).mono ?_; rintro e w' ⟨rfl, rfl⟩)
  have bO := (Boxed.new (w.alloc (.cells M 9)) 40 (.slice (some ⟨w.heap.size, 0, none⟩) 0 len)).alloc (.cells #[.slice A len cap] 40)
  have bN := Boxed.new ((w.alloc (.cells M 9)).alloc (.cells #[.slice (some ⟨w.heap.size, 0, none⟩) 0 len] 40)) 40 (.slice A len cap)
  have bR : (((w.alloc (.cells M 9)).alloc (.cells #[.slice (some ⟨w.heap.size, 0, none⟩) 0 len] 40)).alloc (.cells #[.slice A len cap] 40)).ownsRow w.heap.size 9 1 (.slice (some ⟨w.heap.size, 0, none⟩) 0 len) 0 [] := World.ownsRow.alloc (World.ownsRow.alloc ⟨rfl, .inr ⟨_, len, M, rfl, Nat.le_refl _, World.alloc_heap_new w _, Nat.zero_le _, by simp [maxLen]; omega, by rw [← hM, size_madeCells, hz1], by simp⟩⟩ _) _
  have hB0 : Below w.heap.size w (((w.alloc (.cells M 9)).alloc (.cells #[.slice (some ⟨w.heap.size, 0, none⟩) 0 len] 40)).alloc (.cells #[.slice A len cap] 40)) := (((Below.refl _ w).alloc (Nat.le_refl _) _).alloc (by simp) _).alloc (by simp; omega) _
  simp only [World.size_alloc] at bO bN
  have hsz : (((w.alloc (.cells M 9)).alloc (.cells #[.slice (some ⟨w.heap.size, 0, none⟩) 0 len] 40)).alloc (.cells #[.slice A len cap] 40)).heap.size = w.heap.size + 3 := by simp
  obtain ⟨W0, hW0⟩ : ∃ W0, ((w.alloc (.cells M 9)).alloc (.cells #[.slice (some ⟨w.heap.size, 0, none⟩) 0 len] 40)).alloc (.cells #[.slice A len cap] 40) = W0 := ⟨_, rfl⟩
  rw [hW0] at bO bN bR hB0 hsz ⊢
  clear hW0
  refine wpIn_rangeFunc_ownH hro h1 (gf := 55) (lb := #[.pointer (some ⟨w.heap.size + 1 + 1, 0, none⟩)]) rfl h5 (Go.Proofs.enters_of Tryd.func55 (by kernel_rfl) rfl)
    (bw_stops F (n - 1) h5 hro (by omega) (w.heap.size + 1 + 1) w.heap.size _ len f (by omega) W0 (by omega) (by omega) bN (hL.below hB0)) K2_t (K2_b (by omega)) (Below.refl _ _) (fun _ => rfl)
    (fun pre W => ((∃ v, Boxed W (w.heap.size + 1) 40 v ∧ W.ownsRow w.heap.size 9 1 v pre.length (cV (pre.map (·.2))) ∧ True) ∧ Boxed W (w.heap.size + 1 + 1) 40 (.slice A len cap)) ∧ Below w.heap.size w W)
    (fun _ _ _ => False)
    (OwnFrom.and (OwnFrom.and (Own.from (holdsRow_own w.heap.size (w.heap.size + 1) 40 9 1 (fun (pre : List (Int × List UInt8)) => pre.length) (fun pre => cV (pre.map (·.2))) (fun _ _ => True)) _) (Own.from (boxed_own _ _ _) _)) (ownFrom_below (Nat.le_refl _) (by omega)))
    (fun _ _ _ _ _ hs _ _ => hs)
    ⟨⟨⟨_, bO, bR, trivial⟩, bN⟩, hB0⟩
    (fun x a' W => a' = { tmps := #[.slice A len cap, undef, .slice none 0 0, .pointer (some ⟨w.heap.size + 1, 0, none⟩), undef, svl x.2, .slice A len cap, .int .i64 len, .slice (some ⟨w.heap.size, 0, none⟩) 0 len, .slice A len cap, .func (.func 55) #[] #[.pointer (some ⟨w.heap.size + 1 + 1, 0, none⟩)], .int .i64 x.1, svl x.2, undef, undef, undef, undef, undef], defers := [] })
    (fun x a' _ X Y row hs hg hr => hs)
    ?assign ?body ?done ?stop
  case assign =>
    rintro l pre x W K ⟨⟨⟨v, bO1, bR1, _⟩, bN1⟩, hB1⟩ hK
    gi_wp2
    exact hK _ _ ((KeepsOthers.refl _).from _) (K2.refl _ _ _) ⟨⟨⟨_, bO1, bR1, trivial⟩, bN1⟩, hB1⟩ rfl
  case body =>
    rintro l pre x a' W hl ⟨r, hr⟩ ⟨⟨⟨v, bO1, bR1, _⟩, bN1⟩, hB1⟩ rfl hlt
    have cO := bO1.cell
    gi_wp2_with (gi_at_builtin; refine wpListIn_append_own _ rfl _ _ 40 rfl w.heap.size 9 i0 (svl []) 1 16 Tryd.underlying40 hi hz0 hz1 hz2 rfl (by decide) _ _ _ rfl (bR1.alloc _) ⟨W.heap.size, 0, none⟩ 1 1 [svl x.2] rfl rfl (cells1_new _ _ _) (by simp [Value.oneCell']) (by simp [maxLen]; omega) (by omega) (by have := hB1.size; simp; omega) ?_; intro v' w1 hown' hgrow _; obtain ⟨g', cap', rfl⟩ := ownsRow_succ hown'; obtain ⟨hv1, hv2, hr2, hk2, hb2⟩ := bO1.appended (by decide) bR1 hB1.size (by omega) hown' hgrow; have hc1 := hv1.cell; have hf1 := hv1.frozen)
    have hbk : ∀ v, Boxed W (w.heap.size + 1 + 1) 40 v → Boxed (w1.setCell ⟨w.heap.size + 1, 0, none⟩ (.slice (some ⟨g', 0, none⟩) (pre.length + 1) cap')) (w.heap.size + 1 + 1) 40 v := fun v b => ((b.alloc _).kept hgrow (b.not_row (by decide) bR1)).other (by omega) _
    exact ⟨hk2.from _, ⟨hb2, hbk⟩, ⟨⟨_, hv2, by simp only [List.map_append, List.length_append, ← cV_append]; exact hr2, trivial⟩, hbk _ bN1⟩, hB1.trans hb2⟩
  case done =>
    rintro D zs W hD rfl ⟨⟨⟨v, bO1, bR1, _⟩, bN1⟩, hB1⟩ hK
    have cO := bO1.cell
    gi_wp2
    refine ⟨by simp, .inl ⟨_, _, rfl, run_takeDeferred hK, ?_⟩⟩
    refine ⟨_, results_tmp rfl _ _ _, v, rfl, ?_, hB1.trans (belowK_b (w := w) (Nat.le_refl _) W D _ _ (by omega) hK rfl rfl)⟩
    have := ownsRow_putObj bR1 (.deferred none) hK rfl
    rwa [show (bwL len f len).length = len from upto_length _ _] at this
  case stop =>
    rintro D c pre W _ _ h _
    exact h.elim
theorem bwL_rev (l : List (List UInt8)) : (bwL l.length (fun j => l.getD j Cel.no) l.length).map (·.2) = l.reverse := by
  apply List.ext_getElem
  · simp [bwL, upto_length]
  · intro i h1 h2
    have hi : i < l.length := by simpa using h2
    have h3 : l.length - 1 - i < l.length := by omega
    simp [bwL, upto, List.getElem_reverse, List.getD_eq_getElem?_getD, h3]
theorem own_holds {W : World} {n₀ : Nat} {v : Value} {L : List (List UInt8)} {k : Nat} (hk : k = L.length) (h : W.ownsRow n₀ 9 1 v k (cV L)) : ∃ A c, v = .slice A k c ∧ HoldsG W.heap.size W (.slice A k c) k (fun j => L.getD j []) := by
  subst hk
  obtain ⟨h1, ⟨rfl, h0⟩ | ⟨g, cap, cur, rfl, h2, h3, h4, h5, h6, h7⟩⟩ := h
  · exact ⟨none, 0, by rw [h0], .inl ⟨none, 0, by rw [h0], h0⟩⟩
  · refine ⟨_, _, rfl, .inr ⟨g, 0, cap, rfl, (Array.getElem?_eq_some_iff.1 h3).1, fun j hj => ?_⟩⟩
    have e : (cV L)[j]? = some (svl (L.getD j [])) := by
      rw [cV_strs]; simp [List.getD_eq_getElem?_getD, hj]
    rw [← h7, List.getElem?_take, if_pos (by omega)] at e
    rw [Nat.zero_add]
    simp only [World.cell?, h3]
    simpa using e
theorem own_ro {W : World} {n₀ : Nat} {v : Value} {L : List (List UInt8)} {k : Nat} (hk : k = L.length) (h : W.ownsRow n₀ 9 1 v k (cV L)) : Rep0 W (roA L) v := by
  subst hk
  refine ⟨⟨cV_len L, cV_one L⟩, ?_⟩
  obtain ⟨h1, ⟨rfl, h0⟩ | ⟨g, cap, cur, rfl, h2, h3, h4, h5, h6, h7⟩⟩ := h
  · exact ⟨none, 0, by rw [h0], by omega, Nat.zero_le _, fun h => absurd h (by omega)⟩
  · refine ⟨_, cap, rfl, h4, h5, fun _ => ⟨g, 0, rfl, (Array.getElem?_eq_some_iff.1 h3).1, fun j x hx => ?_⟩⟩
    have e := hx
    have hj : j < L.length := by
      have := (List.getElem?_eq_some_iff.1 hx).1
      rw [cV_len] at this
      simpa [Cel.sz] using this
    rw [← h7, List.getElem?_take, if_pos (by omega)] at e
    rw [Nat.zero_add]
    simp only [World.cell?, h3]
    simpa using e
theorem k_backS (l : List (List UInt8)) (hl : l.length ≤ 2000000) : Kon Tryd.prog 25 [roA l] [] (slA 0 0 l.reverse) [sRow l.reverse] [] := by
  refine kon_row (Go.Proofs.enters_of Tryd.func25 (by kernel_rfl) rfl) rfl ?_
  intro w ok vs hg hok hsz hargs
  obtain ⟨z0, hz0, hr0⟩ := hargs 0 _ rfl
  have hv : vs = #[z0] := by
    obtain ⟨xs⟩ := vs
    match xs, hsz with
    | [y], _ => cases hz0; rfl
  subst hv
  obtain ⟨⟨hlen, hone⟩, A, c, rfl, hnc, hc2, hcells⟩ := hr0
  have hL : HoldsG w.heap.size w (.slice A l.length c) l.length (fun j => l.getD j Cel.no) := by
    rcases Nat.eq_zero_or_pos l.length with h0 | h0
    · exact .inl ⟨A, c, by rw [h0], h0⟩
    · obtain ⟨b, off, rfl, hb, hcell⟩ := hcells h0
      refine .inr ⟨b, off, c, rfl, hok b hb, fun j hj => ?_⟩
      have h2 := hcell _ _ (cV_cell (l := l) (j := j) (o := 0) hj (v := svl (l.getD j Cel.no)) rfl)
      rw [show j * Cel.sz (List UInt8) + 0 = j from Nat.mul_one j] at h2
      exact h2
  refine (callsIn_wide.1 (back_in Fence.wide 3 trivial trivial trivial rfl (Nat.le_refl _) A l.length c _ hl w hL)).mono ?_
  rintro en W' ⟨v, rfl, hown, hB⟩
  rw [bwL_rev] at hown
  exact ⟨v, rfl, by rw [List.length_reverse]; exact hown, hB⟩
end Go.Proofs.YtfoobfelgbcknaaDoor
