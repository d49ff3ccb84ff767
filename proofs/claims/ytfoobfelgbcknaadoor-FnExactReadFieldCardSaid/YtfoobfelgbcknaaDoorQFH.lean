/- FTC: laid into one text. -/
import Derived.Test.YtfoobfelgbcknaaDoorQFG
import Derived.RegionIn

namespace Go.Proofs.YtfoobfelgbcknaaDoor
set_option linter.unusedVariables false
set_option linter.unusedSimpArgs false
open Go.RowKit Go.Shelf
attribute [local go_sem] Oper.semAt_some
def KC (n₀ B1 B2 : Nat) (W W' : World) : Prop := Below n₀ W W' ∧ (∀ v, Boxed W B1 23 v → Boxed W' B1 23 v) ∧ (∀ v, Boxed W B2 3 v → Boxed W' B2 3 v)
theorem KC.refl (n₀ B1 B2 : Nat) (W : World) : KC n₀ B1 B2 W W := ⟨Below.refl _ _, fun _ h => h, fun _ h => h⟩
theorem KC.trans {n₀ B1 B2 : Nat} {A B C : World} (h : KC n₀ B1 B2 A B) (k : KC n₀ B1 B2 B C) : KC n₀ B1 B2 A C := ⟨h.1.trans k.1, fun v b => k.2.1 v (h.2.1 v b), fun v b => k.2.2 v (h.2.2 v b)⟩
theorem KC_b {n₀ B1 B2 : Nat} {w : World} (hn : n₀ ≤ w.heap.size) (W : World) (l : Nat) (o o' : Obj) (hl : w.heap.size ≤ l) (h : W.heap[l]? = some o) (ho : o.isCells = false) (hw : o.isWalk = false) : KC n₀ B1 B2 W (W.putObj l o') :=
  ⟨belowK_b hn W l o o' hl h ho hw, fun v b => b.kept (grownBy_putObj' W l o') (fun e => by cases e; rw [show W.heap[B1]? = _ from b] at h; cases h; cases ho), fun v b => b.kept (grownBy_putObj' W l o') (fun e => by cases e; rw [show W.heap[B2]? = _ from b] at h; cases h; cases ho)⟩
def fr (m : Nat) : (k : Nat) → k ≤ m → List (Fin m)
  | 0, _ => []
  | k + 1, h => fr m k (Nat.le_of_succ_le h) ++ [⟨k, h⟩]
theorem fr_len (m : Nat) : ∀ (k : Nat) (h : k ≤ m), (fr m k h).length = k
  | 0, _ => rfl
  | k + 1, h => by rw [fr, List.length_append, fr_len m k]; rfl
theorem fr_map {α : Type} (f : Nat → α) (m : Nat) : ∀ (k : Nat) (h : k ≤ m), (fr m k h).map (fun x => f x.val) = (List.range k).map f
  | 0, _ => rfl
  | k + 1, h => by rw [fr, List.map_append, fr_map f m k, List.range_succ, List.map_append]; rfl
abbrev chV (b off s x : Nat) : Value := .slice (some ⟨b, off + x * s, none⟩) s s
set_option maxRecDepth 100000 in
set_option maxHeartbeats 4000000 in
theorem ck1_in (F : Fence) (n : Nat) (h7 : F.fn 41) (hro : F.round = none) (hn : 1 ≤ n) (l B1 B2 n₀ b off m s N cap : Nat) (hs : 0 < s ∧ s ≤ 8) (hN : m * s = N) (hN2 : N ≤ 64) (hcap : N ≤ cap ∧ cap ≤ maxLen) (J Jx : List (Fin m) → World → Prop) (hJ : ∀ ys V, J ys V → J ys V.drew)
    (hY : ∀ pre x W, J pre W → pre.length < m → YieldAt F (n - 1) Tryd.prog l #[chV b off s x.val] W fun e W' =>
      (e = .returned (.bool true) ∧ J (pre ++ [x]) W' ∧ KC n₀ B1 B2 W W') ∨ (e = .returned (.bool false) ∧ Jx (pre ++ [x]) W'))
    (W : World) (hB1 : Boxed W B1 23 (.slice (some ⟨b, off, none⟩) N cap)) (hB2 : Boxed W B2 3 (.int .i64 s)) (h0 : J [] W) :
    CallsIn F n Tryd.prog 41 #[.func (.yield l) #[] #[], .pointer (some ⟨B1, 0, none⟩), .pointer (some ⟨B2, 0, none⟩)] W fun e W' => (∃ v, e = .returned v) ∧
      ((∃ ys, ys = fr m m (Nat.le_refl _) ∧ J ys W') ∨ (∃ pre, (∃ k, ∃ h : k ≤ m, pre = fr m k h) ∧ Jx pre W')) := by
  refine callsIn_of_wp Tryd.func41 rfl h7 ?_ hro
  simp only [Tryd.ntmps41, List.size_toArray, List.length_cons, List.length_nil, Nat.reduceAdd, Nat.reduceSub, Array.replicate_succ, Array.replicate_zero, List.push_toArray, List.append_toArray, List.nil_append, List.cons_append]
  gi_wp2
  gi_loopw [4] (fun i wr => ∃ k j : Nat, ∃ hk : k ≤ m, k * s = j ∧ i = .int .i64 (j : Int) ∧ J (fr m k hk) wr ∧ KC n₀ B1 B2 W wr)
    (fun i _ => N - (intOf i).toNat)
  case atStart => exact ⟨0, 0, Nat.zero_le _, by simp, rfl, h0, KC.refl _ _ _ _⟩
  case round =>
    obtain ⟨k, j, hk, hj, rfl, hJs, hnx⟩ := hrel
    have hc1 := (hnx.2.1 _ hB1).cell
    have hc2 := (hnx.2.2 _ hB2).cell
    by_cases hlt : k < m
    · have hstep : j + s ≤ N := by
        have := Nat.mul_le_mul_right s (show k + 1 ≤ m by omega)
        rw [Nat.add_mul, Nat.one_mul] at this
        omega
      have hnd : KC n₀ B1 B2 W wr.drew := hnx.trans ⟨(Below.refl _ _).drew, fun _ h => h, fun _ h => h⟩
      obtain ⟨fn, tmps, assign, body, hy, hR⟩ := hY _ ⟨k, hlt⟩ wr.drew (hJ _ _ hJs) (by rw [fr_len]; exact hlt)
      dsimp only [chV] at hy
      rw [hj] at hy
      have hmin : min (s : Int) ((N - j : Nat) : Int) = (s : Int) := by omega
      gi_wp2
      gi_region
      all_goals gi_wp2
      all_goals refine hR.mono ?_
      all_goals rintro e W3 (⟨rfl, hJ3, hk3⟩ | ⟨rfl, hJx3⟩)
      all_goals first
        | (have hc3 := (hk3.2.2 _ (hnd.2.2 _ hB2)).cell
           gi_wp2
           go_roundw
           case rel => exact ⟨k + 1, j + s, hlt, by rw [Nat.add_mul, Nat.one_mul, hj], by simp, hJ3, hnd.trans hk3⟩
           case measure => simp [intOf]; omega)
        | (gi_wp2
           refine bodyPost_ret (results_none rfl _ _ _) rfl ?_
           exact ⟨⟨_, rfl⟩, .inr ⟨_, ⟨k + 1, hlt, rfl⟩, hJx3⟩⟩)
    · obtain rfl : k = m := by omega
      obtain rfl : j = N := by omega
      gi_wp2
      go_end0
      exact ⟨⟨_, rfl⟩, .inl ⟨_, rfl, hJs⟩⟩
end Go.Proofs.YtfoobfelgbcknaaDoor
