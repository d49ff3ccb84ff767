/- The walk of the law FnExactBenchNew. -/
import Derived.Test.YtchlhgfmoahdfaaBnA
namespace Go.Proofs.Ytchlhgfmoahdfaa
set_option linter.unusedVariables false
open Go.RowKit

set_option maxHeartbeats 4000000 in
theorem walkExactBenchNew (n x : Int) (w : World) :
    Calls Try.prog 3 #[.int .i64 n, .int .i64 x] w fun e w' => e = .returned (.bool true) ∧ Below w.heap.size w w' := by
  have hg := Lib.hid (benchNew_any n x)
  have hg2 := Lib.hid (specBenchNew_any n x)
  generalize (if okW n x = true then n else 0) = bL at hg hg2
  generalize (if okW n x = true then x else 0) = bX at hg hg2
  go_enter Try.func3, Try.ntmps3
  go_wp2_with fail
  refine (hg2.out _).mono ?_; rintro e w1 ⟨A0, n0, c0, rfl, hs0, hb1⟩
  obtain ⟨lo0, hi0, hs0, hlo0, hhi0⟩ : ∃ lo hi, SlG w1 lo hi A0 n0 c0 ([]) ∧ w.heap.size ≤ lo ∧ hi ≤ w1.heap.size := ⟨_, _, hs0, (by first | omega | (simp; done) | (simp; omega)), Nat.le_refl _⟩
  have hz1 := hb1.size
  go_wp2_with fail
  refine (hg.out _).mono ?_; rintro e w2 ⟨A1, n1, c1, rfl, hs1, hb2⟩
  obtain ⟨lo1, hi1, hs1, hlo1, hhi1⟩ : ∃ lo hi, SlG w2 lo hi A1 n1 c1 ([]) ∧ w1.heap.size + 1 ≤ lo ∧ hi ≤ w2.heap.size := ⟨_, _, hs1, (by first | omega | (simp; done) | (simp; omega)), Nat.le_refl _⟩
  (have v5 : Bk w2 (w1.heap.size) #[.int .i64 bL, .slice A0 n0 c0, .int .i64 bX, .int .i64 bX, .int .i64 0] := Bk.call (by repeat (first | (with_reducible refine Bk.new' _ _ _ _ ?_; focus (first | rfl | (simp; done))) | with_reducible apply Bk.set3 | with_reducible apply Bk.set4 | with_reducible apply Bk.set5 | with_reducible apply Bk.set6 | with_reducible apply Bk.set2 | with_reducible refine Bk.alloc ?_ _ | with_reducible refine Bk.drewN ?_ _ | with_reducible refine Bk.drew ?_ | (with_reducible refine Bk.far' ?_ ?_ _; (focus (first | omega | (simp; done) | (simp; omega)))))) hb2; have v5l := Bk.lt v5; have v5c := Bk.cell v5; have v5f := Bk.free v5)
  have hs0 := Sl.below (Sl.alloc hs0 _) hb2
  have hz2 := hb2.size
  simp only [World.size_alloc] at hz2
  have hB2 : Below w.heap.size w w2 := (by repeat (first | with_reducible exact Below.refl _ _ | (with_reducible assumption) | (with_reducible refine bel_alloc ?_ ?_ _; (focus (first | omega | (simp; done) | (simp; omega)))) | (with_reducible refine bel_setCell ?_ ?_ _; (focus (first | omega | (simp; done) | (simp; omega)))) | with_reducible refine bel_drewN ?_ _ | with_reducible refine Below.drew ?_ | (with_reducible apply bel_join; (with_reducible assumption); (focus (first | omega | (simp; done) | (simp; omega))))))
  clear hb1 hb2
  have hn1 : n1 ≤ 0 := Nat.le_of_eq (slG_len hs1).symm

  go_wp2_with fail
  refine (eqBench_same bL A1 n1 c1 [] bX bX 0 lo1 hi1 A0 n0 c0 lo0 hi0 _ (by repeat (first | with_reducible exact hs1 | with_reducible refine Sl.alloc ?_ _ | (with_reducible refine Sl.setCell' ?_ ?_ _; (focus (first | omega | (simp; done) | (simp; omega)))) | with_reducible refine Sl.drewN ?_ _ | with_reducible refine Sl.drew ?_ | (with_reducible apply Sl.below; rotate_left; (with_reducible assumption)))) (by repeat (first | with_reducible exact hs0 | with_reducible refine Sl.alloc ?_ _ | (with_reducible refine Sl.setCell' ?_ ?_ _; (focus (first | omega | (simp; done) | (simp; omega)))) | with_reducible refine Sl.drewN ?_ _ | with_reducible refine Sl.drew ?_ | (with_reducible apply Sl.below; rotate_left; (with_reducible assumption))))).mono ?_; rintro e w3 ⟨rfl, hb3⟩
  (have nv5 : Bk w3 (w1.heap.size) #[.int .i64 bL, .slice A0 n0 c0, .int .i64 bX, .int .i64 bX, .int .i64 0] := Bk.call (by repeat (first | with_reducible exact v5 | (with_reducible refine Bk.new' _ _ _ _ ?_; focus (first | rfl | (simp; done))) | with_reducible apply Bk.set3 | with_reducible apply Bk.set4 | with_reducible apply Bk.set5 | with_reducible apply Bk.set6 | with_reducible apply Bk.set2 | with_reducible refine Bk.alloc ?_ _ | with_reducible refine Bk.drewN ?_ _ | with_reducible refine Bk.drew ?_ | (with_reducible refine Bk.far' ?_ ?_ _; (focus (first | omega | (simp; done) | (simp; omega)))))) hb3; clear v5l v5c v5f v5; have v5 := nv5; clear nv5; have v5l := Bk.lt v5; have v5c := Bk.cell v5; have v5f := Bk.free v5)
  (have v6 : Bk w3 (w2.heap.size) #[.int .i64 bL, .slice A1 n1 c1, .int .i64 bX, .int .i64 bX, .int .i64 0] := Bk.call (by repeat (first | (with_reducible refine Bk.new' _ _ _ _ ?_; focus (first | rfl | (simp; done))) | with_reducible apply Bk.set3 | with_reducible apply Bk.set4 | with_reducible apply Bk.set5 | with_reducible apply Bk.set6 | with_reducible apply Bk.set2 | with_reducible refine Bk.alloc ?_ _ | with_reducible refine Bk.drewN ?_ _ | with_reducible refine Bk.drew ?_ | (with_reducible refine Bk.far' ?_ ?_ _; (focus (first | omega | (simp; done) | (simp; omega)))))) hb3; have v6l := Bk.lt v6; have v6c := Bk.cell v6; have v6f := Bk.free v6)
  have hs0 := Sl.below (Sl.alloc hs0 _) hb3
  have hs1 := Sl.below (Sl.alloc hs1 _) hb3
  have hz3 := hb3.size
  simp only [World.size_alloc] at hz3
  have hB3 : Below w.heap.size w w3 := (by repeat (first | with_reducible exact Below.refl _ _ | (with_reducible assumption) | (with_reducible refine bel_alloc ?_ ?_ _; (focus (first | omega | (simp; done) | (simp; omega)))) | (with_reducible refine bel_setCell ?_ ?_ _; (focus (first | omega | (simp; done) | (simp; omega)))) | with_reducible refine bel_drewN ?_ _ | with_reducible refine Below.drew ?_ | (with_reducible apply bel_join; (with_reducible assumption); (focus (first | omega | (simp; done) | (simp; omega))))))
  clear hb3
  go_wp2_with fail
  refine (markBench_any bL A1 n1 c1 [] bX bX 0 lo1 hi1 1 _ hs1 (by omega) (by omega) (by omega)).mono ?_; rintro e w4 ⟨rfl, hs1, hb4⟩
  (have nv5 : Bk w4 (w1.heap.size) #[.int .i64 bL, .slice A0 n0 c0, .int .i64 bX, .int .i64 bX, .int .i64 0] := Bk.but (by repeat (first | with_reducible exact v5 | (with_reducible refine Bk.new' _ _ _ _ ?_; focus (first | rfl | (simp; done))) | with_reducible apply Bk.set3 | with_reducible apply Bk.set4 | with_reducible apply Bk.set5 | with_reducible apply Bk.set6 | with_reducible apply Bk.set2 | with_reducible refine Bk.alloc ?_ _ | with_reducible refine Bk.drewN ?_ _ | with_reducible refine Bk.drew ?_ | (with_reducible refine Bk.far' ?_ ?_ _; (focus (first | omega | (simp; done) | (simp; omega)))))) hb4 (by first | omega | (simp; omega)); clear v5l v5c v5f v5; have v5 := nv5; clear nv5; have v5l := Bk.lt v5; have v5c := Bk.cell v5; have v5f := Bk.free v5)
  (have nv6 : Bk w4 (w2.heap.size) #[.int .i64 bL, .slice A1 n1 c1, .int .i64 bX, .int .i64 bX, .int .i64 0] := Bk.but (by repeat (first | with_reducible exact v6 | (with_reducible refine Bk.new' _ _ _ _ ?_; focus (first | rfl | (simp; done))) | with_reducible apply Bk.set3 | with_reducible apply Bk.set4 | with_reducible apply Bk.set5 | with_reducible apply Bk.set6 | with_reducible apply Bk.set2 | with_reducible refine Bk.alloc ?_ _ | with_reducible refine Bk.drewN ?_ _ | with_reducible refine Bk.drew ?_ | (with_reducible refine Bk.far' ?_ ?_ _; (focus (first | omega | (simp; done) | (simp; omega)))))) hb4 (by first | omega | (simp; omega)); clear v6l v6c v6f v6; have v6 := nv6; clear nv6; have v6l := Bk.lt v6; have v6c := Bk.cell v6; have v6f := Bk.free v6)
  have hs0 := Sl.but hs0 hb4 (by omega)
  have hz4 := hb4.size
  have hB4 : Below w.heap.size w w4 := Below.but hB3 hb4 (by omega) (by omega)
  clear hb4
  go_wp2_with fail
  refine (heldBench_any bL A1 n1 c1 bX bX 0 lo1 hi1 1 _ hs1 (by omega) (by omega) (by omega)).mono ?_; rintro e w5 ⟨rfl, hb5⟩
  (have nv5 : Bk w5 (w1.heap.size) #[.int .i64 bL, .slice A0 n0 c0, .int .i64 bX, .int .i64 bX, .int .i64 0] := Bk.call (by repeat (first | with_reducible exact v5 | (with_reducible refine Bk.new' _ _ _ _ ?_; focus (first | rfl | (simp; done))) | with_reducible apply Bk.set3 | with_reducible apply Bk.set4 | with_reducible apply Bk.set5 | with_reducible apply Bk.set6 | with_reducible apply Bk.set2 | with_reducible refine Bk.alloc ?_ _ | with_reducible refine Bk.drewN ?_ _ | with_reducible refine Bk.drew ?_ | (with_reducible refine Bk.far' ?_ ?_ _; (focus (first | omega | (simp; done) | (simp; omega)))))) hb5; clear v5l v5c v5f v5; have v5 := nv5; clear nv5; have v5l := Bk.lt v5; have v5c := Bk.cell v5; have v5f := Bk.free v5)
  (have nv6 : Bk w5 (w2.heap.size) #[.int .i64 bL, .slice A1 n1 c1, .int .i64 bX, .int .i64 bX, .int .i64 0] := Bk.call (by repeat (first | with_reducible exact v6 | (with_reducible refine Bk.new' _ _ _ _ ?_; focus (first | rfl | (simp; done))) | with_reducible apply Bk.set3 | with_reducible apply Bk.set4 | with_reducible apply Bk.set5 | with_reducible apply Bk.set6 | with_reducible apply Bk.set2 | with_reducible refine Bk.alloc ?_ _ | with_reducible refine Bk.drewN ?_ _ | with_reducible refine Bk.drew ?_ | (with_reducible refine Bk.far' ?_ ?_ _; (focus (first | omega | (simp; done) | (simp; omega)))))) hb5; clear v6l v6c v6f v6; have v6 := nv6; clear nv6; have v6l := Bk.lt v6; have v6c := Bk.cell v6; have v6f := Bk.free v6)
  have hs0 := Sl.below hs0 hb5
  have hs1 := Sl.below hs1 hb5
  have hz5 := hb5.size
  have hB5 : Below w.heap.size w w5 := (by repeat (first | with_reducible exact Below.refl _ _ | (with_reducible assumption) | (with_reducible refine bel_alloc ?_ ?_ _; (focus (first | omega | (simp; done) | (simp; omega)))) | (with_reducible refine bel_setCell ?_ ?_ _; (focus (first | omega | (simp; done) | (simp; omega)))) | with_reducible refine bel_drewN ?_ _ | with_reducible refine Below.drew ?_ | (with_reducible apply bel_join; (with_reducible assumption); (focus (first | omega | (simp; done) | (simp; omega))))))
  clear hb5
  go_wp2_with fail
  refine (hg.out _).mono ?_; rintro e w6 ⟨A6, n6, c6, rfl, hs6, hb6⟩
  obtain ⟨lo6, hi6, hs6, hlo6, hhi6⟩ : ∃ lo hi, SlG w6 lo hi A6 n6 c6 ([]) ∧ w5.heap.size ≤ lo ∧ hi ≤ w6.heap.size := ⟨_, _, hs6, (by first | omega | (simp; done) | (simp; omega)), Nat.le_refl _⟩
  (have nv5 : Bk w6 (w1.heap.size) #[.int .i64 bL, .slice A0 n0 c0, .int .i64 bX, .int .i64 bX, .int .i64 0] := Bk.call (by repeat (first | with_reducible exact v5 | (with_reducible refine Bk.new' _ _ _ _ ?_; focus (first | rfl | (simp; done))) | with_reducible apply Bk.set3 | with_reducible apply Bk.set4 | with_reducible apply Bk.set5 | with_reducible apply Bk.set6 | with_reducible apply Bk.set2 | with_reducible refine Bk.alloc ?_ _ | with_reducible refine Bk.drewN ?_ _ | with_reducible refine Bk.drew ?_ | (with_reducible refine Bk.far' ?_ ?_ _; (focus (first | omega | (simp; done) | (simp; omega)))))) hb6; clear v5l v5c v5f v5; have v5 := nv5; clear nv5; have v5l := Bk.lt v5; have v5c := Bk.cell v5; have v5f := Bk.free v5)
  (have nv6 : Bk w6 (w2.heap.size) #[.int .i64 bL, .slice A1 n1 c1, .int .i64 bX, .int .i64 bX, .int .i64 0] := Bk.call (by repeat (first | with_reducible exact v6 | (with_reducible refine Bk.new' _ _ _ _ ?_; focus (first | rfl | (simp; done))) | with_reducible apply Bk.set3 | with_reducible apply Bk.set4 | with_reducible apply Bk.set5 | with_reducible apply Bk.set6 | with_reducible apply Bk.set2 | with_reducible refine Bk.alloc ?_ _ | with_reducible refine Bk.drewN ?_ _ | with_reducible refine Bk.drew ?_ | (with_reducible refine Bk.far' ?_ ?_ _; (focus (first | omega | (simp; done) | (simp; omega)))))) hb6; clear v6l v6c v6f v6; have v6 := nv6; clear nv6; have v6l := Bk.lt v6; have v6c := Bk.cell v6; have v6f := Bk.free v6)
  have hs0 := Sl.below hs0 hb6
  have hs1 := Sl.below hs1 hb6
  have hz6 := hb6.size
  have hB6 : Below w.heap.size w w6 := (by repeat (first | with_reducible exact Below.refl _ _ | (with_reducible assumption) | (with_reducible refine bel_alloc ?_ ?_ _; (focus (first | omega | (simp; done) | (simp; omega)))) | (with_reducible refine bel_setCell ?_ ?_ _; (focus (first | omega | (simp; done) | (simp; omega)))) | with_reducible refine bel_drewN ?_ _ | with_reducible refine Below.drew ?_ | (with_reducible apply bel_join; (with_reducible assumption); (focus (first | omega | (simp; done) | (simp; omega))))))
  clear hb6
  go_wp2_with fail
  refine (eqBench_same bL A6 n6 c6 [] bX bX 0 lo6 hi6 A0 n0 c0 lo0 hi0 _ (by repeat (first | with_reducible exact hs6 | with_reducible refine Sl.alloc ?_ _ | (with_reducible refine Sl.setCell' ?_ ?_ _; (focus (first | omega | (simp; done) | (simp; omega)))) | with_reducible refine Sl.drewN ?_ _ | with_reducible refine Sl.drew ?_ | (with_reducible apply Sl.below; rotate_left; (with_reducible assumption)))) (by repeat (first | with_reducible exact hs0 | with_reducible refine Sl.alloc ?_ _ | (with_reducible refine Sl.setCell' ?_ ?_ _; (focus (first | omega | (simp; done) | (simp; omega)))) | with_reducible refine Sl.drewN ?_ _ | with_reducible refine Sl.drew ?_ | (with_reducible apply Sl.below; rotate_left; (with_reducible assumption))))).mono ?_; rintro e w7 ⟨rfl, hb7⟩
  (have nv6 : Bk w7 (w2.heap.size) #[.int .i64 bL, .slice A1 n1 c1, .int .i64 bX, .int .i64 bX, .int .i64 0] := Bk.call (by repeat (first | with_reducible exact v6 | (with_reducible refine Bk.new' _ _ _ _ ?_; focus (first | rfl | (simp; done))) | with_reducible apply Bk.set3 | with_reducible apply Bk.set4 | with_reducible apply Bk.set5 | with_reducible apply Bk.set6 | with_reducible apply Bk.set2 | with_reducible refine Bk.alloc ?_ _ | with_reducible refine Bk.drewN ?_ _ | with_reducible refine Bk.drew ?_ | (with_reducible refine Bk.far' ?_ ?_ _; (focus (first | omega | (simp; done) | (simp; omega)))))) hb7; clear v6l v6c v6f v6; have v6 := nv6; clear nv6; have v6l := Bk.lt v6; have v6c := Bk.cell v6; have v6f := Bk.free v6)
  have hs1 : SlG w7 lo1 hi1 A1 n1 c1 _ := (by repeat (first | with_reducible exact hs1 | with_reducible refine Sl.alloc ?_ _ | (with_reducible refine Sl.setCell' ?_ ?_ _; (focus (first | omega | (simp; done) | (simp; omega)))) | with_reducible refine Sl.drewN ?_ _ | with_reducible refine Sl.drew ?_ | (with_reducible apply Sl.below; rotate_left; (with_reducible assumption))))
  have hz7 := hb7.size
  simp only [World.size_alloc] at hz7
  have hB7 : Below w.heap.size w w7 := (by repeat (first | with_reducible exact Below.refl _ _ | (with_reducible assumption) | (with_reducible refine bel_alloc ?_ ?_ _; (focus (first | omega | (simp; done) | (simp; omega)))) | (with_reducible refine bel_setCell ?_ ?_ _; (focus (first | omega | (simp; done) | (simp; omega)))) | with_reducible refine bel_drewN ?_ _ | with_reducible refine Below.drew ?_ | (with_reducible apply bel_join; (with_reducible assumption); (focus (first | omega | (simp; done) | (simp; omega))))))
  clear hb7
  go_wp2_with fail
  refine (heldBench_any bL A1 n1 c1 bX bX 0 lo1 hi1 1 _ hs1 (by omega) (by omega) (by omega)).mono ?_; rintro e w8 ⟨rfl, hb8⟩
  have hB8 : Below w.heap.size w w8 := (by repeat (first | with_reducible exact Below.refl _ _ | (with_reducible assumption) | (with_reducible refine bel_alloc ?_ ?_ _; (focus (first | omega | (simp; done) | (simp; omega)))) | (with_reducible refine bel_setCell ?_ ?_ _; (focus (first | omega | (simp; done) | (simp; omega)))) | with_reducible refine bel_drewN ?_ _ | with_reducible refine Below.drew ?_ | (with_reducible apply bel_join; (with_reducible assumption); (focus (first | omega | (simp; done) | (simp; omega))))))
  go_wp2
  go_ret
  exact ⟨rfl, hB8⟩
end Go.Proofs.Ytchlhgfmoahdfaa
