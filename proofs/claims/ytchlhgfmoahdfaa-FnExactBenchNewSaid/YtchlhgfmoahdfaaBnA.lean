/- Benches: equality, marks, BenchNew; the walk of FnExactBenchNew. -/
import Derived.Test.YtchlhgfmoahdfaaGatA
namespace Go.Proofs.Ytchlhgfmoahdfaa
set_option linter.unusedVariables false
open Go.RowKit

/-- Two benches are equal. -/
def eqBn (a : Int) (gs : List G4) (b c d : Int) (a2 : Int) (gs2 : List G4) (b2 c2 d2 : Int) : Bool := decide (a = a2) && eqGs gs gs2 && decide (b = b2) && decide (c = c2) && decide (d = d2)
theorem eqBn_refl (a : Int) (gs : List G4) (b c d : Int) : eqBn a gs b c d a gs b c d = true := by simp [eqBn, eqGs]
/-- A bench, its gates in memory of its own. -/
def RetBn (w : World) (ln : Int) (gs : List G4) (fi wo at' : Int) (e : Ending) (w' : World) : Prop :=
  ∃ A n c, e = .returned (.agg #[.int .i64 ln, .slice A n c, .int .i64 fi, .int .i64 wo, .int .i64 at']) ∧ SlG w' w.heap.size w'.heap.size A n c gs ∧ Below w.heap.size w w'


set_option maxHeartbeats 800000 in
/-- Equal benches are equal. -/
theorem eqBench_same (a : Int) (A : Option Addr) (n c : Nat) (gs : List G4) (fi wo ix : Int) (lo hi : Nat) (A2 : Option Addr) (n2 c2 : Nat) (lo2 hi2 : Nat) (w : World) (hS : SlG w lo hi A n c gs) (hS2 : SlG w lo2 hi2 A2 n2 c2 gs) :
    Calls Try.prog 7 #[.agg #[.int .i64 a, .slice A n c, .int .i64 fi, .int .i64 wo, .int .i64 ix], .agg #[.int .i64 a, .slice A2 n2 c2, .int .i64 fi, .int .i64 wo, .int .i64 ix]] w fun e w' => e = .returned (.bool true) ∧ Below w.heap.size w w' := by
  have e1 : eqGs gs gs = true := by simp [eqGs]
  go_enter Try.func7, Try.ntmps7
  go_wp2_with fail
  refine (eqGateS_any A n c gs lo hi A2 n2 c2 gs lo2 hi2 _ (by repeat (first | with_reducible exact hS | with_reducible refine Sl.alloc ?_ _ | (with_reducible refine Sl.setCell' ?_ ?_ _; (focus (first | omega | (simp; done) | (simp; omega)))) | with_reducible refine Sl.drewN ?_ _ | with_reducible refine Sl.drew ?_ | (with_reducible apply Sl.below; rotate_left; (with_reducible assumption)))) (by repeat (first | with_reducible exact hS2 | with_reducible refine Sl.alloc ?_ _ | (with_reducible refine Sl.setCell' ?_ ?_ _; (focus (first | omega | (simp; done) | (simp; omega)))) | with_reducible refine Sl.drewN ?_ _ | with_reducible refine Sl.drew ?_ | (with_reducible apply Sl.below; rotate_left; (with_reducible assumption))))).mono ?_; rintro e w1 ⟨rfl, hb1⟩
  rw [e1]
  clear e1
  obtain ⟨hc1, hf1⟩ := bcell hb1
  go_wp2
  go_ret
  exact ⟨rfl, (by repeat (first | with_reducible exact Below.refl _ _ | (with_reducible assumption) | (with_reducible refine bel_alloc ?_ ?_ _; (focus (first | omega | (simp; done) | (simp; omega)))) | (with_reducible refine bel_setCell ?_ ?_ _; (focus (first | omega | (simp; done) | (simp; omega)))) | with_reducible refine bel_drewN ?_ _ | with_reducible refine Below.drew ?_ | (with_reducible apply bel_join; (with_reducible assumption); (focus (first | omega | (simp; done) | (simp; omega))))))⟩


set_option maxHeartbeats 800000 in
theorem markBench_any (a : Int) (A : Option Addr) (n c : Nat) (gs : List G4) (fi wo ix : Int) (lo hi : Nat) (k : Int) (w : World) (hS : SlG w lo hi A n c gs) (hn : n ≤ 1048576) (h0 : 0 ≤ k) (h1 : k ≤ 8388608) :
    Calls Try.prog 8 #[.agg #[.int .i64 a, .slice A n c, .int .i64 fi, .int .i64 wo, .int .i64 ix], .int .i64 k] w fun e w' => e = .returned (.int .i64 (k + 4 * n)) ∧ SlG w' lo hi A n c (mkG k n) ∧ But lo hi w w' := by
  go_enter Try.func8, Try.ntmps8
  go_wp2_with fail
  refine (markGateS_any A n c gs lo hi k _ (by repeat (first | with_reducible exact hS | with_reducible refine Sl.alloc ?_ _ | (with_reducible refine Sl.setCell' ?_ ?_ _; (focus (first | omega | (simp; done) | (simp; omega)))) | with_reducible refine Sl.drewN ?_ _ | with_reducible refine Sl.drew ?_ | (with_reducible apply Sl.below; rotate_left; (with_reducible assumption)))) hn h0 h1).mono ?_; rintro e w1 ⟨rfl, hs1, hb1⟩
  go_wp2
  go_ret
  exact ⟨rfl, hs1, ((But.refl _ _ _).alloc _).trans hb1⟩


set_option maxHeartbeats 800000 in
theorem heldBench_any (a : Int) (A : Option Addr) (n c : Nat) (fi wo ix : Int) (lo hi : Nat) (k : Int) (w : World) (hS : SlG w lo hi A n c (mkG k n)) (hn : n ≤ 1048576) (h0 : 0 ≤ k) (h1 : k ≤ 8388608) :
    Calls Try.prog 9 #[.agg #[.int .i64 a, .slice A n c, .int .i64 fi, .int .i64 wo, .int .i64 ix], .int .i64 k] w fun e w' => e = .returned (.int .i64 (k + 4 * n)) ∧ Below w.heap.size w w' := by
  go_enter Try.func9, Try.ntmps9
  go_wp2_with fail
  refine (heldGateS_any A n c lo hi k _ (by repeat (first | with_reducible exact hS | with_reducible refine Sl.alloc ?_ _ | (with_reducible refine Sl.setCell' ?_ ?_ _; (focus (first | omega | (simp; done) | (simp; omega)))) | with_reducible refine Sl.drewN ?_ _ | with_reducible refine Sl.drew ?_ | (with_reducible apply Sl.below; rotate_left; (with_reducible assumption)))) hn h0 h1).mono ?_; rintro e w1 ⟨rfl, rfl⟩
  go_wp2
  go_ret
  exact ⟨rfl, (by repeat (first | with_reducible exact Below.refl _ _ | (with_reducible assumption) | (with_reducible refine bel_alloc ?_ ?_ _; (focus (first | omega | (simp; done) | (simp; omega)))) | (with_reducible refine bel_setCell ?_ ?_ _; (focus (first | omega | (simp; done) | (simp; omega)))) | with_reducible refine bel_drewN ?_ _ | with_reducible refine Below.drew ?_ | (with_reducible apply bel_join; (with_reducible assumption); (focus (first | omega | (simp; done) | (simp; omega))))))⟩


set_option maxHeartbeats 800000 in
theorem benchNew_any (n x : Int) (w : World) :
    Calls Try.prog 6 #[.int .i64 n, .int .i64 x] w (RetBn w (if okW n x = true then n else 0) [] (if okW n x = true then x else 0) (if okW n x = true then x else 0) 0) := by
  by_cases h : okW n x = true
  · have e1 : (if okW n x = true then n else 0) = n := by simp [h]
    have e2 : (if okW n x = true then x else 0) = x := by simp [h]
    rw [e1, e2]
    clear e1 e2
    go_enter Try.func6, Try.ntmps6
    go_wp2_with fail
    refine (wordValid_any _ _ _).mono ?_; rintro e w' ⟨rfl, rfl⟩
    go_wp2
    refine ret_bk #[.int .i64 n, .slice none 0 0, .int .i64 x, .int .i64 x, .int .i64 0] w.heap.size _ rfl (by rfl) Try.underlying24 rfl (by kernel_rfl) rfl (by repeat (first | with_reducible exact x | (with_reducible refine Bk.new' _ _ _ _ ?_; focus (first | rfl | (simp; done))) | with_reducible apply Bk.set3 | with_reducible apply Bk.set4 | with_reducible apply Bk.set5 | with_reducible apply Bk.set6 | with_reducible apply Bk.set2 | with_reducible refine Bk.alloc ?_ _ | with_reducible refine Bk.drewN ?_ _ | with_reducible refine Bk.drew ?_ | (with_reducible refine Bk.far' ?_ ?_ _; (focus (first | omega | (simp; done) | (simp; omega)))))) ⟨none, 0, 0, rfl, Sl.nil _ _ _ _ _ (by omega) (Nat.le_refl _), (by repeat (first | with_reducible exact Below.refl _ _ | (with_reducible assumption) | (with_reducible refine bel_alloc ?_ ?_ _; (focus (first | omega | (simp; done) | (simp; omega)))) | (with_reducible refine bel_setCell ?_ ?_ _; (focus (first | omega | (simp; done) | (simp; omega)))) | with_reducible refine bel_drewN ?_ _ | with_reducible refine Below.drew ?_ | (with_reducible apply bel_join; (with_reducible assumption); (focus (first | omega | (simp; done) | (simp; omega))))))⟩
  · have h : okW n x = false := by simpa using h
    have e1 : (if okW n x = true then n else 0) = 0 := by simp [h]
    have e2 : (if okW n x = true then x else 0) = 0 := by simp [h]
    rw [e1, e2]
    clear e1 e2
    go_enter Try.func6, Try.ntmps6
    go_wp2_with fail
    refine (wordValid_any _ _ _).mono ?_; rintro e w' ⟨rfl, rfl⟩
    go_wp2
    refine ret_bk #[.int .i64 0, .slice none 0 0, .int .i64 0, .int .i64 0, .int .i64 0] w.heap.size _ rfl (by rfl) Try.underlying24 rfl (by kernel_rfl) rfl (by repeat (first | with_reducible exact x | (with_reducible refine Bk.new' _ _ _ _ ?_; focus (first | rfl | (simp; done))) | with_reducible apply Bk.set3 | with_reducible apply Bk.set4 | with_reducible apply Bk.set5 | with_reducible apply Bk.set6 | with_reducible apply Bk.set2 | with_reducible refine Bk.alloc ?_ _ | with_reducible refine Bk.drewN ?_ _ | with_reducible refine Bk.drew ?_ | (with_reducible refine Bk.far' ?_ ?_ _; (focus (first | omega | (simp; done) | (simp; omega)))))) ⟨none, 0, 0, rfl, Sl.nil _ _ _ _ _ (by omega) (Nat.le_refl _), (by repeat (first | with_reducible exact Below.refl _ _ | (with_reducible assumption) | (with_reducible refine bel_alloc ?_ ?_ _; (focus (first | omega | (simp; done) | (simp; omega)))) | (with_reducible refine bel_setCell ?_ ?_ _; (focus (first | omega | (simp; done) | (simp; omega)))) | with_reducible refine bel_drewN ?_ _ | with_reducible refine Below.drew ?_ | (with_reducible apply bel_join; (with_reducible assumption); (focus (first | omega | (simp; done) | (simp; omega))))))⟩


set_option maxHeartbeats 800000 in
theorem specBenchNew_any (n x : Int) (w : World) :
    Calls Try.prog 5 #[.int .i64 n, .int .i64 x] w (RetBn w (if okW n x = true then n else 0) [] (if okW n x = true then x else 0) (if okW n x = true then x else 0) 0) := by
  by_cases h : okW n x = true
  · have e1 : (if okW n x = true then n else 0) = n := by simp [h]
    have e2 : (if okW n x = true then x else 0) = x := by simp [h]
    rw [e1, e2]
    clear e1 e2
    go_enter Try.func5, Try.ntmps5
    go_wp2_with fail
    refine (specWordValid_any _ _ _).mono ?_; rintro e w' ⟨rfl, rfl⟩
    go_wp2
    refine ret_bk #[.int .i64 n, .slice (some ⟨w.heap.size + 1, 0, none⟩) 0 0, .int .i64 x, .int .i64 x, .int .i64 0] w.heap.size _ rfl (by rfl) Try.underlying24 rfl (by kernel_rfl) rfl (by repeat (first | with_reducible exact x | (with_reducible refine Bk.new' _ _ _ _ ?_; focus (first | rfl | (simp; done))) | with_reducible apply Bk.set3 | with_reducible apply Bk.set4 | with_reducible apply Bk.set5 | with_reducible apply Bk.set6 | with_reducible apply Bk.set2 | with_reducible refine Bk.alloc ?_ _ | with_reducible refine Bk.drewN ?_ _ | with_reducible refine Bk.drew ?_ | (with_reducible refine Bk.far' ?_ ?_ _; (focus (first | omega | (simp; done) | (simp; omega)))))) ⟨_, 0, 0, rfl, Sl.nil _ _ _ _ _ (by omega) (Nat.le_refl _), (by repeat (first | with_reducible exact Below.refl _ _ | (with_reducible assumption) | (with_reducible refine bel_alloc ?_ ?_ _; (focus (first | omega | (simp; done) | (simp; omega)))) | (with_reducible refine bel_setCell ?_ ?_ _; (focus (first | omega | (simp; done) | (simp; omega)))) | with_reducible refine bel_drewN ?_ _ | with_reducible refine Below.drew ?_ | (with_reducible apply bel_join; (with_reducible assumption); (focus (first | omega | (simp; done) | (simp; omega))))))⟩
  · have h : okW n x = false := by simpa using h
    have e1 : (if okW n x = true then n else 0) = 0 := by simp [h]
    have e2 : (if okW n x = true then x else 0) = 0 := by simp [h]
    rw [e1, e2]
    clear e1 e2
    go_enter Try.func5, Try.ntmps5
    go_wp2_with fail
    refine (specWordValid_any _ _ _).mono ?_; rintro e w' ⟨rfl, rfl⟩
    go_wp2
    refine ret_bk #[.int .i64 0, .slice none 0 0, .int .i64 0, .int .i64 0, .int .i64 0] w.heap.size _ rfl (by rfl) Try.underlying24 rfl (by kernel_rfl) rfl (by repeat (first | with_reducible exact x | (with_reducible refine Bk.new' _ _ _ _ ?_; focus (first | rfl | (simp; done))) | with_reducible apply Bk.set3 | with_reducible apply Bk.set4 | with_reducible apply Bk.set5 | with_reducible apply Bk.set6 | with_reducible apply Bk.set2 | with_reducible refine Bk.alloc ?_ _ | with_reducible refine Bk.drewN ?_ _ | with_reducible refine Bk.drew ?_ | (with_reducible refine Bk.far' ?_ ?_ _; (focus (first | omega | (simp; done) | (simp; omega)))))) ⟨none, 0, 0, rfl, Sl.nil _ _ _ _ _ (by omega) (Nat.le_refl _), (by repeat (first | with_reducible exact Below.refl _ _ | (with_reducible assumption) | (with_reducible refine bel_alloc ?_ ?_ _; (focus (first | omega | (simp; done) | (simp; omega)))) | (with_reducible refine bel_setCell ?_ ?_ _; (focus (first | omega | (simp; done) | (simp; omega)))) | with_reducible refine bel_drewN ?_ _ | with_reducible refine Below.drew ?_ | (with_reducible apply bel_join; (with_reducible assumption); (focus (first | omega | (simp; done) | (simp; omega))))))⟩

end Go.Proofs.Ytchlhgfmoahdfaa
