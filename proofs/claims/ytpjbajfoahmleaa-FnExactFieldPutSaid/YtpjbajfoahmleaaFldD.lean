/- Contracts: fields: what the exact laws do: sizes, copies of arguments, marks. -/
import Derived.Test.YtpjbajfoahmleaaFldC
namespace Go.Proofs.Ytpjbajfoahmleaa
set_option linter.unusedVariables false
open Go.RowKit

theorem bl_set (l : List Bool) (j : Nat) (v : Bool) : (bl l).set j (.bool v) = bl (l.set j v) := by simp [bl]
/-- The marks from a number on. -/
def mkB (k : Int) (n : Nat) : List Bool := (List.range n).map fun j => decide ((k + (j : Nat)) % 3 = 0)
theorem mkB_len (k : Int) (n : Nat) : (mkB k n).length = n := by simp [mkB]
/-- The first j are marked. -/
def mkTo (k : Int) (l : List Bool) (j : Nat) : List Bool := mkB k j ++ l.drop j
theorem mkTo_zero (k : Int) (l : List Bool) : mkTo k l 0 = l := by simp [mkTo, mkB]
theorem mkTo_full (k : Int) (l : List Bool) (n : Nat) (h : l.length = n) : mkTo k l n = mkB k n := by simp [mkTo, ← h]
theorem mkTo_step (k : Int) (l : List Bool) (j : Nat) (h : j < l.length) : (mkTo k l j).set j (decide ((k + (j : Nat)) % 3 = 0)) = mkTo k l (j + 1) := by
  unfold mkTo
  rw [List.set_append_right _ _ (by simp [mkB]), mkB_len, Nat.sub_self, List.drop_eq_getElem_cons h, List.set_cons_zero]
  simp [mkB, List.range_succ]

/-- What is left of a number. -/
def szR (n : Nat) (k : Int) : Int := if (n : Int) ≤ k then k - n else -1

set_option maxHeartbeats 400000 in
theorem szBoolS_any (A : Option Addr) (n c : Nat) (k : Int) (w : World) (hn : n ≤ 9223372036854775807) (h0 : 0 ≤ k) (h1 : k ≤ 1048576) :
    Calls Try.prog 37 #[.slice A n c, .int .i64 k] w fun e w' => e = .returned (.int .i64 (szR n k)) ∧ w = w' := by
  by_cases h : (n : Int) ≤ k
  · go_enter Try.func37, Try.ntmps37
    go_wp2
    go_ret
    exact ⟨ret_int (by simp [szR, h]), rfl⟩
  · go_enter Try.func37, Try.ntmps37
    go_wp2
    go_ret
    exact ⟨ret_int (by simp [szR]; omega), rfl⟩


set_option maxHeartbeats 400000 in
theorem szField_any (s : Int) (A : Option Addr) (n c : Nat) (sh : Bool) (k : Int) (w : World) (hn : n ≤ 9223372036854775807) (h0 : 0 ≤ k) (h1 : k ≤ 1048576) :
    Calls Try.prog 10 #[.agg #[.int .i64 s, .slice A n c, .bool sh], .int .i64 k] w fun e w' => e = .returned (.int .i64 (szR n k)) ∧ Below w.heap.size w w' := by
  by_cases h : (n : Int) ≤ k
  · go_enter Try.func10, Try.ntmps10
    go_wp2_with fail
    refine (szBoolS_any A n c k _ hn h0 h1).mono ?_; rintro e w1 ⟨rfl, rfl⟩
    have e1 : szR n k = k - n := by simp [szR, h]
    rw [e1]
    clear e1
    go_wp2
    go_ret
    exact ⟨ret_int (by simp [szR, h]), (by repeat (first | with_reducible exact Below.refl _ _ | (with_reducible assumption) | (with_reducible refine bel_alloc ?_ ?_ _; (focus (first | omega | (simp; done) | (simp; omega)))) | (with_reducible refine bel_setCell ?_ ?_ _; (focus (first | omega | (simp; done) | (simp; omega)))) | with_reducible refine bel_drewN ?_ _ | with_reducible refine Below.drew ?_ | (with_reducible apply bel_join; (with_reducible assumption); (focus (first | omega | (simp; done) | (simp; omega))))))⟩
  · go_enter Try.func10, Try.ntmps10
    go_wp2_with fail
    refine (szBoolS_any A n c k _ hn h0 h1).mono ?_; rintro e w1 ⟨rfl, rfl⟩
    have e1 : szR n k = -1 := by simp [szR]; omega
    rw [e1]
    clear e1
    go_wp2
    go_ret
    exact ⟨ret_int (by simp [szR]; omega), (by repeat (first | with_reducible exact Below.refl _ _ | (with_reducible assumption) | (with_reducible refine bel_alloc ?_ ?_ _; (focus (first | omega | (simp; done) | (simp; omega)))) | (with_reducible refine bel_setCell ?_ ?_ _; (focus (first | omega | (simp; done) | (simp; omega)))) | with_reducible refine bel_drewN ?_ _ | with_reducible refine Below.drew ?_ | (with_reducible apply bel_join; (with_reducible assumption); (focus (first | omega | (simp; done) | (simp; omega))))))⟩


set_option maxHeartbeats 400000 in
theorem markBoolS_any (A : Option Addr) (n c : Nat) (l : List Bool) (lo hi : Nat) (k : Int) (w : World) (hS : SlB w lo hi A n c l) (hn : n ≤ 1048576) (h0 : 0 ≤ k) (h1 : k ≤ 1048576) :
    Calls Try.prog 45 #[.slice A n c, .int .i64 k] w fun e w' => e = .returned (.int .i64 (k + n)) ∧ SlB w' lo hi A n c (mkB k n) ∧ But lo hi w w' := by
  have hc := Sl.cap hS
  have hm := Sl.max hS
  have hl := Lib.hid (slB_len hS)
  go_enter Try.func45, Try.ntmps45
  go_wp2
  go_loopw [1, 5] (fun kk i wr => ∃ j : Nat, j ≤ n ∧ i = .int .i64 j ∧ kk = .int .i64 (k + j) ∧ SlB wr lo hi A n c (mkTo k l j) ∧ But lo hi w wr) (fun _ i _ => n - (intOf i).toNat)
  case atStart => exact ⟨0, Nat.zero_le _, rfl, by go_num, by rw [mkTo_zero]; exact hS, But.refl _ _ _⟩
  case round =>
    obtain ⟨j, hj, rfl, rfl, hsl, hb⟩ := hrel
    by_cases hlt : j < n
    · obtain ⟨b, off, rfl, hb1, hb2, hb3, hcell⟩ := Sl.at hsl (by omega)
      have hx := (hcell j (by omega)).1
      have hf := (hcell j (by omega)).2
      have hs2 := Sl.set hsl j (by omega) (.bool (decide ((k + (j : Nat)) % 3 = 0)))
      rw [bl_set, mkTo_step k l j (by have := hl.out; omega)] at hs2
      have hJ : (0 : Int) ≤ (j : Int) := by omega
      have hI : (j : Int) < (n : Int) := by omega
      clear hcell
      go_wp2
      go_roundw
      case rel => exact ⟨j + 1, by omega, by go_num, by go_num, hs2, hb.setCell ⟨hb1, hb2⟩ _⟩
      case measure => simp [intOf]; omega
    · go_wp2
      go_ret
      obtain rfl : j = n := by omega
      rw [mkTo_full k l j hl.out] at hsl
      exact ⟨rfl, hsl, hb⟩


set_option maxHeartbeats 400000 in
theorem markField_any (s : Int) (A : Option Addr) (n c : Nat) (sh : Bool) (l : List Bool) (lo hi : Nat) (k : Int) (w : World) (hS : SlB w lo hi A n c l) (hn : n ≤ 1048576) (h0 : 0 ≤ k) (h1 : k ≤ 1048576) :
    Calls Try.prog 15 #[.agg #[.int .i64 s, .slice A n c, .bool sh], .int .i64 k] w fun e w' => e = .returned (.int .i64 (k + n)) ∧ SlB w' lo hi A n c (mkB k n) ∧ But lo hi w w' := by
  go_enter Try.func15, Try.ntmps15
  go_wp2_with fail
  refine (markBoolS_any A n c l lo hi k _ (by repeat (first | with_reducible exact hS | with_reducible refine Sl.alloc ?_ _ | (with_reducible refine Sl.setCell' ?_ ?_ _; (focus (first | omega | (simp; done) | (simp; omega)))) | with_reducible refine Sl.drewN ?_ _ | with_reducible refine Sl.drew ?_ | (with_reducible apply Sl.below; rotate_left; (with_reducible assumption)))) hn h0 h1).mono ?_; rintro e w1 ⟨rfl, hs1, hb1⟩
  go_wp2
  go_ret
  exact ⟨rfl, hs1, ((But.refl _ _ _).alloc _).trans hb1⟩

/-- Are the marks there? -/
def heldR (k : Int) (l : List Bool) (n : Nat) : Int := if l = mkB k n then k + n else -1
theorem mkB_get (k : Int) (n j : Nat) (h : j < n) : (mkB k n).getD j false = decide ((k + (j : Nat)) % 3 = 0) := by simp [mkB, h]

set_option maxHeartbeats 400000 in
theorem heldBoolS_any (A : Option Addr) (n c : Nat) (l : List Bool) (lo hi : Nat) (k : Int) (w : World) (hS : SlB w lo hi A n c l) (hn : n ≤ 1048576) (h0 : 0 ≤ k) (h1 : k ≤ 1048576) :
    Calls Try.prog 46 #[.slice A n c, .int .i64 k] w fun e w' => e = .returned (.int .i64 (heldR k l n)) ∧ w = w' := by
  have hc := Sl.cap hS
  have hm := Sl.max hS
  have hl := Lib.hid (slB_len hS)
  have hat := Lib.hid (fun hn => slB_at hS hn)
  go_enter Try.func46, Try.ntmps46
  go_wp2
  go_loop [1, 5] (fun kk i => ∃ j : Nat, j ≤ n ∧ i = .int .i64 j ∧ kk = .int .i64 (k + j) ∧ Hid (l.take j = mkB k j)) (fun _ i => n - (intOf i).toNat)
  case atStart => exact ⟨0, Nat.zero_le _, rfl, by go_num, Lib.hid (by simp [mkB])⟩
  case round =>
    obtain ⟨j, hj, rfl, rfl, hpre⟩ := hrel
    by_cases hlt : j < n
    · obtain ⟨b, off, rfl, _, hb, hcell⟩ := hat.out (by omega)
      have hx := (hcell j hlt).1
      have hJ : (0 : Int) ≤ (j : Int) := by omega
      have hI : (j : Int) < (n : Int) := by omega
      clear hcell
      by_cases hd : (k + (j : Int)) % 3 = 0
      · have hdb : ((k + (j : Int)) % 3 == 0) = true := by simp [hd]
        by_cases hv : l.getD j false = true
        · have hs : Hid (l.take (j + 1) = mkB k (j + 1)) := Lib.hid (by
            rw [List.take_succ_eq_append_getElem (by have := hl.out; omega), hpre.out]
            have : j < l.length := by have := hl.out; omega
            simp [this] at hv
            simp [mkB, List.range_succ, hv, hd])
          rw [hv] at hx
          clear hv hd
          go_wp2
          go_round
          case rel => exact ⟨j + 1, by omega, by go_num, by go_num, hs⟩
          case measure => simp [intOf]; omega
        · have hs : Hid (l ≠ mkB k n) := Lib.hid (fun h => hv (by rw [h, mkB_get k n j hlt]; simp [hd]))
          have hv : l.getD j false = false := by simpa using hv
          rw [hv] at hx
          clear hv hd
          go_wp2
          go_ret
          exact ⟨ret_int (by simp [heldR, hs.out]), rfl⟩
      · have hdb : ((k + (j : Int)) % 3 == 0) = false := by simp [hd]
        by_cases hv : l.getD j false = false
        · have hs : Hid (l.take (j + 1) = mkB k (j + 1)) := Lib.hid (by
            rw [List.take_succ_eq_append_getElem (by have := hl.out; omega), hpre.out]
            have : j < l.length := by have := hl.out; omega
            simp [this] at hv
            simp [mkB, List.range_succ, hv, hd])
          rw [hv] at hx
          clear hv hd
          go_wp2
          go_round
          case rel => exact ⟨j + 1, by omega, by go_num, by go_num, hs⟩
          case measure => simp [intOf]; omega
        · have hs : Hid (l ≠ mkB k n) := Lib.hid (fun h => hv (by rw [h, mkB_get k n j hlt]; simp [hd]))
          have hv : l.getD j false = true := by simpa using hv
          rw [hv] at hx
          clear hv hd
          go_wp2
          go_ret
          exact ⟨ret_int (by simp [heldR, hs.out]), rfl⟩
    · go_wp2
      go_ret
      obtain rfl : j = n := by omega
      have := hpre.out
      rw [List.take_of_length_le (by have := hl.out; omega)] at this
      exact ⟨ret_int (by simp [heldR, this]), rfl⟩


set_option maxHeartbeats 400000 in
theorem heldField_any (s : Int) (A : Option Addr) (n c : Nat) (sh : Bool) (l : List Bool) (lo hi : Nat) (k : Int) (w : World) (hS : SlB w lo hi A n c l) (hn : n ≤ 1048576) (h0 : 0 ≤ k) (h1 : k ≤ 1048576) (hl : l = mkB k n) :
    Calls Try.prog 16 #[.agg #[.int .i64 s, .slice A n c, .bool sh], .int .i64 k] w fun e w' => e = .returned (.int .i64 (k + n)) ∧ Below w.heap.size w w' := by
  subst hl
  have e1 : heldR k (mkB k n) n = k + n := by simp [heldR]
  go_enter Try.func16, Try.ntmps16
  go_wp2_with fail
  refine (heldBoolS_any A n c _ lo hi k _ (by repeat (first | with_reducible exact hS | with_reducible refine Sl.alloc ?_ _ | (with_reducible refine Sl.setCell' ?_ ?_ _; (focus (first | omega | (simp; done) | (simp; omega)))) | with_reducible refine Sl.drewN ?_ _ | with_reducible refine Sl.drew ?_ | (with_reducible apply Sl.below; rotate_left; (with_reducible assumption)))) hn h0 h1).mono ?_; rintro e w1 ⟨rfl, rfl⟩
  rw [e1]
  clear e1
  go_wp2
  go_ret
  exact ⟨rfl, (by repeat (first | with_reducible exact Below.refl _ _ | (with_reducible assumption) | (with_reducible refine bel_alloc ?_ ?_ _; (focus (first | omega | (simp; done) | (simp; omega)))) | (with_reducible refine bel_setCell ?_ ?_ _; (focus (first | omega | (simp; done) | (simp; omega)))) | with_reducible refine bel_drewN ?_ _ | with_reducible refine Below.drew ?_ | (with_reducible apply bel_join; (with_reducible assumption); (focus (first | omega | (simp; done) | (simp; omega))))))⟩

theorem bl_made (n : Nat) : (mkCells #[.bool false] n).toList = bl (List.replicate n false) := by rw [mkCells_one]; simp [bl]
/-- The first j are copied. -/
def cpTo (l : List Bool) (n j : Nat) : List Bool := l.take j ++ List.replicate (n - j) false
theorem cpTo_step (l : List Bool) (n j : Nat) (h : j < l.length) (hn : j < n) : (cpTo l n j).set j (l.getD j false) = cpTo l n (j + 1) := by
  have e1 : (l.take j).length = j := by simp; omega
  have e2 : n - j = (n - (j + 1)) + 1 := by omega
  unfold cpTo
  rw [List.set_append_right _ _ (by omega), e1, Nat.sub_self, e2, List.replicate_succ, List.set_cons_zero, List.take_succ_eq_append_getElem h, List.append_assoc]
  simp [h]

set_option maxHeartbeats 400000 in
theorem toBoolS_any (A : Option Addr) (n c : Nat) (l : List Bool) (lo hi : Nat) (w : World) (hS : SlB w lo hi A n c l) (hn : n ≤ 1048576) :
    Calls Try.prog 40 #[.slice A n c] w (RetSl w 1 (bl l)) := by
  obtain ⟨i0, hinf, hz0, hz1, hz2⟩ := info_parts boolInfo
  have hmk := fun W => run_make_n (P := Try.prog) 22 4 i0 (.bool false) 1 1 Try.underlying22 hinf hz0 hz1 hz2 n (by omega) (by omega) W
  have hl := Lib.hid (slB_len hS)
  have hat := Lib.hid (fun hn => slB_at hS hn)
  simp only [Nat.mul_one, Value.cells] at hmk
  clear hinf hz0 hz1 hz2
  go_enter Try.func40, Try.ntmps40
  go_wp2_with fail
  go_loopw [4] (fun i wr => ∃ j : Nat, j ≤ n ∧ i = .int .i64 j ∧ SlB wr w.heap.size (w.heap.size + 1) (some ⟨w.heap.size, 0, none⟩) n n (cpTo l n j) ∧ Below w.heap.size w wr) (fun i _ => n - (intOf i).toNat)
  case atStart =>
    refine ⟨0, Nat.zero_le _, rfl, ?_, (by repeat (first | with_reducible exact Below.refl _ _ | (with_reducible assumption) | (with_reducible refine bel_alloc ?_ ?_ _; (focus (first | omega | (simp; done) | (simp; omega)))) | (with_reducible refine bel_setCell ?_ ?_ _; (focus (first | omega | (simp; done) | (simp; omega)))) | with_reducible refine bel_drewN ?_ _ | with_reducible refine Below.drew ?_ | (with_reducible apply bel_join; (with_reducible assumption); (focus (first | omega | (simp; done) | (simp; omega))))))⟩
    have := Sl.made w (mkCells #[.bool false] n) 4 n 1 (by rw [mkCells_size, Nat.mul_one]) (by omega)
    rw [bl_made] at this
    simpa [cpTo] using this
  case round =>
    obtain ⟨j, hj, rfl, hsl, hb⟩ := hrel
    by_cases hlt : j < n
    · obtain ⟨b, off, rfl, _, hbw, hcell⟩ := hat.out (by omega)
      have hx : wr.cell? ⟨b, off + j, none⟩ = some (.bool (l.getD j false)) := (hb.cell (p := ⟨b, off + j, none⟩) hbw).trans (hcell j hlt).1
      have hs2 := Sl.set hsl j (by omega) (.bool (l.getD j false))
      obtain ⟨b', off', e, _, _, _, hcell2⟩ := Sl.at hsl (by omega)
      simp at e
      obtain ⟨rfl, rfl⟩ := e
      have hy := (hcell2 j (by omega)).1
      have hf := (hcell2 j (by omega)).2
      rw [Nat.zero_add] at hy hf hs2
      rw [bl_set, cpTo_step l n j (by have := hl.out; omega) hlt] at hs2
      generalize l.getD j false = x at hx hs2
      have hJ : (0 : Int) ≤ (j : Int) := by omega
      have hI : (j : Int) < (n : Int) := by omega
      clear hcell hcell2
      go_wp2
      go_roundw
      case rel => exact ⟨j + 1, by omega, by go_num, hs2, (by repeat (first | with_reducible exact Below.refl _ _ | (with_reducible assumption) | (with_reducible refine bel_alloc ?_ ?_ _; (focus (first | omega | (simp; done) | (simp; omega)))) | (with_reducible refine bel_setCell ?_ ?_ _; (focus (first | omega | (simp; done) | (simp; omega)))) | with_reducible refine bel_drewN ?_ _ | with_reducible refine Below.drew ?_ | (with_reducible apply bel_join; (with_reducible assumption); (focus (first | omega | (simp; done) | (simp; omega))))))⟩
      case measure => simp [intOf]; omega
    · go_wp2
      go_ret
      obtain rfl : j = n := by omega
      have e1 : cpTo l j j = l := by simp [cpTo, ← hl.out]
      rw [e1] at hsl
      exact ⟨_, j, j, rfl, Sl.lower hsl (Nat.le_refl _) hsl.top (Nat.le_refl _), hb⟩


set_option maxHeartbeats 400000 in
theorem toField_any (s : Int) (A : Option Addr) (n c : Nat) (sh : Bool) (l : List Bool) (lo hi : Nat) (w : World) (hS : SlB w lo hi A n c l) (hn : n ≤ 1048576) :
    Calls Try.prog 12 #[.agg #[.int .i64 s, .slice A n c, .bool sh]] w (RetF w s l sh) := by
  go_enter Try.func12, Try.ntmps12
  go_wp2_with fail
  refine (toBoolS_any A n c l lo hi _ (by repeat (first | with_reducible exact hS | with_reducible refine Sl.alloc ?_ _ | (with_reducible refine Sl.setCell' ?_ ?_ _; (focus (first | omega | (simp; done) | (simp; omega)))) | with_reducible refine Sl.drewN ?_ _ | with_reducible refine Sl.drew ?_ | (with_reducible apply Sl.below; rotate_left; (with_reducible assumption)))) hn).mono ?_; rintro e w1 ⟨A1, n1, c1, rfl, hs1, hb1⟩
  have k1 : Bk w1 (w.heap.size) #[.int .i64 s, .slice A n c, .bool sh] := Bk.call (by repeat (first | with_reducible exact Bk.new' _ _ _ _ (by simp) | with_reducible refine Bk.alloc ?_ _ | with_reducible refine Bk.drewN ?_ _ | with_reducible refine Bk.drew ?_ | (with_reducible refine Bk.far' ?_ ?_ _; (focus (first | omega | (simp; done) | (simp; omega)))))) hb1; have := (k1).lt; have := (k1).cell; have := (k1).free
  have k2 : Bk w1 (w.heap.size + 1) #[.int .i64 0, .slice none 0 0, .bool false] := Bk.call (by repeat (first | with_reducible exact Bk.new' _ _ _ _ (by simp) | with_reducible refine Bk.alloc ?_ _ | with_reducible refine Bk.drewN ?_ _ | with_reducible refine Bk.drew ?_ | (with_reducible refine Bk.far' ?_ ?_ _; (focus (first | omega | (simp; done) | (simp; omega)))))) hb1; have := (k2).lt; have := (k2).cell; have := (k2).free
  have k3 : Bk w1 (w.heap.size + 2) #[.int .i64 s, .slice none 0 0, .bool false] := Bk.call (by repeat (first | with_reducible exact Bk.new' _ _ _ _ (by simp) | with_reducible refine Bk.alloc ?_ _ | with_reducible refine Bk.drewN ?_ _ | with_reducible refine Bk.drew ?_ | (with_reducible refine Bk.far' ?_ ?_ _; (focus (first | omega | (simp; done) | (simp; omega)))))) hb1; have := (k3).lt; have := (k3).cell; have := (k3).free
  go_wp2_with fail
  refine bodyPost_ret (v := .agg #[.int .i64 s, .slice A1 n1 c1, .bool sh]) (by simp [results, Try.results12, go_sem, k2.cell]) rfl ?_
  refine ⟨A1, n1, c1, rfl, ?_, ?_⟩
  · have hs2 : SlB w1 (w.heap.size + 3) w1.heap.size A1 n1 c1 l := Sl.lower hs1 (by simp) (Nat.le_refl _) (Nat.le_refl _)
    exact Sl.lower (lo := w.heap.size + 3) (hi := w1.heap.size) (by repeat (first | with_reducible exact hs2 | with_reducible refine Sl.alloc ?_ _ | (with_reducible refine Sl.setCell' ?_ ?_ _; (focus (first | omega | (simp; done) | (simp; omega)))) | with_reducible refine Sl.drewN ?_ _ | with_reducible refine Sl.drew ?_ | (with_reducible apply Sl.below; rotate_left; (with_reducible assumption)))) (by omega) (by simp [World.setCell]) (by simp)
  · exact (by repeat (first | with_reducible exact Below.refl _ _ | (with_reducible assumption) | (with_reducible refine bel_alloc ?_ ?_ _; (focus (first | omega | (simp; done) | (simp; omega)))) | (with_reducible refine bel_setCell ?_ ?_ _; (focus (first | omega | (simp; done) | (simp; omega)))) | with_reducible refine bel_drewN ?_ _ | with_reducible refine Below.drew ?_ | (with_reducible apply bel_join; (with_reducible assumption); (focus (first | omega | (simp; done) | (simp; omega))))))

end Go.Proofs.Ytpjbajfoahmleaa
