/- Contracts: fields: the reference's FieldValid and BallsMany; FieldPut of both. -/
import Derived.Test.YtpjbajfoahmleaaFldD
import Derived.Deep.RegionHeld3
import Derived.Deep.DrawnRows
namespace Go.Proofs.Ytpjbajfoahmleaa
set_option linter.unusedVariables false
open Go.RowKit


set_option maxHeartbeats 400000 in
theorem specFieldValid_any (s : Int) (A : Option Addr) (n c : Nat) (sh : Bool) (l : List Bool) (lo hi : Nat) (w : World) (hS : SlB w lo hi A n c l) :
    Calls Try.prog 33 #[.agg #[.int .i64 s, .slice A n c, .bool sh]] w fun e w' => e = .returned (.bool (okF s l)) ∧ Below w.heap.size w w' := by
  have hm := Sl.max hS
  have hc := Sl.cap hS
  have hat := Lib.hid (fun hn => slB_at hS hn)
  have hl := Lib.hid (slB_len hS)
  clear hS
  go_enter Try.func33, Try.ntmps33
  go_wp2_with fail
  go_loop [3, 4] (fun m i => ∃ k : Nat, k ≤ n ∧ i = .int .i64 k ∧ m = .int .i64 (cnt (l.take k) : Nat)) (fun _ i => n - (intOf i).toNat)
  case atStart => exact ⟨0, Nat.zero_le _, rfl, rfl⟩
  case round =>
    obtain ⟨k, hk, rfl, rfl⟩ := hrel
    have hle := cnt_le (l.take k)
    have hle2 : (l.take k).length ≤ k := List.length_take_le _ _
    by_cases hlt : k < n
    · obtain ⟨b, off, rfl, _, hbw, hcell⟩ := hat.out (by omega)
      have hx : w.cell? ⟨b, off + k, none⟩ = some (.bool (l.getD k false)) := (hcell k hlt).1
      have hs := Lib.hid (cnt_snoc l k (by have := hl.out; omega))
      have hne : b ≠ w.heap.size := by omega
      clear hcell
      go_wp2
      all_goals
        go_round
        case rel => exact ⟨k + 1, by omega, by go_num, by rw [hs.out]; simp [*]⟩
        case measure => simp [intOf]; omega
    · have e1 : l.take k = l := List.take_of_length_le (by have := hl.out; omega)
      by_cases h1 : 2 ≤ s ∧ s ≤ 8
      · obtain ⟨h1, h2⟩ := h1
        have hib : inB s 2 8 = true := by simp [inB]; omega
        have hs1 : 0 ≤ s * s := by apply Int.mul_nonneg <;> omega
        have hs2 : s * s ≤ 8 * 8 := by apply Int.mul_le_mul <;> omega
        by_cases h3 : s % 2 = 0
        · have hp : (s % 2 == 0) = true := by simp; omega
          have h3H := Lib.hid h3
          clear h3
          have eH := Lib.hid e1
          clear e1
          by_cases h4 : (n : Int) = s * s
          · have hq : ((n : Int) == s * s) = true := by simp [h4]
            have hH := Lib.hid h4
            clear h4
            go_wp2_with (first | (go_at_call 38; refine (l1In_any _ _ _ _).mono ?_; rintro e w' ⟨rfl, rfl⟩))
            go_ret
            refine ⟨ret_bool ?_, (by repeat (first | with_reducible exact Below.refl _ _ | (with_reducible assumption) | (with_reducible refine bel_alloc ?_ ?_ _; (focus (first | omega | (simp; done) | (simp; omega)))) | (with_reducible refine bel_setCell ?_ ?_ _; (focus (first | omega | (simp; done) | (simp; omega)))) | with_reducible refine bel_drewN ?_ _ | with_reducible refine Below.drew ?_ | (with_reducible apply bel_join; (with_reducible assumption); (focus (first | omega | (simp; done) | (simp; omega))))))⟩
            have e1 := hl.out; have e2 := hH.out; have e3 := h3H.out; have e4 := eH.out
            simp only [okF, e1, e2, e3, e4, h1, h2]
            by_cases hc : cnt l ≤ 12 <;> simp [hc] <;> omega
          · have hq : ((n : Int) == s * s) = false := by simp [h4]
            go_wp2_with (first | (go_at_call 38; refine (l1In_any _ _ _ _).mono ?_; rintro e w' ⟨rfl, rfl⟩))
            go_ret
            exact ⟨ret_bool (by rw [← hl.out] at h4; simp [okF, h4]), (by repeat (first | with_reducible exact Below.refl _ _ | (with_reducible assumption) | (with_reducible refine bel_alloc ?_ ?_ _; (focus (first | omega | (simp; done) | (simp; omega)))) | (with_reducible refine bel_setCell ?_ ?_ _; (focus (first | omega | (simp; done) | (simp; omega)))) | with_reducible refine bel_drewN ?_ _ | with_reducible refine Below.drew ?_ | (with_reducible apply bel_join; (with_reducible assumption); (focus (first | omega | (simp; done) | (simp; omega))))))⟩
        · have hp : (s % 2 == 0) = false := by simp; omega
          go_wp2_with (first | (go_at_call 38; refine (l1In_any _ _ _ _).mono ?_; rintro e w' ⟨rfl, rfl⟩))
          go_ret
          exact ⟨ret_bool (by simp [okF, h3]), (by repeat (first | with_reducible exact Below.refl _ _ | (with_reducible assumption) | (with_reducible refine bel_alloc ?_ ?_ _; (focus (first | omega | (simp; done) | (simp; omega)))) | (with_reducible refine bel_setCell ?_ ?_ _; (focus (first | omega | (simp; done) | (simp; omega)))) | with_reducible refine bel_drewN ?_ _ | with_reducible refine Below.drew ?_ | (with_reducible apply bel_join; (with_reducible assumption); (focus (first | omega | (simp; done) | (simp; omega))))))⟩
      · have hib : inB s 2 8 = false := by simp [inB]; omega
        go_wp2_with (first | (go_at_call 38; refine (l1In_any _ _ _ _).mono ?_; rintro e w' ⟨rfl, rfl⟩))
        go_ret
        exact ⟨ret_bool (by simp [okF]; omega), (by repeat (first | with_reducible exact Below.refl _ _ | (with_reducible assumption) | (with_reducible refine bel_alloc ?_ ?_ _; (focus (first | omega | (simp; done) | (simp; omega)))) | (with_reducible refine bel_setCell ?_ ?_ _; (focus (first | omega | (simp; done) | (simp; omega)))) | with_reducible refine bel_drewN ?_ _ | with_reducible refine Below.drew ?_ | (with_reducible apply bel_join; (with_reducible assumption); (focus (first | omega | (simp; done) | (simp; omega))))))⟩

/-- How many balls a field has, or -1. -/
def manyF (s : Int) (l : List Bool) : Int := if okF s l = true then (cnt l : Nat) else -1

set_option maxHeartbeats 400000 in
theorem specBallsMany_any (s : Int) (A : Option Addr) (n c : Nat) (sh : Bool) (l : List Bool) (lo hi : Nat) (w : World) (hS : SlB w lo hi A n c l) :
    Calls Try.prog 39 #[.agg #[.int .i64 s, .slice A n c, .bool sh]] w fun e w' => e = .returned (.int .i64 (manyF s l)) ∧ Below w.heap.size w w' := by
  have hm := Sl.max hS
  have hc := Sl.cap hS
  have hat := Lib.hid (fun hn => slB_at hS hn)
  have hl := Lib.hid (slB_len hS)
  by_cases h1 : okF s l = true
  · have e0 := Lib.hid (show manyF s l = (cnt l : Nat) by simp [manyF, h1])
    go_enter Try.func39, Try.ntmps39
    go_wp2_with fail
    refine (specFieldValid_any s A n c sh l lo hi _ (by repeat (first | with_reducible exact hS | with_reducible refine Sl.alloc ?_ _ | (with_reducible refine Sl.setCell' ?_ ?_ _; (focus (first | omega | (simp; done) | (simp; omega)))) | with_reducible refine Sl.drewN ?_ _ | with_reducible refine Sl.drew ?_ | (with_reducible apply Sl.below; rotate_left; (with_reducible assumption))))).mono ?_; rintro e w1 ⟨rfl, hb1⟩
    have k1 : Bk w1 (w.heap.size) #[.int .i64 s, .slice A n c, .bool sh] := Bk.call (by repeat (first | with_reducible exact Bk.new' _ _ _ _ (by simp) | with_reducible refine Bk.alloc ?_ _ | with_reducible refine Bk.drewN ?_ _ | with_reducible refine Bk.drew ?_ | (with_reducible refine Bk.far' ?_ ?_ _; (focus (first | omega | (simp; done) | (simp; omega)))))) hb1; have := (k1).lt; have := (k1).cell; have := (k1).free
    have hB : Below w.heap.size w w1 := (by repeat (first | with_reducible exact Below.refl _ _ | (with_reducible assumption) | (with_reducible refine bel_alloc ?_ ?_ _; (focus (first | omega | (simp; done) | (simp; omega)))) | (with_reducible refine bel_setCell ?_ ?_ _; (focus (first | omega | (simp; done) | (simp; omega)))) | with_reducible refine bel_drewN ?_ _ | with_reducible refine Below.drew ?_ | (with_reducible apply bel_join; (with_reducible assumption); (focus (first | omega | (simp; done) | (simp; omega))))))
    go_wp2_with fail
    go_loop [3, 4] (fun m i => ∃ k : Nat, k ≤ n ∧ i = .int .i64 k ∧ m = .int .i64 (cnt (l.take k) : Nat)) (fun _ i => n - (intOf i).toNat)
    case atStart => exact ⟨0, Nat.zero_le _, rfl, rfl⟩
    case round =>
      obtain ⟨k, hk, rfl, rfl⟩ := hrel
      have hle := cnt_le (l.take k)
      have hle2 : (l.take k).length ≤ k := List.length_take_le _ _
      by_cases hlt : k < n
      · obtain ⟨b, off, rfl, _, hbw, hcell⟩ := hat.out (by omega)
        have hx : w1.cell? ⟨b, off + k, none⟩ = some (.bool (l.getD k false)) := (hB.cell (p := ⟨b, off + k, none⟩) hbw).trans (hcell k hlt).1
        have hs := Lib.hid (cnt_snoc l k (by have := hl.out; omega))
        clear hcell
        go_wp2
        all_goals
          go_round
          case rel => exact ⟨k + 1, by omega, by go_num, by rw [hs.out]; simp [*]⟩
          case measure => simp [intOf]; omega
      · have e1 : l.take k = l := List.take_of_length_le (by have := hl.out; omega)
        have eH := Lib.hid e1
        clear e1
        go_wp2
        go_ret
        exact ⟨ret_int (by rw [e0.out, eH.out]), hB⟩
  · have h1 : okF s l = false := by simpa using h1
    go_enter Try.func39, Try.ntmps39
    go_wp2_with fail
    refine (specFieldValid_any s A n c sh l lo hi _ (by repeat (first | with_reducible exact hS | with_reducible refine Sl.alloc ?_ _ | (with_reducible refine Sl.setCell' ?_ ?_ _; (focus (first | omega | (simp; done) | (simp; omega)))) | with_reducible refine Sl.drewN ?_ _ | with_reducible refine Sl.drew ?_ | (with_reducible apply Sl.below; rotate_left; (with_reducible assumption))))).mono ?_; rintro e w1 ⟨rfl, hb1⟩
    have hB : Below w.heap.size w w1 := (by repeat (first | with_reducible exact Below.refl _ _ | (with_reducible assumption) | (with_reducible refine bel_alloc ?_ ?_ _; (focus (first | omega | (simp; done) | (simp; omega)))) | (with_reducible refine bel_setCell ?_ ?_ _; (focus (first | omega | (simp; done) | (simp; omega)))) | with_reducible refine bel_drewN ?_ _ | with_reducible refine Below.drew ?_ | (with_reducible apply bel_join; (with_reducible assumption); (focus (first | omega | (simp; done) | (simp; omega))))))
    go_wp2
    go_ret
    exact ⟨ret_int (by simp [manyF, h1]), hB⟩


set_option maxHeartbeats 400000 in
theorem ballsMany_any (s : Int) (A : Option Addr) (n c : Nat) (sh : Bool) (l : List Bool) (lo hi : Nat) (w : World) (hS : SlB w lo hi A n c l) :
    Calls Try.prog 21 #[.agg #[.int .i64 s, .slice A n c, .bool sh]] w fun e w' => e = .returned (.int .i64 (manyF s l)) ∧ Below w.heap.size w w' := by
  by_cases h1 : okF s l = true
  · have e0 := Lib.hid (show manyF s l = (cnt l : Nat) by simp [manyF, h1])
    go_enter Try.func21, Try.ntmps21
    go_wp2_with fail
    refine (fieldValid_any s A n c sh l lo hi _ (by repeat (first | with_reducible exact hS | with_reducible refine Sl.alloc ?_ _ | (with_reducible refine Sl.setCell' ?_ ?_ _; (focus (first | omega | (simp; done) | (simp; omega)))) | with_reducible refine Sl.drewN ?_ _ | with_reducible refine Sl.drew ?_ | (with_reducible apply Sl.below; rotate_left; (with_reducible assumption))))).mono ?_; rintro e w1 ⟨rfl, hb1⟩
    have k1 : Bk w1 (w.heap.size) #[.int .i64 s, .slice A n c, .bool sh] := Bk.call (by repeat (first | with_reducible exact Bk.new' _ _ _ _ (by simp) | with_reducible refine Bk.alloc ?_ _ | with_reducible refine Bk.drewN ?_ _ | with_reducible refine Bk.drew ?_ | (with_reducible refine Bk.far' ?_ ?_ _; (focus (first | omega | (simp; done) | (simp; omega)))))) hb1; have := (k1).lt; have := (k1).cell; have := (k1).free
    go_wp2_with fail
    refine (many_any s A n c sh l lo hi _ (by repeat (first | with_reducible exact hS | with_reducible refine Sl.alloc ?_ _ | (with_reducible refine Sl.setCell' ?_ ?_ _; (focus (first | omega | (simp; done) | (simp; omega)))) | with_reducible refine Sl.drewN ?_ _ | with_reducible refine Sl.drew ?_ | (with_reducible apply Sl.below; rotate_left; (with_reducible assumption))))).mono ?_; rintro e w2 ⟨rfl, hb2⟩
    go_wp2
    go_ret
    exact ⟨ret_int e0.out.symm, (by repeat (first | with_reducible exact Below.refl _ _ | (with_reducible assumption) | (with_reducible refine bel_alloc ?_ ?_ _; (focus (first | omega | (simp; done) | (simp; omega)))) | (with_reducible refine bel_setCell ?_ ?_ _; (focus (first | omega | (simp; done) | (simp; omega)))) | with_reducible refine bel_drewN ?_ _ | with_reducible refine Below.drew ?_ | (with_reducible apply bel_join; (with_reducible assumption); (focus (first | omega | (simp; done) | (simp; omega))))))⟩
  · have h1 : okF s l = false := by simpa using h1
    go_enter Try.func21, Try.ntmps21
    go_wp2_with fail
    refine (fieldValid_any s A n c sh l lo hi _ (by repeat (first | with_reducible exact hS | with_reducible refine Sl.alloc ?_ _ | (with_reducible refine Sl.setCell' ?_ ?_ _; (focus (first | omega | (simp; done) | (simp; omega)))) | with_reducible refine Sl.drewN ?_ _ | with_reducible refine Sl.drew ?_ | (with_reducible apply Sl.below; rotate_left; (with_reducible assumption))))).mono ?_; rintro e w1 ⟨rfl, hb1⟩
    go_wp2
    go_ret
    exact ⟨ret_int (by simp [manyF, h1]), (by repeat (first | with_reducible exact Below.refl _ _ | (with_reducible assumption) | (with_reducible refine bel_alloc ?_ ?_ _; (focus (first | omega | (simp; done) | (simp; omega)))) | (with_reducible refine bel_setCell ?_ ?_ _; (focus (first | omega | (simp; done) | (simp; omega)))) | with_reducible refine bel_drewN ?_ _ | with_reducible refine Below.drew ?_ | (with_reducible apply bel_join; (with_reducible assumption); (focus (first | omega | (simp; done) | (simp; omega))))))⟩

end Go.Proofs.Ytpjbajfoahmleaa
