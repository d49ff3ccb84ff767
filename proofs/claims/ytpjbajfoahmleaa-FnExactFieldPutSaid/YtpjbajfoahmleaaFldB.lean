/- Contracts: fields: equality of lists of truths. -/
import Derived.Test.YtpjbajfoahmleaaFldA
namespace Go.Proofs.Ytpjbajfoahmleaa
set_option linter.unusedVariables false
open Go.RowKit

theorem take_snoc_eq {α : Type} [DecidableEq α] (l1 l2 : List α) (d : α) (k : Nat) (h1 : k < l1.length) (h2 : k < l2.length) (h : l1.take k = l2.take k) (he : l1.getD k d = l2.getD k d) : l1.take (k + 1) = l2.take (k + 1) := by
  rw [List.take_succ_eq_append_getElem h1, List.take_succ_eq_append_getElem h2, h]
  simp [h1, h2] at he
  simp [he]
theorem ne_of_getD {α : Type} (l1 l2 : List α) (d : α) (k : Nat) (he : l1.getD k d ≠ l2.getD k d) : l1 ≠ l2 := fun h => he (by rw [h])

/-- Two lists are equal. -/
def eqb (l l2 : List Bool) : Bool := decide (l = l2)

set_option maxHeartbeats 400000 in
theorem eqBoolS_any (A : Option Addr) (n c : Nat) (l : List Bool) (lo hi : Nat) (A2 : Option Addr) (n2 c2 : Nat) (l2 : List Bool) (lo2 hi2 : Nat) (w : World) (hS : SlB w lo hi A n c l) (hS2 : SlB w lo2 hi2 A2 n2 c2 l2) :
    Calls Try.prog 44 #[.slice A n c, .slice A2 n2 c2] w fun e w' => e = .returned (.bool (eqb l l2)) ∧ Below w.heap.size w w' := by
  have hm := Sl.max hS
  have hc := Sl.cap hS
  have hl := Lib.hid (slB_len hS)
  have hl2 := Lib.hid (slB_len hS2)
  have hat := Lib.hid (fun hn => slB_at hS hn)
  have hat2 := Lib.hid (fun hn => slB_at hS2 hn)
  clear hS hS2
  by_cases hn : n = n2
  · subst hn
    have hq : ((n : Int) != n) = false := by simp
    go_enter Try.func44, Try.ntmps44
    go_wp2
    go_loopw [5] (fun  i wr => ∃ k : Nat, k ≤ n ∧ i = .int .i64 k ∧ Hid (l.take k = l2.take k) ∧ Below w.heap.size w wr) (fun  i _ => n - (intOf i).toNat)
    case atStart => exact ⟨0, Nat.zero_le _, rfl, Lib.hid (by simp), Below.refl _ _⟩
    case round =>
      obtain ⟨k, hk, rfl, hpre, hb⟩ := hrel
      by_cases hlt : k < n
      · obtain ⟨b, off, rfl, _, hbw, hcell⟩ := hat.out (by omega)
        obtain ⟨b2, off2, rfl, _, hbw2, hcell2⟩ := hat2.out (by omega)
        have hx : wr.cell? ⟨b, off + k, none⟩ = some (.bool (l.getD k false)) := (hb.cell (p := ⟨b, off + k, none⟩) hbw).trans (hcell k hlt).1
        have hx2 : wr.cell? ⟨b2, off2 + k, none⟩ = some (.bool (l2.getD k false)) := (hb.cell (p := ⟨b2, off2 + k, none⟩) hbw2).trans (hcell2 k hlt).1
        have hI : (k : Int) < (n : Int) := by omega
        have hJ : (0 : Int) ≤ (k : Int) := by omega
        clear hcell hcell2
        by_cases hv : l.getD k false = l2.getD k false
        · have hs : Hid (l.take (k + 1) = l2.take (k + 1)) := Lib.hid (take_snoc_eq l l2 false k (by have := hl.out; omega) (by have := hl2.out; omega) hpre.out hv)
          rw [hv] at hx
          clear hv
          generalize l2.getD k false = x at hx hx2
          go_wp2
          go_quiet (fail)
          go_wp2
          go_roundw
          case rel => exact ⟨k + 1, by omega, by go_num, hs, (by repeat (first | with_reducible exact Below.refl _ _ | (with_reducible assumption) | (with_reducible refine bel_alloc ?_ ?_ _; (focus (first | omega | (simp; done) | (simp; omega)))) | (with_reducible refine bel_setCell ?_ ?_ _; (focus (first | omega | (simp; done) | (simp; omega)))) | with_reducible refine bel_drewN ?_ _ | with_reducible refine Below.drew ?_ | (with_reducible apply bel_join; (with_reducible assumption); (focus (first | omega | (simp; done) | (simp; omega))))))⟩
          case measure => simp [intOf]; omega
        · have hs : Hid (l ≠ l2) := Lib.hid (ne_of_getD l l2 false k hv)
          have hv : l.getD k false = !l2.getD k false := by revert hv; cases l.getD k false <;> cases l2.getD k false <;> simp
          rw [hv] at hx
          clear hv
          generalize l2.getD k false = x at hx hx2
          go_wp2
          go_quiet (fail)
          go_wp2
          go_ret
          exact ⟨ret_bool (by simp [eqb, hs.out]), (by repeat (first | with_reducible exact Below.refl _ _ | (with_reducible assumption) | (with_reducible refine bel_alloc ?_ ?_ _; (focus (first | omega | (simp; done) | (simp; omega)))) | (with_reducible refine bel_setCell ?_ ?_ _; (focus (first | omega | (simp; done) | (simp; omega)))) | with_reducible refine bel_drewN ?_ _ | with_reducible refine Below.drew ?_ | (with_reducible apply bel_join; (with_reducible assumption); (focus (first | omega | (simp; done) | (simp; omega))))))⟩
      · go_wp2
        go_ret
        have := hpre.out
        rw [List.take_of_length_le (by have := hl.out; omega), List.take_of_length_le (by have := hl2.out; omega)] at this
        exact ⟨ret_bool (by simp [eqb, this]), hb⟩
  · have hq : ((n : Int) != n2) = true := by simp; omega
    go_enter Try.func44, Try.ntmps44
    go_wp2
    go_ret
    exact ⟨ret_bool (by have h1 := hl.out; have h2 := hl2.out; simp [eqb]; intro h; subst h; omega), Below.refl _ _⟩


set_option maxHeartbeats 400000 in
theorem sameBools_any (A : Option Addr) (n c : Nat) (l : List Bool) (lo hi : Nat) (A2 : Option Addr) (n2 c2 : Nat) (l2 : List Bool) (lo2 hi2 : Nat) (w : World) (hS : SlB w lo hi A n c l) (hS2 : SlB w lo2 hi2 A2 n2 c2 l2) :
    Calls Try.prog 50 #[.slice A n c, .slice A2 n2 c2] w fun e w' => e = .returned (.bool (eqb l l2)) ∧ Below w.heap.size w w' := by
  have hm := Sl.max hS
  have hc := Sl.cap hS
  have hl := Lib.hid (slB_len hS)
  have hl2 := Lib.hid (slB_len hS2)
  have hat := Lib.hid (fun hn => slB_at hS hn)
  have hat2 := Lib.hid (fun hn => slB_at hS2 hn)
  clear hS hS2
  by_cases hn : n = n2
  · subst hn
    have hq : ((n : Int) != n) = false := by simp
    go_enter Try.func50, Try.ntmps50
    go_wp2
    go_loopw [5] (fun  i wr => ∃ k : Nat, k ≤ n ∧ i = .int .i64 k ∧ Hid (l.take k = l2.take k) ∧ Below w.heap.size w wr) (fun  i _ => n - (intOf i).toNat)
    case atStart => exact ⟨0, Nat.zero_le _, rfl, Lib.hid (by simp), Below.refl _ _⟩
    case round =>
      obtain ⟨k, hk, rfl, hpre, hb⟩ := hrel
      by_cases hlt : k < n
      · obtain ⟨b, off, rfl, _, hbw, hcell⟩ := hat.out (by omega)
        obtain ⟨b2, off2, rfl, _, hbw2, hcell2⟩ := hat2.out (by omega)
        have hx : wr.cell? ⟨b, off + k, none⟩ = some (.bool (l.getD k false)) := (hb.cell (p := ⟨b, off + k, none⟩) hbw).trans (hcell k hlt).1
        have hx2 : wr.cell? ⟨b2, off2 + k, none⟩ = some (.bool (l2.getD k false)) := (hb.cell (p := ⟨b2, off2 + k, none⟩) hbw2).trans (hcell2 k hlt).1
        have hI : (k : Int) < (n : Int) := by omega
        have hJ : (0 : Int) ≤ (k : Int) := by omega
        clear hcell hcell2
        by_cases hv : l.getD k false = l2.getD k false
        · have hs : Hid (l.take (k + 1) = l2.take (k + 1)) := Lib.hid (take_snoc_eq l l2 false k (by have := hl.out; omega) (by have := hl2.out; omega) hpre.out hv)
          rw [hv] at hx
          clear hv
          generalize l2.getD k false = x at hx hx2
          go_wp2
          go_quiet (fail)
          go_wp2
          go_roundw
          case rel => exact ⟨k + 1, by omega, by go_num, hs, (by repeat (first | with_reducible exact Below.refl _ _ | (with_reducible assumption) | (with_reducible refine bel_alloc ?_ ?_ _; (focus (first | omega | (simp; done) | (simp; omega)))) | (with_reducible refine bel_setCell ?_ ?_ _; (focus (first | omega | (simp; done) | (simp; omega)))) | with_reducible refine bel_drewN ?_ _ | with_reducible refine Below.drew ?_ | (with_reducible apply bel_join; (with_reducible assumption); (focus (first | omega | (simp; done) | (simp; omega))))))⟩
          case measure => simp [intOf]; omega
        · have hs : Hid (l ≠ l2) := Lib.hid (ne_of_getD l l2 false k hv)
          have hv : l.getD k false = !l2.getD k false := by revert hv; cases l.getD k false <;> cases l2.getD k false <;> simp
          rw [hv] at hx
          clear hv
          generalize l2.getD k false = x at hx hx2
          go_wp2
          go_quiet (fail)
          go_wp2
          go_ret
          exact ⟨ret_bool (by simp [eqb, hs.out]), (by repeat (first | with_reducible exact Below.refl _ _ | (with_reducible assumption) | (with_reducible refine bel_alloc ?_ ?_ _; (focus (first | omega | (simp; done) | (simp; omega)))) | (with_reducible refine bel_setCell ?_ ?_ _; (focus (first | omega | (simp; done) | (simp; omega)))) | with_reducible refine bel_drewN ?_ _ | with_reducible refine Below.drew ?_ | (with_reducible apply bel_join; (with_reducible assumption); (focus (first | omega | (simp; done) | (simp; omega))))))⟩
      · go_wp2
        go_ret
        have := hpre.out
        rw [List.take_of_length_le (by have := hl.out; omega), List.take_of_length_le (by have := hl2.out; omega)] at this
        exact ⟨ret_bool (by simp [eqb, this]), hb⟩
  · have hq : ((n : Int) != n2) = true := by simp; omega
    go_enter Try.func50, Try.ntmps50
    go_wp2
    go_ret
    exact ⟨ret_bool (by have h1 := hl.out; have h2 := hl2.out; simp [eqb]; intro h; subst h; omega), Below.refl _ _⟩


set_option maxHeartbeats 400000 in
theorem slicesEqualB_any (A : Option Addr) (n c : Nat) (l : List Bool) (lo hi : Nat) (A2 : Option Addr) (n2 c2 : Nat) (l2 : List Bool) (lo2 hi2 : Nat) (w : World) (hS : SlB w lo hi A n c l) (hS2 : SlB w lo2 hi2 A2 n2 c2 l2) :
    Calls Try.prog 60 #[.slice A n c, .slice A2 n2 c2] w fun e w' => e = .returned (.bool (eqb l l2)) ∧ Below w.heap.size w w' := by
  have hm := Sl.max hS
  have hc := Sl.cap hS
  have hl := Lib.hid (slB_len hS)
  have hl2 := Lib.hid (slB_len hS2)
  have hat := Lib.hid (fun hn => slB_at hS hn)
  have hat2 := Lib.hid (fun hn => slB_at hS2 hn)
  clear hS hS2
  by_cases hn : n = n2
  · subst hn
    have hq : ((n : Int) != n) = false := by simp
    go_enter Try.func60, Try.ntmps60
    go_wp2
    go_loopw [5, 13] (fun _v i wr => ∃ k : Nat, k ≤ n ∧ i = .int .i64 k ∧ Hid (l.take k = l2.take k) ∧ Below w.heap.size w wr) (fun _v i _ => n - (intOf i).toNat)
    case atStart => exact ⟨0, Nat.zero_le _, rfl, Lib.hid (by simp), Below.refl _ _⟩
    case round =>
      obtain ⟨k, hk, rfl, hpre, hb⟩ := hrel
      by_cases hlt : k < n
      · obtain ⟨b, off, rfl, _, hbw, hcell⟩ := hat.out (by omega)
        obtain ⟨b2, off2, rfl, _, hbw2, hcell2⟩ := hat2.out (by omega)
        have hx : wr.cell? ⟨b, off + k, none⟩ = some (.bool (l.getD k false)) := (hb.cell (p := ⟨b, off + k, none⟩) hbw).trans (hcell k hlt).1
        have hx2 : wr.cell? ⟨b2, off2 + k, none⟩ = some (.bool (l2.getD k false)) := (hb.cell (p := ⟨b2, off2 + k, none⟩) hbw2).trans (hcell2 k hlt).1
        have hI : (k : Int) < (n : Int) := by omega
        have hJ : (0 : Int) ≤ (k : Int) := by omega
        clear hcell hcell2
        by_cases hv : l.getD k false = l2.getD k false
        · have hs : Hid (l.take (k + 1) = l2.take (k + 1)) := Lib.hid (take_snoc_eq l l2 false k (by have := hl.out; omega) (by have := hl2.out; omega) hpre.out hv)
          rw [hv] at hx
          clear hv
          generalize l2.getD k false = x at hx hx2
          go_wp2
          go_quiet (fail)
          go_wp2
          go_roundw
          case rel => exact ⟨k + 1, by omega, by go_num, hs, (by repeat (first | with_reducible exact Below.refl _ _ | (with_reducible assumption) | (with_reducible refine bel_alloc ?_ ?_ _; (focus (first | omega | (simp; done) | (simp; omega)))) | (with_reducible refine bel_setCell ?_ ?_ _; (focus (first | omega | (simp; done) | (simp; omega)))) | with_reducible refine bel_drewN ?_ _ | with_reducible refine Below.drew ?_ | (with_reducible apply bel_join; (with_reducible assumption); (focus (first | omega | (simp; done) | (simp; omega))))))⟩
          case measure => simp [intOf]; omega
        · have hs : Hid (l ≠ l2) := Lib.hid (ne_of_getD l l2 false k hv)
          have hv : l.getD k false = !l2.getD k false := by revert hv; cases l.getD k false <;> cases l2.getD k false <;> simp
          rw [hv] at hx
          clear hv
          generalize l2.getD k false = x at hx hx2
          go_wp2
          go_quiet (fail)
          go_wp2
          go_ret
          exact ⟨ret_bool (by simp [eqb, hs.out]), (by repeat (first | with_reducible exact Below.refl _ _ | (with_reducible assumption) | (with_reducible refine bel_alloc ?_ ?_ _; (focus (first | omega | (simp; done) | (simp; omega)))) | (with_reducible refine bel_setCell ?_ ?_ _; (focus (first | omega | (simp; done) | (simp; omega)))) | with_reducible refine bel_drewN ?_ _ | with_reducible refine Below.drew ?_ | (with_reducible apply bel_join; (with_reducible assumption); (focus (first | omega | (simp; done) | (simp; omega))))))⟩
      · go_wp2
        go_ret
        have := hpre.out
        rw [List.take_of_length_le (by have := hl.out; omega), List.take_of_length_le (by have := hl2.out; omega)] at this
        exact ⟨ret_bool (by simp [eqb, this]), hb⟩
  · have hq : ((n : Int) != n2) = true := by simp; omega
    go_enter Try.func60, Try.ntmps60
    go_wp2
    go_ret
    exact ⟨ret_bool (by have h1 := hl.out; have h2 := hl2.out; simp [eqb]; intro h; subst h; omega), Below.refl _ _⟩


/-- Two fields are equal. -/
def eqF (s s2 : Int) (l l2 : List Bool) (sh sh2 : Bool) : Bool := decide (s = s2) && (sh == sh2) && eqb l l2


set_option maxHeartbeats 400000 in
theorem same_any (s : Int) (A : Option Addr) (n c : Nat) (sh : Bool) (l : List Bool) (lo hi : Nat) (s2 : Int) (A2 : Option Addr) (n2 c2 : Nat) (sh2 : Bool) (l2 : List Bool) (lo2 hi2 : Nat) (w : World) (hS : SlB w lo hi A n c l) (hS2 : SlB w lo2 hi2 A2 n2 c2 l2) :
    Calls Try.prog 55 #[.agg #[.int .i64 s, .slice A n c, .bool sh], .agg #[.int .i64 s2, .slice A2 n2 c2, .bool sh2]] w fun e w' => e = .returned (.bool (eqF s s2 l l2 sh sh2)) ∧ Below w.heap.size w w' := by
  by_cases h1 : s = s2
  · subst h1
    by_cases h2 : sh = sh2
    · subst h2
      go_enter Try.func55, Try.ntmps55
      go_wp2_with (first | (go_at_call 60; refine (slicesEqualB_any A n c l lo hi A2 n2 c2 l2 lo2 hi2 _ (by repeat (first | with_reducible exact hS | with_reducible refine Sl.alloc ?_ _ | (with_reducible refine Sl.setCell' ?_ ?_ _; (focus (first | omega | (simp; done) | (simp; omega)))) | with_reducible refine Sl.drewN ?_ _ | with_reducible refine Sl.drew ?_ | (with_reducible apply Sl.below; rotate_left; (with_reducible assumption)))) (by repeat (first | with_reducible exact hS2 | with_reducible refine Sl.alloc ?_ _ | (with_reducible refine Sl.setCell' ?_ ?_ _; (focus (first | omega | (simp; done) | (simp; omega)))) | with_reducible refine Sl.drewN ?_ _ | with_reducible refine Sl.drew ?_ | (with_reducible apply Sl.below; rotate_left; (with_reducible assumption))))).mono ?_; rintro e w1 ⟨rfl, hb⟩))
      go_ret
      exact ⟨ret_bool (by simp [eqF]), (by repeat (first | with_reducible exact Below.refl _ _ | (with_reducible assumption) | (with_reducible refine bel_alloc ?_ ?_ _; (focus (first | omega | (simp; done) | (simp; omega)))) | (with_reducible refine bel_setCell ?_ ?_ _; (focus (first | omega | (simp; done) | (simp; omega)))) | with_reducible refine bel_drewN ?_ _ | with_reducible refine Below.drew ?_ | (with_reducible apply bel_join; (with_reducible assumption); (focus (first | omega | (simp; done) | (simp; omega))))))⟩
    · have h2 : sh = !sh2 := by revert h2; cases sh <;> cases sh2 <;> simp
      subst h2
      go_enter Try.func55, Try.ntmps55
      go_wp2_with (fail)
      go_ret
      exact ⟨ret_bool (by simp [eqF]), (by repeat (first | with_reducible exact Below.refl _ _ | (with_reducible assumption) | (with_reducible refine bel_alloc ?_ ?_ _; (focus (first | omega | (simp; done) | (simp; omega)))) | (with_reducible refine bel_setCell ?_ ?_ _; (focus (first | omega | (simp; done) | (simp; omega)))) | with_reducible refine bel_drewN ?_ _ | with_reducible refine Below.drew ?_ | (with_reducible apply bel_join; (with_reducible assumption); (focus (first | omega | (simp; done) | (simp; omega))))))⟩
  · have hq : (s == s2) = false := by simp [h1]
    go_enter Try.func55, Try.ntmps55
    go_wp2_with (fail)
    go_ret
    exact ⟨ret_bool (by simp [eqF, h1]), (by repeat (first | with_reducible exact Below.refl _ _ | (with_reducible assumption) | (with_reducible refine bel_alloc ?_ ?_ _; (focus (first | omega | (simp; done) | (simp; omega)))) | (with_reducible refine bel_setCell ?_ ?_ _; (focus (first | omega | (simp; done) | (simp; omega)))) | with_reducible refine bel_drewN ?_ _ | with_reducible refine Below.drew ?_ | (with_reducible apply bel_join; (with_reducible assumption); (focus (first | omega | (simp; done) | (simp; omega))))))⟩


set_option maxHeartbeats 400000 in
theorem eqField_any (s : Int) (A : Option Addr) (n c : Nat) (sh : Bool) (l : List Bool) (lo hi : Nat) (s2 : Int) (A2 : Option Addr) (n2 c2 : Nat) (sh2 : Bool) (l2 : List Bool) (lo2 hi2 : Nat) (w : World) (hS : SlB w lo hi A n c l) (hS2 : SlB w lo2 hi2 A2 n2 c2 l2) :
    Calls Try.prog 14 #[.agg #[.int .i64 s, .slice A n c, .bool sh], .agg #[.int .i64 s2, .slice A2 n2 c2, .bool sh2]] w fun e w' => e = .returned (.bool (eqF s s2 l l2 sh sh2)) ∧ Below w.heap.size w w' := by
  by_cases h1 : s = s2
  · subst h1
    by_cases h3 : eqb l l2 = true
    · by_cases h2 : sh = sh2
      · subst h2
        go_enter Try.func14, Try.ntmps14
        go_wp2_with (first | (go_at_call 44; refine (eqBoolS_any A n c l lo hi A2 n2 c2 l2 lo2 hi2 _ (by repeat (first | with_reducible exact hS | with_reducible refine Sl.alloc ?_ _ | (with_reducible refine Sl.setCell' ?_ ?_ _; (focus (first | omega | (simp; done) | (simp; omega)))) | with_reducible refine Sl.drewN ?_ _ | with_reducible refine Sl.drew ?_ | (with_reducible apply Sl.below; rotate_left; (with_reducible assumption)))) (by repeat (first | with_reducible exact hS2 | with_reducible refine Sl.alloc ?_ _ | (with_reducible refine Sl.setCell' ?_ ?_ _; (focus (first | omega | (simp; done) | (simp; omega)))) | with_reducible refine Sl.drewN ?_ _ | with_reducible refine Sl.drew ?_ | (with_reducible apply Sl.below; rotate_left; (with_reducible assumption))))).mono ?_; rintro e w1 ⟨rfl, hb⟩; obtain ⟨hc1, hf1⟩ := bcell hb))
        go_ret
        exact ⟨ret_bool (by simp [eqF, h3]), (by repeat (first | with_reducible exact Below.refl _ _ | (with_reducible assumption) | (with_reducible refine bel_alloc ?_ ?_ _; (focus (first | omega | (simp; done) | (simp; omega)))) | (with_reducible refine bel_setCell ?_ ?_ _; (focus (first | omega | (simp; done) | (simp; omega)))) | with_reducible refine bel_drewN ?_ _ | with_reducible refine Below.drew ?_ | (with_reducible apply bel_join; (with_reducible assumption); (focus (first | omega | (simp; done) | (simp; omega))))))⟩
      · have h2 : sh = !sh2 := by revert h2; cases sh <;> cases sh2 <;> simp
        subst h2
        go_enter Try.func14, Try.ntmps14
        go_wp2_with (first | (go_at_call 44; refine (eqBoolS_any A n c l lo hi A2 n2 c2 l2 lo2 hi2 _ (by repeat (first | with_reducible exact hS | with_reducible refine Sl.alloc ?_ _ | (with_reducible refine Sl.setCell' ?_ ?_ _; (focus (first | omega | (simp; done) | (simp; omega)))) | with_reducible refine Sl.drewN ?_ _ | with_reducible refine Sl.drew ?_ | (with_reducible apply Sl.below; rotate_left; (with_reducible assumption)))) (by repeat (first | with_reducible exact hS2 | with_reducible refine Sl.alloc ?_ _ | (with_reducible refine Sl.setCell' ?_ ?_ _; (focus (first | omega | (simp; done) | (simp; omega)))) | with_reducible refine Sl.drewN ?_ _ | with_reducible refine Sl.drew ?_ | (with_reducible apply Sl.below; rotate_left; (with_reducible assumption))))).mono ?_; rintro e w1 ⟨rfl, hb⟩; obtain ⟨hc1, hf1⟩ := bcell hb))
        go_ret
        exact ⟨ret_bool (by simp [eqF]), (by repeat (first | with_reducible exact Below.refl _ _ | (with_reducible assumption) | (with_reducible refine bel_alloc ?_ ?_ _; (focus (first | omega | (simp; done) | (simp; omega)))) | (with_reducible refine bel_setCell ?_ ?_ _; (focus (first | omega | (simp; done) | (simp; omega)))) | with_reducible refine bel_drewN ?_ _ | with_reducible refine Below.drew ?_ | (with_reducible apply bel_join; (with_reducible assumption); (focus (first | omega | (simp; done) | (simp; omega))))))⟩
    · have h3 : eqb l l2 = false := by simpa using h3
      go_enter Try.func14, Try.ntmps14
      go_wp2_with (first | (go_at_call 44; refine (eqBoolS_any A n c l lo hi A2 n2 c2 l2 lo2 hi2 _ (by repeat (first | with_reducible exact hS | with_reducible refine Sl.alloc ?_ _ | (with_reducible refine Sl.setCell' ?_ ?_ _; (focus (first | omega | (simp; done) | (simp; omega)))) | with_reducible refine Sl.drewN ?_ _ | with_reducible refine Sl.drew ?_ | (with_reducible apply Sl.below; rotate_left; (with_reducible assumption)))) (by repeat (first | with_reducible exact hS2 | with_reducible refine Sl.alloc ?_ _ | (with_reducible refine Sl.setCell' ?_ ?_ _; (focus (first | omega | (simp; done) | (simp; omega)))) | with_reducible refine Sl.drewN ?_ _ | with_reducible refine Sl.drew ?_ | (with_reducible apply Sl.below; rotate_left; (with_reducible assumption))))).mono ?_; rintro e w1 ⟨rfl, hb⟩; obtain ⟨hc1, hf1⟩ := bcell hb))
      go_ret
      exact ⟨ret_bool (by simp [eqF, h3]), (by repeat (first | with_reducible exact Below.refl _ _ | (with_reducible assumption) | (with_reducible refine bel_alloc ?_ ?_ _; (focus (first | omega | (simp; done) | (simp; omega)))) | (with_reducible refine bel_setCell ?_ ?_ _; (focus (first | omega | (simp; done) | (simp; omega)))) | with_reducible refine bel_drewN ?_ _ | with_reducible refine Below.drew ?_ | (with_reducible apply bel_join; (with_reducible assumption); (focus (first | omega | (simp; done) | (simp; omega))))))⟩
  · have hq : (s != s2) = true := by simp [h1]
    go_enter Try.func14, Try.ntmps14
    go_wp2_with (fail)
    go_ret
    exact ⟨ret_bool (by simp [eqF, h1]), (by repeat (first | with_reducible exact Below.refl _ _ | (with_reducible assumption) | (with_reducible refine bel_alloc ?_ ?_ _; (focus (first | omega | (simp; done) | (simp; omega)))) | (with_reducible refine bel_setCell ?_ ?_ _; (focus (first | omega | (simp; done) | (simp; omega)))) | with_reducible refine bel_drewN ?_ _ | with_reducible refine Below.drew ?_ | (with_reducible apply bel_join; (with_reducible assumption); (focus (first | omega | (simp; done) | (simp; omega))))))⟩


set_option maxHeartbeats 400000 in
theorem sameBalls_any (s : Int) (A : Option Addr) (n c : Nat) (sh : Bool) (l : List Bool) (lo hi : Nat) (s2 : Int) (A2 : Option Addr) (n2 c2 : Nat) (sh2 : Bool) (l2 : List Bool) (lo2 hi2 : Nat) (w : World) (hS : SlB w lo hi A n c l) (hS2 : SlB w lo2 hi2 A2 n2 c2 l2) :
    Calls Try.prog 18 #[.agg #[.int .i64 s, .slice A n c, .bool sh], .agg #[.int .i64 s2, .slice A2 n2 c2, .bool sh2]] w fun e w' => e = .returned (.bool (decide (s = s2) && eqb l l2)) ∧ Below w.heap.size w w' := by
  by_cases h1 : s = s2
  · subst h1
    go_enter Try.func18, Try.ntmps18
    go_wp2_with (first | (go_at_call 50; refine (sameBools_any A n c l lo hi A2 n2 c2 l2 lo2 hi2 _ (by repeat (first | with_reducible exact hS | with_reducible refine Sl.alloc ?_ _ | (with_reducible refine Sl.setCell' ?_ ?_ _; (focus (first | omega | (simp; done) | (simp; omega)))) | with_reducible refine Sl.drewN ?_ _ | with_reducible refine Sl.drew ?_ | (with_reducible apply Sl.below; rotate_left; (with_reducible assumption)))) (by repeat (first | with_reducible exact hS2 | with_reducible refine Sl.alloc ?_ _ | (with_reducible refine Sl.setCell' ?_ ?_ _; (focus (first | omega | (simp; done) | (simp; omega)))) | with_reducible refine Sl.drewN ?_ _ | with_reducible refine Sl.drew ?_ | (with_reducible apply Sl.below; rotate_left; (with_reducible assumption))))).mono ?_; rintro e w1 ⟨rfl, hb⟩; obtain ⟨hc1, hf1⟩ := bcell hb))
    go_ret
    exact ⟨ret_bool (by simp), (by repeat (first | with_reducible exact Below.refl _ _ | (with_reducible assumption) | (with_reducible refine bel_alloc ?_ ?_ _; (focus (first | omega | (simp; done) | (simp; omega)))) | (with_reducible refine bel_setCell ?_ ?_ _; (focus (first | omega | (simp; done) | (simp; omega)))) | with_reducible refine bel_drewN ?_ _ | with_reducible refine Below.drew ?_ | (with_reducible apply bel_join; (with_reducible assumption); (focus (first | omega | (simp; done) | (simp; omega))))))⟩
  · have hq : (s == s2) = false := by simp [h1]
    go_enter Try.func18, Try.ntmps18
    go_wp2_with (fail)
    go_ret
    exact ⟨ret_bool (by simp [h1]), (by repeat (first | with_reducible exact Below.refl _ _ | (with_reducible assumption) | (with_reducible refine bel_alloc ?_ ?_ _; (focus (first | omega | (simp; done) | (simp; omega)))) | (with_reducible refine bel_setCell ?_ ?_ _; (focus (first | omega | (simp; done) | (simp; omega)))) | with_reducible refine bel_drewN ?_ _ | with_reducible refine Below.drew ?_ | (with_reducible apply bel_join; (with_reducible assumption); (focus (first | omega | (simp; done) | (simp; omega))))))⟩


set_option maxHeartbeats 400000 in
theorem sameField_any (s : Int) (A : Option Addr) (n c : Nat) (sh : Bool) (l : List Bool) (lo hi : Nat) (s2 : Int) (A2 : Option Addr) (n2 c2 : Nat) (sh2 : Bool) (l2 : List Bool) (lo2 hi2 : Nat) (w : World) (hS : SlB w lo hi A n c l) (hS2 : SlB w lo2 hi2 A2 n2 c2 l2) :
    Calls Try.prog 26 #[.agg #[.int .i64 s, .slice A n c, .bool sh], .agg #[.int .i64 s2, .slice A2 n2 c2, .bool sh2]] w fun e w' => e = .returned (.bool (okF s l && okF s2 l2 && eqF s s2 l l2 sh sh2)) ∧ Below w.heap.size w w' := by
  by_cases h1 : okF s l = true
  · by_cases h2 : okF s2 l2 = true
    · go_enter Try.func26, Try.ntmps26
      go_wp2_with fail
      refine (fieldValid_any s A n c sh l lo hi _ (by repeat (first | with_reducible exact hS | with_reducible refine Sl.alloc ?_ _ | (with_reducible refine Sl.setCell' ?_ ?_ _; (focus (first | omega | (simp; done) | (simp; omega)))) | with_reducible refine Sl.drewN ?_ _ | with_reducible refine Sl.drew ?_ | (with_reducible apply Sl.below; rotate_left; (with_reducible assumption))))).mono ?_; rintro e w1 ⟨rfl, hb1⟩; obtain ⟨hc1, hf1⟩ := bcell hb1
      go_wp2_with fail
      refine (fieldValid_any s2 A2 n2 c2 sh2 l2 lo2 hi2 _ (by repeat (first | with_reducible exact hS2 | with_reducible refine Sl.alloc ?_ _ | (with_reducible refine Sl.setCell' ?_ ?_ _; (focus (first | omega | (simp; done) | (simp; omega)))) | with_reducible refine Sl.drewN ?_ _ | with_reducible refine Sl.drew ?_ | (with_reducible apply Sl.below; rotate_left; (with_reducible assumption))))).mono ?_; rintro e w2 ⟨rfl, hb2⟩; (have hJ := Below.trans hb1 (Below.mono hb2 (Below.size hb1)); clear hc1 hf1 hb1 hb2; have hb1 := hJ; clear hJ; obtain ⟨hc1, hf1⟩ := bcell hb1)
      go_wp2_with fail
      refine (same_any s A n c sh l lo hi s2 A2 n2 c2 sh2 l2 lo2 hi2 _ (by repeat (first | with_reducible exact hS | with_reducible refine Sl.alloc ?_ _ | (with_reducible refine Sl.setCell' ?_ ?_ _; (focus (first | omega | (simp; done) | (simp; omega)))) | with_reducible refine Sl.drewN ?_ _ | with_reducible refine Sl.drew ?_ | (with_reducible apply Sl.below; rotate_left; (with_reducible assumption)))) (by repeat (first | with_reducible exact hS2 | with_reducible refine Sl.alloc ?_ _ | (with_reducible refine Sl.setCell' ?_ ?_ _; (focus (first | omega | (simp; done) | (simp; omega)))) | with_reducible refine Sl.drewN ?_ _ | with_reducible refine Sl.drew ?_ | (with_reducible apply Sl.below; rotate_left; (with_reducible assumption))))).mono ?_; rintro e w3 ⟨rfl, hb2⟩; (have hJ := Below.trans hb1 (Below.mono hb2 (Below.size hb1)); clear hc1 hf1 hb1 hb2; have hb1 := hJ; clear hJ; obtain ⟨hc1, hf1⟩ := bcell hb1)
      go_wp2
      go_ret
      exact ⟨ret_bool (by simp [h1, h2]), (by repeat (first | with_reducible exact Below.refl _ _ | (with_reducible assumption) | (with_reducible refine bel_alloc ?_ ?_ _; (focus (first | omega | (simp; done) | (simp; omega)))) | (with_reducible refine bel_setCell ?_ ?_ _; (focus (first | omega | (simp; done) | (simp; omega)))) | with_reducible refine bel_drewN ?_ _ | with_reducible refine Below.drew ?_ | (with_reducible apply bel_join; (with_reducible assumption); (focus (first | omega | (simp; done) | (simp; omega))))))⟩
    · have h2 : okF s2 l2 = false := by simpa using h2
      go_enter Try.func26, Try.ntmps26
      go_wp2_with fail
      refine (fieldValid_any s A n c sh l lo hi _ (by repeat (first | with_reducible exact hS | with_reducible refine Sl.alloc ?_ _ | (with_reducible refine Sl.setCell' ?_ ?_ _; (focus (first | omega | (simp; done) | (simp; omega)))) | with_reducible refine Sl.drewN ?_ _ | with_reducible refine Sl.drew ?_ | (with_reducible apply Sl.below; rotate_left; (with_reducible assumption))))).mono ?_; rintro e w1 ⟨rfl, hb1⟩; obtain ⟨hc1, hf1⟩ := bcell hb1
      go_wp2_with fail
      refine (fieldValid_any s2 A2 n2 c2 sh2 l2 lo2 hi2 _ (by repeat (first | with_reducible exact hS2 | with_reducible refine Sl.alloc ?_ _ | (with_reducible refine Sl.setCell' ?_ ?_ _; (focus (first | omega | (simp; done) | (simp; omega)))) | with_reducible refine Sl.drewN ?_ _ | with_reducible refine Sl.drew ?_ | (with_reducible apply Sl.below; rotate_left; (with_reducible assumption))))).mono ?_; rintro e w2 ⟨rfl, hb2⟩; (have hJ := Below.trans hb1 (Below.mono hb2 (Below.size hb1)); clear hc1 hf1 hb1 hb2; have hb1 := hJ; clear hJ; obtain ⟨hc1, hf1⟩ := bcell hb1)
      go_wp2
      go_ret
      exact ⟨ret_bool (by simp [h2]), (by repeat (first | with_reducible exact Below.refl _ _ | (with_reducible assumption) | (with_reducible refine bel_alloc ?_ ?_ _; (focus (first | omega | (simp; done) | (simp; omega)))) | (with_reducible refine bel_setCell ?_ ?_ _; (focus (first | omega | (simp; done) | (simp; omega)))) | with_reducible refine bel_drewN ?_ _ | with_reducible refine Below.drew ?_ | (with_reducible apply bel_join; (with_reducible assumption); (focus (first | omega | (simp; done) | (simp; omega))))))⟩
  · have h1 : okF s l = false := by simpa using h1
    go_enter Try.func26, Try.ntmps26
    go_wp2_with fail
    refine (fieldValid_any s A n c sh l lo hi _ (by repeat (first | with_reducible exact hS | with_reducible refine Sl.alloc ?_ _ | (with_reducible refine Sl.setCell' ?_ ?_ _; (focus (first | omega | (simp; done) | (simp; omega)))) | with_reducible refine Sl.drewN ?_ _ | with_reducible refine Sl.drew ?_ | (with_reducible apply Sl.below; rotate_left; (with_reducible assumption))))).mono ?_; rintro e w1 ⟨rfl, hb1⟩; obtain ⟨hc1, hf1⟩ := bcell hb1
    go_wp2
    go_ret
    exact ⟨ret_bool (by simp [h1]), (by repeat (first | with_reducible exact Below.refl _ _ | (with_reducible assumption) | (with_reducible refine bel_alloc ?_ ?_ _; (focus (first | omega | (simp; done) | (simp; omega)))) | (with_reducible refine bel_setCell ?_ ?_ _; (focus (first | omega | (simp; done) | (simp; omega)))) | with_reducible refine bel_drewN ?_ _ | with_reducible refine Below.drew ?_ | (with_reducible apply bel_join; (with_reducible assumption); (focus (first | omega | (simp; done) | (simp; omega))))))⟩

end Go.Proofs.Ytpjbajfoahmleaa
