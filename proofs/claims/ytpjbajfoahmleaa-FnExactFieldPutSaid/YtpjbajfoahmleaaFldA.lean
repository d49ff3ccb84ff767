/- Contracts: fields: many, FieldValid, BallsMany. -/
import Derived.Test.YtpjbajfoahmleaaBase
namespace Go.Proofs.Ytpjbajfoahmleaa
set_option linter.unusedVariables false
open Go.RowKit

/-- The cells of a list of truths. -/
def bl (l : List Bool) : List Value := l.map .bool
theorem bl_len (l : List Bool) : (bl l).length = l.length := by simp [bl]
theorem bl_get (l : List Bool) (j : Nat) (h : j < l.length) : (bl l).getD j undef = .bool (l.getD j false) := by
  simp [bl, h]
/-- A slice of truths. -/
abbrev SlB (w : World) (lo hi : Nat) (A : Option Addr) (n c : Nat) (l : List Bool) : Prop := Sl w lo hi A n c 1 (bl l)
section
variable {w w' : World} {lo hi lo' : Nat} {A : Option Addr} {n c : Nat} {l : List Bool}
theorem slB_len (h : SlB w lo hi A n c l) : l.length = n := by have := Sl.len h; simpa [bl] using this
theorem slB_at (h : SlB w lo hi A n c l) (hn : 0 < n) : ∃ b off, A = some ⟨b, off, none⟩ ∧ lo ≤ b ∧ b < w.heap.size ∧ ∀ j, j < n → w.cell? ⟨b, off + j, none⟩ = some (.bool (l.getD j false)) ∧ w.frozen? ⟨b, off + j, none⟩ = false := by
  obtain ⟨b, off, e, h1, _, h2, h3⟩ := Sl.at h hn
  refine ⟨b, off, e, h1, h2, fun j hj => ?_⟩
  have := h3 j (by omega)
  rwa [bl_get l j (by have := slB_len h; omega)] at this
end
/-- How many are true. -/
def cnt (l : List Bool) : Nat := (l.filter id).length
theorem cnt_le (l : List Bool) : cnt l ≤ l.length := List.length_filter_le _ _
theorem cnt_snoc (l : List Bool) (k : Nat) (h : k < l.length) : cnt (l.take (k + 1)) = cnt (l.take k) + if l.getD k false = true then 1 else 0 := by
  rw [List.take_succ_eq_append_getElem h]
  simp only [cnt, List.filter_append, List.length_append]
  cases hk : l[k] <;> simp [h, hk]


set_option maxHeartbeats 400000 in
theorem many_any (s : Int) (A : Option Addr) (n c : Nat) (sh : Bool) (l : List Bool) (lo hi : Nat) (w : World) (hS : SlB w lo hi A n c l) :
    Calls Try.prog 42 #[.agg #[.int .i64 s, .slice A n c, .bool sh]] w fun e w' => e = .returned (.int .i64 (cnt l : Nat)) ∧ Below w.heap.size w w' := by
  have hm := Sl.max hS
  have hc := Sl.cap hS
  have hl := slB_len hS
  have hat := Lib.hid (fun hn => slB_at hS hn)
  have hlH := Lib.hid hl
  clear hS hl
  go_enter Try.func42, Try.ntmps42
  go_wp2
  go_loopw [3, 5, 9] (fun m v i wr => ∃ k : Nat, k ≤ n ∧ i = .int .i64 k ∧ m = .int .i64 (cnt (l.take k) : Nat) ∧ Below w.heap.size w wr) (fun _ _ i _ => n - (intOf i).toNat)
  case atStart => exact ⟨0, Nat.zero_le _, rfl, rfl, (Below.refl _ _).alloc (Nat.le_refl _) _⟩
  case round =>
    obtain ⟨k, hk, rfl, rfl, hb⟩ := hrel
    have hle := cnt_le (l.take k)
    have hle2 : (l.take k).length ≤ k := List.length_take_le _ _
    by_cases hlt : k < n
    · obtain ⟨b, off, rfl, _, hbw, hcell⟩ := hat.out (by omega)
      have hx : wr.cell? ⟨b, off + k, none⟩ = some (.bool (l.getD k false)) := (hb.cell (p := ⟨b, off + k, none⟩) hbw).trans (hcell k hlt).1
      have hs := Lib.hid (cnt_snoc l k (by have := hlH.out; omega))
      clear hcell
      go_wp2
      all_goals
        go_roundw
        case rel => exact ⟨k + 1, by omega, by go_num, by rw [hs.out]; simp [*], hb⟩
        case measure => simp [intOf]; omega
    · go_wp2
      go_ret
      exact ⟨ret_int (by rw [List.take_of_length_le (by have := hlH.out; omega)]), hb⟩

/-- A valid field. -/
def okF (s : Int) (l : List Bool) : Bool := decide (2 ≤ s) && decide (s ≤ 8) && decide (s % 2 = 0) && decide ((l.length : Int) = s * s) && decide (cnt l ≤ 12)


set_option maxHeartbeats 400000 in
theorem fieldValid_any (s : Int) (A : Option Addr) (n c : Nat) (sh : Bool) (l : List Bool) (lo hi : Nat) (w : World) (hS : SlB w lo hi A n c l) :
    Calls Try.prog 20 #[.agg #[.int .i64 s, .slice A n c, .bool sh]] w fun e w' => e = .returned (.bool (okF s l)) ∧ Below w.heap.size w w' := by
  have hl := slB_len hS
  by_cases h1 : 2 ≤ s ∧ s ≤ 8
  · obtain ⟨h1, h2⟩ := h1
    have hib : inB s 2 8 = true := by simp [inB]; omega
    have hs1 : 0 ≤ s * s := by apply Int.mul_nonneg <;> omega
    have hs2 : s * s ≤ 8 * 8 := by apply Int.mul_le_mul <;> omega
    by_cases h3 : s % 2 = 0
    · have hp : (s % 2 == 1) = false := by simp; omega
      have h3H := Lib.hid h3
      clear h3
      by_cases h4 : (n : Int) = s * s
      · have hq : ((n : Int) != s * s) = false := by simp [h4]
        have hH := Lib.hid h4
        have hlH := Lib.hid hl
        clear h4 hl
        go_enter Try.func20, Try.ntmps20
        go_wp2_with (first | (go_at_call 41; refine (within_any _ _ _ _).mono ?_; rintro e w' ⟨rfl, rfl⟩) | (go_at_call 42; refine (many_any s A n c sh l lo hi _ (by repeat (first | with_reducible exact hS | with_reducible refine Sl.alloc ?_ _ | (with_reducible refine Sl.setCell' ?_ ?_ _; (focus (first | omega | (simp; done) | (simp; omega)))) | with_reducible refine Sl.drewN ?_ _ | with_reducible refine Sl.drew ?_ | (with_reducible apply Sl.below; rotate_left; (with_reducible assumption))))).mono ?_; rintro e w1 ⟨rfl, hb⟩))
        go_ret
        refine ⟨ret_bool ?_, (by repeat (first | with_reducible exact Below.refl _ _ | (with_reducible assumption) | (with_reducible refine bel_alloc ?_ ?_ _; (focus (first | omega | (simp; done) | (simp; omega)))) | (with_reducible refine bel_setCell ?_ ?_ _; (focus (first | omega | (simp; done) | (simp; omega)))) | with_reducible refine bel_drewN ?_ _ | with_reducible refine Below.drew ?_ | (with_reducible apply bel_join; (with_reducible assumption); (focus (first | omega | (simp; done) | (simp; omega))))))⟩
        have e1 := hlH.out; have e2 := hH.out; have e3 := h3H.out
        simp only [okF, e1, e2, e3, h1, h2]
        by_cases hc : cnt l ≤ 12 <;> simp [hc] <;> omega
      · have hq : ((n : Int) != s * s) = true := by simp [h4]
        have hlH := Lib.hid hl
        clear hl
        go_enter Try.func20, Try.ntmps20
        go_wp2_with (first | (go_at_call 41; refine (within_any _ _ _ _).mono ?_; rintro e w' ⟨rfl, rfl⟩))
        go_ret
        exact ⟨ret_bool (by rw [← hlH.out] at h4; simp [okF, h4]), (by repeat (first | with_reducible exact Below.refl _ _ | (with_reducible assumption) | (with_reducible refine bel_alloc ?_ ?_ _; (focus (first | omega | (simp; done) | (simp; omega)))) | (with_reducible refine bel_setCell ?_ ?_ _; (focus (first | omega | (simp; done) | (simp; omega)))) | with_reducible refine bel_drewN ?_ _ | with_reducible refine Below.drew ?_ | (with_reducible apply bel_join; (with_reducible assumption); (focus (first | omega | (simp; done) | (simp; omega))))))⟩
    · have hp : (s % 2 == 1) = true := by simp; omega
      go_enter Try.func20, Try.ntmps20
      go_wp2_with (first | (go_at_call 41; refine (within_any _ _ _ _).mono ?_; rintro e w' ⟨rfl, rfl⟩))
      go_ret
      exact ⟨ret_bool (by simp [okF, h3]), (by repeat (first | with_reducible exact Below.refl _ _ | (with_reducible assumption) | (with_reducible refine bel_alloc ?_ ?_ _; (focus (first | omega | (simp; done) | (simp; omega)))) | (with_reducible refine bel_setCell ?_ ?_ _; (focus (first | omega | (simp; done) | (simp; omega)))) | with_reducible refine bel_drewN ?_ _ | with_reducible refine Below.drew ?_ | (with_reducible apply bel_join; (with_reducible assumption); (focus (first | omega | (simp; done) | (simp; omega))))))⟩
  · have hib : inB s 2 8 = false := by simp [inB]; omega
    go_enter Try.func20, Try.ntmps20
    go_wp2_with (first | (go_at_call 41; refine (within_any _ _ _ _).mono ?_; rintro e w' ⟨rfl, rfl⟩))
    go_ret
    exact ⟨ret_bool (by simp [okF]; omega), (by repeat (first | with_reducible exact Below.refl _ _ | (with_reducible assumption) | (with_reducible refine bel_alloc ?_ ?_ _; (focus (first | omega | (simp; done) | (simp; omega)))) | (with_reducible refine bel_setCell ?_ ?_ _; (focus (first | omega | (simp; done) | (simp; omega)))) | with_reducible refine bel_drewN ?_ _ | with_reducible refine Below.drew ?_ | (with_reducible apply bel_join; (with_reducible assumption); (focus (first | omega | (simp; done) | (simp; omega))))))⟩

end Go.Proofs.Ytpjbajfoahmleaa
