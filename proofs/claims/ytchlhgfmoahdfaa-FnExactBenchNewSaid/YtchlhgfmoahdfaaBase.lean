/- Contracts of the small functions: within, l1In, linesOk, WordValid, alive. -/
import Derived.Test.YtchlhgfmoahdfaaRows
import Derived.Test.YtchlhgfmoahdfaaLib
namespace Go.Proofs.Ytchlhgfmoahdfaa
set_option linter.unusedVariables false
open Go.RowKit


set_option maxHeartbeats 400000 in
theorem within_any (n a b : Int) (w : World) :
    Calls Try.prog 28 #[.int .i64 n, .int .i64 a, .int .i64 b] w fun e w' => e = .returned (.bool (inB n a b)) ∧ w = w' := by
  go_enter Try.func28, Try.ntmps28
  go_wp2
  all_goals (go_ret; refine ⟨ret_bool ?_, rfl⟩; simp [inB]; try omega)


set_option maxHeartbeats 400000 in
theorem l1In_any (n a b : Int) (w : World) :
    Calls Try.prog 24 #[.int .i64 n, .int .i64 a, .int .i64 b] w fun e w' => e = .returned (.bool (inB n a b)) ∧ w = w' := by
  go_enter Try.func24, Try.ntmps24
  go_wp2
  all_goals (go_ret; refine ⟨ret_bool ?_, rfl⟩; simp [inB]; try omega)

/-- A number of lines. -/
def okL (n : Int) : Bool := inB n 1 8
/-- A valid word. -/
def okW (n x : Int) : Bool := okL n && inB x 0 (pw n - 1)
theorem okL_bd {n : Int} (h : okL n = true) : 1 ≤ n ∧ n ≤ 8 := by simpa [okL, inB] using h
theorem okW_bd {n x : Int} (h : okW n x = true) : 1 ≤ n ∧ n ≤ 8 ∧ 0 ≤ x ∧ x < pw n := by
  simp [okW, okL, inB] at h; omega

set_option maxHeartbeats 400000 in
theorem linesOk_any (n : Int) (w : World) :
    Calls Try.prog 34 #[.int .i64 n] w fun e w' => e = .returned (.bool (okL n)) ∧ w = w' := by
  go_enter Try.func34, Try.ntmps34
  go_wp2_with (go_at_call 28; refine (within_any _ _ _ _).mono ?_; rintro e w' ⟨rfl, rfl⟩)
  go_ret; exact ⟨rfl, rfl⟩


set_option maxHeartbeats 400000 in
theorem wordValid_any (n x : Int) (w : World) :
    Calls Try.prog 18 #[.int .i64 n, .int .i64 x] w fun e w' => e = .returned (.bool (okW n x)) ∧ w = w' := by
  by_cases h : okL n = true
  · have hb := okL_bd h
    have h0 : 0 ≤ n := by omega
    have hw := wrap_pw h0 (by omega)
    have hw2 := wrap_pw2 h0 (by omega)
    have hw3 := wrap_pw3 h0 (by omega)
    have hp := pw_pos n
    have hq : pw n ≤ 256 := pw_le (m := 8) hb.2
    go_enter Try.func18, Try.ntmps18
    go_wp2_with (first | (go_at_call 34; refine (linesOk_any _ _).mono ?_; rintro e w' ⟨rfl, rfl⟩) | (go_at_call 28; refine (within_any _ _ _ _).mono ?_; rintro e w' ⟨rfl, rfl⟩))
    go_ret
    exact ⟨ret_bool (by simp [okW, h]), rfl⟩
  · have h : okL n = false := by simpa using h
    go_enter Try.func18, Try.ntmps18
    go_wp2_with (first | (go_at_call 34; refine (linesOk_any _ _).mono ?_; rintro e w' ⟨rfl, rfl⟩))
    go_ret
    exact ⟨ret_bool (by simp [okW, h]), rfl⟩


set_option maxHeartbeats 400000 in
theorem specWordValid_any (n x : Int) (w : World) :
    Calls Try.prog 17 #[.int .i64 n, .int .i64 x] w fun e w' => e = .returned (.bool (okW n x)) ∧ w = w' := by
  by_cases h : okL n = true
  · have hb := okL_bd h
    have h0 : 0 ≤ n := by omega
    have hw := wrap_pw h0 (by omega)
    have hw2 := wrap_pw2 h0 (by omega)
    have hw3 := wrap_pw3 h0 (by omega)
    have hp := pw_pos n
    have hq : pw n ≤ 256 := pw_le (m := 8) hb.2
    have hi : inB n 1 8 = true := h
    go_enter Try.func17, Try.ntmps17
    go_wp2_with (first | (go_at_call 24; refine (l1In_any _ _ _ _).mono ?_; rintro e w' ⟨rfl, rfl⟩))
    go_ret
    exact ⟨ret_bool (by simp [okW, h]), rfl⟩
  · have h : okL n = false := by simpa using h
    have hi : inB n 1 8 = false := h
    go_enter Try.func17, Try.ntmps17
    go_wp2_with (first | (go_at_call 24; refine (l1In_any _ _ _ _).mono ?_; rintro e w' ⟨rfl, rfl⟩))
    go_ret
    exact ⟨ret_bool (by simp [okW, h]), rfl⟩











end Go.Proofs.Ytchlhgfmoahdfaa
