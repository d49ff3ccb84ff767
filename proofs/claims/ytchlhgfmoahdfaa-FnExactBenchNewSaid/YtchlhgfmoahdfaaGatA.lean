/- Gates as numbers; slices of gates; what the exact laws do with them. -/
import Derived.Test.YtchlhgfmoahdfaaBase
import Derived.Deep.RegionHeld3
import Derived.Deep.DrawnRows
namespace Go.Proofs.Ytchlhgfmoahdfaa
set_option linter.unusedVariables false
open Go.RowKit

/-- A gate: its kind and its lines A, B, C. -/
abbrev G4 : Type := Int × Int × Int × Int
/-- The cells of a list of gates. -/
def gl (gs : List G4) : List Value := gs.flatMap fun g => [.int .i64 g.1, .int .i64 g.2.1, .int .i64 g.2.2.1, .int .i64 g.2.2.2]
theorem gl_nil : gl [] = [] := rfl
theorem gl_cons (g : G4) (gs : List G4) : gl (g :: gs) = .int .i64 g.1 :: .int .i64 g.2.1 :: .int .i64 g.2.2.1 :: .int .i64 g.2.2.2 :: gl gs := by simp [gl]
theorem gl_append (a b : List G4) : gl (a ++ b) = gl a ++ gl b := by simp [gl]
theorem gl_len (gs : List G4) : (gl gs).length = gs.length * 4 := by
  induction gs with
  | nil => rfl
  | cons g gs ih => rw [gl_cons]; simp [ih]; omega
def g0 : G4 := (0, 0, 0, 0)
theorem gl_get (gs : List G4) (j : Nat) (h : j < gs.length) : (gl gs).getD (j * 4) undef = .int .i64 (gs.getD j g0).1 ∧ (gl gs).getD (j * 4 + 1) undef = .int .i64 (gs.getD j g0).2.1 ∧
    (gl gs).getD (j * 4 + 2) undef = .int .i64 (gs.getD j g0).2.2.1 ∧ (gl gs).getD (j * 4 + 3) undef = .int .i64 (gs.getD j g0).2.2.2 := by
  induction gs generalizing j with
  | nil => simp at h
  | cons g gs ih =>
    cases j with
    | zero => simp [gl_cons]
    | succ j =>
      have := ih j (by simpa using h)
      rw [gl_cons, show (j + 1) * 4 = j * 4 + 1 + 1 + 1 + 1 by omega]
      simpa [List.getD_cons_succ, Nat.add_right_comm] using this
theorem gl_one (gs : List G4) : ∀ u ∈ gl gs, u.oneCell' = true := by
  intro u hu
  simp [gl] at hu
  obtain ⟨a, b, c, d, _, h⟩ := hu
  rcases h with rfl | rfl | rfl | rfl <;> rfl
/-- A slice of gates. -/
abbrev SlG (w : World) (lo hi : Nat) (A : Option Addr) (n c : Nat) (gs : List G4) : Prop := Sl w lo hi A n c 4 (gl gs)
section
variable {w : World} {lo hi : Nat} {A : Option Addr} {n c : Nat} {gs : List G4}
theorem slG_len (h : SlG w lo hi A n c gs) : gs.length = n := by have := Sl.len h; rw [gl_len] at this; omega
/-- The four cells of a gate in memory. -/
def GAt (w : World) (b o : Nat) (g : G4) : Prop := w.cell? ⟨b, o, none⟩ = some (.int .i64 g.1) ∧ w.cell? ⟨b, o + 1, none⟩ = some (.int .i64 g.2.1) ∧ w.cell? ⟨b, o + 2, none⟩ = some (.int .i64 g.2.2.1) ∧ w.cell? ⟨b, o + 3, none⟩ = some (.int .i64 g.2.2.2)
theorem slG_at (h : SlG w lo hi A n c gs) (hn : 0 < n) : ∃ b off, A = some ⟨b, off, none⟩ ∧ lo ≤ b ∧ b < hi ∧ b < w.heap.size ∧ ∀ j, j < n → GAt w b (off + j * 4) (gs.getD j g0) ∧ ∀ r, r < 4 → w.frozen? ⟨b, off + j * 4 + r, none⟩ = false := by
  obtain ⟨b, off, e, h1, h2, h3, h4⟩ := Sl.at h hn
  refine ⟨b, off, e, h1, h2, h3, fun j hj => ⟨?_, fun r hr => ?_⟩⟩
  · have hl := slG_len h
    obtain ⟨e0, e1, e2, e3⟩ := gl_get gs j (by omega)
    refine ⟨?_, ?_, ?_, ?_⟩
    · rw [(h4 (j * 4) (by omega)).1, e0]
    · rw [Nat.add_assoc, (h4 (j * 4 + 1) (by omega)).1, e1]
    · rw [Nat.add_assoc, (h4 (j * 4 + 2) (by omega)).1, e2]
    · rw [Nat.add_assoc, (h4 (j * 4 + 3) (by omega)).1, e3]
  · rw [Nat.add_assoc]; exact (h4 (j * 4 + r) (by omega)).2
theorem GAt.keep {w' : World} {b o : Nat} {g : G4} (h : GAt w b o g) (hb : Below w.heap.size w w') (hlt : b < w.heap.size) : GAt w' b o g :=
  ⟨(hb.cell (p := ⟨b, o, none⟩) hlt).trans h.1, (hb.cell (p := ⟨b, o + 1, none⟩) hlt).trans h.2.1, (hb.cell (p := ⟨b, o + 2, none⟩) hlt).trans h.2.2.1, (hb.cell (p := ⟨b, o + 3, none⟩) hlt).trans h.2.2.2⟩
end

/-- Two gates are equal. -/
def eqG (g g2 : G4) : Bool := decide (g = g2)
theorem eqG_split (k a b c k2 a2 b2 c2 : Int) : eqG (k, a, b, c) (k2, a2, b2, c2) = (decide (k = k2) && decide (a = a2) && decide (b = b2) && decide (c = c2)) := by
  simp [eqG, Bool.and_assoc]

set_option maxHeartbeats 400000 in
theorem eqGate_any (k a b c k2 a2 b2 c2 : Int) (w : World) :
    Calls Try.prog 35 #[.agg #[.int .i64 k, .int .i64 a, .int .i64 b, .int .i64 c], .agg #[.int .i64 k2, .int .i64 a2, .int .i64 b2, .int .i64 c2]] w fun e w' => e = .returned (.bool (eqG (k, a, b, c) (k2, a2, b2, c2))) ∧ Below w.heap.size w w' := by
  rw [eqG_split]
  go_enter Try.func35, Try.ntmps35
  go_wp2
  all_goals
    go_ret
    refine ⟨ret_bool ?_, (by repeat (first | with_reducible exact Below.refl _ _ | (with_reducible assumption) | (with_reducible refine bel_alloc ?_ ?_ _; (focus (first | omega | (simp; done) | (simp; omega)))) | (with_reducible refine bel_setCell ?_ ?_ _; (focus (first | omega | (simp; done) | (simp; omega)))) | with_reducible refine bel_drewN ?_ _ | with_reducible refine Below.drew ?_ | (with_reducible apply bel_join; (with_reducible assumption); (focus (first | omega | (simp; done) | (simp; omega))))))⟩
    simp_all

/-- Two lists of gates are equal. -/
def eqGs (gs gs2 : List G4) : Bool := decide (gs = gs2)

set_option maxHeartbeats 800000 in
theorem eqGateS_any (A : Option Addr) (n c : Nat) (l : List G4) (lo hi : Nat) (A2 : Option Addr) (n2 c2 : Nat) (l2 : List G4) (lo2 hi2 : Nat) (w : World) (hS : SlG w lo hi A n c l) (hS2 : SlG w lo2 hi2 A2 n2 c2 l2) :
    Calls Try.prog 19 #[.slice A n c, .slice A2 n2 c2] w fun e w' => e = .returned (.bool (eqGs l l2)) ∧ Below w.heap.size w w' := by
  have hm := Sl.max hS
  have hc := Sl.cap hS
  have hl := Lib.hid (slG_len hS)
  have hl2 := Lib.hid (slG_len hS2)
  have hat := Lib.hid (fun hn => slG_at hS hn)
  have hat2 := Lib.hid (fun hn => slG_at hS2 hn)
  clear hS hS2
  by_cases hn : n = n2
  · subst hn
    have hq : ((n : Int) != n) = false := by simp
    go_enter Try.func19, Try.ntmps19
    go_wp2
    go_loopw [5] (fun i wr => ∃ k : Nat, k ≤ n ∧ i = .int .i64 k ∧ Hid (l.take k = l2.take k) ∧ Below w.heap.size w wr) (fun i _ => n - (intOf i).toNat)
    case atStart => exact ⟨0, Nat.zero_le _, rfl, Lib.hid (by simp), Below.refl _ _⟩
    case round =>
      obtain ⟨k, hk, rfl, hpre, hb⟩ := hrel
      by_cases hlt : k < n
      · obtain ⟨b, off, rfl, _, _, hbw, hcell⟩ := hat.out (by omega)
        obtain ⟨b2, off2, rfl, _, _, hbw2, hcell2⟩ := hat2.out (by omega)
        have hx := GAt.keep (hcell k hlt).1 hb hbw
        have hx2 := GAt.keep (hcell2 k hlt).1 hb hbw2
        have hI : (k : Int) < (n : Int) := by omega
        have hJ : (0 : Int) ≤ (k : Int) := by omega
        have hbz := hb.size
        have hbr : b < wr.heap.size := Nat.lt_of_lt_of_le hbw hb.size
        have hbr2 : b2 < wr.heap.size := Nat.lt_of_lt_of_le hbw2 hb.size
        clear hcell hcell2
        have hq2 : Hid (∀ x y, l.getD k g0 = x → l2.getD k g0 = y → (eqG x y = true → l.take (k + 1) = l2.take (k + 1)) ∧ (eqG x y = false → l ≠ l2)) := Lib.hid (by
          intro x y hx hy
          refine ⟨fun h => ?_, fun h => ?_⟩
          · have := of_decide_eq_true h
            subst this
            have hh : l.getD k g0 = l2.getD k g0 := hx.trans hy.symm
            have h1 : k < l.length := by have := hl.out; omega
            have h2 : k < l2.length := by have := hl2.out; omega
            rw [List.take_succ_eq_append_getElem h1, List.take_succ_eq_append_getElem h2, hpre.out]
            simp [h1, h2] at hh
            simp [hh]
          · have := of_decide_eq_false h
            intro e
            subst e
            exact this (hx.symm.trans hy))
        generalize hgx : l.getD k g0 = x at hx
        generalize hgy : l2.getD k g0 = y at hx2
        have hq3 := Lib.hid (hq2.out x y hgx hgy)
        clear hgx hgy hq2
        obtain ⟨x0, x1, x2, x3⟩ := x
        obtain ⟨y0, y1, y2, y3⟩ := y
        obtain ⟨p0, p1, p2, p3⟩ := hx
        obtain ⟨r0, r1, r2, r3⟩ := hx2
        dsimp only at p0 p1 p2 p3 r0 r1 r2 r3
        by_cases hv : eqG (x0, x1, x2, x3) (y0, y1, y2, y3) = true
        · have hs : Hid (l.take (k + 1) = l2.take (k + 1)) := Lib.hid (hq3.out.1 hv)
          go_wp2_with fail
          go_region_held3 (fun w' => w'.cell? ⟨b, off + k * 4, none⟩ = some (.int .i64 x0) ∧ w'.cell? ⟨b, off + k * 4 + 1, none⟩ = some (.int .i64 x1) ∧ w'.cell? ⟨b, off + k * 4 + 2, none⟩ = some (.int .i64 x2) ∧ w'.cell? ⟨b, off + k * 4 + 3, none⟩ = some (.int .i64 x3) ∧ w'.cell? ⟨b2, off2 + k * 4, none⟩ = some (.int .i64 y0) ∧ w'.cell? ⟨b2, off2 + k * 4 + 1, none⟩ = some (.int .i64 y1) ∧ w'.cell? ⟨b2, off2 + k * 4 + 2, none⟩ = some (.int .i64 y2) ∧ w'.cell? ⟨b2, off2 + k * 4 + 3, none⟩ = some (.int .i64 y3)) (first | go_keep | (exact ⟨(hc1 _ _ hbr).trans p0, (hc1 _ _ hbr).trans p1, (hc1 _ _ hbr).trans p2, (hc1 _ _ hbr).trans p3, (hc1 _ _ hbr2).trans r0, (hc1 _ _ hbr2).trans r1, (hc1 _ _ hbr2).trans r2, (hc1 _ _ hbr2).trans r3⟩))
            ((go_at_call 35; refine (eqGate_any x0 x1 x2 x3 y0 y1 y2 y3 _).mono ?_; rintro e w1 ⟨rfl, hb1⟩; rw [hv]; obtain ⟨hc1, hf1⟩ := bcell hb1))
          go_wp2
          go_roundw
          case rel => exact ⟨k + 1, by omega, by go_num, hs, (by repeat (first | with_reducible exact Below.refl _ _ | (with_reducible assumption) | (with_reducible refine bel_alloc ?_ ?_ _; (focus (first | omega | (simp; done) | (simp; omega)))) | (with_reducible refine bel_setCell ?_ ?_ _; (focus (first | omega | (simp; done) | (simp; omega)))) | with_reducible refine bel_drewN ?_ _ | with_reducible refine Below.drew ?_ | (with_reducible apply bel_join; (with_reducible assumption); (focus (first | omega | (simp; done) | (simp; omega))))))⟩
          case measure => simp [intOf]; omega
        · have hv : eqG (x0, x1, x2, x3) (y0, y1, y2, y3) = false := by simpa using hv
          have hs : Hid (l ≠ l2) := Lib.hid (hq3.out.2 hv)
          go_wp2_with fail
          go_region_held3 (fun w' => w'.cell? ⟨b, off + k * 4, none⟩ = some (.int .i64 x0) ∧ w'.cell? ⟨b, off + k * 4 + 1, none⟩ = some (.int .i64 x1) ∧ w'.cell? ⟨b, off + k * 4 + 2, none⟩ = some (.int .i64 x2) ∧ w'.cell? ⟨b, off + k * 4 + 3, none⟩ = some (.int .i64 x3) ∧ w'.cell? ⟨b2, off2 + k * 4, none⟩ = some (.int .i64 y0) ∧ w'.cell? ⟨b2, off2 + k * 4 + 1, none⟩ = some (.int .i64 y1) ∧ w'.cell? ⟨b2, off2 + k * 4 + 2, none⟩ = some (.int .i64 y2) ∧ w'.cell? ⟨b2, off2 + k * 4 + 3, none⟩ = some (.int .i64 y3)) (first | go_keep | (exact ⟨(hc1 _ _ hbr).trans p0, (hc1 _ _ hbr).trans p1, (hc1 _ _ hbr).trans p2, (hc1 _ _ hbr).trans p3, (hc1 _ _ hbr2).trans r0, (hc1 _ _ hbr2).trans r1, (hc1 _ _ hbr2).trans r2, (hc1 _ _ hbr2).trans r3⟩))
            ((go_at_call 35; refine (eqGate_any x0 x1 x2 x3 y0 y1 y2 y3 _).mono ?_; rintro e w1 ⟨rfl, hb1⟩; rw [hv]; obtain ⟨hc1, hf1⟩ := bcell hb1))
          go_wp2
          go_ret
          exact ⟨ret_bool (by simp [eqGs, hs.out]), (by repeat (first | with_reducible exact Below.refl _ _ | (with_reducible assumption) | (with_reducible refine bel_alloc ?_ ?_ _; (focus (first | omega | (simp; done) | (simp; omega)))) | (with_reducible refine bel_setCell ?_ ?_ _; (focus (first | omega | (simp; done) | (simp; omega)))) | with_reducible refine bel_drewN ?_ _ | with_reducible refine Below.drew ?_ | (with_reducible apply bel_join; (with_reducible assumption); (focus (first | omega | (simp; done) | (simp; omega))))))⟩
      · go_wp2
        go_ret
        have := hpre.out
        rw [List.take_of_length_le (by have := hl.out; omega), List.take_of_length_le (by have := hl2.out; omega)] at this
        exact ⟨ret_bool (by simp [eqGs, this]), hb⟩
  · have hq : ((n : Int) != n2) = true := by simp; omega
    go_enter Try.func19, Try.ntmps19
    go_wp2
    go_ret
    exact ⟨ret_bool (by have h1 := hl.out; have h2 := hl2.out; simp [eqGs]; intro h; subst h; omega), Below.refl _ _⟩


/-- The marks of gates from a number on. -/
def mkG (k : Int) (n : Nat) : List G4 := (List.range n).map fun j => (k + 4 * (j : Nat), k + 4 * (j : Nat) + 1, k + 4 * (j : Nat) + 2, k + 4 * (j : Nat) + 3)
theorem mkG_len (k : Int) (n : Nat) : (mkG k n).length = n := by simp [mkG]
def mkGTo (k : Int) (l : List G4) (j : Nat) : List G4 := mkG k j ++ l.drop j
theorem mkGTo_zero (k : Int) (l : List G4) : mkGTo k l 0 = l := by simp [mkGTo, mkG]
theorem mkGTo_full (k : Int) (l : List G4) (n : Nat) (h : l.length = n) : mkGTo k l n = mkG k n := by simp [mkGTo, ← h]
theorem set_app (a : List Value) (x0 x1 x2 x3 y0 y1 y2 y3 : Value) (r : List Value) (m : Nat) (h : a.length = m) :
    ((((a ++ x0 :: x1 :: x2 :: x3 :: r).set m y0).set (m + 1) y1).set (m + 2) y2).set (m + 3) y3 = a ++ y0 :: y1 :: y2 :: y3 :: r := by
  subst h
  simp [List.set_append_right]
theorem mkGTo_step (k : Int) (l : List G4) (j : Nat) (h : j < l.length) :
    (((((gl (mkGTo k l j)).set (j * 4) (.int .i64 (k + 4 * (j : Nat)))).set (j * 4 + 1) (.int .i64 (k + 4 * (j : Nat) + 1))).set (j * 4 + 2) (.int .i64 (k + 4 * (j : Nat) + 2))).set (j * 4 + 3) (.int .i64 (k + 4 * (j : Nat) + 3))) = gl (mkGTo k l (j + 1)) := by
  unfold mkGTo
  rw [List.drop_eq_getElem_cons h, gl_append, gl_cons, set_app _ _ _ _ _ _ _ _ _ _ _ (by rw [gl_len, mkG_len])]
  simp [mkG, List.range_succ, gl_append, gl_cons]

set_option maxHeartbeats 800000 in
theorem markGateS_any (A : Option Addr) (n c : Nat) (l : List G4) (lo hi : Nat) (k : Int) (w : World) (hS : SlG w lo hi A n c l) (hn : n ≤ 1048576) (h0 : 0 ≤ k) (h1 : k ≤ 8388608) :
    Calls Try.prog 20 #[.slice A n c, .int .i64 k] w fun e w' => e = .returned (.int .i64 (k + 4 * n)) ∧ SlG w' lo hi A n c (mkG k n) ∧ But lo hi w w' := by
  have hc := Sl.cap hS
  have hm := Sl.max hS
  have hl := Lib.hid (slG_len hS)
  go_enter Try.func20, Try.ntmps20
  go_wp2
  go_loopw [1, 5] (fun kk i wr => ∃ j : Nat, j ≤ n ∧ i = .int .i64 j ∧ kk = .int .i64 (k + 4 * j) ∧ SlG wr lo hi A n c (mkGTo k l j) ∧ But lo hi w wr) (fun _ i _ => n - (intOf i).toNat)
  case atStart => exact ⟨0, Nat.zero_le _, rfl, by go_num, by rw [mkGTo_zero]; exact hS, But.refl _ _ _⟩
  case round =>
    obtain ⟨j, hj, rfl, rfl, hsl, hb⟩ := hrel
    by_cases hlt : j < n
    · obtain ⟨b, off, rfl, hb1, hb2, hb3, hcell⟩ := slG_at hsl (by omega)
      obtain ⟨⟨p0, p1, p2, p3⟩, hf⟩ := hcell j (by omega)
      have f0 := hf 0 (by omega); have f1 := hf 1 (by omega); have f2 := hf 2 (by omega); have f3 := hf 3 (by omega)
      rw [Nat.add_zero] at f0
      have hs2 := Sl.set (Sl.set (Sl.set (Sl.set hsl (j * 4) (by omega) (.int .i64 (k + 4 * (j : Nat)))) (j * 4 + 1) (by omega) (.int .i64 (k + 4 * (j : Nat) + 1))) (j * 4 + 2) (by omega) (.int .i64 (k + 4 * (j : Nat) + 2))) (j * 4 + 3) (by omega) (.int .i64 (k + 4 * (j : Nat) + 3))
      rw [mkGTo_step k l j (by have := hl.out; omega)] at hs2
      simp only [← Nat.add_assoc] at hs2
      rw [show k + 4 * (j : Int) + 3 = k + 4 * (j : Int) + 1 + 1 + 1 by omega, show k + 4 * (j : Int) + 2 = k + 4 * (j : Int) + 1 + 1 by omega] at hs2
      have hJ : (0 : Int) ≤ (j : Int) := by omega
      have hI : (j : Int) < (n : Int) := by omega
      clear hcell hf
      go_wp2
      go_roundw
      case rel => exact ⟨j + 1, by omega, by go_num, by go_num, hs2, (((hb.setCell ⟨hb1, hb2⟩ _).setCell ⟨hb1, hb2⟩ _).setCell ⟨hb1, hb2⟩ _).setCell ⟨hb1, hb2⟩ _⟩
      case measure => simp [intOf]; omega
    · go_wp2
      go_ret
      obtain rfl : j = n := by omega
      rw [mkGTo_full k l j hl.out] at hsl
      exact ⟨rfl, hsl, hb⟩


theorem mkG_get (k : Int) (n j : Nat) (h : j < n) : (mkG k n).getD j g0 = (k + 4 * (j : Nat), k + 4 * (j : Nat) + 1, k + 4 * (j : Nat) + 2, k + 4 * (j : Nat) + 3) := by simp [mkG, h]
set_option maxHeartbeats 800000 in
theorem heldGateS_any (A : Option Addr) (n c : Nat) (lo hi : Nat) (k : Int) (w : World) (hS : SlG w lo hi A n c (mkG k n)) (hn : n ≤ 1048576) (h0 : 0 ≤ k) (h1 : k ≤ 8388608) :
    Calls Try.prog 21 #[.slice A n c, .int .i64 k] w fun e w' => e = .returned (.int .i64 (k + 4 * n)) ∧ w = w' := by
  have hc := Sl.cap hS
  have hm := Sl.max hS
  have hat := Lib.hid (fun hn => slG_at hS hn)
  go_enter Try.func21, Try.ntmps21
  go_wp2
  go_loop [1, 5] (fun kk i => ∃ j : Nat, j ≤ n ∧ i = .int .i64 j ∧ kk = .int .i64 (k + 4 * j)) (fun _ i => n - (intOf i).toNat)
  case atStart => exact ⟨0, Nat.zero_le _, rfl, by go_num⟩
  case round =>
    obtain ⟨j, hj, rfl, rfl⟩ := hrel
    by_cases hlt : j < n
    · obtain ⟨b, off, rfl, _, _, _, hcell⟩ := hat.out (by omega)
      obtain ⟨⟨p0, p1, p2, p3⟩, _⟩ := hcell j (by omega)
      rw [mkG_get k n j hlt] at p0 p1 p2 p3
      dsimp only at p0 p1 p2 p3
      have hJ : (0 : Int) ≤ (j : Int) := by omega
      have hI : (j : Int) < (n : Int) := by omega
      clear hcell
      go_wp2
      go_round
      case rel => exact ⟨j + 1, by omega, by go_num, by go_num⟩
      case measure => simp [intOf]; omega
    · go_wp2
      go_ret
      obtain rfl : j = n := by omega
      exact ⟨rfl, rfl⟩

end Go.Proofs.Ytchlhgfmoahdfaa
