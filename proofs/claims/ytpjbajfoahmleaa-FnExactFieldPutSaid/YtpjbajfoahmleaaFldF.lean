/- Contracts: fields: FieldPut of both. -/
import Derived.Test.YtpjbajfoahmleaaFldE
import Derived.Deep.RegionLaw
import Derived.Deep.DeepCutAuto
namespace Go.Proofs.Ytpjbajfoahmleaa
set_option linter.unusedVariables false
open Go.RowKit

/-- A field and a truth, its balls in memory of its own. -/
def RetFB (w : World) (s : Int) (l : List Bool) (sh ok : Bool) (e : Ending) (w' : World) : Prop :=
  ∃ A n c, e = .returned (.tuple #[.agg #[.int .i64 s, .slice A n c, .bool sh], .bool ok]) ∧ SlB w' w.heap.size w'.heap.size A n c l ∧ Below w.heap.size w w'
/-- May a ball be put there? -/
def putOk (s : Int) (l : List Bool) (cell : Int) : Bool := okF s l && inB cell 0 ((l.length : Int) - 1) && !l.getD cell.toNat false && decide (cnt l ≠ 12)
theorem okF_len {s : Int} {l : List Bool} (h : okF s l = true) : l.length ≤ 64 ∧ cnt l ≤ 12 ∧ 2 ≤ s ∧ s ≤ 8 := by
  simp [okF] at h
  obtain ⟨⟨⟨⟨h1, h2⟩, _⟩, h4⟩, h5⟩ := h
  have hs2 : s * s ≤ 8 * 8 := by apply Int.mul_le_mul <;> omega
  omega

/-- What FieldPut leaves. -/
def PutPost (w : World) (s : Int) (l : List Bool) (sh : Bool) (cell : Int) (e : Ending) (w' : World) : Prop :=
  (putOk s l cell = true → RetFB w s (l.set cell.toNat true) sh true e w') ∧ (putOk s l cell = false → RetFB w 0 [] false false e w')
theorem putPost_no {w w' : World} {s : Int} {l : List Bool} {sh : Bool} {cell : Int} (h : putOk s l cell = false) (hb : Below w.heap.size w w') : PutPost w s l sh cell (.returned (.tuple #[.agg #[.int .i64 0, .slice none 0 0, .bool false], .bool false])) w' :=
  ⟨fun h' => (Bool.noConfusion (h.symm.trans h')), fun _ => ⟨none, 0, 0, rfl, Sl.nil _ _ _ _ _ (by omega) (Nat.le_refl _), hb⟩⟩


set_option maxHeartbeats 1600000 in
theorem fieldPut_any (s : Int) (A : Option Addr) (n c : Nat) (sh : Bool) (l : List Bool) (cell : Int) (lo hi : Nat) (w : World) (hS : SlB w lo hi A n c l) :
    Calls Try.prog 13 #[.agg #[.int .i64 s, .slice A n c, .bool sh], .int .i64 cell] w (PutPost w s l sh cell) := by
  have hl := Lib.hid (slB_len hS)
  by_cases h1 : okF s l = true
  · obtain ⟨hb64, hb12, hs2, hs8⟩ := okF_len h1
    have hn64 : n ≤ 64 := by rw [← hl.out]; exact hb64
    by_cases h2 : inB cell 0 ((n : Int) - 1) = true
    · have h2' : 0 ≤ cell ∧ cell ≤ (n : Int) - 1 := by simpa [inB] using h2
      obtain ⟨h2a, h2b⟩ := h2'
      obtain ⟨k, rfl⟩ := Int.eq_ofNat_of_zero_le h2a
      obtain ⟨b, off, rfl, _, hbw, hcell⟩ := slB_at hS (by omega)
      have hx := (hcell k (by omega)).1
      clear hcell
      by_cases h3 : l.getD k false = true
      · rw [h3] at hx
        have e0 : Hid (putOk s l k = false) := Lib.hid (by simp [putOk]; intro _ _ h; simp at h3; simp [h3] at h)
        clear h3
        go_enter Try.func13, Try.ntmps13
        go_wp2_with fail
        refine (fieldValid_any s _ n c sh l lo hi _ (by repeat (first | with_reducible exact hS | with_reducible refine Sl.alloc ?_ _ | (with_reducible refine Sl.setCell' ?_ ?_ _; (focus (first | omega | (simp; done) | (simp; omega)))) | with_reducible refine Sl.drewN ?_ _ | with_reducible refine Sl.drew ?_ | (with_reducible apply Sl.below; rotate_left; (with_reducible assumption))))).mono ?_; rintro e w1 ⟨rfl, hb1⟩
        have k1 : Bk w1 (w.heap.size) #[.int .i64 s, .slice (some ⟨b, off, none⟩) n c, .bool sh] := Bk.call (by repeat (first | with_reducible exact Bk.new' _ _ _ _ (by simp) | with_reducible refine Bk.alloc ?_ _ | with_reducible refine Bk.drewN ?_ _ | with_reducible refine Bk.drew ?_ | (with_reducible refine Bk.far' ?_ ?_ _; (focus (first | omega | (simp; done) | (simp; omega)))))) hb1; have := (k1).lt; have := (k1).cell; have := (k1).free
        have k2 : Bk w1 (w.heap.size + 1) #[.int .i64 0, .slice none 0 0, .bool false] := Bk.call (by repeat (first | with_reducible exact Bk.new' _ _ _ _ (by simp) | with_reducible refine Bk.alloc ?_ _ | with_reducible refine Bk.drewN ?_ _ | with_reducible refine Bk.drew ?_ | (with_reducible refine Bk.far' ?_ ?_ _; (focus (first | omega | (simp; done) | (simp; omega)))))) hb1; have := (k2).lt; have := (k2).cell; have := (k2).free
        have hx1 := (hb1.cell (p := ⟨b, off + k, none⟩) (by simp; omega)).trans ((World.cell?_alloc_lt _ _ _ (by simp; omega)).trans ((World.cell?_alloc_lt _ _ _ (by simp; omega)).trans hx))
        go_wp2_with (first | (go_at_call 41; refine (within_any _ _ _ _).mono ?_; rintro e w' ⟨rfl, rfl⟩))
        refine bodyPost_ret (v := .tuple #[.agg #[.int .i64 0, .slice none 0 0, .bool false], .bool false]) (by simp [results, Try.results13, go_sem, k2.cell]) rfl ?_
        exact putPost_no e0.out (by repeat (first | with_reducible exact Below.refl _ _ | (with_reducible assumption) | (with_reducible refine bel_alloc ?_ ?_ _; (focus (first | omega | (simp; done) | (simp; omega)))) | (with_reducible refine bel_setCell ?_ ?_ _; (focus (first | omega | (simp; done) | (simp; omega)))) | with_reducible refine bel_drewN ?_ _ | with_reducible refine Below.drew ?_ | (with_reducible apply bel_join; (with_reducible assumption); (focus (first | omega | (simp; done) | (simp; omega))))))
      · have h3 : l.getD k false = false := by simpa using h3
        rw [h3] at hx
        by_cases h4 : cnt l = 12
        · have e0 : Hid (putOk s l k = false) := Lib.hid (by simp [putOk, h4])
          have h4b : ((cnt l : Int) == 12) = true := by simp; omega
          clear h3 h4
          go_enter Try.func13, Try.ntmps13
          go_wp2_with fail
          refine (fieldValid_any s _ n c sh l lo hi _ (by repeat (first | with_reducible exact hS | with_reducible refine Sl.alloc ?_ _ | (with_reducible refine Sl.setCell' ?_ ?_ _; (focus (first | omega | (simp; done) | (simp; omega)))) | with_reducible refine Sl.drewN ?_ _ | with_reducible refine Sl.drew ?_ | (with_reducible apply Sl.below; rotate_left; (with_reducible assumption))))).mono ?_; rintro e w1 ⟨rfl, hb1⟩
          have k1 : Bk w1 (w.heap.size) #[.int .i64 s, .slice (some ⟨b, off, none⟩) n c, .bool sh] := Bk.call (by repeat (first | with_reducible exact Bk.new' _ _ _ _ (by simp) | with_reducible refine Bk.alloc ?_ _ | with_reducible refine Bk.drewN ?_ _ | with_reducible refine Bk.drew ?_ | (with_reducible refine Bk.far' ?_ ?_ _; (focus (first | omega | (simp; done) | (simp; omega)))))) hb1; have := (k1).lt; have := (k1).cell; have := (k1).free
          have k2 : Bk w1 (w.heap.size + 1) #[.int .i64 0, .slice none 0 0, .bool false] := Bk.call (by repeat (first | with_reducible exact Bk.new' _ _ _ _ (by simp) | with_reducible refine Bk.alloc ?_ _ | with_reducible refine Bk.drewN ?_ _ | with_reducible refine Bk.drew ?_ | (with_reducible refine Bk.far' ?_ ?_ _; (focus (first | omega | (simp; done) | (simp; omega)))))) hb1; have := (k2).lt; have := (k2).cell; have := (k2).free
          have hx1 := (hb1.cell (p := ⟨b, off + k, none⟩) (by simp; omega)).trans ((World.cell?_alloc_lt _ _ _ (by simp; omega)).trans ((World.cell?_alloc_lt _ _ _ (by simp; omega)).trans hx))
          go_wp2_with (first | (go_at_call 41; refine (within_any _ _ _ _).mono ?_; rintro e w' ⟨rfl, rfl⟩))
          refine (many_any s _ n c sh l lo hi _ (by repeat (first | with_reducible exact hS | with_reducible refine Sl.alloc ?_ _ | (with_reducible refine Sl.setCell' ?_ ?_ _; (focus (first | omega | (simp; done) | (simp; omega)))) | with_reducible refine Sl.drewN ?_ _ | with_reducible refine Sl.drew ?_ | (with_reducible apply Sl.below; rotate_left; (with_reducible assumption))))).mono ?_; rintro e w2 ⟨rfl, hb2⟩
          have j1 : Bk w2 (w.heap.size) #[.int .i64 s, .slice (some ⟨b, off, none⟩) n c, .bool sh] := Bk.call (by repeat (first | with_reducible exact k1 | with_reducible apply Bk.set3 | with_reducible apply Bk.set4 | with_reducible apply Bk.set5 | with_reducible apply Bk.set6 | with_reducible apply Bk.set2 | with_reducible refine Bk.alloc ?_ _ | with_reducible refine Bk.drewN ?_ _ | with_reducible refine Bk.drew ?_ | (with_reducible refine Bk.far' ?_ ?_ _; (focus (first | omega | (simp; done) | (simp; omega)))))) hb2; have := (j1).lt; have := (j1).cell; have := (j1).free
          have j2 : Bk w2 (w.heap.size + 1) #[.int .i64 0, .slice none 0 0, .bool false] := Bk.call (by repeat (first | with_reducible exact k2 | with_reducible apply Bk.set3 | with_reducible apply Bk.set4 | with_reducible apply Bk.set5 | with_reducible apply Bk.set6 | with_reducible apply Bk.set2 | with_reducible refine Bk.alloc ?_ _ | with_reducible refine Bk.drewN ?_ _ | with_reducible refine Bk.drew ?_ | (with_reducible refine Bk.far' ?_ ?_ _; (focus (first | omega | (simp; done) | (simp; omega)))))) hb2; have := (j2).lt; have := (j2).cell; have := (j2).free
          have hB2 : Below w.heap.size w w2 := (by repeat (first | with_reducible exact Below.refl _ _ | (with_reducible assumption) | (with_reducible refine bel_alloc ?_ ?_ _; (focus (first | omega | (simp; done) | (simp; omega)))) | (with_reducible refine bel_setCell ?_ ?_ _; (focus (first | omega | (simp; done) | (simp; omega)))) | with_reducible refine bel_drewN ?_ _ | with_reducible refine Below.drew ?_ | (with_reducible apply bel_join; (with_reducible assumption); (focus (first | omega | (simp; done) | (simp; omega))))))
          go_wp2
          refine bodyPost_ret (v := .tuple #[.agg #[.int .i64 0, .slice none 0 0, .bool false], .bool false]) (by simp [results, Try.results13, go_sem, j2.cell]) rfl ?_
          exact putPost_no e0.out (by repeat (first | with_reducible exact Below.refl _ _ | (with_reducible assumption) | (with_reducible refine bel_alloc ?_ ?_ _; (focus (first | omega | (simp; done) | (simp; omega)))) | (with_reducible refine bel_setCell ?_ ?_ _; (focus (first | omega | (simp; done) | (simp; omega)))) | with_reducible refine bel_drewN ?_ _ | with_reducible refine Below.drew ?_ | (with_reducible apply bel_join; (with_reducible assumption); (focus (first | omega | (simp; done) | (simp; omega))))))
        · have e0 : Hid (putOk s l k = true) := Lib.hid (by simp [putOk, h1, hl.out, h4]; simp at h3; exact ⟨h2, h3⟩)
          have h4b : ((cnt l : Int) == 12) = false := by simp; omega
          clear h3 h4
          go_enter Try.func13, Try.ntmps13
          go_wp2_with fail
          refine (fieldValid_any s _ n c sh l lo hi _ (by repeat (first | with_reducible exact hS | with_reducible refine Sl.alloc ?_ _ | (with_reducible refine Sl.setCell' ?_ ?_ _; (focus (first | omega | (simp; done) | (simp; omega)))) | with_reducible refine Sl.drewN ?_ _ | with_reducible refine Sl.drew ?_ | (with_reducible apply Sl.below; rotate_left; (with_reducible assumption))))).mono ?_; rintro e w1 ⟨rfl, hb1⟩
          have k1 : Bk w1 (w.heap.size) #[.int .i64 s, .slice (some ⟨b, off, none⟩) n c, .bool sh] := Bk.call (by repeat (first | with_reducible exact Bk.new' _ _ _ _ (by simp) | with_reducible refine Bk.alloc ?_ _ | with_reducible refine Bk.drewN ?_ _ | with_reducible refine Bk.drew ?_ | (with_reducible refine Bk.far' ?_ ?_ _; (focus (first | omega | (simp; done) | (simp; omega)))))) hb1; have := (k1).lt; have := (k1).cell; have := (k1).free
          have k2 : Bk w1 (w.heap.size + 1) #[.int .i64 0, .slice none 0 0, .bool false] := Bk.call (by repeat (first | with_reducible exact Bk.new' _ _ _ _ (by simp) | with_reducible refine Bk.alloc ?_ _ | with_reducible refine Bk.drewN ?_ _ | with_reducible refine Bk.drew ?_ | (with_reducible refine Bk.far' ?_ ?_ _; (focus (first | omega | (simp; done) | (simp; omega)))))) hb1; have := (k2).lt; have := (k2).cell; have := (k2).free
          have hx1 := (hb1.cell (p := ⟨b, off + k, none⟩) (by simp; omega)).trans ((World.cell?_alloc_lt _ _ _ (by simp; omega)).trans ((World.cell?_alloc_lt _ _ _ (by simp; omega)).trans hx))
          go_wp2_with (first | (go_at_call 41; refine (within_any _ _ _ _).mono ?_; rintro e w' ⟨rfl, rfl⟩))
          refine (many_any s _ n c sh l lo hi _ (by repeat (first | with_reducible exact hS | with_reducible refine Sl.alloc ?_ _ | (with_reducible refine Sl.setCell' ?_ ?_ _; (focus (first | omega | (simp; done) | (simp; omega)))) | with_reducible refine Sl.drewN ?_ _ | with_reducible refine Sl.drew ?_ | (with_reducible apply Sl.below; rotate_left; (with_reducible assumption))))).mono ?_; rintro e w2 ⟨rfl, hb2⟩
          have j1 : Bk w2 (w.heap.size) #[.int .i64 s, .slice (some ⟨b, off, none⟩) n c, .bool sh] := Bk.call (by repeat (first | with_reducible exact k1 | with_reducible apply Bk.set3 | with_reducible apply Bk.set4 | with_reducible apply Bk.set5 | with_reducible apply Bk.set6 | with_reducible apply Bk.set2 | with_reducible refine Bk.alloc ?_ _ | with_reducible refine Bk.drewN ?_ _ | with_reducible refine Bk.drew ?_ | (with_reducible refine Bk.far' ?_ ?_ _; (focus (first | omega | (simp; done) | (simp; omega)))))) hb2; have := (j1).lt; have := (j1).cell; have := (j1).free
          have j2 : Bk w2 (w.heap.size + 1) #[.int .i64 0, .slice none 0 0, .bool false] := Bk.call (by repeat (first | with_reducible exact k2 | with_reducible apply Bk.set3 | with_reducible apply Bk.set4 | with_reducible apply Bk.set5 | with_reducible apply Bk.set6 | with_reducible apply Bk.set2 | with_reducible refine Bk.alloc ?_ _ | with_reducible refine Bk.drewN ?_ _ | with_reducible refine Bk.drew ?_ | (with_reducible refine Bk.far' ?_ ?_ _; (focus (first | omega | (simp; done) | (simp; omega)))))) hb2; have := (j2).lt; have := (j2).cell; have := (j2).free
          have hB2 : Below w.heap.size w w2 := (by repeat (first | with_reducible exact Below.refl _ _ | (with_reducible assumption) | (with_reducible refine bel_alloc ?_ ?_ _; (focus (first | omega | (simp; done) | (simp; omega)))) | (with_reducible refine bel_setCell ?_ ?_ _; (focus (first | omega | (simp; done) | (simp; omega)))) | with_reducible refine bel_drewN ?_ _ | with_reducible refine Below.drew ?_ | (with_reducible apply bel_join; (with_reducible assumption); (focus (first | omega | (simp; done) | (simp; omega))))))
          go_wp2_with fail
          refine (copyOfF_any s _ n c sh l lo hi _ (by repeat (first | with_reducible exact hS | with_reducible refine Sl.alloc ?_ _ | (with_reducible refine Sl.setCell' ?_ ?_ _; (focus (first | omega | (simp; done) | (simp; omega)))) | with_reducible refine Sl.drewN ?_ _ | with_reducible refine Sl.drew ?_ | (with_reducible apply Sl.below; rotate_left; (with_reducible assumption)))) (by omega)).mono ?_; rintro e w3 ⟨A1, n1, c1, rfl, hs1, hb3⟩
          have i1 : Bk w3 (w.heap.size) #[.int .i64 s, .slice (some ⟨b, off, none⟩) n c, .bool sh] := Bk.call (by repeat (first | with_reducible exact j1 | with_reducible apply Bk.set3 | with_reducible apply Bk.set4 | with_reducible apply Bk.set5 | with_reducible apply Bk.set6 | with_reducible apply Bk.set2 | with_reducible refine Bk.alloc ?_ _ | with_reducible refine Bk.drewN ?_ _ | with_reducible refine Bk.drew ?_ | (with_reducible refine Bk.far' ?_ ?_ _; (focus (first | omega | (simp; done) | (simp; omega)))))) hb3; have := (i1).lt; have := (i1).cell; have := (i1).free
          have i2 : Bk w3 (w.heap.size + 1) #[.int .i64 0, .slice none 0 0, .bool false] := Bk.call (by repeat (first | with_reducible exact j2 | with_reducible apply Bk.set3 | with_reducible apply Bk.set4 | with_reducible apply Bk.set5 | with_reducible apply Bk.set6 | with_reducible apply Bk.set2 | with_reducible refine Bk.alloc ?_ _ | with_reducible refine Bk.drewN ?_ _ | with_reducible refine Bk.drew ?_ | (with_reducible refine Bk.far' ?_ ?_ _; (focus (first | omega | (simp; done) | (simp; omega)))))) hb3; have := (i2).lt; have := (i2).cell; have := (i2).free
          have hB3 : Below w.heap.size w w3 := (by repeat (first | with_reducible exact Below.refl _ _ | (with_reducible assumption) | (with_reducible refine bel_alloc ?_ ?_ _; (focus (first | omega | (simp; done) | (simp; omega)))) | (with_reducible refine bel_setCell ?_ ?_ _; (focus (first | omega | (simp; done) | (simp; omega)))) | with_reducible refine bel_drewN ?_ _ | with_reducible refine Below.drew ?_ | (with_reducible apply bel_join; (with_reducible assumption); (focus (first | omega | (simp; done) | (simp; omega))))))
          obtain rfl : n1 = n := by rw [← slB_len hs1, hl.out]
          obtain ⟨b1, off1, rfl, hb1a, hb1b, hb1c, hcell1⟩ := Sl.at hs1 (by omega)
          have hy := (hcell1 k (by omega)).1
          have hf := (hcell1 k (by omega)).2
          rw [bl_get _ _ (by rw [hl.out]; omega)] at hy
          have hcap := hs1.cap
          have hne1 : ¬ b1 = w.heap.size + 1 := by have := j2.lt; omega
          have hne2 : ¬ w.heap.size + 1 = b1 := by have := j2.lt; omega
          clear hcell1
          go_wp2
          refine ret_bk_tmp #[.int .i64 s, .slice (some ⟨b1, off1, none⟩) n1 c1, .bool sh] (w.heap.size + 1) (.bool true) _ rfl (by rfl) (by rfl) Try.underlying26 rfl (by kernel_rfl) rfl ?_ ?_
          · exact (((((i2.far hne2 _).set 0 _ (by simp)).set 1 _ (by simp)).set 2 _ (by simp))).alloc _
          refine ⟨fun _ => ⟨_, n1, c1, rfl, ?_, (by repeat (first | with_reducible exact Below.refl _ _ | (with_reducible assumption) | (with_reducible refine bel_alloc ?_ ?_ _; (focus (first | omega | (simp; done) | (simp; omega)))) | (with_reducible refine bel_setCell ?_ ?_ _; (focus (first | omega | (simp; done) | (simp; omega)))) | with_reducible refine bel_drewN ?_ _ | with_reducible refine Below.drew ?_ | (with_reducible apply bel_join; (with_reducible assumption); (focus (first | omega | (simp; done) | (simp; omega))))))⟩, fun h => Bool.noConfusion (h.symm.trans e0.out)⟩
          have hs2 := Sl.set hs1 k (by omega) (.bool true)
          rw [bl_set] at hs2
          rw [Int.toNat_natCast]
          have hs3 := Sl.lower (lo' := w.heap.size + 2) hs2 (by have := hB2.size; have := j2.lt; omega) (Nat.le_refl _) hs2.top
          exact Sl.lower (lo := w.heap.size + 2) (hi := w3.heap.size) (by repeat (first | with_reducible exact hs3 | with_reducible refine Sl.alloc ?_ _ | (with_reducible refine Sl.setCell' ?_ ?_ _; (focus (first | omega | (simp; done) | (simp; omega)))) | with_reducible refine Sl.drewN ?_ _ | with_reducible refine Sl.drew ?_ | (with_reducible apply Sl.below; rotate_left; (with_reducible assumption)))) (by omega) (by simp) (by simp)
    · have h2 : inB cell 0 ((n : Int) - 1) = false := by simpa using h2
      have e0 : Hid (putOk s l cell = false) := Lib.hid (by simp [putOk, hl.out, h2])
      have hm := Sl.max hS
      have hc := Sl.cap hS
      go_enter Try.func13, Try.ntmps13
      go_wp2_with fail
      refine (fieldValid_any s _ n c sh l lo hi _ (by repeat (first | with_reducible exact hS | with_reducible refine Sl.alloc ?_ _ | (with_reducible refine Sl.setCell' ?_ ?_ _; (focus (first | omega | (simp; done) | (simp; omega)))) | with_reducible refine Sl.drewN ?_ _ | with_reducible refine Sl.drew ?_ | (with_reducible apply Sl.below; rotate_left; (with_reducible assumption))))).mono ?_; rintro e w1 ⟨rfl, hb1⟩
      have k1 : Bk w1 (w.heap.size) #[.int .i64 s, .slice A n c, .bool sh] := Bk.call (by repeat (first | with_reducible exact Bk.new' _ _ _ _ (by simp) | with_reducible refine Bk.alloc ?_ _ | with_reducible refine Bk.drewN ?_ _ | with_reducible refine Bk.drew ?_ | (with_reducible refine Bk.far' ?_ ?_ _; (focus (first | omega | (simp; done) | (simp; omega)))))) hb1; have := (k1).lt; have := (k1).cell; have := (k1).free
      have k2 : Bk w1 (w.heap.size + 1) #[.int .i64 0, .slice none 0 0, .bool false] := Bk.call (by repeat (first | with_reducible exact Bk.new' _ _ _ _ (by simp) | with_reducible refine Bk.alloc ?_ _ | with_reducible refine Bk.drewN ?_ _ | with_reducible refine Bk.drew ?_ | (with_reducible refine Bk.far' ?_ ?_ _; (focus (first | omega | (simp; done) | (simp; omega)))))) hb1; have := (k2).lt; have := (k2).cell; have := (k2).free
      go_wp2_with (first | (go_at_call 41; refine (within_any _ _ _ _).mono ?_; rintro e w' ⟨rfl, rfl⟩))
      refine bodyPost_ret (v := .tuple #[.agg #[.int .i64 0, .slice none 0 0, .bool false], .bool false]) (by simp [results, Try.results13, go_sem, k2.cell]) rfl ?_
      exact putPost_no e0.out (by repeat (first | with_reducible exact Below.refl _ _ | (with_reducible assumption) | (with_reducible refine bel_alloc ?_ ?_ _; (focus (first | omega | (simp; done) | (simp; omega)))) | (with_reducible refine bel_setCell ?_ ?_ _; (focus (first | omega | (simp; done) | (simp; omega)))) | with_reducible refine bel_drewN ?_ _ | with_reducible refine Below.drew ?_ | (with_reducible apply bel_join; (with_reducible assumption); (focus (first | omega | (simp; done) | (simp; omega))))))
  · have h1 : okF s l = false := by simpa using h1
    have e0 : Hid (putOk s l cell = false) := Lib.hid (by simp [putOk, h1])
    go_enter Try.func13, Try.ntmps13
    go_wp2_with fail
    refine (fieldValid_any s _ n c sh l lo hi _ (by repeat (first | with_reducible exact hS | with_reducible refine Sl.alloc ?_ _ | (with_reducible refine Sl.setCell' ?_ ?_ _; (focus (first | omega | (simp; done) | (simp; omega)))) | with_reducible refine Sl.drewN ?_ _ | with_reducible refine Sl.drew ?_ | (with_reducible apply Sl.below; rotate_left; (with_reducible assumption))))).mono ?_; rintro e w1 ⟨rfl, hb1⟩
    have k2 : Bk w1 (w.heap.size + 1) #[.int .i64 0, .slice none 0 0, .bool false] := Bk.call (by repeat (first | with_reducible exact Bk.new' _ _ _ _ (by simp) | with_reducible refine Bk.alloc ?_ _ | with_reducible refine Bk.drewN ?_ _ | with_reducible refine Bk.drew ?_ | (with_reducible refine Bk.far' ?_ ?_ _; (focus (first | omega | (simp; done) | (simp; omega)))))) hb1; have := (k2).lt; have := (k2).cell; have := (k2).free
    go_wp2
    refine bodyPost_ret (v := .tuple #[.agg #[.int .i64 0, .slice none 0 0, .bool false], .bool false]) (by simp [results, Try.results13, go_sem, k2.cell]) rfl ?_
    exact putPost_no e0.out (by repeat (first | with_reducible exact Below.refl _ _ | (with_reducible assumption) | (with_reducible refine bel_alloc ?_ ?_ _; (focus (first | omega | (simp; done) | (simp; omega)))) | (with_reducible refine bel_setCell ?_ ?_ _; (focus (first | omega | (simp; done) | (simp; omega)))) | with_reducible refine bel_drewN ?_ _ | with_reducible refine Below.drew ?_ | (with_reducible apply bel_join; (with_reducible assumption); (focus (first | omega | (simp; done) | (simp; omega))))))


set_option maxHeartbeats 1600000 in
theorem specFieldPut_any (s : Int) (A : Option Addr) (n c : Nat) (sh : Bool) (l : List Bool) (cell : Int) (lo hi : Nat) (w : World) (hS : SlB w lo hi A n c l) :
    Calls Try.prog 11 #[.agg #[.int .i64 s, .slice A n c, .bool sh], .int .i64 cell] w (PutPost w s l sh cell) := by
  have hl := Lib.hid (slB_len hS)
  by_cases h1 : okF s l = true
  · obtain ⟨hb64, hb12, hs2, hs8⟩ := okF_len h1
    have hn64 : n ≤ 64 := by rw [← hl.out]; exact hb64
    have em : manyF s l = (cnt l : Nat) := by simp [manyF, h1]
    have emH := Lib.hid em
    clear em
    obtain ⟨i0, hinf, hz0, hz1, hz2⟩ := info_parts boolInfo
    by_cases h2 : inB cell 0 ((n : Int) - 1) = true
    · have h2' : 0 ≤ cell ∧ cell ≤ (n : Int) - 1 := by simpa [inB] using h2
      obtain ⟨h2a, h2b⟩ := h2'
      obtain ⟨k, rfl⟩ := Int.eq_ofNat_of_zero_le h2a
      obtain ⟨b, off, rfl, _, hbw, hcell⟩ := slB_at hS (by omega)
      have hx := (hcell k (by omega)).1
      clear hcell
      by_cases h3 : l.getD k false = true
      · rw [h3] at hx
        have e0 : Hid (putOk s l k = false) := Lib.hid (by simp [putOk]; intro _ _ h; simp at h3; simp [h3] at h)
        clear h3
        go_enter Try.func11, Try.ntmps11
        go_wp2_with fail
        refine (specFieldValid_any s _ n c sh l lo hi _ (by repeat (first | with_reducible exact hS | with_reducible refine Sl.alloc ?_ _ | (with_reducible refine Sl.setCell' ?_ ?_ _; (focus (first | omega | (simp; done) | (simp; omega)))) | with_reducible refine Sl.drewN ?_ _ | with_reducible refine Sl.drew ?_ | (with_reducible apply Sl.below; rotate_left; (with_reducible assumption))))).mono ?_; rintro e w1 ⟨rfl, hb1⟩
        have k1 : Bk w1 (w.heap.size) #[.int .i64 s, .slice (some ⟨b, off, none⟩) n c, .bool sh] := Bk.call (by repeat (first | with_reducible exact Bk.new' _ _ _ _ (by simp) | with_reducible refine Bk.alloc ?_ _ | with_reducible refine Bk.drewN ?_ _ | with_reducible refine Bk.drew ?_ | (with_reducible refine Bk.far' ?_ ?_ _; (focus (first | omega | (simp; done) | (simp; omega)))))) hb1; have := (k1).lt; have := (k1).cell; have := (k1).free
        have k2 : Bk w1 (w.heap.size + 1) #[.int .i64 0, .slice none 0 0, .bool false] := Bk.call (by repeat (first | with_reducible exact Bk.new' _ _ _ _ (by simp) | with_reducible refine Bk.alloc ?_ _ | with_reducible refine Bk.drewN ?_ _ | with_reducible refine Bk.drew ?_ | (with_reducible refine Bk.far' ?_ ?_ _; (focus (first | omega | (simp; done) | (simp; omega)))))) hb1; have := (k2).lt; have := (k2).cell; have := (k2).free
        have hx1 := (hb1.cell (p := ⟨b, off + k, none⟩) (by simp; omega)).trans ((World.cell?_alloc_lt _ _ _ (by simp; omega)).trans ((World.cell?_alloc_lt _ _ _ (by simp; omega)).trans hx))
        go_wp2_with (first | (go_at_call 38; refine (l1In_any _ _ _ _).mono ?_; rintro e w' ⟨rfl, rfl⟩))
        refine ret_bk_tmp #[.int .i64 0, .slice none 0 0, .bool false] (w.heap.size + 1) (.bool false) _ rfl (by rfl) (by rfl) Try.underlying26 rfl (by kernel_rfl) rfl (by repeat (first | with_reducible exact k2 | (with_reducible refine Bk.new' _ _ _ _ ?_; focus (first | rfl | (simp; done))) | with_reducible apply Bk.set3 | with_reducible apply Bk.set4 | with_reducible apply Bk.set5 | with_reducible apply Bk.set6 | with_reducible apply Bk.set2 | with_reducible refine Bk.alloc ?_ _ | with_reducible refine Bk.drewN ?_ _ | with_reducible refine Bk.drew ?_ | (with_reducible refine Bk.far' ?_ ?_ _; (focus (first | omega | (simp; done) | (simp; omega)))))) ?_
        exact putPost_no e0.out (by repeat (first | with_reducible exact Below.refl _ _ | (with_reducible assumption) | (with_reducible refine bel_alloc ?_ ?_ _; (focus (first | omega | (simp; done) | (simp; omega)))) | (with_reducible refine bel_setCell ?_ ?_ _; (focus (first | omega | (simp; done) | (simp; omega)))) | with_reducible refine bel_drewN ?_ _ | with_reducible refine Below.drew ?_ | (with_reducible apply bel_join; (with_reducible assumption); (focus (first | omega | (simp; done) | (simp; omega))))))
      · have h3 : l.getD k false = false := by simpa using h3
        rw [h3] at hx
        by_cases h4 : cnt l = 12
        · have e0 : Hid (putOk s l k = false) := Lib.hid (by simp [putOk, h4])
          have h4b : ((cnt l : Int) == 12) = true := by simp; omega
          clear h3 h4
          go_enter Try.func11, Try.ntmps11
          go_wp2_with fail
          refine (specFieldValid_any s _ n c sh l lo hi _ (by repeat (first | with_reducible exact hS | with_reducible refine Sl.alloc ?_ _ | (with_reducible refine Sl.setCell' ?_ ?_ _; (focus (first | omega | (simp; done) | (simp; omega)))) | with_reducible refine Sl.drewN ?_ _ | with_reducible refine Sl.drew ?_ | (with_reducible apply Sl.below; rotate_left; (with_reducible assumption))))).mono ?_; rintro e w1 ⟨rfl, hb1⟩
          have k1 : Bk w1 (w.heap.size) #[.int .i64 s, .slice (some ⟨b, off, none⟩) n c, .bool sh] := Bk.call (by repeat (first | with_reducible exact Bk.new' _ _ _ _ (by simp) | with_reducible refine Bk.alloc ?_ _ | with_reducible refine Bk.drewN ?_ _ | with_reducible refine Bk.drew ?_ | (with_reducible refine Bk.far' ?_ ?_ _; (focus (first | omega | (simp; done) | (simp; omega)))))) hb1; have := (k1).lt; have := (k1).cell; have := (k1).free
          have k2 : Bk w1 (w.heap.size + 1) #[.int .i64 0, .slice none 0 0, .bool false] := Bk.call (by repeat (first | with_reducible exact Bk.new' _ _ _ _ (by simp) | with_reducible refine Bk.alloc ?_ _ | with_reducible refine Bk.drewN ?_ _ | with_reducible refine Bk.drew ?_ | (with_reducible refine Bk.far' ?_ ?_ _; (focus (first | omega | (simp; done) | (simp; omega)))))) hb1; have := (k2).lt; have := (k2).cell; have := (k2).free
          have hx1 := (hb1.cell (p := ⟨b, off + k, none⟩) (by simp; omega)).trans ((World.cell?_alloc_lt _ _ _ (by simp; omega)).trans ((World.cell?_alloc_lt _ _ _ (by simp; omega)).trans hx))
          go_wp2_with (first | (go_at_call 38; refine (l1In_any _ _ _ _).mono ?_; rintro e w' ⟨rfl, rfl⟩))
          refine (specBallsMany_any s _ n c sh l lo hi _ (by repeat (first | with_reducible exact hS | with_reducible refine Sl.alloc ?_ _ | (with_reducible refine Sl.setCell' ?_ ?_ _; (focus (first | omega | (simp; done) | (simp; omega)))) | with_reducible refine Sl.drewN ?_ _ | with_reducible refine Sl.drew ?_ | (with_reducible apply Sl.below; rotate_left; (with_reducible assumption))))).mono ?_; rintro e w2 ⟨rfl, hb2⟩
          rw [emH.out]
          have j2 : Bk w2 (w.heap.size + 1) #[.int .i64 0, .slice none 0 0, .bool false] := Bk.call (by repeat (first | with_reducible exact k2 | with_reducible apply Bk.set3 | with_reducible apply Bk.set4 | with_reducible apply Bk.set5 | with_reducible apply Bk.set6 | with_reducible apply Bk.set2 | with_reducible refine Bk.alloc ?_ _ | with_reducible refine Bk.drewN ?_ _ | with_reducible refine Bk.drew ?_ | (with_reducible refine Bk.far' ?_ ?_ _; (focus (first | omega | (simp; done) | (simp; omega)))))) hb2; have := (j2).lt; have := (j2).cell; have := (j2).free
          have hB2 : Below w.heap.size w w2 := (by repeat (first | with_reducible exact Below.refl _ _ | (with_reducible assumption) | (with_reducible refine bel_alloc ?_ ?_ _; (focus (first | omega | (simp; done) | (simp; omega)))) | (with_reducible refine bel_setCell ?_ ?_ _; (focus (first | omega | (simp; done) | (simp; omega)))) | with_reducible refine bel_drewN ?_ _ | with_reducible refine Below.drew ?_ | (with_reducible apply bel_join; (with_reducible assumption); (focus (first | omega | (simp; done) | (simp; omega))))))
          go_wp2
          refine ret_bk_tmp #[.int .i64 0, .slice none 0 0, .bool false] (w.heap.size + 1) (.bool false) _ rfl (by rfl) (by rfl) Try.underlying26 rfl (by kernel_rfl) rfl (by repeat (first | with_reducible exact j2 | (with_reducible refine Bk.new' _ _ _ _ ?_; focus (first | rfl | (simp; done))) | with_reducible apply Bk.set3 | with_reducible apply Bk.set4 | with_reducible apply Bk.set5 | with_reducible apply Bk.set6 | with_reducible apply Bk.set2 | with_reducible refine Bk.alloc ?_ _ | with_reducible refine Bk.drewN ?_ _ | with_reducible refine Bk.drew ?_ | (with_reducible refine Bk.far' ?_ ?_ _; (focus (first | omega | (simp; done) | (simp; omega)))))) ?_
          exact putPost_no e0.out (by repeat (first | with_reducible exact Below.refl _ _ | (with_reducible assumption) | (with_reducible refine bel_alloc ?_ ?_ _; (focus (first | omega | (simp; done) | (simp; omega)))) | (with_reducible refine bel_setCell ?_ ?_ _; (focus (first | omega | (simp; done) | (simp; omega)))) | with_reducible refine bel_drewN ?_ _ | with_reducible refine Below.drew ?_ | (with_reducible apply bel_join; (with_reducible assumption); (focus (first | omega | (simp; done) | (simp; omega))))))
        · have e0 : Hid (putOk s l k = true) := Lib.hid (by simp [putOk, h1, hl.out, h4]; simp at h3; exact ⟨h2, h3⟩)
          have h4b : ((cnt l : Int) == 12) = false := by simp; omega
          clear h3 h4
          go_enter Try.func11, Try.ntmps11
          go_wp2_with fail
          refine (specFieldValid_any s _ n c sh l lo hi _ (by repeat (first | with_reducible exact hS | with_reducible refine Sl.alloc ?_ _ | (with_reducible refine Sl.setCell' ?_ ?_ _; (focus (first | omega | (simp; done) | (simp; omega)))) | with_reducible refine Sl.drewN ?_ _ | with_reducible refine Sl.drew ?_ | (with_reducible apply Sl.below; rotate_left; (with_reducible assumption))))).mono ?_; rintro e w1 ⟨rfl, hb1⟩
          have k1 : Bk w1 (w.heap.size) #[.int .i64 s, .slice (some ⟨b, off, none⟩) n c, .bool sh] := Bk.call (by repeat (first | with_reducible exact Bk.new' _ _ _ _ (by simp) | with_reducible refine Bk.alloc ?_ _ | with_reducible refine Bk.drewN ?_ _ | with_reducible refine Bk.drew ?_ | (with_reducible refine Bk.far' ?_ ?_ _; (focus (first | omega | (simp; done) | (simp; omega)))))) hb1; have := (k1).lt; have := (k1).cell; have := (k1).free
          have k2 : Bk w1 (w.heap.size + 1) #[.int .i64 0, .slice none 0 0, .bool false] := Bk.call (by repeat (first | with_reducible exact Bk.new' _ _ _ _ (by simp) | with_reducible refine Bk.alloc ?_ _ | with_reducible refine Bk.drewN ?_ _ | with_reducible refine Bk.drew ?_ | (with_reducible refine Bk.far' ?_ ?_ _; (focus (first | omega | (simp; done) | (simp; omega)))))) hb1; have := (k2).lt; have := (k2).cell; have := (k2).free
          have hx1 := (hb1.cell (p := ⟨b, off + k, none⟩) (by simp; omega)).trans ((World.cell?_alloc_lt _ _ _ (by simp; omega)).trans ((World.cell?_alloc_lt _ _ _ (by simp; omega)).trans hx))
          go_wp2_with (first | (go_at_call 38; refine (l1In_any _ _ _ _).mono ?_; rintro e w' ⟨rfl, rfl⟩))
          refine (specBallsMany_any s _ n c sh l lo hi _ (by repeat (first | with_reducible exact hS | with_reducible refine Sl.alloc ?_ _ | (with_reducible refine Sl.setCell' ?_ ?_ _; (focus (first | omega | (simp; done) | (simp; omega)))) | with_reducible refine Sl.drewN ?_ _ | with_reducible refine Sl.drew ?_ | (with_reducible apply Sl.below; rotate_left; (with_reducible assumption))))).mono ?_; rintro e w2 ⟨rfl, hb2⟩
          rw [emH.out]
          have j1 : Bk w2 (w.heap.size) #[.int .i64 s, .slice (some ⟨b, off, none⟩) n c, .bool sh] := Bk.call (by repeat (first | with_reducible exact k1 | with_reducible apply Bk.set3 | with_reducible apply Bk.set4 | with_reducible apply Bk.set5 | with_reducible apply Bk.set6 | with_reducible apply Bk.set2 | with_reducible refine Bk.alloc ?_ _ | with_reducible refine Bk.drewN ?_ _ | with_reducible refine Bk.drew ?_ | (with_reducible refine Bk.far' ?_ ?_ _; (focus (first | omega | (simp; done) | (simp; omega)))))) hb2; have := (j1).lt; have := (j1).cell; have := (j1).free
          have j2 : Bk w2 (w.heap.size + 1) #[.int .i64 0, .slice none 0 0, .bool false] := Bk.call (by repeat (first | with_reducible exact k2 | with_reducible apply Bk.set3 | with_reducible apply Bk.set4 | with_reducible apply Bk.set5 | with_reducible apply Bk.set6 | with_reducible apply Bk.set2 | with_reducible refine Bk.alloc ?_ _ | with_reducible refine Bk.drewN ?_ _ | with_reducible refine Bk.drew ?_ | (with_reducible refine Bk.far' ?_ ?_ _; (focus (first | omega | (simp; done) | (simp; omega)))))) hb2; have := (j2).lt; have := (j2).cell; have := (j2).free
          have hB2 : Below w.heap.size w w2 := (by repeat (first | with_reducible exact Below.refl _ _ | (with_reducible assumption) | (with_reducible refine bel_alloc ?_ ?_ _; (focus (first | omega | (simp; done) | (simp; omega)))) | (with_reducible refine bel_setCell ?_ ?_ _; (focus (first | omega | (simp; done) | (simp; omega)))) | with_reducible refine bel_drewN ?_ _ | with_reducible refine Below.drew ?_ | (with_reducible apply bel_join; (with_reducible assumption); (focus (first | omega | (simp; done) | (simp; omega))))))
          go_upto_region 3 with fail
          go_cut [6] (fun s6 wx => ∃ g A1 c1 lo1 hi1, s6 = .pointer (some ⟨g, 0, none⟩) ∧ Bk wx g #[.int .i64 s, .slice A1 n c1, .bool sh] ∧ SlB wx lo1 hi1 A1 n c1 l ∧ w2.heap.size ≤ lo1 ∧ (g < lo1 ∨ hi1 ≤ g) ∧ w2.heap.size ≤ g ∧ Bk wx (w.heap.size + 1) #[.int .i64 0, .slice none 0 0, .bool false] ∧ Below w.heap.size w wx)
          case first =>
            go_region_held3 (fun w' => w'.cell? ⟨w.heap.size, 0, none⟩ = some (.int .i64 s) ∧ w'.cell? ⟨w.heap.size, 1, none⟩ = some (.slice (some ⟨b, off, none⟩) n c) ∧ w'.cell? ⟨w.heap.size, 2, none⟩ = some (.bool sh)) (first | go_keep | (simp [go_sem, *]; done))
              ((refine step_clone _ (by rfl) (.tmp 34) (.tmp 36) 22 (by rfl) 4 i0 (.bool false) 1 1 Try.underlying22 hinf hz0 hz1 hz2 (by rfl) ⟨_, 0, none⟩ (by rfl) lo hi (some ⟨b, off, none⟩) n c (bl l) (by rfl) (by repeat (first | with_reducible exact hS | with_reducible refine Sl.alloc ?_ _ | (with_reducible refine Sl.setCell' ?_ ?_ _; (focus (first | omega | (simp; done) | (simp; omega)))) | with_reducible refine Sl.drewN ?_ _ | with_reducible refine Sl.drew ?_ | (with_reducible apply Sl.below; rotate_left; (with_reducible assumption)))) (by omega) (by unfold maxLen; omega) ?_; intro A1 c1 w3 hs3 hb3; have g1 : Bk w3 (w.heap.size) #[.int .i64 s, .slice (some ⟨b, off, none⟩) n c, .bool sh] := Bk.call (by repeat (first | with_reducible exact j1 | with_reducible apply Bk.set3 | with_reducible apply Bk.set4 | with_reducible apply Bk.set5 | with_reducible apply Bk.set6 | with_reducible apply Bk.set2 | with_reducible refine Bk.alloc ?_ _ | with_reducible refine Bk.drewN ?_ _ | with_reducible refine Bk.drew ?_ | (with_reducible refine Bk.far' ?_ ?_ _; (focus (first | omega | (simp; done) | (simp; omega)))))) hb3; have := (g1).lt; have := (g1).cell; have := (g1).free; have g2 : Bk w3 (w.heap.size + 1) #[.int .i64 0, .slice none 0 0, .bool false] := Bk.call (by repeat (first | with_reducible exact j2 | with_reducible apply Bk.set3 | with_reducible apply Bk.set4 | with_reducible apply Bk.set5 | with_reducible apply Bk.set6 | with_reducible apply Bk.set2 | with_reducible refine Bk.alloc ?_ _ | with_reducible refine Bk.drewN ?_ _ | with_reducible refine Bk.drew ?_ | (with_reducible refine Bk.far' ?_ ?_ _; (focus (first | omega | (simp; done) | (simp; omega)))))) hb3; have := (g2).lt; have := (g2).cell; have := (g2).free; have hB3 : Below w.heap.size w w3 := (by repeat (first | with_reducible exact Below.refl _ _ | (with_reducible assumption) | (with_reducible refine bel_alloc ?_ ?_ _; (focus (first | omega | (simp; done) | (simp; omega)))) | (with_reducible refine bel_setCell ?_ ?_ _; (focus (first | omega | (simp; done) | (simp; omega)))) | with_reducible refine bel_drewN ?_ _ | with_reducible refine Below.drew ?_ | (with_reducible apply bel_join; (with_reducible assumption); (focus (first | omega | (simp; done) | (simp; omega)))))); (try (refine (fun (g6 : Bk w3 (w2.heap.size) #[.int .i64 0, .slice none 0 0, .bool false]) => ?_) ?_; rotate_left; (focus (refine Bk.call ?_ hb3; (repeat (first | (with_reducible refine Bk.new' _ _ _ _ ?_; focus (first | rfl | (simp; done))) | with_reducible refine Bk.alloc ?_ _ | with_reducible refine Bk.drewN ?_ _ | with_reducible refine Bk.drew ?_)); done)); have := (g6).lt; have := (g6).cell; have := (g6).free)); (try (refine (fun (g6 : Bk w3 (w2.heap.size + 1) #[.int .i64 0, .slice none 0 0, .bool false]) => ?_) ?_; rotate_left; (focus (refine Bk.call ?_ hb3; (repeat (first | (with_reducible refine Bk.new' _ _ _ _ ?_; focus (first | rfl | (simp; done))) | with_reducible refine Bk.alloc ?_ _ | with_reducible refine Bk.drewN ?_ _ | with_reducible refine Bk.drew ?_)); done)); have := (g6).lt; have := (g6).cell; have := (g6).free))))
            all_goals
              go_wp2_with fail
              go_meet
              have hz3 := hb3.size
              simp only [World.size_alloc, World.size_drew] at hz3
              have hz2 := j2.lt
              simp only [World.size_alloc, World.size_drew] at hs3
              first
                | (have hs4 : SlB w3 (w2.heap.size + 1 + 1) w3.heap.size A1 n c1 l := hs3
                   refine ⟨_, A1, c1, w2.heap.size + 1 + 1, w3.heap.size, rfl, ?_, ?_, ?_, ?_, ?_, ?_, ?_⟩)
                | (have hs4 : SlB w3 (w2.heap.size + 1) w3.heap.size A1 n c1 l := hs3
                   refine ⟨_, A1, c1, w2.heap.size + 1, w3.heap.size, rfl, ?_, ?_, ?_, ?_, ?_, ?_, ?_⟩)
              · exact (by repeat (first | with_reducible exact g6 | (with_reducible refine Bk.new' _ _ _ _ ?_; focus (first | rfl | (simp; done))) | with_reducible apply Bk.set3 | with_reducible apply Bk.set4 | with_reducible apply Bk.set5 | with_reducible apply Bk.set6 | with_reducible apply Bk.set2 | with_reducible refine Bk.alloc ?_ _ | with_reducible refine Bk.drewN ?_ _ | with_reducible refine Bk.drew ?_ | (with_reducible refine Bk.far' ?_ ?_ _; (focus (first | omega | (simp; done) | (simp; omega))))))
              · exact (by repeat (first | with_reducible exact hs3 | with_reducible refine Sl.alloc ?_ _ | (with_reducible refine Sl.setCell' ?_ ?_ _; (focus (first | omega | (simp; done) | (simp; omega)))) | with_reducible refine Sl.drewN ?_ _ | with_reducible refine Sl.drew ?_ | (with_reducible apply Sl.below; rotate_left; (with_reducible assumption))))
              · omega
              · omega
              · omega
              · exact (by repeat (first | with_reducible exact g2 | (with_reducible refine Bk.new' _ _ _ _ ?_; focus (first | rfl | (simp; done))) | with_reducible apply Bk.set3 | with_reducible apply Bk.set4 | with_reducible apply Bk.set5 | with_reducible apply Bk.set6 | with_reducible apply Bk.set2 | with_reducible refine Bk.alloc ?_ _ | with_reducible refine Bk.drewN ?_ _ | with_reducible refine Bk.drew ?_ | (with_reducible refine Bk.far' ?_ ?_ _; (focus (first | omega | (simp; done) | (simp; omega))))))
              · exact (by repeat (first | with_reducible exact Below.refl _ _ | (with_reducible assumption) | (with_reducible refine bel_alloc ?_ ?_ _; (focus (first | omega | (simp; done) | (simp; omega)))) | (with_reducible refine bel_setCell ?_ ?_ _; (focus (first | omega | (simp; done) | (simp; omega)))) | with_reducible refine bel_drewN ?_ _ | with_reducible refine Below.drew ?_ | (with_reducible apply bel_join; (with_reducible assumption); (focus (first | omega | (simp; done) | (simp; omega))))))
          case rest =>
            obtain ⟨g, A1, c1, lo1, hi1, rfl, hk6, hs1, hl1, hd1, hg1, hk2, hB⟩ := hcut
            have q1 := hk6.lt; have q2 := hk6.cell; have q3 := hk6.free; have q4 := hk2.lt; have q5 := hk2.cell; have q6 := hk2.free
            obtain ⟨b1, off1, rfl, hb1a, hb1b, hb1c, hcell1⟩ := Sl.at hs1 (by omega)
            have hy := (hcell1 k (by omega)).1
            have hf := (hcell1 k (by omega)).2
            rw [bl_get _ _ (by rw [hl.out]; omega)] at hy
            have hcap := hs1.cap
            have hne1 : ¬ b1 = w.heap.size + 1 := by have := j2.lt; omega
            have hne2 : ¬ w.heap.size + 1 = b1 := by have := j2.lt; omega
            have hne3 : ¬ b1 = g := by omega
            have hne4 : ¬ g = b1 := by omega
            have hne5 : ¬ g = w.heap.size + 1 := by have := j2.lt; omega
            have hne6 : ¬ w.heap.size + 1 = g := by have := j2.lt; omega
            clear hcell1
            go_wp2
            refine ret_bk_tmp #[.int .i64 s, .slice (some ⟨b1, off1, none⟩) n c1, .bool sh] (w.heap.size + 1) (.bool true) _ rfl (by rfl) (by rfl) Try.underlying26 rfl (by kernel_rfl) rfl ?_ ?_
            · exact (by repeat (first | with_reducible exact hk2 | (with_reducible refine Bk.new' _ _ _ _ ?_; focus (first | rfl | (simp; done))) | with_reducible apply Bk.set3 | with_reducible apply Bk.set4 | with_reducible apply Bk.set5 | with_reducible apply Bk.set6 | with_reducible apply Bk.set2 | with_reducible refine Bk.alloc ?_ _ | with_reducible refine Bk.drewN ?_ _ | with_reducible refine Bk.drew ?_ | (with_reducible refine Bk.far' ?_ ?_ _; (focus (first | omega | (simp; done) | (simp; omega))))))
            · refine ⟨fun _ => ⟨_, n, c1, rfl, ?_, (by repeat (first | with_reducible exact Below.refl _ _ | (with_reducible assumption) | (with_reducible refine bel_alloc ?_ ?_ _; (focus (first | omega | (simp; done) | (simp; omega)))) | (with_reducible refine bel_setCell ?_ ?_ _; (focus (first | omega | (simp; done) | (simp; omega)))) | with_reducible refine bel_drewN ?_ _ | with_reducible refine Below.drew ?_ | (with_reducible apply bel_join; (with_reducible assumption); (focus (first | omega | (simp; done) | (simp; omega))))))⟩, fun h => Bool.noConfusion (h.symm.trans e0.out)⟩
              have hs2 := Sl.set hs1 k (by omega) (.bool true)
              rw [bl_set] at hs2
              rw [Int.toNat_natCast]
              have hs3 := Sl.lower (lo' := w.heap.size + 2) hs2 (by have := j2.lt; omega) (Nat.le_refl _) hs2.top
              exact Sl.lower (lo := w.heap.size + 2) (hi := hi1) (by repeat (first | with_reducible exact hs3 | with_reducible refine Sl.alloc ?_ _ | (with_reducible refine Sl.setCell' ?_ ?_ _; (focus (first | omega | (simp; done) | (simp; omega)))) | with_reducible refine Sl.drewN ?_ _ | with_reducible refine Sl.drew ?_ | (with_reducible apply Sl.below; rotate_left; (with_reducible assumption)))) (by omega) (by simpa using hs1.top) (by simp)
    · have h2 : inB cell 0 ((n : Int) - 1) = false := by simpa using h2
      have e0 : Hid (putOk s l cell = false) := Lib.hid (by simp [putOk, hl.out, h2])
      have hm := Sl.max hS
      have hc := Sl.cap hS
      go_enter Try.func11, Try.ntmps11
      go_wp2_with fail
      refine (specFieldValid_any s _ n c sh l lo hi _ (by repeat (first | with_reducible exact hS | with_reducible refine Sl.alloc ?_ _ | (with_reducible refine Sl.setCell' ?_ ?_ _; (focus (first | omega | (simp; done) | (simp; omega)))) | with_reducible refine Sl.drewN ?_ _ | with_reducible refine Sl.drew ?_ | (with_reducible apply Sl.below; rotate_left; (with_reducible assumption))))).mono ?_; rintro e w1 ⟨rfl, hb1⟩
      have k1 : Bk w1 (w.heap.size) #[.int .i64 s, .slice A n c, .bool sh] := Bk.call (by repeat (first | with_reducible exact Bk.new' _ _ _ _ (by simp) | with_reducible refine Bk.alloc ?_ _ | with_reducible refine Bk.drewN ?_ _ | with_reducible refine Bk.drew ?_ | (with_reducible refine Bk.far' ?_ ?_ _; (focus (first | omega | (simp; done) | (simp; omega)))))) hb1; have := (k1).lt; have := (k1).cell; have := (k1).free
      have k2 : Bk w1 (w.heap.size + 1) #[.int .i64 0, .slice none 0 0, .bool false] := Bk.call (by repeat (first | with_reducible exact Bk.new' _ _ _ _ (by simp) | with_reducible refine Bk.alloc ?_ _ | with_reducible refine Bk.drewN ?_ _ | with_reducible refine Bk.drew ?_ | (with_reducible refine Bk.far' ?_ ?_ _; (focus (first | omega | (simp; done) | (simp; omega)))))) hb1; have := (k2).lt; have := (k2).cell; have := (k2).free
      go_wp2_with (first | (go_at_call 38; refine (l1In_any _ _ _ _).mono ?_; rintro e w' ⟨rfl, rfl⟩))
      refine ret_bk_tmp #[.int .i64 0, .slice none 0 0, .bool false] (w.heap.size + 1) (.bool false) _ rfl (by rfl) (by rfl) Try.underlying26 rfl (by kernel_rfl) rfl (by repeat (first | with_reducible exact k2 | (with_reducible refine Bk.new' _ _ _ _ ?_; focus (first | rfl | (simp; done))) | with_reducible apply Bk.set3 | with_reducible apply Bk.set4 | with_reducible apply Bk.set5 | with_reducible apply Bk.set6 | with_reducible apply Bk.set2 | with_reducible refine Bk.alloc ?_ _ | with_reducible refine Bk.drewN ?_ _ | with_reducible refine Bk.drew ?_ | (with_reducible refine Bk.far' ?_ ?_ _; (focus (first | omega | (simp; done) | (simp; omega)))))) ?_
      exact putPost_no e0.out (by repeat (first | with_reducible exact Below.refl _ _ | (with_reducible assumption) | (with_reducible refine bel_alloc ?_ ?_ _; (focus (first | omega | (simp; done) | (simp; omega)))) | (with_reducible refine bel_setCell ?_ ?_ _; (focus (first | omega | (simp; done) | (simp; omega)))) | with_reducible refine bel_drewN ?_ _ | with_reducible refine Below.drew ?_ | (with_reducible apply bel_join; (with_reducible assumption); (focus (first | omega | (simp; done) | (simp; omega))))))
  · have h1 : okF s l = false := by simpa using h1
    have e0 : Hid (putOk s l cell = false) := Lib.hid (by simp [putOk, h1])
    go_enter Try.func11, Try.ntmps11
    go_wp2_with fail
    refine (specFieldValid_any s _ n c sh l lo hi _ (by repeat (first | with_reducible exact hS | with_reducible refine Sl.alloc ?_ _ | (with_reducible refine Sl.setCell' ?_ ?_ _; (focus (first | omega | (simp; done) | (simp; omega)))) | with_reducible refine Sl.drewN ?_ _ | with_reducible refine Sl.drew ?_ | (with_reducible apply Sl.below; rotate_left; (with_reducible assumption))))).mono ?_; rintro e w1 ⟨rfl, hb1⟩
    have k2 : Bk w1 (w.heap.size + 1) #[.int .i64 0, .slice none 0 0, .bool false] := Bk.call (by repeat (first | with_reducible exact Bk.new' _ _ _ _ (by simp) | with_reducible refine Bk.alloc ?_ _ | with_reducible refine Bk.drewN ?_ _ | with_reducible refine Bk.drew ?_ | (with_reducible refine Bk.far' ?_ ?_ _; (focus (first | omega | (simp; done) | (simp; omega)))))) hb1; have := (k2).lt; have := (k2).cell; have := (k2).free
    go_wp2
    refine ret_bk_tmp #[.int .i64 0, .slice none 0 0, .bool false] (w.heap.size + 1) (.bool false) _ rfl (by rfl) (by rfl) Try.underlying26 rfl (by kernel_rfl) rfl (by repeat (first | with_reducible exact k2 | (with_reducible refine Bk.new' _ _ _ _ ?_; focus (first | rfl | (simp; done))) | with_reducible apply Bk.set3 | with_reducible apply Bk.set4 | with_reducible apply Bk.set5 | with_reducible apply Bk.set6 | with_reducible apply Bk.set2 | with_reducible refine Bk.alloc ?_ _ | with_reducible refine Bk.drewN ?_ _ | with_reducible refine Bk.drew ?_ | (with_reducible refine Bk.far' ?_ ?_ _; (focus (first | omega | (simp; done) | (simp; omega)))))) ?_
    exact putPost_no e0.out (by repeat (first | with_reducible exact Below.refl _ _ | (with_reducible assumption) | (with_reducible refine bel_alloc ?_ ?_ _; (focus (first | omega | (simp; done) | (simp; omega)))) | (with_reducible refine bel_setCell ?_ ?_ _; (focus (first | omega | (simp; done) | (simp; omega)))) | with_reducible refine bel_drewN ?_ _ | with_reducible refine Below.drew ?_ | (with_reducible apply bel_join; (with_reducible assumption); (focus (first | omega | (simp; done) | (simp; omega))))))

end Go.Proofs.Ytpjbajfoahmleaa
