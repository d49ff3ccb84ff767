/- TRI: laid into one text. -/
import Derived.Test.YtgjnnlgeggamjaaQXEZA
import Derived.Test.YtgjnnlgeggamjaaQXEZC

namespace Go.Proofs.Ytgjnnlgeggamjaa
set_option linter.unusedVariables false
set_option linter.unusedSimpArgs false
open Go.RowKit
attribute [local go_sem] Oper.semAt_some
theorem run_ok_aux : ∀ (N : Nat) (t : PS), (fl t).length = N → ROK t := by
  intro N
  induction N using Nat.strongRecOn with
  | ind N ih => exact fun t ht => run_step t fun p hp => ih _ (by omega) p rfl
theorem run_ok (t : PS) : ROK t := run_ok_aux _ t rfl
def fin (P : List Gt) (r : List Int) : Option RS := if rvB r = true then (prs P).bind fun t => rs t (r, 0) else none
theorem rvB_rok {r : List Int} (h : rvB r = true) : rok r := by
  unfold rvB at h
  rw [Bool.and_eq_true] at h
  have h4 : r.length = 4 := by have := h.2; rw [beq_iff_eq] at this; omega
  refine ⟨h4, fun i hi => ?_⟩
  have hm : r[i]'(by omega) ∈ r := List.getElem_mem _
  have := List.all_eq_true.1 h.1 _ hm
  unfold btw at this
  rw [Bool.and_eq_true, decide_eq_true_eq, decide_eq_true_eq] at this
  rw [List.getD_eq_getElem?_getD, List.getElem?_eq_getElem (by omega)]
  show 0 ≤ r[i] ∧ r[i] < 64
  omega
theorem rv_calls (r : List Int) (hr : r.length ≤ 2000000) (w : World) (hg : Glo w) (hz : gsz ≤ w.heap.size) (y : Value) (hy : RoRep w (fun b => b < w.heap.size) 1 r.length (cV r) y) : Calls Try.prog 31 #[y] w fun e w' => e = .returned (.bool (rvB r)) ∧ Below w.heap.size w w' := by
  refine (calls_of_kon (k_rvI r (by omega)) rfl ?_ hg hz).mono ?_
  · intro j a hj
    rcases j with _ | j
    · cases hj; exact ⟨_, rfl, hy⟩
    · simp at hj
  · rintro e w' ⟨v, β, G, ok, rfl, hr, hb⟩
    rw [show v = .bool (rvB r) from hr.1]
    exact ⟨rfl, hb⟩
theorem list4r {r : List Int} (h : r.length = 4) : ∃ a b c d, r = [a, b, c, d] := by
  match r, h with
  | [a, b, c, d], _ => exact ⟨a, b, c, d, rfl⟩
theorem arr4 (w : World) (b off c : Nat) : (Instr.arrayAt 65 (.slice (some ⟨b, off, none⟩) 4 c)).run Try.prog w = .ok (.pointer (some ⟨b, off, none⟩)) w := by
  simp [Instr.arrayAt, Sem.run_bind, run_underlying (P := Try.prog) (show Try.prog.underlying 65 = some (.array 4 3) by kernel_rfl)]
def FP (w : World) (F : Option RS) (e : Ending) (w' : World) : Prop := Below w.heap.size w w' ∧ ∃ v, e = .returned (.tuple #[v, .bool F.isSome]) ∧ ∀ x, F = some x → ∃ B, v = .pointer (some ⟨B, 0, none⟩) ∧ w.heap.size ≤ B ∧ Bm w' B (mcs x.1 x.2) ∧ rok x.1
set_option maxRecDepth 100000 in
set_option maxHeartbeats 4000000 in
theorem fin_ok (P : List Gt) (hP : P.length ≤ 2000000) (r : List Int) (hr : r.length ≤ 2000000) (w : World) (hg : Glo w) (hz : gsz ≤ w.heap.size) (y z : Value) (hy : RoRep w (fun b => b < w.heap.size) 4 P.length (cV P) y) (hzz : RoRep w (fun b => b < w.heap.size) 1 r.length (cV r) z) :
    Calls Try.prog 47 #[y, z] w (FP w (fin P r)) := by
  have hp := parse_one P hP w hg hz y hy
  have hrv : ∀ w1, Below w.heap.size w w1 → Calls Try.prog 31 #[z] w1 fun e w' => e = .returned (.bool (rvB r)) ∧ Below w1.heap.size w1 w' := fun w1 hb => rv_calls r hr w1 trivial (Nat.zero_le _) z (RoRep.mono (fun b h => ⟨Nat.lt_of_lt_of_le h hb.size, hb.block b h⟩) hzz)
  cases hF : prs P with
  | none =>
    have hfin : fin P r = none := by unfold fin; rw [hF]; split <;> rfl
    rw [hF] at hp
    rw [hfin]
    clear hF hfin
    go_enter Try.func47, Try.ntmps47
    go_wp2_with (go_at_call 36; refine hp.mono ?_; rintro e w1 ⟨v, rfl, hb, _⟩)
    exact ⟨rfl, _, results_tmp2 rfl _ _ _, hb, _, rfl, fun x h => by cases h⟩
  | some t =>
    obtain ⟨h16, hall, hfl, hwf, hdp, _⟩ := prs_t hF
    cases hrb : rvB r with
    | false =>
      have hfin : fin P r = none := by unfold fin; rw [hrb]; rfl
      rw [hF] at hp
      rw [hrb] at hrv
      rw [hfin]
      clear hF hfin
      go_enter Try.func47, Try.ntmps47
      go_wp2_with (first | (go_at_call 36; refine hp.mono ?_; rintro e w1 ⟨v, rfl, hb, _⟩) | (go_at_call 31; refine (hrv w1 hb).mono ?_; rintro e w2 ⟨rfl, hb2⟩))
      exact ⟨rfl, _, results_tmp2 rfl _ _ _, hb.trans (hb2.mono hb.size), _, rfl, fun x h => by cases h⟩
    | true =>
      have hfin : fin P r = rs t (r, 0) := by unfold fin; rw [hrb, hF]; rfl
      have hrok := rvB_rok hrb
      have hlk : lkA t := by unfold lkA; rw [hfl]; exact hall
      have hW := Wb_le t
      have h416 : 4 ^ (fl t).length ≤ 4 ^ 16 := Nat.pow_le_pow_right (by decide) (by rw [hfl]; exact h16)
      have hlim : 0 + Wb t ≤ 1000000000000 := by have : (4 : Nat) ^ 16 = 4294967296 := rfl; omega
      rw [hF] at hp
      rw [hrb] at hrv
      rw [hfin]
      clear hF hfin h416 hW
      obtain ⟨r0, r1, r2, r3, rfl⟩ := list4r hrok.1
      obtain ⟨⟨_, _⟩, A, c, rfl, hc1, hc2, hcells⟩ := id hzz
      obtain ⟨b, off, rfl, hb0, hcell⟩ := hcells (by simp)
      have hcl0 : ∀ w2, Below w.heap.size w w2 → w2.cell? ⟨b, off, none⟩ = some (.int .i64 r0) ∧ w2.cell? ⟨b, off + 1, none⟩ = some (.int .i64 r1) ∧ w2.cell? ⟨b, off + 2, none⟩ = some (.int .i64 r2) ∧ w2.cell? ⟨b, off + 3, none⟩ = some (.int .i64 r3) := fun w2 hb => by
        have key : ∀ o u, (cV [r0, r1, r2, r3])[o]? = some u → w2.cell? ⟨b, off + o, none⟩ = some u := fun o u hu => (World.cell?_of_block (a := ⟨b, off + o, none⟩) (hb.block b hb0)).trans (hcell o u hu)
        exact ⟨key 0 _ rfl, key 1 _ rfl, key 2 _ rfl, key 3 _ rfl⟩
      have hcl := Lib.hid hcl0
      have har := fun w => arr4 w b off c
      clear hcells hcell hcl0
      have hprep : ∀ (w1 w2 : World) (v : Value), Below w.heap.size w w1 → Below w1.heap.size w1 w2 → TV w1 (fun b => w.heap.size ≤ b ∧ b < w1.heap.size) t v →
          TV (w2.alloc (.cells #[.int .i64 r0, .int .i64 r1, .int .i64 r2, .int .i64 r3, .int .i64 0] 67)) (fun b => w.heap.size ≤ b ∧ b < w1.heap.size) t v ∧ (∀ b, w.heap.size ≤ b ∧ b < w1.heap.size → b < (w2.alloc (.cells #[.int .i64 r0, .int .i64 r1, .int .i64 r2, .int .i64 r3, .int .i64 0] 67)).heap.size ∧ b ≠ w2.heap.size) ∧
          Bm (w2.alloc (.cells #[.int .i64 r0, .int .i64 r1, .int .i64 r2, .int .i64 r3, .int .i64 0] 67)) w2.heap.size (mcs [r0, r1, r2, r3] 0) := fun w1 w2 v hb hb2 hT =>
        ⟨hT.keep fun b hb3 => ⟨hb3, (Below.heap_alloc _ _ _ (Nat.lt_of_lt_of_le hb3.2 hb2.size)).trans (hb2.block b hb3.2)⟩, fun b hb3 => ⟨by have := hb2.size; simp; omega, by have := hb2.size; omega⟩, ⟨Bk.new w2 _ _, _, _, heap_alloc_new w2 _⟩⟩
      have hpp := Lib.hid hprep
      have hbe : ∀ (w1 w2 w3 : World) (o : Obj), Below w.heap.size w w1 → Below w1.heap.size w1 w2 → Oth w2.heap.size (w2.alloc o) w3 → Below w.heap.size w w3 := fun w1 w2 w3 o h1 h2 h3 => by
        have s1 := h1.size
        have s2 := h2.size
        exact ((h1.trans (h2.mono s1)).alloc (by omega) o).trans (h3.below (by simp; omega) (by omega))
      have hbb := Lib.hid hbe
      have h1000 : (fl t).length ≤ 1000 := by rw [hfl]; omega
      clear hprep hbe hall hfl hdp
      cases hs : rs t ([r0, r1, r2, r3], 0) with
      | none =>
        have hs' := Lib.hid hs
        clear hs
        go_enter Try.func47, Try.ntmps47
        go_wp2_with (first | (go_at_call 36; refine hp.mono ?_; rintro e w1 ⟨v, rfl, hb, hT⟩) | (go_at_call 31; refine (hrv w1 hb).mono ?_; rintro e w2 ⟨rfl, hb2⟩; obtain ⟨m0, m1, m2, m3⟩ := hcl.out w2 (hb.trans (hb2.mono hb.size))) | (go_at_call 66; obtain ⟨g1, g2, g3⟩ := hpp.out w1 w2 v hb hb2 (hT t rfl); refine (run_none (run_ok t) g1 g2 g3 hrok hlim h1000 hwf hlk hs'.out).mono ?_; rintro e w3 ⟨rfl, ho⟩))
        exact ⟨rfl, _, results_tmp2 rfl _ _ _, hbb.out w1 w2 w3 _ hb hb2 ho, _, rfl, fun x h => by cases h⟩
      | some x =>
        have hx := (bck hwf hlk ([r0, r1, r2, r3], 0) x hrok hs).1
        have hs' := Lib.hid hs
        clear hs
        go_enter Try.func47, Try.ntmps47
        go_wp2_with (first | (go_at_call 36; refine hp.mono ?_; rintro e w1 ⟨v, rfl, hb, hT⟩) | (go_at_call 31; refine (hrv w1 hb).mono ?_; rintro e w2 ⟨rfl, hb2⟩; obtain ⟨m0, m1, m2, m3⟩ := hcl.out w2 (hb.trans (hb2.mono hb.size))) | (go_at_call 66; obtain ⟨g1, g2, g3⟩ := hpp.out w1 w2 v hb hb2 (hT t rfl); refine (run_some (run_ok t) g1 g2 g3 hrok hlim h1000 hwf hlk hs'.out).mono ?_; rintro e w3 ⟨rfl, ho, hb3⟩))
        exact ⟨rfl, _, results_tmp2 rfl _ _ _, hbb.out w1 w2 w3 _ hb hb2 ho, _, rfl, fun x' h => by cases h; exact ⟨w2.heap.size, rfl, by have := hb.size; have := hb2.size; omega, hb3, hx⟩⟩
end Go.Proofs.Ytgjnnlgeggamjaa
