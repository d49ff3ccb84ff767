/- TJA: laid into one text. -/
import Derived.Test.YtgjnnlgeggamjaaQXEZE

namespace Go.Proofs.Ytgjnnlgeggamjaa
set_option linter.unusedVariables false
set_option linter.unusedSimpArgs false
open Go.RowKit
attribute [local go_sem] Oper.semAt_some
theorem kon_rowT {α : Type} [Cel α] {P : Program} {f : FuncId} {aa : List AV} {r : List α} {b : Bool} (hent : ∀ args w, (callFunc f args).run P w = .ok (.enter f args) w) (hpl : aa.all (AV.on fun _ => false) = true)
    (h : ∀ (w : World) (ok : Nat → Prop) (vs : Array Value), Glo w → gsz ≤ w.heap.size → (∀ b, ok b → b < w.heap.size) → vs.size = aa.length → Args0 w ok aa vs →
      Calls P f vs w fun en W' => ∃ v e, en = .returned (.tuple #[v, .bool b]) ∧ ownR W' e (Cel.sz α) v r.length (cV r) ∧ (∀ b, blk? v = some b → w.heap.size ≤ b) ∧ Below w.heap.size w W') :
    Kon P f aa [] (.tup [.one (.sl 0 0 r.length), .one (.v (.bool b))]) [.row none (Cel.sz α) (cV r)] [] := by
  refine ⟨cOf (fun _ : Unit => (aa, [])) (fun _ => (.tup [.one (.sl 0 0 r.length), .one (.v (.bool b))], [.row none (Cel.sz α) (cV r)], [])), ⟨hent, ?_⟩, cOf_at (A := fun _ : Unit => (aa, [])) (R := fun _ => (.tup [.one (.sl 0 0 r.length), .one (.v (.bool b))], [.row none (Cel.sz α) (cV r)], [])) (fun _ _ _ => rfl) ()⟩
  intro aa' es out news es' hC w vs β N hN hs hvs
  obtain ⟨_, rfl, rfl, rfl, rfl, rfl⟩ := cOf_some hC
  have hz : gsz ≤ w.heap.size := by
    rcases Nat.eq_zero_or_pos gsz with h0 | h0
    · omega
    · have := (hs.glo.2 (gsz - 1) (by omega)).2.2; omega
  refine (h w _ vs hs.glo.1 hz (fun b hb => hb.1) hvs (args_of_sim hpl hs)).mono ?_
  rintro en W' ⟨v, e, rfl, hown, hnew, hB⟩
  have hblk : ∀ b, blk? v = some b → b < W'.heap.size ∧ w.heap.size ≤ b := by
    intro b hb
    refine ⟨?_, hnew b hb⟩
    rcases hown.2 with ⟨rfl, _⟩ | ⟨g, cap, cur, rfl, hg, hgb, _⟩
    · cases hb
    · cases hb
      exact (Array.getElem?_eq_some_iff.1 hgb).1
  have hG : ∀ {i r1 e1}, Gout [Ent.row none (Cel.sz α) (cV r)] [] i = some (r1, e1) → i = 0 ∧ r1 = 0 ∧ e1 = .row none (Cel.sz α) (cV r) := by
    intro i r1 e1 hi
    unfold Gout at hi
    split at hi
    · simp at hi
    · match i, hi with
      | 0, hi => simp at hi; exact ⟨rfl, hi.1.symm, hi.2.symm⟩
      | i + 1, hi => simp at hi
  have hsl : ∃ A c, v = .slice A r.length c := by
    rcases hown.2 with ⟨rfl, h0⟩ | ⟨g, cap, cur, rfl, _⟩
    · rw [h0]; exact ⟨_, _, rfl⟩
    · exact ⟨_, _, rfl⟩
  obtain ⟨A, c, rfl⟩ := hsl
  refine ⟨_, fun _ => .slice A r.length c, rfl, ?_, ?_, rfl, rfl, ?_⟩
  · refine { os := hB.os, tape := hB.tape, output := hB.output, glo := hs.glo, size := hB.size, block := fun k hk _ => hB.block k hk, ents := ?_, apart := ?_, fresh := ?_, pin := ?_, wide := rfl, env := ?_ }
    · intro i r1 e1 hi
      obtain ⟨rfl, rfl, rfl⟩ := hG hi
      exact ⟨cV_one r, e, r.length, (fun x hx => by cases hx), hown⟩
    · intro i j r1 e1 r2 e2 b hi _ hj _ _ _
      rw [(hG hi).1, (hG hj).1]
    · intro i r1 e1 b hi _ hb
      exact ⟨(hblk b hb).1, .inl (hblk b hb).2⟩
    · intro i e1 hi hg
      have := (hG hg).1
      omega
    · intro i a hi; cases hi
  · refine ⟨_, rfl, rfl, ?_⟩
    intro j x hj
    rcases j with _ | _ | j
    · cases hj
      exact ⟨_, rfl, rfl, 0, .row none (Cel.sz α) (cV r), rfl, Nat.le_refl _, fun _ => ⟨A, _, c, rfl, Nat.le_refl _, rfl⟩⟩
    · cases hj
      exact ⟨_, rfl, rfl, rfl⟩
    · simp at hj
  · intro p hp
    simp [AV.refs, AG.refs, AC.refs] at hp
    subst hp
    exact ⟨_, rfl⟩
theorem mcs_take {r : List Int} {n : Nat} (h : r.length = 4) : (mcs r n).toList.take (4 * 1) = cV r := by
  obtain ⟨a, b, c, d, rfl⟩ := list4r h
  rfl
theorem bm_own {w : World} {B n : Nat} {r : List Int} (h : Bm w B (mcs r n)) (h4 : r.length = 4) : ∃ e, ownR w e 1 (.slice (some ⟨B, 0, none⟩) 4 4) 4 (cV r) := by
  obtain ⟨c, e, hh⟩ := h.fz
  have hc : c = mcs r n := Array.ext_getElem? fun j => by have := h.cell j; simpa [World.cell?, hh] using this
  subst hc
  refine ⟨e, ?_, .inr ⟨B, 4, _, rfl, Nat.zero_le _, hh, Nat.le_refl _, by decide, ?_, mcs_take h4⟩⟩
  · rw [← mcs_take h4, List.length_take]
    rw [show (mcs r n).toList.length = 5 by rw [Array.length_toList]; exact mcs_size h4]
    rfl
  · rw [mcs_size h4]; decide
def stO (F : Option RS) : Int := match F with
  | none => -1
  | some x => (x.2 : Int)
theorem k_stI (P : List Gt) (h : P.length ≤ 2000000) (r : List Int) (hr : r.length ≤ 2000000) : Kon Try.prog 28 [roA P, roA r] [] (vI (stO (fin P r))) [] [] := by
  refine kon_pureZ (Go.Proofs.enters_of Try.func28 (by kernel_rfl) rfl) rfl rfl ?_
  intro w ok vs hg hz hoks hsz hargs
  obtain ⟨y, hy, hry⟩ := hargs 0 _ rfl
  obtain ⟨z, hzz, hrz⟩ := hargs 1 _ rfl
  have hv : vs = #[y, z] := by
    obtain ⟨xs⟩ := vs
    match xs, hsz with
    | [x1, x2], _ => cases hy; cases hzz; rfl
  subst hv
  have hp := fin_ok P h r hr w hg hz y z (RoRep.mono (fun b hb => ⟨hoks b hb, rfl⟩) hry) (RoRep.mono (fun b hb => ⟨hoks b hb, rfl⟩) hrz)
  clear hry hrz hargs
  cases hF : fin P r with
  | none =>
    rw [hF] at hp
    clear hF
    go_enter Try.func28, Try.ntmps28
    go_wp2_with (go_at_call 47; refine hp.mono ?_; rintro e w1 ⟨hb, v, rfl, _⟩)
    exact ⟨rfl, _, results_tmp rfl _ _ _, _, rfl, hb, fun β G ok => ⟨rfl, rfl⟩⟩
  | some x =>
    rw [hF] at hp
    clear hF
    have hp2 : Calls Try.prog 47 #[y, z] w fun e w' => ∃ B, e = .returned (.tuple #[.pointer (some ⟨B, 0, none⟩), .bool true]) ∧ Below w.heap.size w w' ∧ w'.cell? ⟨B, 4, none⟩ = some (.int .i64 (x.2 : Int)) := by
      refine hp.mono ?_
      rintro e w' ⟨hb, v, rfl, hx⟩
      obtain ⟨B, rfl, h1, h2, h3⟩ := hx x rfl
      exact ⟨B, rfl, hb, (h2.cell 4).trans (mcs_n h3.1)⟩
    clear hp
    go_enter Try.func28, Try.ntmps28
    go_wp2_with (go_at_call 47; refine hp2.mono ?_; rintro e w1 ⟨B, rfl, hb, hc⟩)
    exact ⟨rfl, _, results_tmp rfl _ _ _, _, rfl, hb, fun β G ok => ⟨rfl, rfl⟩⟩
theorem k_prI (P : List Gt) (h : P.length ≤ 2000000) (r : List Int) (hr : r.length ≤ 2000000) : KPR 23 none P r (fin P r) := by
  refine kon_rowT (α := Int) (Go.Proofs.enters_of Try.func23 (by kernel_rfl) rfl) rfl ?_
  intro w ok vs hg hz hoks hsz hargs
  obtain ⟨y, hy, hry⟩ := hargs 0 _ rfl
  obtain ⟨z, hzz, hrz⟩ := hargs 1 _ rfl
  have hv : vs = #[y, z] := by
    obtain ⟨xs⟩ := vs
    match xs, hsz with
    | [x1, x2], _ => cases hy; cases hzz; rfl
  subst hv
  have hp := fin_ok P h r hr w hg hz y z (RoRep.mono (fun b hb => ⟨hoks b hb, rfl⟩) hry) (RoRep.mono (fun b hb => ⟨hoks b hb, rfl⟩) hrz)
  clear hry hrz hargs
  cases hF : fin P r with
  | none =>
    rw [hF] at hp
    clear hF
    go_enter Try.func23, Try.ntmps23
    go_wp2_with (go_at_call 47; refine hp.mono ?_; rintro e w1 ⟨hb, v, rfl, _⟩)
    exact ⟨rfl, _, results_tmp2 rfl _ _ _, _, 0, rfl, ⟨rfl, .inl ⟨rfl, rfl⟩⟩, fun b hb => (by cases hb), hb⟩
  | some x =>
    rw [hF] at hp
    clear hF
    have hp2 : Calls Try.prog 47 #[y, z] w fun e w' => ∃ B, e = .returned (.tuple #[.pointer (some ⟨B, 0, none⟩), .bool true]) ∧ Below w.heap.size w w' ∧ w.heap.size ≤ B ∧ (∃ e2, ownR w' e2 1 (.slice (some ⟨B, 0, none⟩) 4 4) 4 (cV x.1)) ∧ x.1.length = 4 := by
      refine hp.mono ?_
      rintro e w' ⟨hb, v, rfl, hx⟩
      obtain ⟨B, rfl, h1, h2, h3⟩ := hx x rfl
      exact ⟨B, rfl, hb, h1, bm_own h2 h3.1, h3.1⟩
    clear hp
    go_enter Try.func23, Try.ntmps23
    go_wp2_with (go_at_call 47; refine hp2.mono ?_; rintro e w1 ⟨B, rfl, hb, h1, ⟨e2, ho⟩, h4⟩)
    refine ⟨rfl, _, results_tmp2 (t := 4) (u := 5) rfl _ _ _, _, e2, rfl, ?_, ?_, hb⟩
    · show ownR w1 e2 1 (.slice (some ⟨B, 0, none⟩) 4 4) x.1.length (cV x.1)
      rw [h4]; exact ho
    · intro b hb
      have : some B = some b := hb
      cases this
      exact h1
end Go.Proofs.Ytgjnnlgeggamjaa
