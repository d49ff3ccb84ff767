/- backwards of gates: the contract, and impl.CircuitBack. -/
import Derived.Test.YtgifhhefcmmdfaaKBK
import Derived.Test.YtgifhhefcmmdfaaKGJ
namespace Go.Proofs.Ytgifhhefcmmdfaa
set_option linter.unusedVariables false
set_option linter.unusedSimpArgs false
open Go.RowKit Go.Shelf
/-- A call that lays one row of gates anew keeps a contract. -/
theorem kon_fresh {P : Program} {f : FuncId} {e : TypeId} {l r : List Gt} (hent : ∀ args w, (callFunc f args).run P w = .ok (.enter f args) w)
    (h : ∀ (w : World) (ok : Nat → Prop) (y : Value), (∀ b, ok b → b < w.heap.size) → RoRep w ok 4 l.length (cV l) y → Calls P f #[y] w fun en W' => ∃ v, en = .returned v ∧ W'.ownsRow w.heap.size e 4 v r.length (cV r) ∧ Below w.heap.size w W') :
    Kon P f [roA l] [] (slA 0 0 r) [rwE e r] [] := by
  refine ⟨cOf (fun _ : Unit => ([roA l], [])) (fun _ => (slA 0 0 r, [rwE e r], [])), ⟨hent, ?_⟩, cOf_at (A := fun _ : Unit => ([roA l], [])) (R := fun _ => (slA 0 0 r, [rwE e r], [])) (fun _ _ _ => rfl) ()⟩
  intro aa es out news es' hC w vs β N hN hs hvs
  obtain ⟨_, rfl, rfl, rfl, rfl, rfl⟩ := cOf_some hC
  have hv := (hs.env 0 (roA l) rfl).2
  obtain ⟨y, rfl⟩ : ∃ y, vs = #[y] := by
    obtain ⟨xs⟩ := vs
    match xs, hvs with
    | [y], _ => exact ⟨y, rfl⟩
  refine (h w _ y (fun b hb => hb.1) hv).mono ?_
  rintro en W' ⟨v, rfl, hown, hB⟩
  have hblk : ∀ b, blk? v = some b → b < W'.heap.size ∧ w.heap.size ≤ b := by
    intro b hb
    rcases hown.2 with ⟨rfl, _⟩ | ⟨g, cap, cur, rfl, hg, hgb, _⟩
    · cases hb
    · cases hb
      exact ⟨(Array.getElem?_eq_some_iff.1 hgb).1, hg⟩
  have hG : ∀ {i r1 e1}, Gout [rwE e r] [] i = some (r1, e1) → i = 0 ∧ r1 = 0 ∧ e1 = rwE e r := by
    intro i r1 e1 hi
    unfold Gout at hi
    split at hi
    · simp at hi
    · match i, hi with
      | 0, hi => simp at hi; exact ⟨rfl, hi.1.symm, hi.2.symm⟩
      | i + 1, hi => simp at hi
  obtain ⟨hown1, hown2⟩ := hown
  have hsl : ∃ A c, v = .slice A r.length c := by
    rcases hown2 with ⟨rfl, h0⟩ | ⟨g, cap, cur, rfl, _⟩
    · rw [h0]; exact ⟨_, _, rfl⟩
    · exact ⟨_, _, rfl⟩
  obtain ⟨A, c, rfl⟩ := hsl
  refine ⟨_, fun _ => .slice A r.length c, rfl, ?_, ?_, rfl, rfl, ?_⟩
  · refine { os := hB.os, tape := hB.tape, output := hB.output, size := hB.size, block := fun k hk _ => hB.block k hk, ents := ?_, apart := ?_, fresh := ?_, pin := ?_, wide := rfl, env := ?_ }
    · intro i r1 e1 hi
      obtain ⟨rfl, rfl, rfl⟩ := hG hi
      refine ⟨?_, e, r.length, fun x hx => by cases hx; rfl, hown1, ?_⟩
      · exact cV_one r
      · exact hown2.imp id fun ⟨g, cap, cur, h1, h2, h3, h4, h5, h6, h7⟩ => ⟨g, cap, cur, h1, Nat.zero_le _, h3, h4, h5, Nat.le_of_eq h6.symm, h7⟩
    · intro i j r1 e1 r2 e2 b hi _ hj _ _ _
      rw [(hG hi).1, (hG hj).1]
    · intro i r1 e1 b hi _ hb
      exact ⟨(hblk b hb).1, .inl (hblk b hb).2⟩
    · intro i e1 hi hg
      have := (hG hg).1
      omega
    · intro i a hi; cases hi
  · exact ⟨rfl, 0, rwE e r, rfl, Nat.le_refl _, fun _ => ⟨A, _, c, rfl, Nat.le_refl _, rfl⟩⟩
  · intro p hp
    simp [AV.refs, AG.refs, AC.refs] at hp
    subst hp
    exact ⟨_, rfl⟩
theorem bwL_rev (l : List Gt) : (bwL l.length (fun j => l.getD j Cel.no) l.length).map (·.2) = l.reverse := by
  apply List.ext_getElem
  · simp [bwL, upto_length]
  · intro i h1 h2
    have hi : i < l.length := by simpa using h2
    have h3 : l.length - 1 - i < l.length := by omega
    simp [bwL, upto, List.getElem_reverse, List.getD_eq_getElem?_getD, h3]
theorem k_backwards (l : List Gt) (hl : l.length ≤ 1000000) : Kon Try.prog 79 [roA l] [] (slA 0 0 l.reverse) [gRow l.reverse] [] := by
  refine kon_fresh (Go.Proofs.enters_of Try.func79 (by kernel_rfl) rfl) ?_
  rintro w ok y hok ⟨⟨hn, hone⟩, A, c, rfl, hc1, hc2, hcs⟩
  have hL : HoldsG w.heap.size w (.slice A l.length c) l.length (fun j => l.getD j Cel.no) := by
    rcases Nat.eq_zero_or_pos l.length with h0 | h0
    · exact .inl ⟨A, c, by rw [h0], h0⟩
    · obtain ⟨b, off, rfl, hb, hcell⟩ := hcs h0
      refine .inr ⟨b, off, c, rfl, hok b hb, fun j hj => ?_⟩
      have hx : ∀ (o : Nat) (v : Value), (Cel.f (l.getD j (Cel.no : Gt)))[o]? = some v → w.cell? ⟨b, off + j * 4 + o, none⟩ = some v := fun o v hv => by
        have := hcell _ _ (cV_cell hj hv)
        rwa [← Nat.add_assoc] at this
      exact ⟨hx 0 _ rfl, hx 1 _ rfl, hx 2 _ rfl, hx 3 _ rfl⟩
  refine (callsIn_wide.1 (back_in Fence.wide 3 trivial trivial trivial rfl (Nat.le_refl _) A l.length c _ hl w hL)).mono ?_
  rintro en W' ⟨v, rfl, hown, hB⟩
  rw [bwL_rev] at hown
  exact ⟨v, rfl, by rw [List.length_reverse]; exact hown, hB⟩
end Go.Proofs.Ytgifhhefcmmdfaa
