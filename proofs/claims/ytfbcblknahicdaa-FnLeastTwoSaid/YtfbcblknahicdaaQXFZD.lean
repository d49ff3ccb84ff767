/- RowD: laid into one text. -/
import Derived.Test.YtfbcblknahicdaaQXFE
import Derived.Test.YtfbcblknahicdaaQXFG
import Derived.ProofKit
import Derived.OpenShut
import Derived.ShutString
import Derived.ChangeOld
import Derived.Below
import Derived.Lib.SmallJoins
import Derived.Deep.Slices
import Derived.Deep.Strs

namespace Go.Proofs.Ytfbcblknahicdaa
set_option linter.unusedVariables false
set_option linter.unusedSimpArgs false
open Go.ChangeShapes Go.WideShapes Go.ChangeAt Go.RowKit Go.Joins Go.Deep
theorem own : ownKnob Try.prog.godebug = none := by kernel_rfl
theorem laidOut : laidOutB Try.prog = true := by kernel_rfl
theorem row_end {H : Type} {enc : TypeId × Value → H} {W : World} {t : TypeId} {v : Value} {d : DataW H} {p : List MemPlace} (h : DataW.Trod enc Try.prog W 0 (fun _ => true) true t v d p) : ∀ x ∈ p, x.block < W.heap.size := by
  obtain ⟨m, hm⟩ := h; exact DataW.trod_lt m _ _ _ hm
theorem add_plain (b off j : Nat) : (⟨b, off, none⟩ : Addr).add j = ⟨b, off + j, none⟩ := by
  unfold Addr.add; split <;> simp_all
theorem list_of {α : Type} (p : Nat → α → Prop) (n : Nat) (h : ∀ j, j < n → ∃ v, p j v) : ∃ l : List α, l.length = n ∧ ∀ j (hj : j < l.length), p j l[j] := by
  induction n with
  | zero => exact ⟨[], rfl, fun j hj => by simp at hj⟩
  | succ n ih =>
    obtain ⟨l, hl, hp⟩ := ih fun j hj => h j (by omega)
    obtain ⟨v, hv⟩ := h n (by omega)
    refine ⟨l ++ [v], by simp [hl], fun j hj => ?_⟩
    by_cases hlt : j < l.length
    · rw [List.getElem_append_left hlt]; exact hp j hlt
    · have e : j = l.length := by simp at hj; omega
      subst e
      simp [hl, hv]
section
variable {H : Type} {enc : TypeId × Value → H} {P : Program} {w : World} {α : Type} [Cel α]
def OpensC (enc : TypeId × Value → H) (P : Program) (w : World) (e : TypeId) (α : Type) [Cel α] : Prop := ∀ n cs x, DataW.trod enc P w 0 (fun _ => true) true n e cs = some x → ∃ a : α, cs = Cel.f a
theorem mapM_get {α β : Type} {f : α → Option β} : ∀ {l : List α} {r : List β}, l.mapM f = some r → r.length = l.length ∧ ∀ (j : Nat) (x : α), l[j]? = some x → ∃ y, r[j]? = some y ∧ f x = some y
  | [], r, h => by
    simp at h; subst h; exact ⟨rfl, fun j x hj => by simp at hj⟩
  | a :: l, r, h => by
    rw [List.mapM_cons] at h
    cases ha : f a with
    | none => simp [ha] at h
    | some y =>
      cases hl : l.mapM f with
      | none => simp [ha, hl] at h
      | some r' =>
        simp [ha, hl] at h
        subst h
        obtain ⟨h1, h2⟩ := mapM_get hl
        refine ⟨by simp [h1], fun j x hj => ?_⟩
        cases j with
        | zero => simp at hj; subst hj; exact ⟨y, rfl, ha⟩
        | succ j => obtain ⟨z, hz, hf⟩ := h2 j x (by simpa using hj); exact ⟨z, by simpa using hz, hf⟩
theorem ro_of_trod {t e : TypeId} {fuel : Nat} {v : Value} {y : DataW H × List MemPlace} (ht : P.underlying t = some (.slice e)) (hc : P.cellsOf e = Cel.sz α) (ho : OpensC enc P w e α)
    (h : DataW.trod enc P w 0 (fun _ => true) true fuel t [v] = some y) : ∃ l : List α, Rep0 w (.g (.one (.ro (Cel.sz α) l.length (cV l)))) v := by
  rcases open_slice ht h with ⟨hcs, _⟩ | ⟨a, len, cap, m, n, D, Pl, hcs, _, hl, hm, hmm, rfl, hx⟩
  · simp at hcs
    subst hcs
    exact ⟨[], ⟨by simp, rfl⟩, none, 0, rfl, Nat.le_refl _, by unfold maxLen; omega, fun h => absurd h (Nat.lt_irrefl _)⟩
  · simp at hcs
    subst hcs
    simp at hmm
    subst hmm
    rw [hc] at hx
    obtain ⟨l, hll, hlp⟩ := list_of (fun j (u : α) => w.cells? 0 (a.add (j * Cel.sz α)) (Cel.sz α) = some (Cel.f u)) len fun j hj => by
      obtain ⟨cs', h1, h2⟩ := hx j (by omega)
      obtain ⟨u, rfl⟩ := ho _ _ _ h2
      exact ⟨u, h1⟩
    have hcell : ∀ (j o : Nat) (hj : j < l.length) (ho : o < Cel.sz α), ∃ x, (Cel.f l[j])[o]? = some x ∧ w.cell? ((a.add (j * Cel.sz α)).add o) = some x := by
      intro j o hj ho
      have h1 := hlp j hj
      unfold World.cells? at h1
      rw [if_pos (Nat.zero_le _)] at h1
      obtain ⟨_, h2⟩ := mapM_get h1
      obtain ⟨x, h3, h4⟩ := h2 o o (by simp [ho])
      exact ⟨x, h3, h4⟩
    refine ⟨l, ⟨by rw [cV_len], cV_one l⟩, some a, m, by rw [hll], by omega, hm, fun hn => ?_⟩
    obtain ⟨b, off, spot⟩ := a
    have hspot : spot = none := by
      obtain ⟨x, _, h2⟩ := hcell 0 0 hn Cel.pos
      have := World.cell?_spot h2
      simpa [Addr.add] using this
    subst hspot
    refine ⟨b, off, rfl, ?_, fun j x hj => ?_⟩
    · obtain ⟨x, _, h2⟩ := hcell 0 0 hn Cel.pos
      rw [add_plain, add_plain] at h2
      exact World.block_lt_of_cell? w _ h2
    · have hpos : 0 < Cel.sz α := Cel.pos
      have hlt : j < l.length * Cel.sz α := by rw [← cV_len]; exact (List.getElem?_eq_some_iff.1 hj).1
      have hdm := Nat.div_add_mod j (Cel.sz α)
      have hml := Nat.mod_lt j hpos
      have hdl : j / Cel.sz α < l.length := Nat.div_lt_of_lt_mul (by rw [Nat.mul_comm]; exact hlt)
      obtain ⟨y, h1, h2⟩ := hcell (j / Cel.sz α) (j % Cel.sz α) hdl hml
      rw [add_plain, add_plain] at h2
      have e1 : l.getD (j / Cel.sz α) Cel.no = l[j / Cel.sz α] := by simp [List.getD_eq_getElem?_getD, hdl]
      have h3 := cV_cell (l := l) (j := j / Cel.sz α) (o := j % Cel.sz α) (v := y) hdl (by rw [e1]; exact h1)
      have e2 : j / Cel.sz α * Cel.sz α + j % Cel.sz α = j := by rw [Nat.mul_comm]; exact hdm
      rw [e2, hj] at h3
      cases h3
      rw [show off + j = off + j / Cel.sz α * Cel.sz α + j % Cel.sz α by omega]
      exact h2
end
section
variable {H : Type} {enc : TypeId × Value → H} {P : Program} {w : World}
theorem opens_byte {e : TypeId} (he : P.underlying e = some (.int .u8)) : OpensC enc P w e UInt8 := by
  intro n cs x h
  obtain ⟨k, h1, _, hw⟩ := DataW.trod_int he h
  have h2 : 0 ≤ k ∧ k < 256 := by
    simp [Lit.wf, IntKind.min, IntKind.max, IntKind.signed, IntKind.bits] at hw
    omega
  refine ⟨UInt8.ofNat k.toNat, ?_⟩
  rw [h1]
  show [Value.int .u8 k] = [Value.int .u8 ((UInt8.ofNat k.toNat).toNat : Int)]
  simp only [UInt8.toNat_ofNat']
  rw [Nat.mod_eq_of_lt (by omega)]
  congr 2
  omega
theorem slice_shape {e t : TypeId} {v : Value} {d : DataW H} {ps : List MemPlace} {r : Reach} {b0 : Nat} (ht : P.underlying t = some (.slice e)) (hval : Value.okWide P w r b0 t v) (h : DataW.Trod enc P w 0 (fun _ => true) true t v d ps) : ∃ fuel y, DataW.trod enc P w 0 (fun _ => true) true fuel t [v] = some y := by
  obtain ⟨A, n, c, rfl⟩ := okWide_slice ht hval
  obtain ⟨fuel, hf⟩ := h
  exact ⟨fuel, _, hf⟩
theorem bytes_of_trod {e t : TypeId} {v : Value} {d : DataW H} {ps : List MemPlace} {r : Reach} {b0 : Nat} (ht : P.underlying t = some (.slice e)) (he : P.underlying e = some (.int .u8)) (hc : P.cellsOf e = 1) (hval : Value.okWide P w r b0 t v) (h : DataW.Trod enc P w 0 (fun _ => true) true t v d ps) :
    ∃ l : List UInt8, Rep0 w (roA l) v := by
  obtain ⟨fuel, y, hf⟩ := slice_shape ht hval h
  exact ro_of_trod (α := UInt8) ht hc (opens_byte he) hf
end
section
variable {H : Type} {enc : TypeId × Value → H} {P : Program} {w : World}
end
theorem law_of_kon {P : Program} {f : FuncId} {aa : List AV} (h : Kon P f aa [] (vB true) [] []) {vs : Array Value} {w : World} (hs : vs.size = aa.length) (hr : ∀ (j : Nat) (a : AV), aa[j]? = some a → ∃ z, vs[j]? = some z ∧ Rep0 w a z) (hgl : Glo w := by exact trivial) (hgz : gsz ≤ w.heap.size := by exact Nat.zero_le _) :
    Calls P f vs w fun e w' => e = .returned (.bool true) ∧ Below w.heap.size w w' := by
  obtain ⟨C, hC, hCe⟩ := h
  exact law_run hC hCe hs hr hgl hgz
end Go.Proofs.Ytfbcblknahicdaa
