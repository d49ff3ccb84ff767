/- FTJ, RowD, RowE, RowG, GL5, FTJV, FTX, FTK, FTKV: laid into one text. -/
import Derived.Test.YtfoobfelgbcknaaDoorQFE
import Derived.Test.YtfoobfelgbcknaaDoorQFF
import Derived.Test.YtfoobfelgbcknaaDoorQFL
import Derived.Test.YtfoobfelgbcknaaDoorQFM
import Derived.Test.YtfoobfelgbcknaaDoorQFN
import Derived.Test.YtfoobfelgbcknaaDoorQFP
import Derived.ProofKit
import Derived.OpenShut
import Derived.ShutString
import Derived.ChangeOld
import Derived.Below
import Derived.Lib.SmallJoins
import Derived.Deep.Slices
import Derived.Deep.Strs
import Derived.ChangeMaps5
import Derived.HandedShaped
import Derived.Test.YtfoobfelgbcknaaDoorRows
import Derived.Shelf.Vars
import Derived.Stop.LaidErr
import Derived.LaidMore

namespace Go.Proofs.YtfoobfelgbcknaaDoor
set_option linter.unusedVariables false
set_option linter.unusedSimpArgs false
set_option maxRecDepth 20000
open Go.RowKit
attribute [local irreducible] runA runX AW
theorem gq_FTJ {H G : Prop} (k : H) (h : Hid H → G := by (intro hh; repeat1' (first | (first | (refine nxA ?_; (first | (first | refine r_slen (by rfl) Tryd.underlying9 (by rfl) ?_ | refine r_seq (by rfl) (by rfl) (by rfl) ?_ | refine r_sne (by rfl) (by rfl) (by rfl) ?_ | refine r_sadd (by rfl) (by rfl) (by first | omega | (simp only [List.length_append, List.length_cons, List.length_nil, List.length_take, List.length_drop]; omega)) (by rfl) ?_ | refine r_spiece (q := z) (by rfl) (by rfl) (by rfl) Tryd.underlying9 (.inl ⟨rfl, rfl⟩) (.inr rfl) (by omega) (by rfl) ?_ | refine r_spiece (p := z + 1) (by rfl) (by rfl) (by rfl) Tryd.underlying9 (.inr rfl) (.inl ⟨rfl, rfl⟩) (by omega) (by rfl) ?_) | ((first | (refine z_op (by rfl) ?_; first | refine z_ok ?_ ?_ | refine z_ex ?_ (by first | exact zL1 | ((first | fail); exact zWW) | exact zL2 | (first | exact rw_c (List UInt8) rfl) | exact zL3 | fail) ?_) | ((first | refine q_callE wsT wsZI (by rfl) ?_ | refine q_callVE wsT (by rfl) (by rfl) ?_); refine ⟨_, _, _, (by first | assumption | exact k_open _ (by omega) | exact k_alive | exact k_ftI _ _ _ | exact k_ftS _ _ _ | exact Kon.of con_valid (cValid_at _ _ _) | exact Kon.of con_sameField (cSame_at _ _ _ _ _ _) | exact Kon.of con_sameBalls (cBalls_at _ _ _ _ _ _) | exact Kon.of con_sameBalls (cBalls_at _ [] _ _ [] _)), _, by rfl, ?_, ?_⟩)); focus (first | exact trivial | fail | exact zQZ)) | fail)) | refine swA ?_) | refine awA ?_); exact hh.out)) : G := h ⟨k⟩
theorem sameB_refl2 (f : Fld) : sameB f f = true := by simp [sameB, beqL]
set_option maxHeartbeats 4000000 in
theorem k_lawFT (l : List UInt8) : Kon Tryd.prog 3 [roA l] [] (vB true) [] [] := by
  rcases Nat.lt_or_ge 1048576 l.length with h0 | h0
  · have hd : decide ((l.length : Int) > 1048576) = true := decide_eq_true (by omega)
    (refine kM Tryd.func3 rfl ?_; intro hfit hfe)
    (repeat (first | refine gq_FTJ ?_ | (refine ga0A ?_; intro _hq)))
    (refine rtA ?_; try rfl)
  have hd : decide ((l.length : Int) > 1048576) = false := decide_eq_false (by omega)
  obtain ⟨o, hD⟩ := ex_dFT l (by omega)
  obtain ⟨f, hf⟩ : ∃ f : Fld, f = o.getD ⟨0, [], false⟩ := ⟨_, rfl⟩
  have hV : Kon Tryd.prog 9 [fAx f.s f.l f.b] [] (vB f.ok) [] [] := Kon.of con_valid (cValid_at f.s f.l f.b)
  have hTI := k_ftI f.s f.l f.b
  have hTS := k_ftS f.s f.l f.b
  rw [show (⟨f.s, f.l, f.b⟩ : Fld) = f from rfl] at hTI hTS
  have htl := ftx_len f
  have hne : (!(ftx f == ftx f)) = false := by simp
  cases hok : f.ok with
  | false =>
    rw [hok] at hV
    rw [ftx_no hok] at hTI hTS hne
    have he : (([] : List UInt8) == []) = true := rfl
    clear htl hok
    rcases o with _ | ⟨s, bl, b⟩
    all_goals (subst hf)
    all_goals (refine kM Tryd.func3 rfl ?_; intro hfit hfe)
    all_goals ((repeat (first | refine gq_FTJ ?_ | (refine ga0A ?_; intro _hq))))
    all_goals ((refine rtA ?_; try rfl))
  | true =>
    rw [hok] at hV
    have hR := k_rfI (ftx f) (by omega) (fdK_self hok)
    obtain ⟨hself, hnn⟩ := fd_self hok
    rw [hself] at hR
    have he : (ftx f == []) = false := beq_eq_false_iff_ne.2 hnn
    have hSF : Kon Tryd.prog 12 [fAx f.s f.l f.b, fAx f.s f.l f.b] [] (vB true) [] [] := by
      have := Kon.of con_sameField (cSame_at f.s f.l f.b f.s f.l f.b)
      rw [show (⟨f.s, f.l, f.b⟩ : Fld) = f from rfl, hok, sameB_refl2] at this
      exact this
    clear hself hnn hok
    generalize ftx f = T at *
    rcases o with _ | ⟨s, bl, b⟩
    all_goals (subst hf)
    all_goals (refine kM Tryd.func3 rfl ?_; intro hfit hfe)
    all_goals ((repeat (first | refine gq_FTJ ?_ | (refine ga0A ?_; intro _hq))))
    all_goals ((refine rtA ?_; try rfl))
theorem ballsB_refl (f : Fld) : ballsB f f = true := by simp [ballsB, beqL]
set_option maxHeartbeats 4000000 in
theorem k_lawRF (l : List UInt8) : Kon Tryd.prog 5 [roA l] [] (vB true) [] [] := by
  rcases Nat.lt_or_ge 1048576 l.length with h0 | h0
  · have hd : decide ((l.length : Int) > 1048576) = true := decide_eq_true (by omega)
    (refine kM Tryd.func5 rfl ?_; intro hfit hfe)
    (repeat (first | refine gq_FTJ ?_ | (refine ga0A ?_; intro _hq)))
    (refine rtA ?_; try rfl)
  have hd : decide ((l.length : Int) > 1048576) = false := decide_eq_false (by omega)
  obtain ⟨t, htl, hD⟩ := ex_dRF l (by omega)
  cases hk : fdK t with
  | true =>
    have hI := k_rfI t (by omega) hk
    have hS := k_rfS t (by omega) hk
    have hM := k_rfI0 (t ++ [47]) (by rw [List.length_append, List.length_singleton]; omega) (fdK_slash hk)
    obtain ⟨hok, hft⟩ := fdK_t hk
    obtain ⟨f, hf⟩ : ∃ f, fdF t = f := ⟨_, rfl⟩
    rw [hf] at hI hS hft hok
    have hT := k_ftI f.s f.l f.b
    rw [show (⟨f.s, f.l, f.b⟩ : Fld) = f from rfl, hft] at hT
    have hB : Kon Tryd.prog 18 [fAx f.s f.l f.b, fAx f.s f.l f.b] [] (vB true) [] [] := by
      have := Kon.of con_sameBalls (cBalls_at f.s f.l f.b f.s f.l f.b)
      rw [ballsB_refl] at this
      exact this
    have hbb : (f.b != f.b) = false := by simp
    have htt : (t == t) = true := by simp
    clear hk hok hft hf
    obtain ⟨s, bl, b⟩ := f
    (refine kM Tryd.func5 rfl ?_; intro hfit hfe)
    (repeat (first | refine gq_FTJ ?_ | (refine ga0A ?_; intro _hq)))
    (refine rtA ?_; try rfl)
  | false =>
    have hI := k_rfI0 t (by omega) hk
    have hS := k_rfS0 t (by omega) hk
    have hB : Kon Tryd.prog 18 [fAx 0 [] false, fAx 0 [] false] [] (vB true) [] [] := Kon.of con_sameBalls (cBalls_at 0 [] false 0 [] false)
    clear hk
    (refine kM Tryd.func5 rfl ?_; intro hfit hfe)
    (repeat (first | refine gq_FTJ ?_ | (refine ga0A ?_; intro _hq)))
    (refine rtA ?_; try rfl)
end Go.Proofs.YtfoobfelgbcknaaDoor
namespace Go.Proofs.YtfoobfelgbcknaaDoor
set_option linter.unusedVariables false
set_option linter.unusedSimpArgs false
open Go.ChangeShapes Go.WideShapes Go.ChangeAt Go.RowKit Go.Joins Go.Deep
theorem own : ownKnob Tryd.prog.godebug = none := by kernel_rfl
theorem laidOut : laidOutB Tryd.prog = true := by kernel_rfl
theorem row_end {H : Type} {enc : TypeId × Value → H} {W : World} {t : TypeId} {v : Value} {d : DataW H} {p : List MemPlace} (h : DataW.Trod enc Tryd.prog W 0 (fun _ => true) true t v d p) : ∀ x ∈ p, x.block < W.heap.size := by
  obtain ⟨m, hm⟩ := h; exact DataW.trod_lt m _ _ _ hm
theorem add_plain (b off j : Nat) : (⟨b, off, none⟩ : Addr).add j = ⟨b, off + j, none⟩ := by
  unfold Addr.add; split <;> simp_all
theorem list_of {α : Type} (p : Nat → α → Prop) (n : Nat) (h : ∀ j, j < n → ∃ v, p j v) : ∃ l : List α, l.length = n ∧ ∀ j (hj : j < l.length), p j l[j] := by
  induction n with
  | zero => exact ⟨[], rfl, fun j hj => by simp at hj⟩
  | succ n ih =>
    obtain ⟨l, hl, hp⟩ := ih fun j hj => h j (by omega)
    obtain ⟨v, hv⟩ := h n (by omega)
    refine ⟨l ++ [v], by simp [hl], fun j hj => ?_⟩
    by_cases hlt : j < l.length
    · rw [List.getElem_append_left hlt]; exact hp j hlt
    · have e : j = l.length := by simp at hj; omega
      subst e
      simp [hl, hv]
section
variable {H : Type} {enc : TypeId × Value → H} {P : Program} {w : World} {α : Type} [Cel α]
def OpensC (enc : TypeId × Value → H) (P : Program) (w : World) (e : TypeId) (α : Type) [Cel α] : Prop := ∀ n cs x, DataW.trod enc P w 0 (fun _ => true) true n e cs = some x → ∃ a : α, cs = Cel.f a
theorem mapM_get {α β : Type} {f : α → Option β} : ∀ {l : List α} {r : List β}, l.mapM f = some r → r.length = l.length ∧ ∀ (j : Nat) (x : α), l[j]? = some x → ∃ y, r[j]? = some y ∧ f x = some y
  | [], r, h => by
    simp at h; subst h; exact ⟨rfl, fun j x hj => by simp at hj⟩
  | a :: l, r, h => by
    rw [List.mapM_cons] at h
    cases ha : f a with
    | none => simp [ha] at h
    | some y =>
      cases hl : l.mapM f with
      | none => simp [ha, hl] at h
      | some r' =>
        simp [ha, hl] at h
        subst h
        obtain ⟨h1, h2⟩ := mapM_get hl
        refine ⟨by simp [h1], fun j x hj => ?_⟩
        cases j with
        | zero => simp at hj; subst hj; exact ⟨y, rfl, ha⟩
        | succ j => obtain ⟨z, hz, hf⟩ := h2 j x (by simpa using hj); exact ⟨z, by simpa using hz, hf⟩
theorem ro_of_trod {t e : TypeId} {fuel : Nat} {v : Value} {y : DataW H × List MemPlace} (ht : P.underlying t = some (.slice e)) (hc : P.cellsOf e = Cel.sz α) (ho : OpensC enc P w e α)
    (h : DataW.trod enc P w 0 (fun _ => true) true fuel t [v] = some y) : ∃ l : List α, Rep0 w (.g (.one (.ro (Cel.sz α) l.length (cV l)))) v := by
  rcases open_slice ht h with ⟨hcs, _⟩ | ⟨a, len, cap, m, n, D, Pl, hcs, _, hl, hm, hmm, rfl, hx⟩
  · simp at hcs
    subst hcs
    exact ⟨[], ⟨by simp, rfl⟩, none, 0, rfl, Nat.le_refl _, by unfold maxLen; omega, fun h => absurd h (Nat.lt_irrefl _)⟩
  · simp at hcs
    subst hcs
    simp at hmm
    subst hmm
    rw [hc] at hx
    obtain ⟨l, hll, hlp⟩ := list_of (fun j (u : α) => w.cells? 0 (a.add (j * Cel.sz α)) (Cel.sz α) = some (Cel.f u)) len fun j hj => by
      obtain ⟨cs', h1, h2⟩ := hx j (by omega)
      obtain ⟨u, rfl⟩ := ho _ _ _ h2
      exact ⟨u, h1⟩
    have hcell : ∀ (j o : Nat) (hj : j < l.length) (ho : o < Cel.sz α), ∃ x, (Cel.f l[j])[o]? = some x ∧ w.cell? ((a.add (j * Cel.sz α)).add o) = some x := by
      intro j o hj ho
      have h1 := hlp j hj
      unfold World.cells? at h1
      rw [if_pos (Nat.zero_le _)] at h1
      obtain ⟨_, h2⟩ := mapM_get h1
      obtain ⟨x, h3, h4⟩ := h2 o o (by simp [ho])
      exact ⟨x, h3, h4⟩
    refine ⟨l, ⟨by rw [cV_len], cV_one l⟩, some a, m, by rw [hll], by omega, hm, fun hn => ?_⟩
    obtain ⟨b, off, spot⟩ := a
    have hspot : spot = none := by
      obtain ⟨x, _, h2⟩ := hcell 0 0 hn Cel.pos
      have := World.cell?_spot h2
      simpa [Addr.add] using this
    subst hspot
    refine ⟨b, off, rfl, ?_, fun j x hj => ?_⟩
    · obtain ⟨x, _, h2⟩ := hcell 0 0 hn Cel.pos
      rw [add_plain, add_plain] at h2
      exact World.block_lt_of_cell? w _ h2
    · have hpos : 0 < Cel.sz α := Cel.pos
      have hlt : j < l.length * Cel.sz α := by rw [← cV_len]; exact (List.getElem?_eq_some_iff.1 hj).1
      have hdm := Nat.div_add_mod j (Cel.sz α)
      have hml := Nat.mod_lt j hpos
      have hdl : j / Cel.sz α < l.length := Nat.div_lt_of_lt_mul (by rw [Nat.mul_comm]; exact hlt)
      obtain ⟨y, h1, h2⟩ := hcell (j / Cel.sz α) (j % Cel.sz α) hdl hml
      rw [add_plain, add_plain] at h2
      have e1 : l.getD (j / Cel.sz α) Cel.no = l[j / Cel.sz α] := by simp [List.getD_eq_getElem?_getD, hdl]
      have h3 := cV_cell (l := l) (j := j / Cel.sz α) (o := j % Cel.sz α) (v := y) hdl (by rw [e1]; exact h1)
      have e2 : j / Cel.sz α * Cel.sz α + j % Cel.sz α = j := by rw [Nat.mul_comm]; exact hdm
      rw [e2, hj] at h3
      cases h3
      rw [show off + j = off + j / Cel.sz α * Cel.sz α + j % Cel.sz α by omega]
      exact h2
end
section
variable {H : Type} {enc : TypeId × Value → H} {P : Program} {w : World}
theorem opens_byte {e : TypeId} (he : P.underlying e = some (.int .u8)) : OpensC enc P w e UInt8 := by
  intro n cs x h
  obtain ⟨k, h1, _, hw⟩ := DataW.trod_int he h
  have h2 : 0 ≤ k ∧ k < 256 := by
    simp [Lit.wf, IntKind.min, IntKind.max, IntKind.signed, IntKind.bits] at hw
    omega
  refine ⟨UInt8.ofNat k.toNat, ?_⟩
  rw [h1]
  show [Value.int .u8 k] = [Value.int .u8 ((UInt8.ofNat k.toNat).toNat : Int)]
  simp only [UInt8.toNat_ofNat']
  rw [Nat.mod_eq_of_lt (by omega)]
  congr 2
  omega
theorem slice_shape {e t : TypeId} {v : Value} {d : DataW H} {ps : List MemPlace} {r : Reach} {b0 : Nat} (ht : P.underlying t = some (.slice e)) (hval : Value.okWide P w r b0 t v) (h : DataW.Trod enc P w 0 (fun _ => true) true t v d ps) : ∃ fuel y, DataW.trod enc P w 0 (fun _ => true) true fuel t [v] = some y := by
  obtain ⟨A, n, c, rfl⟩ := okWide_slice ht hval
  obtain ⟨fuel, hf⟩ := h
  exact ⟨fuel, _, hf⟩
theorem bytes_of_trod {e t : TypeId} {v : Value} {d : DataW H} {ps : List MemPlace} {r : Reach} {b0 : Nat} (ht : P.underlying t = some (.slice e)) (he : P.underlying e = some (.int .u8)) (hc : P.cellsOf e = 1) (hval : Value.okWide P w r b0 t v) (h : DataW.Trod enc P w 0 (fun _ => true) true t v d ps) :
    ∃ l : List UInt8, Rep0 w (roA l) v := by
  obtain ⟨fuel, y, hf⟩ := slice_shape ht hval h
  exact ro_of_trod (α := UInt8) ht hc (opens_byte he) hf
end
section
variable {H : Type} {enc : TypeId × Value → H} {P : Program} {w : World}
end
theorem law_of_kon {P : Program} {f : FuncId} {aa : List AV} (h : Kon P f aa [] (vB true) [] []) {vs : Array Value} {w : World} (hs : vs.size = aa.length) (hr : ∀ (j : Nat) (a : AV), aa[j]? = some a → ∃ z, vs[j]? = some z ∧ Rep0 w a z) (hgl : Glo w := by exact trivial) (hgz : gsz ≤ w.heap.size := by exact Nat.zero_le _) :
    Calls P f vs w fun e w' => e = .returned (.bool true) ∧ Below w.heap.size w w' := by
  obtain ⟨C, hC, hCe⟩ := h
  exact law_run hC hCe hs hr hgl hgz
section
variable {H : Type} {enc : TypeId × Value → H} {P : Program} {w : World}
end
end Go.Proofs.YtfoobfelgbcknaaDoor
namespace Go.Proofs.YtfoobfelgbcknaaDoor
set_option linter.unusedVariables false
set_option linter.unusedSimpArgs false
open Go.ChangeShapes Go.WideShapes Go.ChangeAt Go.RowKit Go.Joins Go.Deep Go.ChangeMaps
section
variable {H : Type} {enc : TypeId × Value → H} {P : Program} {w : World}
theorem string_of_trod {t : TypeId} {v : Value} {d : DataW H} {ps : List MemPlace} {r : Reach} {b0 : Nat} (ht : P.underlying t = some .string) (hval : Value.okWide P w r b0 t v) (h : DataW.Trod enc P w 0 (fun _ => true) true t v d ps) :
    ∃ s : List UInt8, Rep0 w (vS s) v := by
  obtain ⟨s, rfl, _, _, _⟩ := open_string ht hval h
  refine ⟨s.data.toList, ?_⟩
  have e : str s.data.toList = s := by
    obtain ⟨⟨l⟩⟩ := s
    rfl
  exact ⟨by rw [e], rfl⟩
end
section
variable {H : Type} {enc : TypeId × Value → H}
theorem handed_laid_shaped {a : Assume} {C : Checked} {os : Os} {f : FuncId} {fn : Func} {s : ChangeSpec} {conds : List PathCond} {apart fresh handsOn again : Bool} {X : World → Array Value → Prop}
    (hX : ∀ (w w' : World) (args : Array Value), w.heap = w'.heap → X w args → X w' args)
    (own : ownKnob C.prog.godebug = none) (started : os.Started) (noInit : C.prog.inits.idxOf? f = none) (hfn : C.prog.funcs[f]? = some fn)
    (witness : ∃ (w : World) (tape : Tape) (i : Input), w.os = os ∧ (w.forCall tape i).Shaped C.prog ∧ i.vars = [] ∧ Input.okWide C.prog (w.forCall tape i) .any w.heap.size f i ∧
      ((s.pre enc C.prog fn conds apart (w.forCall tape i).memory i.args ∧ X (w.forCall tape i).memory i.args) ∧ sizedMet enc C.prog fn (OpenSpec.ofChange s) apart (w.forCall tape i).memory i.args) ∧ a.holds C.prog (lone (Frame.enter C.prog f i.args .normal) [] (w.forCall tape i)))
    (contract : ∀ (W : World) (base : Nat) (args : Array Value) (ds gs : List (DataW H)) (before : List MemPlace),
      (∀ (j : Nat) t v, fn.params[j]? = some t → args[j]? = some v → Value.okWide C.prog W .any base t v) →
      DataW.Whole enc C.prog fn.params.toList s.vars apart W args.toList ds gs before →
      conds.all (PathCond.test C.prog ⟨fn.params.toList, ds, s.plain.varTypes C.prog, gs⟩) = true →
      W.ShapedOpen C.prog → X W args →
      Calls C.prog f args W fun e W' => ∃ v, e = .returned v ∧ s.post enc C.prog fn apart fresh handsOn again W args v W') :
    ReturnsInHanded a C os f .any (fun w args => (s.pre enc C.prog fn conds apart w args ∧ X w args) ∧ sizedMet enc C.prog fn (OpenSpec.ofChange s) apart w args) (s.post enc C.prog fn apart fresh handsOn again) := by
  refine returnsInHanded_of_calls own started noInit witness ?_
  intro w tape i _ hsh _ hok hpre hholds
  obtain ⟨_, _, _, fn', hfn', _, _, _, _, hval⟩ := hok
  have e : fn' = fn := Option.some.inj (hfn'.symm.trans hfn)
  subst e
  obtain ⟨⟨⟨ds, gs, before, hw, hc⟩, hx⟩, hz⟩ := hpre
  have hw' := DataW.Whole.of_heap (w' := w.forCall tape i) (by rfl) hw
  refine (contract (w.forCall tape i) w.heap.size i.args ds gs before hval hw' hc hsh (hX _ _ _ (by rfl) hx)).mono fun e W' ⟨v, he, hp⟩ => ?_
  subst he
  exact ChangeSpec.post_blind hp
end
end Go.Proofs.YtfoobfelgbcknaaDoor
namespace Go.Proofs.YtfoobfelgbcknaaDoor
set_option linter.unusedVariables false
set_option linter.unusedSimpArgs false
open Go.ChangeShapes Go.WideShapes Go.ChangeAt Go.RowKit Go.Joins Go.Deep
theorem cell_lt {W : World} {g : Nat} {x : Value} (h : W.cell? ⟨g, 0, none⟩ = some x) : g < W.heap.size := by
  rcases Nat.lt_or_ge g W.heap.size with h1 | h1
  · exact h1
  · unfold World.cell? at h
    simp [Array.getElem?_eq_none h1] at h
theorem glo_FieldText {W : World} (hsh : W.ShapedOpen Tryd.prog) (hL : laidMetH Tryd.prog Rows.fnFieldTextRow.laid W) : Glo W ∧ gsz ≤ W.heap.size := by
  obtain ⟨m, hm⟩ : ∃ m, W.cell? ⟨0, 0, none⟩ = some (.int .i64 m) :=
    cell_of_shapedOpen_int (zero := #[.int .i64 0]) (t := 3) hsh (of_decide_eq_true (by kernel_rfl)) (by kernel_rfl) rfl (by kernel_rfl) (by kernel_rfl) Tryd.underlying3
  exact ⟨⟨m, hm⟩, Nat.succ_le_of_lt (cell_lt hm)⟩
theorem glo_ReadField {W : World} (hsh : W.ShapedOpen Tryd.prog) (hL : laidMetH Tryd.prog Rows.fnReadFieldRow.laid W) : Glo W ∧ gsz ≤ W.heap.size := by
  obtain ⟨m, hm⟩ : ∃ m, W.cell? ⟨0, 0, none⟩ = some (.int .i64 m) :=
    cell_of_shapedOpen_int (zero := #[.int .i64 0]) (t := 3) hsh (of_decide_eq_true (by kernel_rfl)) (by kernel_rfl) rfl (by kernel_rfl) (by kernel_rfl) Tryd.underlying3
  exact ⟨⟨m, hm⟩, Nat.succ_le_of_lt (cell_lt hm)⟩
theorem glo_ExactReadField {W : World} (hsh : W.ShapedOpen Tryd.prog) (hL : laidMetH Tryd.prog Rows.fnExactReadFieldRow.laid W) : Glo W ∧ gsz ≤ W.heap.size := by
  obtain ⟨m, hm⟩ : ∃ m, W.cell? ⟨0, 0, none⟩ = some (.int .i64 m) :=
    cell_of_shapedOpen_int (zero := #[.int .i64 0]) (t := 3) hsh (of_decide_eq_true (by kernel_rfl)) (by kernel_rfl) rfl (by kernel_rfl) (by kernel_rfl) Tryd.underlying3
  exact ⟨⟨m, hm⟩, Nat.succ_le_of_lt (cell_lt hm)⟩
end Go.Proofs.YtfoobfelgbcknaaDoor
namespace Go.Proofs.YtfoobfelgbcknaaDoor
end Go.Proofs.YtfoobfelgbcknaaDoor
namespace Go.Proofs.YtfoobfelgbcknaaDoor
set_option linter.unusedVariables false
set_option linter.unusedSimpArgs false
set_option maxRecDepth 20000
open Go.RowKit
attribute [local irreducible] runA runX AW
def wsX : WsT := (36, ([0], false)) :: (15, ([0], false)) :: wsT
def wsZX : List (Nat × Nat) := (14, 1) :: (16, 1) :: wsZ
def mkB (k : Int) : Nat → List Bool
  | 0 => []
  | n + 1 => mkB k n ++ [(k + n) % 3 == 0]
theorem mkB_len (k : Int) : ∀ n, (mkB k n).length = n
  | 0 => rfl
  | n + 1 => by rw [mkB, List.length_append, mkB_len k n]; rfl
theorem mkB_get (k : Int) : ∀ n j, j < n → (mkB k n).getD j false = ((k + j) % 3 == 0)
  | n + 1, j, h => by
    rw [mkB]
    by_cases hj : j < n
    · have := mkB_get k n j hj
      rw [List.getD_eq_getElem?_getD] at this ⊢
      rw [List.getElem?_append_left (by rw [mkB_len]; exact hj)]; exact this
    · have : j = n := by omega
      subst this
      rw [List.getD_eq_getElem?_getD, List.getElem?_append_right (by rw [mkB_len]; exact Nat.le_refl _), mkB_len, Nat.sub_self]; rfl
theorem set_end {α : Type} (l r : List α) (x y : α) : (l ++ x :: r).set l.length y = l ++ y :: r := by
  rw [List.set_append_right _ _ (Nat.le_refl _), Nat.sub_self]; rfl
theorem k_eqB (l l' : List Bool) (h : l.length ≤ 10000000 ∧ l'.length ≤ 10000000) : Kon Tryd.prog 35 [roA l, roA l'] [] (vB (beqL l l')) [] [] := by
  (refine kM Tryd.func35 rfl ?_; intro hfit hfe)
  cases h1 : ((l.length : Int) != (l'.length : Int)) with
  | true =>
    rw [beqL_len h1]
    (repeat (first | (first | ((first | refine r_none ?_ | refine r_gt (by rfl) (by rfl) zDD (by rfl) ?_ | refine r_gf (by rfl) (by rfl) zDD (by rfl) ?_); (first | fail | ((first | (refine z_op (by rfl) ?_; first | refine z_ok ?_ ?_ | refine z_ex ?_ (by first | exact zL1 | ((first | refine mk_c Bool rfl rfl rfl ?_); exact zWW) | exact zL2 | fail | exact zL3 | fail) ?_ | refine z_al ?_ (fun _q ⟨_he, _hq⟩ => ?_)) | ((first | refine q_callE wsX wsZ (by rfl) ?_ | refine q_callVE wsX (by rfl) (by rfl) ?_); refine ⟨_, _, _, (by first | assumption | exact Kon.of con_validS (cValid_at _ _ _) | exact k_eqB _ _ (by omega) | exact k_heldB _ _ (by omega) | exact k_markB _ _ _ (by first | omega | exact ⟨rfl, by omega⟩)), _, by rfl, ?_, ?_⟩)); focus (first | exact trivial | fail | exact zQZ)) | fail)) | refine r_nt (by rfl) (by rfl) zDD (by rfl) ?_ | refine r_nf (by rfl) (by rfl) zDD (by rfl) ?_ | refine r_gu (by rfl) (by rfl) (by rfl) ?_ | refine r_nil ?_) | (first | refine aw_seq ?_ | refine aw_ct (by rfl) zDD ?_ | refine aw_cf (by rfl) zDD ?_ | refine aw_block ?_ | refine aw_region T0ok cfU_ok (by rfl) ?_ | refine aw_skip ?_ | refine aw_exit ?_ | refine ra_step ?_)))
    (refine rtA ?_; try rfl)
  | false =>
    have h1' : l.length = l'.length := by simp at h1; omega
    (repeat (first | (first | ((first | refine r_none ?_ | refine r_gt (by rfl) (by rfl) zDD (by rfl) ?_ | refine r_gf (by rfl) (by rfl) zDD (by rfl) ?_); (first | fail | ((first | (refine z_op (by rfl) ?_; first | refine z_ok ?_ ?_ | refine z_ex ?_ (by first | exact zL1 | ((first | refine mk_c Bool rfl rfl rfl ?_); exact zWW) | exact zL2 | fail | exact zL3 | fail) ?_ | refine z_al ?_ (fun _q ⟨_he, _hq⟩ => ?_)) | ((first | refine q_callE wsX wsZ (by rfl) ?_ | refine q_callVE wsX (by rfl) (by rfl) ?_); refine ⟨_, _, _, (by first | assumption | exact Kon.of con_validS (cValid_at _ _ _) | exact k_eqB _ _ (by omega) | exact k_heldB _ _ (by omega) | exact k_markB _ _ _ (by first | omega | exact ⟨rfl, by omega⟩)), _, by rfl, ?_, ?_⟩)); focus (first | exact trivial | fail | exact zQZ)) | fail)) | refine r_nt (by rfl) (by rfl) zDD (by rfl) ?_ | refine r_nf (by rfl) (by rfl) zDD (by rfl) ?_ | refine r_gu (by rfl) (by rfl) (by rfl) ?_ | refine r_nil ?_) | (first | refine aw_seq ?_ | refine aw_ct (by rfl) zDD ?_ | refine aw_cf (by rfl) zDD ?_ | refine aw_block ?_ | refine aw_region T0ok cfU_ok (by rfl) ?_ | refine aw_skip ?_ | refine aw_exit ?_ | refine ra_step ?_)))
    (refine aw_rd [0, 1, 4] [] (fun i : Nat => [(5, vI i)]) (fun _ => []) (fun i => i ≤ l.length ∧ ∀ j, j < i → l.getD j false = l'.getD j false) (fun i => l.length - i) 0 (by rfl) (by rfl) ?_ (by rfl) zHE zHE ?_)
    · exact ⟨Nat.zero_le _, fun j hj => by omega⟩
    rintro i ⟨hi, hall⟩
    rcases Nat.lt_or_ge i l.length with h5 | h5
    · have hd : decide ((i : Int) < (l.length : Int)) = true := decide_eq_true (by omega)
      cases h6 : (l.getD (i : Int).toNat Cel.no != l'.getD (i : Int).toNat Cel.no)
      · have h7 : l.getD i false = l'.getD i false := by simpa using h6
        have hinv : i + 1 ≤ l.length ∧ ∀ j, j < i + 1 → l.getD j false = l'.getD j false := by
          refine ⟨h5, fun j hj => ?_⟩
          by_cases hji : j = i
          · rw [hji]; exact h7
          · exact hall j (by omega)
        repeat (first | (first | refine aw_seq ?_ | refine aw_ct (by rfl) zDD ?_ | refine aw_cf (by rfl) zDD ?_ | refine aw_block ?_ | refine aw_region T0ok cfU_ok (by rfl) ?_ | refine aw_skip ?_ | refine aw_exit ?_ | refine ra_step ?_) | (first | ((first | refine r_none ?_ | refine r_gt (by rfl) (by rfl) zDD (by rfl) ?_ | refine r_gf (by rfl) (by rfl) zDD (by rfl) ?_); (first | fail | ((first | (refine z_op (by rfl) ?_; first | refine z_ok ?_ ?_ | refine z_ex ?_ (by first | exact zL1 | ((first | refine mk_c Bool rfl rfl rfl ?_); exact zWW) | exact zL2 | fail | exact zL3 | fail) ?_ | refine z_al ?_ (fun _q ⟨_he, _hq⟩ => ?_)) | ((first | refine q_callE wsX wsZ (by rfl) ?_ | refine q_callVE wsX (by rfl) (by rfl) ?_); refine ⟨_, _, _, (by first | assumption | exact Kon.of con_validS (cValid_at _ _ _) | exact k_eqB _ _ (by omega) | exact k_heldB _ _ (by omega) | exact k_markB _ _ _ (by first | omega | exact ⟨rfl, by omega⟩)), _, by rfl, ?_, ?_⟩)); focus (first | exact trivial | fail | exact zQZ)) | fail)) | refine r_nt (by rfl) (by rfl) zDD (by rfl) ?_ | refine r_nf (by rfl) (by rfl) zDD (by rfl) ?_ | refine r_gu (by rfl) (by rfl) (by rfl) ?_ | refine r_nil ?_) | (refine aw_draw mixed T0ok cfU_ok [] (by rfl) (by kernel_rfl) ?_))
        exact ⟨i + 1, hinv, ⟨by rfl, zHE, zHE⟩, (by first | omega | (dsimp only; omega))⟩
      · have e : beqL l l' = false := by
          unfold beqL
          rw [decide_eq_false_iff_not]
          intro he
          rw [he] at h6
          simp at h6
        rw [e]
        repeat (first | (first | refine aw_seq ?_ | refine aw_ct (by rfl) zDD ?_ | refine aw_cf (by rfl) zDD ?_ | refine aw_block ?_ | refine aw_region T0ok cfU_ok (by rfl) ?_ | refine aw_skip ?_ | refine aw_exit ?_ | refine ra_step ?_) | (first | ((first | refine r_none ?_ | refine r_gt (by rfl) (by rfl) zDD (by rfl) ?_ | refine r_gf (by rfl) (by rfl) zDD (by rfl) ?_); (first | fail | ((first | (refine z_op (by rfl) ?_; first | refine z_ok ?_ ?_ | refine z_ex ?_ (by first | exact zL1 | ((first | refine mk_c Bool rfl rfl rfl ?_); exact zWW) | exact zL2 | fail | exact zL3 | fail) ?_ | refine z_al ?_ (fun _q ⟨_he, _hq⟩ => ?_)) | ((first | refine q_callE wsX wsZ (by rfl) ?_ | refine q_callVE wsX (by rfl) (by rfl) ?_); refine ⟨_, _, _, (by first | assumption | exact Kon.of con_validS (cValid_at _ _ _) | exact k_eqB _ _ (by omega) | exact k_heldB _ _ (by omega) | exact k_markB _ _ _ (by first | omega | exact ⟨rfl, by omega⟩)), _, by rfl, ?_, ?_⟩)); focus (first | exact trivial | fail | exact zQZ)) | fail)) | refine r_nt (by rfl) (by rfl) zDD (by rfl) ?_ | refine r_nf (by rfl) (by rfl) zDD (by rfl) ?_ | refine r_gu (by rfl) (by rfl) (by rfl) ?_ | refine r_nil ?_) | (refine aw_draw mixed T0ok cfU_ok [] (by rfl) (by kernel_rfl) ?_))
        (refine rtA ?_; try rfl)
    · have e : beqL l l' = true := by
        unfold beqL
        rw [decide_eq_true_iff]
        apply List.ext_getElem h1'
        intro j a1 a2
        have := hall j (by omega)
        simpa [List.getD_eq_getElem?_getD, a1, a2] using this
      have hd : decide ((i : Int) < (l.length : Int)) = false := decide_eq_false (by omega)
      rw [e]
      repeat (first | (first | refine aw_seq ?_ | refine aw_ct (by rfl) zDD ?_ | refine aw_cf (by rfl) zDD ?_ | refine aw_block ?_ | refine aw_region T0ok cfU_ok (by rfl) ?_ | refine aw_skip ?_ | refine aw_exit ?_ | refine ra_step ?_) | (first | ((first | refine r_none ?_ | refine r_gt (by rfl) (by rfl) zDD (by rfl) ?_ | refine r_gf (by rfl) (by rfl) zDD (by rfl) ?_); (first | fail | ((first | (refine z_op (by rfl) ?_; first | refine z_ok ?_ ?_ | refine z_ex ?_ (by first | exact zL1 | ((first | refine mk_c Bool rfl rfl rfl ?_); exact zWW) | exact zL2 | fail | exact zL3 | fail) ?_ | refine z_al ?_ (fun _q ⟨_he, _hq⟩ => ?_)) | ((first | refine q_callE wsX wsZ (by rfl) ?_ | refine q_callVE wsX (by rfl) (by rfl) ?_); refine ⟨_, _, _, (by first | assumption | exact Kon.of con_validS (cValid_at _ _ _) | exact k_eqB _ _ (by omega) | exact k_heldB _ _ (by omega) | exact k_markB _ _ _ (by first | omega | exact ⟨rfl, by omega⟩)), _, by rfl, ?_, ?_⟩)); focus (first | exact trivial | fail | exact zQZ)) | fail)) | refine r_nt (by rfl) (by rfl) zDD (by rfl) ?_ | refine r_nf (by rfl) (by rfl) zDD (by rfl) ?_ | refine r_gu (by rfl) (by rfl) (by rfl) ?_ | refine r_nil ?_) | (refine aw_draw mixed T0ok cfU_ok [] (by rfl) (by kernel_rfl) ?_))
      (refine rtA ?_; try rfl)
theorem k_eqF (s : Int) (l : List Bool) (b : Bool) (s' : Int) (l' : List Bool) (b' : Bool) (h : l.length ≤ 10000000 ∧ l'.length ≤ 10000000) : Kon Tryd.prog 14 [fA s l b, fA s' l' b'] [] (vB (s == s' && (beqL l l' && b == b'))) [] [] := by
  (refine kM Tryd.func14 rfl ?_; intro hfit hfe)
  cases h1 : (s == s')
  · have h2 : (s != s') = true := by rw [bne, h1]; rfl
    (repeat (first | (first | ((first | refine r_none ?_ | refine r_gt (by rfl) (by rfl) zDD (by rfl) ?_ | refine r_gf (by rfl) (by rfl) zDD (by rfl) ?_); (first | fail | ((first | (refine z_op (by rfl) ?_; first | refine z_ok ?_ ?_ | refine z_ex ?_ (by first | exact zL1 | ((first | refine mk_c Bool rfl rfl rfl ?_); exact zWW) | exact zL2 | fail | exact zL3 | fail) ?_ | refine z_al ?_ (fun _q ⟨_he, _hq⟩ => ?_)) | ((first | refine q_callE wsX wsZ (by rfl) ?_ | refine q_callVE wsX (by rfl) (by rfl) ?_); refine ⟨_, _, _, (by first | assumption | exact Kon.of con_validS (cValid_at _ _ _) | exact k_eqB _ _ (by omega) | exact k_heldB _ _ (by omega) | exact k_markB _ _ _ (by first | omega | exact ⟨rfl, by omega⟩)), _, by rfl, ?_, ?_⟩)); focus (first | exact trivial | fail | exact zQZ)) | fail)) | refine r_nt (by rfl) (by rfl) zDD (by rfl) ?_ | refine r_nf (by rfl) (by rfl) zDD (by rfl) ?_ | refine r_gu (by rfl) (by rfl) (by rfl) ?_ | refine r_nil ?_) | (first | refine aw_seq ?_ | refine aw_ct (by rfl) zDD ?_ | refine aw_cf (by rfl) zDD ?_ | refine aw_block ?_ | refine aw_region T0ok cfU_ok (by rfl) ?_ | refine aw_skip ?_ | refine aw_exit ?_ | refine ra_step ?_)))
    (refine rtA ?_; try rfl)
  have h2 : (s != s') = false := by rw [bne, h1]; rfl
  cases h3 : beqL l l'
  · (repeat (first | (first | ((first | refine r_none ?_ | refine r_gt (by rfl) (by rfl) zDD (by rfl) ?_ | refine r_gf (by rfl) (by rfl) zDD (by rfl) ?_); (first | fail | ((first | (refine z_op (by rfl) ?_; first | refine z_ok ?_ ?_ | refine z_ex ?_ (by first | exact zL1 | ((first | refine mk_c Bool rfl rfl rfl ?_); exact zWW) | exact zL2 | fail | exact zL3 | fail) ?_ | refine z_al ?_ (fun _q ⟨_he, _hq⟩ => ?_)) | ((first | refine q_callE wsX wsZ (by rfl) ?_ | refine q_callVE wsX (by rfl) (by rfl) ?_); refine ⟨_, _, _, (by first | assumption | exact Kon.of con_validS (cValid_at _ _ _) | exact k_eqB _ _ (by omega) | exact k_heldB _ _ (by omega) | exact k_markB _ _ _ (by first | omega | exact ⟨rfl, by omega⟩)), _, by rfl, ?_, ?_⟩)); focus (first | exact trivial | fail | exact zQZ)) | fail)) | refine r_nt (by rfl) (by rfl) zDD (by rfl) ?_ | refine r_nf (by rfl) (by rfl) zDD (by rfl) ?_ | refine r_gu (by rfl) (by rfl) (by rfl) ?_ | refine r_nil ?_) | (first | refine aw_seq ?_ | refine aw_ct (by rfl) zDD ?_ | refine aw_cf (by rfl) zDD ?_ | refine aw_block ?_ | refine aw_region T0ok cfU_ok (by rfl) ?_ | refine aw_skip ?_ | refine aw_exit ?_ | refine ra_step ?_)))
    (refine rtA ?_; try rfl)
  cases h4 : (b == b')
  · have h5 : (b != b') = true := by rw [bne, h4]; rfl
    (repeat (first | (first | ((first | refine r_none ?_ | refine r_gt (by rfl) (by rfl) zDD (by rfl) ?_ | refine r_gf (by rfl) (by rfl) zDD (by rfl) ?_); (first | fail | ((first | (refine z_op (by rfl) ?_; first | refine z_ok ?_ ?_ | refine z_ex ?_ (by first | exact zL1 | ((first | refine mk_c Bool rfl rfl rfl ?_); exact zWW) | exact zL2 | fail | exact zL3 | fail) ?_ | refine z_al ?_ (fun _q ⟨_he, _hq⟩ => ?_)) | ((first | refine q_callE wsX wsZ (by rfl) ?_ | refine q_callVE wsX (by rfl) (by rfl) ?_); refine ⟨_, _, _, (by first | assumption | exact Kon.of con_validS (cValid_at _ _ _) | exact k_eqB _ _ (by omega) | exact k_heldB _ _ (by omega) | exact k_markB _ _ _ (by first | omega | exact ⟨rfl, by omega⟩)), _, by rfl, ?_, ?_⟩)); focus (first | exact trivial | fail | exact zQZ)) | fail)) | refine r_nt (by rfl) (by rfl) zDD (by rfl) ?_ | refine r_nf (by rfl) (by rfl) zDD (by rfl) ?_ | refine r_gu (by rfl) (by rfl) (by rfl) ?_ | refine r_nil ?_) | (first | refine aw_seq ?_ | refine aw_ct (by rfl) zDD ?_ | refine aw_cf (by rfl) zDD ?_ | refine aw_block ?_ | refine aw_region T0ok cfU_ok (by rfl) ?_ | refine aw_skip ?_ | refine aw_exit ?_ | refine ra_step ?_)))
    (refine rtA ?_; try rfl)
  have h5 : (b != b') = false := by rw [bne, h4]; rfl
  (repeat (first | (first | ((first | refine r_none ?_ | refine r_gt (by rfl) (by rfl) zDD (by rfl) ?_ | refine r_gf (by rfl) (by rfl) zDD (by rfl) ?_); (first | fail | ((first | (refine z_op (by rfl) ?_; first | refine z_ok ?_ ?_ | refine z_ex ?_ (by first | exact zL1 | ((first | refine mk_c Bool rfl rfl rfl ?_); exact zWW) | exact zL2 | fail | exact zL3 | fail) ?_ | refine z_al ?_ (fun _q ⟨_he, _hq⟩ => ?_)) | ((first | refine q_callE wsX wsZ (by rfl) ?_ | refine q_callVE wsX (by rfl) (by rfl) ?_); refine ⟨_, _, _, (by first | assumption | exact Kon.of con_validS (cValid_at _ _ _) | exact k_eqB _ _ (by omega) | exact k_heldB _ _ (by omega) | exact k_markB _ _ _ (by first | omega | exact ⟨rfl, by omega⟩)), _, by rfl, ?_, ?_⟩)); focus (first | exact trivial | fail | exact zQZ)) | fail)) | refine r_nt (by rfl) (by rfl) zDD (by rfl) ?_ | refine r_nf (by rfl) (by rfl) zDD (by rfl) ?_ | refine r_gu (by rfl) (by rfl) (by rfl) ?_ | refine r_nil ?_) | (first | refine aw_seq ?_ | refine aw_ct (by rfl) zDD ?_ | refine aw_cf (by rfl) zDD ?_ | refine aw_block ?_ | refine aw_region T0ok cfU_ok (by rfl) ?_ | refine aw_skip ?_ | refine aw_exit ?_ | refine ra_step ?_)))
  (refine rtA ?_; try rfl)
def mk2 (k : Int) (l : List Bool) : Nat → List Bool
  | 0 => l
  | i + 1 => (mk2 k l i).set i ((k + i) % 3 == 0)
theorem mk2_len (k : Int) (l : List Bool) : ∀ i, (mk2 k l i).length = l.length
  | 0 => rfl
  | i + 1 => by rw [mk2, List.length_set, mk2_len k l i]
theorem mk2_eq (k : Int) (l : List Bool) : ∀ i, i ≤ l.length → mk2 k l i = mkB k i ++ l.drop i
  | 0, _ => by simp [mk2, mkB]
  | i + 1, h => by
    have h2 : i = (mkB k i).length := (mkB_len k i).symm
    rw [mk2, mk2_eq k l i (by omega), List.drop_eq_getElem_cons h, mkB, List.append_assoc]
    have := set_end (mkB k i) (l.drop (i + 1)) l[i] ((k + i) % 3 == 0)
    rw [mkB_len] at this
    exact this
theorem k_markB (l : List Bool) (n : Nat) (k : Int) (h : n = l.length ∧ 0 ≤ k ∧ k ≤ 10000000 ∧ l.length ≤ 10000000) : Kon Tryd.prog 36 [.g (.one (.sl 100000 0 n)), vI k] [bRow l] (vI (k + l.length)) [] [bRow (mkB k l.length)] := by
  obtain ⟨rfl, h⟩ := h
  (refine kM Tryd.func36 rfl ?_; intro hfit hfe)
  (repeat (first | (first | ((first | refine r_none ?_ | refine r_gt (by rfl) (by rfl) zDD (by rfl) ?_ | refine r_gf (by rfl) (by rfl) zDD (by rfl) ?_); (first | fail | ((first | (refine z_op (by rfl) ?_; first | refine z_ok ?_ ?_ | refine z_ex ?_ (by first | exact zL1 | ((first | refine mk_c Bool rfl rfl rfl ?_); exact zWW) | exact zL2 | fail | exact zL3 | fail) ?_ | refine z_al ?_ (fun _q ⟨_he, _hq⟩ => ?_)) | ((first | refine q_callE wsX wsZ (by rfl) ?_ | refine q_callVE wsX (by rfl) (by rfl) ?_); refine ⟨_, _, _, (by first | assumption | exact Kon.of con_validS (cValid_at _ _ _) | exact k_eqB _ _ (by omega) | exact k_heldB _ _ (by omega) | exact k_markB _ _ _ (by first | omega | exact ⟨rfl, by omega⟩)), _, by rfl, ?_, ?_⟩)); focus (first | exact trivial | fail | exact zQZ)) | fail)) | refine r_nt (by rfl) (by rfl) zDD (by rfl) ?_ | refine r_nf (by rfl) (by rfl) zDD (by rfl) ?_ | refine r_gu (by rfl) (by rfl) (by rfl) ?_ | refine r_nil ?_) | (first | refine aw_seq ?_ | refine aw_ct (by rfl) zDD ?_ | refine aw_cf (by rfl) zDD ?_ | refine aw_block ?_ | refine aw_region T0ok cfU_ok (by rfl) ?_ | refine aw_skip ?_ | refine aw_exit ?_ | refine ra_step ?_)))
  refine aw_rd [0] [] (fun i : Nat => [(1, vI (k + i)), (5, vI i)]) (fun i => [(100000, (0, bRow (mk2 k l i)))]) (fun i => i ≤ l.length) (fun i => l.length - i) 0 (by rfl) (by rfl) ?_ (by rfl) zHE ⟨by (simp only [St.put, Gin, Nat.le_refl, if_true, Nat.sub_self]; rfl), trivial⟩ ?_
  · exact Nat.zero_le _
  rintro i hi
  have hl2 := mk2_len k l i
  rcases Nat.lt_or_ge i l.length with h1 | h1
  · have hd : decide ((i : Int) < (l.length : Int)) = true := decide_eq_true (by omega)
    have hinv : i + 1 ≤ l.length := h1
    (repeat (first | (first | ((first | refine r_none ?_ | refine r_gt (by rfl) (by rfl) zDD (by rfl) ?_ | refine r_gf (by rfl) (by rfl) zDD (by rfl) ?_); (first | fail | ((first | (refine z_op (by rfl) ?_; first | refine z_ok ?_ ?_ | refine z_ex ?_ (by first | exact zL1 | ((first | refine mk_c Bool rfl rfl rfl ?_); exact zWW) | exact zL2 | fail | exact zL3 | fail) ?_ | refine z_al ?_ (fun _q ⟨_he, _hq⟩ => ?_)) | ((first | refine q_callE wsX wsZ (by rfl) ?_ | refine q_callVE wsX (by rfl) (by rfl) ?_); refine ⟨_, _, _, (by first | assumption | exact Kon.of con_validS (cValid_at _ _ _) | exact k_eqB _ _ (by omega) | exact k_heldB _ _ (by omega) | exact k_markB _ _ _ (by first | omega | exact ⟨rfl, by omega⟩)), _, by rfl, ?_, ?_⟩)); focus (first | exact trivial | fail | exact zQZ)) | fail)) | refine r_nt (by rfl) (by rfl) zDD (by rfl) ?_ | refine r_nf (by rfl) (by rfl) zDD (by rfl) ?_ | refine r_gu (by rfl) (by rfl) (by rfl) ?_ | refine r_nil ?_) | (first | refine aw_seq ?_ | refine aw_ct (by rfl) zDD ?_ | refine aw_cf (by rfl) zDD ?_ | refine aw_block ?_ | refine aw_region T0ok cfU_ok (by rfl) ?_ | refine aw_skip ?_ | refine aw_exit ?_ | refine ra_step ?_)))
    subst_vars
    exact ⟨i + 1, hinv, ⟨by rfl, zHE, zHE⟩, (by first | omega | (dsimp only; omega))⟩
  · obtain rfl : i = l.length := by omega
    have hd : decide ((l.length : Int) < (l.length : Int)) = false := decide_eq_false (by omega)
    have e : mk2 k l l.length = mkB k l.length := by rw [mk2_eq k l _ (Nat.le_refl _)]; simp
    rw [e]
    (repeat (first | (first | ((first | refine r_none ?_ | refine r_gt (by rfl) (by rfl) zDD (by rfl) ?_ | refine r_gf (by rfl) (by rfl) zDD (by rfl) ?_); (first | fail | ((first | (refine z_op (by rfl) ?_; first | refine z_ok ?_ ?_ | refine z_ex ?_ (by first | exact zL1 | ((first | refine mk_c Bool rfl rfl rfl ?_); exact zWW) | exact zL2 | fail | exact zL3 | fail) ?_ | refine z_al ?_ (fun _q ⟨_he, _hq⟩ => ?_)) | ((first | refine q_callE wsX wsZ (by rfl) ?_ | refine q_callVE wsX (by rfl) (by rfl) ?_); refine ⟨_, _, _, (by first | assumption | exact Kon.of con_validS (cValid_at _ _ _) | exact k_eqB _ _ (by omega) | exact k_heldB _ _ (by omega) | exact k_markB _ _ _ (by first | omega | exact ⟨rfl, by omega⟩)), _, by rfl, ?_, ?_⟩)); focus (first | exact trivial | fail | exact zQZ)) | fail)) | refine r_nt (by rfl) (by rfl) zDD (by rfl) ?_ | refine r_nf (by rfl) (by rfl) zDD (by rfl) ?_ | refine r_gu (by rfl) (by rfl) (by rfl) ?_ | refine r_nil ?_) | (first | refine aw_seq ?_ | refine aw_ct (by rfl) zDD ?_ | refine aw_cf (by rfl) zDD ?_ | refine aw_block ?_ | refine aw_region T0ok cfU_ok (by rfl) ?_ | refine aw_skip ?_ | refine aw_exit ?_ | refine ra_step ?_)))
    (refine rtA ?_; try rfl)
theorem k_markF (s : Int) (l : List Bool) (b : Bool) (n : Nat) (k : Int) (h : n = l.length ∧ 0 ≤ k ∧ k ≤ 10000000 ∧ l.length ≤ 10000000) : Kon Tryd.prog 15 [.g (.agg [.v (.int .i64 s), .sl 100000 0 n, .v (.bool b)]), vI k] [bRow l] (vI (k + l.length)) [] [bRow (mkB k l.length)] := by
  (refine kM Tryd.func15 rfl ?_; intro hfit hfe)
  (repeat (first | (first | ((first | refine r_none ?_ | refine r_gt (by rfl) (by rfl) zDD (by rfl) ?_ | refine r_gf (by rfl) (by rfl) zDD (by rfl) ?_); (first | fail | ((first | (refine z_op (by rfl) ?_; first | refine z_ok ?_ ?_ | refine z_ex ?_ (by first | exact zL1 | ((first | refine mk_c Bool rfl rfl rfl ?_); exact zWW) | exact zL2 | fail | exact zL3 | fail) ?_ | refine z_al ?_ (fun _q ⟨_he, _hq⟩ => ?_)) | ((first | refine q_callE wsX wsZ (by rfl) ?_ | refine q_callVE wsX (by rfl) (by rfl) ?_); refine ⟨_, _, _, (by first | assumption | exact Kon.of con_validS (cValid_at _ _ _) | exact k_eqB _ _ (by omega) | exact k_heldB _ _ (by omega) | exact k_markB _ _ _ (by first | omega | exact ⟨rfl, by omega⟩)), _, by rfl, ?_, ?_⟩)); focus (first | exact trivial | fail | exact zQZ)) | fail)) | refine r_nt (by rfl) (by rfl) zDD (by rfl) ?_ | refine r_nf (by rfl) (by rfl) zDD (by rfl) ?_ | refine r_gu (by rfl) (by rfl) (by rfl) ?_ | refine r_nil ?_) | (first | refine aw_seq ?_ | refine aw_ct (by rfl) zDD ?_ | refine aw_cf (by rfl) zDD ?_ | refine aw_block ?_ | refine aw_region T0ok cfU_ok (by rfl) ?_ | refine aw_skip ?_ | refine aw_exit ?_ | refine ra_step ?_)))
  (refine rtA ?_; try rfl)
theorem k_markB0 (k : Int) (h : 0 ≤ k ∧ k ≤ 10000000) : Kon Tryd.prog 36 [.g (.one (.v (.slice none 0 0))), vI k] [] (vI k) [] [] := by
  (refine kM Tryd.func36 rfl ?_; intro hfit hfe)
  (repeat (first | (first | ((first | refine r_none ?_ | refine r_gt (by rfl) (by rfl) zDD (by rfl) ?_ | refine r_gf (by rfl) (by rfl) zDD (by rfl) ?_); (first | fail | ((first | (refine z_op (by rfl) ?_; first | refine z_ok ?_ ?_ | refine z_ex ?_ (by first | exact zL1 | ((first | refine mk_c Bool rfl rfl rfl ?_); exact zWW) | exact zL2 | fail | exact zL3 | fail) ?_ | refine z_al ?_ (fun _q ⟨_he, _hq⟩ => ?_)) | ((first | refine q_callE wsX wsZ (by rfl) ?_ | refine q_callVE wsX (by rfl) (by rfl) ?_); refine ⟨_, _, _, (by first | assumption | exact Kon.of con_validS (cValid_at _ _ _) | exact k_eqB _ _ (by omega) | exact k_heldB _ _ (by omega) | exact k_markB _ _ _ (by first | omega | exact ⟨rfl, by omega⟩)), _, by rfl, ?_, ?_⟩)); focus (first | exact trivial | fail | exact zQZ)) | fail)) | refine r_nt (by rfl) (by rfl) zDD (by rfl) ?_ | refine r_nf (by rfl) (by rfl) zDD (by rfl) ?_ | refine r_gu (by rfl) (by rfl) (by rfl) ?_ | refine r_nil ?_) | (first | refine aw_seq ?_ | refine aw_ct (by rfl) zDD ?_ | refine aw_cf (by rfl) zDD ?_ | refine aw_block ?_ | refine aw_region T0ok cfU_ok (by rfl) ?_ | refine aw_skip ?_ | refine aw_exit ?_ | refine ra_step ?_)))
  refine aw_unroll 1 ?_
  (repeat (first | (first | ((first | refine r_none ?_ | refine r_gt (by rfl) (by rfl) zDD (by rfl) ?_ | refine r_gf (by rfl) (by rfl) zDD (by rfl) ?_); (first | fail | ((first | (refine z_op (by rfl) ?_; first | refine z_ok ?_ ?_ | refine z_ex ?_ (by first | exact zL1 | ((first | refine mk_c Bool rfl rfl rfl ?_); exact zWW) | exact zL2 | fail | exact zL3 | fail) ?_ | refine z_al ?_ (fun _q ⟨_he, _hq⟩ => ?_)) | ((first | refine q_callE wsX wsZ (by rfl) ?_ | refine q_callVE wsX (by rfl) (by rfl) ?_); refine ⟨_, _, _, (by first | assumption | exact Kon.of con_validS (cValid_at _ _ _) | exact k_eqB _ _ (by omega) | exact k_heldB _ _ (by omega) | exact k_markB _ _ _ (by first | omega | exact ⟨rfl, by omega⟩)), _, by rfl, ?_, ?_⟩)); focus (first | exact trivial | fail | exact zQZ)) | fail)) | refine r_nt (by rfl) (by rfl) zDD (by rfl) ?_ | refine r_nf (by rfl) (by rfl) zDD (by rfl) ?_ | refine r_gu (by rfl) (by rfl) (by rfl) ?_ | refine r_nil ?_) | (first | refine aw_seq ?_ | refine aw_ct (by rfl) zDD ?_ | refine aw_cf (by rfl) zDD ?_ | refine aw_block ?_ | refine aw_region T0ok cfU_ok (by rfl) ?_ | refine aw_skip ?_ | refine aw_exit ?_ | refine ra_step ?_)))
  (refine rtA ?_; try rfl)
theorem k_markF0 (k : Int) (h : 0 ≤ k ∧ k ≤ 10000000) : Kon Tryd.prog 15 [f0, vI k] [] (vI k) [] [] := by
  have hK := k_markB0 k h
  (refine kM Tryd.func15 rfl ?_; intro hfit hfe)
  (repeat (first | (first | ((first | refine r_none ?_ | refine r_gt (by rfl) (by rfl) zDD (by rfl) ?_ | refine r_gf (by rfl) (by rfl) zDD (by rfl) ?_); (first | fail | ((first | (refine z_op (by rfl) ?_; first | refine z_ok ?_ ?_ | refine z_ex ?_ (by first | exact zL1 | ((first | refine mk_c Bool rfl rfl rfl ?_); exact zWW) | exact zL2 | fail | exact zL3 | fail) ?_ | refine z_al ?_ (fun _q ⟨_he, _hq⟩ => ?_)) | ((first | refine q_callE wsX wsZ (by rfl) ?_ | refine q_callVE wsX (by rfl) (by rfl) ?_); refine ⟨_, _, _, (by first | assumption | exact Kon.of con_validS (cValid_at _ _ _) | exact k_eqB _ _ (by omega) | exact k_heldB _ _ (by omega) | exact k_markB _ _ _ (by first | omega | exact ⟨rfl, by omega⟩)), _, by rfl, ?_, ?_⟩)); focus (first | exact trivial | fail | exact zQZ)) | fail)) | refine r_nt (by rfl) (by rfl) zDD (by rfl) ?_ | refine r_nf (by rfl) (by rfl) zDD (by rfl) ?_ | refine r_gu (by rfl) (by rfl) (by rfl) ?_ | refine r_nil ?_) | (first | refine aw_seq ?_ | refine aw_ct (by rfl) zDD ?_ | refine aw_cf (by rfl) zDD ?_ | refine aw_block ?_ | refine aw_region T0ok cfU_ok (by rfl) ?_ | refine aw_skip ?_ | refine aw_exit ?_ | refine ra_step ?_)))
  (refine rtA ?_; try rfl)
theorem k_heldB (l : List Bool) (k : Int) (h : 0 ≤ k ∧ k ≤ 10000000 ∧ l.length ≤ 10000000 ∧ l = mkB k l.length) : Kon Tryd.prog 37 [roA l, vI k] [] (vI (k + l.length)) [] [] := by
  obtain ⟨h1, h2, h3, h4⟩ := h
  have hget : ∀ i : Nat, i < l.length → l.getD (i : Int).toNat Cel.no = ((k + (i : Int)) % 3 == 0) := by
    intro i hi
    have := mkB_get k l.length i hi
    rw [← h4] at this
    simpa using this
  clear h4
  (refine kM Tryd.func37 rfl ?_; intro hfit hfe)
  (repeat (first | (first | ((first | refine r_none ?_ | refine r_gt (by rfl) (by rfl) zDD (by rfl) ?_ | refine r_gf (by rfl) (by rfl) zDD (by rfl) ?_); (first | fail | ((first | (refine z_op (by rfl) ?_; first | refine z_ok ?_ ?_ | refine z_ex ?_ (by first | exact zL1 | ((first | refine mk_c Bool rfl rfl rfl ?_); exact zWW) | exact zL2 | fail | exact zL3 | fail) ?_ | refine z_al ?_ (fun _q ⟨_he, _hq⟩ => ?_)) | ((first | refine q_callE wsX wsZ (by rfl) ?_ | refine q_callVE wsX (by rfl) (by rfl) ?_); refine ⟨_, _, _, (by first | assumption | exact Kon.of con_validS (cValid_at _ _ _) | exact k_eqB _ _ (by omega) | exact k_heldB _ _ (by omega) | exact k_markB _ _ _ (by first | omega | exact ⟨rfl, by omega⟩)), _, by rfl, ?_, ?_⟩)); focus (first | exact trivial | fail | exact zQZ)) | fail)) | refine r_nt (by rfl) (by rfl) zDD (by rfl) ?_ | refine r_nf (by rfl) (by rfl) zDD (by rfl) ?_ | refine r_gu (by rfl) (by rfl) (by rfl) ?_ | refine r_nil ?_) | (first | refine aw_seq ?_ | refine aw_ct (by rfl) zDD ?_ | refine aw_cf (by rfl) zDD ?_ | refine aw_block ?_ | refine aw_region T0ok cfU_ok (by rfl) ?_ | refine aw_skip ?_ | refine aw_exit ?_ | refine ra_step ?_)))
  (refine aw_rd [0] [] (fun i : Nat => [(1, vI (k + i)), (5, vI i)]) (fun _ => []) (fun i => i ≤ l.length) (fun i => l.length - i) 0 (by rfl) (by rfl) ?_ (by rfl) zHE zHE ?_)
  · exact Nat.zero_le _
  rintro i hi
  rcases Nat.lt_or_ge i l.length with h5 | h5
  · have hd : decide ((i : Int) < (l.length : Int)) = true := decide_eq_true (by omega)
    have hg := hget i h5
    have hne : (l.getD (i : Int).toNat Cel.no != ((k + (i : Int)) % 3 == 0)) = false := by rw [hg]; simp
    have hinv : i + 1 ≤ l.length := h5
    (repeat (first | (first | ((first | refine r_none ?_ | refine r_gt (by rfl) (by rfl) zDD (by rfl) ?_ | refine r_gf (by rfl) (by rfl) zDD (by rfl) ?_); (first | fail | ((first | (refine z_op (by rfl) ?_; first | refine z_ok ?_ ?_ | refine z_ex ?_ (by first | exact zL1 | ((first | refine mk_c Bool rfl rfl rfl ?_); exact zWW) | exact zL2 | fail | exact zL3 | fail) ?_ | refine z_al ?_ (fun _q ⟨_he, _hq⟩ => ?_)) | ((first | refine q_callE wsX wsZ (by rfl) ?_ | refine q_callVE wsX (by rfl) (by rfl) ?_); refine ⟨_, _, _, (by first | assumption | exact Kon.of con_validS (cValid_at _ _ _) | exact k_eqB _ _ (by omega) | exact k_heldB _ _ (by omega) | exact k_markB _ _ _ (by first | omega | exact ⟨rfl, by omega⟩)), _, by rfl, ?_, ?_⟩)); focus (first | exact trivial | fail | exact zQZ)) | fail)) | refine r_nt (by rfl) (by rfl) zDD (by rfl) ?_ | refine r_nf (by rfl) (by rfl) zDD (by rfl) ?_ | refine r_gu (by rfl) (by rfl) (by rfl) ?_ | refine r_nil ?_) | (first | refine aw_seq ?_ | refine aw_ct (by rfl) zDD ?_ | refine aw_cf (by rfl) zDD ?_ | refine aw_block ?_ | refine aw_region T0ok cfU_ok (by rfl) ?_ | refine aw_skip ?_ | refine aw_exit ?_ | refine ra_step ?_)))
    subst_vars
    (repeat (first | (first | ((first | refine r_none ?_ | refine r_gt (by rfl) (by rfl) zDD (by rfl) ?_ | refine r_gf (by rfl) (by rfl) zDD (by rfl) ?_); (first | fail | ((first | (refine z_op (by rfl) ?_; first | refine z_ok ?_ ?_ | refine z_ex ?_ (by first | exact zL1 | ((first | refine mk_c Bool rfl rfl rfl ?_); exact zWW) | exact zL2 | fail | exact zL3 | fail) ?_ | refine z_al ?_ (fun _q ⟨_he, _hq⟩ => ?_)) | ((first | refine q_callE wsX wsZ (by rfl) ?_ | refine q_callVE wsX (by rfl) (by rfl) ?_); refine ⟨_, _, _, (by first | assumption | exact Kon.of con_validS (cValid_at _ _ _) | exact k_eqB _ _ (by omega) | exact k_heldB _ _ (by omega) | exact k_markB _ _ _ (by first | omega | exact ⟨rfl, by omega⟩)), _, by rfl, ?_, ?_⟩)); focus (first | exact trivial | fail | exact zQZ)) | fail)) | refine r_nt (by rfl) (by rfl) zDD (by rfl) ?_ | refine r_nf (by rfl) (by rfl) zDD (by rfl) ?_ | refine r_gu (by rfl) (by rfl) (by rfl) ?_ | refine r_nil ?_) | (first | refine aw_seq ?_ | refine aw_ct (by rfl) zDD ?_ | refine aw_cf (by rfl) zDD ?_ | refine aw_block ?_ | refine aw_region T0ok cfU_ok (by rfl) ?_ | refine aw_skip ?_ | refine aw_exit ?_ | refine ra_step ?_)))
    exact ⟨i + 1, hinv, ⟨by rfl, zHE, zHE⟩, (by first | omega | (dsimp only; omega))⟩
  · obtain rfl : i = l.length := by omega
    have hd : decide ((l.length : Int) < (l.length : Int)) = false := decide_eq_false (by omega)
    (repeat (first | (first | ((first | refine r_none ?_ | refine r_gt (by rfl) (by rfl) zDD (by rfl) ?_ | refine r_gf (by rfl) (by rfl) zDD (by rfl) ?_); (first | fail | ((first | (refine z_op (by rfl) ?_; first | refine z_ok ?_ ?_ | refine z_ex ?_ (by first | exact zL1 | ((first | refine mk_c Bool rfl rfl rfl ?_); exact zWW) | exact zL2 | fail | exact zL3 | fail) ?_ | refine z_al ?_ (fun _q ⟨_he, _hq⟩ => ?_)) | ((first | refine q_callE wsX wsZ (by rfl) ?_ | refine q_callVE wsX (by rfl) (by rfl) ?_); refine ⟨_, _, _, (by first | assumption | exact Kon.of con_validS (cValid_at _ _ _) | exact k_eqB _ _ (by omega) | exact k_heldB _ _ (by omega) | exact k_markB _ _ _ (by first | omega | exact ⟨rfl, by omega⟩)), _, by rfl, ?_, ?_⟩)); focus (first | exact trivial | fail | exact zQZ)) | fail)) | refine r_nt (by rfl) (by rfl) zDD (by rfl) ?_ | refine r_nf (by rfl) (by rfl) zDD (by rfl) ?_ | refine r_gu (by rfl) (by rfl) (by rfl) ?_ | refine r_nil ?_) | (first | refine aw_seq ?_ | refine aw_ct (by rfl) zDD ?_ | refine aw_cf (by rfl) zDD ?_ | refine aw_block ?_ | refine aw_region T0ok cfU_ok (by rfl) ?_ | refine aw_skip ?_ | refine aw_exit ?_ | refine ra_step ?_)))
    (refine rtA ?_; try rfl)
theorem k_heldF (s : Int) (l : List Bool) (b : Bool) (k : Int) (h : 0 ≤ k ∧ k ≤ 10000000 ∧ l.length ≤ 10000000 ∧ l = mkB k l.length) : Kon Tryd.prog 16 [fA s l b, vI k] [] (vI (k + l.length)) [] [] := by
  have hK := k_heldB l k h
  have hd : decide (k + (l.length : Int) < 0) = false := decide_eq_false (by omega)
  clear h
  (refine kM Tryd.func16 rfl ?_; intro hfit hfe)
  (repeat (first | (first | ((first | refine r_none ?_ | refine r_gt (by rfl) (by rfl) zDD (by rfl) ?_ | refine r_gf (by rfl) (by rfl) zDD (by rfl) ?_); (first | fail | ((first | (refine z_op (by rfl) ?_; first | refine z_ok ?_ ?_ | refine z_ex ?_ (by first | exact zL1 | ((first | refine mk_c Bool rfl rfl rfl ?_); exact zWW) | exact zL2 | fail | exact zL3 | fail) ?_ | refine z_al ?_ (fun _q ⟨_he, _hq⟩ => ?_)) | ((first | refine q_callE wsX wsZ (by rfl) ?_ | refine q_callVE wsX (by rfl) (by rfl) ?_); refine ⟨_, _, _, (by first | assumption | exact Kon.of con_validS (cValid_at _ _ _) | exact k_eqB _ _ (by omega) | exact k_heldB _ _ (by omega) | exact k_markB _ _ _ (by first | omega | exact ⟨rfl, by omega⟩)), _, by rfl, ?_, ?_⟩)); focus (first | exact trivial | fail | exact zQZ)) | fail)) | refine r_nt (by rfl) (by rfl) zDD (by rfl) ?_ | refine r_nf (by rfl) (by rfl) zDD (by rfl) ?_ | refine r_gu (by rfl) (by rfl) (by rfl) ?_ | refine r_nil ?_) | (first | refine aw_seq ?_ | refine aw_ct (by rfl) zDD ?_ | refine aw_cf (by rfl) zDD ?_ | refine aw_block ?_ | refine aw_region T0ok cfU_ok (by rfl) ?_ | refine aw_skip ?_ | refine aw_exit ?_ | refine ra_step ?_)))
  (refine rtA ?_; try rfl)
theorem gq_FTK {H G : Prop} (k : H) (h : Hid H → G := by (intro hh; repeat1' (first | (first | (refine nxA ?_; (first | refine r_slen (by rfl) Tryd.underlying9 (by rfl) ?_ | ((first | (refine z_op (by rfl) ?_; first | refine z_ok ?_ ?_ | refine z_ex ?_ (by first | exact zL1 | ((first | fail); exact zWW) | exact zL2 | fail | exact zL3 | fail) ?_) | ((first | refine q_callE wsX wsZX (by rfl) ?_ | refine q_callVE wsX (by rfl) (by rfl) ?_); refine ⟨_, _, _, (by first | assumption | exact k_eqF _ _ _ _ _ _ (by omega) | exact k_eqF _ [] _ _ [] _ (by simp) | exact k_markF _ _ _ _ _ (by first | omega | exact ⟨rfl, by omega⟩) | exact k_markF0 _ (by omega) | exact k_heldF _ [] _ _ (by simp [mkB])), _, by rfl, ?_, ?_⟩)); focus (first | exact trivial | fail | exact zQZ)) | fail)) | refine swA ?_) | refine awA ?_); exact hh.out)) : G := h ⟨k⟩
set_option maxHeartbeats 4000000 in
theorem k_lawXRF (t : List UInt8) : Kon Tryd.prog 4 [vS t] [] (vB true) [] [] := by
  rcases Nat.lt_or_ge 1048576 t.length with h0 | h0
  · have hd : decide ((t.length : Int) > 1048576) = true := decide_eq_true (by omega)
    (refine kM Tryd.func4 rfl ?_; intro hfit hfe)
    (repeat (first | refine gq_FTK ?_ | (refine ga0A ?_; intro _hq)))
    (refine rtA ?_; try rfl)
  have hd : decide ((t.length : Int) > 1048576) = false := decide_eq_false (by omega)
  cases hk : fdK t with
  | false =>
    have hI := k_rfI0 t (by omega) hk
    have hS := k_rfS0 t (by omega) hk
    have hz : ((0 : Int) == 0 && (beqL [] [] && false == false)) = true := rfl
    clear hk
    (refine kM Tryd.func4 rfl ?_; intro hfit hfe)
    (repeat (first | refine gq_FTK ?_ | (refine ga0A ?_; intro _hq)))
    (refine rtA ?_; try rfl)
  | true =>
    have hI := k_rfI t (by omega) hk
    have hS := k_rfS t (by omega) hk
    obtain ⟨hok, hft⟩ := fdK_t hk
    obtain ⟨f, hf⟩ : ∃ f, fdF t = f := ⟨_, rfl⟩
    rw [hf] at hI hS hok
    obtain ⟨s1, l1, b1⟩ := f
    dsimp only at hI hS
    have hl1 := (Fld.ok_facts hok).2.2.2.1
    have hy : (s1 == s1 && (beqL l1 l1 && b1 == b1)) = true := by simp [beqL]
    have hny : (!(s1 == s1 && (beqL l1 l1 && b1 == b1))) = false := by rw [hy]; rfl
    have hH := k_heldF s1 (mkB 1 l1.length) b1 1 ⟨by omega, by omega, by rw [mkB_len]; omega, by rw [mkB_len]⟩
    have e9 : fA s1 (mkB 1 l1.length) b1 = .g (.agg [.v (.int .i64 s1), .ro (Cel.sz Bool) l1.length (cV (mkB 1 l1.length)), .v (.bool b1)]) := congrArg (fun n => AV.g (.agg [.v (.int .i64 s1), .ro (Cel.sz Bool) n (cV (mkB 1 l1.length)), .v (.bool b1)])) (mkB_len 1 _)
    rw [e9, mkB_len] at hH
    have hml := mkB_len 1 l1.length
    clear e9
    have hd3 : decide (1 + (l1.length : Int) < 0) = false := decide_eq_false (by omega)
    have hd4 : (1 + (l1.length : Int) != 1 + (l1.length : Int)) = false := by simp
    clear hk hok hft hf
    (refine kM Tryd.func4 rfl ?_; intro hfit hfe)
    (repeat (first | refine gq_FTK ?_ | (refine ga0A ?_; intro _hq)))
    (refine rtA ?_; try rfl)
end Go.Proofs.YtfoobfelgbcknaaDoor
namespace Go.Proofs.YtfoobfelgbcknaaDoor
end Go.Proofs.YtfoobfelgbcknaaDoor
