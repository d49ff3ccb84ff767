/- MBE, RowD, RowE, RowG, GL4, MBEV, MBX, MBF, MBFV: laid into one text. -/
import Derived.Test.YtmkoanmmfcpmjaaDoorQME
import Derived.Test.YtmkoanmmfcpmjaaDoorQMF
import Derived.Test.YtmkoanmmfcpmjaaDoorQMG
import Derived.Test.YtmkoanmmfcpmjaaDoorQMS
import Derived.Test.YtmkoanmmfcpmjaaDoorQMU
import Derived.Test.YtmkoanmmfcpmjaaDoorQMV
import Derived.Test.YtmkoanmmfcpmjaaDoorQMW
import Derived.ProofKit
import Derived.OpenShut
import Derived.ShutString
import Derived.ChangeOld
import Derived.Below
import Derived.Lib.SmallJoins
import Derived.Deep.Slices
import Derived.Deep.Strs
import Derived.ChangeMaps5
import Derived.HandedShaped
import Derived.Test.YtmkoanmmfcpmjaaDoorRows
import Derived.Shelf.Vars
import Derived.Stop.LaidErr
import Derived.LaidMore

namespace Go.Proofs.YtmkoanmmfcpmjaaDoor
set_option linter.unusedVariables false
set_option linter.unusedSimpArgs false
set_option maxRecDepth 20000
open Go.RowKit
attribute [local irreducible] runA runX AW
def wsTM1 : WsT := (5, ([], true)) :: wsT
def wsZM1 : List (Nat × Nat) := [(14, 4), (999999, 0)]
theorem gq_MBE {H G : Prop} (k : H) (h : Hid H → G := by (intro hh; repeat1' (first | (first | (refine nxA ?_; (first | fail | ((first | (refine z_op (by rfl) ?_; first | refine z_ok ?_ ?_ | refine z_ex ?_ (by first | exact zL1 | ((first | fail); exact zWW) | exact zL2 | fail | exact zL3 | fail) ?_) | ((first | refine q_callE wsTM1 wsZM1 (by rfl) ?_ | refine q_callVE wsTM1 (by rfl) (by rfl) ?_); refine ⟨_, _, _, (by first | assumption | exact k_alive | exact k_sg _ (by omega) | exact k_tvI2 _ _ (by omega)), _, by rfl, ?_, ?_⟩)); focus (first | exact trivial | fail | exact zQZ)) | fail)) | refine swA ?_) | refine awA ?_); exact hh.out)) : G := h ⟨k⟩
set_option maxHeartbeats 4000000 in
theorem k_lawMB (l : List UInt8) : Kon Tryd.prog 4 [roA l] [] (vB true) [] [] := by
  rcases Nat.lt_or_ge 1048576 l.length with h0 | h0
  · have hd : decide ((l.length : Int) > 1048576) = true := decide_eq_true (by omega)
    (refine kM Tryd.func4 rfl ?_; intro hfit hfe)
    (repeat (first | refine gq_MBE ?_ | (refine ga0A ?_; intro _hq)))
    (refine rtA ?_; try rfl)
  have hd : decide ((l.length : Int) > 1048576) = false := decide_eq_false (by omega)
  obtain ⟨n, t, hL, htl, hD⟩ := ex_dMB l (by omega)
  by_cases hv : n ≤ 3 ∧ tvB n t = true
  · obtain ⟨h3, hv⟩ := hv
    have hI := k_mbI n t h3 hv
    have hS := k_mbS n t h3 hv
    obtain ⟨hc, hlen, hk, htab⟩ := mb_law h3 hv
    have hv' := hv
    unfold tvB at hv'
    rw [Bool.and_eq_true, Bool.and_eq_true, beq_iff_eq] at hv'
    obtain ⟨q1, q2, _⟩ := hv'
    have hT := k_ct n (mbL t).reverse hc t.length (by rw [Int.one_mul]; exact q2.symm)
    rw [htab] at hT
    have hrl : (mbL t).reverse.length ≤ 21 := by rw [List.length_reverse]; exact hlen
    have hC := k_cv n (mbL t).reverse (by omega)
    rw [hc] at hC
    have hsi := k_si t (by omega)
    generalize (mbL t).reverse = cs at *
    have hd21 : decide ((cs.length : Int) ≤ 21) = true := decide_eq_true (by omega)
    clear hv q1 q2 hlen htab
    (refine kM Tryd.func4 rfl ?_; intro hfit hfe)
    (repeat (first | refine gq_MBE ?_ | (refine ga0A ?_; intro _hq)))
    refine aw_slot 4 1 (by rfl) (by rfl) (by first | exact trivial | omega | exact cvB (fun w => rfl) | ((repeat (any_goals (first | exact rfl | exact cV_len _ | exact cV_ln rfl (by omega) | exact Cel.pos | omega | exact trivial | refine And.intro ?_ ?_))); first | done | fail) | (simp [*]; first | done | fail)) ?_
    (refine aw_rd [2, 3, 4, 5] [336] (fun i : Nat => [(9, vI i)]) (fun _ => []) (fun i => i ≤ cs.length) (fun i => cs.length - i) 0 (by rfl) (by rfl) ?_ (by rfl) zHE zHE ?_)
    · exact Nat.zero_le _
    rintro i hi
    rcases Nat.lt_or_ge i cs.length with h5 | h5
    · have hdi : decide ((i : Int) < (cs.length : Int)) = true := decide_eq_true (by omega)
      have hK := k_keeps n (cs.getD (i : Int).toNat Cel.no)
      have hmem : cs.getD (i : Int).toNat Cel.no ∈ cs := by
        rw [show cs.getD (i : Int).toNat Cel.no = cs.getD i Cel.no from rfl, List.getD_eq_getElem?_getD, List.getElem?_eq_getElem h5]
        exact List.getElem_mem h5
      rw [hk _ hmem, Bool.and_false] at hK
      clear hk hmem
      (repeat (first | refine gq_MBE ?_ | (refine ga0A ?_; intro _hq)))
      exact ⟨i + 1, h5, ⟨by rfl, zHE, zHE⟩, (by first | omega | (dsimp only; omega))⟩
    · have hdi : decide ((i : Int) < (cs.length : Int)) = false := decide_eq_false (by omega)
      clear hk
      (repeat (first | refine gq_MBE ?_ | (refine ga0A ?_; intro _hq)))
      (refine rtA ?_; try rfl)
      rw [hd21]; rfl
  · have hv0 : n ≤ 3 → tvB n t = false := fun h3 => by
      cases hx : tvB n t with
      | false => rfl
      | true => exact absurd ⟨h3, hx⟩ hv
    have hI := k_mbI0 n t (by omega) hv0
    have hS := k_mbS0 n t (by omega) (by omega) hv0
    have hV := k_tvI2 n t (by omega)
    have hSG : Kon Tryd.prog 14 [.g (.one (.ro 4 0 [])), .g (.one (.ro 4 0 []))] [] (vB true) [] [] := k_sg [] (by decide)
    clear hv
    by_cases h3 : n ≤ 3
    · have hd3 : decide (n > 3) = false := decide_eq_false (by omega)
      rw [hv0 h3] at hV
      clear hv0
      (refine kM Tryd.func4 rfl ?_; intro hfit hfe)
      (repeat (first | refine gq_MBE ?_ | (refine ga0A ?_; intro _hq)))
      (refine rtA ?_; try rfl)
    · have hd3 : decide (n > 3) = true := decide_eq_true (by omega)
      clear hv0
      (refine kM Tryd.func4 rfl ?_; intro hfit hfe)
      (repeat (first | refine gq_MBE ?_ | (refine ga0A ?_; intro _hq)))
      (refine rtA ?_; try rfl)
end Go.Proofs.YtmkoanmmfcpmjaaDoor
namespace Go.Proofs.YtmkoanmmfcpmjaaDoor
set_option linter.unusedVariables false
set_option linter.unusedSimpArgs false
open Go.ChangeShapes Go.WideShapes Go.ChangeAt Go.RowKit Go.Joins Go.Deep
theorem own : ownKnob Tryd.prog.godebug = none := by kernel_rfl
theorem laidOut : laidOutB Tryd.prog = true := by kernel_rfl
theorem row_end {H : Type} {enc : TypeId × Value → H} {W : World} {t : TypeId} {v : Value} {d : DataW H} {p : List MemPlace} (h : DataW.Trod enc Tryd.prog W 0 (fun _ => true) true t v d p) : ∀ x ∈ p, x.block < W.heap.size := by
  obtain ⟨m, hm⟩ := h; exact DataW.trod_lt m _ _ _ hm
theorem add_plain (b off j : Nat) : (⟨b, off, none⟩ : Addr).add j = ⟨b, off + j, none⟩ := by
  unfold Addr.add; split <;> simp_all
theorem list_of {α : Type} (p : Nat → α → Prop) (n : Nat) (h : ∀ j, j < n → ∃ v, p j v) : ∃ l : List α, l.length = n ∧ ∀ j (hj : j < l.length), p j l[j] := by
  induction n with
  | zero => exact ⟨[], rfl, fun j hj => by simp at hj⟩
  | succ n ih =>
    obtain ⟨l, hl, hp⟩ := ih fun j hj => h j (by omega)
    obtain ⟨v, hv⟩ := h n (by omega)
    refine ⟨l ++ [v], by simp [hl], fun j hj => ?_⟩
    by_cases hlt : j < l.length
    · rw [List.getElem_append_left hlt]; exact hp j hlt
    · have e : j = l.length := by simp at hj; omega
      subst e
      simp [hl, hv]
section
variable {H : Type} {enc : TypeId × Value → H} {P : Program} {w : World} {α : Type} [Cel α]
def OpensC (enc : TypeId × Value → H) (P : Program) (w : World) (e : TypeId) (α : Type) [Cel α] : Prop := ∀ n cs x, DataW.trod enc P w 0 (fun _ => true) true n e cs = some x → ∃ a : α, cs = Cel.f a
theorem mapM_get {α β : Type} {f : α → Option β} : ∀ {l : List α} {r : List β}, l.mapM f = some r → r.length = l.length ∧ ∀ (j : Nat) (x : α), l[j]? = some x → ∃ y, r[j]? = some y ∧ f x = some y
  | [], r, h => by
    simp at h; subst h; exact ⟨rfl, fun j x hj => by simp at hj⟩
  | a :: l, r, h => by
    rw [List.mapM_cons] at h
    cases ha : f a with
    | none => simp [ha] at h
    | some y =>
      cases hl : l.mapM f with
      | none => simp [ha, hl] at h
      | some r' =>
        simp [ha, hl] at h
        subst h
        obtain ⟨h1, h2⟩ := mapM_get hl
        refine ⟨by simp [h1], fun j x hj => ?_⟩
        cases j with
        | zero => simp at hj; subst hj; exact ⟨y, rfl, ha⟩
        | succ j => obtain ⟨z, hz, hf⟩ := h2 j x (by simpa using hj); exact ⟨z, by simpa using hz, hf⟩
theorem ro_of_trod {t e : TypeId} {fuel : Nat} {v : Value} {y : DataW H × List MemPlace} (ht : P.underlying t = some (.slice e)) (hc : P.cellsOf e = Cel.sz α) (ho : OpensC enc P w e α)
    (h : DataW.trod enc P w 0 (fun _ => true) true fuel t [v] = some y) : ∃ l : List α, Rep0 w (.g (.one (.ro (Cel.sz α) l.length (cV l)))) v := by
  rcases open_slice ht h with ⟨hcs, _⟩ | ⟨a, len, cap, m, n, D, Pl, hcs, _, hl, hm, hmm, rfl, hx⟩
  · simp at hcs
    subst hcs
    exact ⟨[], ⟨by simp, rfl⟩, none, 0, rfl, Nat.le_refl _, by unfold maxLen; omega, fun h => absurd h (Nat.lt_irrefl _)⟩
  · simp at hcs
    subst hcs
    simp at hmm
    subst hmm
    rw [hc] at hx
    obtain ⟨l, hll, hlp⟩ := list_of (fun j (u : α) => w.cells? 0 (a.add (j * Cel.sz α)) (Cel.sz α) = some (Cel.f u)) len fun j hj => by
      obtain ⟨cs', h1, h2⟩ := hx j (by omega)
      obtain ⟨u, rfl⟩ := ho _ _ _ h2
      exact ⟨u, h1⟩
    have hcell : ∀ (j o : Nat) (hj : j < l.length) (ho : o < Cel.sz α), ∃ x, (Cel.f l[j])[o]? = some x ∧ w.cell? ((a.add (j * Cel.sz α)).add o) = some x := by
      intro j o hj ho
      have h1 := hlp j hj
      unfold World.cells? at h1
      rw [if_pos (Nat.zero_le _)] at h1
      obtain ⟨_, h2⟩ := mapM_get h1
      obtain ⟨x, h3, h4⟩ := h2 o o (by simp [ho])
      exact ⟨x, h3, h4⟩
    refine ⟨l, ⟨by rw [cV_len], cV_one l⟩, some a, m, by rw [hll], by omega, hm, fun hn => ?_⟩
    obtain ⟨b, off, spot⟩ := a
    have hspot : spot = none := by
      obtain ⟨x, _, h2⟩ := hcell 0 0 hn Cel.pos
      have := World.cell?_spot h2
      simpa [Addr.add] using this
    subst hspot
    refine ⟨b, off, rfl, ?_, fun j x hj => ?_⟩
    · obtain ⟨x, _, h2⟩ := hcell 0 0 hn Cel.pos
      rw [add_plain, add_plain] at h2
      exact World.block_lt_of_cell? w _ h2
    · have hpos : 0 < Cel.sz α := Cel.pos
      have hlt : j < l.length * Cel.sz α := by rw [← cV_len]; exact (List.getElem?_eq_some_iff.1 hj).1
      have hdm := Nat.div_add_mod j (Cel.sz α)
      have hml := Nat.mod_lt j hpos
      have hdl : j / Cel.sz α < l.length := Nat.div_lt_of_lt_mul (by rw [Nat.mul_comm]; exact hlt)
      obtain ⟨y, h1, h2⟩ := hcell (j / Cel.sz α) (j % Cel.sz α) hdl hml
      rw [add_plain, add_plain] at h2
      have e1 : l.getD (j / Cel.sz α) Cel.no = l[j / Cel.sz α] := by simp [List.getD_eq_getElem?_getD, hdl]
      have h3 := cV_cell (l := l) (j := j / Cel.sz α) (o := j % Cel.sz α) (v := y) hdl (by rw [e1]; exact h1)
      have e2 : j / Cel.sz α * Cel.sz α + j % Cel.sz α = j := by rw [Nat.mul_comm]; exact hdm
      rw [e2, hj] at h3
      cases h3
      rw [show off + j = off + j / Cel.sz α * Cel.sz α + j % Cel.sz α by omega]
      exact h2
theorem opens_int {e : TypeId} (he : P.underlying e = some (.int .i64)) : OpensC enc P w e Int := by
  intro n cs x h
  obtain ⟨k, h1, _⟩ := DataW.trod_int he h
  exact ⟨k, h1⟩
end
section
variable {H : Type} {enc : TypeId × Value → H} {P : Program} {w : World}
theorem opens_byte {e : TypeId} (he : P.underlying e = some (.int .u8)) : OpensC enc P w e UInt8 := by
  intro n cs x h
  obtain ⟨k, h1, _, hw⟩ := DataW.trod_int he h
  have h2 : 0 ≤ k ∧ k < 256 := by
    simp [Lit.wf, IntKind.min, IntKind.max, IntKind.signed, IntKind.bits] at hw
    omega
  refine ⟨UInt8.ofNat k.toNat, ?_⟩
  rw [h1]
  show [Value.int .u8 k] = [Value.int .u8 ((UInt8.ofNat k.toNat).toNat : Int)]
  simp only [UInt8.toNat_ofNat']
  rw [Nat.mod_eq_of_lt (by omega)]
  congr 2
  omega
theorem slice_shape {e t : TypeId} {v : Value} {d : DataW H} {ps : List MemPlace} {r : Reach} {b0 : Nat} (ht : P.underlying t = some (.slice e)) (hval : Value.okWide P w r b0 t v) (h : DataW.Trod enc P w 0 (fun _ => true) true t v d ps) : ∃ fuel y, DataW.trod enc P w 0 (fun _ => true) true fuel t [v] = some y := by
  obtain ⟨A, n, c, rfl⟩ := okWide_slice ht hval
  obtain ⟨fuel, hf⟩ := h
  exact ⟨fuel, _, hf⟩
theorem bytes_of_trod {e t : TypeId} {v : Value} {d : DataW H} {ps : List MemPlace} {r : Reach} {b0 : Nat} (ht : P.underlying t = some (.slice e)) (he : P.underlying e = some (.int .u8)) (hc : P.cellsOf e = 1) (hval : Value.okWide P w r b0 t v) (h : DataW.Trod enc P w 0 (fun _ => true) true t v d ps) :
    ∃ l : List UInt8, Rep0 w (roA l) v := by
  obtain ⟨fuel, y, hf⟩ := slice_shape ht hval h
  exact ro_of_trod (α := UInt8) ht hc (opens_byte he) hf
theorem ints_of_trod {e t : TypeId} {v : Value} {d : DataW H} {ps : List MemPlace} {r : Reach} {b0 : Nat} (ht : P.underlying t = some (.slice e)) (he : P.underlying e = some (.int .i64)) (hc : P.cellsOf e = 1) (hval : Value.okWide P w r b0 t v) (h : DataW.Trod enc P w 0 (fun _ => true) true t v d ps) :
    ∃ l : List Int, Rep0 w (roA l) v := by
  obtain ⟨fuel, y, hf⟩ := slice_shape ht hval h
  exact ro_of_trod (α := Int) ht hc (opens_int he) hf
end
section
variable {H : Type} {enc : TypeId × Value → H} {P : Program} {w : World}
end
theorem law_of_kon {P : Program} {f : FuncId} {aa : List AV} (h : Kon P f aa [] (vB true) [] []) {vs : Array Value} {w : World} (hs : vs.size = aa.length) (hr : ∀ (j : Nat) (a : AV), aa[j]? = some a → ∃ z, vs[j]? = some z ∧ Rep0 w a z) (hgl : Glo w := by exact trivial) (hgz : gsz ≤ w.heap.size := by exact Nat.zero_le _) :
    Calls P f vs w fun e w' => e = .returned (.bool true) ∧ Below w.heap.size w w' := by
  obtain ⟨C, hC, hCe⟩ := h
  exact law_run hC hCe hs hr hgl hgz
section
variable {H : Type} {enc : TypeId × Value → H} {P : Program} {w : World}
theorem i64_in_of {k : Int} (h : (Lit.int .i64 k).wf = true) : -9223372036854775808 ≤ k ∧ k ≤ 9223372036854775807 := by
  simp [Lit.wf, IntKind.min, IntKind.max, IntKind.signed, IntKind.bits] at h
  omega
end
end Go.Proofs.YtmkoanmmfcpmjaaDoor
namespace Go.Proofs.YtmkoanmmfcpmjaaDoor
set_option linter.unusedVariables false
set_option linter.unusedSimpArgs false
open Go.ChangeShapes Go.WideShapes Go.ChangeAt Go.RowKit Go.Joins Go.Deep Go.ChangeMaps
section
variable {H : Type} {enc : TypeId × Value → H} {P : Program} {w : World}
end
section
variable {H : Type} {enc : TypeId × Value → H}
theorem handed_laid_shaped {a : Assume} {C : Checked} {os : Os} {f : FuncId} {fn : Func} {s : ChangeSpec} {conds : List PathCond} {apart fresh handsOn again : Bool} {X : World → Array Value → Prop}
    (hX : ∀ (w w' : World) (args : Array Value), w.heap = w'.heap → X w args → X w' args)
    (own : ownKnob C.prog.godebug = none) (started : os.Started) (noInit : C.prog.inits.idxOf? f = none) (hfn : C.prog.funcs[f]? = some fn)
    (witness : ∃ (w : World) (tape : Tape) (i : Input), w.os = os ∧ (w.forCall tape i).Shaped C.prog ∧ i.vars = [] ∧ Input.okWide C.prog (w.forCall tape i) .any w.heap.size f i ∧
      ((s.pre enc C.prog fn conds apart (w.forCall tape i).memory i.args ∧ X (w.forCall tape i).memory i.args) ∧ sizedMet enc C.prog fn (OpenSpec.ofChange s) apart (w.forCall tape i).memory i.args) ∧ a.holds C.prog (lone (Frame.enter C.prog f i.args .normal) [] (w.forCall tape i)))
    (contract : ∀ (W : World) (base : Nat) (args : Array Value) (ds gs : List (DataW H)) (before : List MemPlace),
      (∀ (j : Nat) t v, fn.params[j]? = some t → args[j]? = some v → Value.okWide C.prog W .any base t v) →
      DataW.Whole enc C.prog fn.params.toList s.vars apart W args.toList ds gs before →
      conds.all (PathCond.test C.prog ⟨fn.params.toList, ds, s.plain.varTypes C.prog, gs⟩) = true →
      W.ShapedOpen C.prog → X W args →
      Calls C.prog f args W fun e W' => ∃ v, e = .returned v ∧ s.post enc C.prog fn apart fresh handsOn again W args v W') :
    ReturnsInHanded a C os f .any (fun w args => (s.pre enc C.prog fn conds apart w args ∧ X w args) ∧ sizedMet enc C.prog fn (OpenSpec.ofChange s) apart w args) (s.post enc C.prog fn apart fresh handsOn again) := by
  refine returnsInHanded_of_calls own started noInit witness ?_
  intro w tape i _ hsh _ hok hpre hholds
  obtain ⟨_, _, _, fn', hfn', _, _, _, _, hval⟩ := hok
  have e : fn' = fn := Option.some.inj (hfn'.symm.trans hfn)
  subst e
  obtain ⟨⟨⟨ds, gs, before, hw, hc⟩, hx⟩, hz⟩ := hpre
  have hw' := DataW.Whole.of_heap (w' := w.forCall tape i) (by rfl) hw
  refine (contract (w.forCall tape i) w.heap.size i.args ds gs before hval hw' hc hsh (hX _ _ _ (by rfl) hx)).mono fun e W' ⟨v, he, hp⟩ => ?_
  subst he
  exact ChangeSpec.post_blind hp
end
end Go.Proofs.YtmkoanmmfcpmjaaDoor
namespace Go.Proofs.YtmkoanmmfcpmjaaDoor
set_option linter.unusedVariables false
set_option linter.unusedSimpArgs false
open Go.ChangeShapes Go.WideShapes Go.ChangeAt Go.RowKit Go.Joins Go.Deep
theorem heap_of_tab {P : Program} {W : World} {n : String} {g : Nat} {k : IntKind} {zs : List Int} (h : Lib.TabIs P W n k zs) (hg : P.globalNamed n = some g) : ∃ (t : TypeId) (fz : Nat × Nat), W.heap[g]? = some (.cells (zs.map fun z => Value.int k z).toArray t fz) := by
  unfold Lib.TabIs World.var? at h
  rw [hg] at h
  simp only [Option.bind_some] at h
  split at h
  · rename_i cs t fz hh
    cases h
    exact ⟨t, fz, hh⟩
  · cases h
theorem glo_MadeBy {W : World} (hsh : W.ShapedOpen Tryd.prog) (hL : laidMetH Tryd.prog Rows.fnMadeByRow.laid W) : Glo W ∧ gsz ≤ W.heap.size := by
  rw [MakeChecks.laidMetH_plain _ _ _ (by kernel_rfl)] at hL
  have h2 : laidMet Tryd.prog (("math/bits.deBruijn64tab", Lib.tabData .u8 (Lib.deBruijn64tab.map fun z : Nat => (z : Int))) :: Rows.fnMadeByRow.laid.drop 2) W := hL.tail
  obtain ⟨t4, f4, hh⟩ := heap_of_tab (Lib.tabIs_of_head (g := 1) (t := 80) (e := 5) (by kernel_rfl) (by kernel_rfl) Tryd.underlying80 Tryd.underlying5 (by kernel_rfl) (by kernel_rfl) h2) (show Tryd.prog.globalNamed "math/bits.deBruijn64tab" = some 1 by kernel_rfl)
  exact ⟨⟨t4, f4, hh⟩, Nat.succ_le_of_lt (Array.getElem?_eq_some_iff.1 hh).1⟩
theorem glo_ExactMadeBy {W : World} (hsh : W.ShapedOpen Tryd.prog) (hL : laidMetH Tryd.prog Rows.fnExactMadeByRow.laid W) : Glo W ∧ gsz ≤ W.heap.size := by
  rw [MakeChecks.laidMetH_plain _ _ _ (by kernel_rfl)] at hL
  have h2 : laidMet Tryd.prog (("math/bits.deBruijn64tab", Lib.tabData .u8 (Lib.deBruijn64tab.map fun z : Nat => (z : Int))) :: Rows.fnExactMadeByRow.laid.drop 2) W := hL.tail
  obtain ⟨t4, f4, hh⟩ := heap_of_tab (Lib.tabIs_of_head (g := 1) (t := 80) (e := 5) (by kernel_rfl) (by kernel_rfl) Tryd.underlying80 Tryd.underlying5 (by kernel_rfl) (by kernel_rfl) h2) (show Tryd.prog.globalNamed "math/bits.deBruijn64tab" = some 1 by kernel_rfl)
  exact ⟨⟨t4, f4, hh⟩, Nat.succ_le_of_lt (Array.getElem?_eq_some_iff.1 hh).1⟩
end Go.Proofs.YtmkoanmmfcpmjaaDoor
namespace Go.Proofs.YtmkoanmmfcpmjaaDoor
end Go.Proofs.YtmkoanmmfcpmjaaDoor
namespace Go.Proofs.YtmkoanmmfcpmjaaDoor
set_option linter.unusedVariables false
set_option linter.unusedSimpArgs false
set_option maxRecDepth 20000
open Go.RowKit
attribute [local irreducible] runA runX AW
theorem gq_MBX {H G : Prop} (k : H) (h : Hid H → G := by (intro hh; repeat1' (first | (first | (refine nxA ?_; (first | fail | ((first | (refine z_op (by rfl) ?_; first | refine z_ok ?_ ?_ | refine z_ex ?_ (by first | exact zL1 | ((first | refine mk_c Int rfl rfl rfl ?_); exact zWW) | exact zL2 | fail | exact zL3 | fail) ?_) | ((first | refine q_callE wsT wsZ (by rfl) ?_ | refine q_callVE wsT (by rfl) (by rfl) ?_); refine ⟨_, _, _, (by first | assumption | exact k_eqGate _), _, by rfl, ?_, ?_⟩)); focus (first | exact trivial | fail | exact zQZ)) | fail)) | refine swA ?_) | refine awA ?_); exact hh.out)) : G := h ⟨k⟩
theorem set_end {α : Type} (l r : List α) (x y : α) : (l ++ x :: r).set l.length y = l ++ y :: r := by
  rw [List.set_append_right _ _ (Nat.le_refl _), Nat.sub_self]; rfl
theorem k_toI (l : List Int) (h : l.length ≤ 10000000) : Kon Tryd.prog 6 [roA l] [] (slA 0 0 l) [iRow l] [] := by
  (refine kM Tryd.func6 rfl ?_; intro hfit hfe)
  have hrl : (List.replicate (l.length : Int).toNat (Cel.no : Int)).length = l.length := by rw [List.length_replicate]; omega
  (repeat (first | refine gq_MBX ?_ | (refine ga1A ?_; intro _q ⟨_he, _hq⟩)))
  (refine aw_rd [0, 3] [] (fun i : Nat => [(4, vI i)]) (fun i => [(112, (0, iRow (l.take i ++ List.replicate (l.length - i) (0 : Int))))]) (fun i => i ≤ l.length) (fun i => l.length - i) 0 (by rfl) (by rfl) ?_ (by rfl) zHE zHE ?_)
  · exact Nat.zero_le _
  rintro i hi
  rcases Nat.lt_or_ge i l.length with h1 | h1
  · have hd : decide ((i : Int) < (l.length : Int)) = true := decide_eq_true (by omega)
    have hl2 : (l.take i ++ List.replicate (l.length - i) (0 : Int)).length = l.length := by simp; omega
    have e : (l.take i ++ List.replicate (l.length - i) (0 : Int)).set (i : Int).toNat (l.getD (i : Int).toNat (0 : Int)) = l.take (i + 1) ++ List.replicate (l.length - (i + 1)) (0 : Int) := by
      rw [show l.length - i = (l.length - (i + 1)) + 1 by omega, List.replicate_succ, List.take_succ_eq_append_getElem h1]
      have h2 : (i : Int).toNat = (l.take i).length := by simp; omega
      have h3 : l.getD (i : Int).toNat (0 : Int) = l[i] := by rw [Int.toNat_natCast, List.getD_eq_getElem?_getD, List.getElem?_eq_getElem h1]; rfl
      rw [h3, h2, set_end, List.append_assoc]; rfl
    have hinv : i + 1 ≤ l.length := h1
    (repeat (first | refine gq_MBX ?_ | (refine ga1A ?_; intro _q ⟨_he, _hq⟩)))
    exact ⟨i + 1, hinv, ⟨by rfl, zHE, ⟨Eq.trans (b := some (0, iRow ((l.take i ++ List.replicate (l.length - i) (0 : Int)).set (i : Int).toNat (l.getD (i : Int).toNat (0 : Int))))) (by rfl) (by rw [e]), zHE⟩⟩, (by first | omega | (dsimp only; omega))⟩
  · obtain rfl : i = l.length := by omega
    have hd : decide ((l.length : Int) < (l.length : Int)) = false := decide_eq_false (by omega)
    have e : l.take l.length ++ List.replicate (l.length - l.length) (0 : Int) = l := by simp
    rw [e]
    (repeat (first | refine gq_MBX ?_ | (refine ga1A ?_; intro _q ⟨_he, _hq⟩)))
    (refine rtA ?_; try rfl)
    exact congrArg (fun n => AV.g (.one (.sl 0 0 n))) hrl
theorem k_eqIs (l : List Int) (h : l.length ≤ 10000000) : Kon Tryd.prog 9 [roA l, roA l] [] (vB true) [] [] := by
  have h1 : ((l.length : Int) != (l.length : Int)) = false := by simp
  have hg : ∀ x : Int, (x != x) = false := fun x => by simp
  (refine kM Tryd.func9 rfl ?_; intro hfit hfe)
  (repeat (first | refine gq_MBX ?_ | (refine ga1A ?_; intro _q ⟨_he, _hq⟩)))
  (refine aw_rd [0, 1, 4] [] (fun i : Nat => [(5, vI i)]) (fun _ => []) (fun i => i ≤ l.length) (fun i => l.length - i) 0 (by rfl) (by rfl) ?_ (by rfl) zHE zHE ?_)
  · exact Nat.zero_le _
  rintro i hi
  rcases Nat.lt_or_ge i l.length with h5 | h5
  · have hd : decide ((i : Int) < (l.length : Int)) = true := decide_eq_true (by omega)
    have hg := hg (l.getD (i : Int).toNat Cel.no)
    (repeat (first | refine gq_MBX ?_ | (refine ga1A ?_; intro _q ⟨_he, _hq⟩) | refine gdA ?_))
    exact ⟨i + 1, h5, ⟨by rfl, zHE, zHE⟩, (by first | omega | (dsimp only; omega))⟩
  · have hd : decide ((i : Int) < (l.length : Int)) = false := decide_eq_false (by omega)
    (repeat (first | refine gq_MBX ?_ | (refine ga1A ?_; intro _q ⟨_he, _hq⟩) | refine gdA ?_))
    (refine rtA ?_; try rfl)
def mkI (k : Int) (l : List Int) : Nat → List Int
  | 0 => l
  | i + 1 => (mkI k l i).set i (k + (i : Int))
theorem mkI_len (k : Int) (l : List Int) : ∀ i, (mkI k l i).length = l.length
  | 0 => rfl
  | i + 1 => by rw [mkI, List.length_set]; exact mkI_len k l i
theorem k_markI (l : List Int) (n : Nat) (k : Int) (h : n = l.length ∧ 0 ≤ k ∧ k ≤ 10000000 ∧ l.length ≤ 10000000) : Kon Tryd.prog 10 [.g (.one (.sl 100000 0 n)), vI k] [iRow l] (vI (k + (l.length : Int))) [] [iRow (mkI k l l.length)] := by
  obtain ⟨rfl, h⟩ := h
  (refine kM Tryd.func10 rfl ?_; intro hfit hfe)
  (repeat (first | refine gq_MBX ?_ | (refine ga1A ?_; intro _q ⟨_he, _hq⟩)))
  refine aw_rd [0] [] (fun i : Nat => [(1, vI (k + (i : Int))), (5, vI i)]) (fun i => [(100000, (0, iRow (mkI k l i)))]) (fun i => i ≤ l.length) (fun i => l.length - i) 0 (by rfl) (by rfl) ?_ (by rfl) zHE ⟨by (simp only [St.put, Gin, Nat.le_refl, if_true, Nat.sub_self]; rfl), trivial⟩ ?_
  · exact Nat.zero_le _
  rintro i hi
  have hl2 := mkI_len k l i
  rcases Nat.lt_or_ge i l.length with h1 | h1
  · have hd : decide ((i : Int) < (l.length : Int)) = true := decide_eq_true (by omega)
    have hinv : i + 1 ≤ l.length := h1
    (repeat (first | refine gq_MBX ?_ | (refine ga1A ?_; intro _q ⟨_he, _hq⟩)))
    exact ⟨i + 1, hinv, ⟨by rfl, zHE, zHE⟩, (by first | omega | (dsimp only; omega))⟩
  · obtain rfl : i = l.length := by omega
    have hd : decide ((l.length : Int) < (l.length : Int)) = false := decide_eq_false (by omega)
    (repeat (first | refine gq_MBX ?_ | (refine ga1A ?_; intro _q ⟨_he, _hq⟩)))
    (refine rtA ?_; try rfl)
theorem k_eqGate (g : Gt) : Kon Tryd.prog 31 [gV g, gV g] [] (vB true) [] [] := by
  have e : ∀ x : Int, (x != x) = false := fun x => by simp
  have e1 := e g.k
  have e2 := e g.a
  have e3 := e g.b
  have e4 := e g.c
  (refine kM Tryd.func31 rfl ?_; intro hfit hfe)
  (repeat (first | refine gq_MBX ?_ | (refine ga1A ?_; intro _q ⟨_he, _hq⟩)))
  (refine rtA ?_; try rfl)
theorem k_eqG (l : List Gt) (h : l.length ≤ 10000000) : Kon Tryd.prog 8 [roA l, roA l] [] (vB true) [] [] := by
  have h1 : ((l.length : Int) != (l.length : Int)) = false := by simp
  (refine kM Tryd.func8 rfl ?_; intro hfit hfe)
  (repeat (first | refine gq_MBX ?_ | (refine ga1A ?_; intro _q ⟨_he, _hq⟩)))
  (refine aw_rd [0, 1, 4] [] (fun i : Nat => [(5, vI i)]) (fun _ => []) (fun i => i ≤ l.length) (fun i => l.length - i) 0 (by rfl) (by rfl) ?_ (by rfl) zHE zHE ?_)
  · exact Nat.zero_le _
  rintro i hi
  rcases Nat.lt_or_ge i l.length with h5 | h5
  · have hd : decide ((i : Int) < (l.length : Int)) = true := decide_eq_true (by omega)
    (repeat (first | refine gq_MBX ?_ | (refine ga1A ?_; intro _q ⟨_he, _hq⟩) | refine gdA ?_))
    exact ⟨i + 1, h5, ⟨by rfl, zHE, zHE⟩, (by first | omega | (dsimp only; omega))⟩
  · have hd : decide ((i : Int) < (l.length : Int)) = false := decide_eq_false (by omega)
    (repeat (first | refine gq_MBX ?_ | (refine ga1A ?_; intro _q ⟨_he, _hq⟩) | refine gdA ?_))
    (refine rtA ?_; try rfl)
def mkG1 (l : List Gt) (i : Nat) (k : Int) : List Gt :=
  let l1 := l.set i ⟨k, (l.getD i Cel.no).a, (l.getD i Cel.no).b, (l.getD i Cel.no).c⟩
  let l2 := l1.set i ⟨(l1.getD i Cel.no).k, k + 1, (l1.getD i Cel.no).b, (l1.getD i Cel.no).c⟩
  let l3 := l2.set i ⟨(l2.getD i Cel.no).k, (l2.getD i Cel.no).a, k + 1 + 1, (l2.getD i Cel.no).c⟩
  l3.set i ⟨(l3.getD i Cel.no).k, (l3.getD i Cel.no).a, (l3.getD i Cel.no).b, k + 1 + 1 + 1⟩
def mkG (k : Int) (l : List Gt) : Nat → List Gt
  | 0 => l
  | i + 1 => mkG1 (mkG k l i) i (k + 4 * (i : Int))
theorem mkG_len (k : Int) (l : List Gt) : ∀ i, (mkG k l i).length = l.length
  | 0 => rfl
  | i + 1 => by rw [mkG, mkG1]; simp only [List.length_set]; exact mkG_len k l i
set_option maxHeartbeats 1000000 in
theorem k_markG (l : List Gt) (n : Nat) (k : Int) (h : n = l.length ∧ 0 ≤ k ∧ k ≤ 10000000 ∧ l.length ≤ 10000000) : Kon Tryd.prog 11 [.g (.one (.sl 100000 0 n)), vI k] [gRow l] (vI (k + 4 * (l.length : Int))) [] [gRow (mkG k l l.length)] := by
  obtain ⟨rfl, h⟩ := h
  (refine kM Tryd.func11 rfl ?_; intro hfit hfe)
  (repeat (first | refine gq_MBX ?_ | (refine ga1A ?_; intro _q ⟨_he, _hq⟩)))
  refine aw_rd [0] [] (fun i : Nat => [(1, vI (k + 4 * (i : Int))), (5, vI i)]) (fun i => [(100000, (0, gRow (mkG k l i)))]) (fun i => i ≤ l.length) (fun i => l.length - i) 0 (by rfl) (by rfl) ?_ (by rfl) zHE ⟨by (simp only [St.put, Gin, Nat.le_refl, if_true, Nat.sub_self]; rfl), trivial⟩ ?_
  · exact Nat.zero_le _
  rintro i hi
  have hl2 := mkG_len k l i
  rcases Nat.lt_or_ge i l.length with h1 | h1
  · have hd : decide ((i : Int) < (l.length : Int)) = true := decide_eq_true (by omega)
    have hinv : i + 1 ≤ l.length := h1
    (repeat (first | refine gq_MBX ?_ | (refine ga1A ?_; intro _q ⟨_he, _hq⟩)))
    exact ⟨i + 1, hinv, ⟨by rfl, zHE, zHE⟩, (by first | omega | (dsimp only; omega))⟩
  · obtain rfl : i = l.length := by omega
    have hd : decide ((l.length : Int) < (l.length : Int)) = false := decide_eq_false (by omega)
    (repeat (first | refine gq_MBX ?_ | (refine ga1A ?_; intro _q ⟨_he, _hq⟩)))
    (refine rtA ?_; try rfl)
abbrev gM (k : Int) : Gt := ⟨k, k + 1, k + 1 + 1, k + 1 + 1 + 1⟩
theorem mkG1_same (l : List Gt) (i : Nat) (k : Int) (h : i < l.length) : (mkG1 l i k).getD i Cel.no = gM k := by
  unfold mkG1
  simp [List.getD_eq_getElem?_getD, h]
theorem mkG1_ne (l : List Gt) (i j : Nat) (k : Int) (h : i ≠ j) : (mkG1 l i k).getD j Cel.no = l.getD j Cel.no := by
  unfold mkG1
  simp [List.getD_eq_getElem?_getD, List.getElem?_set_ne h]
theorem mkG_at (k : Int) (l : List Gt) : ∀ (i j : Nat), j < i → i ≤ l.length → (mkG k l i).getD j Cel.no = gM (k + 4 * (j : Int))
  | 0, j, h, _ => by omega
  | i + 1, j, h, hi => by
    rw [mkG]
    by_cases hj : j = i
    · subst hj
      exact mkG1_same _ _ _ (by rw [mkG_len]; omega)
    · rw [mkG1_ne _ _ _ _ (by omega)]
      exact mkG_at k l i j (by omega) (by omega)
set_option maxHeartbeats 2000000 in
theorem k_heldG (M : List Gt) (k : Int) (h : M.length ≤ 10000000 ∧ 0 ≤ k ∧ k ≤ 10000000) (hM : ∀ j, j < M.length → M.getD j Cel.no = gM (k + 4 * (j : Int))) : Kon Tryd.prog 12 [roA M, vI k] [] (vI (k + 4 * (M.length : Int))) [] [] := by
  (refine kM Tryd.func12 rfl ?_; intro hfit hfe)
  (repeat (first | refine gq_MBX ?_ | (refine ga1A ?_; intro _q ⟨_he, _hq⟩)))
  (refine aw_rd [0] [] (fun i : Nat => [(1, vI (k + 4 * (i : Int))), (5, vI i)]) (fun _ => []) (fun i => i ≤ M.length) (fun i => M.length - i) 0 (by rfl) (by rfl) ?_ (by rfl) zHE zHE ?_)
  · exact Nat.zero_le _
  rintro i hi
  rcases Nat.lt_or_ge i M.length with h5 | h5
  · have hd : decide ((i : Int) < (M.length : Int)) = true := decide_eq_true (by omega)
    have hg : M.getD (i : Int).toNat Cel.no = gM (k + 4 * (i : Int)) := hM i h5
    have f0 : ((M.getD (i : Int).toNat Cel.no).k != k + 4 * (i : Int)) = false := by rw [hg]; simp
    have f1 : ((M.getD (i : Int).toNat Cel.no).a != k + 4 * (i : Int) + 1) = false := by rw [hg]; simp
    have f2 : ((M.getD (i : Int).toNat Cel.no).b != k + 4 * (i : Int) + 1 + 1) = false := by rw [hg]; simp
    have f3 : ((M.getD (i : Int).toNat Cel.no).c != k + 4 * (i : Int) + 1 + 1 + 1) = false := by rw [hg]; simp
    clear hM hg
    have hinv : i + 1 ≤ M.length := h5
    (repeat (first | refine gq_MBX ?_ | (refine ga1A ?_; intro _q ⟨_he, _hq⟩)))
    exact ⟨i + 1, hinv, ⟨by rfl, zHE, zHE⟩, (by first | omega | (dsimp only; omega))⟩
  · obtain rfl : i = M.length := by omega
    have hd : decide ((M.length : Int) < (M.length : Int)) = false := decide_eq_false (by omega)
    (repeat (first | refine gq_MBX ?_ | (refine ga1A ?_; intro _q ⟨_he, _hq⟩)))
    (refine rtA ?_; try rfl)
theorem k_markG0 : Kon Tryd.prog 11 [vN, vI 1] [] (vI 1) [] [] := by
  (refine kM Tryd.func11 rfl ?_; intro hfit hfe)
  (repeat (first | refine gq_MBX ?_ | (refine ga1A ?_; intro _q ⟨_he, _hq⟩)))
  refine aw_unroll 1 ?_
  (repeat (first | refine gq_MBX ?_ | (refine ga1A ?_; intro _q ⟨_he, _hq⟩)))
  (refine rtA ?_; try rfl)
def wsTM2 : WsT := (5, ([], true)) :: (11, ([0], false)) :: (10, ([0], false)) :: wsT
def wsZM2 : List (Nat × Nat) := [(8, 4), (12, 4), (999999, 0)]
theorem gq_MBF {H G : Prop} (k : H) (h : Hid H → G := by (intro hh; repeat1' (first | (first | (refine nxA ?_; (first | fail | ((first | (refine z_op (by rfl) ?_; first | refine z_ok ?_ ?_ | refine z_ex ?_ (by first | exact zL1 | ((first | fail); exact zWW) | exact zL2 | fail | exact zL3 | fail) ?_) | ((first | refine q_callE wsTM2 wsZM2 (by rfl) ?_ | refine q_callVE wsTM2 (by rfl) (by rfl) ?_); refine ⟨_, _, _, (by first | assumption | exact k_toI _ (by omega) | exact k_eqIs _ (by omega) | exact k_eqG _ (by omega) | exact k_markI _ _ _ (by first | exact ⟨rfl, by omega⟩ | omega) | exact k_markG _ _ _ (by first | exact ⟨rfl, by omega⟩ | omega)), _, by rfl, ?_, ?_⟩)); focus (first | exact trivial | fail | exact zQZ)) | fail)) | refine swA ?_) | refine awA ?_); exact hh.out)) : G := h ⟨k⟩
set_option maxHeartbeats 4000000 in
theorem k_lawXMB (n : Int) (hr : -9223372036854775808 ≤ n ∧ n ≤ 9223372036854775807) (t : List Int) : Kon Tryd.prog 3 [vI n, roA t] [] (vB true) [] [] := by
  rcases Nat.lt_or_ge 1048576 t.length with h0 | h0
  · have hd : decide ((t.length : Int) > 1048576) = true := decide_eq_true (by omega)
    (refine kM Tryd.func3 rfl ?_; intro hfit hfe)
    (repeat (first | refine gq_MBF ?_ | (refine ga0A ?_; intro _hq)))
    (refine rtA ?_; try rfl)
  have hd : decide ((t.length : Int) > 1048576) = false := decide_eq_false (by omega)
  have hk0 : decide (1 + (t.length : Int) < 0) = false := decide_eq_false (by omega)
  by_cases hv : n ≤ 3 ∧ tvB n t = true
  · obtain ⟨h3, hv⟩ := hv
    have hI := k_mbI n t h3 hv
    have hS := k_mbS n t h3 hv
    obtain ⟨hc, hlen, hk, htab⟩ := mb_law h3 hv
    have hrl : (mbL t).reverse.length ≤ 21 := by rw [List.length_reverse]; exact hlen
    generalize (mbL t).reverse = cs at *
    have hH : Kon Tryd.prog 12 [.g (.one (.ro (Cel.sz Gt) (mkG 1 cs cs.length).length (cV (mkG 1 cs cs.length)))), vI 1] [] (vI (1 + 4 * ((mkG 1 cs cs.length).length : Int))) [] [] := k_heldG (mkG 1 cs cs.length) 1 (by rw [mkG_len]; omega) (fun j hj => mkG_at 1 cs cs.length j (by rw [mkG_len] at hj; exact hj) (Nat.le_refl _))
    rw [mkG_len] at hH
    have hMG := k_markG cs cs.length 1 ⟨rfl, by omega⟩
    have hml := mkG_len 1 cs cs.length
    generalize mkG 1 cs cs.length = X' at *
    have hd2 : decide (1 + 4 * (cs.length : Int) < 0) = false := decide_eq_false (by omega)
    have hq : ((1 + 4 * (cs.length : Int)) != 1 + 4 * (cs.length : Int)) = false := by simp
    clear hv hlen htab hk hc
    (refine kM Tryd.func3 rfl ?_; intro hfit hfe)
    (repeat (first | refine gq_MBF ?_ | (refine ga0A ?_; intro _hq)))
    (refine rtA ?_; try rfl)
  · have hv0 : n ≤ 3 → tvB n t = false := fun h3 => by
      cases hx : tvB n t with
      | false => rfl
      | true => exact absurd ⟨h3, hx⟩ hv
    have hI := k_mbI0 n t (by omega) hv0
    have hS := k_mbS0 n t hr (by omega) hv0
    have hE : Kon Tryd.prog 8 [.g (.one (.ro 4 0 [])), .g (.one (.ro 4 0 []))] [] (vB true) [] [] := k_eqG [] (by decide)
    have hM := k_markG0
    have hH : Kon Tryd.prog 12 [.g (.one (.ro 4 0 [])), vI 1] [] (vI 1) [] [] := k_heldG [] 1 (by decide) (fun j hj => absurd hj (Nat.not_lt_zero _))
    clear hv hv0
    (refine kM Tryd.func3 rfl ?_; intro hfit hfe)
    (repeat (first | refine gq_MBF ?_ | (refine ga0A ?_; intro _hq)))
    (refine rtA ?_; try rfl)
end Go.Proofs.YtmkoanmmfcpmjaaDoor
namespace Go.Proofs.YtmkoanmmfcpmjaaDoor
end Go.Proofs.YtmkoanmmfcpmjaaDoor
