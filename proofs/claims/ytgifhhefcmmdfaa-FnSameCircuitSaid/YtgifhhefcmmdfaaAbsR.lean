/- The abstract run, last part: rules of memory, calls and returns. No program is named. -/
import Derived.Test.YtgifhhefcmmdfaaAbsM
namespace Go.Proofs.Ytgifhhefcmmdfaa
set_option linter.unusedVariables false
open Go.RowKit

section
variable {P : Program} {T : Tab} {cf : FuncId → Option (List AV → Option Tmp → AM)} {F : Ft} {Fs : Nat → Ft} {i : Nat} {rest : List Oper} {S : St} {K : St → Prop} {ops : Array Oper} {d : Tmp} {x y c : Operand} {a b : AV} {ty : TypeId} {pos : String} {af : Array Edge} {g : Option (Nat × Bool)}
theorem blt_lt {m n : Nat} (h : Nat.blt m n = true) : m < n := by rwa [Nat.blt_eq] at h
theorem orFail_some {α : Type _} {k : α → AM} {a : α} (hk : (k a).run F S K) : (orFail (some a) k).run F S K := hk
theorem orFail_of {α : Type _} {o : Option α} {k : α → AM} {a : α} (h : o = some a) (hk : (k a).run F S K) : (orFail o k).run F S K := by subst h; exact hk
theorem getE_of {j : Nat} {k : Option (Nat × Ent) → AM} {e : Option (Nat × Ent)} (hF : F.er j = true) (h : S.G j = e) (hk : (k e).run F S K) : (AM.getE j k).run F S K := ⟨hF, by rw [h]; exact hk⟩
theorem need_of {p : Prop} {k : AM} (h : p) (hk : k.run F S K) : (AM.need p k).run F S K := ⟨h, hk⟩
/-- The turn of a new block. -/
def nver (S : St) (j : Nat) : Nat := match S.G j with
  | none => 0
  | some (r, _) => r + 1
theorem lay1_of {j r : Nat} {e : Ent} {k : Nat → AM} (hj : Nat.blt j 100000 = true) (her : F.er j = true) (hew : F.ew j = true) (hr : nver S j = r) (hk : (k r).run F (S.lay j (some (r, e))) K) : (lay1 j e k).run F S K := by
  refine ⟨blt_lt hj, her, ?_⟩
  unfold nver at hr
  cases hG : S.G j with
  | none => rw [hG] at hr; subst hr; exact ⟨hew, hk⟩
  | some p => obtain ⟨r0, e0⟩ := p; rw [hG] at hr; subst hr; exact ⟨hew, hk⟩
theorem r_load_box {t : TypeId} {j r off size : Nat} {agg : Bool} {cs : List AC} {v : AV} (hx : rdO (Fs i) S x = some (.g (.one (.ptr j r off)))) (hl : find1 T.lay t = some (agg, size)) (her : (Fs i).er j = true) (hG : S.G j = some (r, .box cs)) (hle : Nat.ble (off + size) cs.length = true) (hv : ofa agg ((cs.drop off).take size) = some v) (hw : (Fs i).sw d = true)
    (k : runX Fs P T cf ops (i + 1) rest (S.put d (some v)) K) : runA Fs P T cf ops i ⟨some d, .load t x, ty, pos, af, g⟩ rest S K :=
  getO_of hx (orFail_of hl (getE_of her hG (need_of ⟨rfl, Nat.le_of_ble_eq_true hle⟩ (orFail_of hv (putD_of hw k)))))
theorem r_load_rbx {t : TypeId} {j r off size : Nat} {agg : Bool} {cs : List AC} {v : AV} (hx : rdO (Fs i) S x = some (.g (.one (.ptr j r off)))) (hl : find1 T.lay t = some (agg, size)) (her : (Fs i).er j = true) (hG : S.G j = some (r, .rbx cs)) (hle : Nat.ble (off + size) cs.length = true) (hv : ofa agg ((cs.drop off).take size) = some v) (hw : (Fs i).sw d = true)
    (k : runX Fs P T cf ops (i + 1) rest (S.put d (some v)) K) : runA Fs P T cf ops i ⟨some d, .load t x, ty, pos, af, g⟩ rest S K :=
  getO_of hx (orFail_of hl (getE_of her hG (need_of ⟨rfl, Nat.le_of_ble_eq_true hle⟩ (orFail_of hv (putD_of hw k)))))
theorem one_drop {l : List Value} {off : Nat} {v : Value} (h : l[off]? = some v) : (l.drop off).take 1 = [v] ∧ off + 1 ≤ l.length := by
  have hlt : off < l.length := (List.getElem?_eq_some_iff.1 h).1
  refine ⟨?_, by omega⟩
  rw [List.drop_eq_getElem_cons hlt]
  have := (List.getElem?_eq_some_iff.1 h).2
  simp [this]
theorem r_load_row {t : TypeId} {j r off sz : Nat} {e : Option TypeId} {l : List Value} {v : Value} (hx : rdO (Fs i) S x = some (.g (.one (.ptr j r off)))) (hl : find1 T.lay t = some (false, 1)) (her : (Fs i).er j = true) (hG : S.G j = some (r, .row e sz l)) (hw : (Fs i).sw d = true) (hv : l[off]? = some v)
    (k : runX Fs P T cf ops (i + 1) rest (S.put d (some (.g (.one (.v v))))) K) : runA Fs P T cf ops i ⟨some d, .load t x, ty, pos, af, g⟩ rest S K :=
  getO_of hx (orFail_of hl (getE_of her hG (need_of ⟨rfl, (one_drop hv).2⟩ (orFail_of (by rw [(one_drop hv).1]; rfl) (putD_of hw k)))))
theorem r_load_rowk {t : TypeId} {j r off sz size : Nat} {e : Option TypeId} {l vs : List Value} (hx : rdO (Fs i) S x = some (.g (.one (.ptr j r off)))) (hl : find1 T.lay t = some (true, size)) (her : (Fs i).er j = true) (hG : S.G j = some (r, .row e sz l)) (hw : (Fs i).sw d = true) (hle : off + size ≤ l.length) (hv : (l.drop off).take size = vs)
    (k : runX Fs P T cf ops (i + 1) rest (S.put d (some (.g (.agg (vs.map .v))))) K) : runA Fs P T cf ops i ⟨some d, .load t x, ty, pos, af, g⟩ rest S K :=
  getO_of hx (orFail_of hl (getE_of her hG (need_of ⟨rfl, hle⟩ (orFail_of (by rw [hv]; rfl) (putD_of hw k)))))
theorem r_load_rp {t : TypeId} {l : List Value} {v : Value} (hx : rdO (Fs i) S x = some (.g (.one (.rp l)))) (hl : find1 T.lay t = some (false, 1)) (hw : (Fs i).sw d = true) (hv : l[0]? = some v)
    (k : runX Fs P T cf ops (i + 1) rest (S.put d (some (.g (.one (.v v))))) K) : runA Fs P T cf ops i ⟨some d, .load t x, ty, pos, af, g⟩ rest S K := by
  have h1 := one_drop hv
  rw [List.drop_zero] at h1
  exact getO_of hx (orFail_of hl (need_of (by have := h1.2; omega) (orFail_of (by rw [h1.1]; rfl) (putD_of hw k))))
theorem r_load_rpk {t : TypeId} {size : Nat} {l vs : List Value} (hx : rdO (Fs i) S x = some (.g (.one (.rp l)))) (hl : find1 T.lay t = some (true, size)) (hw : (Fs i).sw d = true) (hle : size ≤ l.length) (hv : l.take size = vs)
    (k : runX Fs P T cf ops (i + 1) rest (S.put d (some (.g (.agg (vs.map .v))))) K) : runA Fs P T cf ops i ⟨some d, .load t x, ty, pos, af, g⟩ rest S K :=
  getO_of hx (orFail_of hl (need_of hle (orFail_of (by rw [hv]; rfl) (putD_of hw k))))
theorem r_fieldAddr {s f j r o off size : Nat} {agg : Bool} {e : Ent} (hx : rdO (Fs i) S x = some (.g (.one (.ptr j r o)))) (hf : find1 T.fld (s * 1000 + f) = some (off, agg, size)) (hf2 : Nat.blt f 1000 = true) (her : (Fs i).er j = true) (hG : S.G j = some (r, e)) (hw : (Fs i).sw d = true)
    (k : runX Fs P T cf ops (i + 1) rest (S.put d (some (.g (.one (.ptr j r (o + off)))))) K) : runA Fs P T cf ops i ⟨some d, .fieldAddr s x f, ty, pos, af, g⟩ rest S K :=
  getO_of hx (orFail_of hf (need_of (blt_lt hf2) (getE_of her hG (need_of rfl (putD_of hw k)))))
theorem r_fieldAddr_rp {s f off size : Nat} {agg : Bool} {l : List Value} (hx : rdO (Fs i) S x = some (.g (.one (.rp l)))) (hf : find1 T.fld (s * 1000 + f) = some (off, agg, size)) (hf2 : Nat.blt f 1000 = true) (hw : (Fs i).sw d = true)
    (k : runX Fs P T cf ops (i + 1) rest (S.put d (some (.g (.one (.rp (l.drop off)))))) K) : runA Fs P T cf ops i ⟨some d, .fieldAddr s x f, ty, pos, af, g⟩ rest S K :=
  getO_of hx (orFail_of hf (need_of (blt_lt hf2) (putD_of hw k)))
theorem r_field {s f off size : Nat} {agg : Bool} {cs : List AC} {v : AV} (hx : rdO (Fs i) S x = some (.g (.agg cs))) (hf : find1 T.fld (s * 1000 + f) = some (off, agg, size)) (hf2 : Nat.blt f 1000 = true) (hle : Nat.ble (off + size) cs.length = true) (hv : ofa agg ((cs.drop off).take size) = some v) (hw : (Fs i).sw d = true)
    (k : runX Fs P T cf ops (i + 1) rest (S.put d (some v)) K) : runA Fs P T cf ops i ⟨some d, .field s x f, ty, pos, af, g⟩ rest S K :=
  getO_of hx (orFail_of hf (need_of ⟨blt_lt hf2, Nat.le_of_ble_eq_true hle⟩ (orFail_of hv (putD_of hw k))))
theorem r_extract {n : Nat} {xs : List AG} {v : AG} (hx : rdO (Fs i) S x = some (.tup xs)) (hv : xs[n]? = some v) (hw : (Fs i).sw d = true)
    (k : runX Fs P T cf ops (i + 1) rest (S.put d (some (.g v))) K) : runA Fs P T cf ops i ⟨some d, .extract x n, ty, pos, af, g⟩ rest S K :=
  getO_of hx (orFail_of hv (putD_of hw k))
theorem r_indexAddr_ro {t e sz n by' : Nat} {agg : Bool} {l : List Value} {kd : IntKind} {j : Int} (hx : rdO (Fs i) S x = some (.g (.one (.ro sz n l)))) (hy : rdV (Fs i) S y = some (.int kd j)) (he : find1 T.elt t = some (none, e, agg, sz, by')) (hw : (Fs i).sw d = true) (h0 : 0 ≤ j) (h1 : j < (n : Int))
    (k : runX Fs P T cf ops (i + 1) rest (S.put d (some (.g (.one (.rp (l.drop (j.toNat * sz))))))) K) : runA Fs P T cf ops i ⟨some d, .indexAddr t x y, ty, pos, af, g⟩ rest S K :=
  getO_of hx (getV_of hy (orFail_of he (need_of ⟨rfl, h0, h1⟩ (putD_of hw k))))
theorem r_indexAddr_sl {t e0 sz b' r n by' : Nat} {agg : Bool} {e : Option TypeId} {l : List Value} {kd : IntKind} {j : Int} (hx : rdO (Fs i) S x = some (.g (.one (.sl b' r n)))) (hy : rdV (Fs i) S y = some (.int kd j)) (he : find1 T.elt t = some (none, e0, agg, sz, by')) (her : (Fs i).er b' = true) (hG : S.G b' = some (r, .row e sz l)) (hw : (Fs i).sw d = true) (h0 : 0 ≤ j) (h1 : j < (n : Int))
    (k : runX Fs P T cf ops (i + 1) rest (S.put d (some (.g (.one (.ptr b' r (j.toNat * sz)))))) K) : runA Fs P T cf ops i ⟨some d, .indexAddr t x y, ty, pos, af, g⟩ rest S K :=
  getO_of hx (getV_of hy (orFail_of he (getE_of her hG (need_of ⟨rfl, rfl, h0, h1⟩ (putD_of hw k)))))
theorem r_indexAddr_arr {t e0 sz b' r off n by' : Nat} {agg : Bool} {e : Ent} {kd : IntKind} {j : Int} (hx : rdO (Fs i) S x = some (.g (.one (.ptr b' r off)))) (hy : rdV (Fs i) S y = some (.int kd j)) (he : find1 T.elt t = some (some n, e0, agg, sz, by')) (her : (Fs i).er b' = true) (hG : S.G b' = some (r, e)) (hw : (Fs i).sw d = true) (h0 : 0 ≤ j) (h1 : j < (n : Int))
    (k : runX Fs P T cf ops (i + 1) rest (S.put d (some (.g (.one (.ptr b' r (off + j.toNat * sz)))))) K) : runA Fs P T cf ops i ⟨some d, .indexAddr t x y, ty, pos, af, g⟩ rest S K :=
  getO_of hx (getV_of hy (orFail_of he (getE_of her hG (need_of ⟨rfl, h0, h1⟩ (putD_of hw k)))))
theorem r_box {t r : Nat} {cs : List AC} (hx : rdO (Fs i) S x = some a) (hc : cellsOf a = some cs) (hj : Nat.blt (nid d 0) 100000 = true) (her : (Fs i).er (nid d 0) = true) (hew : (Fs i).ew (nid d 0) = true) (hr : nver S (nid d 0) = r) (hw : (Fs i).sw d = true)
    (k : runX Fs P T cf ops (i + 1) rest ((S.lay (nid d 0) (some (r, .box cs))).put d (some (.g (.one (.ptr (nid d 0) r 0))))) K) : runA Fs P T cf ops i ⟨some d, .box t x, ty, pos, af, g⟩ rest S K :=
  orFail_some (getO_of hx (orFail_of hc (lay1_of hj her hew hr (putD_of hw k))))
theorem r_alloc {t r : Nat} {z : List Value} (hz : find1 T.zer t = some z) (hj : Nat.blt (nid d 0) 100000 = true) (her : (Fs i).er (nid d 0) = true) (hew : (Fs i).ew (nid d 0) = true) (hr : nver S (nid d 0) = r) (hw : (Fs i).sw d = true)
    (k : runX Fs P T cf ops (i + 1) rest ((S.lay (nid d 0) (some (r, .box (z.map .v)))).put d (some (.g (.one (.ptr (nid d 0) r 0))))) K) : runA Fs P T cf ops i ⟨some d, .alloc t, ty, pos, af, g⟩ rest S K := by
  have h : (orFail (some d) fun d => orFail (find1 T.zer t) fun z => lay1 (nid d 0) (.box (z.map .v)) fun r => putD (some d) (.g (.one (.ptr (nid d 0) r 0)))).run (Fs i) S (fun S' => runX Fs P T cf ops (i + 1) rest S' K) :=
    orFail_some (orFail_of hz (lay1_of hj her hew hr (putD_of hw k)))
  exact h
/-- Cells written one by one. -/
def setC {α : Type} : List α → Nat → List α → List α
  | l, _, [] => l
  | [], _, _ => []
  | x :: l, 0, m :: ms => m :: setC l 0 ms
  | x :: l, n + 1, ms => x :: setC l n ms
theorem setC_eq {α : Type} : ∀ (l : List α) (o : Nat) (m : List α), o + m.length ≤ l.length → splice l o m = setC l o m
  | l, o, [], h => by cases l <;> simp [splice, setC]
  | [], o, m :: ms, h => by simp at h
  | x :: l, 0, m :: ms, h => by
    have := setC_eq l 0 ms (by simp at h ⊢; omega)
    simp only [splice, List.take_zero, List.nil_append, Nat.zero_add] at this ⊢
    simp only [setC, ← this, List.length_cons, List.drop_succ_cons, List.cons_append]
  | x :: l, n + 1, m :: ms, h => by
    have := setC_eq l n (m :: ms) (by simp at h ⊢; omega)
    have e : n + 1 + (m :: ms).length = (n + (m :: ms).length) + 1 := by omega
    simp only [setC, ← this, splice, e, List.take_succ_cons, List.drop_succ_cons, List.cons_append]
theorem r_store_box {t j r off size : Nat} {agg : Bool} {cs cells : List AC} (hx : rdO (Fs i) S x = some (.g (.one (.ptr j r off)))) (hy : rdO (Fs i) S y = some b) (hl : find1 T.lay t = some (agg, size)) (hc : cellsOf b = some cs) (her : (Fs i).er j = true) (hG : S.G j = some (r, .box cells)) (hlen : Nat.beq cs.length size = true) (hle : Nat.ble (off + size) cells.length = true) (hew : (Fs i).ew j = true)
    (k : runX Fs P T cf ops (i + 1) rest (S.lay j (some (r, .box (setC cells off cs)))) K) : runA Fs P T cf ops i ⟨none, .store t x y, ty, pos, af, g⟩ rest S K := by
  have h1 := Nat.eq_of_beq_eq_true hlen
  have h2 := Nat.le_of_ble_eq_true hle
  refine getO_of hx (getO_of hy (orFail_of hl (orFail_of hc (getE_of her hG (need_of ⟨rfl, h1, h2⟩ ⟨hew, ?_⟩)))))
  rw [setC_eq cells off cs (by omega)]
  exact k
theorem splice_one {l : List Value} {off : Nat} {v : Value} (h : off < l.length) : splice l off [v] = l.set off v := by
  apply List.ext_getElem?
  intro j
  rw [splice_get (by simp; omega)]
  by_cases hj : j = off
  · subst hj; simp [h]
  · rw [List.getElem?_set_ne (Ne.symm hj)]
    rw [if_neg (by simp; omega)]
theorem r_store_row {t j r off sz : Nat} {e : Option TypeId} {l : List Value} {v : Value} (hx : rdO (Fs i) S x = some (.g (.one (.ptr j r off)))) (hy : rdV (Fs i) S y = some v) (hv : v.oneCell' = true) (hl : find1 T.lay t = some (false, 1)) (her : (Fs i).er j = true) (hG : S.G j = some (r, .row e sz l)) (hew : (Fs i).ew j = true) (hle : off < l.length)
    (k : runX Fs P T cf ops (i + 1) rest (S.lay j (some (r, .row e sz (l.set off v)))) K) : runA Fs P T cf ops i ⟨none, .store t x y, ty, pos, af, g⟩ rest S K := by
  have hy2 : rdO (Fs i) S y = some (.g (.one (.v v))) := by
    unfold rdV at hy
    split at hy
    · rename_i a ha
      rw [ha]
      unfold pval at hy
      split at hy
      · cases hy; rfl
      · simp only [Option.map_eq_some_iff] at hy
        obtain ⟨l, _, rfl⟩ := hy
        cases hv
      · cases hy
    · cases hy
  refine getO_of hx (getO_of hy2 (orFail_of hl (orFail_of (a := [.v v]) rfl (getE_of her hG (orFail_of (a := [v]) rfl (need_of ⟨rfl, rfl, by omega⟩ ⟨hew, ?_⟩))))))
  rw [splice_one hle]
  exact k
theorem r_store_rowk {t j r off sz size : Nat} {agg : Bool} {e : Option TypeId} {l vs : List Value} {cs : List AC} (hx : rdO (Fs i) S x = some (.g (.one (.ptr j r off)))) (hy : rdO (Fs i) S y = some b) (hl : find1 T.lay t = some (agg, size)) (hc : cellsOf b = some cs) (hp : pcs cs = some vs) (her : (Fs i).er j = true) (hG : S.G j = some (r, .row e sz l)) (hew : (Fs i).ew j = true) (hlen : Nat.beq vs.length size = true) (hle : off + size ≤ l.length)
    (k : runX Fs P T cf ops (i + 1) rest (S.lay j (some (r, .row e sz (splice l off vs)))) K) : runA Fs P T cf ops i ⟨none, .store t x y, ty, pos, af, g⟩ rest S K :=
  getO_of hx (getO_of hy (orFail_of hl (orFail_of hc (getE_of her hG (orFail_of hp (need_of ⟨rfl, Nat.eq_of_beq_eq_true hlen, hle⟩ ⟨hew, k⟩))))))
def rdPs (F : Ft) (S : St) : List (Nat × Operand) → Option (List (Nat × AV))
  | [] => some []
  | (n, x) :: l => match rdO F S x, rdPs F S l with
    | some a, some ls => some ((n, a) :: ls)
    | _, _ => none
theorem getPs_of : ∀ (l : List (Nat × Operand)) {k : List (Nat × AV) → AM} {ls : List (Nat × AV)}, rdPs F S l = some ls → (k ls).run F S K → (getPs l k).run F S K
  | [], k, ls, h, hk => by cases h; exact hk
  | (n, x) :: l, k, ls, h, hk => by
    simp only [rdPs] at h
    split at h
    · rename_i a ls' ha hls
      cases h
      exact getO_of ha (getPs_of l hls hk)
    · cases h
theorem r_build {t esz : Nat} {ps : Array (Nat × Operand)} {z : List Value} {places : Option (List (Nat × Nat))} {ls : List (Nat × AV)} {cs : List AC} (hp : rdPs (Fs i) S ps.toList = some ls) (hb : find1 T.bld t = some (z, places, esz)) (hf : fillA (placeOf places esz) (z.map .v) ls = some cs) (hw : (Fs i).sw d = true)
    (k : runX Fs P T cf ops (i + 1) rest (S.put d (some (.g (.agg cs)))) K) : runA Fs P T cf ops i ⟨some d, .build t ps, ty, pos, af, g⟩ rest S K :=
  getPs_of _ hp (orFail_of hb (orFail_of hf (putD_of hw k)))
theorem r_buildSlice {t n e sz by' r : Nat} {agg : Bool} {ps : Array (Nat × Operand)} {z l : List Value} {ls : List (Nat × AV)} {cs : List AC} (hp : rdPs (Fs i) S ps.toList = some ls) (he : find1 T.elt t = some (none, e, agg, sz, by')) (hz : find1 T.zer e = some z) (hf : fillA (fun i => some (i * sz, sz)) ((List.replicate n z).flatten.map .v) ls = some cs) (hl : pcs cs = some l) (hzl : Nat.beq z.length sz = true) (hb : Nat.ble (n * sz) 1000 = true) (hb2 : Nat.ble n 1000 = true)
    (hj : Nat.blt (nid d 0) 100000 = true) (her : (Fs i).er (nid d 0) = true) (hew : (Fs i).ew (nid d 0) = true) (hr : nver S (nid d 0) = r) (hw : (Fs i).sw d = true)
    (k : runX Fs P T cf ops (i + 1) rest ((S.lay (nid d 0) (some (r, .row (some e) sz l))).put d (some (.g (.one (.sl (nid d 0) r n))))) K) : runA Fs P T cf ops i ⟨some d, .buildSlice t n ps, ty, pos, af, g⟩ rest S K :=
  orFail_some (getPs_of _ hp (orFail_of he (orFail_of hz (orFail_of hf (orFail_of hl (need_of ⟨rfl, Nat.eq_of_beq_eq_true hzl, Nat.le_of_ble_eq_true hb, Nat.le_of_ble_eq_true hb2⟩ (lay1_of hj her hew hr (putD_of hw k))))))))
theorem r_makeSlice {t e sz by' r m : Nat} {agg : Bool} {z : List Value} {k1 k2 : IntKind} {n q : Int} (hx : rdV (Fs i) S x = some (.int k1 n)) (hy : rdV (Fs i) S y = some (.int k2 q)) (he : find1 T.elt t = some (none, e, agg, sz, by')) (hz : find1 T.zer e = some z) (hzl : Nat.beq z.length sz = true)
    (hj : Nat.blt (nid d 0) 100000 = true) (her : (Fs i).er (nid d 0) = true) (hew : (Fs i).ew (nid d 0) = true) (hr : nver S (nid d 0) = r) (hw : (Fs i).sw d = true) (hm : n = (m : Int)) (hnq : n ≤ q) (hq : q ≤ 9223372036854775807) (hby : (by' : Int) * q ≤ 281474976710656)
    (k : runX Fs P T cf ops (i + 1) rest ((S.lay (nid d 0) (some (r, .row (some e) sz (List.replicate m z).flatten))).put d (some (.g (.one (.sl (nid d 0) r m))))) K) : runA Fs P T cf ops i ⟨some d, .makeSlice t x y, ty, pos, af, g⟩ rest S K := by
  subst hm
  exact orFail_some (getV_of hx (getV_of hy (orFail_of he (orFail_of hz (need_of ⟨rfl, Nat.eq_of_beq_eq_true hzl, by omega, hnq, hq, hby⟩ (lay1_of hj her hew hr (putD_of hw (by simpa using k))))))))
theorem r_len_ro {t e sz n z by' : Nat} {agg : Bool} {l : List Value} (hx : rdO (Fs i) S x = some (.g (.one (.ro z n l)))) (he : find1 T.elt t = some (none, e, agg, sz, by')) (hw : (Fs i).sw d = true)
    (k : runX Fs P T cf ops (i + 1) rest (S.put d (some (vI n))) K) : runA Fs P T cf ops i ⟨some d, .call { callee := .builtin .len, args := #[x], argTypes := #[t] }, ty, pos, af, g⟩ rest S K :=
  getO_of hx (orFail_of he (need_of rfl (putD_of hw k)))
theorem r_len_nil {t e sz by' : Nat} {agg : Bool} (hx : rdO (Fs i) S x = some (.g (.one (.v (.slice none 0 0))))) (he : find1 T.elt t = some (none, e, agg, sz, by')) (hw : (Fs i).sw d = true)
    (k : runX Fs P T cf ops (i + 1) rest (S.put d (some (vI 0))) K) : runA Fs P T cf ops i ⟨some d, .call { callee := .builtin .len, args := #[x], argTypes := #[t] }, ty, pos, af, g⟩ rest S K :=
  getO_of hx (orFail_of he (need_of rfl (putD_of hw k)))
theorem r_len_sl {t e0 sz b' r n by' : Nat} {agg : Bool} {e : Ent} (hx : rdO (Fs i) S x = some (.g (.one (.sl b' r n)))) (he : find1 T.elt t = some (none, e0, agg, sz, by')) (her : (Fs i).er b' = true) (hG : S.G b' = some (r, e)) (hw : (Fs i).sw d = true)
    (k : runX Fs P T cf ops (i + 1) rest (S.put d (some (vI n))) K) : runA Fs P T cf ops i ⟨some d, .call { callee := .builtin .len, args := #[x], argTypes := #[t] }, ty, pos, af, g⟩ rest S K :=
  getO_of hx (orFail_of he (need_of rfl (getE_of her hG (need_of rfl (putD_of hw k)))))
/-- The elements of a slice, read: how many, which, and what must hold. -/
def rdSl (F : Ft) (S : St) (a : AV) (sz : Nat) : Option (Nat × List Value × Prop) := match a with
  | .g (.one (.ro z n l)) => some (n, l, z = sz)
  | .g (.one (.v (.slice none 0 0))) => some (0, [], True)
  | .g (.one (.sl j r n)) => bif F.er j then (match S.G j with
    | some (r', .row e z l) => some (n, l, r = r' ∧ z = sz ∧ 0 < z ∧ l.length = n * z)
    | some (r', .fro z l) => some (n, l, r = r' ∧ z = sz ∧ 0 < z ∧ l.length = n * z)
    | _ => none) else none
  | _ => none
theorem getSl_of {sz n : Nat} {l : List Value} {p : Prop} {k : Nat → List Value → AM} (h : rdSl F S a sz = some (n, l, p)) (hp : p) (hk : (k n l).run F S K) : (getSl a sz k).run F S K := by
  unfold rdSl at h
  split at h
  · cases h; exact ⟨hp, hk⟩
  · cases h; exact hk
  · rename_i j r n'
    cases hF : F.er j with
    | false => rw [hF] at h; cases h
    | true =>
      rw [hF] at h
      simp only [cond_true] at h
      refine ⟨hF, ?_⟩
      split at h
      · rename_i r' e z l' hG
        cases h
        rw [hG]; exact ⟨hp, hk⟩
      · rename_i r' z l' hG
        cases h
        rw [hG]; exact ⟨hp, hk⟩
      · cases h
  · cases h
theorem r_append {t e sz by' b' r n m : Nat} {agg : Bool} {z l news : List Value} {p : Prop} (hx : rdO (Fs i) S x = some (.g (.one (.sl b' r n)))) (hy : rdO (Fs i) S y = some b) (he : find1 T.elt t = some (none, e, agg, sz, by')) (hz : find1 T.zer e = some z) (hsl : rdSl (Fs i) S b sz = some (m, news, p)) (hzl : Nat.beq z.length sz = true)
    (her : (Fs i).er b' = true) (hG : S.G b' = some (r, .row (some e) sz l)) (hew : (Fs i).ew b' = true) (hw : (Fs i).sw d = true) (hp : p) (hle : l.length = n * sz) (h1 : n + m ≤ maxLen) (h2 : (n + m) * by' ≤ 140737488355328)
    (k : runX Fs P T cf ops (i + 1) rest ((S.lay b' (some (r + 1, .row (some e) sz (l ++ news)))).put d (some (.g (.one (.sl b' (r + 1) (n + m)))))) K) : runA Fs P T cf ops i ⟨some d, .call { callee := .builtin .append, args := #[x, y], argTypes := #[t, t] }, ty, pos, af, g⟩ rest S K := by
  refine getO_of hx (getO_of hy (orFail_of he (orFail_of hz (getSl_of hsl hp (need_of ⟨rfl, rfl, Nat.eq_of_beq_eq_true hzl⟩ (getE_of her hG (need_of ⟨rfl, rfl, rfl, by omega, h1, h2⟩ ⟨hew, putD_of hw ?_⟩)))))))
  rw [List.take_of_length_le (by omega)]
  exact k
theorem r_append_new {t e sz by' r m : Nat} {agg : Bool} {z news : List Value} {p : Prop} (hx : rdO (Fs i) S x = some (.g (.one (.v (.slice none 0 0))))) (hy : rdO (Fs i) S y = some b) (he : find1 T.elt t = some (none, e, agg, sz, by')) (hz : find1 T.zer e = some z) (hsl : rdSl (Fs i) S b sz = some (m, news, p)) (hzl : Nat.beq z.length sz = true)
    (hj : Nat.blt (nid d 0) 100000 = true) (her : (Fs i).er (nid d 0) = true) (hew : (Fs i).ew (nid d 0) = true) (hr : nver S (nid d 0) = r) (hw : (Fs i).sw d = true) (hp : p) (h1 : m ≤ maxLen) (h2 : m * by' ≤ 140737488355328)
    (k : runX Fs P T cf ops (i + 1) rest ((S.lay (nid d 0) (some (r, .row (some e) sz news))).put d (some (.g (.one (.sl (nid d 0) r m))))) K) : runA Fs P T cf ops i ⟨some d, .call { callee := .builtin .append, args := #[x, y], argTypes := #[t, t] }, ty, pos, af, g⟩ rest S K :=
  getO_of hx (getO_of hy (orFail_of he (orFail_of hz (getSl_of hsl hp (need_of ⟨rfl, rfl, Nat.eq_of_beq_eq_true hzl⟩ (orFail_some (need_of ⟨h1, h2⟩ (lay1_of hj her hew hr (putD_of hw k)))))))))
def rdL (F : Ft) (S : St) : List Operand → Option (List AV)
  | [] => some []
  | x :: l => match rdO F S x, rdL F S l with
    | some a, some ls => some (a :: ls)
    | _, _ => none
theorem getL_of : ∀ (l : List Operand) {k : List AV → AM} {ls : List AV}, rdL F S l = some ls → (k ls).run F S K → (getL l k).run F S K
  | [], k, ls, h, hk => by cases h; exact hk
  | x :: l, k, ls, h, hk => by
    simp only [rdL] at h
    split at h
    · rename_i a ls' ha hls
      cases h
      exact getO_of ha (getL_of l (k := fun ls => k (a :: ls)) hls hk)
    · cases h
/-- What is handed over: by reckoning. -/
def viewCf (F : Ft) (S : St) : AC → Option (AC × List Nat × Prop)
  | .sl j r n => bif F.er j then (match S.G j with
    | some (r', .row e z l) => some (.ro z n l, [j], r = r' ∧ 0 < z ∧ l.length = n * z)
    | some (r', .fro z l) => some (.ro z n l, [], r = r' ∧ 0 < z ∧ l.length = n * z)
    | _ => none) else none
  | .ptr _ _ _ => none
  | .fn f c => some (.fn f [], [], c = [])
  | c => some (c, [], True)
def viewLf (F : Ft) (S : St) : List AC → Option (List AC × List Nat × Prop)
  | [] => some ([], [], True)
  | c :: cs => match viewCf F S c, viewLf F S cs with
    | some (c', v, p), some (cs', v', q) => some (c' :: cs', v ++ v', p ∧ q)
    | _, _ => none
theorem viewC_of {c' : AC} {v : List Nat} {p : Prop} {c : AC} {k : AC → List Nat → AM} (h : viewCf F S c = some (c', v, p)) (hp : p) (hk : (k c' v).run F S K) : (viewC c k).run F S K := by
  cases c with
  | sl j r n =>
    simp only [viewCf] at h
    cases hF : F.er j with
    | false => rw [hF] at h; cases h
    | true =>
      rw [hF] at h
      simp only [cond_true] at h
      refine ⟨hF, ?_⟩
      split at h
      · rename_i r' e z l' hG
        cases h
        rw [hG]; exact ⟨hp, hk⟩
      · rename_i r' z l' hG
        cases h
        rw [hG]; exact ⟨hp, hk⟩
      · cases h
  | ptr j r o => cases h
  | fn f c => cases h; exact ⟨hp, hk⟩
  | v x => cases h; exact hk
  | ro sz n l => cases h; exact hk
  | rp l => cases h; exact hk
theorem viewL_of : ∀ (cs : List AC) {cs' : List AC} {v : List Nat} {p : Prop} {k : List AC → List Nat → AM}, viewLf F S cs = some (cs', v, p) → p → (k cs' v).run F S K → (viewL cs k).run F S K
  | [], cs', v, p, k, h, hp, hk => by cases h; exact hk
  | c :: cs, cs', v, p, k, h, hp, hk => by
    simp only [viewLf] at h
    split at h
    · rename_i c1 v1 p1 cs1 v2 p2 h1 h2
      cases h
      exact viewC_of h1 hp.1 (viewL_of cs h2 hp.2 hk)
    · cases h
abbrev Hd := List (Nat × Nat) × List Ent × List Nat × Prop
def refPf (F : Ft) (S : St) (wr : Bool) (j r : Nat) (ids : List (Nat × Nat)) (es : List Ent) (vw : List Nat) : Option (Nat × Hd) :=
  bif F.er j then (match S.G j with
    | some (r', .box cs) => bif wr then (bif cs.all (AC.on fun _ => false) then some (ids.length, ids ++ [(j, r)], es ++ [.box cs], vw, r = r') else none)
        else (match viewLf F S cs with
          | some (cs', v, p) => some (ids.length, ids ++ [(j, r)], es ++ [.rbx cs'], vw ++ v, r = r' ∧ p)
          | none => none)
    | some (r', .rbx cs) => bif wr then none else (match viewLf F S cs with
          | some (cs', v, p) => some (ids.length, ids ++ [(j, r)], es ++ [.rbx cs'], vw ++ v, r = r' ∧ p)
          | none => none)
    | _ => none) else none
theorem refP_of {wr : Bool} {j r n : Nat} {ids ids' : List (Nat × Nat)} {es es' : List Ent} {vw vw' : List Nat} {q : Prop} {k : Nat → List (Nat × Nat) → List Ent → List Nat → AM} (h : refPf F S wr j r ids es vw = some (n, ids', es', vw', q)) (hq : q) (hk : (k n ids' es' vw').run F S K) : (refP wr j r ids es vw k).run F S K := by
  simp only [refPf] at h
  cases hF : F.er j with
  | false => rw [hF] at h; cases h
  | true =>
    rw [hF] at h
    simp only [cond_true] at h
    refine ⟨hF, ?_⟩
    split at h
    · rename_i r' cs hG
      rw [hG]
      cases wr with
      | true =>
        simp only [cond_true] at h
        cases hc : cs.all (AC.on fun _ => false) with
        | false => rw [hc] at h; cases h
        | true => rw [hc] at h; simp only [cond_true] at h; cases h; exact ⟨hq, hc, hk⟩
      | false =>
        simp only [cond_false] at h
        split at h
        · rename_i cs' v p hv
          cases h
          exact ⟨hq.1, viewL_of cs hv hq.2 hk⟩
        · cases h
    · rename_i r' cs hG
      rw [hG]
      cases wr with
      | true => cases h
      | false =>
        simp only [cond_false] at h
        split at h
        · rename_i cs' v p hv
          cases h
          exact ⟨⟨hq.1, rfl⟩, viewL_of cs hv hq.2 hk⟩
        · cases h
    · cases h
def refLf (F : Ft) (S : St) (wr : Bool) : List (Nat × Nat) → List (Nat × Nat) → List Ent → List Nat → Option (List (Nat × Nat) × Hd)
  | [], ids, es, vw => some ([], ids, es, vw, True)
  | p :: ps, ids, es, vw => match refPf F S wr p.1 p.2 ids es vw with
    | some (n, ids1, es1, vw1, q1) => match refLf F S wr ps ids1 es1 vw1 with
      | some (ps', ids2, es2, vw2, q2) => some ((100000 + n, 0) :: ps', ids2, es2, vw2, q1 ∧ q2)
      | none => none
    | none => none
theorem refL_of {wr : Bool} : ∀ (ps : List (Nat × Nat)) {ps' ids ids' : List (Nat × Nat)} {es es' : List Ent} {vw vw' : List Nat} {q : Prop} {k : List (Nat × Nat) → List (Nat × Nat) → List Ent → List Nat → AM}, refLf F S wr ps ids es vw = some (ps', ids', es', vw', q) → q → (k ps' ids' es' vw').run F S K → (refL wr ps ids es vw k).run F S K
  | [], ps', ids, ids', es, es', vw, vw', q, k, h, hq, hk => by cases h; exact hk
  | p :: ps, ps', ids, ids', es, es', vw, vw', q, k, h, hq, hk => by
    simp only [refLf] at h
    split at h
    · rename_i n ids1 es1 vw1 q1 h1
      split at h
      · rename_i ps1 ids2 es2 vw2 q2 h2
        cases h
        exact refP_of h1 hq.1 (refL_of ps (k := fun ps' ids es vw => k ((100000 + n, 0) :: ps') ids es vw) h2 hq.2 hk)
      · cases h
    · cases h
def handLf (F : Ft) (S : St) : List AC → List (Nat × Nat) → List Ent → Option (List AC × List (Nat × Nat) × List Ent × Prop)
  | [], ids, es => some ([], ids, es, True)
  | .sl j r n :: cs, ids, es => bif F.er j then (match S.G j with
    | some (r', .row e z l) => match handLf F S cs (ids ++ [(j, r)]) (es ++ [.row e z l]) with
      | some (cs', ids', es', q) => some (.sl (100000 + ids.length) 0 n :: cs', ids', es', (r = r' ∧ l.length = n * z ∧ 0 < z) ∧ q)
      | none => none
    | _ => none) else none
  | .v x :: cs, ids, es => match handLf F S cs ids es with
      | some (cs', ids', es', q) => some (.v x :: cs', ids', es', q)
      | none => none
  | .ro z n l :: cs, ids, es => match handLf F S cs ids es with
      | some (cs', ids', es', q) => some (.ro z n l :: cs', ids', es', q)
      | none => none
  | _ :: _, _, _ => none
theorem handL_of : ∀ (cs : List AC) {cs' : List AC} {ids ids' : List (Nat × Nat)} {es es' : List Ent} {q : Prop} {k : List AC → List (Nat × Nat) → List Ent → AM}, handLf F S cs ids es = some (cs', ids', es', q) → q → (k cs' ids' es').run F S K → (handL cs ids es k).run F S K
  | [], cs', ids, ids', es, es', q, k, h, hq, hk => by cases h; exact hk
  | .sl j r n :: cs, cs', ids, ids', es, es', q, k, h, hq, hk => by
    simp only [handLf] at h
    cases hF : F.er j with
    | false => rw [hF] at h; cases h
    | true =>
      rw [hF] at h
      simp only [cond_true] at h
      refine ⟨hF, ?_⟩
      split at h
      · rename_i r' e z l hG
        rw [hG]
        split at h
        · rename_i cs1 ids1 es1 q1 h1
          cases h
          exact ⟨hq.1, handL_of cs (k := fun cs' ids' es' => k (.sl (100000 + ids.length) 0 n :: cs') ids' es') h1 hq.2 hk⟩
        · cases h
      · cases h
  | .v x :: cs, cs', ids, ids', es, es', q, k, h, hq, hk => by
    simp only [handLf] at h
    split at h
    · rename_i cs1 ids1 es1 q1 h1
      cases h
      exact handL_of cs (k := fun cs' ids' es' => k (.v x :: cs') ids' es') h1 hq hk
    · cases h
  | .ro z n l :: cs, cs', ids, ids', es, es', q, k, h, hq, hk => by
    simp only [handLf] at h
    split at h
    · rename_i cs1 ids1 es1 q1 h1
      cases h
      exact handL_of cs (k := fun cs' ids' es' => k (.ro z n l :: cs') ids' es') h1 hq hk
    · cases h
  | .ptr _ _ _ :: cs, cs', ids, ids', es, es', q, k, h, hq, hk => by cases h
  | .rp _ :: cs, cs', ids, ids', es, es', q, k, h, hq, hk => by cases h
  | .fn _ _ :: cs, cs', ids, ids', es, es', q, k, h, hq, hk => by cases h
def nrmAf (F : Ft) (S : St) (wr : Bool) (a : AV) (ids : List (Nat × Nat)) (es : List Ent) (vw : List Nat) : Option (AV × Hd) := match a with
  | .g (.one (.ptr j r o)) => match o with
    | 0 => match refPf F S wr j r ids es vw with
      | some (n, h) => some (.g (.one (.ptr (100000 + n) 0 0)), h)
      | none => none
    | _ + 1 => none
  | .g (.one (.fn f caps)) => match refLf F S wr caps ids es vw with
    | some (caps', h) => some (.g (.one (.fn f caps')), h)
    | none => none
  | .g (.one (.sl j r n)) => bif wr then (bif F.er j then (match S.G j with
      | some (r', .row e z l) => some (.g (.one (.sl (100000 + ids.length) 0 n)), ids ++ [(j, r)], es ++ [.row e z l], vw, r = r' ∧ l.length = n * z ∧ 0 < z)
      | _ => none) else none)
    else (match viewCf F S (.sl j r n) with
      | some (c', v, p) => some (.g (.one c'), ids, es, vw ++ v, p)
      | none => none)
  | .g (.one c) => match viewCf F S c with
      | some (c', v, p) => some (.g (.one c'), ids, es, vw ++ v, p)
      | none => none
  | .g (.agg cs) => bif wr then (match handLf F S cs ids es with
      | some (cs', ids', es', q) => some (.g (.agg cs'), ids', es', vw, q)
      | none => none) else (match viewLf F S cs with
      | some (cs', v, p) => some (.g (.agg cs'), ids, es, vw ++ v, p)
      | none => none)
  | .tup _ => none
theorem nrmA_of {wr : Bool} {a' : AV} {ids ids' : List (Nat × Nat)} {es es' : List Ent} {vw vw' : List Nat} {q : Prop} {k : AV → List (Nat × Nat) → List Ent → List Nat → AM} (h : nrmAf F S wr a ids es vw = some (a', ids', es', vw', q)) (hq : q) (hk : (k a' ids' es' vw').run F S K) : (nrmA wr a ids es vw k).run F S K := by
  have hview : ∀ {c : AC}, (match viewCf F S c with
      | some (c', v, p) => some ((.g (.one c') : AV), ids, es, vw ++ v, p)
      | none => none) = some (a', ids', es', vw', q) → (viewC c fun c' v => k (.g (.one c')) ids es (vw ++ v)).run F S K := by
    intro c h
    split at h
    · rename_i c' v p hv
      cases h
      exact viewC_of hv hq hk
    · cases h
  match a, h with
  | .g (.one (.ptr j r 0)), h =>
    simp only [nrmAf] at h
    split at h
    · rename_i n h' h1
      cases h
      exact ⟨rfl, refP_of h1 hq hk⟩
    · cases h
  | .g (.one (.fn f caps)), h =>
    simp only [nrmAf] at h
    split at h
    · rename_i caps' h' h1
      cases h
      exact refL_of caps (k := fun caps' ids es vw => k (.g (.one (.fn f caps'))) ids es vw) h1 hq hk
    · cases h
  | .g (.one (.sl j r n)), h =>
    simp only [nrmAf] at h
    cases wr with
    | false => exact hview h
    | true =>
      simp only [cond_true] at h
      cases hF : F.er j with
      | false => rw [hF] at h; cases h
      | true =>
        rw [hF] at h
        simp only [cond_true] at h
        refine ⟨hF, ?_⟩
        split at h
        · rename_i r' e z l hG
          cases h
          rw [hG]; exact ⟨hq, hk⟩
        · cases h
  | .g (.one (.v x)), h => exact hview (c := .v x) h
  | .g (.one (.ro z n l)), h => exact hview (c := .ro z n l) h
  | .g (.one (.rp l)), h => exact hview (c := .rp l) h
  | .g (.agg cs), h =>
    simp only [nrmAf] at h
    cases wr with
    | true =>
      simp only [cond_true] at h
      split at h
      · rename_i cs' ids1 es1 q1 hv
        cases h
        exact handL_of cs (k := fun cs' ids es => k (.g (.agg cs')) ids es vw) hv hq hk
      · cases h
    | false =>
      simp only [cond_false] at h
      split at h
      · rename_i cs' v p hv
        cases h
        exact viewL_of cs hv hq hk
      · cases h
def nrmLf (F : Ft) (S : St) (wr : Nat → Bool) : Nat → List AV → List (Nat × Nat) → List Ent → List Nat → Option (List AV × Hd)
  | _, [], ids, es, vw => some ([], ids, es, vw, True)
  | p, a :: l, ids, es, vw => match nrmAf F S (wr p) a ids es vw with
    | some (a', ids1, es1, vw1, q1) => match nrmLf F S wr (p + 1) l ids1 es1 vw1 with
      | some (l', ids2, es2, vw2, q2) => some (a' :: l', ids2, es2, vw2, q1 ∧ q2)
      | none => none
    | none => none
theorem nrmL_of {wr : Nat → Bool} : ∀ (l : List AV) {p : Nat} {l' : List AV} {ids ids' : List (Nat × Nat)} {es es' : List Ent} {vw vw' : List Nat} {q : Prop} {k : List AV → List (Nat × Nat) → List Ent → List Nat → AM}, nrmLf F S wr p l ids es vw = some (l', ids', es', vw', q) → q → (k l' ids' es' vw').run F S K → (nrmL wr p l ids es vw k).run F S K
  | [], p, l', ids, ids', es, es', vw, vw', q, k, h, hq, hk => by cases h; exact hk
  | a :: l, p, l', ids, ids', es, es', vw, vw', q, k, h, hq, hk => by
    simp only [nrmLf] at h
    split at h
    · rename_i a' ids1 es1 vw1 q1 h1
      split at h
      · rename_i l1 ids2 es2 vw2 q2 h2
        cases h
        exact nrmA_of h1 hq.1 (nrmL_of l (k := fun l' ids es vw => k (a' :: l') ids es vw) h2 hq.2 hk)
      · cases h
    · cases h
/-- Blocks written back, by reckoning. -/
def backF (F : Ft) (S : St) : List (Nat × Nat) → List Ent → List Ent → Option St
  | (j, r) :: ids, .box _ :: es, .box cs' :: es' => bif F.ew j then backF F (S.lay j (some (r, .box cs'))) ids es es' else none
  | (j, r) :: ids, .row _ _ _ :: es, .row e' z' l' :: es' => bif F.ew j then backF F (S.lay j (some (r, .row e' z' l'))) ids es es' else none
  | _ :: ids, .rbx _ :: es, _ :: es' => backF F S ids es es'
  | [], [], [] => some S
  | _, _, _ => none
theorem backL_of : ∀ (ids : List (Nat × Nat)) (es es' : List Ent) {S S' : St} {k : AM}, backF F S ids es es' = some S' → k.run F S' K → (backL ids es es' k).run F S K
  | [], [], [], S, S', k, h, hk => by cases h; exact hk
  | (j, r) :: ids, .box _ :: es, .box cs' :: es', S, S', k, h, hk => by
    simp only [backF] at h
    cases hF : F.ew j <;> simp only [hF, cond_true, cond_false] at h
    · cases h
    · exact ⟨hF, backL_of ids es es' h hk⟩
  | (j, r) :: ids, .row _ _ _ :: es, .row e' z' l' :: es', S, S', k, h, hk => by
    simp only [backF] at h
    cases hF : F.ew j <;> simp only [hF, cond_true, cond_false] at h
    · cases h
    · exact ⟨hF, backL_of ids es es' h hk⟩
  | _ :: ids, .rbx _ :: es, _ :: es', S, S', k, h, hk => backL_of ids es es' h hk
  | [], [], _ :: _, S, S', k, h, hk => by cases h
  | [], _ :: _, _, S, S', k, h, hk => by cases h
  | _ :: _, [], _, S, S', k, h, hk => by cases h
  | _ :: _, .fro _ _ :: _, _, S, S', k, h, hk => by cases h
  | _ :: _, .box _ :: _, [], S, S', k, h, hk => by cases h
  | _ :: _, .row _ _ _ :: _, [], S, S', k, h, hk => by cases h
  | _ :: _, .rbx _ :: _, [], S, S', k, h, hk => by cases h
  | _ :: _, .box _ :: _, .row _ _ _ :: _, S, S', k, h, hk => by cases h
  | _ :: _, .box _ :: _, .fro _ _ :: _, S, S', k, h, hk => by cases h
  | _ :: _, .box _ :: _, .rbx _ :: _, S, S', k, h, hk => by cases h
  | _ :: _, .row _ _ _ :: _, .box _ :: _, S, S', k, h, hk => by cases h
  | _ :: _, .row _ _ _ :: _, .fro _ _ :: _, S, S', k, h, hk => by cases h
  | _ :: _, .row _ _ _ :: _, .rbx _ :: _, S, S', k, h, hk => by cases h
def Ent.liveB : Ent → Bool
  | .fro _ _ => false
  | .rbx _ => false
  | _ => true
theorem liveB_live {e : Ent} (h : e.liveB = true) : e.live := by cases e <;> first | trivial | cases h
def newF (F : Ft) (d : Nat) : Nat → List Ent → St → Option (List Nat × St)
  | _, [], S => some ([], S)
  | j, e :: es, S => bif e.liveB && e.on (fun _ => false) && Nat.blt j 16 && Nat.blt (nid d j) 100000 && F.er (nid d j) && F.ew (nid d j) then
      (match newF F d (j + 1) es (S.lay (nid d j) (some (nver S (nid d j), e))) with
        | some (rs, S') => some (nver S (nid d j) :: rs, S')
        | none => none) else none
theorem newL_of {d : Nat} : ∀ (es : List Ent) {j : Nat} {S S' : St} {rs : List Nat} {k : List Nat → AM}, newF F d j es S = some (rs, S') → (k rs).run F S' K → (newL d j es k).run F S K
  | [], j, S, S', rs, k, h, hk => by cases h; exact hk
  | e :: es, j, S, S', rs, k, h, hk => by
    simp only [newF] at h
    cases hc : (e.liveB && e.on (fun _ => false) && Nat.blt j 16 && Nat.blt (nid d j) 100000 && F.er (nid d j) && F.ew (nid d j)) with
    | false => rw [hc] at h; cases h
    | true =>
      rw [hc] at h
      simp only [cond_true] at h
      simp only [Bool.and_eq_true] at hc
      obtain ⟨⟨⟨⟨⟨c1, c2⟩, c3⟩, c4⟩, c5⟩, c6⟩ := hc
      split at h
      · rename_i rs' S1 h1
        cases h
        exact ⟨⟨liveB_live c1, c2, blt_lt c3⟩, lay1_of c4 c5 c6 rfl (newL_of es h1 hk)⟩
      · cases h
/-- Blocks only read from now on, by reckoning. -/
def frzF (F : Ft) : List AC → St → Option St
  | [], S => some S
  | .sl j r n :: cs, S => bif F.er j then (match S.G j with
    | some (r', .row e z l) => bif Nat.blt j 100000 && F.ew j then frzF F cs (S.lay j (some (r', .fro z l))) else none
    | _ => frzF F cs S) else none
  | _ :: cs, S => frzF F cs S
theorem frzL_of : ∀ (cs : List AC) {S S' : St} {k : AM}, frzF F cs S = some S' → k.run F S' K → (frzL cs k).run F S K
  | [], S, S', k, h, hk => by cases h; exact hk
  | .sl j r n :: cs, S, S', k, h, hk => by
    simp only [frzF] at h
    cases hF : F.er j with
    | false => rw [hF] at h; cases h
    | true =>
      rw [hF] at h
      simp only [cond_true] at h
      refine ⟨hF, ?_⟩
      split at h
      · rename_i r' e z l hG
        rw [hG]
        cases hc : (Nat.blt j 100000 && F.ew j) with
        | false => rw [hc] at h; cases h
        | true =>
          rw [hc] at h
          simp only [cond_true] at h
          simp only [Bool.and_eq_true] at hc
          exact ⟨blt_lt hc.1, hc.2, frzL_of cs h hk⟩
      · rename_i hne
        dsimp only
        split
        · rename_i r' e z l hG
          exact absurd hG (hne r' e z l)
        · exact frzL_of cs h hk
  | .v x :: cs, S, S', k, h, hk => frzL_of cs h hk
  | .ro _ _ _ :: cs, S, S', k, h, hk => frzL_of cs h hk
  | .ptr _ _ _ :: cs, S, S', k, h, hk => frzL_of cs h hk
  | .rp _ :: cs, S, S', k, h, hk => frzL_of cs h hk
  | .fn _ _ :: cs, S, S', k, h, hk => frzL_of cs h hk
/-- The calls of a list of contracts. -/
abbrev CfL := List (Nat × (Fn3 × List Nat × Bool))
def cfOf (l : CfL) (f : FuncId) : Option (List AV → Option Tmp → AM) := match find1 l f with
  | some (C, ws, al) => some (callM C (fun p => ws.any (Nat.beq p)) al)
  | none => none
theorem cfOf_ok {l : CfL} (h : ∀ p ∈ l, ConOk P p.1 p.2.1) : ∀ f m, cfOf l f = some m → GoodCall P f m := by
  intro f m hm
  unfold cfOf at hm
  split at hm
  · rename_i C ws al hf
    cases hm
    exact good_of_con (h _ (find1_mem hf)) _ _
  · cases hm
def resV (x : AV) (ids : List (Nat × Nat)) (rs : List Nat) (d : Nat) : AV := x.ren fun i => if 100000 ≤ i then (ids[i - 100000]?).getD (0, 0) else (nid d i, (rs[i]?).getD 0)
/-- Decidable parts of a call's conditions. -/
def callB (ids : List (Nat × Nat)) (vw : List Nat) (al : Bool) (d : Nat) : Bool := decide ((ids.map (·.1)).Nodup) && vw.all (fun i => !(ids.map (·.1)).contains i) && (!al || vw.isEmpty) && (ids.map (·.1)).all (fun i => !Nat.beq (i / 16) d)
def roB (al : Bool) (out : AV) (news es' : List Ent) : Bool := al || (out.noro && news.all Ent.noro && es'.all (fun e => match e with | .rbx _ => true | e => e.noro))
theorem call_of {C : Fn3} {wr : Nat → Bool} {al : Bool} {dst : Option Tmp} {aa args' : List AV} {ids : List (Nat × Nat)} {es news es' : List Ent} {vw : List Nat} {q : Prop} {out : AV} {S1 S2 S3 : St} {rs : List Nat}
    (hfz : (bif al then frzF F (cellsL aa) S else some S) = some S1) (hn : nrmLf F S1 wr 0 aa [] [] [] = some (args', ids, es, vw, q)) (hB : callB ids vw al (dst.getD 0) = true) (hC : C args' es = some (out, news, es')) (hro : roB al out news es' = true) (hdn : (news.isEmpty || dst.isSome) = true)
    (hbk : backF F S1 ids es es' = some S2) (hnw : newF F (dst.getD 0) 0 news S2 = some (rs, S3)) (hq : q) (hk : (putD dst (resV out ids rs (dst.getD 0))).run F S3 K) : (callM C wr al aa dst).run F S K := by
  simp only [callB, Bool.and_eq_true, decide_eq_true_eq] at hB
  obtain ⟨⟨⟨b1, b2⟩, b3⟩, b4⟩ := hB
  have h1 : (nrmL wr 0 aa [] [] [] fun args' ids es vw => .need ((ids.map (·.1)).Nodup ∧ (∀ i ∈ vw, i ∉ ids.map (·.1)) ∧ (al = true → vw = []) ∧ (∀ i ∈ ids.map (·.1), i / 16 ≠ dst.getD 0)) <|
      orFail (C args' es) fun (out, news, es') => .need (al = true ∨ (out.noro = true ∧ news.all Ent.noro = true ∧ (es'.all fun e => match e with | .rbx _ => true | e => e.noro) = true)) <|
      .need (news = [] ∨ dst.isSome = true) <|
      backL ids es es' <| newL (dst.getD 0) 0 news fun rs => callM.putD' dst (out.ren fun i => if 100000 ≤ i then (ids[i - 100000]?).getD (0, 0) else (nid (dst.getD 0) i, (rs[i]?).getD 0))).run F S1 K := by
    refine nrmL_of aa hn hq (need_of ⟨b1, fun i hi => ?_, fun ha => ?_, fun i hi => ?_⟩ (orFail_of hC (need_of ?_ (need_of ?_ (backL_of ids es es' hbk (newL_of news hnw hk))))))
    · have := (List.all_eq_true.1 b2) i hi
      simpa using this
    · subst ha
      simpa using b3
    · have := (List.all_eq_true.1 b4) i hi
      intro he
      rw [he] at this
      simp [Nat.beq_refl] at this
    · simp only [roB, Bool.or_eq_true, Bool.and_eq_true] at hro
      exact hro.imp id fun h => ⟨h.1.1, h.1.2, h.2⟩
    · simp only [Bool.or_eq_true, List.isEmpty_iff] at hdn
      exact hdn
  unfold callM
  cases al with
  | false => cases hfz; exact h1
  | true => exact frzL_of _ hfz h1
/-- A call of a function. -/
theorem r_call {l : CfL} {f : FuncId} {C : Fn3} {ws : List Nat} {al : Bool} {args : Array Operand} {ts : Array TypeId} {aa args' : List AV} {ids : List (Nat × Nat)} {es news es' : List Ent} {vw : List Nat} {q : Prop} {out : AV} {S1 S2 S3 : St} {rs : List Nat} {v : AV}
    (hf : find1 l f = some (C, ws, al)) (ha : rdL (Fs i) S args.toList = some aa) (hfz : (bif al then frzF (Fs i) (cellsL aa) S else some S) = some S1) (hn : nrmLf (Fs i) S1 (fun p => ws.any (Nat.beq p)) 0 aa [] [] [] = some (args', ids, es, vw, q)) (hB : callB ids vw al d = true) (hC : C args' es = some (out, news, es')) (hro : roB al out news es' = true)
    (hbk : backF (Fs i) S1 ids es es' = some S2) (hnw : newF (Fs i) d 0 news S2 = some (rs, S3)) (hv : resV out ids rs d = v) (hw : (Fs i).sw d = true) (hq : q) (k : runX Fs P T (cfOf l) ops (i + 1) rest (S3.put d (some v)) K) :
    runA Fs P T (cfOf l) ops i ⟨some d, .call { callee := .value (.func f), args := args, argTypes := ts }, ty, pos, af, g⟩ rest S K := by
  subst hv
  have h : (getL args.toList fun ls => orFail (cfOf l f) fun m => m (ls ++ List.map (fun p => (.g (.one (.ptr p.1 p.2 0)) : AV)) ([] : List (Nat × Nat))) (some d)).run (Fs i) S (fun S' => runX Fs P T (cfOf l) ops (i + 1) rest S' K) := by
    refine getL_of _ ha (orFail_of (a := callM C (fun p => ws.any (Nat.beq p)) al) (by unfold cfOf; rw [hf]) ?_)
    rw [List.map_nil, List.append_nil]
    exact call_of (dst := some d) hfz hn hB hC hro (by simp) hbk hnw hq (putD_of hw k)
  exact h
theorem r_makeFunc {f : FuncId} {first caps : Array Operand} {aa : List AV} {ps : List (Nat × Nat)} (h0 : Nat.beq first.size 0 = true) (ha : rdL (Fs i) S caps.toList = some aa) (hp : ptrsOf aa = some ps) (hw : (Fs i).sw d = true) (k : runX Fs P T cf ops (i + 1) rest (S.put d (some (.g (.one (.fn f ps))))) K) :
    runA Fs P T cf ops i ⟨some d, .makeFunc (.func f) first caps, ty, pos, af, g⟩ rest S K :=
  need_of (Nat.eq_of_beq_eq_true h0) (getL_of _ ha (orFail_of hp (putD_of hw k)))
/-- The call of a function in a variable. -/
theorem r_callV {l : CfL} {c : Operand} {caps : List (Nat × Nat)} {f : FuncId} {C : Fn3} {ws : List Nat} {al : Bool} {args : Array Operand} {ts : Array TypeId} {aa args' : List AV} {ids : List (Nat × Nat)} {es news es' : List Ent} {vw : List Nat} {q : Prop} {out : AV} {S1 S2 S3 : St} {rs : List Nat} {v : AV}
    (hc : rdO (Fs i) S c = some (.g (.one (.fn f caps)))) (hf : find1 l f = some (C, ws, al)) (ha : rdL (Fs i) S args.toList = some aa) (hfz : (bif al then frzF (Fs i) (cellsL (aa ++ caps.map fun p => .g (.one (.ptr p.1 p.2 0)))) S else some S) = some S1) (hn : nrmLf (Fs i) S1 (fun p => ws.any (Nat.beq p)) 0 (aa ++ caps.map fun p => .g (.one (.ptr p.1 p.2 0))) [] [] [] = some (args', ids, es, vw, q)) (hB : callB ids vw al d = true) (hC : C args' es = some (out, news, es')) (hro : roB al out news es' = true)
    (hbk : backF (Fs i) S1 ids es es' = some S2) (hnw : newF (Fs i) d 0 news S2 = some (rs, S3)) (hv : resV out ids rs d = v) (hw : (Fs i).sw d = true) (hq : q) (k : runX Fs P T (cfOf l) ops (i + 1) rest (S3.put d (some v)) K) :
    runA Fs P T (cfOf l) ops i ⟨some d, .call { callee := .value c, args := args, argTypes := ts }, ty, pos, af, g⟩ rest S K := by
  subst hv
  refine getO_of (k := fun a => match a with
      | .g (.one (.fn f caps)) => getL args.toList fun as => orFail (cfOf l f) fun m => m (as ++ caps.map fun p => .g (.one (.ptr p.1 p.2 0))) (some d)
      | _ => .fail) hc ?_
  refine getL_of _ ha (orFail_of (a := callM C (fun p => ws.any (Nat.beq p)) al) (by unfold cfOf; rw [hf]) ?_)
  exact call_of (dst := some d) hfz hn hB hC hro (by simp) hbk hnw hq (putD_of hw k)
end
end Go.Proofs.Ytgifhhefcmmdfaa
