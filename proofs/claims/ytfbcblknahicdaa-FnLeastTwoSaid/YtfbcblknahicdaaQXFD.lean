/- AbsR, AbsS, AbsT, AbsU, AbsV, AbsW: laid into one text. -/
import Derived.Test.YtfbcblknahicdaaQXFC
import Derived.Below

namespace Go.Proofs.Ytfbcblknahicdaa
set_option linter.unusedVariables false
open Go.RowKit
section
variable {P : Program} {T : Tab} {cf : FuncId → Option (List AV → Option Tmp → AM)} {F : Ft} {Fs : Nat → Ft} {i : Nat} {rest : List Oper} {S : St} {K : St → Prop} {ops : Array Oper} {d : Tmp} {x y c : Operand} {a b : AV} {ty : TypeId} {pos : String} {af : Array Edge} {g : Option (Nat × Bool)}
theorem blt_lt {m n : Nat} (h : Nat.blt m n = true) : m < n := by rwa [Nat.blt_eq] at h
theorem orFail_some {α : Type _} {k : α → AM} {a : α} (hk : (k a).run F S K) : (orFail (some a) k).run F S K := hk
theorem orFail_of {α : Type _} {o : Option α} {k : α → AM} {a : α} (h : o = some a) (hk : (k a).run F S K) : (orFail o k).run F S K := by subst h; exact hk
theorem getE_of {j : Nat} {k : Option (Nat × Ent) → AM} {e : Option (Nat × Ent)} (hF : F.er j = true) (h : S.G j = e) (hk : (k e).run F S K) : (AM.getE j k).run F S K := ⟨hF, by rw [h]; exact hk⟩
theorem need_of {p : Prop} {k : AM} (h : p) (hk : k.run F S K) : (AM.need p k).run F S K := ⟨h, hk⟩
def nver (S : St) (j : Nat) : Nat := match S.G j with
  | none => 0
  | some (r, _) => r + 1
theorem lay1_of {j r : Nat} {e : Ent} {k : Nat → AM} (hj : Nat.blt j 100000 = true) (her : F.er j = true) (hew : F.ew j = true) (hr : nver S j = r) (hk : (k r).run F (S.lay j (some (r, e))) K) : (lay1 j e k).run F S K := by
  refine ⟨blt_lt hj, her, ?_⟩
  unfold nver at hr
  cases hG : S.G j with
  | none => rw [hG] at hr; subst hr; exact ⟨hew, hk⟩
  | some p => obtain ⟨r0, e0⟩ := p; rw [hG] at hr; subst hr; exact ⟨hew, hk⟩
theorem r_load_box {t : TypeId} {j r off size : Nat} {agg : Bool} {cs : List AC} {v : AV} (hx : rdO (Fs i) S x = some (.g (.one (.ptr j r off)))) (hl : find1 T.lay t = some (agg, size)) (her : (Fs i).er j = true) (hG : S.G j = some (r, .box cs)) (hle : Nat.ble (off + size) cs.length = true) (hv : ofa agg ((cs.drop off).take size) = some v) (hw : (Fs i).sw d = true)
    (k : runX Fs P T cf ops (i + 1) rest (S.put d (some v)) K) : runA Fs P T cf ops i ⟨some d, .load t x, ty, pos, af, g⟩ rest S K :=
  getO_of hx (orFail_of hl (getE_of her hG (need_of ⟨rfl, Nat.le_of_ble_eq_true hle⟩ (orFail_of hv (putD_of hw k)))))
theorem r_load_rbx {t : TypeId} {j r off size : Nat} {agg : Bool} {cs : List AC} {v : AV} (hx : rdO (Fs i) S x = some (.g (.one (.ptr j r off)))) (hl : find1 T.lay t = some (agg, size)) (her : (Fs i).er j = true) (hG : S.G j = some (r, .rbx cs)) (hle : Nat.ble (off + size) cs.length = true) (hv : ofa agg ((cs.drop off).take size) = some v) (hw : (Fs i).sw d = true)
    (k : runX Fs P T cf ops (i + 1) rest (S.put d (some v)) K) : runA Fs P T cf ops i ⟨some d, .load t x, ty, pos, af, g⟩ rest S K :=
  getO_of hx (orFail_of hl (getE_of her hG (need_of ⟨rfl, Nat.le_of_ble_eq_true hle⟩ (orFail_of hv (putD_of hw k)))))
theorem r_fieldAddr {s f j r o off size : Nat} {agg : Bool} {e : Ent} (hx : rdO (Fs i) S x = some (.g (.one (.ptr j r o)))) (hf : find1 T.fld (s * 1000 + f) = some (off, agg, size)) (hf2 : Nat.blt f 1000 = true) (her : (Fs i).er j = true) (hG : S.G j = some (r, e)) (hw : (Fs i).sw d = true)
    (k : runX Fs P T cf ops (i + 1) rest (S.put d (some (.g (.one (.ptr j r (o + off)))))) K) : runA Fs P T cf ops i ⟨some d, .fieldAddr s x f, ty, pos, af, g⟩ rest S K :=
  getO_of hx (orFail_of hf (need_of (blt_lt hf2) (getE_of her hG (need_of rfl (putD_of hw k)))))
theorem r_fieldAddr_rp {s f off size : Nat} {agg : Bool} {l : List Value} (hx : rdO (Fs i) S x = some (.g (.one (.rp l)))) (hf : find1 T.fld (s * 1000 + f) = some (off, agg, size)) (hf2 : Nat.blt f 1000 = true) (hw : (Fs i).sw d = true)
    (k : runX Fs P T cf ops (i + 1) rest (S.put d (some (.g (.one (.rp (l.drop off)))))) K) : runA Fs P T cf ops i ⟨some d, .fieldAddr s x f, ty, pos, af, g⟩ rest S K :=
  getO_of hx (orFail_of hf (need_of (blt_lt hf2) (putD_of hw k)))
theorem r_field {s f off size : Nat} {agg : Bool} {cs : List AC} {v : AV} (hx : rdO (Fs i) S x = some (.g (.agg cs))) (hf : find1 T.fld (s * 1000 + f) = some (off, agg, size)) (hf2 : Nat.blt f 1000 = true) (hle : Nat.ble (off + size) cs.length = true) (hv : ofa agg ((cs.drop off).take size) = some v) (hw : (Fs i).sw d = true)
    (k : runX Fs P T cf ops (i + 1) rest (S.put d (some v)) K) : runA Fs P T cf ops i ⟨some d, .field s x f, ty, pos, af, g⟩ rest S K :=
  getO_of hx (orFail_of hf (need_of ⟨blt_lt hf2, Nat.le_of_ble_eq_true hle⟩ (orFail_of hv (putD_of hw k))))
theorem r_extract {n : Nat} {xs : List AG} {v : AG} (hx : rdO (Fs i) S x = some (.tup xs)) (hv : xs[n]? = some v) (hw : (Fs i).sw d = true)
    (k : runX Fs P T cf ops (i + 1) rest (S.put d (some (.g v))) K) : runA Fs P T cf ops i ⟨some d, .extract x n, ty, pos, af, g⟩ rest S K :=
  getO_of hx (orFail_of hv (putD_of hw k))
theorem r_indexAddr_ro {t e sz n by' : Nat} {agg : Bool} {l : List Value} {kd : IntKind} {j : Int} (hx : rdO (Fs i) S x = some (.g (.one (.ro sz n l)))) (hy : rdV (Fs i) S y = some (.int kd j)) (he : find1 T.elt t = some (none, e, agg, sz, by')) (hw : (Fs i).sw d = true) (h0 : 0 ≤ j) (h1 : j < (n : Int))
    (k : runX Fs P T cf ops (i + 1) rest (S.put d (some (.g (.one (.rp (l.drop (j.toNat * sz))))))) K) : runA Fs P T cf ops i ⟨some d, .indexAddr t x y, ty, pos, af, g⟩ rest S K :=
  getO_of hx (getV_of hy (orFail_of he (need_of ⟨rfl, h0, h1⟩ (putD_of hw k))))
theorem r_indexAddr_sl {t e0 sz b' r n by' : Nat} {agg : Bool} {e : Option TypeId} {l : List Value} {kd : IntKind} {j : Int} (hx : rdO (Fs i) S x = some (.g (.one (.sl b' r n)))) (hy : rdV (Fs i) S y = some (.int kd j)) (he : find1 T.elt t = some (none, e0, agg, sz, by')) (her : (Fs i).er b' = true) (hG : S.G b' = some (r, .row e sz l)) (hw : (Fs i).sw d = true) (h0 : 0 ≤ j) (h1 : j < (n : Int))
    (k : runX Fs P T cf ops (i + 1) rest (S.put d (some (.g (.one (.ptr b' r (j.toNat * sz)))))) K) : runA Fs P T cf ops i ⟨some d, .indexAddr t x y, ty, pos, af, g⟩ rest S K :=
  getO_of hx (getV_of hy (orFail_of he (getE_of her hG (need_of ⟨rfl, rfl, h0, h1⟩ (putD_of hw k)))))
theorem r_indexAddr_arr {t e0 sz b' r off n by' : Nat} {agg : Bool} {e : Ent} {kd : IntKind} {j : Int} (hx : rdO (Fs i) S x = some (.g (.one (.ptr b' r off)))) (hy : rdV (Fs i) S y = some (.int kd j)) (he : find1 T.elt t = some (some n, e0, agg, sz, by')) (her : (Fs i).er b' = true) (hG : S.G b' = some (r, e)) (hw : (Fs i).sw d = true) (h0 : 0 ≤ j) (h1 : j < (n : Int))
    (k : runX Fs P T cf ops (i + 1) rest (S.put d (some (.g (.one (.ptr b' r (off + j.toNat * sz)))))) K) : runA Fs P T cf ops i ⟨some d, .indexAddr t x y, ty, pos, af, g⟩ rest S K :=
  getO_of hx (getV_of hy (orFail_of he (getE_of her hG (need_of ⟨rfl, h0, h1⟩ (putD_of hw k)))))
theorem r_box {t r : Nat} {cs : List AC} (hx : rdO (Fs i) S x = some a) (hc : cellsOf a = some cs) (hj : Nat.blt (nid d 0) 100000 = true) (her : (Fs i).er (nid d 0) = true) (hew : (Fs i).ew (nid d 0) = true) (hr : nver S (nid d 0) = r) (hw : (Fs i).sw d = true)
    (k : runX Fs P T cf ops (i + 1) rest ((S.lay (nid d 0) (some (r, .box cs))).put d (some (.g (.one (.ptr (nid d 0) r 0))))) K) : runA Fs P T cf ops i ⟨some d, .box t x, ty, pos, af, g⟩ rest S K :=
  orFail_some (getO_of hx (orFail_of hc (lay1_of hj her hew hr (putD_of hw k))))
theorem r_alloc {t r : Nat} {z : List Value} (hz : find1 T.zer t = some z) (hj : Nat.blt (nid d 0) 100000 = true) (her : (Fs i).er (nid d 0) = true) (hew : (Fs i).ew (nid d 0) = true) (hr : nver S (nid d 0) = r) (hw : (Fs i).sw d = true)
    (k : runX Fs P T cf ops (i + 1) rest ((S.lay (nid d 0) (some (r, .box (z.map .v)))).put d (some (.g (.one (.ptr (nid d 0) r 0))))) K) : runA Fs P T cf ops i ⟨some d, .alloc t, ty, pos, af, g⟩ rest S K := by
  have h : (orFail (some d) fun d => orFail (find1 T.zer t) fun z => lay1 (nid d 0) (.box (z.map .v)) fun r => putD (some d) (.g (.one (.ptr (nid d 0) r 0)))).run (Fs i) S (fun S' => runX Fs P T cf ops (i + 1) rest S' K) :=
    orFail_some (orFail_of hz (lay1_of hj her hew hr (putD_of hw k)))
  exact h
def setC {α : Type} : List α → Nat → List α → List α
  | l, _, [] => l
  | [], _, _ => []
  | x :: l, 0, m :: ms => m :: setC l 0 ms
  | x :: l, n + 1, ms => x :: setC l n ms
theorem setC_eq {α : Type} : ∀ (l : List α) (o : Nat) (m : List α), o + m.length ≤ l.length → splice l o m = setC l o m
  | l, o, [], h => by cases l <;> simp [splice, setC]
  | [], o, m :: ms, h => by simp at h
  | x :: l, 0, m :: ms, h => by
    have := setC_eq l 0 ms (by simp at h ⊢; omega)
    simp only [splice, List.take_zero, List.nil_append, Nat.zero_add] at this ⊢
    simp only [setC, ← this, List.length_cons, List.drop_succ_cons, List.cons_append]
  | x :: l, n + 1, m :: ms, h => by
    have := setC_eq l n (m :: ms) (by simp at h ⊢; omega)
    have e : n + 1 + (m :: ms).length = (n + (m :: ms).length) + 1 := by omega
    simp only [setC, ← this, splice, e, List.take_succ_cons, List.drop_succ_cons, List.cons_append]
theorem r_store_box {t j r off size : Nat} {agg : Bool} {cs cells : List AC} (hx : rdO (Fs i) S x = some (.g (.one (.ptr j r off)))) (hy : rdO (Fs i) S y = some b) (hl : find1 T.lay t = some (agg, size)) (hc : cellsOf b = some cs) (her : (Fs i).er j = true) (hG : S.G j = some (r, .box cells)) (hlen : Nat.beq cs.length size = true) (hle : Nat.ble (off + size) cells.length = true) (hew : (Fs i).ew j = true)
    (k : runX Fs P T cf ops (i + 1) rest (S.lay j (some (r, .box (setC cells off cs)))) K) : runA Fs P T cf ops i ⟨none, .store t x y, ty, pos, af, g⟩ rest S K := by
  have h1 := Nat.eq_of_beq_eq_true hlen
  have h2 := Nat.le_of_ble_eq_true hle
  refine getO_of hx (getO_of hy (orFail_of hl (orFail_of hc (getE_of her hG (need_of ⟨rfl, h1, h2⟩ ⟨hew, ?_⟩)))))
  rw [setC_eq cells off cs (by omega)]
  exact k
theorem splice_one {l : List Value} {off : Nat} {v : Value} (h : off < l.length) : splice l off [v] = l.set off v := by
  apply List.ext_getElem?
  intro j
  rw [splice_get (by simp; omega)]
  by_cases hj : j = off
  · subst hj; simp [h]
  · rw [List.getElem?_set_ne (Ne.symm hj)]
    rw [if_neg (by simp; omega)]
theorem r_store_rowk {t j r off sz size : Nat} {agg : Bool} {e : Option TypeId} {l vs : List Value} {cs : List AC} (hx : rdO (Fs i) S x = some (.g (.one (.ptr j r off)))) (hy : rdO (Fs i) S y = some b) (hl : find1 T.lay t = some (agg, size)) (hc : cellsOf b = some cs) (hp : pcs cs = some vs) (her : (Fs i).er j = true) (hG : S.G j = some (r, .row e sz l)) (hew : (Fs i).ew j = true) (hlen : Nat.beq vs.length size = true) (hle : off + size ≤ l.length)
    (k : runX Fs P T cf ops (i + 1) rest (S.lay j (some (r, .row e sz (splice l off vs)))) K) : runA Fs P T cf ops i ⟨none, .store t x y, ty, pos, af, g⟩ rest S K :=
  getO_of hx (getO_of hy (orFail_of hl (orFail_of hc (getE_of her hG (orFail_of hp (need_of ⟨rfl, Nat.eq_of_beq_eq_true hlen, hle⟩ ⟨hew, k⟩))))))
def rdPs (F : Ft) (S : St) : List (Nat × Operand) → Option (List (Nat × AV))
  | [] => some []
  | (n, x) :: l => match rdO F S x, rdPs F S l with
    | some a, some ls => some ((n, a) :: ls)
    | _, _ => none
theorem getPs_of : ∀ (l : List (Nat × Operand)) {k : List (Nat × AV) → AM} {ls : List (Nat × AV)}, rdPs F S l = some ls → (k ls).run F S K → (getPs l k).run F S K
  | [], k, ls, h, hk => by cases h; exact hk
  | (n, x) :: l, k, ls, h, hk => by
    simp only [rdPs] at h
    split at h
    · rename_i a ls' ha hls
      cases h
      exact getO_of ha (getPs_of l hls hk)
    · cases h
theorem r_build {t esz : Nat} {ps : Array (Nat × Operand)} {z : List Value} {places : Option (List (Nat × Nat))} {ls : List (Nat × AV)} {cs : List AC} (hp : rdPs (Fs i) S ps.toList = some ls) (hb : find1 T.bld t = some (z, places, esz)) (hf : fillA (placeOf places esz) (z.map .v) ls = some cs) (hw : (Fs i).sw d = true)
    (k : runX Fs P T cf ops (i + 1) rest (S.put d (some (.g (.agg cs)))) K) : runA Fs P T cf ops i ⟨some d, .build t ps, ty, pos, af, g⟩ rest S K :=
  getPs_of _ hp (orFail_of hb (orFail_of hf (putD_of hw k)))
theorem r_buildSlice {t n e sz by' r : Nat} {agg : Bool} {ps : Array (Nat × Operand)} {z l : List Value} {ls : List (Nat × AV)} {cs : List AC} (hp : rdPs (Fs i) S ps.toList = some ls) (he : find1 T.elt t = some (none, e, agg, sz, by')) (hz : find1 T.zer e = some z) (hf : fillA (fun i => some (i * sz, sz)) ((List.replicate n z).flatten.map .v) ls = some cs) (hl : pcs cs = some l) (hzl : Nat.beq z.length sz = true) (hb : Nat.ble (n * sz) 1000 = true) (hb2 : Nat.ble n 1000 = true)
    (hj : Nat.blt (nid d 0) 100000 = true) (her : (Fs i).er (nid d 0) = true) (hew : (Fs i).ew (nid d 0) = true) (hr : nver S (nid d 0) = r) (hw : (Fs i).sw d = true)
    (k : runX Fs P T cf ops (i + 1) rest ((S.lay (nid d 0) (some (r, .row (some e) sz l))).put d (some (.g (.one (.sl (nid d 0) r n))))) K) : runA Fs P T cf ops i ⟨some d, .buildSlice t n ps, ty, pos, af, g⟩ rest S K :=
  orFail_some (getPs_of _ hp (orFail_of he (orFail_of hz (orFail_of hf (need_of ⟨rfl, Nat.eq_of_beq_eq_true hzl, Nat.le_of_ble_eq_true hb, Nat.le_of_ble_eq_true hb2⟩ (by rw [hl]; exact lay1_of hj her hew hr (putD_of hw k)))))))
theorem r_buildSb {t n e sz by' r : Nat} {agg : Bool} {ps : Array (Nat × Operand)} {z : List Value} {ls : List (Nat × AV)} {cs : List AC} (hp : rdPs (Fs i) S ps.toList = some ls) (he : find1 T.elt t = some (none, e, agg, sz, by')) (hz : find1 T.zer e = some z) (hf : fillA (fun i => some (i * sz, sz)) ((List.replicate n z).flatten.map .v) ls = some cs) (hl : pcs cs = none) (hzl : Nat.beq z.length sz = true) (hb : Nat.ble (n * sz) 1000 = true) (hb2 : Nat.ble n 1000 = true)
    (hj : Nat.blt (nid d 0) 100000 = true) (her : (Fs i).er (nid d 0) = true) (hew : (Fs i).ew (nid d 0) = true) (hr : nver S (nid d 0) = r) (hw : (Fs i).sw d = true)
    (k : runX Fs P T cf ops (i + 1) rest ((S.lay (nid d 0) (some (r, .box cs))).put d (some (.g (.one (.sb (nid d 0) r n n))))) K) : runA Fs P T cf ops i ⟨some d, .buildSlice t n ps, ty, pos, af, g⟩ rest S K :=
  orFail_some (getPs_of _ hp (orFail_of he (orFail_of hz (orFail_of hf (need_of ⟨rfl, Nat.eq_of_beq_eq_true hzl, Nat.le_of_ble_eq_true hb, Nat.le_of_ble_eq_true hb2⟩ (by rw [hl]; exact lay1_of hj her hew hr (putD_of hw k)))))))
theorem r_indexAddr_sb {t e0 sz b' r n c0 by' : Nat} {agg : Bool} {e : Ent} {kd : IntKind} {j : Int} (hx : rdO (Fs i) S x = some (.g (.one (.sb b' r n c0)))) (hy : rdV (Fs i) S y = some (.int kd j)) (he : find1 T.elt t = some (none, e0, agg, sz, by')) (her : (Fs i).er b' = true) (hG : S.G b' = some (r, e)) (hw : (Fs i).sw d = true) (h0 : 0 ≤ j ∧ j < (n : Int))
    (k : runX Fs P T cf ops (i + 1) rest (S.put d (some (.g (.one (.ptr b' r (j.toNat * sz)))))) K) : runA Fs P T cf ops i ⟨some d, .indexAddr t x y, ty, pos, af, g⟩ rest S K :=
  getO_of hx (getV_of hy (orFail_of he (getE_of her hG (need_of ⟨rfl, h0.1, h0.2⟩ (putD_of hw k)))))
theorem r_len_sb {t e0 sz b' r n c0 by' : Nat} {agg : Bool} {e : Ent} (hx : rdO (Fs i) S x = some (.g (.one (.sb b' r n c0)))) (he : find1 T.elt t = some (none, e0, agg, sz, by')) (her : (Fs i).er b' = true) (hG : S.G b' = some (r, e)) (hw : (Fs i).sw d = true)
    (k : runX Fs P T cf ops (i + 1) rest (S.put d (some (vI n))) K) : runA Fs P T cf ops i ⟨some d, .call { callee := .builtin .len, args := #[x], argTypes := #[t] }, ty, pos, af, g⟩ rest S K :=
  getO_of hx (orFail_of he (need_of rfl (getE_of her hG (need_of rfl (putD_of hw k)))))
theorem r_makeSlice {t e sz by' r m : Nat} {agg : Bool} {z : List Value} {k1 k2 : IntKind} {n q : Int} (hx : rdV (Fs i) S x = some (.int k1 n)) (hy : rdV (Fs i) S y = some (.int k2 q)) (he : find1 T.elt t = some (none, e, agg, sz, by')) (hz : find1 T.zer e = some z) (hzl : Nat.beq z.length sz = true)
    (hj : Nat.blt (nid d 0) 100000 = true) (her : (Fs i).er (nid d 0) = true) (hew : (Fs i).ew (nid d 0) = true) (hr : nver S (nid d 0) = r) (hw : (Fs i).sw d = true) (hm : n = (m : Int)) (hnq : n ≤ q) (hq : q ≤ 9223372036854775807) (hby : (by' : Int) * q ≤ 281474976710656)
    (k : runX Fs P T cf ops (i + 1) rest ((S.lay (nid d 0) (some (r, .row (some e) sz (List.replicate m z).flatten))).put d (some (.g (.one (.sl (nid d 0) r m))))) K) : runA Fs P T cf ops i ⟨some d, .makeSlice t x y, ty, pos, af, g⟩ rest S K := by
  subst hm
  exact orFail_some (getV_of hx (getV_of hy (orFail_of he (orFail_of hz (need_of ⟨rfl, Nat.eq_of_beq_eq_true hzl, by omega, hnq, hq, hby⟩ (lay1_of hj her hew hr (putD_of hw (by simpa using k))))))))
theorem r_len_ro {t e sz n z by' : Nat} {agg : Bool} {l : List Value} (hx : rdO (Fs i) S x = some (.g (.one (.ro z n l)))) (he : find1 T.elt t = some (none, e, agg, sz, by')) (hw : (Fs i).sw d = true)
    (k : runX Fs P T cf ops (i + 1) rest (S.put d (some (vI n))) K) : runA Fs P T cf ops i ⟨some d, .call { callee := .builtin .len, args := #[x], argTypes := #[t] }, ty, pos, af, g⟩ rest S K :=
  getO_of hx (orFail_of he (need_of rfl (putD_of hw k)))
theorem r_len_nil {t e sz by' : Nat} {agg : Bool} (hx : rdO (Fs i) S x = some (.g (.one (.v (.slice none 0 0))))) (he : find1 T.elt t = some (none, e, agg, sz, by')) (hw : (Fs i).sw d = true)
    (k : runX Fs P T cf ops (i + 1) rest (S.put d (some (vI 0))) K) : runA Fs P T cf ops i ⟨some d, .call { callee := .builtin .len, args := #[x], argTypes := #[t] }, ty, pos, af, g⟩ rest S K :=
  getO_of hx (orFail_of he (need_of rfl (putD_of hw k)))
theorem r_len_sl {t e0 sz b' r n by' : Nat} {agg : Bool} {e : Ent} (hx : rdO (Fs i) S x = some (.g (.one (.sl b' r n)))) (he : find1 T.elt t = some (none, e0, agg, sz, by')) (her : (Fs i).er b' = true) (hG : S.G b' = some (r, e)) (hw : (Fs i).sw d = true)
    (k : runX Fs P T cf ops (i + 1) rest (S.put d (some (vI n))) K) : runA Fs P T cf ops i ⟨some d, .call { callee := .builtin .len, args := #[x], argTypes := #[t] }, ty, pos, af, g⟩ rest S K :=
  getO_of hx (orFail_of he (need_of rfl (getE_of her hG (need_of rfl (putD_of hw k)))))
def rdSl (F : Ft) (S : St) (a : AV) (sz : Nat) : Option (Nat × List Value × Prop) := match a with
  | .g (.one (.ro z n l)) => some (n, l, z = sz)
  | .g (.one (.v (.slice none 0 0))) => some (0, [], True)
  | .g (.one (.sl j r n)) => bif F.er j then (match S.G j with
    | some (r', .row e z l) => some (n, l, r = r' ∧ z = sz ∧ 0 < z ∧ l.length = n * z)
    | some (r', .fro z l) => some (n, l, r = r' ∧ z = sz ∧ 0 < z ∧ l.length = n * z)
    | _ => none) else none
  | _ => none
theorem getSl_of {sz n : Nat} {l : List Value} {p : Prop} {k : Nat → List Value → AM} (h : rdSl F S a sz = some (n, l, p)) (hp : p) (hk : (k n l).run F S K) : (getSl a sz k).run F S K := by
  unfold rdSl at h
  split at h
  · cases h; exact ⟨hp, hk⟩
  · cases h; exact hk
  · rename_i j r n'
    cases hF : F.er j with
    | false => rw [hF] at h; cases h
    | true =>
      rw [hF] at h
      simp only [cond_true] at h
      refine ⟨hF, ?_⟩
      split at h
      · rename_i r' e z l' hG
        cases h
        rw [hG]; exact ⟨hp, hk⟩
      · rename_i r' z l' hG
        cases h
        rw [hG]; exact ⟨hp, hk⟩
      · cases h
  · cases h
theorem r_append_new {t e sz by' r m : Nat} {agg : Bool} {z news : List Value} {p : Prop} (hx : rdO (Fs i) S x = some (.g (.one (.v (.slice none 0 0))))) (hy : rdO (Fs i) S y = some b) (he : find1 T.elt t = some (none, e, agg, sz, by')) (hz : find1 T.zer e = some z) (hsl : rdSl (Fs i) S b sz = some (m, news, p)) (hzl : Nat.beq z.length sz = true)
    (hj : Nat.blt (nid d 0) 100000 = true) (her : (Fs i).er (nid d 0) = true) (hew : (Fs i).ew (nid d 0) = true) (hr : nver S (nid d 0) = r) (hw : (Fs i).sw d = true) (hp : p) (h1 : m ≤ maxLen) (h2 : m * by' ≤ 140737488355328)
    (k : runX Fs P T cf ops (i + 1) rest ((S.lay (nid d 0) (some (r, .row (some e) sz news))).put d (some (.g (.one (.sl (nid d 0) r m))))) K) : runA Fs P T cf ops i ⟨some d, .call { callee := .builtin .append, args := #[x, y], argTypes := #[t, t] }, ty, pos, af, g⟩ rest S K :=
  getO_of hx (getO_of hy (orFail_of he (orFail_of hz (getSl_of hsl hp (need_of ⟨rfl, rfl, Nat.eq_of_beq_eq_true hzl⟩ (orFail_some (need_of ⟨h1, h2⟩ (lay1_of hj her hew hr (putD_of hw k)))))))))
def rdL (F : Ft) (S : St) : List Operand → Option (List AV)
  | [] => some []
  | x :: l => match rdO F S x, rdL F S l with
    | some a, some ls => some (a :: ls)
    | _, _ => none
theorem getL_of : ∀ (l : List Operand) {k : List AV → AM} {ls : List AV}, rdL F S l = some ls → (k ls).run F S K → (getL l k).run F S K
  | [], k, ls, h, hk => by cases h; exact hk
  | x :: l, k, ls, h, hk => by
    simp only [rdL] at h
    split at h
    · rename_i a ls' ha hls
      cases h
      exact getO_of ha (getL_of l (k := fun ls => k (a :: ls)) hls hk)
    · cases h
def viewCf (F : Ft) (S : St) : AC → Option (AC × List Nat × Prop)
  | .sl j r n => bif F.er j then (match S.G j with
    | some (r', .row e z l) => some (.ro z n l, [j], r = r' ∧ 0 < z ∧ l.length = n * z)
    | some (r', .fro z l) => some (.ro z n l, [], r = r' ∧ 0 < z ∧ l.length = n * z)
    | _ => none) else none
  | .ptr _ _ _ => none
  | .sb _ _ _ _ => none
  | .fn f c => some (.fn f [], [], c = [])
  | c => some (c, [], True)
def viewLf (F : Ft) (S : St) : List AC → Option (List AC × List Nat × Prop)
  | [] => some ([], [], True)
  | c :: cs => match viewCf F S c, viewLf F S cs with
    | some (c', v, p), some (cs', v', q) => some (c' :: cs', v ++ v', p ∧ q)
    | _, _ => none
theorem viewC_of {c' : AC} {v : List Nat} {p : Prop} {c : AC} {k : AC → List Nat → AM} (h : viewCf F S c = some (c', v, p)) (hp : p) (hk : (k c' v).run F S K) : (viewC c k).run F S K := by
  cases c with
  | sl j r n =>
    simp only [viewCf] at h
    cases hF : F.er j with
    | false => rw [hF] at h; cases h
    | true =>
      rw [hF] at h
      simp only [cond_true] at h
      refine ⟨hF, ?_⟩
      split at h
      · rename_i r' e z l' hG
        cases h
        rw [hG]; exact ⟨hp, hk⟩
      · rename_i r' z l' hG
        cases h
        rw [hG]; exact ⟨hp, hk⟩
      · cases h
  | ptr j r o => cases h
  | fn f c => cases h; exact ⟨hp, hk⟩
  | v x => cases h; exact hk
  | ro sz n l => cases h; exact hk
  | rp l => cases h; exact hk
  | er => cases h; exact hk
  | sb i r n c0 => cases h
theorem viewL_of : ∀ (cs : List AC) {cs' : List AC} {v : List Nat} {p : Prop} {k : List AC → List Nat → AM}, viewLf F S cs = some (cs', v, p) → p → (k cs' v).run F S K → (viewL cs k).run F S K
  | [], cs', v, p, k, h, hp, hk => by cases h; exact hk
  | c :: cs, cs', v, p, k, h, hp, hk => by
    simp only [viewLf] at h
    split at h
    · rename_i c1 v1 p1 cs1 v2 p2 h1 h2
      cases h
      exact viewC_of h1 hp.1 (viewL_of cs h2 hp.2 hk)
    · cases h
abbrev Hd := List (Nat × Nat) × List Ent × List Nat × Prop
def refPf (F : Ft) (S : St) (wr : Bool) (j r : Nat) (ids : List (Nat × Nat)) (es : List Ent) (vw : List Nat) : Option (Nat × Hd) :=
  bif F.er j then (match S.G j with
    | some (r', .box cs) => bif wr then (bif cs.all (AC.on fun _ => false) then some (ids.length, ids ++ [(j, r)], es ++ [.box cs], vw, r = r') else none)
        else (match viewLf F S cs with
          | some (cs', v, p) => some (ids.length, ids ++ [(j, r)], es ++ [.rbx cs'], vw ++ v, r = r' ∧ p)
          | none => none)
    | some (r', .rbx cs) => bif wr then none else (match viewLf F S cs with
          | some (cs', v, p) => some (ids.length, ids ++ [(j, r)], es ++ [.rbx cs'], vw ++ v, r = r' ∧ p)
          | none => none)
    | _ => none) else none
theorem refP_of {wr : Bool} {j r n : Nat} {ids ids' : List (Nat × Nat)} {es es' : List Ent} {vw vw' : List Nat} {q : Prop} {k : Nat → List (Nat × Nat) → List Ent → List Nat → AM} (h : refPf F S wr j r ids es vw = some (n, ids', es', vw', q)) (hq : q) (hk : (k n ids' es' vw').run F S K) : (refP wr j r ids es vw k).run F S K := by
  simp only [refPf] at h
  cases hF : F.er j with
  | false => rw [hF] at h; cases h
  | true =>
    rw [hF] at h
    simp only [cond_true] at h
    refine ⟨hF, ?_⟩
    split at h
    · rename_i r' cs hG
      rw [hG]
      cases wr with
      | true =>
        simp only [cond_true] at h
        cases hc : cs.all (AC.on fun _ => false) with
        | false => rw [hc] at h; cases h
        | true => rw [hc] at h; simp only [cond_true] at h; cases h; exact ⟨hq, hc, hk⟩
      | false =>
        simp only [cond_false] at h
        split at h
        · rename_i cs' v p hv
          cases h
          exact ⟨hq.1, viewL_of cs hv hq.2 hk⟩
        · cases h
    · rename_i r' cs hG
      rw [hG]
      cases wr with
      | true => cases h
      | false =>
        simp only [cond_false] at h
        split at h
        · rename_i cs' v p hv
          cases h
          exact ⟨⟨hq.1, rfl⟩, viewL_of cs hv hq.2 hk⟩
        · cases h
    · cases h
def refLf (F : Ft) (S : St) (wr : Bool) : List (Nat × Nat) → List (Nat × Nat) → List Ent → List Nat → Option (List (Nat × Nat) × Hd)
  | [], ids, es, vw => some ([], ids, es, vw, True)
  | p :: ps, ids, es, vw => match refPf F S wr p.1 p.2 ids es vw with
    | some (n, ids1, es1, vw1, q1) => match refLf F S wr ps ids1 es1 vw1 with
      | some (ps', ids2, es2, vw2, q2) => some ((100000 + n, 0) :: ps', ids2, es2, vw2, q1 ∧ q2)
      | none => none
    | none => none
theorem refL_of {wr : Bool} : ∀ (ps : List (Nat × Nat)) {ps' ids ids' : List (Nat × Nat)} {es es' : List Ent} {vw vw' : List Nat} {q : Prop} {k : List (Nat × Nat) → List (Nat × Nat) → List Ent → List Nat → AM}, refLf F S wr ps ids es vw = some (ps', ids', es', vw', q) → q → (k ps' ids' es' vw').run F S K → (refL wr ps ids es vw k).run F S K
  | [], ps', ids, ids', es, es', vw, vw', q, k, h, hq, hk => by cases h; exact hk
  | p :: ps, ps', ids, ids', es, es', vw, vw', q, k, h, hq, hk => by
    simp only [refLf] at h
    split at h
    · rename_i n ids1 es1 vw1 q1 h1
      split at h
      · rename_i ps1 ids2 es2 vw2 q2 h2
        cases h
        exact refP_of h1 hq.1 (refL_of ps (k := fun ps' ids es vw => k ((100000 + n, 0) :: ps') ids es vw) h2 hq.2 hk)
      · cases h
    · cases h
def handLf (F : Ft) (S : St) : List AC → List (Nat × Nat) → List Ent → Option (List AC × List (Nat × Nat) × List Ent × Prop)
  | [], ids, es => some ([], ids, es, True)
  | .sl j r n :: cs, ids, es => bif F.er j then (match S.G j with
    | some (r', .row e z l) => match handLf F S cs (ids ++ [(j, r)]) (es ++ [.row e z l]) with
      | some (cs', ids', es', q) => some (.sl (100000 + ids.length) 0 n :: cs', ids', es', (r = r' ∧ l.length = n * z ∧ 0 < z) ∧ q)
      | none => none
    | _ => none) else none
  | .v x :: cs, ids, es => match handLf F S cs ids es with
      | some (cs', ids', es', q) => some (.v x :: cs', ids', es', q)
      | none => none
  | .ro z n l :: cs, ids, es => match handLf F S cs ids es with
      | some (cs', ids', es', q) => some (.ro z n l :: cs', ids', es', q)
      | none => none
  | _ :: _, _, _ => none
theorem handL_of : ∀ (cs : List AC) {cs' : List AC} {ids ids' : List (Nat × Nat)} {es es' : List Ent} {q : Prop} {k : List AC → List (Nat × Nat) → List Ent → AM}, handLf F S cs ids es = some (cs', ids', es', q) → q → (k cs' ids' es').run F S K → (handL cs ids es k).run F S K
  | [], cs', ids, ids', es, es', q, k, h, hq, hk => by cases h; exact hk
  | .sl j r n :: cs, cs', ids, ids', es, es', q, k, h, hq, hk => by
    simp only [handLf] at h
    cases hF : F.er j with
    | false => rw [hF] at h; cases h
    | true =>
      rw [hF] at h
      simp only [cond_true] at h
      refine ⟨hF, ?_⟩
      split at h
      · rename_i r' e z l hG
        rw [hG]
        split at h
        · rename_i cs1 ids1 es1 q1 h1
          cases h
          exact ⟨hq.1, handL_of cs (k := fun cs' ids' es' => k (.sl (100000 + ids.length) 0 n :: cs') ids' es') h1 hq.2 hk⟩
        · cases h
      · cases h
  | .v x :: cs, cs', ids, ids', es, es', q, k, h, hq, hk => by
    simp only [handLf] at h
    split at h
    · rename_i cs1 ids1 es1 q1 h1
      cases h
      exact handL_of cs (k := fun cs' ids' es' => k (.v x :: cs') ids' es') h1 hq hk
    · cases h
  | .ro z n l :: cs, cs', ids, ids', es, es', q, k, h, hq, hk => by
    simp only [handLf] at h
    split at h
    · rename_i cs1 ids1 es1 q1 h1
      cases h
      exact handL_of cs (k := fun cs' ids' es' => k (.ro z n l :: cs') ids' es') h1 hq hk
    · cases h
  | .ptr _ _ _ :: cs, cs', ids, ids', es, es', q, k, h, hq, hk => by cases h
  | .rp _ :: cs, cs', ids, ids', es, es', q, k, h, hq, hk => by cases h
  | .fn _ _ :: cs, cs', ids, ids', es, es', q, k, h, hq, hk => by cases h
  | .er :: cs, cs', ids, ids', es, es', q, k, h, hq, hk => by cases h
  | .sb _ _ _ _ :: cs, cs', ids, ids', es, es', q, k, h, hq, hk => by cases h
def nrmAf (F : Ft) (S : St) (wr : Bool) (a : AV) (ids : List (Nat × Nat)) (es : List Ent) (vw : List Nat) : Option (AV × Hd) := match a with
  | .g (.one (.ptr j r o)) => match o with
    | 0 => match refPf F S wr j r ids es vw with
      | some (n, h) => some (.g (.one (.ptr (100000 + n) 0 0)), h)
      | none => none
    | _ + 1 => none
  | .g (.one (.fn f caps)) => match refLf F S wr caps ids es vw with
    | some (caps', h) => some (.g (.one (.fn f caps')), h)
    | none => none
  | .g (.one (.sl j r n)) => bif wr then (bif F.er j then (match S.G j with
      | some (r', .row e z l) => some (.g (.one (.sl (100000 + ids.length) 0 n)), ids ++ [(j, r)], es ++ [.row e z l], vw, r = r' ∧ l.length = n * z ∧ 0 < z)
      | _ => none) else none)
    else (match viewCf F S (.sl j r n) with
      | some (c', v, p) => some (.g (.one c'), ids, es, vw ++ v, p)
      | none => none)
  | .g (.one c) => match viewCf F S c with
      | some (c', v, p) => some (.g (.one c'), ids, es, vw ++ v, p)
      | none => none
  | .g (.agg cs) => bif wr then (match handLf F S cs ids es with
      | some (cs', ids', es', q) => some (.g (.agg cs'), ids', es', vw, q)
      | none => none) else (match viewLf F S cs with
      | some (cs', v, p) => some (.g (.agg cs'), ids, es, vw ++ v, p)
      | none => none)
  | .tup _ => none
theorem nrmA_of {wr : Bool} {a' : AV} {ids ids' : List (Nat × Nat)} {es es' : List Ent} {vw vw' : List Nat} {q : Prop} {k : AV → List (Nat × Nat) → List Ent → List Nat → AM} (h : nrmAf F S wr a ids es vw = some (a', ids', es', vw', q)) (hq : q) (hk : (k a' ids' es' vw').run F S K) : (nrmA wr a ids es vw k).run F S K := by
  have hview : ∀ {c : AC}, (match viewCf F S c with
      | some (c', v, p) => some ((.g (.one c') : AV), ids, es, vw ++ v, p)
      | none => none) = some (a', ids', es', vw', q) → (viewC c fun c' v => k (.g (.one c')) ids es (vw ++ v)).run F S K := by
    intro c h
    split at h
    · rename_i c' v p hv
      cases h
      exact viewC_of hv hq hk
    · cases h
  match a, h with
  | .g (.one (.ptr j r 0)), h =>
    simp only [nrmAf] at h
    split at h
    · rename_i n h' h1
      cases h
      exact ⟨rfl, refP_of h1 hq hk⟩
    · cases h
  | .g (.one (.fn f caps)), h =>
    simp only [nrmAf] at h
    split at h
    · rename_i caps' h' h1
      cases h
      exact refL_of caps (k := fun caps' ids es vw => k (.g (.one (.fn f caps'))) ids es vw) h1 hq hk
    · cases h
  | .g (.one (.sl j r n)), h =>
    simp only [nrmAf] at h
    cases wr with
    | false => exact hview h
    | true =>
      simp only [cond_true] at h
      cases hF : F.er j with
      | false => rw [hF] at h; cases h
      | true =>
        rw [hF] at h
        simp only [cond_true] at h
        refine ⟨hF, ?_⟩
        split at h
        · rename_i r' e z l hG
          cases h
          rw [hG]; exact ⟨hq, hk⟩
        · cases h
  | .g (.one (.v x)), h => exact hview (c := .v x) h
  | .g (.one (.ro z n l)), h => exact hview (c := .ro z n l) h
  | .g (.one (.rp l)), h => exact hview (c := .rp l) h
  | .g (.one .er), h => exact hview (c := .er) h
  | .g (.one (.sb i r n c0)), h => exact hview (c := .sb i r n c0) h
  | .g (.agg cs), h =>
    simp only [nrmAf] at h
    cases wr with
    | true =>
      simp only [cond_true] at h
      split at h
      · rename_i cs' ids1 es1 q1 hv
        cases h
        exact handL_of cs (k := fun cs' ids es => k (.g (.agg cs')) ids es vw) hv hq hk
      · cases h
    | false =>
      simp only [cond_false] at h
      split at h
      · rename_i cs' v p hv
        cases h
        exact viewL_of cs hv hq hk
      · cases h
def nrmLf (F : Ft) (S : St) (wr : Nat → Bool) : Nat → List AV → List (Nat × Nat) → List Ent → List Nat → Option (List AV × Hd)
  | _, [], ids, es, vw => some ([], ids, es, vw, True)
  | p, a :: l, ids, es, vw => match nrmAf F S (wr p) a ids es vw with
    | some (a', ids1, es1, vw1, q1) => match nrmLf F S wr (p + 1) l ids1 es1 vw1 with
      | some (l', ids2, es2, vw2, q2) => some (a' :: l', ids2, es2, vw2, q1 ∧ q2)
      | none => none
    | none => none
theorem nrmL_of {wr : Nat → Bool} : ∀ (l : List AV) {p : Nat} {l' : List AV} {ids ids' : List (Nat × Nat)} {es es' : List Ent} {vw vw' : List Nat} {q : Prop} {k : List AV → List (Nat × Nat) → List Ent → List Nat → AM}, nrmLf F S wr p l ids es vw = some (l', ids', es', vw', q) → q → (k l' ids' es' vw').run F S K → (nrmL wr p l ids es vw k).run F S K
  | [], p, l', ids, ids', es, es', vw, vw', q, k, h, hq, hk => by cases h; exact hk
  | a :: l, p, l', ids, ids', es, es', vw, vw', q, k, h, hq, hk => by
    simp only [nrmLf] at h
    split at h
    · rename_i a' ids1 es1 vw1 q1 h1
      split at h
      · rename_i l1 ids2 es2 vw2 q2 h2
        cases h
        exact nrmA_of h1 hq.1 (nrmL_of l (k := fun l' ids es vw => k (a' :: l') ids es vw) h2 hq.2 hk)
      · cases h
    · cases h
def backF (F : Ft) (S : St) : List (Nat × Nat) → List Ent → List Ent → Option St
  | (j, r) :: ids, .box _ :: es, .box cs' :: es' => bif F.ew j then backF F (S.lay j (some (r, .box cs'))) ids es es' else none
  | (j, r) :: ids, .row _ _ _ :: es, .row e' z' l' :: es' => bif F.ew j then backF F (S.lay j (some (r, .row e' z' l'))) ids es es' else none
  | _ :: ids, .rbx _ :: es, _ :: es' => backF F S ids es es'
  | [], [], [] => some S
  | _, _, _ => none
theorem backL_of : ∀ (ids : List (Nat × Nat)) (es es' : List Ent) {S S' : St} {k : AM}, backF F S ids es es' = some S' → k.run F S' K → (backL ids es es' k).run F S K
  | [], [], [], S, S', k, h, hk => by cases h; exact hk
  | (j, r) :: ids, .box _ :: es, .box cs' :: es', S, S', k, h, hk => by
    simp only [backF] at h
    cases hF : F.ew j <;> simp only [hF, cond_true, cond_false] at h
    · cases h
    · exact ⟨hF, backL_of ids es es' h hk⟩
  | (j, r) :: ids, .row _ _ _ :: es, .row e' z' l' :: es', S, S', k, h, hk => by
    simp only [backF] at h
    cases hF : F.ew j <;> simp only [hF, cond_true, cond_false] at h
    · cases h
    · exact ⟨hF, backL_of ids es es' h hk⟩
  | _ :: ids, .rbx _ :: es, _ :: es', S, S', k, h, hk => backL_of ids es es' h hk
  | [], [], _ :: _, S, S', k, h, hk => by cases h
  | [], _ :: _, _, S, S', k, h, hk => by cases h
  | _ :: _, [], _, S, S', k, h, hk => by cases h
  | _ :: _, .fro _ _ :: _, _, S, S', k, h, hk => by cases h
  | _ :: _, .gst _ :: _, _, S, S', k, h, hk => by cases h
  | _ :: _, .box _ :: _, [], S, S', k, h, hk => by cases h
  | _ :: _, .row _ _ _ :: _, [], S, S', k, h, hk => by cases h
  | _ :: _, .rbx _ :: _, [], S, S', k, h, hk => by cases h
  | _ :: _, .box _ :: _, .row _ _ _ :: _, S, S', k, h, hk => by cases h
  | _ :: _, .box _ :: _, .fro _ _ :: _, S, S', k, h, hk => by cases h
  | _ :: _, .box _ :: _, .gst _ :: _, S, S', k, h, hk => by cases h
  | _ :: _, .box _ :: _, .rbx _ :: _, S, S', k, h, hk => by cases h
  | _ :: _, .row _ _ _ :: _, .box _ :: _, S, S', k, h, hk => by cases h
  | _ :: _, .row _ _ _ :: _, .fro _ _ :: _, S, S', k, h, hk => by cases h
  | _ :: _, .row _ _ _ :: _, .gst _ :: _, S, S', k, h, hk => by cases h
  | _ :: _, .row _ _ _ :: _, .rbx _ :: _, S, S', k, h, hk => by cases h
def Ent.liveB : Ent → Bool
  | .fro _ _ => false
  | .rbx _ => false
  | _ => true
theorem liveB_live {e : Ent} (h : e.liveB = true) : e.live := by cases e <;> first | trivial | cases h
def newF (F : Ft) (d : Nat) : Nat → List Ent → St → Option (List Nat × St)
  | _, [], S => some ([], S)
  | j, e :: es, S => bif e.liveB && e.on (fun _ => false) && Nat.blt j 16 && Nat.blt (nid d j) 100000 && F.er (nid d j) && F.ew (nid d j) then
      (match newF F d (j + 1) es (S.lay (nid d j) (some (nver S (nid d j), e))) with
        | some (rs, S') => some (nver S (nid d j) :: rs, S')
        | none => none) else none
theorem newL_of {d : Nat} : ∀ (es : List Ent) {j : Nat} {S S' : St} {rs : List Nat} {k : List Nat → AM}, newF F d j es S = some (rs, S') → (k rs).run F S' K → (newL d j es k).run F S K
  | [], j, S, S', rs, k, h, hk => by cases h; exact hk
  | e :: es, j, S, S', rs, k, h, hk => by
    simp only [newF] at h
    cases hc : (e.liveB && e.on (fun _ => false) && Nat.blt j 16 && Nat.blt (nid d j) 100000 && F.er (nid d j) && F.ew (nid d j)) with
    | false => rw [hc] at h; cases h
    | true =>
      rw [hc] at h
      simp only [cond_true] at h
      simp only [Bool.and_eq_true] at hc
      obtain ⟨⟨⟨⟨⟨c1, c2⟩, c3⟩, c4⟩, c5⟩, c6⟩ := hc
      split at h
      · rename_i rs' S1 h1
        cases h
        exact ⟨⟨liveB_live c1, c2, blt_lt c3⟩, lay1_of c4 c5 c6 rfl (newL_of es h1 hk)⟩
      · cases h
def frzF (F : Ft) : List AC → St → Option St
  | [], S => some S
  | .sl j r n :: cs, S => bif F.er j then (match S.G j with
    | some (r', .row e z l) => bif Nat.blt j 100000 && F.ew j then frzF F cs (S.lay j (some (r', .fro z l))) else none
    | _ => frzF F cs S) else none
  | _ :: cs, S => frzF F cs S
theorem frzL_of : ∀ (cs : List AC) {S S' : St} {k : AM}, frzF F cs S = some S' → k.run F S' K → (frzL cs k).run F S K
  | [], S, S', k, h, hk => by cases h; exact hk
  | .sl j r n :: cs, S, S', k, h, hk => by
    simp only [frzF] at h
    cases hF : F.er j with
    | false => rw [hF] at h; cases h
    | true =>
      rw [hF] at h
      simp only [cond_true] at h
      refine ⟨hF, ?_⟩
      split at h
      · rename_i r' e z l hG
        rw [hG]
        cases hc : (Nat.blt j 100000 && F.ew j) with
        | false => rw [hc] at h; cases h
        | true =>
          rw [hc] at h
          simp only [cond_true] at h
          simp only [Bool.and_eq_true] at hc
          exact ⟨blt_lt hc.1, hc.2, frzL_of cs h hk⟩
      · rename_i hne
        dsimp only
        split
        · rename_i r' e z l hG
          exact absurd hG (hne r' e z l)
        · exact frzL_of cs h hk
  | .v x :: cs, S, S', k, h, hk => frzL_of cs h hk
  | .ro _ _ _ :: cs, S, S', k, h, hk => frzL_of cs h hk
  | .ptr _ _ _ :: cs, S, S', k, h, hk => frzL_of cs h hk
  | .rp _ :: cs, S, S', k, h, hk => frzL_of cs h hk
  | .fn _ _ :: cs, S, S', k, h, hk => frzL_of cs h hk
  | .er :: cs, S, S', k, h, hk => frzL_of cs h hk
  | .sb _ _ _ _ :: cs, S, S', k, h, hk => frzL_of cs h hk
abbrev CfL := List (Nat × (Fn3 × List Nat × Bool))
def cfOf (l : CfL) (f : FuncId) : Option (List AV → Option Tmp → AM) := match find1 l f with
  | some (C, ws, al) => some (callM C (fun p => ws.any (Nat.beq p)) al)
  | none => none
theorem cfOf_ok {l : CfL} (h : ∀ p ∈ l, ConOk P p.1 p.2.1) : ∀ f m, cfOf l f = some m → GoodCall P f m := by
  intro f m hm
  unfold cfOf at hm
  split at hm
  · rename_i C ws al hf
    cases hm
    exact good_of_con (h _ (find1_mem hf)) _ _
  · cases hm
def resV (x : AV) (ids : List (Nat × Nat)) (rs : List Nat) (d : Nat) : AV := x.ren fun i => if 100000 ≤ i then (ids[i - 100000]?).getD (0, 0) else (nid d i, (rs[i]?).getD 0)
def callB (ids : List (Nat × Nat)) (vw : List Nat) (al : Bool) (d : Nat) : Bool := decide ((ids.map (·.1)).Nodup) && vw.all (fun i => !(ids.map (·.1)).contains i) && (!al || vw.isEmpty) && (ids.map (·.1)).all (fun i => !Nat.beq (i / 16) d)
def roB (al : Bool) (out : AV) (news es' : List Ent) : Bool := al || (out.noro && news.all Ent.noro && es'.all (fun e => match e with | .rbx _ => true | e => e.noro))
theorem call_of {C : Fn3} {wr : Nat → Bool} {al : Bool} {dst : Option Tmp} {aa args' : List AV} {ids : List (Nat × Nat)} {es news es' : List Ent} {vw : List Nat} {q : Prop} {out : AV} {S1 S2 S3 : St} {rs : List Nat}
    (hfz : (bif al then frzF F (cellsW wr 0 aa) S else some S) = some S1) (hn : nrmLf F S1 wr 0 aa [] [] [] = some (args', ids, es, vw, q)) (hB : callB ids vw al (dst.getD 0) = true) (hC : C args' es = some (out, news, es')) (hro : roB al out news es' = true) (hdn : (news.isEmpty || dst.isSome) = true)
    (hbk : backF F S1 ids es es' = some S2) (hnw : newF F (dst.getD 0) 0 news S2 = some (rs, S3)) (hq : q) (hk : (putD dst (resV out ids rs (dst.getD 0))).run F S3 K) : (callM C wr al aa dst).run F S K := by
  simp only [callB, Bool.and_eq_true, decide_eq_true_eq] at hB
  obtain ⟨⟨⟨b1, b2⟩, b3⟩, b4⟩ := hB
  have h1 : (nrmL wr 0 aa [] [] [] fun args' ids es vw => .need ((ids.map (·.1)).Nodup ∧ (∀ i ∈ vw, i ∉ ids.map (·.1)) ∧ (al = true → vw = []) ∧ (∀ i ∈ ids.map (·.1), i / 16 ≠ dst.getD 0)) <|
      orFail (C args' es) fun (out, news, es') => .need (al = true ∨ (out.noro = true ∧ news.all Ent.noro = true ∧ (es'.all fun e => match e with | .rbx _ => true | e => e.noro) = true)) <|
      .need (news = [] ∨ dst.isSome = true) <|
      backL ids es es' <| newL (dst.getD 0) 0 news fun rs => callM.putD' dst (out.ren fun i => if 100000 ≤ i then (ids[i - 100000]?).getD (0, 0) else (nid (dst.getD 0) i, (rs[i]?).getD 0))).run F S1 K := by
    refine nrmL_of aa hn hq (need_of ⟨b1, fun i hi => ?_, fun ha => ?_, fun i hi => ?_⟩ (orFail_of hC (need_of ?_ (need_of ?_ (backL_of ids es es' hbk (newL_of news hnw hk))))))
    · have := (List.all_eq_true.1 b2) i hi
      simpa using this
    · subst ha
      simpa using b3
    · have := (List.all_eq_true.1 b4) i hi
      intro he
      rw [he] at this
      simp [Nat.beq_refl] at this
    · simp only [roB, Bool.or_eq_true, Bool.and_eq_true] at hro
      exact hro.imp id fun h => ⟨h.1.1, h.1.2, h.2⟩
    · simp only [Bool.or_eq_true, List.isEmpty_iff] at hdn
      exact hdn
  unfold callM
  cases al with
  | false => cases hfz; exact h1
  | true => exact frzL_of _ hfz h1
theorem r_makeFunc {f : FuncId} {first caps : Array Operand} {aa : List AV} {ps : List (Nat × Nat)} (h0 : Nat.beq first.size 0 = true) (ha : rdL (Fs i) S caps.toList = some aa) (hp : ptrsOf aa = some ps) (hw : (Fs i).sw d = true) (k : runX Fs P T cf ops (i + 1) rest (S.put d (some (.g (.one (.fn f ps))))) K) :
    runA Fs P T cf ops i ⟨some d, .makeFunc (.func f) first caps, ty, pos, af, g⟩ rest S K :=
  need_of (Nat.eq_of_beq_eq_true h0) (getL_of _ ha (orFail_of hp (putD_of hw k)))
end
def AC.fit : AC → Prop
  | .ro z n l => l.length = n * z ∧ n ≤ 9223372036854775807
  | .v x => x.oneCell' = true
  | _ => True
def AG.fit : AG → Prop
  | .one c => c.fit
  | .agg cs => ∀ c ∈ cs, c.fit
def AV.fit : AV → Prop
  | .g x => x.fit
  | .tup xs => ∀ x ∈ xs, x.fit
def Ent.fit : Ent → Prop
  | .box cs => ∀ c ∈ cs, c.fit
  | .rbx cs => ∀ c ∈ cs, c.fit
  | .row _ z l => ∃ n, l.length = n * z ∧ n ≤ 9223372036854775807
  | .fro _ _ => True
  | .gst _ => True
section
variable {P : Program} {T : Tab} {w0 w : World} {M N : Nat → Prop} {b0 : Nat → Value} {nt : Nat} {β : Nat → Value} {S : St} {tm : Array Value} {ok : Nat → Prop} {G : Blk}
theorem fitC {c : AC} {y : Value} (h : c.rep w β G ok y) : c.fit := by
  cases c with
  | v x => exact h.2
  | ro z n l =>
    obtain ⟨⟨h1, _⟩, A, c, _, h2, h3, _⟩ := h
    unfold maxLen at h3
    exact ⟨h1, by omega⟩
  | _ => exact trivial
theorem fitCs {cs : List AC} {vs : Array Value} (h : CsRep w β G ok cs vs) : ∀ c ∈ cs, c.fit := by
  intro c hc
  obtain ⟨j, hj⟩ := List.getElem?_of_mem hc
  obtain ⟨z, _, hr⟩ := h.2 j c hj
  exact fitC hr
theorem fitG {x : AG} {y : Value} (h : x.rep w β G ok y) : x.fit := by
  cases x with
  | one c => exact fitC h
  | agg cs => obtain ⟨vs, _, hc⟩ := h; exact fitCs hc
theorem fitA {a : AV} {y : Value} (h : a.rep w β G ok y) : a.fit := by
  cases a with
  | g x => exact fitG h
  | tup xs =>
    obtain ⟨vs, _, _, h3⟩ := h
    intro x hx
    obtain ⟨j, hj⟩ := List.getElem?_of_mem hx
    obtain ⟨z, _, hr⟩ := h3 j x hj
    exact fitG hr
theorem fitE {e : Ent} {i : Nat} (h : e.rep w β G ok i) : e.fit := by
  cases e with
  | box cs => obtain ⟨g, vs, t, _, _, hc⟩ := h; exact fitCs hc
  | rbx cs => obtain ⟨g, vs, t, fr, _, _, hc, _⟩ := h; exact fitCs hc
  | row e z l =>
    obtain ⟨_, e', n, _, h1, h2⟩ := h
    refine ⟨n, h1, ?_⟩
    rcases h2 with ⟨_, rfl⟩ | ⟨g, cap, cur, _, _, _, h5, h6, _⟩
    · omega
    · unfold maxLen at h6; omega
  | fro z l => exact trivial
  | gst R => exact trivial
theorem con_fn (hT : TabOk P T) {f : FuncId} {C : Fn3} {fn : Func} {c : Code} (hf : P.funcs[f]? = some fn) (hb : fn.body = some c) (hent : ∀ args w, (callFunc f args).run P w = .ok (.enter f args) w)
    (h : ∀ aa es out news es', C aa es = some (out, news, es') → (∀ a ∈ aa, a.fit) → (∀ e ∈ es, e.fit) → Nat.ble aa.length fn.ntmps = true ∧ es'.length = es.length ∧ AW P fn.ntmps c (retK T fn.results out news es') ⟨argsE aa, Gin es⟩) : ConOk P f C := by
  refine ⟨hent, fun aa es out news es' hC w vs β N hN hs hvs => ?_⟩
  have h1 : ∀ a ∈ aa, a.fit := fun a ha => by
    obtain ⟨j, hj⟩ := List.getElem?_of_mem ha
    exact fitA (hs.env j a hj).2
  have h2 : ∀ e ∈ es, e.fit := fun e he => by
    obtain ⟨j, hj⟩ := List.getElem?_of_mem he
    exact fitE (hs.ents (100000 + j) 0 e (by show Gin es _ = _; unfold Gin; rw [if_pos (by omega), show 100000 + j - 100000 = j by omega, hj]; rfl))
  obtain ⟨k1, k2, k3⟩ := h aa es out news es' hC h1 h2
  -- the body, once, at these arguments
  refine calls_of_wp hf hb ?_
  have hs2 := hs.wider (fn.ntmps - vs.size) undef
  have e1 : vs.size + (fn.ntmps - vs.size) = fn.ntmps := by have := Nat.le_of_ble_eq_true k1; omega
  rw [e1] at hs2
  refine wp_mono (k3 w (Mof β es) N β β w _ hs2) ?_
  rintro e a w' ⟨β1, S1, hK, hs1, hd⟩
  have fin : RetOk T fn.results out news es' S1 → ∃ v, (results fn a.tmps).run P w' = .ok v w' ∧ (fun e w' => ∃ v β', e = Ending.returned v ∧ Sim w (Mof β es) N β 0 β' ⟨fun _ => none, Gout news es'⟩ w' #[] ∧ out.rep w' β' (Gout news es') (okB w N β' (Gout news es') w') v ∧
      es'.length = es.length ∧ (es'.all fun e => e.on fun _ => false) = true ∧ (∀ p ∈ out.refs, ∃ e, Gout news es' p.1 = some (p.2, e))) (.returned v) w' := by
    intro hr
    obtain ⟨v, β', g1, g2, g3, g5⟩ := ret_sound (fn := fn) hT hs1 hr
    refine ⟨v, g1, v, β', rfl, g2, g3, k2, ?_, g5⟩
    obtain ⟨_, _, _, _, _, _, _, _, _, _, h7, _⟩ := hr
    rw [List.all_eq_true]
    intro e he
    obtain ⟨j, hj⟩ := List.getElem?_of_mem he
    exact (h7 j e hj).2
  cases e with
  | normal => exact ⟨hd, fin hK⟩
  | ret => exact ⟨hd, fin hK⟩
  | _ => exact hK.elim
def HasG (S : St) : Nat → List Ent → Prop
  | _, [] => True
  | k, e :: l => S.G k = some (0, e) ∧ e.on (fun _ => false) = true ∧ HasG S (k + 1) l
def HasN (S : St) : List (Nat × Nat) → List Ent → Prop
  | [], [] => True
  | p :: ids, e :: l => S.G p.1 = some (p.2, e) ∧ e.on (fun _ => false) = true ∧ HasN S ids l
  | _, _ => False
theorem HasG.get : ∀ {l : List Ent} {k : Nat}, HasG S k l → ∀ (j : Nat) (e : Ent), l[j]? = some e → S.G (k + j) = some (0, e) ∧ e.on (fun _ => false) = true
  | [], k, h, j, e, hj => by simp at hj
  | e0 :: l, k, h, j, e, hj => by
    cases j with
    | zero => cases hj; exact ⟨h.1, h.2.1⟩
    | succ j =>
      have := HasG.get h.2.2 j e (by simpa using hj)
      rwa [show k + 1 + j = k + (j + 1) by omega] at this
theorem HasN.get : ∀ {ids : List (Nat × Nat)} {l : List Ent}, HasN S ids l → ids.length = l.length ∧ ∀ (j : Nat) (e : Ent), l[j]? = some e → ∃ p, ids[j]? = some p ∧ S.G p.1 = some (p.2, e) ∧ e.on (fun _ => false) = true
  | [], [], h => ⟨rfl, fun j e hj => by simp at hj⟩
  | p :: ids, e0 :: l, h => by
    obtain ⟨h1, h2⟩ := HasN.get h.2.2
    refine ⟨by simp [h1], fun j e hj => ?_⟩
    cases j with
    | zero => cases hj; exact ⟨p, rfl, h.1, h.2.1⟩
    | succ j =>
      obtain ⟨q, q1, q2⟩ := h2 j e (by simpa using hj)
      exact ⟨q, by simpa using q1, q2⟩
  | [], _ :: _, h => h.elim
  | _ :: _, [], h => h.elim
def idx : List (Nat × Nat) → Nat → Nat
  | [], _ => 0
  | p :: l, i => bif Nat.beq p.1 i then 0 else idx l i + 1
def tau (ids : List (Nat × Nat)) (i : Nat) : Nat := bif Nat.ble 100000 i then i else idx ids i
theorem idx_at : ∀ {ids : List (Nat × Nat)} {p : Nat × Nat}, (ids.map (·.1)).Nodup → p ∈ ids → ids[idx ids p.1]? = some p
  | q :: l, p, hn, hp => by
    rw [List.map_cons, List.nodup_cons] at hn
    unfold idx
    rcases List.mem_cons.1 hp with rfl | hp
    · simp [Nat.beq_refl]
    · have hne : Nat.beq q.1 p.1 = false := by
        rw [Bool.eq_false_iff]
        intro hb
        have := Nat.eq_of_beq_eq_true hb
        exact hn.1 (by rw [this]; exact List.mem_map_of_mem (f := (·.1)) hp)
      simp only [hne, cond_false]
      simpa using idx_at hn.2 hp
def retB (ids : List (Nat × Nat)) (refs : List (Nat × Nat)) (n : Nat) : Bool := decide ((ids.map (·.1)).Nodup) && Nat.ble ids.length 100 && ids.all (fun p => Nat.blt p.1 100000) && refs.all (fun p => ids.contains p || (Nat.ble 100000 p.1 && Nat.blt p.1 (100000 + n) && Nat.beq p.2 0))
def ofL (E : List (Nat × AV)) (G : List (Nat × (Nat × Ent))) : St := ⟨find1 E, find1 G⟩
def HasE (S : St) : List (Nat × AV) → Prop
  | [] => True
  | p :: l => S.E p.1 = some p.2 ∧ HasE S l
def HasB (S : St) : List (Nat × (Nat × Ent)) → Prop
  | [] => True
  | p :: l => S.G p.1 = some p.2 ∧ HasB S l
theorem HasE.mem : ∀ {l : List (Nat × AV)}, HasE S l → ∀ p ∈ l, S.E p.1 = some p.2
  | p0 :: l, h, p, hp => by
    rcases List.mem_cons.1 hp with rfl | hp
    · exact h.1
    · exact HasE.mem h.2 p hp
theorem HasB.mem : ∀ {l : List (Nat × (Nat × Ent))}, HasB S l → ∀ p ∈ l, S.G p.1 = some p.2
  | p0 :: l, h, p, hp => by
    rcases List.mem_cons.1 hp with rfl | hp
    · exact h.1
    · exact HasB.mem h.2 p hp
def keyB (G : List (Nat × (Nat × Ent))) (i : Nat) : Bool := G.any fun p => Nat.beq p.1 i
def onB (E : List (Nat × AV)) (G : List (Nat × (Nat × Ent))) : Bool := E.all (fun p => p.2.on (keyB G)) && G.all (fun p => p.2.2.on (keyB G))
theorem find1_key {G : List (Nat × (Nat × Ent))} {i : Nat} (h : keyB G i = true) : ∃ x, find1 G i = some x := by
  unfold keyB at h
  induction G with
  | nil => simp at h
  | cons p l ih =>
    obtain ⟨k, x⟩ := p
    unfold find1
    cases hk : Nat.beq k i with
    | true => exact ⟨x, rfl⟩
    | false =>
      simp only [List.any_cons, hk, Bool.false_or] at h
      exact ih h
theorem cut_ofL {nt : Nat} {c : Code} {KE : Exit → St → Prop} (E : List (Nat × AV)) (G : List (Nat × (Nat × Ent))) (hB : onB E G = true) (hE : HasE S E) (hG : HasB S G) (h : AW P nt c KE (ofL E G)) : AW P nt c KE S := by
  simp only [onB, Bool.and_eq_true] at hB
  refine aw_cut (find1 E) (find1 G) (keyB G) (fun i hi => ?_) (fun i r e hi => ?_) (fun i a hi => ?_) h
  · obtain ⟨x, hx⟩ := find1_key hi
    rw [hx]; exact (hG.mem _ (find1_mem hx)).symm
  · have hm := find1_mem hi
    exact ⟨hG.mem _ hm, (List.all_eq_true.1 hB.2) _ hm⟩
  · have hm := find1_mem hi
    exact ⟨hE.mem _ hm, (List.all_eq_true.1 hB.1) _ hm⟩
def Is (S : St) (E : List (Nat × AV)) (G : List (Nat × (Nat × Ent))) : Prop := onB E G = true ∧ HasE S E ∧ HasB S G
theorem aw_rounds {nt : Nat} {c : Code} {KE : Exit → St → Prop} {σ : Type} (E : σ → List (Nat × AV)) (G : σ → List (Nat × (Nat × Ent))) (q : σ → Prop) (μ : σ → Nat) (g0 : σ) (hq : q g0) (h0 : Is S (E g0) (G g0))
    (round : ∀ g, q g → AW P nt c (fun e S'' => match e with
      | .normal => ∃ g', q g' ∧ Is S'' (E g') (G g') ∧ μ g' < μ g
      | e => KE e S'') (ofL (E g) (G g))) : AW P nt (.loop c) KE S := by
  refine aw_loop (fun g S' => q g ∧ Is S' (E g) (G g)) μ g0 ⟨hq, h0⟩ fun g S' ⟨hg, hI⟩ => ?_
  refine cut_ofL (E g) (G g) hI.1 hI.2.1 hI.2.2 ((round g hg).mono fun e S'' hK => ?_)
  cases e with
  | normal => obtain ⟨g', h1, h2, h3⟩ := hK; exact ⟨g', ⟨h1, h2⟩, h3⟩
  | _ => exact hK
end
section
variable {P : Program} {T : Tab} {cf : FuncId → Option (List AV → Option Tmp → AM)} {F : Ft} {Fs : Nat → Ft} {i : Nat} {rest : List Oper} {S : St} {K : St → Prop} {ops : Array Oper} {d : Tmp} {x y c : Operand} {a b : AV} {ty : TypeId} {pos : String} {af : Array Edge} {g : Option (Nat × Bool)}
theorem r_gt {o : Op} {j : Nat} {t : Bool} {dj : Tmp} (hj : (ops[j]?).bind (·.dst) = some dj) (hc : rdO (Fs i) S (.tmp dj) = some (vB t)) (ht : t = true) (hw : (Fs i).sw d = true)
    (h1 : runA Fs P T cf ops i ⟨some d, o, ty, pos, af, some (j, true)⟩ rest S K) : runX Fs P T cf ops i (⟨some d, o, ty, pos, af, some (j, true)⟩ :: rest) S K :=
  r_guard hj hc hw (fun _ => h1) (fun h => by subst ht; cases h)
theorem r_gf {o : Op} {j : Nat} {t : Bool} {dj : Tmp} (hj : (ops[j]?).bind (·.dst) = some dj) (hc : rdO (Fs i) S (.tmp dj) = some (vB t)) (ht : t = false) (hw : (Fs i).sw d = true)
    (h1 : runA Fs P T cf ops i ⟨some d, o, ty, pos, af, some (j, false)⟩ rest S K) : runX Fs P T cf ops i (⟨some d, o, ty, pos, af, some (j, false)⟩ :: rest) S K :=
  r_guard hj hc hw (fun _ => h1) (fun h => by subst ht; cases h)
theorem r_nt {o : Op} {j : Nat} {t : Bool} {dj : Tmp} (hj : (ops[j]?).bind (·.dst) = some dj) (hc : rdO (Fs i) S (.tmp dj) = some (vB t)) (ht : t = false) (hw : (Fs i).sw d = true)
    (h2 : runX Fs P T cf ops (i + 1) rest (S.put d (some (.tup []))) K) : runX Fs P T cf ops i (⟨some d, o, ty, pos, af, some (j, true)⟩ :: rest) S K :=
  r_guard hj hc hw (fun h => by subst ht; cases h) (fun _ => h2)
theorem r_nf {o : Op} {j : Nat} {t : Bool} {dj : Tmp} (hj : (ops[j]?).bind (·.dst) = some dj) (hc : rdO (Fs i) S (.tmp dj) = some (vB t)) (ht : t = true) (hw : (Fs i).sw d = true)
    (h2 : runX Fs P T cf ops (i + 1) rest (S.put d (some (.tup []))) K) : runX Fs P T cf ops i (⟨some d, o, ty, pos, af, some (j, false)⟩ :: rest) S K :=
  r_guard hj hc hw (fun h => by subst ht; cases h) (fun _ => h2)
def cmpB (o : BinOp) (m n : Bool) : Option Bool := match o with
  | .eql => some (m == n)
  | .neq => some (m != n)
  | _ => none
theorem r_cmpB {o : BinOp} {t yt : TypeId} {m n : Bool} {q : Bool} (hx : rdV (Fs i) S x = some (.bool m)) (hy : rdV (Fs i) S y = some (.bool n)) (hq : cmpB o m n = some q) (he : ∀ w, (Op.equal t (.bool m) (.bool n)).run P w = .ok (m == n) w) (hw : (Fs i).sw d = true) (k : runX Fs P T cf ops (i + 1) rest (S.put d (some (vB q))) K) :
    runA Fs P T cf ops i ⟨some d, .binOp o t x y yt, ty, pos, af, g⟩ rest S K := by
  refine r_pure2 hx hy (r := .bool q) (fun w => ?_) rfl hw k
  have e := he w
  cases o <;> simp only [cmpB, Option.some.injEq] at hq <;> first | (cases hq; done) | skip
  · subst hq
    simp [eqGuard, binOp, e]
  · subst hq
    simp [eqGuard, binOp, e, bne]
theorem r_nilCheck {j r off : Nat} {e : Ent} (hx : rdO (Fs i) S x = some (.g (.one (.ptr j r off)))) (her : (Fs i).er j = true) (hG : S.G j = some (r, e)) (hw : (Fs i).sw d = true)
    (k : runX Fs P T cf ops (i + 1) rest (S.put d (some (.g (.one (.ptr j r off))))) K) : runA Fs P T cf ops i ⟨some d, .nilCheck x, ty, pos, af, g⟩ rest S K :=
  getO_of hx (getE_of her hG (need_of rfl (putD_of hw k)))
theorem r_nilCheck_rp {l : List Value} (hx : rdO (Fs i) S x = some (.g (.one (.rp l)))) (hw : (Fs i).sw d = true)
    (k : runX Fs P T cf ops (i + 1) rest (S.put d (some (.g (.one (.rp l))))) K) : runA Fs P T cf ops i ⟨some d, .nilCheck x, ty, pos, af, g⟩ rest S K :=
  getO_of hx (putD_of hw k)
def rdVo (F : Ft) (S : St) : Option Operand → Option (Option Value)
  | none => some none
  | some x => match rdV F S x with
    | some v => some (some v)
    | none => none
theorem getVo_of {k : Option Value → AM} {v : Option Value} : ∀ (x : Option Operand), rdVo F S x = some v → (k v).run F S K → (getVo x k).run F S K
  | none, h, hk => by cases h; exact hk
  | some x, h, hk => by
    simp only [rdVo] at h
    split at h
    · rename_i u hu
      cases h
      exact getV_of (k := fun a => k (some a)) hu hk
    · cases h
theorem r_slice_ro {t e z n by' : Nat} {agg : Bool} {l : List Value} {lo hi mx : Option Operand} {lv hv mv : Option Value} {p q m : Int} (hx : rdO (Fs i) S x = some (.g (.one (.ro z n l))))
    (hlo : rdVo (Fs i) S lo = some lv) (hhi : rdVo (Fs i) S hi = some hv) (hmx : rdVo (Fs i) S mx = some mv) (he : find1 T.elt t = some (none, e, agg, z, by'))
    (h1 : lo0 lv = some p) (h2 : hi0 n hv = some q) (h3 : hi0 n mv = some m) (h4 : 0 ≤ p ∧ p ≤ q ∧ q ≤ m ∧ m ≤ n) (h5 : hv = none → mv = none) (hw : (Fs i).sw d = true)
    (k : runX Fs P T cf ops (i + 1) rest (S.put d (some (.g (.one (.ro z (q - p).toNat ((l.drop (p.toNat * z)).take ((q - p).toNat * z))))))) K) : runA Fs P T cf ops i ⟨some d, .slice t x lo hi mx, ty, pos, af, g⟩ rest S K := by
  have e1 : (orFail (find1 T.elt t) fun (arr, e, agg, sz, _) => orFail (lo0 lv) fun l' => orFail (hi0 n hv) fun h => orFail (hi0 n mv) fun m => .need (arr = none ∧ z = sz ∧ 0 ≤ l' ∧ l' ≤ h ∧ h ≤ m ∧ m ≤ n ∧ (hv = none → mv = none)) (putD (some d) (.g (.one (.ro z (h - l').toNat ((l.drop (l'.toNat * sz)).take ((h - l').toNat * sz))))))).run (Fs i) S (fun S' => runX Fs P T cf ops (i + 1) rest S' K) :=
    orFail_of he (orFail_of h1 (orFail_of h2 (orFail_of h3 (need_of ⟨rfl, rfl, h4.1, h4.2.1, h4.2.2.1, h4.2.2.2, h5⟩ (putD_of hw k)))))
  exact getO_of hx (getVo_of lo hlo (getVo_of hi hhi (getVo_of mx hmx e1)))
theorem r_slice_sl {t e z n by' r j : Nat} {agg : Bool} {e' : Option TypeId} {l : List Value} {lo hi mx : Option Operand} {lv hv mv : Option Value} {p q m : Int} (hx : rdO (Fs i) S x = some (.g (.one (.sl j r n))))
    (hlo : rdVo (Fs i) S lo = some lv) (hhi : rdVo (Fs i) S hi = some hv) (hmx : rdVo (Fs i) S mx = some mv) (he : find1 T.elt t = some (none, e, agg, z, by')) (her : (Fs i).er j = true) (hew : (Fs i).ew j = true) (hG : S.G j = some (r, .row e' z l)) (hj : Nat.blt j 100000 = true)
    (h1 : lo0 lv = some p) (h2 : hi0 n hv = some q) (h3 : hi0 n mv = some m) (h4 : 0 ≤ p ∧ p ≤ q ∧ q ≤ m ∧ m ≤ n ∧ n * z ≤ l.length) (h5 : hv = none → mv = none) (h6 : lv.isSome = true) (hw : (Fs i).sw d = true)
    (k : runX Fs P T cf ops (i + 1) rest ((S.lay j (some (r, .fro z l))).put d (some (.g (.one (.ro z (q - p).toNat ((l.drop (p.toNat * z)).take ((q - p).toNat * z))))))) K) : runA Fs P T cf ops i ⟨some d, .slice t x lo hi mx, ty, pos, af, g⟩ rest S K := by
  refine getO_of hx (getVo_of lo hlo (getVo_of hi hhi (getVo_of mx hmx (orFail_of he (orFail_of h1 (orFail_of h2 (orFail_of h3 (getE_of her hG (need_of ⟨rfl, rfl, rfl, h4.2.2.2.2, h4.1, h4.2.1, h4.2.2.1, h4.2.2.2.1, h5⟩ ?_)))))))))
  cases lv <;> cases mv <;> simp at h6 <;> exact need_of (blt_lt hj) ⟨hew, putD_of hw k⟩
theorem exr_of {s : Sem Value} {r : Value} (hr : ∀ w, s.run P w = .ok r w) (hok : okv r = true) (hw : (Fs i).sw d = true) (k : runX Fs P T cf ops (i + 1) rest (S.put d (some (ofv r))) K) : (exr P s (some d)).run (Fs i) S (fun S' => runX Fs P T cf ops (i + 1) rest S' K) := ⟨r, ⟨hok, hr⟩, putD_of hw k⟩
theorem getP_of {F : Ft} {x : Operand} {f : Value → AM} {m : AV → AM} {u : Value} {K : St → Prop} (hx : rdV F S x = some u) (k : (f u).run F S K) : (getO x fun a => match pval a with | some v => f v | none => m a).run F S K := by
  unfold rdV at hx
  split at hx
  · rename_i a ha
    refine getO_of ha ?_
    simp only [hx]
    exact k
  · cases hx
theorem r_convert {s t : TypeId} {u r : Value} (hx : rdV (Fs i) S x = some u) (hr : ∀ w, (convert s t u).run P w = .ok r w) (hok : okv r = true) (hw : (Fs i).sw d = true) (k : runX Fs P T cf ops (i + 1) rest (S.put d (some (ofv r))) K) :
    runA Fs P T cf ops i ⟨some d, .convert s t x, ty, pos, af, g⟩ rest S K := getP_of (f := fun v => exr P (convert s t v) (some d)) hx (exr_of hr hok hw k)
theorem r_index {t : TypeId} {u v r : Value} (hx : rdV (Fs i) S x = some u) (hy : rdV (Fs i) S y = some v) (hr : ∀ w, (Instr.index t u v).run P w = .ok r w) (hok : okv r = true) (hw : (Fs i).sw d = true) (k : runX Fs P T cf ops (i + 1) rest (S.put d (some (ofv r))) K) :
    runA Fs P T cf ops i ⟨some d, .index t x y, ty, pos, af, g⟩ rest S K := getP_of (f := fun u => getV y fun b => exr P (Instr.index t u b) (some d)) hx (getV_of hy (exr_of hr hok hw k))
theorem enters_of {f : FuncId} {fn : Func} {c : Code} (hf : P.funcs[f]? = some fn) (hb : fn.body = some c) (hn : (fn.name == "runtime.NumGoroutine") = false) (args : Array Value) (w : World) : (callFunc f args).run P w = .ok (.enter f args) w := by
  have hn2 : ¬ fn.name = "runtime.NumGoroutine" := by simpa using hn
  simp [callFunc, hf, hb, hn2]
noncomputable def cOf {σ : Type} (A : σ → List AV × List Ent) (R : σ → AV × List Ent × List Ent) : Fn3 := fun aa es => open Classical in if h : ∃ g, A g = (aa, es) then some (R h.choose) else none
theorem cOf_some {σ : Type} {A : σ → List AV × List Ent} {R : σ → AV × List Ent × List Ent} {aa : List AV} {es : List Ent} {out : AV} {news es' : List Ent} (h : cOf A R aa es = some (out, news, es')) : ∃ g, aa = (A g).1 ∧ es = (A g).2 ∧ out = (R g).1 ∧ news = (R g).2.1 ∧ es' = (R g).2.2 := by
  unfold cOf at h
  split at h
  · rename_i hx
    have h1 := hx.choose_spec
    simp only [Option.some.injEq] at h
    exact ⟨hx.choose, by rw [h1], by rw [h1], by rw [h], by rw [h], by rw [h]⟩
  · cases h
theorem cOf_at {σ : Type} {A : σ → List AV × List Ent} {R : σ → AV × List Ent × List Ent} (hA : ∀ g g', A g = A g' → R g = R g') (g : σ) : cOf A R (A g).1 (A g).2 = some (R g) := by
  unfold cOf
  have hx : ∃ g', A g' = ((A g).1, (A g).2) := ⟨g, rfl⟩
  rw [dif_pos hx, hA hx.choose g hx.choose_spec]
theorem con_cOf {σ : Type} {A : σ → List AV × List Ent} {R : σ → AV × List Ent × List Ent} (hT : TabOk P T) {f : FuncId} {fn : Func} {c : Code} (hf : P.funcs[f]? = some fn) (hb : fn.body = some c) (hn : (fn.name == "runtime.NumGoroutine") = false)
    (h : ∀ g, (∀ a ∈ (A g).1, a.fit) → (∀ e ∈ (A g).2, e.fit) → Nat.ble (A g).1.length fn.ntmps = true ∧ (R g).2.2.length = (A g).2.length ∧ AW P fn.ntmps c (retK T fn.results (R g).1 (R g).2.1 (R g).2.2) ⟨argsE (A g).1, Gin (A g).2⟩) : ConOk P f (cOf A R) := by
  refine con_fn hT hf hb (enters_of hf hb hn) fun aa es out news es' hC hfa hfe => ?_
  obtain ⟨g, rfl, rfl, rfl, rfl, rfl⟩ := cOf_some hC
  exact h g hfa hfe
theorem aw_ct {o : Operand} {b : Bool} {nt : Nat} {x y : Code} {KE : Exit → St → Prop} (hb : evalO S o = some (.g (.one (.v (.bool b))))) (h : b = true) (ht : AW P nt x KE S) : AW P nt (.cond o x y) KE S :=
  aw_cond hb (fun _ => ht) (fun h' => by rw [h] at h'; cases h')
theorem aw_cf {o : Operand} {b : Bool} {nt : Nat} {x y : Code} {KE : Exit → St → Prop} (hb : evalO S o = some (.g (.one (.v (.bool b))))) (h : b = false) (ht : AW P nt y KE S) : AW P nt (.cond o x y) KE S :=
  aw_cond hb (fun h' => by rw [h] at h'; cases h') (fun _ => ht)
def LOk (P : Program) (l : CfL) : Prop := ∀ p ∈ l, ConOk P p.1 p.2.1
theorem LOk.nil : LOk P [] := fun p hp => by cases hp
theorem LOk.cons {f : Nat} {C : Fn3} {ws : List Nat} {al : Bool} {l : CfL} (h : ConOk P f C) (hl : LOk P l) : LOk P ((f, (C, ws, al)) :: l) := fun p hp => by
  rcases List.mem_cons.1 hp with rfl | hp
  · exact h
  · exact hl p hp
theorem LOk.ok {l : CfL} (h : LOk P l) : ∀ f m, cfOf l f = some m → GoodCall P f m := cfOf_ok h
end
section
variable {P : Program} {T : Tab} {w0 w : World} {M N : Nat → Prop} {b0 : Nat → Value} {nt : Nat} {β : Nat → Value} {S : St} {tm : Array Value} {c : Code} {KE : Exit → St → Prop}
theorem aw_freeze (j : Nat) {r z : Nat} {e : Option TypeId} {l : List Value} (hG : S.G j = some (r, .row e z l)) (hj : Nat.blt j 100000 = true) (h : AW P nt c KE (S.lay j (some (r, .fro z l)))) : AW P nt c KE S := fun w0 M N b0 β w tm hs => by
  obtain ⟨S', β', hk, hs', _, _⟩ := frzC_run (F := Ft.all) (S := S) (K := fun S' => AW P nt c KE S') (c := .sl j r 0) (k := .done) ⟨rfl, by rw [hG]; exact ⟨blt_lt hj, rfl, h⟩⟩ hs
  exact hk w0 M N b0 β' w tm hs'
def wkC (G : Blk) (z : Nat) : AC → Option (AC × Prop)
  | .v (.slice none 0 0) => some (.ro z 0 [], True)
  | .sl i r n => match G i with
    | some (r', .fro z' l) => some (.ro z' n l, r = r' ∧ 0 < z' ∧ l.length = n * z')
    | _ => some (.sl i r n, True)
  | c => some (c, True)
def wkL (G : Blk) (z : Nat) : List AC → Option (List AC × Prop)
  | [] => some ([], True)
  | c :: l => match wkC G z c, wkL G z l with
    | some (c', p), some (l', q) => some (c' :: l', p ∧ q)
    | _, _ => none
theorem wkC_ok {ok : Nat → Prop} (hs : Sim w0 M N b0 nt β S w tm) {z : Nat} {c c' : AC} {q : Prop} {y : Value} (h : wkC S.G z c = some (c', q)) (hq : q) (hr : c.rep w β S.G (okB w0 N β S.G w) y) : c'.rep w β S.G (okB w0 N β S.G w) y := by
  unfold wkC at h
  split at h
  · cases h
    obtain ⟨rfl, _⟩ := hr
    exact ⟨⟨by simp, rfl⟩, none, 0, rfl, Nat.le_refl _, by unfold maxLen; omega, fun h => absurd h (Nat.lt_irrefl _)⟩
  · rename_i i r n
    split at h
    · rename_i r' z' l hG
      cases h
      obtain ⟨rfl, h2, h3⟩ := hq
      obtain ⟨A, m, cc, g1, g2, rfl⟩ := hs.cur_sl hr hG
      obtain ⟨n2, hro⟩ := hs.ents i r _ hG
      rw [g1] at hro
      have e2 : n2 = m := by
        obtain ⟨_, A', c', g, _⟩ := hro
        cases g; rfl
      subst e2
      exact (ro_whole hro h3 h2).1
    · cases h; exact hr
  · cases h; exact hr
theorem wkL_ok (hs : Sim w0 M N b0 nt β S w tm) {z : Nat} : ∀ {cs cs' : List AC} {q : Prop}, wkL S.G z cs = some (cs', q) → q → cs'.length = cs.length ∧ ∀ (j : Nat) (c' : AC), cs'[j]? = some c' → ∃ c, cs[j]? = some c ∧ ∀ y, c.rep w β S.G (okB w0 N β S.G w) y → c'.rep w β S.G (okB w0 N β S.G w) y
  | [], cs', q, h, hq => by cases h; exact ⟨rfl, fun j c' hj => by simp at hj⟩
  | c :: cs, cs', q, h, hq => by
    simp only [wkL] at h
    split at h
    · rename_i c1 p1 l1 q1 h1 h2
      cases h
      obtain ⟨g1, g2⟩ := wkL_ok hs h2 hq.2
      refine ⟨by simp [g1], fun j c' hj => ?_⟩
      cases j with
      | zero => cases hj; exact ⟨c, rfl, fun y hy => wkC_ok (ok := fun _ => True) hs h1 hq.1 hy⟩
      | succ j =>
        obtain ⟨d, k1, k2⟩ := g2 j c' (by simpa using hj)
        exact ⟨d, by simpa using k1, k2⟩
    · cases h
theorem aw_box (b z : Nat) {r : Nat} {cs cs' : List AC} {q : Prop} (hG : S.G b = some (r, .box cs)) (hw : wkL S.G z cs = some (cs', q)) (hq : q) (hb : Nat.blt b 100000 = true) (h : AW P nt c KE (S.lay b (some (r, .box cs')))) : AW P nt c KE S := fun w0 M N b0 β w tm hs => by
  obtain ⟨l1, l2⟩ := wkL_ok hs hw hq
  obtain ⟨g, vs, t, e1, e2, e3⟩ := hs.ents b r _ hG
  obtain ⟨β', k1, k2, k3, k4⟩ := hs.change1 (w' := w) b r (.box cs') (β b) rfl rfl rfl (Nat.le_refl _)
    (fun r1 e1 hg => by rw [hG] at hg; cases hg; exact ⟨Nat.le_refl _, fun _ => rfl⟩) (fun k _ _ => rfl)
    (fun g' _ hg' => ⟨(hs.fresh b r _ g' hG trivial hg').1, .inr ⟨r, _, hG, trivial, hg'⟩⟩) (fun _ => ⟨_, hG⟩)
    (fun β' G' hβ hG' hok hold hβi => by
      refine ⟨g, vs, t, by rw [hβi]; exact e1, e2, ?_⟩
      have hc : CsRep w β S.G (okB w0 N β S.G w) cs' vs := ⟨by rw [e3.1, l1], fun j c' hj => by
        obtain ⟨d, m1, m2⟩ := l2 j c' hj
        obtain ⟨y, n1, n2⟩ := e3.2 j d m1
        exact ⟨y, n1, m2 y n2⟩⟩
      exact hc.mono hok hold)
  exact h w0 M N b0 β' w tm k1
end
def Rep0 (w : World) (a : AV) (z : Value) : Prop := a.rep w (fun _ => undef) (fun _ => none) (fun b => b < w.heap.size) z
theorem ownB_none {β : Nat → Value} {G : Blk} (h : ∀ i, G i = none) (b : Nat) : ¬ ownB β G b := by
  rintro ⟨i, r, e, hi, _⟩
  rw [h] at hi; cases hi
theorem gin_nil (i : Nat) : Gin [] i = none := by
  unfold Gin
  split
  · simp
  · rfl
theorem law_run {P : Program} {f : FuncId} {C : Fn3} (hC : ConOk P f C) {aa : List AV} (h : C aa [] = some (vB true, [], [])) {vs : Array Value} {w : World} (hs : vs.size = aa.length) (hr : ∀ (j : Nat) (a : AV), aa[j]? = some a → ∃ z, vs[j]? = some z ∧ Rep0 w a z) (hgl : Glo w) (hgz : gsz ≤ w.heap.size) :
    Calls P f vs w fun e w' => e = .returned (.bool true) ∧ Below w.heap.size w w' := by
  have hG : Gin [] = fun _ => none := funext gin_nil
  have hM : ∀ b, ¬ Mof (fun _ => undef) [] b := by
    rintro b ⟨j, e, hj, _⟩
    simp at hj
  have hok : ∀ b, okB w (fun b => b < w.heap.size) (fun _ => undef) (Gin []) w b ↔ b < w.heap.size := fun b =>
    ⟨fun h => h.1, fun h => ⟨h, ownB_none gin_nil b, fun h => h⟩⟩
  have hok2 : okB w (fun b => b < w.heap.size) (fun _ => undef) (Gin []) w = fun b => b < w.heap.size := funext fun b => propext (hok b)
  have sim : Sim w (Mof (fun _ => undef) []) (fun b => b < w.heap.size) (fun _ => undef) vs.size (fun _ => undef) ⟨argsE aa, Gin []⟩ w vs := by
    refine ⟨rfl, rfl, rfl, ⟨hgl, fun b hb => ⟨by show b < w.heap.size; omega, hM b, by omega⟩⟩, Nat.le_refl _, fun _ _ _ => rfl, fun i r e hi => ?_, fun i j r e r' e' b hi => ?_, fun i r e b hi => ?_, fun i e _ hi => ?_, rfl, fun i a ha => ?_⟩
    · rw [show (⟨argsE aa, Gin []⟩ : St).G i = Gin [] i from rfl, gin_nil] at hi; cases hi
    · rw [show (⟨argsE aa, Gin []⟩ : St).G i = Gin [] i from rfl, gin_nil] at hi; cases hi
    · rw [show (⟨argsE aa, Gin []⟩ : St).G i = Gin [] i from rfl, gin_nil] at hi; cases hi
    · rw [show (⟨argsE aa, Gin []⟩ : St).G i = Gin [] i from rfl, gin_nil] at hi
    · have ha' : aa[i]? = some a := ha
      obtain ⟨z, hz, hrz⟩ := hr i a ha'
      have hlt : i < vs.size := (Array.getElem?_eq_some_iff.1 hz).1
      refine ⟨hlt, ?_⟩
      rw [hok2]
      show a.rep w _ (Gin []) _ _
      rw [hG]
      have : vs.getD i undef = z := by rw [Array.getD_eq_getD_getElem?, hz]; rfl
      rw [this]
      exact hrz
  refine (hC.does aa [] _ _ _ h w vs (fun _ => undef) (fun b => b < w.heap.size) (fun b hb => ⟨hb, hM b⟩) sim hs).mono ?_
  rintro e w' ⟨v, β', rfl, hsim, hrep, _⟩
  have hv : v = .bool true := hrep.1
  exact ⟨by rw [hv], hsim.os, hsim.tape, hsim.output, hsim.size, fun k hk => hsim.block k hk (hM k)⟩
def AC.nilz (z : Nat) : AC → AC
  | .v (.slice none 0 0) => if z = 0 then .v (.slice none 0 0) else .ro z 0 []
  | c => c
def AG.nilz (z : Nat) : AG → AG
  | .one c => .one (c.nilz z)
  | .agg cs => .agg (cs.map (AC.nilz z))
def AV.nilz (z : Nat) : AV → AV
  | .g x => .g (x.nilz z)
  | a => a
section
variable {w : World} {β : Nat → Value} {G : Blk} {ok : Nat → Prop} {z : Nat}
theorem nilz_c {c : AC} {y : Value} (h : c.rep w β G ok y) : (c.nilz z).rep w β G ok y := by
  unfold AC.nilz
  split
  · split
    · exact h
    · obtain ⟨rfl, _⟩ := h
      exact ⟨⟨by simp, rfl⟩, none, 0, rfl, Nat.le_refl _, by unfold maxLen; omega, fun h => absurd h (Nat.lt_irrefl _)⟩
  · exact h
theorem nilz_cs {cs : List AC} {vs : Array Value} (h : CsRep w β G ok cs vs) : CsRep w β G ok (cs.map (AC.nilz z)) vs :=
  ⟨by simpa using h.1, fun j c hj => by
    simp only [List.getElem?_map, Option.map_eq_some_iff] at hj
    obtain ⟨c0, h0, rfl⟩ := hj
    obtain ⟨y, hy, hr⟩ := h.2 j c0 h0
    exact ⟨y, hy, nilz_c hr⟩⟩
theorem nilz_a {a : AV} {y : Value} (h : a.rep w β G ok y) : (a.nilz z).rep w β G ok y := by
  cases a with
  | g x =>
    cases x with
    | one c => exact nilz_c h
    | agg cs => obtain ⟨vs, h1, h2⟩ := h; exact ⟨vs, h1, nilz_cs h2⟩
  | tup xs => exact h
theorem nilz_args {as : List AV} {vs : Array Value} (h : ArgsRep w β G ok as vs) : ArgsRep w β G ok (as.map (AV.nilz z)) vs :=
  ⟨by simpa using h.1, fun j a hj => by
    simp only [List.getElem?_map, Option.map_eq_some_iff] at hj
    obtain ⟨a0, h0, rfl⟩ := hj
    obtain ⟨y, hy, hr⟩ := h.2 j a0 h0
    exact ⟨y, hy, nilz_a hr⟩⟩
end
theorem nilz_zero (as : List AV) : as.map (AV.nilz 0) = as := by
  have h1 : ∀ c : AC, c.nilz 0 = c := fun c => by unfold AC.nilz; split <;> simp
  have h2 : (AC.nilz 0) = id := funext h1
  have h3 : ∀ a : AV, a.nilz 0 = a := fun a => by
    cases a with
    | g x => cases x <;> simp [AV.nilz, AG.nilz, h1, h2]
    | tup xs => rfl
  have h4 : (AV.nilz 0) = id := funext h3
  rw [h4, List.map_id]
def nilC (z : Nat) (c : AC) : Option AC := match c with
  | .v (.slice none 0 0) => bif Nat.beq z 0 then some (.v (.slice none 0 0)) else some (.ro z 0 [])
  | c => some c
def nilCs (z : Nat) : List AC → Option (List AC)
  | [] => some []
  | c :: l => match nilC z c, nilCs z l with
    | some c', some l' => some (c' :: l')
    | _, _ => none
def nilA (z : Nat) (a : AV) : Option AV := match a with
  | .g (.one c) => match nilC z c with
    | some c' => some (.g (.one c'))
    | none => none
  | .g (.agg cs) => match nilCs z cs with
    | some cs' => some (.g (.agg cs'))
    | none => none
  | .tup xs => some (.tup xs)
def nilL (z : Nat) : List AV → Option (List AV)
  | [] => some []
  | a :: l => match nilA z a, nilL z l with
    | some a', some l' => some (a' :: l')
    | _, _ => none
theorem nilC_eq {z : Nat} {c c' : AC} (h : nilC z c = some c') : c.nilz z = c' := by
  unfold nilC at h
  unfold AC.nilz
  split at h
  · cases hz : Nat.beq z 0 with
    | true =>
      have := Nat.eq_of_beq_eq_true hz
      subst this
      simpa using h
    | false =>
      have : ¬ z = 0 := fun e => by subst e; cases hz
      simp only [hz, cond_false, Option.some.injEq] at h
      simp only [this, if_false, h]
  · cases h
    rfl
theorem nilCs_eq {z : Nat} : ∀ {l l' : List AC}, nilCs z l = some l' → l.map (AC.nilz z) = l'
  | [], l', h => by cases h; rfl
  | c :: l, l', h => by
    simp only [nilCs] at h
    split at h
    · rename_i c1 l1 h1 h2
      cases h
      rw [List.map_cons, nilC_eq h1, nilCs_eq h2]
    · cases h
theorem nilL_eq {z : Nat} : ∀ {l l' : List AV}, nilL z l = some l' → l.map (AV.nilz z) = l'
  | [], l', h => by cases h; rfl
  | a :: l, l', h => by
    simp only [nilL] at h
    split at h
    · rename_i a1 l1 h1 h2
      cases h
      rw [List.map_cons, nilL_eq h2]
      congr 1
      unfold nilA at h1
      split at h1
      · split at h1
        · rename_i h3
          cases h1
          simp only [AV.nilz, AG.nilz, nilC_eq h3]
        · cases h1
      · split at h1
        · rename_i h3
          cases h1
          simp only [AV.nilz, AG.nilz, nilCs_eq h3]
        · cases h1
      · cases h1; rfl
    · cases h
structure IsClip (P : Program) (f : FuncId) : Prop where
  enters : ∀ args w, (callFunc f args).run P w = .ok (.enter f args) w
  does : ∀ A n c w, n ≤ c → c ≤ 9223372036854775807 → Calls P f #[.slice A n c] w fun e w' => e = .returned (.slice A n n) ∧ w = w'
def clipM (args : List AV) (dst : Option Tmp) : AM := match args with
  | [.g (.one (.sl i r n))] => .getE i fun
    | some (r', .row e z l) => .need (r = r' ∧ l.length = n * z ∧ 0 < z) (.putE i (some (r + 1, .row e z l)) (putD dst (.g (.one (.sl i (r + 1) n)))))
    | _ => .fail
  | _ => .fail
theorem clip_good {P : Program} {f : FuncId} (hf : IsClip P f) : GoodCall P f clipM := by
  refine ⟨hf.enters, ?_⟩
  intro F S K as dst h w0 M N b0 nt β w tm vs hd hs hargs
  match as, h, hargs with
  | [.g (.one (.sl i r n))], h, hargs =>
    obtain ⟨_, h⟩ := h
    dsimp only at h
    split at h
    · rename_i r' e z l hG
      obtain ⟨⟨rfl, hl, hz⟩, hew, hk⟩ := h
      obtain ⟨y, hy, hr⟩ := hargs.2 0 _ rfl
      have hvs : vs = #[y] := by
        apply Array.ext
        · rw [hargs.1]; rfl
        · intro j h1 h2
          have : j = 0 := by simp at h2; omega
          subst this
          have := (Array.getElem?_eq_some_iff.1 hy).2
          simpa using this
      subst hvs
      obtain ⟨A, m, cap, q1, q2, rfl⟩ := hs.cur_sl hr hG
      obtain ⟨p0, e2, n2, p1, p2⟩ := hs.ents i r _ hG
      have hnm : n2 = n := by
        have := p2.1
        exact Nat.eq_of_mul_eq_mul_right hz (this.symm.trans hl)
      subst hnm
      rw [q1] at p2
      have hmm : n2 = m ∧ m ≤ cap ∧ cap ≤ 9223372036854775807 := by
        rcases p2.2 with ⟨p3, h0⟩ | ⟨g, cap', cur, p3, p4, p5, p6, p7, p8, p9⟩
        · cases p3; omega
        · cases p3
          unfold maxLen at p7
          exact ⟨rfl, p6, by omega⟩
      obtain ⟨rfl, hc1, hc2⟩ := hmm
      have hblk : ∀ b, blk? (Value.slice A n2 n2) = some b → blk? (β i) = some b := by
        intro b hb
        rw [q1]
        cases A with
        | none => cases hb
        | some a => exact hb
      refine (hf.does A n2 cap w hc1 hc2).mono ?_
      rintro e' w' ⟨rfl, rfl⟩
      obtain ⟨β', h1, h2, h3, h4⟩ := hs.change1 (w' := w) i (r + 1) (.row e z l) (.slice A n2 n2) rfl rfl rfl (Nat.le_refl _)
        (fun r1 e1 hg => by rw [hG] at hg; cases hg; exact ⟨Nat.le_succ _, fun he => by omega⟩)
        (fun k _ _ => rfl)
        (fun b _ hb => ⟨(hs.fresh i r _ b hG trivial (hblk b hb)).1, .inr ⟨r, _, hG, trivial, hblk b hb⟩⟩)
        (fun _ => ⟨_, hG⟩)
        (fun β' G' _ _ hok hold hβ => ⟨p0, e2, n2, p1, by
          rw [hβ]
          refine ⟨hl, ?_⟩
          rcases p2.2 with ⟨p3, hz0⟩ | ⟨g, cap', cur, p3, p4, p5, p6, p7, p8, p9⟩
          · cases p3; exact .inl ⟨rfl, rfl⟩
          · cases p3
            exact .inr ⟨g, n2, cur, rfl, p4, p5, Nat.le_refl _, by omega, Nat.le_trans (Nat.mul_le_mul_right z p6) p8, p9⟩⟩)
      have hrep : AV.rep w β' (S.lay i (some (r + 1, Ent.row e z l))).G (okB w0 N β' (S.lay i (some (r + 1, Ent.row e z l))).G w) (.g (.one (.sl i (r + 1) n2))) (.slice A n2 n2) :=
        ⟨rfl, r + 1, _, upd_same _ _ _, Nat.le_refl _, fun _ => ⟨A, n2, n2, h2, Nat.le_refl _, rfl⟩⟩
      cases dst with
      | none => exact ⟨_, β', _, rfl, hk, h1⟩
      | some d =>
        obtain ⟨_, hk⟩ := hk
        exact ⟨_, β', _, rfl, hk, h1.put (hd d rfl) hrep⟩
    · exact h.elim
structure IsDel (P : Program) (f : FuncId) (e : TypeId) (z : Nat) : Prop where
  enters : ∀ args w, (callFunc f args).run P w = .ok (.enter f args) w
  does : ∀ g n c cur w (a b : Nat), w.heap[g]? = some (.cells cur e (0, 0)) → n ≤ c → c ≤ maxLen → c * z ≤ cur.size → a < b → b ≤ n → (cur.toList.take (n * z)).all (·.oneCell') = true →
    Calls P f #[.slice (some ⟨g, 0, none⟩) n c, .int .i64 a, .int .i64 b] w fun en w' => en = .returned (.slice (some ⟨g, 0, none⟩) (n - (b - a)) c) ∧
      (∃ cur', w'.heap[g]? = some (.cells cur' e (0, 0)) ∧ c * z ≤ cur'.size ∧ cur'.toList.take ((n - (b - a)) * z) = (cur.toList.take (n * z)).take (a * z) ++ (cur.toList.take (n * z)).drop (b * z)) ∧ w.grownBy w' (some g)
def delM (e0 : TypeId) (z0 : Nat) (args : List AV) (dst : Option Tmp) : AM := match args with
  | [.g (.one (.sl i r n)), .g (.one (.v (.int .i64 a))), .g (.one (.v (.int .i64 b)))] => .getE i fun
    | some (r', .row e z l) => .need (r = r' ∧ l.length = n * z ∧ 0 < z ∧ z = z0 ∧ e = some e0 ∧ 0 ≤ a ∧ a < b ∧ b ≤ n) (.putE i (some (r + 1, .row e z (l.take (a.toNat * z) ++ l.drop (b.toNat * z)))) (putD dst (.g (.one (.sl i (r + 1) (n - (b - a).toNat))))))
    | _ => .fail
  | _ => .fail
theorem del_good {P : Program} {f : FuncId} {e0 : TypeId} {z0 : Nat} (hf : IsDel P f e0 z0) : GoodCall P f (delM e0 z0) := by
  refine ⟨hf.enters, ?_⟩
  intro F S K as dst h w0 M N b0 nt β w tm vs hd hs hargs
  match as, h, hargs with
  | [.g (.one (.sl i r n)), .g (.one (.v (.int .i64 a))), .g (.one (.v (.int .i64 b)))], h, hargs =>
    obtain ⟨_, h⟩ := h
    dsimp only at h
    split at h
    · rename_i r' e z l hG
      obtain ⟨⟨rfl, hl, hz, rfl, rfl, ha0, hab, hbn⟩, hew, hk⟩ := h
      obtain ⟨y, hy, hr⟩ := hargs.2 0 _ rfl
      obtain ⟨y1, hy1, hr1⟩ := hargs.2 1 _ rfl
      obtain ⟨y2, hy2, hr2⟩ := hargs.2 2 _ rfl
      have hq1 : y1 = .int .i64 a := hr1.1
      have hq2 : y2 = .int .i64 b := hr2.1
      subst hq1; subst hq2
      have hvs : vs = #[y, .int .i64 a, .int .i64 b] := by
        apply Array.ext
        · rw [hargs.1]; rfl
        · intro j h1 h2
          have h2' : j < 3 := by simpa using h2
          have hj : j = 0 ∨ j = 1 ∨ j = 2 := by omega
          rcases hj with rfl | rfl | rfl
          · simpa using (Array.getElem?_eq_some_iff.1 hy).2
          · simpa using (Array.getElem?_eq_some_iff.1 hy1).2
          · simpa using (Array.getElem?_eq_some_iff.1 hy2).2
      subst hvs
      obtain ⟨A, m, cap, q1, q2, rfl⟩ := hs.cur_sl hr hG
      obtain ⟨p0, e2, n2, p1, p2⟩ := hs.ents i r _ hG
      have ee := p1 _ rfl
      subst ee
      have hnm : n2 = n := by
        have := p2.1
        exact Nat.eq_of_mul_eq_mul_right hz (this.symm.trans hl)
      subst hnm
      rw [q1] at p2
      obtain ⟨a, rfl⟩ : ∃ a' : Nat, a = (a' : Int) := ⟨a.toNat, by omega⟩
      obtain ⟨b, rfl⟩ : ∃ b' : Nat, b = (b' : Int) := ⟨b.toNat, by omega⟩
      rcases p2.2 with ⟨p3, h0⟩ | ⟨g, cap', cur, p3, p4, p5, p6, p7, p8, p9⟩
      · omega
      · cases p3
        have e1 : ((a : Int)).toNat = a := by omega
        have e3 : ((b : Int)).toNat = b := by omega
        have e4 : ((b : Int) - (a : Int)).toNat = b - a := by omega
        rw [e1, e3, e4] at hk
        refine (hf.does g m cap cur w a b p5 p6 p7 p8 (by omega) (by omega) (by rw [p9]; exact p0)).mono ?_
        rintro en w' ⟨rfl, ⟨cur', k1, k2, k3⟩, kg⟩
        rw [p9] at k3
        have hblk : blk? (β i) = some g := by rw [q1]; rfl
        have hmz : b * z ≤ m * z := Nat.mul_le_mul_right z (by omega)
        have hnz : (m - (b - a)) * z = a * z + (m * z - b * z) := by
          rw [← Nat.sub_mul, ← Nat.add_mul]; congr 1; omega
        obtain ⟨β', h1, h2, h3, h4⟩ := hs.change1 (w' := w') i (r + 1) (.row (some e0) z (l.take (a * z) ++ l.drop (b * z))) (.slice (some ⟨g, 0, none⟩) (m - (b - a)) cap) kg.os kg.tape kg.output kg.size
          (fun r1 e1 hg => by rw [hG] at hg; cases hg; exact ⟨Nat.le_succ _, fun he => by omega⟩)
          (fun k hk hne => kg.block k hk (fun ek => hne r _ hG trivial (by rw [hblk]; exact ek.symm)))
          (fun b' _ hb => by
            cases hb
            exact ⟨(Array.getElem?_eq_some_iff.1 k1).1, .inr ⟨r, _, hG, trivial, hblk⟩⟩)
          (fun _ => ⟨_, hG⟩)
          (fun β' G' _ _ hok hold hβ => ⟨by
              rw [List.all_append, Bool.and_eq_true]
              rw [List.all_eq_true] at p0
              exact ⟨List.all_eq_true.2 fun x hx => p0 x (List.mem_of_mem_take hx), List.all_eq_true.2 fun x hx => p0 x (List.mem_of_mem_drop hx)⟩, e0, m - (b - a), fun x hx => by cases hx; rfl, by
              rw [hβ]
              refine ⟨?_, .inr ⟨g, cap, cur', rfl, Nat.zero_le _, k1, by omega, p7, k2, k3⟩⟩
              rw [List.length_append, List.length_take, List.length_drop, hl, hnz, Nat.min_eq_left (Nat.mul_le_mul_right z (by omega))]⟩)
        have hrep : AV.rep w' β' (S.lay i (some (r + 1, Ent.row (some e0) z (l.take (a * z) ++ l.drop (b * z))))).G (okB w0 N β' (S.lay i (some (r + 1, Ent.row (some e0) z (l.take (a * z) ++ l.drop (b * z))))).G w') (.g (.one (.sl i (r + 1) (m - (b - a))))) (.slice (some ⟨g, 0, none⟩) (m - (b - a)) cap) :=
          ⟨rfl, r + 1, _, upd_same _ _ _, Nat.le_refl _, fun _ => ⟨_, m - (b - a), cap, h2, Nat.le_refl _, rfl⟩⟩
        cases dst with
        | none => exact ⟨_, β', _, rfl, hk, h1⟩
        | some d =>
          obtain ⟨_, hk⟩ := hk
          exact ⟨_, β', _, rfl, hk, h1.put (hd d rfl) hrep⟩
    · exact h.elim
noncomputable def cfU (P : Program) : FuncId → Option (List AV → Option Tmp → AM) := fun f => open Classical in if (∀ args w, (callFunc f args).run P w = .ok (.enter f args) w) then
  some (fun args dst => .exv (fun p : Sum (Fn3 × List Nat × Bool × Nat) (Option (TypeId × Nat)) => match p with
    | .inl p => ConOk P f p.1
    | .inr none => IsClip P f
    | .inr (some q) => IsDel P f q.1 q.2) fun p => match p with
    | .inl p => callM p.1 (fun q => p.2.1.any (Nat.beq q)) p.2.2.1 (args.map (AV.nilz p.2.2.2)) dst
    | .inr none => clipM args dst
    | .inr (some q) => delM q.1 q.2 args dst) else none
theorem cfU_ok {P : Program} : ∀ f m, cfU P f = some m → GoodCall P f m := by
  intro f m hm
  unfold cfU at hm
  split at hm
  · rename_i hx
    cases hm
    refine ⟨hx, ?_⟩
    rintro F S K as dst ⟨p, hp, h⟩ w0 M N b0 nt β w tm vs hd hs ha
    match p, hp, h with
    | .inl p, hp, h =>
      obtain ⟨C', ws, al, z⟩ := p
      exact (good_of_con hp _ _).does F S K _ dst h w0 M N b0 nt β w tm vs hd hs (nilz_args ha)
    | .inr none, hp, h => exact (clip_good hp).does F S K _ dst h w0 M N b0 nt β w tm vs hd hs ha
    | .inr (some q), hp, h => exact (del_good hp).does F S K _ dst h w0 M N b0 nt β w tm vs hd hs ha
  · cases hm
def Kon (P : Program) (f : FuncId) (aa : List AV) (es : List Ent) (out : AV) (news es' : List Ent) : Prop := ∃ C, ConOk P f C ∧ C aa es = some (out, news, es')
theorem Kon.of {P : Program} {f : FuncId} {C : Fn3} {aa : List AV} {es : List Ent} {out : AV} {news es' : List Ent} (hC : ConOk P f C) (h : C aa es = some (out, news, es')) : Kon P f aa es out news es' := ⟨C, hC, h⟩
theorem kon_mk {P : Program} {T : Tab} (hT : TabOk P T) {f : FuncId} {fn : Func} {c : Code} {aa : List AV} {es : List Ent} {out : AV} {news es' : List Ent} (hf : P.funcs[f]? = some fn) (hb : fn.body = some c) (hn : (fn.name == "runtime.NumGoroutine") = false)
    (hl : Nat.ble aa.length fn.ntmps = true) (hes : es'.length = es.length)
    (h : (∀ a ∈ aa, a.fit) → (∀ e ∈ es, e.fit) → AW P fn.ntmps c (retK T fn.results out news es') ⟨argsE aa, Gin es⟩) : Kon P f aa es out news es' := by
  refine ⟨cOf (fun _ : Unit => (aa, es)) (fun _ => (out, news, es')), con_cOf hT hf hb hn fun _ h1 h2 => ⟨hl, hes, h h1 h2⟩, ?_⟩
  exact cOf_at (A := fun _ : Unit => (aa, es)) (R := fun _ => (out, news, es')) (fun _ _ _ => rfl) ()
abbrev WsT := List (Nat × (List Nat × Bool))
def wsOf (t : WsT) (f : Nat) : List Nat × Bool := match find1 t f with
  | some x => x
  | none => ([], false)
section
variable {F : Ft} {S : St}
def nvO (S : St) (j : Nat) : Option Nat := match S.G j with
  | none => some 0
  | some (r, _) => some (r + 1)
theorem nvO_eq {j r : Nat} (h : nvO S j = some r) : nver S j = r := by
  unfold nvO at h
  unfold nver
  cases hG : S.G j with
  | none => rw [hG] at h; cases h; rfl
  | some p => rw [hG] at h; cases h; rfl
def newFv (F : Ft) (d : Nat) : Nat → List Ent → St → Option (List Nat × St)
  | _, [], S => some ([], S)
  | j, e :: es, S => bif e.liveB && e.on (fun _ => false) && Nat.blt j 16 && Nat.blt (nid d j) 100000 && F.er (nid d j) && F.ew (nid d j) then (match nvO S (nid d j) with
    | some r => match newFv F d (j + 1) es (S.lay (nid d j) (some (r, e))) with
      | some (rs, S') => some (r :: rs, S')
      | none => none
    | none => none) else none
theorem newFv_ok {d : Nat} : ∀ (es : List Ent) {j : Nat} {S : St} {x : List Nat × St}, newFv F d j es S = some x → newF F d j es S = some x
  | [], j, S, x, h => h
  | e :: es, j, S, x, h => by
    simp only [newFv] at h
    simp only [newF]
    cases hc : (e.liveB && e.on (fun _ => false) && Nat.blt j 16 && Nat.blt (nid d j) 100000 && F.er (nid d j) && F.ew (nid d j)) with
    | false => rw [hc] at h; cases h
    | true =>
      rw [hc] at h
      simp only [cond_true] at h ⊢
      split at h
      · rename_i r hr
        rw [nvO_eq hr]
        split at h
        · rename_i rs S' h1
          cases h
          rw [newFv_ok es h1]
        · cases h
      · cases h
def renC2 (ids : List (Nat × Nat)) (rs : List Nat) (d : Nat) : AC → Option AC
  | .sl i r n => bif Nat.ble 100000 i then (match ids[i - 100000]? with
    | some (a, b) => some (.sl a b n)
    | none => none) else (match rs[i]? with
    | some q => some (.sl (nid d i) q n)
    | none => none)
  | .ptr i r o => bif Nat.ble 100000 i then (match ids[i - 100000]? with
    | some (a, b) => some (.ptr a b o)
    | none => none) else (match rs[i]? with
    | some q => some (.ptr (nid d i) q o)
    | none => none)
  | .fn f [] => some (.fn f [])
  | .fn _ _ => none
  | .v x => some (.v x)
  | .ro z n l => some (.ro z n l)
  | .rp l => some (.rp l)
  | .er => some .er
  | .sb _ _ _ _ => none
def renCs2 (ids : List (Nat × Nat)) (rs : List Nat) (d : Nat) : List AC → Option (List AC)
  | [] => some []
  | c :: l => match renC2 ids rs d c, renCs2 ids rs d l with
    | some c', some l' => some (c' :: l')
    | _, _ => none
def renG2 (ids : List (Nat × Nat)) (rs : List Nat) (d : Nat) : AG → Option AG
  | .one c => match renC2 ids rs d c with
    | some c' => some (.one c')
    | none => none
  | .agg cs => match renCs2 ids rs d cs with
    | some cs' => some (.agg cs')
    | none => none
def renGs2 (ids : List (Nat × Nat)) (rs : List Nat) (d : Nat) : List AG → Option (List AG)
  | [] => some []
  | c :: l => match renG2 ids rs d c, renGs2 ids rs d l with
    | some c', some l' => some (c' :: l')
    | _, _ => none
def renV2 (ids : List (Nat × Nat)) (rs : List Nat) (d : Nat) : AV → Option AV
  | .g x => match renG2 ids rs d x with
    | some x' => some (.g x')
    | none => none
  | .tup xs => match renGs2 ids rs d xs with
    | some xs' => some (.tup xs')
    | none => none
def renS2 (ids : List (Nat × Nat)) (rs : List Nat) (d : Nat) (i : Nat) : Nat × Nat := if 100000 ≤ i then (ids[i - 100000]?).getD (0, 0) else (nid d i, (rs[i]?).getD 0)
theorem renS2_ge {ids : List (Nat × Nat)} {rs : List Nat} {d i : Nat} (h : Nat.ble 100000 i = true) : renS2 ids rs d i = (ids[i - 100000]?).getD (0, 0) := by
  unfold renS2; rw [if_pos (Nat.le_of_ble_eq_true h)]
theorem renS2_lt {ids : List (Nat × Nat)} {rs : List Nat} {d i q : Nat} (h : Nat.ble 100000 i = false) (hq : rs[i]? = some q) : renS2 ids rs d i = (nid d i, q) := by
  have h' : ¬ 100000 ≤ i := fun hc => by rw [Nat.ble_eq_true_of_le hc] at h; cases h
  unfold renS2; rw [if_neg h', hq]; rfl
theorem renC2_ok {ids : List (Nat × Nat)} {rs : List Nat} {d : Nat} {c c' : AC} (h : renC2 ids rs d c = some c') : c.ren (renS2 ids rs d) = c' := by
  cases c with
  | sl i r n =>
    simp only [renC2] at h
    cases hb : Nat.ble 100000 i with
    | true =>
      rw [hb] at h
      simp only [cond_true] at h
      split at h
      · rename_i a b hi
        cases h
        simp only [AC.ren, renS2_ge hb, hi, Option.getD_some]
      · cases h
    | false =>
      rw [hb] at h
      simp only [cond_false] at h
      split at h
      · rename_i q hi
        cases h
        simp only [AC.ren, renS2_lt hb hi]
      · cases h
  | ptr i r o =>
    simp only [renC2] at h
    cases hb : Nat.ble 100000 i with
    | true =>
      rw [hb] at h
      simp only [cond_true] at h
      split at h
      · rename_i a b hi
        cases h
        simp only [AC.ren, renS2_ge hb, hi, Option.getD_some]
      · cases h
    | false =>
      rw [hb] at h
      simp only [cond_false] at h
      split at h
      · rename_i q hi
        cases h
        simp only [AC.ren, renS2_lt hb hi]
      · cases h
  | fn f caps => cases caps with
    | nil => cases h; rfl
    | cons _ _ => cases h
  | v x => cases h; rfl
  | ro z n l => cases h; rfl
  | rp l => cases h; rfl
  | er => cases h; rfl
  | sb i r n c0 => cases h
theorem renCs2_ok {ids : List (Nat × Nat)} {rs : List Nat} {d : Nat} : ∀ {l l' : List AC}, renCs2 ids rs d l = some l' → l.map (·.ren (renS2 ids rs d)) = l'
  | [], l', h => by cases h; rfl
  | c :: l, l', h => by
    simp only [renCs2] at h
    split at h
    · rename_i c1 l1 h1 h2
      cases h
      rw [List.map_cons, renC2_ok h1, renCs2_ok h2]
    · cases h
theorem renG2_ok {ids : List (Nat × Nat)} {rs : List Nat} {d : Nat} {x x' : AG} (h : renG2 ids rs d x = some x') : x.ren (renS2 ids rs d) = x' := by
  cases x with
  | one c =>
    simp only [renG2] at h
    split at h
    · rename_i c1 h1
      cases h
      simp only [AG.ren, renC2_ok h1]
    · cases h
  | agg cs =>
    simp only [renG2] at h
    split at h
    · rename_i c1 h1
      cases h
      simp only [AG.ren, renCs2_ok h1]
    · cases h
theorem renGs2_ok {ids : List (Nat × Nat)} {rs : List Nat} {d : Nat} : ∀ {l l' : List AG}, renGs2 ids rs d l = some l' → l.map (·.ren (renS2 ids rs d)) = l'
  | [], l', h => by cases h; rfl
  | c :: l, l', h => by
    simp only [renGs2] at h
    split at h
    · rename_i c1 l1 h1 h2
      cases h
      rw [List.map_cons, renG2_ok h1, renGs2_ok h2]
    · cases h
theorem renV2_ok {ids : List (Nat × Nat)} {rs : List Nat} {d : Nat} {x x' : AV} (h : renV2 ids rs d x = some x') : resV x ids rs d = x' := by
  have : x.ren (renS2 ids rs d) = x' := by
    cases x with
    | g x =>
      simp only [renV2] at h
      split at h
      · rename_i c1 h1
        cases h
        simp only [AV.ren, renG2_ok h1]
      · cases h
    | tup xs =>
      simp only [renV2] at h
      split at h
      · rename_i c1 h1
        cases h
        simp only [AV.ren, renGs2_ok h1]
      · cases h
  exact this
end
section
variable {P : Program} {T : Tab} {F : Ft} {Fs : Nat → Ft} {i : Nat} {rest : List Oper} {S : St} {K : St → Prop} {ops : Array Oper} {d : Tmp} {x y c : Operand} {a b : AV} {ty : TypeId} {pos : String} {af : Array Edge} {g : Option (Nat × Bool)}
theorem cfU_run {f : FuncId} {C : Fn3} {ws : List Nat} {al : Bool} {args : List AV} {dst : Option Tmp} (z : Nat) (hC : ConOk P f C) (h : (callM C (fun q => ws.any (Nat.beq q)) al (args.map (AV.nilz z)) dst).run F S K) : (orFail (cfU P f) fun m => m args dst).run F S K := by
  unfold cfU
  rw [if_pos hC.enters]
  exact ⟨.inl ⟨C, ws, al, z⟩, hC, h⟩
end
section
variable {P : Program} {T : Tab} {S : St} {nt : Nat} {c : Code} {KE : Exit → St → Prop}
def RA (P : Program) (nt : Nat) (c : Code) (KE : Exit → St → Prop) : Nat → St → Prop
  | 0, _ => False
  | n + 1, S => AW P nt c (fun e S'' => match e with
    | .normal => RA P nt c KE n S''
    | e => KE e S'') S
def raK (P : Program) (nt : Nat) (c : Code) (KE : Exit → St → Prop) (n : Nat) : Exit → St → Prop
  | .normal, S => RA P nt c KE n S
  | e, S => KE e S
theorem ra_step {n : Nat} (h : AW P nt c (raK P nt c KE n) S) : RA P nt c KE (n + 1) S := h.mono fun e S' hk => by cases e <;> exact hk
theorem aw_unroll (n : Nat) (h : RA P nt c KE n S) : AW P nt (.loop c) KE S :=
  aw_loop (fun g S' => RA P nt c KE g S') id n h fun g S' hg => by
    cases g with
    | zero => exact hg.elim
    | succ g =>
      refine AW.mono (KE := raK P nt c KE g) (hg.mono fun e S' hk => by cases e <;> exact hk) fun e S'' hk => ?_
      cases e with
      | normal => exact ⟨g, hk, Nat.lt_succ_self g⟩
      | _ => exact hk
def rdSlots (S : St) : List Nat → Option (List (Nat × AV))
  | [] => some []
  | k :: ks => match S.E k, rdSlots S ks with
    | some a, some l => some ((k, a) :: l)
    | _, _ => none
def rdBlks (S : St) : List Nat → Option (List (Nat × (Nat × Ent)))
  | [] => some []
  | k :: ks => match S.G k, rdBlks S ks with
    | some a, some l => some ((k, a) :: l)
    | _, _ => none
theorem rdSlots_has : ∀ {ks : List Nat} {l : List (Nat × AV)}, rdSlots S ks = some l → HasE S l
  | [], l, h => by cases h; trivial
  | k :: ks, l, h => by
    simp only [rdSlots] at h
    split at h
    · rename_i a l' h1 h2
      cases h
      exact ⟨h1, rdSlots_has h2⟩
    · cases h
theorem rdBlks_has : ∀ {ks : List Nat} {l : List (Nat × (Nat × Ent))}, rdBlks S ks = some l → HasB S l
  | [], l, h => by cases h; trivial
  | k :: ks, l, h => by
    simp only [rdBlks] at h
    split at h
    · rename_i a l' h1 h2
      cases h
      exact ⟨h1, rdBlks_has h2⟩
    · cases h
theorem HasE.app : ∀ {l l' : List (Nat × AV)}, HasE S l → HasE S l' → HasE S (l ++ l')
  | [], l', _, h' => h'
  | p :: l, l', h, h' => ⟨h.1, HasE.app h.2 h'⟩
theorem HasB.app : ∀ {l l' : List (Nat × (Nat × Ent))}, HasB S l → HasB S l' → HasB S (l ++ l')
  | [], l', _, h' => h'
  | p :: l, l', h, h' => ⟨h.1, HasB.app h.2 h'⟩
def loopK {σ : Type} (KE : Exit → St → Prop) (E : σ → List (Nat × AV)) (G : σ → List (Nat × (Nat × Ent))) (q : σ → Prop) (μ : σ → Nat) (m : Nat) : Exit → St → Prop
  | .normal, S => ∃ g', q g' ∧ Is S (E g') (G g') ∧ μ g' < m
  | e, S => KE e S
theorem aw_rd (ks bs : List Nat) {Ec : List (Nat × AV)} {Gc : List (Nat × (Nat × Ent))} {σ : Type} (E : σ → List (Nat × AV)) (G : σ → List (Nat × (Nat × Ent))) (q : σ → Prop) (μ : σ → Nat) (g0 : σ) (hE : rdSlots S ks = some Ec) (hG : rdBlks S bs = some Gc) (hq : q g0)
    (hon : onB (E g0 ++ Ec) (G g0 ++ Gc) = true) (h1 : HasE S (E g0)) (h2 : HasB S (G g0))
    (round : ∀ g, q g → AW P nt c (loopK KE (fun g => E g ++ Ec) (fun g => G g ++ Gc) q μ (μ g)) (ofL (E g ++ Ec) (G g ++ Gc))) : AW P nt (.loop c) KE S :=
  aw_rounds (fun g => E g ++ Ec) (fun g => G g ++ Gc) q μ g0 hq ⟨hon, h1.app (rdSlots_has hE), h2.app (rdBlks_has hG)⟩ fun g hg => (round g hg).mono fun e S'' hk => by cases e <;> exact hk
theorem aw_slot (t z : Nat) {c' cc : AC} {q : Prop} {cd : Code} (hE : S.E t = some (.g (.one cc))) (hw : wkC S.G z cc = some (c', q)) (hq : q) (h : AW P nt cd KE (S.put t (some (.g (.one c'))))) : AW P nt cd KE S := fun w0 M N b0 β w tm hs => by
  obtain ⟨h1, h2⟩ := hs.env t _ hE
  have h3 := wkC_ok (ok := fun _ => True) hs hw hq h2
  have h4 := hs.put (i := t) (a := .g (.one c')) h1 h3
  have e : tm.setIfInBounds t (tm.getD t undef) = tm := by
    apply Array.ext
    · simp
    · intro j h5 h6
      by_cases hj : t = j
      · subst hj; simp [h6]
      · rw [Array.getElem_setIfInBounds_ne _ hj]
  rw [e] at h4
  exact h w0 M N b0 β w tm h4
def nubP : List (Nat × Nat) → List (Nat × Nat) → List (Nat × Nat)
  | acc, [] => acc
  | acc, p :: l => bif Nat.ble 100000 p.1 || acc.any (fun q => Nat.beq q.1 p.1) then nubP acc l else nubP (acc ++ [p]) l
theorem vI_of {i : Nat} {m n : Int} (h : S.E i = some (vI m)) (e : m = n) : S.E i = some (vI n) := by rw [h, e]
end
end Go.Proofs.Ytfbcblknahicdaa
