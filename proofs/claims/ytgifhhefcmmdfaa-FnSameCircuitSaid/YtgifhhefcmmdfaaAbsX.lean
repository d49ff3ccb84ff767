/- The abstract run: rows of elements of one kind. No program is named. -/
import Derived.Test.YtgifhhefcmmdfaaAbsW
namespace Go.Proofs.Ytgifhhefcmmdfaa
set_option linter.unusedVariables false
open Go.RowKit

/-- Data that lie in cells of a row. -/
class Cel (α : Type) where
  f : α → List Value
  un : List Value → Option α
  sz : Nat
  no : α
  pos : 0 < sz
  len : ∀ a, (f a).length = sz
  one : ∀ a, (f a).all (·.oneCell') = true
  unf : ∀ vs a, un vs = some a → f a = vs
def cV {α : Type} [Cel α] (l : List α) : List Value := l.flatMap Cel.f
section
variable {α : Type} [Cel α]
@[simp] theorem cV_nil : cV ([] : List α) = [] := rfl
theorem cV_cons (a : α) (l : List α) : cV (a :: l) = Cel.f a ++ cV l := rfl
theorem cV_len : ∀ l : List α, (cV l).length = l.length * Cel.sz α
  | [] => by simp
  | a :: l => by rw [cV_cons, List.length_append, Cel.len, cV_len l, List.length_cons, Nat.add_mul, Nat.one_mul, Nat.add_comm]
theorem cV_append : ∀ l m : List α, cV l ++ cV m = cV (l ++ m)
  | [], m => rfl
  | a :: l, m => by rw [cV_cons, List.append_assoc, cV_append l m]; rfl
theorem cV_take : ∀ (l : List α) (n : Nat), (cV l).take (n * Cel.sz α) = cV (l.take n)
  | [], n => by simp
  | a :: l, 0 => by simp
  | a :: l, n + 1 => by
    rw [cV_cons, List.take_succ_cons, cV_cons, ← cV_take l n, Nat.add_mul, Nat.one_mul, Nat.add_comm, ← Cel.len a, List.take_append]
    rw [List.take_of_length_le (by omega), Nat.add_sub_cancel_left]
theorem cV_drop : ∀ (l : List α) (n : Nat), (cV l).drop (n * Cel.sz α) = cV (l.drop n)
  | [], n => by simp
  | a :: l, 0 => by simp
  | a :: l, n + 1 => by
    rw [cV_cons, List.drop_succ_cons, ← cV_drop l n, Nat.add_mul, Nat.one_mul, Nat.add_comm, ← Cel.len a, List.drop_append]
    rw [List.drop_of_length_le (by omega), Nat.add_sub_cancel_left, List.nil_append]
theorem cV_at {l : List α} {j : Nat} (h : j < l.length) : ((cV l).drop (j * Cel.sz α)).take (Cel.sz α) = Cel.f (l.getD j Cel.no) := by
  have e1 : l.getD j Cel.no = l[j] := by simp [List.getD_eq_getElem?_getD, h]
  rw [cV_drop, e1, List.drop_eq_getElem_cons h, cV_cons, List.take_append, Cel.len, Nat.sub_self, List.take_zero, List.append_nil, List.take_of_length_le (by rw [Cel.len]; exact Nat.le_refl _)]
theorem cV_mul {l : List α} {j : Nat} (h : j < l.length) : j * Cel.sz α + Cel.sz α ≤ (cV l).length := by
  rw [cV_len]
  have : (j + 1) * Cel.sz α ≤ l.length * Cel.sz α := Nat.mul_le_mul_right _ h
  rwa [Nat.add_mul, Nat.one_mul] at this
theorem cV_cell {l : List α} {j o : Nat} {v : Value} (h : j < l.length) (hv : (Cel.f (l.getD j Cel.no))[o]? = some v) : (cV l)[j * Cel.sz α + o]? = some v := by
  rw [← cV_at h, List.getElem?_take] at hv
  split at hv
  · simpa using hv
  · cases hv
theorem cV_set {l : List α} {j : Nat} (a : α) (h : j < l.length) : splice (cV l) (j * Cel.sz α) (Cel.f a) = cV (l.set j a) := by
  unfold splice
  rw [cV_take, show j * Cel.sz α + (Cel.f a).length = (j + 1) * Cel.sz α by rw [Cel.len, Nat.add_mul, Nat.one_mul], cV_drop, List.append_assoc, ← cV_cons, cV_append]
  congr 1
  rw [List.set_eq_take_append_cons_drop, if_pos h]
theorem cV_zero (n : Nat) (a : α) : (List.replicate n (Cel.f a)).flatten = cV (List.replicate n a) := by
  induction n with
  | zero => rfl
  | succ n ih => rw [List.replicate_succ, List.flatten_cons, ih]; rfl
theorem cV_one (l : List α) : (cV l).all (·.oneCell') = true := by
  induction l with
  | nil => rfl
  | cons a l ih => rw [cV_cons, List.all_append, Cel.one, ih]; rfl
/-- The elements that lie in cells. -/
def unL (α : Type) [Cel α] : Nat → List Value → Option (List α)
  | 0, [] => some []
  | 0, _ :: _ => none
  | n + 1, vs => match Cel.un (α := α) (vs.take (Cel.sz α)), unL α n (vs.drop (Cel.sz α)) with
    | some a, some l => some (a :: l)
    | _, _ => none
theorem unL_eq : ∀ {n : Nat} {vs : List Value} {l : List α}, unL α n vs = some l → cV l = vs ∧ l.length = n
  | 0, [], l, h => by cases h; exact ⟨rfl, rfl⟩
  | 0, _ :: _, l, h => by cases h
  | n + 1, vs, l, h => by
    simp only [unL] at h
    split at h
    · rename_i a l' h1 h2
      cases h
      obtain ⟨h3, h4⟩ := unL_eq h2
      exact ⟨by rw [cV_cons, Cel.unf _ _ h1, h3, List.take_append_drop], by simp [h4]⟩
    · cases h
end
section
variable {P : Program} {T : Tab} {cf : FuncId → Option (List AV → Option Tmp → AM)} {F : Ft} {Fs : Nat → Ft} {i : Nat} {rest : List Oper} {S : St} {K : St → Prop} {ops : Array Oper} {d : Tmp} {x y c : Operand} {a b : AV} {ty : TypeId} {pos : String} {af : Array Edge} {g : Option (Nat × Bool)} {α : Type} [Cel α]
/-- An element of cells that are only read. -/
theorem r_load_rpC {t z sz : Nat} {agg : Bool} {q : Int} {l : List α} {v : AV} (hx : rdO (Fs i) S x = some (.g (.one (.rp ((cV l).drop (q.toNat * z)))))) (hl : find1 T.lay t = some (agg, sz)) (hz : z = Cel.sz α) (hz2 : sz = Cel.sz α) (hw : (Fs i).sw d = true) (h0 : 0 ≤ q) (h1 : q < l.length) (hv : ofa agg ((Cel.f (l.getD q.toNat Cel.no)).map .v) = some v)
    (k : runX Fs P T cf ops (i + 1) rest (S.put d (some v)) K) : runA Fs P T cf ops i ⟨some d, .load t x, ty, pos, af, g⟩ rest S K := by
  subst hz hz2
  have h : q.toNat < l.length := by omega
  refine getO_of hx (orFail_of hl (need_of ?_ (orFail_of (by rw [cV_at h]; exact hv) (putD_of hw k))))
  have := cV_mul h
  simp only [List.length_drop]; omega
theorem r_load_rpF {t z o : Nat} {q : Int} {l : List α} {v : Value} (hx : rdO (Fs i) S x = some (.g (.one (.rp (((cV l).drop (q.toNat * z)).drop o))))) (hl : find1 T.lay t = some (false, 1)) (hz : z = Cel.sz α) (hw : (Fs i).sw d = true) (h0 : 0 ≤ q) (h1 : q < l.length) (hv : (Cel.f (l.getD q.toNat Cel.no))[o]? = some v)
    (k : runX Fs P T cf ops (i + 1) rest (S.put d (some (.g (.one (.v v))))) K) : runA Fs P T cf ops i ⟨some d, .load t x, ty, pos, af, g⟩ rest S K := by
  subst hz
  have h : q.toNat < l.length := by omega
  exact r_load_rp hx hl hw (by rw [List.drop_drop, List.getElem?_drop, Nat.add_zero]; exact cV_cell h hv) k
/-- An element of a row of our own. -/
theorem r_load_rowC {t z sz j r : Nat} {agg : Bool} {e : Option TypeId} {q : Int} {l : List α} {v : AV} (hx : rdO (Fs i) S x = some (.g (.one (.ptr j r (q.toNat * z))))) (hl : find1 T.lay t = some (agg, sz)) (hz : z = Cel.sz α) (hz2 : sz = Cel.sz α) (her : (Fs i).er j = true) (hG : S.G j = some (r, .row e z (cV l))) (hw : (Fs i).sw d = true) (h0 : 0 ≤ q) (h1 : q < l.length) (hv : ofa agg ((Cel.f (l.getD q.toNat Cel.no)).map .v) = some v)
    (k : runX Fs P T cf ops (i + 1) rest (S.put d (some v)) K) : runA Fs P T cf ops i ⟨some d, .load t x, ty, pos, af, g⟩ rest S K := by
  subst hz hz2
  have h : q.toNat < l.length := by omega
  exact getO_of hx (orFail_of hl (getE_of her hG (need_of ⟨rfl, cV_mul h⟩ (orFail_of (by rw [cV_at h]; exact hv) (putD_of hw k)))))
theorem r_load_rowF {t z o j r : Nat} {e : Option TypeId} {q : Int} {l : List α} {v : Value} (hx : rdO (Fs i) S x = some (.g (.one (.ptr j r (q.toNat * z + o))))) (hl : find1 T.lay t = some (false, 1)) (hz : z = Cel.sz α) (her : (Fs i).er j = true) (hG : S.G j = some (r, .row e z (cV l))) (hw : (Fs i).sw d = true) (h0 : 0 ≤ q) (h1 : q < l.length) (hv : (Cel.f (l.getD q.toNat Cel.no))[o]? = some v)
    (k : runX Fs P T cf ops (i + 1) rest (S.put d (some (.g (.one (.v v))))) K) : runA Fs P T cf ops i ⟨some d, .load t x, ty, pos, af, g⟩ rest S K := by
  subst hz
  have h : q.toNat < l.length := by omega
  exact r_load_row hx hl her hG hw (cV_cell h hv) k
theorem r_store_rowC {t z sz j r : Nat} {agg : Bool} {e : Option TypeId} {q : Int} {l : List α} {cs : List AC} {vs : List Value} {u : α} (hx : rdO (Fs i) S x = some (.g (.one (.ptr j r (q.toNat * z))))) (hy : rdO (Fs i) S y = some b) (hl : find1 T.lay t = some (agg, sz)) (hc : cellsOf b = some cs) (hp : pcs cs = some vs) (hz : z = Cel.sz α) (hz2 : sz = Cel.sz α) (her : (Fs i).er j = true) (hG : S.G j = some (r, .row e z (cV l))) (hew : (Fs i).ew j = true) (hu : Cel.un (α := α) vs = some u) (h0 : 0 ≤ q) (h1 : q < l.length)
    (k : runX Fs P T cf ops (i + 1) rest (S.lay j (some (r, .row e z (cV (l.set q.toNat u))))) K) : runA Fs P T cf ops i ⟨none, .store t x y, ty, pos, af, g⟩ rest S K := by
  subst hz hz2
  have h : q.toNat < l.length := by omega
  have hv := Cel.unf _ _ hu
  have hlen : vs.length = Cel.sz α := by rw [← hv]; exact Cel.len u
  refine getO_of hx (getO_of hy (orFail_of hl (orFail_of hc (getE_of her hG (orFail_of hp (need_of ⟨rfl, hlen, cV_mul h⟩ ⟨hew, ?_⟩))))))
  rw [← hv, cV_set u h]
  exact k
/-- A field of an element. -/
theorem r_store_rowF {t z o j r : Nat} {e : Option TypeId} {q : Int} {l : List α} {v : Value} {u : α} (hx : rdO (Fs i) S x = some (.g (.one (.ptr j r (q.toNat * z + o))))) (hy : rdV (Fs i) S y = some v) (hv : v.oneCell' = true) (hl : find1 T.lay t = some (false, 1)) (hz : z = Cel.sz α) (her : (Fs i).er j = true) (hG : S.G j = some (r, .row e z (cV l))) (hew : (Fs i).ew j = true) (ho : Nat.blt o (Cel.sz α) = true) (hu : Cel.un (α := α) ((Cel.f (l.getD q.toNat Cel.no)).set o v) = some u) (h0 : 0 ≤ q) (h1 : q < l.length)
    (k : runX Fs P T cf ops (i + 1) rest (S.lay j (some (r, .row e z (cV (l.set q.toNat u))))) K) : runA Fs P T cf ops i ⟨none, .store t x y, ty, pos, af, g⟩ rest S K := by
  subst hz
  have h : q.toNat < l.length := by omega
  have ho' := blt_lt ho
  have hm := cV_mul h
  refine r_store_row hx hy hv hl her hG hew (by omega) ?_
  have e1 : (cV l).set (q.toNat * Cel.sz α + o) v = cV (l.set q.toNat u) := by
    have hu' := Cel.unf _ _ hu
    rw [← cV_set u h, hu', ← cV_at h]
    apply List.ext_getElem?
    intro n
    have hl0 : (((cV l).drop (q.toNat * Cel.sz α)).take (Cel.sz α)).length = Cel.sz α := by simp only [List.length_take, List.length_drop]; omega
    rw [splice_get (by simp only [List.length_set]; omega), List.length_set, hl0]
    by_cases hn : n = q.toNat * Cel.sz α + o
    · subst hn
      rw [List.getElem?_set_self (by omega), if_pos (by omega), show q.toNat * Cel.sz α + o - q.toNat * Cel.sz α = o by omega, List.getElem?_set_self (by omega)]
    · rw [List.getElem?_set_ne (Ne.symm hn)]
      split
      · rename_i hc
        rw [List.getElem?_set_ne (by omega), List.getElem?_take, if_pos (by omega), List.getElem?_drop]
        congr 1; omega
      · rfl
  rw [e1]; exact k
/-- One element more. -/
theorem r_appendC {t e by' b' r n m : Nat} {agg : Bool} {zs news : List Value} {p : Prop} {l ms : List α} {z : Nat} (hx : rdO (Fs i) S x = some (.g (.one (.sl b' r n)))) (hy : rdO (Fs i) S y = some b) (he : find1 T.elt t = some (none, e, agg, z, by')) (her : (Fs i).er b' = true) (hG : S.G b' = some (r, .row (some e) z (cV l))) (hz : find1 T.zer e = some zs) (hzl : Nat.beq zs.length z = true) (hsl : rdSl (Fs i) S b z = some (m, news, p)) (hun : unL α m news = some ms)
    (hew : (Fs i).ew b' = true) (hw : (Fs i).sw d = true) (hzz : z = Cel.sz α) (hp : p) (hn : n = l.length) (h1 : l.length + ms.length ≤ 1000000) (h2 : by' ≤ 1000)
    (k : runX Fs P T cf ops (i + 1) rest ((S.lay b' (some (r + 1, .row (some e) z (cV (l ++ ms))))).put d (some (.g (.one (.sl b' (r + 1) (l ++ ms).length))))) K) : runA Fs P T cf ops i ⟨some d, .call { callee := .builtin .append, args := #[x, y], argTypes := #[t, t] }, ty, pos, af, g⟩ rest S K := by
  subst hzz hn
  obtain ⟨u1, u2⟩ := unL_eq hun
  subst u1 u2
  refine r_append hx hy he hz hsl hzl her hG hew hw hp (cV_len l) (by unfold maxLen; omega) ?_ (by rw [cV_append]; rw [List.length_append] at k; exact k)
  calc (l.length + ms.length) * by' ≤ (l.length + ms.length) * 1000 := Nat.mul_le_mul_left _ h2
    _ ≤ 140737488355328 := by omega
/-- What is only read, behind a row of our own. -/
theorem r_appendR {t e by' b' r n z2 m : Nat} {agg : Bool} {zs : List Value} {l ms : List α} {z : Nat} (hx : rdO (Fs i) S x = some (.g (.one (.sl b' r n)))) (hy : rdO (Fs i) S y = some (.g (.one (.ro z2 m (cV ms))))) (he : find1 T.elt t = some (none, e, agg, z, by')) (her : (Fs i).er b' = true) (hG : S.G b' = some (r, .row (some e) z (cV l))) (hz : find1 T.zer e = some zs) (hzl : Nat.beq zs.length z = true)
    (hew : (Fs i).ew b' = true) (hw : (Fs i).sw d = true) (hzz : z = Cel.sz α) (hz2 : z2 = z) (hm : m = ms.length) (hn : n = l.length) (h1 : l.length + ms.length ≤ 100000000) (h2 : by' ≤ 1000)
    (k : runX Fs P T cf ops (i + 1) rest ((S.lay b' (some (r + 1, .row (some e) z (cV (l ++ ms))))).put d (some (.g (.one (.sl b' (r + 1) (l ++ ms).length))))) K) : runA Fs P T cf ops i ⟨some d, .call { callee := .builtin .append, args := #[x, y], argTypes := #[t, t] }, ty, pos, af, g⟩ rest S K := by
  subst hz2 hzz hn hm
  refine r_append (p := Cel.sz α = Cel.sz α) hx hy he hz rfl hzl her hG hew hw rfl (cV_len l) (by unfold maxLen; omega) ?_ (by rw [cV_append]; rw [List.length_append] at k; exact k)
  calc (l.length + ms.length) * by' ≤ (l.length + ms.length) * 1000 := Nat.mul_le_mul_left _ h2
    _ ≤ 140737488355328 := by omega
theorem r_append_cut {t e sz by' b' r n m : Nat} {agg : Bool} {z l news : List Value} {p : Prop} (hx : rdO (Fs i) S x = some (.g (.one (.sl b' r n)))) (hy : rdO (Fs i) S y = some b) (he : find1 T.elt t = some (none, e, agg, sz, by')) (hz : find1 T.zer e = some z) (hsl : rdSl (Fs i) S b sz = some (m, news, p)) (hzl : Nat.beq z.length sz = true)
    (her : (Fs i).er b' = true) (hG : S.G b' = some (r, .row (some e) sz l)) (hew : (Fs i).ew b' = true) (hw : (Fs i).sw d = true) (hp : p) (hle : n * sz ≤ l.length) (h1 : n + m ≤ maxLen) (h2 : (n + m) * by' ≤ 140737488355328)
    (k : runX Fs P T cf ops (i + 1) rest ((S.lay b' (some (r + 1, .row (some e) sz (l.take (n * sz) ++ news)))).put d (some (.g (.one (.sl b' (r + 1) (n + m)))))) K) : runA Fs P T cf ops i ⟨some d, .call { callee := .builtin .append, args := #[x, y], argTypes := #[t, t] }, ty, pos, af, g⟩ rest S K :=
  getO_of hx (getO_of hy (orFail_of he (orFail_of hz (getSl_of hsl hp (need_of ⟨rfl, rfl, Nat.eq_of_beq_eq_true hzl⟩ (getE_of her hG (need_of ⟨rfl, rfl, rfl, hle, h1, h2⟩ ⟨hew, putD_of hw k⟩)))))))
/-- The beginning of a row, and elements behind it. -/
theorem r_appendT {t e by' b' r n m : Nat} {agg : Bool} {zs news : List Value} {p : Prop} {l ms : List α} {z : Nat} (hx : rdO (Fs i) S x = some (.g (.one (.sl b' r n)))) (hy : rdO (Fs i) S y = some b) (he : find1 T.elt t = some (none, e, agg, z, by')) (her : (Fs i).er b' = true) (hG : S.G b' = some (r, .row (some e) z (cV l))) (hz : find1 T.zer e = some zs) (hzl : Nat.beq zs.length z = true) (hsl : rdSl (Fs i) S b z = some (m, news, p)) (hun : unL α m news = some ms)
    (hew : (Fs i).ew b' = true) (hw : (Fs i).sw d = true) (hzz : z = Cel.sz α) (hp : p) (hn : n ≤ l.length) (h1 : l.length + ms.length ≤ 1000000) (h2 : by' ≤ 1000)
    (k : runX Fs P T cf ops (i + 1) rest ((S.lay b' (some (r + 1, .row (some e) z (cV (l.take n ++ ms))))).put d (some (.g (.one (.sl b' (r + 1) (l.take n ++ ms).length))))) K) : runA Fs P T cf ops i ⟨some d, .call { callee := .builtin .append, args := #[x, y], argTypes := #[t, t] }, ty, pos, af, g⟩ rest S K := by
  subst hzz
  obtain ⟨u1, u2⟩ := unL_eq hun
  subst u1 u2
  refine r_append_cut hx hy he hz hsl hzl her hG hew hw hp ?_ (by unfold maxLen; omega) ?_ (by
    rw [cV_take, cV_append]
    rw [List.length_append, List.length_take, Nat.min_eq_left hn] at k
    exact k)
  · rw [cV_len]; exact Nat.mul_le_mul_right _ hn
  · calc (n + ms.length) * by' ≤ (n + ms.length) * 1000 := Nat.mul_le_mul_left _ h2
      _ ≤ 140737488355328 := by omega
/-- Onto a row without elements. -/
theorem r_append0 {t e by' b' r z2 m : Nat} {agg : Bool} {zs l0 : List Value} {ms : List α} {z : Nat} (hx : rdO (Fs i) S x = some (.g (.one (.sl b' r 0)))) (hy : rdO (Fs i) S y = some (.g (.one (.ro z2 m (cV ms))))) (he : find1 T.elt t = some (none, e, agg, z, by')) (her : (Fs i).er b' = true) (hG : S.G b' = some (r, .row (some e) z l0)) (hz : find1 T.zer e = some zs) (hzl : Nat.beq zs.length z = true)
    (hew : (Fs i).ew b' = true) (hw : (Fs i).sw d = true) (hz2 : z2 = z) (hm : m = ms.length) (h1 : ms.length ≤ 100000000) (h2 : by' ≤ 1000)
    (k : runX Fs P T cf ops (i + 1) rest ((S.lay b' (some (r + 1, .row (some e) z (cV ms)))).put d (some (.g (.one (.sl b' (r + 1) ms.length))))) K) : runA Fs P T cf ops i ⟨some d, .call { callee := .builtin .append, args := #[x, y], argTypes := #[t, t] }, ty, pos, af, g⟩ rest S K := by
  subst hz2 hm
  refine r_append_cut (p := z2 = z2) hx hy he hz rfl hzl her hG hew hw rfl (by omega) (by unfold maxLen; omega) ?_ (by
    rw [Nat.zero_mul, List.take_zero, List.nil_append, Nat.zero_add]; exact k)
  calc (0 + ms.length) * by' ≤ (0 + ms.length) * 1000 := Nat.mul_le_mul_left _ h2
    _ ≤ 140737488355328 := by omega
/-- Onto nil. -/
theorem r_append_nilR {t e by' z2 m : Nat} {agg : Bool} {zs : List Value} {ms : List α} {z : Nat} (hx : rdO (Fs i) S x = some (.g (.one (.v (.slice none 0 0))))) (hy : rdO (Fs i) S y = some (.g (.one (.ro z2 m (cV ms))))) (he : find1 T.elt t = some (none, e, agg, z, by')) (hz : find1 T.zer e = some zs) (hzl : Nat.beq zs.length z = true)
    (hj : Nat.blt (nid d 0) 100000 = true) (her : (Fs i).er (nid d 0) = true) (hew : (Fs i).ew (nid d 0) = true) (hr : nver S (nid d 0) = 0) (hw : (Fs i).sw d = true) (hz2 : z2 = z) (hm : m = ms.length) (h1 : ms.length ≤ 100000000) (h2 : by' ≤ 1000)
    (k : runX Fs P T cf ops (i + 1) rest ((S.lay (nid d 0) (some (0, .row (some e) z (cV ms)))).put d (some (.g (.one (.sl (nid d 0) 0 ms.length))))) K) : runA Fs P T cf ops i ⟨some d, .call { callee := .builtin .append, args := #[x, y], argTypes := #[t, t] }, ty, pos, af, g⟩ rest S K := by
  subst hz2 hm
  refine r_append_new (p := z2 = z2) hx hy he hz rfl hzl hj her hew hr hw rfl (by unfold maxLen; omega) ?_ k
  calc ms.length * by' ≤ ms.length * 1000 := Nat.mul_le_mul_left _ h2
    _ ≤ 140737488355328 := by omega
theorem r_boxV {t r : Nat} {cs : List AC} (hx : rdO (Fs i) S x = some a) (hc : cellsOf a = some cs) (hj : Nat.blt (nid d 0) 100000 = true) (her : (Fs i).er (nid d 0) = true) (hew : (Fs i).ew (nid d 0) = true) (hr : nvO S (nid d 0) = some r) (hw : (Fs i).sw d = true)
    (k : runX Fs P T cf ops (i + 1) rest ((S.lay (nid d 0) (some (r, .box cs))).put d (some (.g (.one (.ptr (nid d 0) r 0))))) K) : runA Fs P T cf ops i ⟨some d, .box t x, ty, pos, af, g⟩ rest S K :=
  r_box hx hc hj her hew (nvO_eq hr) hw k
theorem r_allocV {t r : Nat} {z : List Value} (hz : find1 T.zer t = some z) (hj : Nat.blt (nid d 0) 100000 = true) (her : (Fs i).er (nid d 0) = true) (hew : (Fs i).ew (nid d 0) = true) (hr : nvO S (nid d 0) = some r) (hw : (Fs i).sw d = true)
    (k : runX Fs P T cf ops (i + 1) rest ((S.lay (nid d 0) (some (r, .box (z.map .v)))).put d (some (.g (.one (.ptr (nid d 0) r 0))))) K) : runA Fs P T cf ops i ⟨some d, .alloc t, ty, pos, af, g⟩ rest S K :=
  r_alloc hz hj her hew (nvO_eq hr) hw k
/-- Pieces of what is only read. -/
theorem ro_cast {z n : Nat} {vs : List Value} {l : List α} (h1 : vs = cV l) (h2 : n = l.length) : (AV.g (.one (.ro z n vs))) = .g (.one (.ro z l.length (cV l))) := by rw [h1, h2]
theorem r_slice_rofromC {t e z n by' : Nat} {agg : Bool} {l : List α} {q : Int} (hx : rdO (Fs i) S x = some (.g (.one (.ro z n (cV l))))) (hy : rdV (Fs i) S y = some (.int .i64 q)) (he : find1 T.elt t = some (none, e, agg, z, by')) (hz : z = Cel.sz α) (hn : n = l.length) (hq0 : 0 ≤ q) (hq : q ≤ l.length) (hw : (Fs i).sw d = true)
    (k : runX Fs P T cf ops (i + 1) rest (S.put d (some (.g (.one (.ro z (l.drop q.toNat).length (cV (l.drop q.toNat))))))) K) : runA Fs P T cf ops i ⟨some d, .slice t x (some y) none none, ty, pos, af, g⟩ rest S K := by
  subst hz hn
  refine r_slice_ro (lv := some (.int .i64 q)) (hv := none) (mv := none) (p := q) (q := (l.length : Nat)) (m := (l.length : Nat)) hx (by simp only [rdVo, hy]) rfl rfl he rfl rfl rfl ⟨hq0, hq, Int.le_refl _, Int.le_refl _⟩ (fun h => h) hw ?_
  rw [ro_cast (l := l.drop q.toNat) (z := Cel.sz α) ?_ ?_]
  · exact k
  · rw [cV_drop, cV_take, List.take_of_length_le (by simp only [List.length_drop]; omega)]
  · simp only [List.length_drop]; omega
theorem r_slice_rotoC {t e z n by' : Nat} {agg : Bool} {l : List α} {q m : Int} {mx : Option Operand} {mv : Option Value} (hx : rdO (Fs i) S x = some (.g (.one (.ro z n (cV l))))) (hy : rdV (Fs i) S y = some (.int .i64 q)) (hmx : rdVo (Fs i) S mx = some mv) (he : find1 T.elt t = some (none, e, agg, z, by')) (hz : z = Cel.sz α) (hn : n = l.length) (hm : hi0 n mv = some m) (hq0 : 0 ≤ q) (hq : q ≤ m ∧ m ≤ l.length) (hw : (Fs i).sw d = true)
    (k : runX Fs P T cf ops (i + 1) rest (S.put d (some (.g (.one (.ro z (l.take q.toNat).length (cV (l.take q.toNat))))))) K) : runA Fs P T cf ops i ⟨some d, .slice t x none (some y) mx, ty, pos, af, g⟩ rest S K := by
  subst hz hn
  refine r_slice_ro (lv := none) (hv := some (.int .i64 q)) (mv := mv) (p := 0) (q := q) (m := m) hx rfl (by simp only [rdVo, hy]) hmx he rfl rfl hm ⟨Int.le_refl 0, hq0, hq.1, hq.2⟩ (fun h => by cases h) hw ?_
  rw [ro_cast (l := l.take q.toNat) (z := Cel.sz α) ?_ ?_]
  · exact k
  · rw [show (0 : Int).toNat * Cel.sz α = 0 * Cel.sz α from rfl, cV_drop, cV_take, List.drop_zero, show (q - 0).toNat = q.toNat by omega]
  · simp only [List.length_take]; omega
theorem r_slice_ropC {t e z n by' : Nat} {agg : Bool} {l : List α} {p q : Int} {x2 : Operand} (hx : rdO (Fs i) S x = some (.g (.one (.ro z n (cV l))))) (hy : rdV (Fs i) S y = some (.int .i64 p)) (hy2 : rdV (Fs i) S x2 = some (.int .i64 q)) (he : find1 T.elt t = some (none, e, agg, z, by')) (hz : z = Cel.sz α) (hn : n = l.length) (hq0 : 0 ≤ p) (hq : p ≤ q ∧ q ≤ l.length) (hw : (Fs i).sw d = true)
    (k : runX Fs P T cf ops (i + 1) rest (S.put d (some (.g (.one (.ro z ((l.drop p.toNat).take (q - p).toNat).length (cV ((l.drop p.toNat).take (q - p).toNat))))))) K) : runA Fs P T cf ops i ⟨some d, .slice t x (some y) (some x2) none, ty, pos, af, g⟩ rest S K := by
  subst hz hn
  refine r_slice_ro (lv := some (.int .i64 p)) (hv := some (.int .i64 q)) (mv := none) (p := p) (q := q) (m := (l.length : Nat)) hx (by simp only [rdVo, hy]) (by simp only [rdVo, hy2]) rfl he rfl rfl rfl ⟨hq0, hq.1, hq.2, Int.le_refl _⟩ (fun h => by cases h) hw ?_
  rw [ro_cast (l := (l.drop p.toNat).take (q - p).toNat) (z := Cel.sz α) ?_ ?_]
  · exact k
  · rw [cV_drop, cV_take]
  · simp only [List.length_take, List.length_drop]; omega
/-- The end of a row of our own: from now on it is only read. -/
theorem r_slice_fromC {t e z n by' r j : Nat} {agg : Bool} {e' : Option TypeId} {l : List α} {q : Int} (hx : rdO (Fs i) S x = some (.g (.one (.sl j r n)))) (hy : rdV (Fs i) S y = some (.int .i64 q)) (he : find1 T.elt t = some (none, e, agg, z, by')) (her : (Fs i).er j = true) (hew : (Fs i).ew j = true) (hG : S.G j = some (r, .row e' z (cV l))) (hj : Nat.blt j 100000 = true) (hz : z = Cel.sz α) (hn : n = l.length) (hq0 : 0 ≤ q) (hq : q ≤ l.length) (hw : (Fs i).sw d = true)
    (k : runX Fs P T cf ops (i + 1) rest ((S.lay j (some (r, .fro z (cV l)))).put d (some (.g (.one (.ro z (l.drop q.toNat).length (cV (l.drop q.toNat))))))) K) : runA Fs P T cf ops i ⟨some d, .slice t x (some y) none none, ty, pos, af, g⟩ rest S K := by
  subst hz hn
  refine r_slice_sl (lv := some (.int .i64 q)) (hv := none) (mv := none) (p := q) (q := (l.length : Nat)) (m := (l.length : Nat)) hx (by simp only [rdVo, hy]) rfl rfl he her hew hG hj rfl rfl rfl ⟨hq0, hq, Int.le_refl _, Int.le_refl _, Nat.le_of_eq (cV_len l).symm⟩ (fun h => h) rfl hw ?_
  rw [ro_cast (l := l.drop q.toNat) (z := Cel.sz α) ?_ ?_]
  · exact k
  · rw [cV_drop, cV_take, List.take_of_length_le (by simp only [List.length_drop]; omega)]
  · simp only [List.length_drop]; omega
/-- The beginning of a row of our own, with no more room. -/
theorem r_slice_clipC {t e z n by' r j : Nat} {agg : Bool} {e' : Option TypeId} {l : List α} {q m : Int} {mx : Operand} (hx : rdO (Fs i) S x = some (.g (.one (.sl j r n)))) (hy : rdV (Fs i) S y = some (.int .i64 q)) (hmx : rdV (Fs i) S mx = some (.int .i64 m)) (he : find1 T.elt t = some (none, e, agg, z, by')) (her : (Fs i).er j = true) (hew : (Fs i).ew j = true) (hG : S.G j = some (r, .row e' z (cV l))) (hz : z = Cel.sz α) (hn : n = l.length) (hq0 : 0 ≤ q) (hq : q ≤ m ∧ m ≤ l.length) (hw : (Fs i).sw d = true)
    (k : runX Fs P T cf ops (i + 1) rest ((S.lay j (some (r + 1, .row e' z (cV (l.take q.toNat))))).put d (some (.g (.one (.sl j (r + 1) (l.take q.toNat).length))))) K) : runA Fs P T cf ops i ⟨some d, .slice t x none (some y) (some mx), ty, pos, af, g⟩ rest S K := by
  subst hz hn
  refine r_slice_clip (hv := some (.int .i64 q)) (m := .int .i64 m) (q := q) (mq := m) hx (by simp only [rdVo, hy]) hmx he her hew hG rfl rfl ⟨hq0, hq.1, hq.2, Nat.le_of_eq (cV_len l).symm⟩ rfl hw ?_
  rw [cV_take]
  rw [List.length_take, Nat.min_eq_left (by omega)] at k
  exact k
/-- A row laid out by a literal. -/
theorem r_buildSliceC (α : Type) [Cel α] {t n e sz by' : Nat} {r : Nat} {agg : Bool} {ps : Array (Nat × Operand)} {z l : List Value} {ls : List (Nat × AV)} {cs : List AC} {ms : List α} (hp : rdPs (Fs i) S ps.toList = some ls) (he : find1 T.elt t = some (none, e, agg, sz, by')) (hz : find1 T.zer e = some z) (hzz : z = Cel.f (Cel.no : α)) (hf : fillA (fun i => some (i * sz, sz)) ((List.replicate n z).flatten.map .v) ls = some cs) (hl : pcs cs = some l) (hu : unL α n l = some ms) (hzl : Nat.beq z.length sz = true) (hb : Nat.ble (n * sz) 1000 = true) (hb2 : Nat.ble n 1000 = true)
    (hj : Nat.blt (nid d 0) 100000 = true) (her : (Fs i).er (nid d 0) = true) (hew : (Fs i).ew (nid d 0) = true) (hr : nvO S (nid d 0) = some r) (hw : (Fs i).sw d = true)
    (k : runX Fs P T cf ops (i + 1) rest ((S.lay (nid d 0) (some (r, .row (some e) sz (cV ms)))).put d (some (.g (.one (.sl (nid d 0) r ms.length))))) K) : runA Fs P T cf ops i ⟨some d, .buildSlice t n ps, ty, pos, af, g⟩ rest S K := by
  obtain ⟨u1, u2⟩ := unL_eq hu
  subst u1 u2
  exact r_buildSlice hp he hz hf hl hzl hb hb2 hj her hew (nvO_eq hr) hw k
theorem r_makeSlice0 (α : Type) [Cel α] {t e sz by' : Nat} {r : Nat} {agg : Bool} {z : List Value} {k1 k2 : IntKind} {q : Int} (hx : rdV (Fs i) S x = some (.int k1 0)) (hy : rdV (Fs i) S y = some (.int k2 q)) (he : find1 T.elt t = some (none, e, agg, sz, by')) (hz : find1 T.zer e = some z) (hzz : z = Cel.f (Cel.no : α)) (hzl : Nat.beq z.length sz = true)
    (hj : Nat.blt (nid d 0) 100000 = true) (her : (Fs i).er (nid d 0) = true) (hew : (Fs i).ew (nid d 0) = true) (hr : nvO S (nid d 0) = some r) (hw : (Fs i).sw d = true) (h0 : 0 ≤ q ∧ q ≤ 100000000) (hby : by' ≤ 1000)
    (k : runX Fs P T cf ops (i + 1) rest ((S.lay (nid d 0) (some (r, .row (some e) sz (cV ([] : List α))))).put d (some (.g (.one (.sl (nid d 0) r ([] : List α).length))))) K) : runA Fs P T cf ops i ⟨some d, .makeSlice t x y, ty, pos, af, g⟩ rest S K := by
  subst hzz
  refine r_makeSlice (m := 0) hx hy he hz hzl hj her hew (nvO_eq hr) hw rfl h0.1 (by omega) ?_ k
  have : (by' : Int) * q ≤ 1000 * 100000000 := Int.mul_le_mul (by omega) (by omega) (by omega) (by omega)
  omega
theorem r_makeSliceC (α : Type) [Cel α] {t e sz by' m : Nat} {r : Nat} {agg : Bool} {z : List Value} {k1 k2 : IntKind} {n q : Int} (hx : rdV (Fs i) S x = some (.int k1 n)) (hy : rdV (Fs i) S y = some (.int k2 q)) (he : find1 T.elt t = some (none, e, agg, sz, by')) (hz : find1 T.zer e = some z) (hzz : z = Cel.f (Cel.no : α)) (hzl : Nat.beq z.length sz = true)
    (hj : Nat.blt (nid d 0) 100000 = true) (her : (Fs i).er (nid d 0) = true) (hew : (Fs i).ew (nid d 0) = true) (hr : nvO S (nid d 0) = some r) (hw : (Fs i).sw d = true) (h0 : 0 ≤ n ∧ n ≤ q ∧ q ≤ 100000000) (hm : n.toNat = m) (hby : by' ≤ 1000)
    (k : runX Fs P T cf ops (i + 1) rest ((S.lay (nid d 0) (some (r, .row (some e) sz (cV (List.replicate m (Cel.no : α)))))).put d (some (.g (.one (.sl (nid d 0) r (List.replicate m (Cel.no : α)).length))))) K) : runA Fs P T cf ops i ⟨some d, .makeSlice t x y, ty, pos, af, g⟩ rest S K := by
  subst hzz
  rw [List.length_replicate] at k
  refine r_makeSlice (m := m) hx hy he hz hzl hj her hew (nvO_eq hr) hw (by omega) h0.2.1 (by omega) ?_ (by rw [cV_zero]; exact k)
  have : (by' : Int) * q ≤ 1000 * 100000000 := Int.mul_le_mul (by omega) (by omega) (by omega) (by omega)
  omega
end
section
variable {P : Program} {T : Tab} {cf : FuncId → Option (List AV → Option Tmp → AM)} {F : Ft} {Fs : Nat → Ft} {i : Nat} {rest : List Oper} {S : St} {K : St → Prop} {ops : Array Oper} {d : Tmp} {x y c : Operand} {a b : AV} {ty : TypeId} {pos : String} {af : Array Edge} {g : Option (Nat × Bool)}
theorem two_pow_le {n m : Nat} (h : n ≤ m) : (2 : Int) ^ n ≤ 2 ^ m := by
  have : 2 ^ n ≤ 2 ^ m := Nat.pow_le_pow_right (by omega) h
  exact_mod_cast this
theorem two_pow_pos (n : Nat) : (1 : Int) ≤ 2 ^ n := by
  have : 0 < (2 : Int) ^ n := Int.pow_pos (by omega)
  omega
/-- Work on small numbers, whose result is named. -/
theorem r_shlS {t yt : TypeId} {yk : IntKind} {m n : Int} (hx : rdV (Fs i) S x = some (.int .i64 m)) (hy : rdV (Fs i) S y = some (.int yk n)) (h0 : 0 ≤ n ∧ n ≤ 24) (h1 : 0 ≤ m ∧ m ≤ 65536) (hw : (Fs i).sw d = true)
    (k : ∀ q : Int, q = m * 2 ^ n.toNat → 0 ≤ q ∧ q ≤ m * 16777216 → runX Fs P T cf ops (i + 1) rest (S.put d (some (vI q))) K) : runA Fs P T cf ops i ⟨some d, .binOp .shl t x y yt, ty, pos, af, g⟩ rest S K := by
  have h2 := two_pow_le (n := n.toNat) (m := 24) (by omega)
  have h3 := two_pow_pos n.toNat
  have h4 : 0 ≤ m * 2 ^ n.toNat := Int.mul_nonneg h1.1 (by omega)
  have h5 : m * 2 ^ n.toNat ≤ m * 2 ^ 24 := Int.mul_le_mul_of_nonneg_left h2 h1.1
  refine r_shl hx hy (by omega) rfl ?_ hw (k _ rfl ⟨h4, by simpa using h5⟩)
  have : m * 2 ^ 24 ≤ 65536 * 2 ^ 24 := Int.mul_le_mul_of_nonneg_right h1.2 (by omega)
  omega
theorem r_shrS {t yt : TypeId} {yk : IntKind} {m n : Int} (hx : rdV (Fs i) S x = some (.int .i64 m)) (hy : rdV (Fs i) S y = some (.int yk n)) (h0 : 0 ≤ n ∧ n ≤ 64) (h1 : 0 ≤ m) (hw : (Fs i).sw d = true)
    (k : ∀ q : Int, q = m / 2 ^ n.toNat → 0 ≤ q ∧ q ≤ m → runX Fs P T cf ops (i + 1) rest (S.put d (some (vI q))) K) : runA Fs P T cf ops i ⟨some d, .binOp .shr t x y yt, ty, pos, af, g⟩ rest S K :=
  r_shr hx hy h0 hw (k _ rfl ⟨Int.ediv_nonneg h1 (by have := two_pow_pos n.toNat; omega), Int.ediv_le_self _ h1⟩)
theorem r_bitS {o : BinOp} {t yt : TypeId} {m n q0 : Int} (hx : rdV (Fs i) S x = some (.int .i64 m)) (hy : rdV (Fs i) S y = some (.int .i64 n)) (hq : bitI o m n = some q0) (h0 : 0 ≤ m ∧ m < 1099511627776) (h1 : 0 ≤ n ∧ n < 1099511627776) (hw : (Fs i).sw d = true)
    (k : ∀ q : Int, q = q0 → 0 ≤ q ∧ q < 1099511627776 → runX Fs P T cf ops (i + 1) rest (S.put d (some (vI q))) K) : runA Fs P T cf ops i ⟨some d, .binOp o t x y yt, ty, pos, af, g⟩ rest S K := by
  refine r_bit hx hy hq (by omega) (by omega) hw (k _ rfl ?_)
  have ha : m.toNat < 2 ^ 40 := by omega
  have hb : n.toNat < 2 ^ 40 := by omega
  have hand : m.toNat &&& n.toNat < 2 ^ 40 := Nat.lt_of_le_of_lt Nat.and_le_left ha
  have hor : m.toNat ||| n.toNat < 2 ^ 40 := Nat.or_lt_two_pow ha hb
  have hxor : m.toNat ^^^ n.toNat < 2 ^ 40 := Nat.xor_lt_two_pow ha hb
  cases o <;> simp only [bitI, Option.some.injEq] at hq <;> first | (cases hq; done) | (subst hq; omega)
theorem r_remS {t yt : TypeId} {m n : Int} (hx : rdV (Fs i) S x = some (.int .i64 m)) (hy : rdV (Fs i) S y = some (.int .i64 n)) (h0 : 0 ≤ m) (h1 : 1 ≤ n) (hw : (Fs i).sw d = true)
    (k : ∀ q : Int, q = m % n → 0 ≤ q ∧ q < n ∧ q ≤ m → runX Fs P T cf ops (i + 1) rest (S.put d (some (vI q))) K) : runA Fs P T cf ops i ⟨some d, .binOp .rem t x y yt, ty, pos, af, g⟩ rest S K :=
  r_rem hx hy h0 h1 hw (k _ rfl ⟨Int.emod_nonneg _ (by omega), Int.emod_lt_of_pos _ (by omega), by
    have := Int.emod_add_mul_ediv m n
    have h2 : 0 ≤ n * (m / n) := Int.mul_nonneg (by omega) (Int.ediv_nonneg h0 (by omega))
    omega⟩)
theorem r_quoS {t yt : TypeId} {m n : Int} (hx : rdV (Fs i) S x = some (.int .i64 m)) (hy : rdV (Fs i) S y = some (.int .i64 n)) (h0 : 0 ≤ m ∧ m ≤ 9223372036854775807) (h1 : 1 ≤ n) (hw : (Fs i).sw d = true)
    (k : ∀ q : Int, q = m / n → 0 ≤ q ∧ q ≤ m → runX Fs P T cf ops (i + 1) rest (S.put d (some (vI q))) K) : runA Fs P T cf ops i ⟨some d, .binOp .quo t x y yt, ty, pos, af, g⟩ rest S K :=
  r_quo hx hy h0 h1 hw (k _ rfl ⟨Int.ediv_nonneg h0.1 (by omega), Int.ediv_le_self _ h0.1⟩)
/-- The rest of a number that may be negative. -/
theorem r_remT {t yt : TypeId} {m n : Int} (hx : rdV (Fs i) S x = some (.int .i64 m)) (hy : rdV (Fs i) S y = some (.int .i64 n)) (h1 : n ≠ 0) (h0 : m < 0) (hw : (Fs i).sw d = true)
    (k : ∀ q : Int, q = m.tmod n → q ≤ 0 → runX Fs P T cf ops (i + 1) rest (S.put d (some (vI q))) K) : runA Fs P T cf ops i ⟨some d, .binOp .rem t x y yt, ty, pos, af, g⟩ rest S K :=
  r_remt hx hy h1 hw (k _ rfl (by
    have h2 : 0 ≤ (-m).tmod n := Int.tmod_nonneg _ (by omega)
    rw [Int.neg_tmod] at h2
    omega))
end
section
variable {P : Program} {T : Tab} {cf : FuncId → Option (List AV → Option Tmp → AM)} {F : Ft} {Fs : Nat → Ft} {i : Nat} {rest : List Oper} {S : St} {K : St → Prop} {ops : Array Oper} {d : Tmp} {x y c : Operand} {a b : AV} {ty : TypeId} {pos : String} {af : Array Edge} {g : Option (Nat × Bool)}
/-- A list, told element by element. -/
def tellL {α : Type} : List α → Option (List α)
  | [] => some []
  | a :: l => match tellL l with
    | some l' => some (a :: l')
    | none => none
theorem tellL_eq {α : Type} : ∀ {l l' : List α}, tellL l = some l' → l = l'
  | [], l', h => by cases h; rfl
  | a :: l, l', h => by
    simp only [tellL] at h
    split at h
    · rename_i l1 h1
      cases h
      rw [tellL_eq h1]
    · cases h
/-- An element of cells that are told one by one. -/
theorem r_load_rowN {t j r off sz size : Nat} {e : Option TypeId} {l vs : List Value} (hx : rdO (Fs i) S x = some (.g (.one (.ptr j r off)))) (hl : find1 T.lay t = some (true, size)) (her : (Fs i).er j = true) (hG : S.G j = some (r, .row e sz l)) (hw : (Fs i).sw d = true) (hv : tellL ((l.drop off).take size) = some vs) (hn : Nat.beq vs.length size = true) (h0 : Nat.blt 0 size = true)
    (k : runX Fs P T cf ops (i + 1) rest (S.put d (some (.g (.agg (vs.map .v))))) K) : runA Fs P T cf ops i ⟨some d, .load t x, ty, pos, af, g⟩ rest S K := by
  have hv := tellL_eq hv
  have hn := Nat.eq_of_beq_eq_true hn
  have h0 := blt_lt h0
  have hle : off + size ≤ l.length := by
    rw [← hv, List.length_take, List.length_drop] at hn
    omega
  exact r_load_rowk hx hl her hG hw hle hv k
theorem r_load_rpN {t size : Nat} {l vs : List Value} (hx : rdO (Fs i) S x = some (.g (.one (.rp l)))) (hl : find1 T.lay t = some (true, size)) (hw : (Fs i).sw d = true) (hv : tellL (l.take size) = some vs) (hn : Nat.beq vs.length size = true)
    (k : runX Fs P T cf ops (i + 1) rest (S.put d (some (.g (.agg (vs.map .v))))) K) : runA Fs P T cf ops i ⟨some d, .load t x, ty, pos, af, g⟩ rest S K := by
  have hv := tellL_eq hv
  have hn := Nat.eq_of_beq_eq_true hn
  refine r_load_rpk hx hl hw ?_ hv k
  rw [← hv, List.length_take] at hn
  omega
end
section
variable {P : Program} {T : Tab} {cf : FuncId → Option (List AV → Option Tmp → AM)} {F : Ft} {Fs : Nat → Ft} {i : Nat} {rest : List Oper} {S : St} {K : St → Prop} {ops : Array Oper} {d : Tmp} {x y c : Operand} {a b : AV} {ty : TypeId} {pos : String} {af : Array Edge} {g : Option (Nat × Bool)}
/-- What an operation is. -/
theorem g_load {t : TypeId} (h : runA Fs P T cf ops i ⟨some d, .load t x, ty, pos, af, g⟩ rest S K) : runA Fs P T cf ops i ⟨some d, .load t x, ty, pos, af, g⟩ rest S K := h
theorem g_fieldAddr {s f : Nat} (h : runA Fs P T cf ops i ⟨some d, .fieldAddr s x f, ty, pos, af, g⟩ rest S K) : runA Fs P T cf ops i ⟨some d, .fieldAddr s x f, ty, pos, af, g⟩ rest S K := h
theorem g_binOp {o : BinOp} {t yt : TypeId} (h : runA Fs P T cf ops i ⟨some d, .binOp o t x y yt, ty, pos, af, g⟩ rest S K) : runA Fs P T cf ops i ⟨some d, .binOp o t x y yt, ty, pos, af, g⟩ rest S K := h
theorem g_unOp {o : UnOp} {t : TypeId} (h : runA Fs P T cf ops i ⟨some d, .unOp o t x, ty, pos, af, g⟩ rest S K) : runA Fs P T cf ops i ⟨some d, .unOp o t x, ty, pos, af, g⟩ rest S K := h
theorem g_callF {f : FuncId} {args : Array Operand} {ts : Array TypeId} (h : runA Fs P T cf ops i ⟨some d, .call { callee := .value (.func f), args := args, argTypes := ts }, ty, pos, af, g⟩ rest S K) : runA Fs P T cf ops i ⟨some d, .call { callee := .value (.func f), args := args, argTypes := ts }, ty, pos, af, g⟩ rest S K := h
theorem g_callV {f : Nat} {args : Array Operand} {ts : Array TypeId} (h : runA Fs P T cf ops i ⟨some d, .call { callee := .value (.tmp f), args := args, argTypes := ts }, ty, pos, af, g⟩ rest S K) : runA Fs P T cf ops i ⟨some d, .call { callee := .value (.tmp f), args := args, argTypes := ts }, ty, pos, af, g⟩ rest S K := h
theorem g_callB {b : Builtin} {args : Array Operand} {ts : Array TypeId} (h : runA Fs P T cf ops i ⟨some d, .call { callee := .builtin b, args := args, argTypes := ts }, ty, pos, af, g⟩ rest S K) : runA Fs P T cf ops i ⟨some d, .call { callee := .builtin b, args := args, argTypes := ts }, ty, pos, af, g⟩ rest S K := h
theorem g_field {s f : Nat} (h : runA Fs P T cf ops i ⟨some d, .field s x f, ty, pos, af, g⟩ rest S K) : runA Fs P T cf ops i ⟨some d, .field s x f, ty, pos, af, g⟩ rest S K := h
theorem g_indexAddr {t : TypeId} (h : runA Fs P T cf ops i ⟨some d, .indexAddr t x y, ty, pos, af, g⟩ rest S K) : runA Fs P T cf ops i ⟨some d, .indexAddr t x y, ty, pos, af, g⟩ rest S K := h
theorem g_index {t : TypeId} (h : runA Fs P T cf ops i ⟨some d, .index t x y, ty, pos, af, g⟩ rest S K) : runA Fs P T cf ops i ⟨some d, .index t x y, ty, pos, af, g⟩ rest S K := h
theorem g_store {t : TypeId} (h : runA Fs P T cf ops i ⟨none, .store t x y, ty, pos, af, g⟩ rest S K) : runA Fs P T cf ops i ⟨none, .store t x y, ty, pos, af, g⟩ rest S K := h
theorem g_buildSlice {t n : Nat} {ps : Array (Nat × Operand)} (h : runA Fs P T cf ops i ⟨some d, .buildSlice t n ps, ty, pos, af, g⟩ rest S K) : runA Fs P T cf ops i ⟨some d, .buildSlice t n ps, ty, pos, af, g⟩ rest S K := h
theorem g_makeSlice {t : TypeId} (h : runA Fs P T cf ops i ⟨some d, .makeSlice t x y, ty, pos, af, g⟩ rest S K) : runA Fs P T cf ops i ⟨some d, .makeSlice t x y, ty, pos, af, g⟩ rest S K := h
theorem g_slice {t : TypeId} {lo hi mx : Option Operand} (h : runA Fs P T cf ops i ⟨some d, .slice t x lo hi mx, ty, pos, af, g⟩ rest S K) : runA Fs P T cf ops i ⟨some d, .slice t x lo hi mx, ty, pos, af, g⟩ rest S K := h
end
instance : Cel Int where
  f n := [.int .i64 n]
  un vs := match vs with
    | [.int .i64 n] => some n
    | _ => none
  sz := 1
  no := 0
  pos := by omega
  len _ := rfl
  one _ := rfl
  unf vs a h := by
    split at h
    · cases h; rfl
    · cases h
/-- A gate. -/
structure Gt where
  k : Int
  a : Int
  b : Int
  c : Int
  deriving DecidableEq
instance : Cel Gt where
  f g := [.int .i64 g.k, .int .i64 g.a, .int .i64 g.b, .int .i64 g.c]
  un vs := match vs with
    | [.int .i64 k, .int .i64 a, .int .i64 b, .int .i64 c] => some ⟨k, a, b, c⟩
    | _ => none
  sz := 4
  no := ⟨0, 0, 0, 0⟩
  pos := by omega
  len _ := rfl
  one _ := rfl
  unf vs a h := by
    split at h
    · cases h; rfl
    · cases h
end Go.Proofs.Ytgifhhefcmmdfaa
