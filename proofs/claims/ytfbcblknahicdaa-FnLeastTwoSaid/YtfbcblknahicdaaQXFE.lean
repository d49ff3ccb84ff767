/- AbsX, AbsY, AbsZ, CutA, CutB, CutF, LibK, CutE, PC, PP: laid into one text. -/
import Derived.Test.YtfbcblknahicdaaQXFD
import Derived.WalkKit
import Derived.WalkSpells
import Derived.WalkLawsBesides
import Derived.Deep.QuietTactic
import Derived.BigQuiet
import Derived.Lib.Hide
import Derived.Deep.Draws
import Derived.Maps.AppendAt

namespace Go.Proofs.Ytfbcblknahicdaa
set_option linter.unusedVariables false
open Go.RowKit
class Cel (α : Type) where
  f : α → List Value
  un : List Value → Option α
  sz : Nat
  no : α
  pos : 0 < sz
  len : ∀ a, (f a).length = sz
  one : ∀ a, (f a).all (·.oneCell') = true
  unf : ∀ vs a, un vs = some a → f a = vs
def cV {α : Type} [Cel α] (l : List α) : List Value := l.flatMap Cel.f
section
variable {α : Type} [Cel α]
@[simp] theorem cV_nil : cV ([] : List α) = [] := rfl
theorem cV_cons (a : α) (l : List α) : cV (a :: l) = Cel.f a ++ cV l := rfl
theorem cV_len : ∀ l : List α, (cV l).length = l.length * Cel.sz α
  | [] => by simp
  | a :: l => by rw [cV_cons, List.length_append, Cel.len, cV_len l, List.length_cons, Nat.add_mul, Nat.one_mul, Nat.add_comm]
theorem cV_append : ∀ l m : List α, cV l ++ cV m = cV (l ++ m)
  | [], m => rfl
  | a :: l, m => by rw [cV_cons, List.append_assoc, cV_append l m]; rfl
theorem cV_take : ∀ (l : List α) (n : Nat), (cV l).take (n * Cel.sz α) = cV (l.take n)
  | [], n => by simp
  | a :: l, 0 => by simp
  | a :: l, n + 1 => by
    rw [cV_cons, List.take_succ_cons, cV_cons, ← cV_take l n, Nat.add_mul, Nat.one_mul, Nat.add_comm, ← Cel.len a, List.take_append]
    rw [List.take_of_length_le (by omega), Nat.add_sub_cancel_left]
theorem cV_drop : ∀ (l : List α) (n : Nat), (cV l).drop (n * Cel.sz α) = cV (l.drop n)
  | [], n => by simp
  | a :: l, 0 => by simp
  | a :: l, n + 1 => by
    rw [cV_cons, List.drop_succ_cons, ← cV_drop l n, Nat.add_mul, Nat.one_mul, Nat.add_comm, ← Cel.len a, List.drop_append]
    rw [List.drop_of_length_le (by omega), Nat.add_sub_cancel_left, List.nil_append]
theorem cV_at {l : List α} {j : Nat} (h : j < l.length) : ((cV l).drop (j * Cel.sz α)).take (Cel.sz α) = Cel.f (l.getD j Cel.no) := by
  have e1 : l.getD j Cel.no = l[j] := by simp [List.getD_eq_getElem?_getD, h]
  rw [cV_drop, e1, List.drop_eq_getElem_cons h, cV_cons, List.take_append, Cel.len, Nat.sub_self, List.take_zero, List.append_nil, List.take_of_length_le (by rw [Cel.len]; exact Nat.le_refl _)]
theorem cV_mul {l : List α} {j : Nat} (h : j < l.length) : j * Cel.sz α + Cel.sz α ≤ (cV l).length := by
  rw [cV_len]
  have : (j + 1) * Cel.sz α ≤ l.length * Cel.sz α := Nat.mul_le_mul_right _ h
  rwa [Nat.add_mul, Nat.one_mul] at this
theorem cV_cell {l : List α} {j o : Nat} {v : Value} (h : j < l.length) (hv : (Cel.f (l.getD j Cel.no))[o]? = some v) : (cV l)[j * Cel.sz α + o]? = some v := by
  rw [← cV_at h, List.getElem?_take] at hv
  split at hv
  · simpa using hv
  · cases hv
theorem cV_set {l : List α} {j : Nat} (a : α) (h : j < l.length) : splice (cV l) (j * Cel.sz α) (Cel.f a) = cV (l.set j a) := by
  unfold splice
  rw [cV_take, show j * Cel.sz α + (Cel.f a).length = (j + 1) * Cel.sz α by rw [Cel.len, Nat.add_mul, Nat.one_mul], cV_drop, List.append_assoc, ← cV_cons, cV_append]
  congr 1
  rw [List.set_eq_take_append_cons_drop, if_pos h]
theorem cV_zero (n : Nat) (a : α) : (List.replicate n (Cel.f a)).flatten = cV (List.replicate n a) := by
  induction n with
  | zero => rfl
  | succ n ih => rw [List.replicate_succ, List.flatten_cons, ih]; rfl
theorem cV_one (l : List α) : (cV l).all (·.oneCell') = true := by
  induction l with
  | nil => rfl
  | cons a l ih => rw [cV_cons, List.all_append, Cel.one, ih]; rfl
def unL (α : Type) [Cel α] : Nat → List Value → Option (List α)
  | 0, [] => some []
  | 0, _ :: _ => none
  | n + 1, vs => match Cel.un (α := α) (vs.take (Cel.sz α)), unL α n (vs.drop (Cel.sz α)) with
    | some a, some l => some (a :: l)
    | _, _ => none
theorem unL_eq : ∀ {n : Nat} {vs : List Value} {l : List α}, unL α n vs = some l → cV l = vs ∧ l.length = n
  | 0, [], l, h => by cases h; exact ⟨rfl, rfl⟩
  | 0, _ :: _, l, h => by cases h
  | n + 1, vs, l, h => by
    simp only [unL] at h
    split at h
    · rename_i a l' h1 h2
      cases h
      obtain ⟨h3, h4⟩ := unL_eq h2
      exact ⟨by rw [cV_cons, Cel.unf _ _ h1, h3, List.take_append_drop], by simp [h4]⟩
    · cases h
end
section
variable {P : Program} {T : Tab} {cf : FuncId → Option (List AV → Option Tmp → AM)} {F : Ft} {Fs : Nat → Ft} {i : Nat} {rest : List Oper} {S : St} {K : St → Prop} {ops : Array Oper} {d : Tmp} {x y c : Operand} {a b : AV} {ty : TypeId} {pos : String} {af : Array Edge} {g : Option (Nat × Bool)} {α : Type} [Cel α]
theorem r_append_cut {t e sz by' b' r n m : Nat} {agg : Bool} {z l news : List Value} {p : Prop} (hx : rdO (Fs i) S x = some (.g (.one (.sl b' r n)))) (hy : rdO (Fs i) S y = some b) (he : find1 T.elt t = some (none, e, agg, sz, by')) (hz : find1 T.zer e = some z) (hsl : rdSl (Fs i) S b sz = some (m, news, p)) (hzl : Nat.beq z.length sz = true)
    (her : (Fs i).er b' = true) (hG : S.G b' = some (r, .row (some e) sz l)) (hew : (Fs i).ew b' = true) (hw : (Fs i).sw d = true) (hp : p) (hle : n * sz ≤ l.length) (h1 : n + m ≤ maxLen) (h2 : (n + m) * by' ≤ 140737488355328)
    (k : runX Fs P T cf ops (i + 1) rest ((S.lay b' (some (r + 1, .row (some e) sz (l.take (n * sz) ++ news)))).put d (some (.g (.one (.sl b' (r + 1) (n + m)))))) K) : runA Fs P T cf ops i ⟨some d, .call { callee := .builtin .append, args := #[x, y], argTypes := #[t, t] }, ty, pos, af, g⟩ rest S K :=
  getO_of hx (getO_of hy (orFail_of he (orFail_of hz (getSl_of hsl hp (need_of ⟨rfl, rfl, Nat.eq_of_beq_eq_true hzl⟩ (getE_of her hG (need_of ⟨rfl, rfl, rfl, hle, h1, h2⟩ ⟨hew, putD_of hw k⟩)))))))
theorem r_boxV {t r : Nat} {cs : List AC} (hx : rdO (Fs i) S x = some a) (hc : cellsOf a = some cs) (hj : Nat.blt (nid d 0) 100000 = true) (her : (Fs i).er (nid d 0) = true) (hew : (Fs i).ew (nid d 0) = true) (hr : nvO S (nid d 0) = some r) (hw : (Fs i).sw d = true)
    (k : runX Fs P T cf ops (i + 1) rest ((S.lay (nid d 0) (some (r, .box cs))).put d (some (.g (.one (.ptr (nid d 0) r 0))))) K) : runA Fs P T cf ops i ⟨some d, .box t x, ty, pos, af, g⟩ rest S K :=
  r_box hx hc hj her hew (nvO_eq hr) hw k
theorem r_allocV {t r : Nat} {z : List Value} (hz : find1 T.zer t = some z) (hj : Nat.blt (nid d 0) 100000 = true) (her : (Fs i).er (nid d 0) = true) (hew : (Fs i).ew (nid d 0) = true) (hr : nvO S (nid d 0) = some r) (hw : (Fs i).sw d = true)
    (k : runX Fs P T cf ops (i + 1) rest ((S.lay (nid d 0) (some (r, .box (z.map .v)))).put d (some (.g (.one (.ptr (nid d 0) r 0))))) K) : runA Fs P T cf ops i ⟨some d, .alloc t, ty, pos, af, g⟩ rest S K :=
  r_alloc hz hj her hew (nvO_eq hr) hw k
end
section
variable {P : Program} {T : Tab} {cf : FuncId → Option (List AV → Option Tmp → AM)} {F : Ft} {Fs : Nat → Ft} {i : Nat} {rest : List Oper} {S : St} {K : St → Prop} {ops : Array Oper} {d : Tmp} {x y c : Operand} {a b : AV} {ty : TypeId} {pos : String} {af : Array Edge} {g : Option (Nat × Bool)}
theorem two_pow_le {n m : Nat} (h : n ≤ m) : (2 : Int) ^ n ≤ 2 ^ m := by
  have : 2 ^ n ≤ 2 ^ m := Nat.pow_le_pow_right (by omega) h
  exact_mod_cast this
theorem two_pow_pos (n : Nat) : (1 : Int) ≤ 2 ^ n := by
  have : 0 < (2 : Int) ^ n := Int.pow_pos (by omega)
  omega
theorem r_shlS {t yt : TypeId} {yk : IntKind} {m n : Int} (hx : rdV (Fs i) S x = some (.int .i64 m)) (hy : rdV (Fs i) S y = some (.int yk n)) (h0 : 0 ≤ n ∧ n ≤ 24) (h1 : 0 ≤ m ∧ m ≤ 65536) (hw : (Fs i).sw d = true)
    (k : ∀ q : Int, q = m * 2 ^ n.toNat → 0 ≤ q ∧ q ≤ m * 16777216 → runX Fs P T cf ops (i + 1) rest (S.put d (some (vI q))) K) : runA Fs P T cf ops i ⟨some d, .binOp .shl t x y yt, ty, pos, af, g⟩ rest S K := by
  have h2 := two_pow_le (n := n.toNat) (m := 24) (by omega)
  have h3 := two_pow_pos n.toNat
  have h4 : 0 ≤ m * 2 ^ n.toNat := Int.mul_nonneg h1.1 (by omega)
  have h5 : m * 2 ^ n.toNat ≤ m * 2 ^ 24 := Int.mul_le_mul_of_nonneg_left h2 h1.1
  refine r_shl hx hy (by omega) rfl ?_ hw (k _ rfl ⟨h4, by simpa using h5⟩)
  have : m * 2 ^ 24 ≤ 65536 * 2 ^ 24 := Int.mul_le_mul_of_nonneg_right h1.2 (by omega)
  omega
theorem r_shrS {t yt : TypeId} {yk : IntKind} {m n : Int} (hx : rdV (Fs i) S x = some (.int .i64 m)) (hy : rdV (Fs i) S y = some (.int yk n)) (h0 : 0 ≤ n ∧ n ≤ 64) (h1 : 0 ≤ m) (hw : (Fs i).sw d = true)
    (k : ∀ q : Int, q = m / 2 ^ n.toNat → 0 ≤ q ∧ q ≤ m → runX Fs P T cf ops (i + 1) rest (S.put d (some (vI q))) K) : runA Fs P T cf ops i ⟨some d, .binOp .shr t x y yt, ty, pos, af, g⟩ rest S K :=
  r_shr hx hy h0 hw (k _ rfl ⟨Int.ediv_nonneg h1 (by have := two_pow_pos n.toNat; omega), Int.ediv_le_self _ h1⟩)
theorem r_bitS {o : BinOp} {t yt : TypeId} {m n q0 : Int} (hx : rdV (Fs i) S x = some (.int .i64 m)) (hy : rdV (Fs i) S y = some (.int .i64 n)) (hq : bitI o m n = some q0) (h0 : 0 ≤ m ∧ m < 1099511627776) (h1 : 0 ≤ n ∧ n < 1099511627776) (hw : (Fs i).sw d = true)
    (k : ∀ q : Int, q = q0 → 0 ≤ q ∧ q < 1099511627776 → runX Fs P T cf ops (i + 1) rest (S.put d (some (vI q))) K) : runA Fs P T cf ops i ⟨some d, .binOp o t x y yt, ty, pos, af, g⟩ rest S K := by
  refine r_bit hx hy hq (by omega) (by omega) hw (k _ rfl ?_)
  have ha : m.toNat < 2 ^ 40 := by omega
  have hb : n.toNat < 2 ^ 40 := by omega
  have hand : m.toNat &&& n.toNat < 2 ^ 40 := Nat.lt_of_le_of_lt Nat.and_le_left ha
  have hor : m.toNat ||| n.toNat < 2 ^ 40 := Nat.or_lt_two_pow ha hb
  have hxor : m.toNat ^^^ n.toNat < 2 ^ 40 := Nat.xor_lt_two_pow ha hb
  cases o <;> simp only [bitI, Option.some.injEq] at hq <;> first | (cases hq; done) | (subst hq; omega)
theorem r_remS {t yt : TypeId} {m n : Int} (hx : rdV (Fs i) S x = some (.int .i64 m)) (hy : rdV (Fs i) S y = some (.int .i64 n)) (h0 : 0 ≤ m) (h1 : 1 ≤ n) (hw : (Fs i).sw d = true)
    (k : ∀ q : Int, q = m % n → 0 ≤ q ∧ q < n ∧ q ≤ m → runX Fs P T cf ops (i + 1) rest (S.put d (some (vI q))) K) : runA Fs P T cf ops i ⟨some d, .binOp .rem t x y yt, ty, pos, af, g⟩ rest S K :=
  r_rem hx hy h0 h1 hw (k _ rfl ⟨Int.emod_nonneg _ (by omega), Int.emod_lt_of_pos _ (by omega), by
    have := Int.emod_add_mul_ediv m n
    have h2 : 0 ≤ n * (m / n) := Int.mul_nonneg (by omega) (Int.ediv_nonneg h0 (by omega))
    omega⟩)
theorem r_quoS {t yt : TypeId} {m n : Int} (hx : rdV (Fs i) S x = some (.int .i64 m)) (hy : rdV (Fs i) S y = some (.int .i64 n)) (h0 : 0 ≤ m ∧ m ≤ 9223372036854775807) (h1 : 1 ≤ n) (hw : (Fs i).sw d = true)
    (k : ∀ q : Int, q = m / n → 0 ≤ q ∧ q ≤ m → runX Fs P T cf ops (i + 1) rest (S.put d (some (vI q))) K) : runA Fs P T cf ops i ⟨some d, .binOp .quo t x y yt, ty, pos, af, g⟩ rest S K :=
  r_quo hx hy h0 h1 hw (k _ rfl ⟨Int.ediv_nonneg h0.1 (by omega), Int.ediv_le_self _ h0.1⟩)
end
section
variable {P : Program} {T : Tab} {cf : FuncId → Option (List AV → Option Tmp → AM)} {F : Ft} {Fs : Nat → Ft} {i : Nat} {rest : List Oper} {S : St} {K : St → Prop} {ops : Array Oper} {d : Tmp} {x y c : Operand} {a b : AV} {ty : TypeId} {pos : String} {af : Array Edge} {g : Option (Nat × Bool)}
end
section
variable {P : Program} {T : Tab} {cf : FuncId → Option (List AV → Option Tmp → AM)} {F : Ft} {Fs : Nat → Ft} {i : Nat} {rest : List Oper} {S : St} {K : St → Prop} {ops : Array Oper} {d : Tmp} {x y c : Operand} {a b : AV} {ty : TypeId} {pos : String} {af : Array Edge} {g : Option (Nat × Bool)}
end
instance : Cel Int where
  f n := [.int .i64 n]
  un vs := match vs with
    | [.int .i64 n] => some n
    | _ => none
  sz := 1
  no := 0
  pos := by omega
  len _ := rfl
  one _ := rfl
  unf vs a h := by
    split at h
    · cases h; rfl
    · cases h
structure Gt where
  k : Int
  a : Int
  b : Int
  c : Int
  deriving DecidableEq
instance : Cel Gt where
  f g := [.int .i64 g.k, .int .i64 g.a, .int .i64 g.b, .int .i64 g.c]
  un vs := match vs with
    | [.int .i64 k, .int .i64 a, .int .i64 b, .int .i64 c] => some ⟨k, a, b, c⟩
    | _ => none
  sz := 4
  no := ⟨0, 0, 0, 0⟩
  pos := by omega
  len _ := rfl
  one _ := rfl
  unf vs a h := by
    split at h
    · cases h; rfl
    · cases h
end Go.Proofs.Ytfbcblknahicdaa
namespace Go.Proofs.Ytfbcblknahicdaa
set_option linter.unusedVariables false
set_option linter.unusedSimpArgs false
open Go.RowKit
section
variable {P : Program} {T : Tab} {cf : FuncId → Option (List AV → Option Tmp → AM)} {F : Ft} {Fs : Nat → Ft} {i : Nat} {rest : List Oper} {S S' : St} {K : St → Prop} {ops : Array Oper} {d : Tmp} {x y c : Operand} {a b : AV} {ty : TypeId} {pos : String} {af : Array Edge} {g : Option (Nat × Bool)} {v : AV} {p : Prop}
theorem bc {α : Type} {b : Bool} {x : Option α} {y : α} (h : (bif b then x else none) = some y) : b = true ∧ x = some y := by
  cases b with
  | true => exact ⟨rfl, h⟩
  | false => cases h
theorem b2 {a b : Bool} (h : (a && b) = true) : a = true ∧ b = true := by cases a <;> cases b <;> first | exact ⟨rfl, rfl⟩ | cases h
def evField (F : Ft) (T : Tab) (S : St) (x : Operand) (s f : Nat) : Option AV := match rdO F S x, find1 T.fld (s * 1000 + f) with
  | some (.g (.agg cs)), some (off, agg, size) => bif Nat.blt f 1000 && Nat.ble (off + size) cs.length then ofa agg ((cs.drop off).take size) else none
  | _, _ => none
theorem q_field {s f : Nat} (h : evField (Fs i) T S x s f = some v) (hw : (Fs i).sw d = true) (k : runX Fs P T cf ops (i + 1) rest (S.put d (some v)) K) : runA Fs P T cf ops i ⟨some d, .field s x f, ty, pos, af, g⟩ rest S K := by
  unfold evField at h
  split at h
  · rename_i cs off agg size hx hl
    replace h := bc h; obtain ⟨h1, h⟩ := h
    obtain ⟨h1, h2⟩ := b2 h1
    exact r_field hx hl h1 h2 h hw k
  · cases h
def evNew (F : Ft) (S : St) (d : Nat) (cs : List AC) : Option St := bif Nat.blt (nid d 0) 100000 && (F.er (nid d 0) && (F.ew (nid d 0) && F.sw d)) then (match nvO S (nid d 0) with
  | some r => some ((S.lay (nid d 0) (some (r, .box cs))).put d (some (.g (.one (.ptr (nid d 0) r 0)))))
  | none => none) else none
def evBox (F : Ft) (S : St) (d : Nat) (x : Operand) : Option St := match rdO F S x with
  | some a => match cellsOf a with
    | some cs => evNew F S d cs
    | none => none
  | none => none
theorem q_box {t : TypeId} (h : evBox (Fs i) S d x = some S') (k : runX Fs P T cf ops (i + 1) rest S' K) : runA Fs P T cf ops i ⟨some d, .box t x, ty, pos, af, g⟩ rest S K := by
  unfold evBox at h
  split at h
  · rename_i a hx
    split at h
    · rename_i cs hc
      unfold evNew at h
      replace h := bc h; obtain ⟨h1, h⟩ := h
      obtain ⟨h1, h2⟩ := b2 h1
      obtain ⟨h2, h3⟩ := b2 h2
      obtain ⟨h3, h4⟩ := b2 h3
      split at h
      · rename_i r hr
        cases h
        exact r_boxV hx hc h1 h2 h3 hr h4 k
      · cases h
    · cases h
  · cases h
def evAlloc (F : Ft) (T : Tab) (S : St) (d : Nat) (t : TypeId) : Option St := match find1 T.zer t with
  | some z => evNew F S d (z.map .v)
  | none => none
theorem q_alloc {t : TypeId} (h : evAlloc (Fs i) T S d t = some S') (k : runX Fs P T cf ops (i + 1) rest S' K) : runA Fs P T cf ops i ⟨some d, .alloc t, ty, pos, af, g⟩ rest S K := by
  unfold evAlloc at h
  split at h
  · rename_i z hz
    unfold evNew at h
    replace h := bc h; obtain ⟨h1, h⟩ := h
    obtain ⟨h1, h2⟩ := b2 h1
    obtain ⟨h2, h3⟩ := b2 h2
    obtain ⟨h3, h4⟩ := b2 h3
    split at h
    · rename_i r hr
      cases h
      exact r_allocV hz h1 h2 h3 hr h4 k
    · cases h
  · cases h
def evBuild (F : Ft) (T : Tab) (S : St) (t : TypeId) (ps : Array (Nat × Operand)) : Option AV := match rdPs F S ps.toList, find1 T.bld t with
  | some ls, some (z, places, esz) => match fillA (placeOf places esz) (z.map .v) ls with
    | some cs => some (.g (.agg cs))
    | none => none
  | _, _ => none
theorem q_build {t : TypeId} {ps : Array (Nat × Operand)} (h : evBuild (Fs i) T S t ps = some v) (hw : (Fs i).sw d = true) (k : runX Fs P T cf ops (i + 1) rest (S.put d (some v)) K) : runA Fs P T cf ops i ⟨some d, .build t ps, ty, pos, af, g⟩ rest S K := by
  unfold evBuild at h
  split at h
  · rename_i ls z places esz hp hb
    split at h
    · rename_i cs hf
      cases h
      exact r_build hp hb hf hw k
    · cases h
  · cases h
def preC (F : Ft) (wt : WsT) (f : Nat) (S : St) (d : Nat) (aa : Option (List AV)) : Option (Bool × St × List AV × List (Nat × Nat) × List Ent × Prop) := match wsOf wt f, aa with
  | (ws, al), some aa => match (bif al then frzF F (cellsW (fun p => ws.any (Nat.beq p)) 0 aa) S else some S) with
    | some S1 => match nrmLf F S1 (fun p => ws.any (Nat.beq p)) 0 aa [] [] [] with
      | some (args', ids, es, vw, q) => bif callB ids vw al d then some (al, S1, args', ids, es, q) else none
      | none => none
    | none => none
  | _, none => none
def postC (F : Ft) (S1 : St) (al : Bool) (ids : List (Nat × Nat)) (es : List Ent) (d : Nat) (out : AV) (news es' : List Ent) : Option St := bif roB al out news es' && F.sw d then (match backF F S1 ids es es' with
  | some S2 => match newFv F d 0 news S2 with
    | some (rs, S3) => match renV2 ids rs d out with
      | some v => some (S3.put d (some v))
      | none => none
    | none => none
  | none => none) else none
def zArgs (z : Nat) (aa : Option (List AV)) : Option (List AV) := match aa with
  | some aa => nilL z aa
  | none => none
theorem q_callA (wt : WsT) (z : Nat) {f : FuncId} {al : Bool} {aa : List AV} {args' : List AV} {ids : List (Nat × Nat)} {es news es' : List Ent} {q : Prop} {out : AV} {S1 S3 : St}
    (h1 : preC F wt f S d (some (aa.map (AV.nilz z))) = some (al, S1, args', ids, es, q)) (hK : Kon P f args' es out news es') (h2 : postC F S1 al ids es d out news es' = some S3) (hq : q) (k : K S3) : (orFail (cfU P f) fun m => m aa (some d)).run F S K := by
  obtain ⟨C, hC, hCe⟩ := hK
  unfold preC at h1
  split at h1
  · rename_i ws al' aa' haa hab
    cases hab
    split at h1
    · rename_i S1' hfz
      split at h1
      · rename_i args2 ids2 es2 vw q2 hn
        replace h1 := bc h1; obtain ⟨hB, h1⟩ := h1
        cases h1
        unfold postC at h2
        replace h2 := bc h2; obtain ⟨h3, h2⟩ := h2
        obtain ⟨hro, hw⟩ := b2 h3
        split at h2
        · rename_i S2 hbk
          split at h2
          · rename_i rs S4 hnw
            split at h2
            · rename_i v hv
              cases h2
              have hv' := renV2_ok hv
              subst hv'
              exact cfU_run (ws := ws) (al := al) z hC (call_of (dst := some d) hfz hn hB hCe hro (by simp) hbk (newFv_ok _ hnw) hq (putD_of hw k))
            · cases h2
          · cases h2
        · cases h2
      · cases h1
    · cases h1
  · cases h1
theorem q_call (wt : WsT) {f : FuncId} {al : Bool} {args : Array Operand} {ts : Array TypeId} {args' : List AV} {ids : List (Nat × Nat)} {es news es' : List Ent} {q : Prop} {out : AV} {S1 S3 : St}
    (h1 : preC (Fs i) wt f S d (rdL (Fs i) S args.toList) = some (al, S1, args', ids, es, q)) (hK : Kon P f args' es out news es') (h2 : postC (Fs i) S1 al ids es d out news es' = some S3) (hq : q) (k : runX Fs P T (cfU P) ops (i + 1) rest S3 K) :
    runA Fs P T (cfU P) ops i ⟨some d, .call { callee := .value (.func f), args := args, argTypes := ts }, ty, pos, af, g⟩ rest S K := by
  cases ha : rdL (Fs i) S args.toList with
  | none => rw [ha] at h1; unfold preC at h1; split at h1 <;> simp_all
  | some aa =>
    rw [ha] at h1
    have h : (getL args.toList fun ls => orFail (cfU P f) fun m => m (ls ++ List.map (fun p => (.g (.one (.ptr p.1 p.2 0)) : AV)) ([] : List (Nat × Nat))) (some d)).run (Fs i) S (fun S' => runX Fs P T (cfU P) ops (i + 1) rest S' K) := by
      refine getL_of _ ha ?_
      rw [List.map_nil, List.append_nil]
      exact q_callA wt 0 (by rw [nilz_zero]; exact h1) hK h2 hq k
    exact h
theorem q_callZ (wt : WsT) (z : Nat) {f : FuncId} {al : Bool} {args : Array Operand} {ts : Array TypeId} {args' : List AV} {ids : List (Nat × Nat)} {es news es' : List Ent} {q : Prop} {out : AV} {S1 S3 : St}
    (h1 : preC (Fs i) wt f S d (zArgs z (rdL (Fs i) S args.toList)) = some (al, S1, args', ids, es, q)) (hK : Kon P f args' es out news es') (h2 : postC (Fs i) S1 al ids es d out news es' = some S3) (hq : q) (k : runX Fs P T (cfU P) ops (i + 1) rest S3 K) :
    runA Fs P T (cfU P) ops i ⟨some d, .call { callee := .value (.func f), args := args, argTypes := ts }, ty, pos, af, g⟩ rest S K := by
  cases ha : zArgs z (rdL (Fs i) S args.toList) with
  | none => rw [ha] at h1; unfold preC at h1; split at h1 <;> simp_all
  | some ab =>
    rw [ha] at h1
    cases ha2 : rdL (Fs i) S args.toList with
    | none => rw [ha2] at ha; cases ha
    | some aa =>
      rw [ha2] at ha
      have hz := nilL_eq (show nilL z aa = some ab from ha)
      subst hz
      have h : (getL args.toList fun ls => orFail (cfU P f) fun m => m (ls ++ List.map (fun p => (.g (.one (.ptr p.1 p.2 0)) : AV)) ([] : List (Nat × Nat))) (some d)).run (Fs i) S (fun S' => runX Fs P T (cfU P) ops (i + 1) rest S' K) := by
        refine getL_of _ ha2 ?_
        rw [List.map_nil, List.append_nil]
        exact q_callA wt z h1 hK h2 hq k
      exact h
def capArgs (aa : Option (List AV)) (caps : List (Nat × Nat)) : Option (List AV) := match aa with
  | some aa => some (aa ++ caps.map fun p => .g (.one (.ptr p.1 p.2 0)))
  | none => none
theorem q_callV (wt : WsT) {f : FuncId} {caps : List (Nat × Nat)} {al : Bool} {args : Array Operand} {ts : Array TypeId} {args' : List AV} {ids : List (Nat × Nat)} {es news es' : List Ent} {q : Prop} {out : AV} {S1 S3 : St}
    (hc : rdO (Fs i) S c = some (.g (.one (.fn f caps)))) (h1 : preC (Fs i) wt f S d (capArgs (rdL (Fs i) S args.toList) caps) = some (al, S1, args', ids, es, q)) (hK : Kon P f args' es out news es') (h2 : postC (Fs i) S1 al ids es d out news es' = some S3) (hq : q) (k : runX Fs P T (cfU P) ops (i + 1) rest S3 K) :
    runA Fs P T (cfU P) ops i ⟨some d, .call { callee := .value c, args := args, argTypes := ts }, ty, pos, af, g⟩ rest S K := by
  cases ha : rdL (Fs i) S args.toList with
  | none => rw [ha] at h1; unfold preC capArgs at h1; split at h1 <;> simp_all
  | some aa =>
    rw [ha] at h1
    refine getO_of (k := fun a => match a with
        | .g (.one (.fn f caps)) => getL args.toList fun as => orFail (cfU P f) fun m => m (as ++ caps.map fun p => .g (.one (.ptr p.1 p.2 0))) (some d)
        | _ => .fail) hc ?_
    refine getL_of _ ha ?_
    exact q_callA wt 0 (by rw [nilz_zero]; exact h1) hK h2 hq k
def CallK (P : Program) (F : Ft) (d : Nat) (f : FuncId) (K : St → Prop) : Bool × St × List AV × List (Nat × Nat) × List Ent × Prop → Prop
  | (al, S1, args', ids, es, q) => ∃ out news es', Kon P f args' es out news es' ∧ ∃ S3, postC F S1 al ids es d out news es' = some S3 ∧ q ∧ K S3
def wszOf (t : List (Nat × Nat)) (f : Nat) : Nat := match find1 t f with
  | some x => x
  | none => 0
def zA (z : Nat) (aa : Option (List AV)) : Option (List AV) := bif Nat.beq z 0 then aa else zArgs z aa
theorem q_callE (wt : WsT) (zt : List (Nat × Nat)) {f : FuncId} {args : Array Operand} {ts : Array TypeId} {r : Bool × St × List AV × List (Nat × Nat) × List Ent × Prop}
    (h1 : preC (Fs i) wt f S d (zA (wszOf zt f) (rdL (Fs i) S args.toList)) = some r) (h : CallK P (Fs i) d f (fun S3 => runX Fs P T (cfU P) ops (i + 1) rest S3 K) r) :
    runA Fs P T (cfU P) ops i ⟨some d, .call { callee := .value (.func f), args := args, argTypes := ts }, ty, pos, af, g⟩ rest S K := by
  obtain ⟨al, S1, args', ids, es, q⟩ := r
  obtain ⟨out, news, es', hK, S3, h2, hq, k⟩ := h
  cases hz : Nat.beq (wszOf zt f) 0 with
  | true =>
    unfold zA at h1
    rw [hz] at h1
    exact q_call wt h1 hK h2 hq k
  | false =>
    unfold zA at h1
    rw [hz] at h1
    exact q_callZ wt _ h1 hK h2 hq k
theorem q_callVE (wt : WsT) {f : FuncId} {caps : List (Nat × Nat)} {args : Array Operand} {ts : Array TypeId} {r : Bool × St × List AV × List (Nat × Nat) × List Ent × Prop}
    (hc : rdO (Fs i) S c = some (.g (.one (.fn f caps)))) (h1 : preC (Fs i) wt f S d (capArgs (rdL (Fs i) S args.toList) caps) = some r) (h : CallK P (Fs i) d f (fun S3 => runX Fs P T (cfU P) ops (i + 1) rest S3 K) r) :
    runA Fs P T (cfU P) ops i ⟨some d, .call { callee := .value c, args := args, argTypes := ts }, ty, pos, af, g⟩ rest S K := by
  obtain ⟨al, S1, args', ids, es, q⟩ := r
  obtain ⟨out, news, es', hK, S3, h2, hq, k⟩ := h
  exact q_callV wt hc h1 hK h2 hq k
end
inductive Rs : Type 1 where
  | ok (p : Prop) (S : St)
  | ex {α β : Type} (p : Prop) (R : α → β → Prop) (k : α → β → St)
  | al (p : Prop) (Q : Int → Prop) (k : Int → St)
def Rs.sat (K : St → Prop) : Rs → Prop
  | .ok p S => p ∧ K S
  | .ex p R k => p ∧ ∃ a b, R a b ∧ K (k a b)
  | .al p Q k => p ∧ ∀ q, Q q → K (k q)
section
variable {K : St → Prop}
theorem z_ok {p : Prop} {S : St} (hp : p) (k : K S) : (Rs.ok p S).sat K := ⟨hp, k⟩
theorem z_ex {α β : Type} {p : Prop} {R : α → β → Prop} {f : α → β → St} {a : α} {b : β} (hp : p) (hR : R a b) (k : K (f a b)) : (Rs.ex p R f).sat K := ⟨hp, a, b, hR, k⟩
theorem z_al {p : Prop} {Q : Int → Prop} {f : Int → St} (hp : p) (k : ∀ q, Q q → K (f q)) : (Rs.al p Q f).sat K := ⟨hp, k⟩
end
theorem z_alV {K : St → Prop} {p : Prop} {e : Int} {R : Int → Prop} {f : Int → St} (hp : p) (k : R e → K (f e)) : (Rs.al p (fun q => q = e ∧ R q) f).sat K := ⟨hp, fun q hq => by obtain ⟨rfl, h⟩ := hq; exact k h⟩
structure Ft1 (L : List Value) (off : Nat) (agg : Bool) (sz : Nat) (v : AV) (u : Unit) : Prop where
  h1 : off + sz ≤ L.length
  h2 : ofa agg (((L.drop off).take sz).map .v) = some v
structure Up1 (L : List Value) (off : Nat) (vs : List Value) (L' : List Value) (u : Unit) : Prop where
  h1 : off + vs.length ≤ L.length
  h2 : splice L off vs = L'
structure Ct1 (L : List Value) (n z by' : Nat) (M : List Value) (m : Nat) (r1 : List Value) (r2 : Nat) : Prop where
  h1 : n * z ≤ L.length
  h2 : n + m ≤ maxLen
  h3 : (n + m) * by' ≤ 140737488355328
  h4 : L.take (n * z) ++ M = r1
  h5 : n + m = r2
structure Cu1 (L : List Value) (n z : Nat) (lo hi mx : Int) (r1 : List Value) (r2 : Nat) : Prop where
  h1 : 0 ≤ lo
  h2 : lo ≤ hi
  h3 : hi ≤ mx
  h4 : mx ≤ n
  h5 : n * z ≤ L.length
  h6 : (L.drop (lo.toNat * z)).take ((hi - lo).toNat * z) = r1
  h7 : (hi - lo).toNat = r2
structure Mk1 (z : List Value) (n q : Int) (by' : Nat) (r1 : List Value) (r2 : Nat) : Prop where
  h1 : 0 ≤ n
  h2 : n ≤ q
  h3 : q ≤ 9223372036854775807
  h4 : (by' : Int) * q ≤ 281474976710656
  h5 : (List.replicate n.toNat z).flatten = r1
  h6 : n.toNat = r2
structure Rw1 (L : List Value) (n : Nat) (r1 : List Value) (r2 : Nat) : Prop where
  h1 : L = r1
  h2 : n = r2
structure Pu1 (P : Program) (s : Sem Value) (r : Value) (u : Unit) : Prop where
  h1 : okv r = true
  h2 : ∀ w, s.run P w = .ok r w
structure Be1 (P : Program) (t : TypeId) (m n q r : Bool) (u : Unit) : Prop where
  h1 : q = r
  h2 : ∀ w, (Op.equal t (.bool m) (.bool n)).run P w = .ok (m == n) w
structure Nc1 (P : Program) (f : Nat → Nat → Nat → Sem Value) (r : Value) (u : Unit) : Prop where
  h1 : okv r = true
  h2 : ∀ b off c w, (f b off c).run P w = .ok r w
structure Bu1 (P : Program) (f : Sem Next) (r : Value) (u : Unit) : Prop where
  h1 : okv r = true
  h2 : ∀ w, f.run P w = .ok (.value r) w
structure Pk1 (t : Bool) (a b : Option AV) (v : AV) (u : Unit) : Prop where
  h1 : (bif t then a else b) = some v
section
variable {α : Type} [Cel α]
theorem cV_ln {l : List α} {n z : Nat} (hz : z = Cel.sz α) (h : n = l.length) : (cV l).length = n * z := by rw [cV_len, h, hz]
theorem ft_row {l : List α} {q : Int} {z sz : Nat} {agg : Bool} {v : AV} (hz : z = Cel.sz α) (hs : sz = Cel.sz α) (hv : ofa agg ((Cel.f (l.getD q.toNat Cel.no)).map .v) = some v) (hq : 0 ≤ q ∧ q < l.length) : Ft1 (cV l) (q.toNat * z) agg sz v () := by
  subst hz hs
  have h : q.toNat < l.length := by omega
  exact ⟨cV_mul h, by rw [cV_at h]; exact hv⟩
theorem ft_rowF {l : List α} {q : Int} {z o k : Nat} {agg : Bool} {v : AV} (hz : z = Cel.sz α) (hk : Nat.ble (o + k) (Cel.sz α) = true) (hv : ofa agg ((((Cel.f (l.getD q.toNat Cel.no)).drop o).take k).map .v) = some v) (hq : 0 ≤ q ∧ q < l.length) : Ft1 (cV l) (q.toNat * z + o) agg k v () := by
  subst hz
  have h : q.toNat < l.length := by omega
  have hk := Nat.le_of_ble_eq_true hk
  have hm := cV_mul h
  refine ⟨by omega, ?_⟩
  rw [← cV_at h, List.drop_take, List.take_take, List.drop_drop, Nat.min_eq_left (by omega)] at hv
  exact hv
theorem ft_rp {l : List α} {q : Int} {z sz : Nat} {agg : Bool} {v : AV} (hz : z = Cel.sz α) (hs : sz = Cel.sz α) (hv : ofa agg ((Cel.f (l.getD q.toNat Cel.no)).map .v) = some v) (hq : 0 ≤ q ∧ q < l.length) : Ft1 ((cV l).drop (q.toNat * z)) 0 agg sz v () := by
  have h := ft_row hz hs hv hq
  exact ⟨by have := h.h1; simp only [List.length_drop]; omega, by rw [List.drop_zero]; exact h.h2⟩
theorem ft_rpF {l : List α} {q : Int} {z o k : Nat} {agg : Bool} {v : AV} (hz : z = Cel.sz α) (hk : Nat.ble (o + k) (Cel.sz α) = true) (hv : ofa agg ((((Cel.f (l.getD q.toNat Cel.no)).drop o).take k).map .v) = some v) (hq : 0 ≤ q ∧ q < l.length) : Ft1 (((cV l).drop (q.toNat * z)).drop o) 0 agg k v () := by
  have h := ft_rowF hz hk hv hq
  exact ⟨by have := h.h1; simp only [List.length_drop]; omega, by rw [List.drop_zero, List.drop_drop]; exact h.h2⟩
theorem up_row {l : List α} {q : Int} {z : Nat} {vs : List Value} {u : α} (hz : z = Cel.sz α) (hu : Cel.un (α := α) vs = some u) (hq : 0 ≤ q ∧ q < l.length) : Up1 (cV l) (q.toNat * z) vs (cV (l.set q.toNat u)) () := by
  subst hz
  have h : q.toNat < l.length := by omega
  have hv := Cel.unf _ _ hu
  exact ⟨by rw [← hv, Cel.len]; exact cV_mul h, by rw [← hv, cV_set u h]⟩
theorem up_rowF {l : List α} {q : Int} {z o : Nat} {v : Value} {u : α} (hz : z = Cel.sz α) (ho : Nat.blt o (Cel.sz α) = true) (hu : Cel.un (α := α) ((Cel.f (l.getD q.toNat Cel.no)).set o v) = some u) (hq : 0 ≤ q ∧ q < l.length) : Up1 (cV l) (q.toNat * z + o) [v] (cV (l.set q.toNat u)) () := by
  subst hz
  have h : q.toNat < l.length := by omega
  have ho' := blt_lt ho
  have hm := cV_mul h
  have hlt : q.toNat * Cel.sz α + o < (cV l).length := by omega
  refine ⟨hlt, ?_⟩
  rw [splice_one hlt]
  have hu' := Cel.unf _ _ hu
  rw [← cV_set u h, hu', ← cV_at h]
  apply List.ext_getElem?
  intro n
  have hl0 : (((cV l).drop (q.toNat * Cel.sz α)).take (Cel.sz α)).length = Cel.sz α := by simp only [List.length_take, List.length_drop]; omega
  rw [splice_get (by simp only [List.length_set]; omega), List.length_set, hl0]
  by_cases hn : n = q.toNat * Cel.sz α + o
  · subst hn
    rw [List.getElem?_set_self (by omega), if_pos (by omega), show q.toNat * Cel.sz α + o - q.toNat * Cel.sz α = o by omega, List.getElem?_set_self (by omega)]
  · rw [List.getElem?_set_ne (Ne.symm hn)]
    split
    · rename_i hc
      rw [List.getElem?_set_ne (by omega), List.getElem?_take, if_pos (by omega), List.getElem?_drop]
      congr 1; omega
    · rfl
theorem ct_of {L M : List Value} {n z by' m : Nat} {l ms : List α} (hb : Nat.ble by' 1000 = true) (h0 : n * z ≤ L.length) (hn : n = l.length) (hm : m = ms.length) (e : L.take (n * z) ++ M = cV (l ++ ms)) (h1 : l.length + ms.length ≤ 100000000) : Ct1 L n z by' M m (cV (l ++ ms)) ((l ++ ms).length) := by
  subst hn hm
  have h2 := Nat.le_of_ble_eq_true hb
  refine ⟨h0, by unfold maxLen; omega, ?_, e, by rw [List.length_append]⟩
  calc (l.length + ms.length) * by' ≤ (l.length + ms.length) * 1000 := Nat.mul_le_mul_left _ h2
    _ ≤ 140737488355328 := by omega
theorem ct_c {l ms : List α} {n z by' m : Nat} {M : List Value} (hb : Nat.ble by' 1000 = true) (hz : z = Cel.sz α) (hu : unL α m M = some ms) (h : n = l.length ∧ l.length + ms.length ≤ 100000000) : Ct1 (cV l) n z by' M m (cV (l ++ ms)) ((l ++ ms).length) := by
  obtain ⟨hn, h1⟩ := h
  obtain ⟨u1, u2⟩ := unL_eq hu
  subst hz u1
  refine ct_of hb (by rw [cV_len, hn]; exact Nat.le_refl _) hn u2.symm ?_ h1
  rw [cV_take, cV_append, hn, List.take_length]
theorem ct_r {l ms : List α} {n z by' m : Nat} (hb : Nat.ble by' 1000 = true) (hz : z = Cel.sz α) (h : n = l.length ∧ m = ms.length ∧ l.length + ms.length ≤ 100000000) : Ct1 (cV l) n z by' (cV ms) m (cV (l ++ ms)) ((l ++ ms).length) := by
  obtain ⟨hn, hm, h1⟩ := h
  subst hz
  refine ct_of hb (by rw [cV_len, hn]; exact Nat.le_refl _) hn hm ?_ h1
  rw [cV_take, cV_append, hn, List.take_length]
theorem ct_0 {L : List Value} {z by' m : Nat} {ms : List α} (hb : Nat.ble by' 1000 = true) (h : m = ms.length ∧ ms.length ≤ 100000000) : Ct1 L 0 z by' (cV ms) m (cV ms) ms.length := by
  obtain ⟨hm, h1⟩ := h
  have h := ct_of (l := ([] : List α)) (ms := ms) (L := L) (M := cV ms) (n := 0) (z := z) (m := m) hb (by omega) rfl hm (by simp) (by simpa using h1)
  simpa using h
theorem ct_t {l ms : List α} {n z by' m : Nat} {M : List Value} (hb : Nat.ble by' 1000 = true) (hz : z = Cel.sz α) (hu : unL α m M = some ms) (hn : n ≤ l.length) (h1 : l.length + ms.length ≤ 100000000) : Ct1 (cV l) n z by' M m (cV (l.take n ++ ms)) ((l.take n ++ ms).length) := by
  obtain ⟨u1, u2⟩ := unL_eq hu
  subst hz u1
  refine ct_of hb (by rw [cV_len]; exact Nat.mul_le_mul_right _ hn) (by rw [List.length_take]; omega) u2.symm ?_ (by rw [List.length_take]; omega)
  rw [cV_take, cV_append]
theorem cu_from {l : List α} {n z : Nat} {p : Int} (hz : z = Cel.sz α) (h : n = l.length ∧ 0 ≤ p ∧ p ≤ l.length) : Cu1 (cV l) n z p n n (cV (l.drop p.toNat)) ((l.drop p.toNat).length) := by
  obtain ⟨hn, hp⟩ := h
  subst hz hn
  refine ⟨hp.1, hp.2, Int.le_refl _, Int.le_refl _, Nat.le_of_eq (cV_len l).symm, ?_, by simp only [List.length_drop]; omega⟩
  rw [cV_drop, cV_take, List.take_of_length_le (by simp only [List.length_drop]; omega)]
theorem cu_to {l : List α} {n z : Nat} {q m : Int} (hz : z = Cel.sz α) (h : n = l.length ∧ 0 ≤ q ∧ q ≤ m ∧ m ≤ l.length) : Cu1 (cV l) n z 0 q m (cV (l.take q.toNat)) ((l.take q.toNat).length) := by
  obtain ⟨hn, hp⟩ := h
  subst hz hn
  refine ⟨Int.le_refl _, hp.1, hp.2.1, hp.2.2, Nat.le_of_eq (cV_len l).symm, ?_, by simp only [List.length_take]; omega⟩
  rw [show (0 : Int).toNat * Cel.sz α = 0 * Cel.sz α from rfl, cV_drop, cV_take, List.drop_zero, show (q - 0).toNat = q.toNat by omega]
theorem cu_all {l : List α} {n z : Nat} {m : Int} (hz : z = Cel.sz α) (h : n = l.length ∧ l.length ≤ m ∧ m ≤ l.length) : Cu1 (cV l) n z 0 (l.length : Int) m (cV l) l.length := by
  have := cu_to (l := l) (q := (l.length : Int)) hz ⟨h.1, Int.natCast_nonneg _, h.2⟩
  rwa [Int.toNat_natCast, List.take_length] at this
theorem cu_p {l : List α} {n z : Nat} {p q m : Int} (hz : z = Cel.sz α) (h : n = l.length ∧ 0 ≤ p ∧ p ≤ q ∧ q ≤ m ∧ m ≤ l.length) : Cu1 (cV l) n z p q m (cV ((l.drop p.toNat).take (q - p).toNat)) (((l.drop p.toNat).take (q - p).toNat).length) := by
  obtain ⟨hn, hp⟩ := h
  subst hz hn
  refine ⟨hp.1, hp.2.1, hp.2.2.1, hp.2.2.2, Nat.le_of_eq (cV_len l).symm, ?_, by simp only [List.length_take, List.length_drop]; omega⟩
  rw [cV_drop, cV_take]
theorem mk_c (α : Type) [Cel α] {z : List Value} {n q : Int} {by' m : Nat} (hz : z = Cel.f (Cel.no : α)) (hb : Nat.ble by' 1000 = true) (hm : n.toNat = m) (h0 : 0 ≤ n ∧ n ≤ q ∧ q ≤ 100000000) : Mk1 z n q by' (cV (List.replicate m (Cel.no : α))) ((List.replicate m (Cel.no : α)).length) := by
  subst hz hm
  have hb := Nat.le_of_ble_eq_true hb
  refine ⟨h0.1, h0.2.1, by omega, ?_, cV_zero _ _, by rw [List.length_replicate]⟩
  have : (by' : Int) * q ≤ 1000 * 100000000 := Int.mul_le_mul (by omega) (by omega) (by omega) (by omega)
  omega
theorem mk_0 (α : Type) [Cel α] {z : List Value} {q : Int} {by' : Nat} (hz : z = Cel.f (Cel.no : α)) (hb : Nat.ble by' 1000 = true) (h0 : 0 ≤ q ∧ q ≤ 100000000) : Mk1 z 0 q by' (cV ([] : List α)) (([] : List α).length) := mk_c α hz hb rfl ⟨Int.le_refl _, h0.1, h0.2⟩
theorem rw_c (α : Type) [Cel α] {L : List Value} {n : Nat} {ms : List α} (hu : unL α n L = some ms) : Rw1 L n (cV ms) ms.length := by
  obtain ⟨u1, u2⟩ := unL_eq hu
  exact ⟨u1.symm, u2.symm⟩
end
theorem be_of {P : Program} {t : TypeId} {m n q : Bool} (h : ∀ w, (Op.equal t (.bool m) (.bool n)).run P w = .ok (m == n) w) : Be1 P t m n q q () := ⟨rfl, h⟩
theorem nc_of {P : Program} {f : Nat → Nat → Nat → Sem Value} {r : Value} (h : ∀ b off c w, (f b off c).run P w = .ok r w) (ho : okv r = true) : Nc1 P f r () := ⟨ho, h⟩
theorem bu_of {P : Program} {f : Sem Next} {r : Value} (h : ∀ w, f.run P w = .ok (.value r) w) (ho : okv r = true) : Bu1 P f r () := ⟨ho, h⟩
theorem ft_raw {L : List Value} {off sz : Nat} {agg : Bool} {v : AV} (h : Nat.ble (off + sz) L.length = true) (hv : ofa agg (((L.drop off).take sz).map .v) = some v) : Ft1 L off agg sz v () := ⟨Nat.le_of_ble_eq_true h, hv⟩
theorem up_raw {L vs : List Value} {off : Nat} (h : Nat.ble (off + vs.length) L.length = true) : Up1 L off vs (setC L off vs) () := ⟨Nat.le_of_ble_eq_true h, setC_eq _ _ _ (Nat.le_of_ble_eq_true h)⟩
theorem rw_raw {L : List Value} {n : Nat} : Rw1 L n L n := ⟨rfl, rfl⟩
theorem pu_of {P : Program} {s : Sem Value} {r : Value} (h : ∀ w, s.run P w = .ok r w) (ho : okv r = true) : Pu1 P s r () := ⟨ho, h⟩
theorem pk_t {t : Bool} {a b : Option AV} {v : AV} (ht : t = true) (h : a = some v) : Pk1 t a b v () := by subst ht; exact ⟨h⟩
theorem pk_f {t : Bool} {a b : Option AV} {v : AV} (ht : t = false) (h : b = some v) : Pk1 t a b v () := by subst ht; exact ⟨h⟩
def evLoad2 (F : Ft) (T : Tab) (S : St) (d : Nat) (x : Operand) (t : TypeId) : Option Rs := match rdO F S x, find1 T.lay t with
  | some (.g (.one (.ptr j r off))), some (agg, size) => bif F.er j then (match S.G j with
    | some (r', .box cs) => bif Nat.beq r r' && Nat.ble (off + size) cs.length then (match ofa agg ((cs.drop off).take size) with
        | some v => some (.ok True (S.put d (some v)))
        | none => none) else none
    | some (r', .rbx cs) => bif Nat.beq r r' && Nat.ble (off + size) cs.length then (match ofa agg ((cs.drop off).take size) with
        | some v => some (.ok True (S.put d (some v)))
        | none => none) else none
    | some (r', .row e sz l) => some (.ex (r = r') (Ft1 l off agg size) fun v _ => S.put d (some v))
    | _ => none) else none
  | some (.g (.one (.rp l))), some (agg, size) => some (.ex True (Ft1 l 0 agg size) fun v _ => S.put d (some v))
  | _, _ => none
def rsV (S : St) (d : Nat) : Option AV → Option Rs
  | some v => some (.ok True (S.put d (some v)))
  | none => none
def rsS : Option St → Option Rs
  | some S' => some (.ok True S')
  | none => none
def evBin2 (F : Ft) (P : Program) (S : St) (d : Nat) (o : BinOp) (t yt : TypeId) (x y : Operand) : Option Rs := match rdV F S x, rdV F S y with
  | some (.int .i64 m), some (.int yk n) => match (match yk with | .i64 => cmpI o m n | _ => none) with
    | some q => some (.ok True (S.put d (some (vB q))))
    | none => match (match yk with | .i64 => arI o m n | _ => none) with
      | some q => some (.ok (-9223372036854775808 ≤ q ∧ q ≤ 9223372036854775807) (S.put d (some (vI q))))
      | none => match o, yk with
        | .rem, .i64 => some (.al (0 ≤ m ∧ 1 ≤ n) (fun q => q = m % n ∧ 0 ≤ q ∧ q < n ∧ q ≤ m) fun q => S.put d (some (vI q)))
        | .quo, .i64 => some (.al (0 ≤ m ∧ m ≤ 9223372036854775807 ∧ 1 ≤ n) (fun q => q = m / n ∧ 0 ≤ q ∧ q ≤ m) fun q => S.put d (some (vI q)))
        | .shl, _ => some (.al ((0 ≤ n ∧ n ≤ 24) ∧ (0 ≤ m ∧ m ≤ 65536)) (fun q => q = m * 2 ^ n.toNat ∧ 0 ≤ q ∧ q ≤ m * 16777216) fun q => S.put d (some (vI q)))
        | .shr, _ => some (.al ((0 ≤ n ∧ n ≤ 64) ∧ 0 ≤ m) (fun q => q = m / 2 ^ n.toNat ∧ 0 ≤ q ∧ q ≤ m) fun q => S.put d (some (vI q)))
        | .and, .i64 => some (.al ((0 ≤ m ∧ m < 1099511627776) ∧ (0 ≤ n ∧ n < 1099511627776)) (fun q => q = ((m.toNat &&& n.toNat : Nat) : Int) ∧ 0 ≤ q ∧ q ≤ m ∧ q ≤ n) fun q => S.put d (some (vI q)))
        | .or, .i64 => some (.al ((0 ≤ m ∧ m < 1099511627776) ∧ (0 ≤ n ∧ n < 1099511627776)) (fun q => q = ((m.toNat ||| n.toNat : Nat) : Int) ∧ 0 ≤ q ∧ q < 1099511627776 ∧ (m < 2 ∧ n < 2 → q < 2) ∧ (m < 65536 ∧ n < 65536 → q < 65536)) fun q => S.put d (some (vI q)))
        | .xor, .i64 => some (.al ((0 ≤ m ∧ m < 1099511627776) ∧ (0 ≤ n ∧ n < 1099511627776)) (fun q => q = ((m.toNat ^^^ n.toNat : Nat) : Int) ∧ 0 ≤ q ∧ q < 1099511627776 ∧ (m < 2 ∧ n < 2 → q < 2) ∧ (m < 65536 ∧ n < 65536 → q < 65536)) fun q => S.put d (some (vI q)))
        | _, _ => none
  | some (.bool m), some (.bool n) => match cmpB o m n with
    | some q => some (.ex True (Be1 P t m n q) fun r _ => S.put d (some (vB r)))
    | none => none
  | some u, some v => some (.ex True (Pu1 P (do eqGuard o t x y u v; binOp o t u v)) fun r _ => S.put d (some (ofv r)))
  | _, _ => none
def evNcmp (F : Ft) (P : Program) (S : St) (d : Nat) (o : BinOp) (t : TypeId) (x y : Operand) : Option Rs := match rdO F S x, y with
  | some (.g (.one (.ro z n l))), .const (.slice none 0 0) => some (.ex (0 < n) (Nc1 P fun b off c => (do eqGuard o t x (.const (.slice none 0 0)) (.slice (some ⟨b, off, none⟩) n c) (.slice none 0 0); binOp o t (.slice (some ⟨b, off, none⟩) n c) (.slice none 0 0) : Sem Value)) fun r _ => S.put d (some (ofv r)))
  | _, _ => none
def evUn (F : Ft) (P : Program) (S : St) (d : Nat) (o : UnOp) (x : Operand) : Option Rs := match o, rdV F S x with
  | .not, some (.bool u) => some (.ok True (S.put d (some (vB !u))))
  | .neg, some (.int .i64 n) => some (.ok (-9223372036854775807 ≤ n ∧ n ≤ 9223372036854775807) (S.put d (some (vI (-n)))))
  | o, some u => some (.ex True (Pu1 P (Op.unary o u)) fun r _ => S.put d (some (ofv r)))
  | _, none => none
def evStore2 (F : Ft) (T : Tab) (S : St) (x y : Operand) (t : TypeId) : Option Rs := match rdO F S x, rdO F S y, find1 T.lay t with
  | some (.g (.one (.ptr j r off))), some b, some (_, size) => match cellsOf b with
    | some cs => bif F.er j && F.ew j then (match S.G j with
      | some (r', .box cells) => bif Nat.beq r r' && (Nat.beq cs.length size && Nat.ble (off + size) cells.length) then some (.ok True (S.lay j (some (r, .box (setC cells off cs))))) else none
      | some (r', .row e sz l) => match pcs cs with
        | some vs => bif Nat.beq vs.length size then some (.ex (r = r') (Up1 l off vs) fun l' _ => S.lay j (some (r, .row e sz l'))) else none
        | none => none
      | _ => none) else none
    | none => none
  | _, _, _ => none
def evFA2 (F : Ft) (T : Tab) (S : St) (d : Nat) (x : Operand) (s f : Nat) : Option Rs := match rdO F S x, find1 T.fld (s * 1000 + f) with
  | some (.g (.one (.ptr j r o))), some (off, _, _) => bif F.er j && Nat.blt f 1000 then (match S.G j with
    | some (r', _) => some (.ok (r = r') (S.put d (some (.g (.one (.ptr j r (o + off)))))))
    | none => none) else none
  | some (.g (.one (.rp l))), some (off, _, _) => bif Nat.blt f 1000 then some (.ok True (S.put d (some (.g (.one (.rp (l.drop off))))))) else none
  | _, _ => none
def evIA2 (F : Ft) (T : Tab) (S : St) (d : Nat) (x y : Operand) (t : TypeId) : Option Rs := match rdO F S x, rdV F S y, find1 T.elt t with
  | some (.g (.one (.ro sz n l))), some (.int _ j), some (none, _, _, sz', _) => bif Nat.beq sz sz' then some (.ok (0 ≤ j ∧ j < (n : Int)) (S.put d (some (.g (.one (.rp (l.drop (j.toNat * sz)))))))) else none
  | some (.g (.one (.sl b r n))), some (.int _ j), some (none, _, _, sz', _) => bif F.er b then (match S.G b with
    | some (r', .row _ sz _) => bif Nat.beq sz sz' then some (.ok (r = r' ∧ 0 ≤ j ∧ j < (n : Int)) (S.put d (some (.g (.one (.ptr b r (j.toNat * sz))))))) else none
    | some (r', .fro sz l) => bif Nat.beq sz sz' then some (.ok (r = r' ∧ 0 ≤ j ∧ j < (n : Int) ∧ n * sz ≤ l.length) (S.put d (some (.g (.one (.rp (l.drop (j.toNat * sz)))))))) else none
    | _ => none) else none
  | some (.g (.one (.ptr b r off))), some (.int _ j), some (some n, _, _, sz, _) => bif F.er b then (match S.G b with
    | some (r', _) => some (.ok (r = r' ∧ 0 ≤ j ∧ j < (n : Int)) (S.put d (some (.g (.one (.ptr b r (off + j.toNat * sz)))))))
    | _ => none) else none
  | _, _, _ => none
def evLen2 (F : Ft) (T : Tab) (S : St) (d : Nat) (x : Operand) (t : TypeId) : Option Rs := match rdO F S x, find1 T.elt t with
  | some (.g (.one (.ro _ n _))), some (none, _) => some (.ok True (S.put d (some (vI n))))
  | some (.g (.one (.v (.slice none 0 0)))), some (none, _) => some (.ok True (S.put d (some (vI 0))))
  | some (.g (.one (.sl b r n))), some (none, _) => bif F.er b then (match S.G b with
    | some (r', _) => some (.ok (r = r') (S.put d (some (vI n))))
    | none => none) else none
  | _, _ => none
def evRow (F : Ft) (S : St) (d : Nat) (e : TypeId) (sz : Nat) (p : Prop) (R : List Value → Nat → Prop) : Option Rs := bif Nat.blt (nid d 0) 100000 && (F.er (nid d 0) && F.ew (nid d 0)) then (match nvO S (nid d 0) with
  | some r => some (.ex p R fun x1 x2 => (S.lay (nid d 0) (some (r, .row (some e) sz x1))).put d (some (.g (.one (.sl (nid d 0) r x2)))))
  | none => none) else none
def evBuildS (F : Ft) (T : Tab) (S : St) (d t n : Nat) (ps : Array (Nat × Operand)) : Option Rs := match rdPs F S ps.toList, find1 T.elt t with
  | some ls, some (none, e, _, sz, _) => match find1 T.zer e with
    | some z => match fillA (fun i => some (i * sz, sz)) ((List.replicate n z).flatten.map .v) ls with
      | some cs => match pcs cs with
        | some l => bif Nat.beq z.length sz && (Nat.ble (n * sz) 1000 && Nat.ble n 1000) then evRow F S d e sz True (Rw1 l n) else none
        | none => none
      | none => none
    | none => none
  | _, _ => none
def evMakeS (F : Ft) (T : Tab) (S : St) (d t : Nat) (x y : Operand) : Option Rs := match rdV F S x, rdV F S y, find1 T.elt t with
  | some (.int _ n), some (.int _ q), some (none, e, _, sz, by') => match find1 T.zer e with
    | some z => bif Nat.beq z.length sz then evRow F S d e sz True (Mk1 z n q by') else none
    | none => none
  | _, _, _ => none
def evCut (F : Ft) (T : Tab) (S : St) (d t : Nat) (x : Operand) (lo hi mx : Option Operand) : Option Rs := match rdO F S x, rdVo F S lo, rdVo F S hi, rdVo F S mx, find1 T.elt t with
  | some (.g (.one (.ro z n l))), some lv, some hv, some mv, some (none, _, _, z', _) => match lo0 lv, hi0 n hv, hi0 n mv with
    | some p, some q, some m => bif Nat.beq z z' && (hv.isSome || mv.isNone) then some (.ex True (Cu1 l n z p q m) fun x1 x2 => S.put d (some (.g (.one (.ro z x2 x1))))) else none
    | _, _, _ => none
  | some (.g (.one (.sl j r n))), some lv, some hv, some mv, some (none, _, _, z', _) => match lo0 lv, hi0 n hv, hi0 n mv with
    | some p, some q, some m => bif F.er j && F.ew j && (hv.isSome || mv.isNone) then (match S.G j with
      | some (r', .row e z l) => bif Nat.beq z z' then (match lv, mv with
        | none, none => some (.ok (r = r' ∧ 0 ≤ q ∧ q ≤ m ∧ m ≤ n ∧ n * z ≤ l.length) (S.put d (some (.g (.one (.sl j r q.toNat))))))
        | none, some _ => some (.ex (r = r') (Cu1 l n z 0 q m) fun x1 x2 => (S.lay j (some (r + 1, .row e z x1))).put d (some (.g (.one (.sl j (r + 1) x2)))))
        | _, _ => bif Nat.blt j 100000 then some (.ex (r = r') (Cu1 l n z p q m) fun x1 x2 => (S.lay j (some (r, .fro z l))).put d (some (.g (.one (.ro z x2 x1))))) else none) else none
      | _ => none) else none
    | _, _, _ => none
  | _, _, _, _, _ => none
def evApp (F : Ft) (T : Tab) (S : St) (d t : Nat) (x y : Operand) : Option Rs := match rdO F S x, rdO F S y, find1 T.elt t with
  | some a, some b, some (none, e, _, z, by') => match find1 T.zer e, rdSl F S b z with
    | some zs, some (m, news, p) => bif Nat.beq zs.length z then (match a with
      | .g (.one (.v (.slice none 0 0))) => evRow F S d e z p (Ct1 [] 0 z by' news m)
      | .g (.one (.sl j r n)) => bif F.er j && F.ew j then (match S.G j with
        | some (r', .row (some e') z' l) => bif Nat.beq e e' && Nat.beq z z' then some (.ex (r = r' ∧ p) (Ct1 l n z by' news m) fun x1 x2 => (S.lay j (some (r + 1, .row (some e) z x1))).put d (some (.g (.one (.sl j (r + 1) x2))))) else none
        | _ => none) else none
      | _ => none) else none
    | _, _ => none
  | _, _, _ => none
def rdVs (F : Ft) (S : St) : List Operand → Option (List Value)
  | [] => some []
  | x :: l => match rdV F S x, rdVs F S l with
    | some v, some vs => some (v :: vs)
    | _, _ => none
def evBuiltin (F : Ft) (P : Program) (T : Tab) (S : St) (d : Nat) (b : Builtin) (args : Array Operand) (ts : Array TypeId) (rt : TypeId) : Option Rs := match b, args.toList, ts.toList with
  | .len, [x], [t] => match rdO F S x with
    | some (.g (.one (.v (.string s)))) => some (.ex True (Bu1 P (builtin .len ts rt (args.map isConst) #[.string s])) fun r _ => S.put d (some (ofv r)))
    | _ => evLen2 F T S d x t
  | .append, [x, y], [t, t'] => bif Nat.beq t t' then evApp F T S d t x y else none
  | .len, _, _ => none
  | .append, _, _ => none
  | b, _, _ => match rdVs F S args.toList with
    | some vs => some (.ex True (Bu1 P (builtin b ts rt (args.map isConst) vs.toArray)) fun r _ => S.put d (some (ofv r)))
    | none => none
def evNilc (F : Ft) (S : St) (d : Nat) (x : Operand) : Option Rs := match rdO F S x with
  | some (.g (.one (.ptr j r off))) => bif F.er j then (match S.G j with
    | some (r', _) => some (.ok (r = r') (S.put d (some (.g (.one (.ptr j r off))))))
    | none => none) else none
  | some (.g (.one (.rp l))) => some (.ok True (S.put d (some (.g (.one (.rp l))))))
  | _ => none
def evExt (F : Ft) (S : St) (d : Nat) (x : Operand) (k : Nat) : Option Rs := match rdO F S x with
  | some (.tup xs) => match xs[k]? with
    | some y => some (.ok True (S.put d (some (.g y))))
    | none => none
  | _ => none
def evMkF (F : Ft) (S : St) (d : Nat) (f : FuncId) (first caps : Array Operand) : Option Rs := match rdL F S caps.toList with
  | some aa => match ptrsOf aa with
    | some ps => bif Nat.beq first.size 0 then some (.ok True (S.put d (some (.g (.one (.fn f ps)))))) else none
    | none => none
  | none => none
def evPick (F : Ft) (S : St) (d : Nat) (c x y : Operand) : Option Rs := match rdO F S c with
  | some (.g (.one (.v (.bool t)))) => some (.ex True (Pk1 t (rdO F S x) (rdO F S y)) fun v _ => S.put d (some v))
  | _ => none
structure CvB (P : Program) (s t : TypeId) (n : Int) : Prop where
  h1 : 0 ≤ n ∧ n ≤ 255
  h2 : ∀ w, (convert s t (.int .u8 n)).run P w = .ok (.int .i64 n) w
theorem cvB {P : Program} {s t : TypeId} {b : UInt8} (h : ∀ w, (convert s t (.int .u8 b.toNat)).run P w = .ok (.int .i64 (IntKind.i64.wrap b.toNat)) w) : CvB P s t b.toNat := by
  have hb := b.toNat_lt
  exact ⟨by omega, fun w => by rw [h w, IntWalk.i64_in _ (by omega)]⟩
theorem pu_cv {P : Program} {s t : TypeId} {k : IntKind} {n : Int} (h : ∀ w, (convert s t (.int k n)).run P w = .ok (.int .i64 (IntKind.i64.wrap n)) w) (hn : -9223372036854775808 ≤ n ∧ n ≤ 9223372036854775807) : Pu1 P (convert s t (.int k n)) (.int .i64 n) () :=
  ⟨rfl, fun w => by rw [h w, IntWalk.i64_in _ hn]⟩
def evConv (P : Program) (S : St) (d : Nat) (s t : TypeId) : Option Value → Option Rs
  | some (.int .u8 n) => some (.al (CvB P s t n) (fun q => q = n ∧ 0 ≤ q ∧ q ≤ 255) fun q => S.put d (some (vI q)))
  | some u => some (.ex True (Pu1 P (convert s t u)) fun r _ => S.put d (some (ofv r)))
  | none => none
def evPu2 (P : Program) (S : St) (d : Nat) (f : Value → Value → Sem Value) : Option Value → Option Value → Option Rs
  | some u, some v => some (.ex True (Pu1 P (f u v)) fun r _ => S.put d (some (ofv r)))
  | _, _ => none
def isRoO (F : Ft) (S : St) (x : Operand) : Bool := match rdO F S x with
  | some (.g (.one (.ro _ _ _))) => true
  | _ => false
def ev2 (F : Ft) (P : Program) (T : Tab) (S : St) (d : Nat) (rt : TypeId) : Op → Option Rs
  | .move x => rsV S d (rdO F S x)
  | .assign x => rsV S d (rdO F S x)
  | .pick c x y => evPick F S d c x y
  | .load t x => evLoad2 F T S d x t
  | .fieldAddr s x f => evFA2 F T S d x s f
  | .field s x f => rsV S d (evField F T S x s f)
  | .binOp o t x y yt => bif isRoO F S x then evNcmp F P S d o t x y else evBin2 F P S d o t yt x y
  | .unOp o _ x => evUn F P S d o x
  | .convert s t x => evConv P S d s t (rdV F S x)
  | .index t x y => evPu2 P S d (Instr.index t) (rdV F S x) (rdV F S y)
  | .extract x k => evExt F S d x k
  | .nilCheck x => evNilc F S d x
  | .makeFunc (.func f) first caps => evMkF F S d f first caps
  | .box _ x => rsS (evBox F S d x)
  | .alloc t => rsS (evAlloc F T S d t)
  | .build t ps => rsV S d (evBuild F T S t ps)
  | .buildSlice t n ps => evBuildS F T S d t n ps
  | .makeSlice t x y => evMakeS F T S d t x y
  | .slice t x lo hi mx => evCut F T S d t x lo hi mx
  | .indexAddr t x y => evIA2 F T S d x y t
  | .call c => match c.callee with
    | .builtin b => evBuiltin F P T S d b c.args c.argTypes rt
    | _ => none
  | _ => none
def ev1 (F : Ft) (P : Program) (T : Tab) (S : St) (o : Oper) : Option Rs := match o.dst with
  | some d => bif F.sw d then ev2 F P T S d o.type o.op else none
  | none => match o.op with
    | .store t x y => evStore2 F T S x y t
    | _ => none
section
variable {P : Program} {T : Tab} {cf : FuncId → Option (List AV → Option Tmp → AM)} {Fs : Nat → Ft} {i : Nat} {rest : List Oper} {S : St} {K : St → Prop} {ops : Array Oper} {d : Tmp} {x y c : Operand} {a b : AV} {ty : TypeId} {pos : String} {af : Array Edge} {g : Option (Nat × Bool)} {r : Rs}
theorem bcR {b : Bool} {x : Option Rs} {y : Rs} (h : (bif b then x else none) = some y) : b = true ∧ x = some y := by
  cases b with
  | true => exact ⟨rfl, h⟩
  | false => cases h
theorem s_ok {p : Prop} {S' : St} {r : Rs} (e : some (Rs.ok p S') = some r) (h : r.sat K) : p ∧ K S' := by cases e; exact h
theorem s_ex {α β : Type} {p : Prop} {R : α → β → Prop} {f : α → β → St} {r : Rs} (e : some (Rs.ex p R f) = some r) (h : r.sat K) : p ∧ ∃ a b, R a b ∧ K (f a b) := by cases e; exact h
theorem s_al {p : Prop} {Q : Int → Prop} {f : Int → St} {r : Rs} (e : some (Rs.al p Q f) = some r) (h : r.sat K) : p ∧ ∀ q, Q q → K (f q) := by cases e; exact h
theorem s_V {v : Option AV} (e : rsV S d v = some r) (h : r.sat K) : ∃ a, v = some a ∧ K (S.put d (some a)) := by
  cases v with
  | none => cases e
  | some a => exact ⟨a, rfl, (s_ok e h).2⟩
theorem s_S {v : Option St} (e : rsS v = some r) (h : r.sat K) : ∃ S', v = some S' ∧ K S' := by
  cases v with
  | none => cases e
  | some a => exact ⟨a, rfl, (s_ok e h).2⟩
theorem s_row {F : Ft} {d' : Nat} {e : TypeId} {sz : Nat} {p : Prop} {R : List Value → Nat → Prop} (h : evRow F S d' e sz p R = some r) (hr : r.sat K) : p ∧ ∃ ver x1 x2, Nat.blt (nid d' 0) 100000 = true ∧ F.er (nid d' 0) = true ∧ F.ew (nid d' 0) = true ∧ nvO S (nid d' 0) = some ver ∧ R x1 x2 ∧ K ((S.lay (nid d' 0) (some (ver, .row (some e) sz x1))).put d' (some (.g (.one (.sl (nid d' 0) ver x2))))) := by
  unfold evRow at h
  replace h := bcR h; obtain ⟨h1, h⟩ := h
  obtain ⟨h1, h2⟩ := b2 h1
  obtain ⟨h2, h3⟩ := b2 h2
  split at h
  · rename_i ver hv
    obtain ⟨hp, x1, x2, hR, hK⟩ := s_ex h hr
    exact ⟨hp, ver, x1, x2, h1, h2, h3, hv, hR, hK⟩
  · cases h
abbrev KX (Fs : Nat → Ft) (P : Program) (T : Tab) (cf : FuncId → Option (List AV → Option Tmp → AM)) (ops : Array Oper) (i : Nat) (rest : List Oper) (K : St → Prop) : St → Prop := fun S' => runX Fs P T cf ops (i + 1) rest S' K
theorem z_load {t : TypeId} (hw : (Fs i).sw d = true) (h : evLoad2 (Fs i) T S d x t = some r) (hr : r.sat (KX Fs P T cf ops i rest K)) : runA Fs P T cf ops i ⟨some d, .load t x, ty, pos, af, g⟩ rest S K := by
  unfold evLoad2 at h
  split at h
  · rename_i j r0 off agg size hx hl
    replace h := bcR h; obtain ⟨her, h⟩ := h
    split at h
    · rename_i r' cs hG
      replace h := bcR h; obtain ⟨h1, h⟩ := h
      obtain ⟨h1, h2⟩ := b2 h1
      have := Nat.eq_of_beq_eq_true h1; subst this
      split at h
      · rename_i v hv
        exact r_load_box hx hl her hG h2 hv hw (s_ok h hr).2
      · cases h
    · rename_i r' cs hG
      replace h := bcR h; obtain ⟨h1, h⟩ := h
      obtain ⟨h1, h2⟩ := b2 h1
      have := Nat.eq_of_beq_eq_true h1; subst this
      split at h
      · rename_i v hv
        exact r_load_rbx hx hl her hG h2 hv hw (s_ok h hr).2
      · cases h
    · rename_i r' e sz l hG
      obtain ⟨rfl, v, _, ⟨h2, h3⟩, k⟩ := s_ex h hr
      exact getO_of hx (orFail_of hl (getE_of her hG (need_of ⟨rfl, h2⟩ (orFail_of h3 (putD_of hw k)))))
    · cases h
  · rename_i l agg size hx hl
    obtain ⟨_, v, _, ⟨h2, h3⟩, k⟩ := s_ex h hr
    rw [List.drop_zero] at h3
    exact getO_of hx (orFail_of hl (need_of (by omega) (orFail_of h3 (putD_of hw k))))
  · cases h
theorem z_bin {o : BinOp} {t yt : TypeId} (hw : (Fs i).sw d = true) (h : evBin2 (Fs i) P S d o t yt x y = some r) (hr : r.sat (KX Fs P T cf ops i rest K)) : runA Fs P T cf ops i ⟨some d, .binOp o t x y yt, ty, pos, af, g⟩ rest S K := by
  unfold evBin2 at h
  split at h
  · rename_i m yk n hx hy
    split at h
    · rename_i q hq
      cases yk <;> simp only [reduceCtorEq] at hq
      exact r_cmp hx hy hq hw (s_ok h hr).2
    · split at h
      · rename_i q hq
        cases yk <;> simp only [reduceCtorEq] at hq
        obtain ⟨hp, k⟩ := s_ok h hr
        exact r_ar hx hy hq hp hw k
      · split at h
        · obtain ⟨hp, k⟩ := s_al h hr
          exact r_remS hx hy hp.1 hp.2 hw fun q h1 h2 => k q ⟨h1, h2⟩
        · obtain ⟨hp, k⟩ := s_al h hr
          exact r_quoS hx hy ⟨hp.1, hp.2.1⟩ hp.2.2 hw fun q h1 h2 => k q ⟨h1, h2⟩
        · obtain ⟨hp, k⟩ := s_al h hr
          exact r_shlS hx hy hp.1 hp.2 hw fun q h1 h2 => k q ⟨h1, h2⟩
        · obtain ⟨hp, k⟩ := s_al h hr
          exact r_shrS hx hy hp.1 hp.2 hw fun q h1 h2 => k q ⟨h1, h2⟩
        · obtain ⟨hp, k⟩ := s_al h hr
          refine r_bitS (o := .and) hx hy rfl hp.1 hp.2 hw fun q h1 h2 => k q ⟨h1, h2.1, ?_, ?_⟩
          · have := Nat.and_le_left (n := m.toNat) (m := n.toNat); omega
          · have := Nat.and_le_right (n := m.toNat) (m := n.toNat); omega
        · obtain ⟨hp, k⟩ := s_al h hr
          refine r_bitS (o := .or) hx hy rfl hp.1 hp.2 hw fun q h1 h2 => k q ⟨h1, h2.1, h2.2, fun h3 => ?_, fun h3 => ?_⟩
          · have := Nat.or_lt_two_pow (x := m.toNat) (y := n.toNat) (n := 1) (by omega) (by omega); omega
          · have := Nat.or_lt_two_pow (x := m.toNat) (y := n.toNat) (n := 16) (by omega) (by omega); omega
        · obtain ⟨hp, k⟩ := s_al h hr
          refine r_bitS (o := .xor) hx hy rfl hp.1 hp.2 hw fun q h1 h2 => k q ⟨h1, h2.1, h2.2, fun h3 => ?_, fun h3 => ?_⟩
          · have := Nat.xor_lt_two_pow (x := m.toNat) (y := n.toNat) (n := 1) (by omega) (by omega); omega
          · have := Nat.xor_lt_two_pow (x := m.toNat) (y := n.toNat) (n := 16) (by omega) (by omega); omega
        · cases h
  · rename_i m n hx hy
    split at h
    · rename_i q hq
      obtain ⟨_, q', _, ⟨rfl, h1⟩, k⟩ := s_ex h hr
      exact r_cmpB hx hy hq h1 hw k
    · cases h
  · rename_i u v _ _ hx hy
    obtain ⟨_, q, _, h1, k⟩ := s_ex h hr
    exact r_pure2 hx hy h1.h2 h1.h1 hw k
  · cases h
theorem z_ncmp {o : BinOp} {t yt : TypeId} (hw : (Fs i).sw d = true) (h : evNcmp (Fs i) P S d o t x y = some r) (hr : r.sat (KX Fs P T cf ops i rest K)) : runA Fs P T cf ops i ⟨some d, .binOp o t x y yt, ty, pos, af, g⟩ rest S K := by
  unfold evNcmp at h
  split at h
  · rename_i z n l hx
    obtain ⟨h0, q, _, h1, k⟩ := s_ex h hr
    exact r_nilcmp hx h0 h1.h2 h1.h1 hw k
  · cases h
theorem z_un {o : UnOp} {t : TypeId} (hw : (Fs i).sw d = true) (h : evUn (Fs i) P S d o x = some r) (hr : r.sat (KX Fs P T cf ops i rest K)) : runA Fs P T cf ops i ⟨some d, .unOp o t x, ty, pos, af, g⟩ rest S K := by
  unfold evUn at h
  split at h
  · rename_i u hx
    exact r_not hx hw (s_ok h hr).2
  · rename_i n hx
    obtain ⟨hp, k⟩ := s_ok h hr
    exact r_neg hx hp hw k
  · rename_i u _ _ hx
    obtain ⟨_, q, _, h1, k⟩ := s_ex h hr
    exact r_pure1 hx h1.h2 h1.h1 hw k
  · cases h
theorem z_store {t : TypeId} (h : evStore2 (Fs i) T S x y t = some r) (hr : r.sat (KX Fs P T cf ops i rest K)) : runA Fs P T cf ops i ⟨none, .store t x y, ty, pos, af, g⟩ rest S K := by
  unfold evStore2 at h
  split at h
  · rename_i j r0 off b agg size hx hy hl
    split at h
    · rename_i cs hc
      replace h := bcR h; obtain ⟨h1, h⟩ := h
      obtain ⟨her, hew⟩ := b2 h1
      split at h
      · rename_i r' cells hG
        replace h := bcR h; obtain ⟨h1, h⟩ := h
        obtain ⟨h1, h2⟩ := b2 h1
        obtain ⟨h2, h3⟩ := b2 h2
        have := Nat.eq_of_beq_eq_true h1; subst this
        exact r_store_box hx hy hl hc her hG h2 h3 hew (s_ok h hr).2
      · rename_i r' e sz l hG
        split at h
        · rename_i vs hv
          replace h := bcR h; obtain ⟨h2, h⟩ := h
          have h2' := Nat.eq_of_beq_eq_true h2
          obtain ⟨rfl, l', _, ⟨h3, h4⟩, k⟩ := s_ex h hr
          subst h4
          exact r_store_rowk hx hy hl hc hv her hG hew h2 (by omega) k
        · cases h
      · cases h
    · cases h
  · cases h
theorem z_buildS {t n : Nat} {ps : Array (Nat × Operand)} (hw : (Fs i).sw d = true) (h : evBuildS (Fs i) T S d t n ps = some r) (hr : r.sat (KX Fs P T cf ops i rest K)) : runA Fs P T cf ops i ⟨some d, .buildSlice t n ps, ty, pos, af, g⟩ rest S K := by
  unfold evBuildS at h
  split at h
  · rename_i ls e agg sz by' hp he
    split at h
    · rename_i z hz
      split at h
      · rename_i cs hf
        split at h
        · rename_i l hl
          replace h := bcR h; obtain ⟨h1, h⟩ := h
          obtain ⟨c1, c2⟩ := b2 h1
          obtain ⟨c2, c3⟩ := b2 c2
          obtain ⟨_, ver, x1, x2, q1, q2, q3, q4, ⟨q5, q6⟩, k⟩ := s_row h hr
          subst q5 q6
          exact r_buildSlice hp he hz hf hl c1 c2 c3 q1 q2 q3 (nvO_eq q4) hw k
        · cases h
      · cases h
    · cases h
  · cases h
theorem z_makeS {t : Nat} (hw : (Fs i).sw d = true) (h : evMakeS (Fs i) T S d t x y = some r) (hr : r.sat (KX Fs P T cf ops i rest K)) : runA Fs P T cf ops i ⟨some d, .makeSlice t x y, ty, pos, af, g⟩ rest S K := by
  unfold evMakeS at h
  split at h
  · rename_i k1 n k2 q e agg sz by' hx hy he
    split at h
    · rename_i z hz
      replace h := bcR h; obtain ⟨h1, h⟩ := h
      obtain ⟨_, ver, x1, x2, q1, q2, q3, q4, ⟨q5, q6, q7, q8, q9, q0⟩, k⟩ := s_row h hr
      refine r_makeSlice (m := n.toNat) hx hy he hz h1 q1 q2 q3 (nvO_eq q4) hw (by omega) q6 q7 q8 ?_
      rw [q9, q0]; exact k
    · cases h
  · cases h
theorem z_cut {t : Nat} {lo hi mx : Option Operand} (hw : (Fs i).sw d = true) (h : evCut (Fs i) T S d t x lo hi mx = some r) (hr : r.sat (KX Fs P T cf ops i rest K)) : runA Fs P T cf ops i ⟨some d, .slice t x lo hi mx, ty, pos, af, g⟩ rest S K := by
  have hh : ∀ {hv mv : Option Value}, (hv.isSome || mv.isNone) = true → hv = none → mv = none := by
    intro hv mv h1 h2
    subst h2
    cases mv with
    | none => rfl
    | some _ => cases h1
  unfold evCut at h
  split at h
  · rename_i z n l lv hv mv e agg z' by' hx hlo hhi hmx he
    split at h
    · rename_i p q m h1 h2 h3
      replace h := bcR h; obtain ⟨c1, h⟩ := h
      obtain ⟨c1, c2⟩ := b2 c1
      have := Nat.eq_of_beq_eq_true c1; subst this
      obtain ⟨_, x1, x2, ⟨e1, e2, e3, e4, _, e5, e6⟩, k⟩ := s_ex h hr
      refine r_slice_ro hx hlo hhi hmx he h1 h2 h3 ⟨e1, e2, e3, e4⟩ (hh c2) hw ?_
      rw [e5, e6]; exact k
    · cases h
  · rename_i j r0 n lv hv mv e agg z' by' hx hlo hhi hmx he
    split at h
    · rename_i p q m h1 h2 h3
      replace h := bcR h; obtain ⟨c1, h⟩ := h
      obtain ⟨c1, c2⟩ := b2 c1
      obtain ⟨her, hew⟩ := b2 c1
      split at h
      · rename_i r' e' z l hG
        replace h := bcR h; obtain ⟨c4, h⟩ := h
        have := Nat.eq_of_beq_eq_true c4; subst this
        split at h
        · cases h1
          cases h3
          obtain ⟨⟨rfl, e1, e2, e3, e4⟩, k⟩ := s_ok h hr
          refine getO_of hx (getVo_of lo hlo (getVo_of hi hhi (getVo_of mx hmx (orFail_of he (orFail_of (a := 0) rfl (orFail_of h2 (orFail_of (a := (n : Int)) rfl (getE_of her hG (need_of ⟨rfl, rfl, rfl, e4, Int.le_refl 0, e1, e2, Int.le_refl _, hh c2⟩ ?_)))))))))
          exact putD_of hw k
        · rename_i mv'
          cases h1
          obtain ⟨rfl, x1, x2, ⟨e1, e2, e3, e4, e4', e5, e6⟩, k⟩ := s_ex h hr
          refine getO_of hx (getVo_of lo hlo (getVo_of hi hhi (getVo_of mx hmx (orFail_of he (orFail_of (a := 0) rfl (orFail_of h2 (orFail_of h3 (getE_of her hG (need_of ⟨rfl, rfl, rfl, e4', Int.le_refl 0, e2, e3, e4, hh c2⟩ ?_)))))))))
          refine ⟨hew, putD_of hw ?_⟩
          rw [show (0 : Int).toNat * z = 0 from by rw [Int.toNat_zero, Nat.zero_mul], List.drop_zero, show (q - 0).toNat = q.toNat by omega] at e5
          rw [show (q - 0).toNat = q.toNat by omega] at e6
          rw [e5, e6]; exact k
        · rename_i hn1 hn2
          replace h := bcR h; obtain ⟨c5, h⟩ := h
          obtain ⟨rfl, x1, x2, ⟨e1, e2, e3, e4, e4', e5, e6⟩, k⟩ := s_ex h hr
          have h6 : lv.isSome = true := by
            cases lv with
            | some _ => rfl
            | none => cases mv with
              | none => exact (hn1 rfl rfl).elim
              | some v => exact (hn2 v rfl rfl).elim
          refine r_slice_sl hx hlo hhi hmx he her hew hG c5 h1 h2 h3 ⟨e1, e2, e3, e4, e4'⟩ (hh c2) h6 hw ?_
          rw [e5, e6]; exact k
      · cases h
    · cases h
  · cases h
theorem z_app {t : Nat} {ts : TypeId} (hw : (Fs i).sw d = true) (h : evApp (Fs i) T S d t x y = some r) (hr : r.sat (KX Fs P T cf ops i rest K)) : runA Fs P T cf ops i ⟨some d, .call { callee := .builtin .append, args := #[x, y], argTypes := #[t, t] }, ty, pos, af, g⟩ rest S K := by
  unfold evApp at h
  split at h
  · rename_i a b e agg z by' hx hy he
    split at h
    · rename_i zs m news p hz hsl
      replace h := bcR h; obtain ⟨hzl, h⟩ := h
      split at h
      · obtain ⟨hp, ver, x1, x2, q1, q2, q3, q4, ⟨e1, e2, e3, e4, e5⟩, k⟩ := s_row h hr
        rw [Nat.zero_mul, List.take_zero, List.nil_append] at e4
        rw [Nat.zero_add] at e2 e3 e5
        refine r_append_new hx hy he hz hsl hzl q1 q2 q3 (nvO_eq q4) hw hp e2 e3 ?_
        rw [e4, e5]; exact k
      · rename_i j r0 n
        replace h := bcR h; obtain ⟨c1, h⟩ := h
        obtain ⟨her, hew⟩ := b2 c1
        split at h
        · rename_i r' e' z' l hG
          replace h := bcR h; obtain ⟨c2, h⟩ := h
          obtain ⟨c3, c4⟩ := b2 c2
          have := Nat.eq_of_beq_eq_true c3; subst this
          have := Nat.eq_of_beq_eq_true c4; subst this
          obtain ⟨⟨rfl, hp⟩, x1, x2, ⟨e1, e2, e3, e4, e5⟩, k⟩ := s_ex h hr
          refine r_append_cut hx hy he hz hsl hzl her hG hew hw hp e1 e2 e3 ?_
          rw [e4, e5]; exact k
        · cases h
      · cases h
    · cases h
  · cases h
theorem z_fa {s f : Nat} (hw : (Fs i).sw d = true) (h : evFA2 (Fs i) T S d x s f = some r) (hr : r.sat (KX Fs P T cf ops i rest K)) : runA Fs P T cf ops i ⟨some d, .fieldAddr s x f, ty, pos, af, g⟩ rest S K := by
  unfold evFA2 at h
  split at h
  · rename_i j r0 o off agg size hx hl
    replace h := bcR h; obtain ⟨h1, h⟩ := h
    obtain ⟨her, h2⟩ := b2 h1
    split at h
    · rename_i r' e hG
      obtain ⟨rfl, k⟩ := s_ok h hr
      exact r_fieldAddr hx hl h2 her hG hw k
    · cases h
  · rename_i l off agg size hx hl
    replace h := bcR h; obtain ⟨h1, h⟩ := h
    exact r_fieldAddr_rp hx hl h1 hw (s_ok h hr).2
  · cases h
theorem z_ia {t : TypeId} (hw : (Fs i).sw d = true) (h : evIA2 (Fs i) T S d x y t = some r) (hr : r.sat (KX Fs P T cf ops i rest K)) : runA Fs P T cf ops i ⟨some d, .indexAddr t x y, ty, pos, af, g⟩ rest S K := by
  unfold evIA2 at h
  split at h
  · rename_i sz n l kd j e agg sz' by' hx hy he
    replace h := bcR h; obtain ⟨h1, h⟩ := h
    have := Nat.eq_of_beq_eq_true h1; subst this
    obtain ⟨hp, k⟩ := s_ok h hr
    exact r_indexAddr_ro hx hy he hw hp.1 hp.2 k
  · rename_i b r0 n kd j e agg sz' by' hx hy he
    replace h := bcR h; obtain ⟨her, h⟩ := h
    split at h
    · rename_i r' e2 sz l hG
      replace h := bcR h; obtain ⟨h1, h⟩ := h
      have := Nat.eq_of_beq_eq_true h1; subst this
      obtain ⟨⟨rfl, h2, h3⟩, k⟩ := s_ok h hr
      exact r_indexAddr_sl hx hy he her hG hw h2 h3 k
    · rename_i r' sz l hG
      replace h := bcR h; obtain ⟨h1, h⟩ := h
      have := Nat.eq_of_beq_eq_true h1; subst this
      obtain ⟨⟨rfl, h2, h3, h4⟩, k⟩ := s_ok h hr
      exact getO_of hx (getV_of hy (orFail_of he (getE_of her hG (need_of ⟨rfl, rfl, h2, h3, h4⟩ (putD_of hw k)))))
    · cases h
  · rename_i b r0 off kd j n e agg sz by' hx hy he
    replace h := bcR h; obtain ⟨her, h⟩ := h
    split at h
    · rename_i r' e2 hG
      obtain ⟨⟨rfl, h1, h2⟩, k⟩ := s_ok h hr
      exact r_indexAddr_arr hx hy he her hG hw h1 h2 k
    · cases h
  · cases h
theorem z_len {t : TypeId} (hw : (Fs i).sw d = true) (h : evLen2 (Fs i) T S d x t = some r) (hr : r.sat (KX Fs P T cf ops i rest K)) : runA Fs P T cf ops i ⟨some d, .call { callee := .builtin .len, args := #[x], argTypes := #[t] }, ty, pos, af, g⟩ rest S K := by
  unfold evLen2 at h
  split at h
  · rename_i z n l q hx he
    obtain ⟨e, agg, sz, by'⟩ := q
    exact r_len_ro hx he hw (s_ok h hr).2
  · rename_i q hx he
    obtain ⟨e, agg, sz, by'⟩ := q
    exact r_len_nil hx he hw (s_ok h hr).2
  · rename_i b r0 n q hx he
    obtain ⟨e, agg, sz, by'⟩ := q
    replace h := bcR h; obtain ⟨her, h⟩ := h
    split at h
    · rename_i r' e2 hG
      obtain ⟨rfl, k⟩ := s_ok h hr
      exact r_len_sl hx he her hG hw k
    · cases h
  · cases h
theorem getVs_of : ∀ (l : List Operand) {k : List Value → AM} {vs : List Value} {F : Ft} {S : St} {K : St → Prop}, rdVs F S l = some vs → (k vs).run F S K → (getVs l k).run F S K
  | [], k, vs, F, S, K, h, hk => by cases h; exact hk
  | x :: l, k, vs, F, S, K, h, hk => by
    simp only [rdVs] at h
    split at h
    · rename_i v vs' hv hvs
      cases h
      exact getV_of (k := fun a => getVs l fun as => k (a :: as)) hv (getVs_of l (k := fun as => k (v :: as)) hvs hk)
    · cases h
theorem z_builtin {b0 : Builtin} {args : Array Operand} {ts : Array TypeId} (hw : (Fs i).sw d = true) (h : evBuiltin (Fs i) P T S d b0 args ts ty = some r) (hr : r.sat (KX Fs P T cf ops i rest K)) : runA Fs P T cf ops i ⟨some d, .call { callee := .builtin b0, args := args, argTypes := ts }, ty, pos, af, g⟩ rest S K := by
  unfold evBuiltin at h
  split at h
  · rename_i x t ha ht
    have ea : args = #[x] := by rw [← ha]
    have et : ts = #[t] := by rw [← ht]
    subst ea et
    split at h
    · rename_i s hx
      obtain ⟨_, q, _, h1, k⟩ := s_ex h hr
      exact getO_of hx ⟨q, ⟨h1.h1, h1.h2⟩, putD_of hw k⟩
    · exact z_len hw h hr
  · rename_i x y t t' ha ht
    have ea : args = #[x, y] := by rw [← ha]
    have et : ts = #[t, t'] := by rw [← ht]
    subst ea et
    replace h := bcR h; obtain ⟨h1, h⟩ := h
    have := Nat.eq_of_beq_eq_true h1; subst this
    exact z_app (ts := ty) hw h hr
  · cases h
  · cases h
  · rename_i b n0 n1 n2 n3 n4 n5 n6
    split at h
    · rename_i vs hv
      obtain ⟨_, q, _, h1, k⟩ := s_ex h hr
      have key : (getVs args.toList fun vs => .exv (fun r => okv r = true ∧ ∀ w, (builtin b ts ty (args.map isConst) vs.toArray).run P w = .ok (.value r) w) fun r => putD (some d) (ofv r)).run (Fs i) S (KX Fs P T cf ops i rest K) :=
        getVs_of _ hv ⟨q, ⟨h1.h1, h1.h2⟩, putD_of hw k⟩
      cases b with
      | append => exact (n4 rfl).elim
      | len => exact (n3 rfl).elim
      | _ => exact key
    · cases h
theorem z_nilc (hw : (Fs i).sw d = true) (h : evNilc (Fs i) S d x = some r) (hr : r.sat (KX Fs P T cf ops i rest K)) : runA Fs P T cf ops i ⟨some d, .nilCheck x, ty, pos, af, g⟩ rest S K := by
  unfold evNilc at h
  split at h
  · rename_i j r0 off hx
    replace h := bcR h; obtain ⟨her, h⟩ := h
    split at h
    · rename_i r' e hG
      obtain ⟨rfl, k⟩ := s_ok h hr
      exact r_nilCheck hx her hG hw k
    · cases h
  · rename_i l hx
    exact r_nilCheck_rp hx hw (s_ok h hr).2
  · cases h
theorem z_ext {n : Nat} (hw : (Fs i).sw d = true) (h : evExt (Fs i) S d x n = some r) (hr : r.sat (KX Fs P T cf ops i rest K)) : runA Fs P T cf ops i ⟨some d, .extract x n, ty, pos, af, g⟩ rest S K := by
  unfold evExt at h
  split at h
  · rename_i xs hx
    split at h
    · rename_i y hy
      exact r_extract hx hy hw (s_ok h hr).2
    · cases h
  · cases h
theorem z_mkF {f : FuncId} {first caps : Array Operand} (hw : (Fs i).sw d = true) (h : evMkF (Fs i) S d f first caps = some r) (hr : r.sat (KX Fs P T cf ops i rest K)) : runA Fs P T cf ops i ⟨some d, .makeFunc (.func f) first caps, ty, pos, af, g⟩ rest S K := by
  unfold evMkF at h
  split at h
  · rename_i aa ha
    split at h
    · rename_i ps hp
      replace h := bcR h; obtain ⟨h1, h⟩ := h
      exact r_makeFunc h1 ha hp hw (s_ok h hr).2
    · cases h
  · cases h
theorem z_pick (hw : (Fs i).sw d = true) (h : evPick (Fs i) S d c x y = some r) (hr : r.sat (KX Fs P T cf ops i rest K)) : runA Fs P T cf ops i ⟨some d, .pick c x y, ty, pos, af, g⟩ rest S K := by
  unfold evPick at h
  split at h
  · rename_i t hc
    obtain ⟨_, v, _, h1, k⟩ := s_ex h hr
    cases t with
    | true => exact r_pick_t hc rfl h1.h1 hw k
    | false => exact r_pick_f hc rfl h1.h1 hw k
  · cases h
theorem z_op {o : Oper} (h : ev1 (Fs i) P T S o = some r) (hr : r.sat (fun S' => runX Fs P T cf ops (i + 1) rest S' K)) : runA Fs P T cf ops i o rest S K := by
  obtain ⟨dst, op, ty, pos, af, g⟩ := o
  unfold ev1 at h
  dsimp only at h
  cases dst with
  | none =>
    dsimp only at h
    split at h
    · exact z_store h hr
    · cases h
  | some d =>
    dsimp only at h
    replace h := bcR h; obtain ⟨hw, h⟩ := h
    unfold ev2 at h
    split at h
    · obtain ⟨a, h1, k⟩ := s_V h hr; exact r_move h1 hw k
    · obtain ⟨a, h1, k⟩ := s_V h hr; exact r_assign h1 hw k
    · exact z_pick hw h hr
    · exact z_load hw h hr
    · exact z_fa hw h hr
    · obtain ⟨a, h1, k⟩ := s_V h hr; exact q_field h1 hw k
    · rename_i o t x y yt
      cases hq : isRoO (Fs i) S x with
      | true => rw [hq] at h; exact z_ncmp hw h hr
      | false => rw [hq] at h; exact z_bin hw h hr
    · exact z_un hw h hr
    · unfold evConv at h
      split at h
      · rename_i n hu
        obtain ⟨hp, k⟩ := s_al h hr
        exact r_convert hu (r := .int .i64 n) hp.h2 rfl hw (k n ⟨rfl, hp.h1⟩)
      · rename_i u _ hu
        obtain ⟨_, q, _, h1, k⟩ := s_ex h hr
        exact r_convert hu h1.h2 h1.h1 hw k
      · cases h
    · unfold evPu2 at h
      split at h
      · rename_i u v hu hv
        obtain ⟨_, q, _, h1, k⟩ := s_ex h hr
        exact r_index hu hv h1.h2 h1.h1 hw k
      · cases h
    · exact z_ext hw h hr
    · exact z_nilc hw h hr
    · exact z_mkF hw h hr
    · obtain ⟨a, h1, k⟩ := s_S h hr; exact q_box h1 k
    · obtain ⟨a, h1, k⟩ := s_S h hr; exact q_alloc h1 k
    · obtain ⟨a, h1, k⟩ := s_V h hr; exact q_build h1 hw k
    · exact z_buildS hw h hr
    · exact z_makeS hw h hr
    · exact z_cut hw h hr
    · exact z_ia hw h hr
    · rename_i c
      obtain ⟨callee, args, ts⟩ := c
      dsimp only at h
      split at h
      · exact z_builtin hw h hr
      · cases h
    · cases h
end
def refsQ (ids : List (Nat × Nat)) (n : Nat) : List (Nat × Nat) → Option Prop
  | [] => some True
  | p :: l => match (bif Nat.ble 100000 p.1 then (bif Nat.blt p.1 (100000 + n) then some (p.2 = 0) else none) else (match find1 ids p.1 with
      | some r => some (p.2 = r)
      | none => none)), refsQ ids n l with
    | some a, some b => some (a ∧ b)
    | _, _ => none
theorem refsQ_ok {ids : List (Nat × Nat)} {n : Nat} : ∀ {refs : List (Nat × Nat)} {q : Prop}, refsQ ids n refs = some q → q → ∀ p ∈ refs, p ∈ ids ∨ (100000 ≤ p.1 ∧ p.1 < 100000 + n ∧ p.2 = 0)
  | [], q, h, hq, p, hp => by cases hp
  | p0 :: l, q, h, hq, p, hp => by
    simp only [refsQ] at h
    split at h
    · rename_i a b ha hb
      cases h
      rcases List.mem_cons.1 hp with rfl | hp
      · cases hc : Nat.ble 100000 p.1 with
        | true =>
          rw [hc] at ha
          simp only [cond_true] at ha
          replace ha := bc ha
          obtain ⟨h1, h2⟩ := ha
          cases h2
          exact .inr ⟨Nat.le_of_ble_eq_true hc, blt_lt h1, hq.1⟩
        | false =>
          rw [hc] at ha
          simp only [cond_false] at ha
          split at ha
          · rename_i r hr
            cases ha
            have := find1_mem hr
            have h2 : p.2 = r := hq.1
            subst h2
            exact .inl this
          · cases ha
      · exact refsQ_ok hb hq.2 p hp
    · cases h
section
variable {T : Tab} {S : St}
theorem ret_of2 {rs : Array ResultVar} {out : AV} {news es' : List Ent} (ids : List (Nat × Nat)) {xs : List AG} {q : Prop} (hx : resL T S rs.toList = some xs) (hB : retB ids [] es'.length = true) (hQ : refsQ ids es'.length (tupOf xs).refs = some q) (hq : q) (ho : (tupOf xs).ren (fun i => (tau ids i, 0)) = out) (hn : HasN S ids news) (he : HasG S 100000 es') : RetOk T rs out news es' S := by
  have b4 := refsQ_ok hQ hq
  simp only [retB, Bool.and_eq_true, decide_eq_true_eq] at hB
  obtain ⟨⟨⟨b1, b2⟩, b3⟩, _⟩ := hB
  obtain ⟨n1, n2⟩ := hn.get
  have hg := he.get
  have hlt : ∀ p ∈ ids, p.1 < 100000 := fun p hp => blt_lt ((List.all_eq_true.1 b3) p hp)
  refine ⟨xs, tau ids, ids, hx, ho, n1, by rw [← n1]; exact Nat.le_of_ble_eq_true b2, n2, b1, List.all_eq_true.2 fun p hp => by simpa using hlt p hp, hg, fun p hp => ?_⟩
  rcases b4 p hp with h | ⟨g1, g2, g3⟩
  · have hi := idx_at b1 h
    have hk : idx ids p.1 < news.length := by rw [← n1]; exact (List.getElem?_eq_some_iff.1 hi).1
    obtain ⟨q, q1, q2, _⟩ := n2 _ _ (List.getElem?_eq_getElem hk)
    rw [hi] at q1
    cases q1
    refine ⟨⟨_, q2⟩, .inl ⟨_, hi, ?_⟩⟩
    have hb : Nat.ble 100000 p.1 = false := by rw [Bool.eq_false_iff]; intro hb; have := Nat.le_of_ble_eq_true hb; have := hlt p h; omega
    simp [tau, hb]
  · have hj : p.1 - 100000 < es'.length := by omega
    have := (hg _ _ (List.getElem?_eq_getElem hj)).1
    rw [show 100000 + (p.1 - 100000) = p.1 by omega] at this
    have h1 : Nat.ble 100000 p.1 = true := Nat.ble_eq_true_of_le g1
    exact ⟨⟨_, by rw [g3]; exact this⟩, .inr ⟨p.1 - 100000, by omega, hj, by simp [tau, h1]; omega⟩⟩
theorem ret_auto2 {rs : Array ResultVar} {out : AV} {news es' : List Ent} {xs : List AG} {q : Prop} (hx : resL T S rs.toList = some xs) (hB : retB (nubP [] (tupOf xs).refs) [] es'.length = true) (hQ : refsQ (nubP [] (tupOf xs).refs) es'.length (tupOf xs).refs = some q) (hq : q) (ho : (tupOf xs).ren (fun i => (tau (nubP [] (tupOf xs).refs) i, 0)) = out) (hn : HasN S (nubP [] (tupOf xs).refs) news) (he : HasG S 100000 es') : RetOk T rs out news es' S :=
  ret_of2 _ hx hB hQ hq ho hn he
end
instance : Cel Bool where
  f b := [.bool b]
  un vs := match vs with
    | [.bool b] => some b
    | _ => none
  sz := 1
  no := false
  pos := by omega
  len _ := rfl
  one _ := rfl
  unf vs a h := by
    split at h
    · cases h; rfl
    · cases h
instance : Cel UInt8 where
  f b := [.int .u8 b.toNat]
  un vs := match vs with
    | [.int .u8 n] => if 0 ≤ n ∧ n < 256 then some (UInt8.ofNat n.toNat) else none
    | _ => none
  sz := 1
  no := 0
  pos := by omega
  len _ := rfl
  one _ := rfl
  unf vs a h := by
    split at h
    · rename_i n
      split at h
      · cases h
        rename_i hn
        have : (n.toNat : Int) = n := by omega
        simp [UInt8.toNat_ofNat']
        omega
      · cases h
    · cases h
@[simp] theorem noB : (Cel.no : Bool) = false := rfl
@[simp] theorem noI : (Cel.no : Int) = 0 := rfl
@[simp] theorem noY : (Cel.no : UInt8) = 0 := rfl
abbrev roA {α : Type} [Cel α] (l : List α) : AV := .g (.one (.ro (Cel.sz α) l.length (cV l)))
abbrev roC {α : Type} [Cel α] (l : List α) : AC := .ro (Cel.sz α) l.length (cV l)
abbrev rwE {α : Type} [Cel α] (t : TypeId) (l : List α) : Ent := .row (some t) (Cel.sz α) (cV l)
abbrev slA {α : Type} (i r : Nat) (l : List α) : AV := .g (.one (.sl i r l.length))
theorem zDD {p : Prop} (h : p := by first | rfl | assumption | omega | (simp only [*, Bool.not_false, Bool.not_true]; first | done | fail) | (simp [*]; first | done | fail)) : p := h
theorem zWW {p : Prop} (h : p := by first | omega | (simp only [List.length_append, List.length_replicate, List.length_cons, List.length_nil, List.length_set, List.length_take, List.length_drop, true_and]; omega)) : p := h
theorem zL1 {p : Prop} (h : p := by first | exact ft_raw rfl rfl | ((first | refine ft_rp rfl rfl rfl ?_ | refine ft_row rfl rfl rfl ?_ | refine ft_rpF rfl rfl rfl ?_ | refine ft_rowF rfl rfl rfl ?_ | refine up_row rfl rfl ?_ | refine up_rowF rfl rfl rfl ?_ | refine ct_0 rfl ?_ | refine ct_r rfl rfl ?_ | refine ct_c rfl rfl rfl ?_ | refine cu_all rfl ?_ | refine cu_to rfl ?_ | refine cu_from rfl ?_ | refine cu_p rfl ?_); exact zWW)) : p := h
theorem zL2 {p : Prop} (h : p := by first | exact up_raw rfl | exact pk_t zDD rfl | exact pk_f zDD rfl) : p := h
theorem zL3 {p : Prop} (h : p := by first | exact rw_raw | exact pu_cv (fun w => rfl) (by omega) | exact pu_of (fun w => rfl) rfl | exact be_of (fun w => rfl) | exact nc_of (fun _ _ _ _ => rfl) rfl | exact bu_of (fun w => rfl) rfl) : p := h
theorem zQZ {p : Prop} (h : p := by first | exact rfl | exact zWW | exact cvB (fun w => rfl) | ((repeat' (first | exact rfl | exact cV_len _ | exact cV_ln rfl (by omega) | exact Cel.pos | omega | exact trivial | refine And.intro ?_ ?_)); first | done | fail) | (simp [*]; first | done | fail) | (simp; omega)) : p := h
theorem zHE {p : Prop} (h : p := by repeat (first | exact trivial | refine ⟨by rfl, ?_⟩ | refine ⟨vI_of (by rfl) (by omega), ?_⟩)) : p := h
theorem zHQ {p : Prop} (h : p := by repeat (first | exact trivial | refine ⟨by first | rfl | omega, ?_⟩)) : p := h
theorem zHN {p : Prop} (h : p := by repeat (first | exact trivial | refine ⟨by rfl, by rfl, ?_⟩)) : p := h
structure Hid (H : Prop) : Prop where
  out : H
def cutK {σ : Type} (KE : Exit → St → Prop) (E : σ → List (Nat × AV)) (G : σ → List (Nat × (Nat × Ent))) (q : σ → Prop) : Exit → St → Prop
  | .normal, S => ∃ g', q g' ∧ Is S (E g') (G g')
  | e, S => KE e S
theorem aw_cutg {P : Program} {nt : Nat} {x y : Code} {KE : Exit → St → Prop} {S : St} (ks bs : List Nat) {Ec : List (Nat × AV)} {Gc : List (Nat × (Nat × Ent))} {σ : Type} (E : σ → List (Nat × AV)) (G : σ → List (Nat × (Nat × Ent))) (q : σ → Prop) (hE : rdSlots S ks = some Ec) (hG : rdBlks S bs = some Gc)
    (h : AW P nt x (cutK KE (fun g => E g ++ Ec) (fun g => G g ++ Gc) q) S)
    (next : ∀ g, q g → AW P nt y KE (ofL (E g ++ Ec) (G g ++ Gc))) : AW P nt (.seq x y) KE S := by
  refine aw_seq (h.mono fun e S' hk => ?_)
  cases e with
  | normal =>
    obtain ⟨g, hq, hI⟩ := hk
    exact cut_ofL _ _ hI.1 hI.2.1 hI.2.2 (next g hq)
  | _ => exact hk
section
variable {P : Program} {T : Tab} {S : St} {w0 w w' : World} {M N : Nat → Prop} {b0 : Nat → Value} {nt : Nat} {β : Nat → Value} {tm : Array Value} {ds : List Deferred} {next : Act → World → Prop} {Q : Exit → Act → World → Prop} {o : Oper} {K : St → Prop}
theorem s_append_sl (hT : TabOk P T) {x y : Operand} {t e sz by' m i r n d : Nat} {agg : Bool} {z news l : List Value} (ho : o.op = .call { callee := .builtin .append, args := #[x, y], argTypes := #[t, t] }) (hdst : o.dst = some d) (hl : find1 T.elt t = some (none, e, agg, sz, by')) (hz : find1 T.zer e = some z) (hzl : z.length = sz)
    (hsrc : RoRep w (fun b => b < w.heap.size) sz m news (Act.eval ⟨tm, ds⟩ y)) (hra : AC.rep w β S.G (okB w0 N β S.G w) (.sl i r n) (Act.eval ⟨tm, ds⟩ x)) (hG : S.G i = some (r, .row (some e) sz l)) (hle : n * sz ≤ l.length) (g1 : n + m ≤ maxLen) (g2 : (n + m) * by' ≤ 140737488355328)
    (hs : Sim w0 M N b0 nt β S w tm) (hd : d < nt) (hk : K ((S.lay i (some (r + 1, .row (some e) sz (l.take (n * sz) ++ news)))).put d (some (.g (.one (.sl i (r + 1) (n + m))))))) (hn : Nx w0 M N b0 nt ds K next) : o.wp P ⟨tm, ds⟩ w next Q := by
  obtain ⟨hu, hlay, hpos, i0, hi, hby, hisz⟩ := elt_facts hT hl
  obtain ⟨i', z1, hi', hz1, hzc, hz2⟩ := zer_facts hT hz
  have ei : i' = i0 := by rw [hi] at hi'; exact (Option.some.inj hi').symm
  subst ei
  have hzs : z1.cells.size = sz := by rw [hzc]; simpa using hzl
  obtain ⟨⟨n1, n2⟩, A, c, hy, n3, n4, n5⟩ := hsrc
  have happ : ∀ (v : Value) (n : Nat) (xs : List Value), ownR w e sz v n xs → n + m ≤ maxLen → (n + m) * by' ≤ 140737488355328 → ∃ v' w', (Builtin.append_ #[t, t] o.type #[v, Act.eval ⟨tm, ds⟩ y]).run P w = .ok v' w' ∧ ownR w' e sz v' (n + m) (xs ++ news) ∧ w.grownBy w' v.ownBlock ∧ (v'.ownBlock = v.ownBlock ∨ v'.ownBlock = some w.heap.size) := by
    intro v n xs hown g1 g2
    rw [hy]
    cases A with
    | none =>
      have hm : m = 0 := by
        rcases Nat.eq_zero_or_pos m with h0 | h0
        · exact h0
        · obtain ⟨b, off, hA, _⟩ := n5 h0; cases hA
      subst hm
      have hnews : news = [] := List.eq_nil_of_length_eq_zero (by omega)
      subst hnews
      refine ⟨v, w, ?_, by simpa using hown, World.grownBy.refl w _, .inl rfl⟩
      rcases hown.2 with ⟨rfl, rfl⟩ | ⟨g, cap, cur, rfl, _, _, hnc, _⟩
      · simp [Builtin.append_, run_underlying hu, sizeOf, typeInfo, hi, Builtin.lenOf, Builtin.firstCells]
      · simp [Builtin.append_, run_underlying hu, sizeOf, typeInfo, hi, Builtin.lenOf, Builtin.firstCells, hnc, storeCells]
    | some ad =>
      have hcells : ∀ j u, news[j]? = some u → w.cell? (ad.add j) = some u := by
        intro j u hu'
        rcases Nat.eq_zero_or_pos m with h0 | h0
        · subst h0
          have hnews : news = [] := List.eq_nil_of_length_eq_zero (by omega)
          subst hnews; simp at hu'
        · obtain ⟨b, off, hA, _, hc⟩ := n5 h0
          cases hA
          rw [add_lit]; exact hc j u hu'
      obtain ⟨v', w', k1, k2, k3, k5⟩ := run_append_ownR (P := P) w t o.type e i' z1 sz by' hu hi hz1 hisz hby hzs hpos v n xs hown ad m c news n1 hcells (fun u hu' => (List.all_eq_true.1 n2) u hu') g1 g2
      exact ⟨v', w', k1, k2, k3, k5⟩
  have hexec : ∀ {v' : Value} {w' : World}, (Builtin.append_ #[t, t] o.type #[Act.eval ⟨tm, ds⟩ x, Act.eval ⟨tm, ds⟩ y]).run P w = .ok v' w' → (execOp (Act.eval ⟨tm, ds⟩) o).run P w = .ok (.value v') w' := by
    intro v' w' hr
    unfold execOp
    simp only [ho, resolve, invoke, builtin, Sem.run_bind, Sem.run_pure, Result.andThen_ok, List.map_toArray, List.map_cons, List.map_nil, hr]
  have own_blk : ∀ {v' : Value} {w' : World} {n : Nat} {xs : List Value}, ownR w' e sz v' n xs → blk? v' = v'.ownBlock ∧ ∀ b, blk? v' = some b → b < w'.heap.size := by
    intro v' w' n xs h
    refine ⟨?_, fun b hb => ?_⟩
    · rcases h.2 with ⟨rfl, _⟩ | ⟨g, cap, cur, rfl, _⟩ <;> rfl
    · rcases h.2 with ⟨rfl, _⟩ | ⟨g, cap, cur, rfl, _, hg, _⟩
      · cases hb
      · cases hb; exact (Array.getElem?_eq_some_iff.1 hg).1
  have sl_of : ∀ {v' : Value} {w' : World} {n : Nat} {xs : List Value}, ownR w' e sz v' n xs → ∃ A c, v' = .slice A n c := by
    intro v' w' n xs h
    rcases h.2 with ⟨rfl, rfl⟩ | ⟨g, cap, cur, rfl, _⟩
    · exact ⟨_, _, rfl⟩
    · exact ⟨_, _, rfl⟩
  obtain ⟨A1, m1, cap, q1, q2, q3⟩ := hs.cur_sl hra hG
  obtain ⟨p0, e2, n6, p1, p2⟩ := hs.ents i r _ hG
  have e3 := p1 _ rfl
  subst e3
  rw [q1] at p2
  have hn6 : n6 = m1 := by
    rcases p2.2 with ⟨p3, rfl⟩ | ⟨g, cap', cur, p3, _⟩
    · cases p3; rfl
    · cases p3; rfl
  subst hn6
  obtain ⟨v', w', k1, k2, k3, k4⟩ := happ _ n _ (own_prefix p2 q2) g1 g2
  obtain ⟨o1, o2⟩ := own_blk k2
  obtain ⟨A', c', rfl⟩ := sl_of k2
  have hown : (Value.slice A1 n cap).ownBlock = blk? (β i) := by rw [q1]; cases A1 <;> rfl
  obtain ⟨β', h1, h2, h3, h4⟩ := hs.change1 (w' := w') i (r + 1) (.row (some e) sz (l.take (n * sz) ++ news)) (.slice A' (n + m) c') k3.os k3.tape k3.output k3.size
    (fun r1 e1 hg => by rw [hG] at hg; cases hg; exact ⟨Nat.le_succ _, fun he => by omega⟩)
    (fun k hk hne => k3.block k hk (fun ek => hne r _ hG trivial (by rw [← hown]; exact ek.symm)))
    (fun b _ hb => ⟨o2 b hb, by
      rw [o1] at hb
      rcases k4 with k4 | k4
      · right; exact ⟨r, _, hG, trivial, by rw [← hown, ← k4]; exact hb⟩
      · left; rw [k4] at hb; cases hb; exact Nat.le_refl _⟩)
    (fun _ => ⟨_, hG⟩)
    (fun β' G' _ _ hok hold hβ => ⟨by
        rw [List.all_append, Bool.and_eq_true]
        refine ⟨?_, n2⟩
        rw [List.all_eq_true] at p0 ⊢
        exact fun x hx => p0 x (List.mem_of_mem_take hx), e, n + m, fun x hx => by cases hx; rfl, by rw [hβ]; exact k2⟩)
  have hk' : (putD o.dst (.g (.one (.sl i (r + 1) (n + m))))).run Ft.all (S.lay i (some (r + 1, .row (some e) sz (l.take (n * sz) ++ news)))) K := by rw [hdst]; exact ⟨rfl, hk⟩
  exact wp_value (hexec (by rw [q3]; exact k1)) (putD_run hk' h1 (fun t ht => by rw [hdst] at ht; cases ht; exact hd) ⟨rfl, r + 1, _, upd_same _ _ _, Nat.le_refl _, fun _ => ⟨_, n + m, _, h2, Nat.le_refl _, rfl⟩⟩ hn)
def WX (P : Program) (nt : Nat) (ops : Array Oper) (l : List Oper) (S : St) (K : St → Prop) : Prop :=
  ∀ w0 M N b0 β w tm, Sim w0 M N b0 nt β S w tm → wpList P ops (fun e a w' => ∃ β' S', (e = .normal ∧ K S') ∧ Sim w0 M N b0 nt β' S' w' a.tmps ∧ a.defers = []) l ⟨tm, []⟩ w
theorem wx_region {id : Nat} {l : List Oper} {KE : Exit → St → Prop} (h : WX P nt l.toArray l S (KE .normal)) : AW P nt (.region id l.toArray false) KE S := fun w0 M N b0 β w tm hs =>
  wp_mono (wp_region_lit (h w0 M N b0 β w tm hs)) fun e a w' ⟨β', S', ⟨he, hk⟩, h2⟩ => by subst he; exact ⟨β', S', hk, h2⟩
theorem wx_end (hT : TabOk P T) {cf : FuncId → Option (List AV → Option Tmp → AM)} (hcf : ∀ f m, cf f = some m → GoodCall P f m) {ops : Array Oper} {i : Nat} {l : List Oper} (hd : (l.all fun o => match o.dst with | some d => decide (d < nt) | none => true) = true) (h : runX Fa P T cf ops i l S K) : WX P nt ops l S K := fun w0 M N b0 β w tm hs =>
  runX_sound hT hcf l i S β w tm (fun o ho t ht => by
    have := (List.all_eq_true.1 hd) o ho
    rw [ht] at this
    simpa using this) h hs (fun S' β' w' tm' hK hs' => ⟨β', S', ⟨rfl, hK⟩, hs', rfl⟩)
theorem wx_app (hT : TabOk P T) {cf : FuncId → Option (List AV → Option Tmp → AM)} (hcf : ∀ f m, cf f = some m → GoodCall P f m) {ops : Array Oper} {l2 : List Oper} : ∀ {l1 : List Oper} {i : Nat} {S : St}, (∀ o ∈ l1, ∀ t, o.dst = some t → t < nt) → runX Fa P T cf ops i l1 S (fun S' => WX P nt ops l2 S' K) → WX P nt ops (l1 ++ l2) S K
  | [], i, S, _, h => h
  | o :: l1, i, S, hd, h => fun w0 M N b0 β w tm hs => by
    have h1 : (gop P T cf ops o).run (Fa i) S (fun S' => WX P nt ops (l1 ++ l2) S' K) :=
      AM.run_mono (fun S' h' => wx_app hT hcf (fun o' ho' => hd o' (List.mem_cons_of_mem _ ho')) h') _ _ h
    refine wpList_step fun K' hK' => ?_
    exact gop_sound hT hcf h1 hs (hd o (List.mem_cons_self)) (fun S' β' w' tm' hk hs' => hK' _ _ (hk w0 M N b0 β' w' tm' hs'))
theorem wx_run (k : Nat) (hT : TabOk P T) {cf : FuncId → Option (List AV → Option Tmp → AM)} (hcf : ∀ f m, cf f = some m → GoodCall P f m) {ops : Array Oper} {l : List Oper} (hd : (l.all fun o => match o.dst with | some d => decide (d < nt) | none => true) = true)
    (h : runX Fa P T cf ops 0 (l.take k) S (fun S' => WX P nt ops (l.drop k) S' K)) : WX P nt ops l S K := by
  have := wx_app hT hcf (l1 := l.take k) (l2 := l.drop k) (fun o ho t ht => by
    have := (List.all_eq_true.1 hd) o (List.mem_of_mem_take ho)
    rw [ht] at this
    simpa using this) h
  rwa [List.take_append_drop] at this
theorem wx_piece (hT : TabOk P T) {t e sz by' j r n i r2 n2 d1 d2 tx tl ty ty1 ty2 : Nat} {p : Int} {pos pos2 : String} {af af2 : Array Edge} {agg : Bool} {z L L2 : List Value} {ops : Array Oper} {rest : List Oper}
    (hd : (Nat.blt d1 nt && Nat.blt d2 nt && !(Nat.beq d1 ty)) = true) (hl : find1 T.elt t = some (none, e, agg, sz, by')) (hz : find1 T.zer e = some z) (hzl : z.length = sz) (hx : S.E tx = some (.g (.one (.sl j r n)))) (hp : S.E tl = some (vI p)) (hG : S.G j = some (r, .row (some e) sz L)) (hy : S.E ty = some (.g (.one (.sl i r2 n2)))) (hG2 : S.G i = some (r2, .row (some e) sz L2))
    (hb : Nat.ble by' 1000 = true) (h1 : L.length = n * sz) (h2 : L2.length = n2 * sz) (h3 : 0 ≤ p ∧ p ≤ n ∧ n ≤ 1000000 ∧ n2 ≤ 1000000)
    (hk : WX P nt ops rest (((S.put d1 none).lay i (some (r2 + 1, .row (some e) sz (L2 ++ L.drop (p.toNat * sz))))).put d2 (some (.g (.one (.sl i (r2 + 1) (n2 + ((n : Int) - p).toNat)))))) K) :
    WX P nt ops (⟨some d1, .slice t (.tmp tx) (some (.tmp tl)) none none, ty1, pos, af, none⟩ :: ⟨some d2, .call { callee := .builtin .append, args := #[.tmp ty, .tmp d1], argTypes := #[t, t] }, ty2, pos2, af2, none⟩ :: rest) S K := fun w0 M N b0 β w tm hs => by
  obtain ⟨hpos0, _⟩ := elt_facts hT hl
  have hpos : 0 < sz := (elt_facts hT hl).2.2.1
  simp only [Bool.and_eq_true, Bool.not_eq_true', beq_eq_false_iff_ne] at hd
  obtain ⟨⟨hd1, hd2⟩, hd3⟩ := hd
  have hd1 := blt_lt hd1
  have hd2 := blt_lt hd2
  have hd3' : ty ≠ d1 := fun e => by rw [e] at hd3; simp at hd3
  obtain ⟨hx1, hx2⟩ := hs.env tx _ hx
  obtain ⟨hp1, hp2⟩ := hs.env tl _ hp
  obtain ⟨n', l', ⟨⟨rfl, rfl⟩, _⟩, hro⟩ := getSl_run (F := Ft.all) (S := S) (K := fun _ => True) (sz := sz) (k := fun n' l' => .need (n' = n ∧ l' = L) .done) (x := .g (.one (.sl j r n))) ⟨rfl, by rw [hG]; exact ⟨⟨rfl, rfl, hpos, h1⟩, ⟨rfl, rfl⟩, trivial⟩⟩ hs hx2
  obtain ⟨v, hv1, hv2⟩ := ro_piece (P := P) (lv := some (.int .i64 p)) (hv := none) (mv := none) (l := p) (h' := n') (m := n') hT by' hro hl rfl rfl rfl h3.1 h3.2.1 (Int.le_refl _) (Int.le_refl _) (fun h => rfl)
  refine wpList_plain rfl fun K1 hK1 => wp_value (v := v) (w' := w) ?_ (hK1 _ _ ?_)
  · unfold execOp
    have e1 : Act.eval ⟨tm, []⟩ (.tmp tl) = .int .i64 p := hp2.1
    have e2 : Act.eval ⟨tm, []⟩ (.tmp tx) = tm.getD tx undef := rfl
    simp only [Option.map_some, Option.map_none, e1, e2, Sem.run_bind, hv1, Result.andThen_ok, Sem.run_pure]
  · have hs1 := hs.del d1 v
    have eL : (l'.drop (p.toNat * sz)).take (((n' : Int) - p).toNat * sz) = l'.drop (p.toNat * sz) := by
      apply List.take_of_length_le
      rw [List.length_drop, h1, ← Nat.sub_mul]
      exact Nat.mul_le_mul_right _ (by omega)
    rw [eL] at hv2
    refine wpList_plain rfl fun K2 hK2 => ?_
    obtain ⟨hy1, hy2⟩ := hs1.env ty _ (show (S.put d1 none).E ty = _ by rw [show (S.put d1 none).E ty = S.E ty from (upd_ne S.E none hd3')]; exact hy)
    have ev : Act.eval ⟨tm.setIfInBounds d1 v, []⟩ (.tmp d1) = v := by
      show (tm.setIfInBounds d1 v).getD d1 undef = v
      have : d1 < tm.size := by rw [hs.wide]; exact hd1
      simp [Array.getD_eq_getD_getElem?, this]
    have eL2 : L2.take (n2 * sz) = L2 := List.take_of_length_le (by omega)
    have hby : by' ≤ 1000 := Nat.le_of_ble_eq_true hb
    have hm : (n2 + ((n' : Int) - p).toNat) ≤ 2000000 := by omega
    refine s_append_sl hT (m := ((n' : Int) - p).toNat) rfl rfl hl hz hzl (by rw [ev]; exact hv2) hy2 hG2 (by omega) (by unfold maxLen; omega) ?_ hs1 hd2 (K := fun S' => WX P nt ops rest S' K) (by rw [eL2]; exact hk) (fun S' β' w' tm' hk' hs' => hK2 _ _ (hk' w0 M N b0 β' w' tm' hs'))
    calc (n2 + ((n' : Int) - p).toNat) * by' ≤ 2000000 * 1000 := Nat.mul_le_mul hm hby
      _ ≤ 140737488355328 := by decide
end
section
variable {P : Program} {nt : Nat} {S : St} {c : Code} {KE : Exit → St → Prop} {K : St → Prop}
end
end Go.Proofs.Ytfbcblknahicdaa
namespace Go.Proofs.Ytfbcblknahicdaa
set_option linter.unusedVariables false
open Go.RowKit
structure Bk (w : World) (g : Nat) (cs : Array Value) : Prop where
  lt : g < w.heap.size
  cell : ∀ o, w.cell? ⟨g, o, none⟩ = cs[o]?
  free : ∀ o, w.frozen? ⟨g, o, none⟩ = false
section
variable {w w' : World} {g : Nat} {cs : Array Value}
theorem Bk.keep (h : Bk w g cs) (hs : w.heap.size ≤ w'.heap.size) (hk : w'.heap[g]? = w.heap[g]?) : Bk w' g cs :=
  ⟨Nat.lt_of_lt_of_le h.lt hs, fun o => (World.cell?_of_block (a := ⟨g, o, none⟩) hk).trans (h.cell o), fun o => (World.frozen?_of_block (a := ⟨g, o, none⟩) hk).trans (h.free o)⟩
theorem Bk.new (w : World) (cs : Array Value) (t : TypeId) : Bk (w.alloc (.cells cs t)) w.heap.size cs :=
  ⟨by simp, fun o => cell_of_row _ _ o cs t (0, 0) (heap_alloc_new w _), fun o => by unfold World.frozen?; rw [show (w.alloc (.cells cs t)).heap[(⟨w.heap.size, o, none⟩ : Addr).block]? = some (.cells cs t) from heap_alloc_new w _]; simp⟩
theorem Bk.alloc (h : Bk w g cs) (o : Obj) : Bk (w.alloc o) g cs := h.keep (by simp) (Below.heap_alloc w o g h.lt)
theorem Bk.drew (h : Bk w g cs) : Bk w.drew g cs := h.keep (Nat.le_refl _) rfl
theorem Bk.below {B : Nat} (h : Bk w g cs) (hb : Below B w w') (hB : g < B) : Bk w' g cs := h.keep hb.size (hb.block g hB)
theorem Bk.call (h : Bk w g cs) (hb : Below w.heap.size w w') : Bk w' g cs := h.below hb h.lt
theorem Bk.far (h : Bk w g cs) {p : Addr} (hp : g ≠ p.block) (u : Value) : Bk (w.setCell p u) g cs := h.keep (by simp [World.setCell]) (Below.heap_setCell w p u g hp)
theorem Bk.set (h : Bk w g cs) (i : Nat) (u : Value) (hi : i < cs.size) : Bk (w.setCell ⟨g, i, none⟩ u) g (cs.setIfInBounds i u) := by
  have h0 := h.cell 0
  unfold World.cell? at h0
  have hsz : 0 < cs.size := by omega
  cases hh : w.heap[g]? with
  | none => simp [hh, hsz] at h0
  | some o =>
    cases o with
    | cells c e f =>
      have hcs : ∀ j, c[j]? = cs[j]? := fun j => by have := h.cell j; simpa [World.cell?, hh] using this
      refine ⟨by simpa [World.setCell] using h.lt, fun o => ?_, fun o => ?_⟩
      · have hc : c = cs := Array.ext_getElem? (fun j => hcs j)
        subst hc
        simp [World.cell?, World.setCell, Array.getElem?_modify, hh]
      · have := h.free o
        simp only [World.frozen?, World.setCell, Array.getElem?_modify, hh] at this ⊢
        simpa using this
    | _ => simp [hh, hsz] at h0
theorem Bk.bel {B : Nat} {a : World} (hB : Below B a w) (_h : Bk w g cs) (hg : B ≤ g) (i : Nat) (u : Value) : Below B a (w.setCell ⟨g, i, none⟩ u) := hB.setCell hg u
end
section
variable {P : Program} {w : World} {g : Nat} {cs : Array Value}
end
end Go.Proofs.Ytfbcblknahicdaa
namespace Go.Proofs.Ytfbcblknahicdaa
set_option linter.unusedVariables false
set_option linter.unusedSimpArgs false
open Go.RowKit
section
variable {P : Program} {T : Tab} {S : St} {nt : Nat} {K : St → Prop} {ops : Array Oper} {rest : List Oper} {ty : TypeId} {pos : String} {af : Array Edge}
theorem wx_val {d x : Nat} {op : Op} {b a : AV} {yv v : Value} (hd : Nat.blt d nt = true) (hx : S.E x = some b) (hb : ∀ (w : World) (β : Nat → Value) (G : Blk) (ok : Nat → Prop) (y : Value), b.rep w β G ok y → y = yv)
    (hex : ∀ (ρ : Operand → Value) (w : World), ρ (.tmp x) = yv → (execOp ρ ⟨some d, op, ty, pos, af, none⟩).run P w = .ok (.value v) w) (hv : ∀ (w : World) (β : Nat → Value) (G : Blk) (ok : Nat → Prop), a.rep w β G ok v)
    (k : WX P nt ops rest (S.put d (some a)) K) : WX P nt ops (⟨some d, op, ty, pos, af, none⟩ :: rest) S K := fun w0 M N b0 β w tm hs => by
  have hy := hb _ _ _ _ _ (hs.env x _ hx).2
  refine wpList_plain rfl fun K1 hK1 => wp_value (v := v) (w' := w) (hex _ _ hy) (hK1 _ _ ?_)
  exact k w0 M N b0 β w _ (hs.put (blt_lt hd) (hv _ _ _ _))
end
end Go.Proofs.Ytfbcblknahicdaa
namespace Go.Proofs.Ytfbcblknahicdaa
set_option linter.unusedVariables false
set_option linter.unusedSimpArgs false
theorem pigeon : ∀ (N : Nat) (f : Nat → Nat), (∀ i, i ≤ N → f i < N) → ∃ i j, i < j ∧ j ≤ N ∧ f i = f j
  | 0, f, h => absurd (h 0 (Nat.le_refl _)) (Nat.not_lt_zero _)
  | N + 1, f, h => by
    by_cases hx : ∃ i, i ≤ N ∧ f i = f (N + 1)
    · obtain ⟨i, hi, e⟩ := hx
      exact ⟨i, N + 1, by omega, Nat.le_refl _, e⟩
    · have hne : ∀ i, i ≤ N → f i ≠ f (N + 1) := fun i hi e => hx ⟨i, hi, e⟩
      have hv := h (N + 1) (Nat.le_refl _)
      obtain ⟨i, j, hij, hj, e⟩ := pigeon N (fun i => if f i = N then f (N + 1) else f i) (fun i hi => by
        have h1 := h i (by omega)
        have h2 := hne i hi
        split <;> omega)
      refine ⟨i, j, hij, by omega, ?_⟩
      have h1 := hne i (by omega)
      have h2 := hne j hj
      split at e <;> split at e <;> omega
def itT (f : Nat → Nat) : Nat → Nat → Nat
  | 0, x => x
  | p + 1, x => itT f p (f x)
structure TP (f : Nat → Nat) (N : Nat) : Prop where
  bd : ∀ x, x < N → f x < N
  inj : ∀ x y, x < N → y < N → f x = f y → x = y
theorem itT_add (f : Nat → Nat) : ∀ (a b x : Nat), itT f (a + b) x = itT f a (itT f b x)
  | a, 0, x => rfl
  | a, b + 1, x => by rw [← Nat.add_assoc, itT, itT, itT_add f a b]
theorem itT_one (f : Nat → Nat) (a x : Nat) : itT f (a + 1) x = f (itT f a x) := by
  rw [Nat.add_comm, itT_add]; rfl
section
variable {f : Nat → Nat} {N : Nat}
theorem itT_lt (h : TP f N) : ∀ (p : Nat) {x : Nat}, x < N → itT f p x < N
  | 0, x, hx => hx
  | p + 1, x, hx => itT_lt h p (h.bd x hx)
theorem itT_inj (h : TP f N) : ∀ (p : Nat) {x y : Nat}, x < N → y < N → itT f p x = itT f p y → x = y
  | 0, x, y, _, _, e => e
  | p + 1, x, y, hx, hy, e => h.inj x y hx hy (itT_inj h p (h.bd x hx) (h.bd y hy) e)
theorem comes_back (h : TP f N) {x : Nat} (hx : x < N) : ∃ p, 0 < p ∧ itT f p x = x := by
  obtain ⟨i, j, hij, _, e⟩ := pigeon N (fun i => itT f i x) (fun i _ => itT_lt h i hx)
  refine ⟨j - i, by omega, ?_⟩
  have e2 : itT f (i + (j - i)) x = itT f j x := by rw [show i + (j - i) = j by omega]
  rw [itT_add] at e2
  exact itT_inj h i (itT_lt h _ hx) hx (e2.trans e.symm)
theorem least_of {P : Nat → Prop} : ∀ (m : Nat), P m → ∃ p, P p ∧ ∀ j, j < p → ¬ P j := by
  intro m hm
  induction m using Nat.strongRecOn with
  | _ m ih =>
    by_cases hx : ∃ j, j < m ∧ P j
    · obtain ⟨j, hj, hp⟩ := hx
      exact ih j hj hp
    · exact ⟨m, hm, fun j hj hp => hx ⟨j, hj, hp⟩⟩
theorem period (h : TP f N) {x : Nat} (hx : x < N) : ∃ p, 0 < p ∧ itT f p x = x ∧ ∀ j, 0 < j → j < p → itT f j x ≠ x := by
  obtain ⟨m, hm, he⟩ := comes_back h hx
  obtain ⟨p, ⟨h1, h2⟩, h3⟩ := least_of (P := fun p => 0 < p ∧ itT f p x = x) m ⟨hm, he⟩
  exact ⟨p, h1, h2, fun j hj hlt e => h3 j hlt ⟨hj, e⟩⟩
theorem itT_dist (h : TP f N) {x p : Nat} (hx : x < N) (hp : ∀ j, 0 < j → j < p → itT f j x ≠ x) {i j : Nat} (hij : i < j) (hj : j < p) : itT f i x ≠ itT f j x := by
  intro e
  have e2 : itT f (i + (j - i)) x = itT f j x := by rw [show i + (j - i) = j by omega]
  rw [itT_add] at e2
  exact hp (j - i) (by omega) (by omega) (itT_inj h i (itT_lt h _ hx) hx (e2.trans e.symm))
theorem itT_mul {x p : Nat} (he : itT f p x = x) : ∀ k, itT f (p * k) x = x
  | 0 => rfl
  | k + 1 => by rw [Nat.mul_succ, itT_add, he, itT_mul he k]
theorem itT_mod {x p : Nat} (he : itT f p x = x) (j : Nat) : itT f j x = itT f (j % p) x := by
  conv => lhs; rw [← Nat.mod_add_div j p, itT_add, itT_mul he]
def Orb (f : Nat → Nat) (x y : Nat) : Prop := ∃ i, itT f i x = y
theorem orb_sym (h : TP f N) {x y : Nat} (hx : x < N) (ho : Orb f x y) : Orb f y x := by
  obtain ⟨i, rfl⟩ := ho
  obtain ⟨p, hp, he, _⟩ := period h hx
  refine ⟨p - i % p, ?_⟩
  rw [itT_mod he i, ← itT_add, Nat.sub_add_cancel (Nat.le_of_lt (Nat.mod_lt _ hp))]
  exact he
theorem orb_trans {x y z : Nat} (h1 : Orb f x y) (h2 : Orb f y z) : Orb f x z := by
  obtain ⟨i, rfl⟩ := h1
  obtain ⟨j, rfl⟩ := h2
  exact ⟨j + i, itT_add f j i x⟩
def Fst (f : Nat → Nat) (x : Nat) : Prop := ∀ y, Orb f x y → x ≤ y
theorem not_fst (h : TP f N) {x : Nat} (hx : x < N) : ¬ Fst f x ↔ ∃ y, y < x ∧ Orb f y x := by
  constructor
  · intro hf
    have : ∃ y, Orb f x y ∧ y < x := by
      apply Classical.byContradiction
      intro hc
      exact hf fun y hy => Nat.le_of_not_lt fun hlt => hc ⟨y, hy, hlt⟩
    obtain ⟨y, ho, hi⟩ := this
    exact ⟨y, hi, orb_sym h hx ho⟩
  · rintro ⟨y, hy, ho⟩ hf
    have := hf y (orb_sym h (Nat.lt_trans hy hx) ho)
    omega
end
noncomputable def cntF (f : Nat → Nat) : Nat → Nat
  | 0 => 0
  | k + 1 => cntF f k + (open Classical in if Fst f k then 1 else 0)
section
variable {f : Nat → Nat} {N a b : Nat}
end
end Go.Proofs.Ytfbcblknahicdaa
