/- The abstract run, third part: tables of types, and what each operation does to an abstract state. No program is named. -/
import Derived.Test.YtgifhhefcmmdfaaAbsB
import Derived.Laws.CopyRow
namespace Go.Proofs.Ytgifhhefcmmdfaa
set_option linter.unusedVariables false
open Go.RowKit

/-- Is a type laid out as several cells? -/
def isAggD : TypeDesc → Bool
  | .struct _ | .array _ _ => true
  | _ => false
def layP (P : Program) (t : TypeId) : Option (Bool × Nat) :=
  match P.underlying t, P.info? t with
  | some d, some i => some (isAggD d, i.size)
  | _, _ => none
/-- A field: where it lies, and how it is laid out. -/
def fldP (P : Program) (s f : Nat) : Option (Nat × Bool × Nat) :=
  match P.underlying s with
  | some (.struct fs) => match fs[f]? with
    | some fd => (layP P fd.type).map fun x => (fd.offset, x)
    | none => none
  | _ => none
/-- The elements of a slice or an array: how many an array has, their type, how they are laid out, their bytes. -/
def eltP (P : Program) (t : Nat) : Option (Option Nat × TypeId × Bool × Nat × Nat) :=
  match P.underlying t with
  | some (.slice e) => match layP P e, P.info? e with
    | some (a, k), some i => some (none, e, a, k, i.bytes)
    | _, _ => none
  | some (.array n e) => match layP P e, P.info? e with
    | some (a, k), some i => some (some n, e, a, k, i.bytes)
    | _, _ => none
  | _ => none
/-- The cells of a type's zero value. -/
def zerP (P : Program) (t : Nat) : Option (List Value) :=
  match P.info? t with
  | some i => match i.zero with
    | some z => some z.cells.toList
    | none => none
  | none => none
/-- A struct's zero cells and the places of its fields; of an array the size of its elements. -/
def bldP (P : Program) (t : Nat) : Option (List Value × Option (List (Nat × Nat)) × Nat) :=
  match P.info? t, P.underlying t with
  | some it, some (.array _ e) => match it.zero, P.info? e with
    | some z, some ie => some (z.cells.toList, none, ie.size)
    | _, _ => none
  | some it, some (.struct fields) => match it.zero, fields.toList.mapM (fun f => (P.info? f.type).map fun i => (f.offset, i.size)) with
    | some z, some places => some (z.cells.toList, some places, 0)
    | _, _ => none
  | _, _ => none
/-- The value at a number in a list. -/
def find1 {α : Type} : List (Nat × α) → Nat → Option α
  | [], _ => none
  | (k, x) :: l, i => bif Nat.beq k i then some x else find1 l i
theorem find1_mem {α : Type} {x : α} {i : Nat} : ∀ {l : List (Nat × α)}, find1 l i = some x → (i, x) ∈ l
  | [], h => by cases h
  | (k, y) :: l, h => by
    unfold find1 at h
    cases hk : Nat.beq k i with
    | true =>
      rw [hk] at h
      have e := Nat.eq_of_beq_eq_true hk
      subst e
      cases h
      exact List.mem_cons_self
    | false => rw [hk] at h; exact List.mem_cons_of_mem _ (find1_mem h)
/-- The tables of a program's types. -/
structure Tab where
  lay : List (Nat × (Bool × Nat))
  fld : List (Nat × (Nat × Bool × Nat))
  elt : List (Nat × (Option Nat × TypeId × Bool × Nat × Nat))
  zer : List (Nat × List Value)
  bld : List (Nat × (List Value × Option (List (Nat × Nat)) × Nat))
structure TabOk (P : Program) (T : Tab) : Prop where
  lay : ∀ p ∈ T.lay, layP P p.1 = some p.2
  fld : ∀ p ∈ T.fld, fldP P (p.1 / 1000) (p.1 % 1000) = some p.2 ∧ 0 < p.2.2.2
  elt : ∀ p ∈ T.elt, eltP P p.1 = some p.2 ∧ 0 < p.2.2.2.2.1
  zer : ∀ p ∈ T.zer, zerP P p.1 = some p.2 ∧ p.2.all (·.oneCell') = true
  bld : ∀ p ∈ T.bld, bldP P p.1 = some p.2 ∧ p.2.1.all (·.oneCell') = true

/-- The program of an operand. -/
def getO (x : Operand) (k : AV → AM) : AM :=
  match x with
  | .tmp t => .getS t k
  | .const v => .need (v.oneCell' = true) (k (.g (.one (.v v))))
  | .func f => k (.g (.one (.fn f [])))
  | .global _ => .fail
def getL : List Operand → (List AV → AM) → AM
  | [], k => k []
  | x :: l, k => getO x fun a => getL l fun as => k (a :: as)
def putD (d : Option Tmp) (x : AV) : AM :=
  match d with
  | some t => .putS t (some x) .done
  | none => .done
def delD (d : Option Tmp) : AM :=
  match d with
  | some t => .putS t none .done
  | none => .done
/-- Plain values of cells. -/
def pcs : List AC → Option (List Value)
  | [] => some []
  | .v x :: l => (pcs l).map (x :: ·)
  | _ :: _ => none
def pval : AV → Option Value
  | .g (.one (.v x)) => some x
  | .g (.agg cs) => (pcs cs).map fun l => .agg l.toArray
  | _ => none
def ofv (x : Value) : AV :=
  match x with
  | .agg cs => .g (.agg (cs.toList.map .v))
  | x => .g (.one (.v x))
def okv (x : Value) : Bool :=
  match x with
  | .agg cs => cs.toList.all (·.oneCell')
  | x => x.oneCell'
def getV (x : Operand) (k : Value → AM) : AM := getO x fun a => match pval a with
  | some v => k v
  | none => .fail
def getVs : List Operand → (List Value → AM) → AM
  | [], k => k []
  | x :: l, k => getV x fun a => getVs l fun as => k (a :: as)
def getVo : Option Operand → (Option Value → AM) → AM
  | none, k => k none
  | some x, k => getV x fun a => k (some a)
/-- The value of plain work. -/
def exr (P : Program) (s : Sem Value) (d : Option Tmp) : AM := .exv (fun r => okv r = true ∧ ∀ w, s.run P w = .ok r w) fun r => putD d (ofv r)
/-- The elements of a slice. -/
def getSl (x : AV) (sz : Nat) (k : Nat → List Value → AM) : AM :=
  match x with
  | .g (.one (.ro z n l)) => .need (z = sz) (k n l)
  | .g (.one (.v (.slice none 0 0))) => k 0 []
  | .g (.one (.sl i r n)) => .getE i fun
    | some (r', .row e z l) => .need (r = r' ∧ z = sz ∧ 0 < z ∧ l.length = n * z) (k n l)
    | some (r', .fro z l) => .need (r = r' ∧ z = sz ∧ 0 < z ∧ l.length = n * z) (k n l)
    | _ => .fail
  | _ => .fail
/-- The number of an own block that an operation lays. -/
def nid (d k : Nat) : Nat := d * 16 + k
/-- A new own block, at its turn. -/
def lay1 (i : Nat) (e : Ent) (k : Nat → AM) : AM := .need (i < 100000) <| .getE i fun
  | none => .putE i (some (0, e)) (k 0)
  | some (r, _) => .putE i (some (r + 1, e)) (k (r + 1))
def ofa (agg : Bool) (cs : List AC) : Option AV := if agg then some (.g (.agg cs)) else match cs with
  | [c] => some (.g (.one c))
  | _ => none
def cellsOf : AV → Option (List AC)
  | .g (.one c) => some [c]
  | .g (.agg cs) => some cs
  | _ => none
def orFail {α : Type _} (x : Option α) (k : α → AM) : AM := match x with
  | some a => k a
  | none => .fail
def splice {α : Type} (l : List α) (o : Nat) (m : List α) : List α := l.take o ++ m ++ l.drop (o + m.length)
def fillA (place : Nat → Option (Nat × Nat)) : List AC → List (Nat × AV) → Option (List AC)
  | cells, [] => some cells
  | cells, (i, v) :: rest => match place i, cellsOf v with
    | some (off, size), some cs => if cs.length = size ∧ off + size ≤ cells.length then fillA place (splice cells off cs) rest else none
    | _, _ => none

/-- The parts of a literal. -/
def getPs : List (Nat × Operand) → (List (Nat × AV) → AM) → AM
  | [], k => k []
  | (i, x) :: l, k => getO x fun a => getPs l fun as => k ((i, a) :: as)
def placeOf (places : Option (List (Nat × Nat))) (esz : Nat) (i : Nat) : Option (Nat × Nat) :=
  match places with
  | some l => l[i]?
  | none => some (i * esz, esz)
def isConst : Operand → Bool
  | .const _ => true
  | _ => false
/-- The bounds of a piece of n elements. -/
def lo0 : Option Value → Option Int
  | none => some 0
  | some (.int _ l) => some l
  | _ => none
def hi0 (n : Nat) : Option Value → Option Int
  | none => some n
  | some (.int _ h) => some h
  | _ => none
def getOo : Option Operand → (Option AV → AM) → AM
  | none, k => k none
  | some x, k => getO x fun a => k (some a)
/-- Is it a slice that is only read? How long? -/
def isRo : AV → Option Nat
  | .g (.one (.ro _ n _)) => some n
  | _ => none
/-- Addresses of variables. -/
def ptrsOf : List AV → Option (List (Nat × Nat))
  | [] => some []
  | .g (.one (.ptr i r 0)) :: l => match ptrsOf l with
    | some ps => some ((i, r) :: ps)
    | none => none
  | _ => none
/-- What an operation does. cf: what the calls do. -/
def aop (P : Program) (T : Tab) (cf : FuncId → Option (List AV → Option Tmp → AM)) (o : Oper) : AM :=
  match o.op with
  | .move x | .assign x => getO x fun a => putD o.dst a
  | .pick c a b => getO c fun cv => match cv with
    | .g (.one (.v (.bool t))) => getO (if t then a else b) fun x => putD o.dst x
    | _ => .fail
  | .binOp op t x y _ => getO x fun a => match isRo a with
    | some n => .need (0 < n ∧ y = .const (.slice none 0 0)) (.exv (fun r => okv r = true ∧ ∀ b off c w, (do eqGuard op t x y (.slice (some ⟨b, off, none⟩) n c) (.slice none 0 0); binOp op t (.slice (some ⟨b, off, none⟩) n c) (.slice none 0 0)).run P w = .ok r w) fun r => putD o.dst (ofv r))
    | none => match pval a with
      | some a => getV y fun b => exr P (do eqGuard op t x y a b; binOp op t a b) o.dst
      | none => .fail
  | .makeFunc fn first caps => match fn with
    | .func f => .need (first.size = 0) (getL caps.toList fun as => orFail (ptrsOf as) fun ps => putD o.dst (.g (.one (.fn f ps))))
    | _ => .fail
  | .unOp op _ x => getV x fun a => exr P (Op.unary op a) o.dst
  | .convert s d x => getV x fun a => exr P (convert s d a) o.dst
  | .index t x y => getV x fun a => getV y fun b => exr P (Instr.index t a b) o.dst
  | .extract x k => getO x fun a => match a with
    | .tup xs => orFail xs[k]? fun y => putD o.dst (.g y)
    | _ => .fail
  | .field s x f => getO x fun a => match a with
    | .g (.agg cs) => orFail (find1 T.fld (s * 1000 + f)) fun (off, agg, size) => .need (f < 1000 ∧ off + size ≤ cs.length) (orFail (ofa agg ((cs.drop off).take size)) fun y => putD o.dst y)
    | _ => .fail
  | .alloc t => orFail o.dst fun d => orFail (find1 T.zer t) fun z => lay1 (nid d 0) (.box (z.map .v)) fun r => putD o.dst (.g (.one (.ptr (nid d 0) r 0)))
  | .box t x => orFail o.dst fun d => getO x fun a => orFail (cellsOf a) fun cs => lay1 (nid d 0) (.box cs) fun r => putD o.dst (.g (.one (.ptr (nid d 0) r 0)))
  | .load t x => getO x fun a => orFail (find1 T.lay t) fun (agg, size) => match a with
    | .g (.one (.ptr i r off)) => .getE i fun
      | some (r', .box cs) => .need (r = r' ∧ off + size ≤ cs.length) (orFail (ofa agg ((cs.drop off).take size)) fun y => putD o.dst y)
      | some (r', .rbx cs) => .need (r = r' ∧ off + size ≤ cs.length) (orFail (ofa agg ((cs.drop off).take size)) fun y => putD o.dst y)
      | some (r', .row e sz l) => .need (r = r' ∧ off + size ≤ l.length) (orFail (ofa agg (((l.drop off).take size).map .v)) fun y => putD o.dst y)
      | _ => .fail
    | .g (.one (.rp l)) => .need (size ≤ l.length) (orFail (ofa agg ((l.take size).map .v)) fun y => putD o.dst y)
    | _ => .fail
  | .store t x y => getO x fun a => getO y fun b => orFail (find1 T.lay t) fun (agg, size) => orFail (cellsOf b) fun cs => match a with
    | .g (.one (.ptr i r off)) => .getE i fun
      | some (r', .box cells) => .need (r = r' ∧ cs.length = size ∧ off + size ≤ cells.length) (.putE i (some (r', .box (splice cells off cs))) (delD o.dst))
      | some (r', .row e sz l) => orFail (pcs cs) fun vs => .need (r = r' ∧ vs.length = size ∧ off + size ≤ l.length) (.putE i (some (r', .row e sz (splice l off vs))) (delD o.dst))
      | _ => .fail
    | _ => .fail
  | .nilCheck x => getO x fun a => match a with
    | .g (.one (.ptr i r off)) => .getE i fun
      | some (r', e) => .need (r = r') (putD o.dst a)
      | _ => .fail
    | .g (.one (.rp l)) => putD o.dst a
    | _ => .fail
  | .fieldAddr s x f => getO x fun a => orFail (find1 T.fld (s * 1000 + f)) fun (off, agg, size) => .need (f < 1000) <| match a with
    | .g (.one (.ptr i r b)) => .getE i fun
      | some (r', e) => .need (r = r') (putD o.dst (.g (.one (.ptr i r (b + off)))))
      | _ => .fail
    | .g (.one (.rp l)) => putD o.dst (.g (.one (.rp (l.drop off))))
    | _ => .fail
  | .indexAddr t x y => getO x fun a => getV y fun b => orFail (find1 T.elt t) fun (arr, e, agg, sz, _) => match b with
    | .int k j => match a with
      | .g (.one (.ptr i r off)) => match arr with
        | some n => .getE i fun
          | some (r', e) => .need (r = r' ∧ 0 ≤ j ∧ j < n) (putD o.dst (.g (.one (.ptr i r (off + j.toNat * sz)))))
          | _ => .fail
        | none => .fail
      | .g (.one (.sl i r n)) => match arr with
        | none => .getE i fun
          | some (r', .row e z l) => .need (r = r' ∧ z = sz ∧ 0 ≤ j ∧ j < n) (putD o.dst (.g (.one (.ptr i r (j.toNat * sz)))))
          | some (r', .fro z l) => .need (r = r' ∧ z = sz ∧ 0 ≤ j ∧ j < n ∧ n * sz ≤ l.length) (putD o.dst (.g (.one (.rp (l.drop (j.toNat * sz))))))
          | _ => .fail
        | some _ => .fail
      | .g (.one (.ro z n l)) => match arr with
        | none => .need (z = sz ∧ 0 ≤ j ∧ j < n) (putD o.dst (.g (.one (.rp (l.drop (j.toNat * sz))))))
        | _ => .fail
      | _ => .fail
    | _ => .fail
  | .build t ps => getPs ps.toList fun as => orFail (find1 T.bld t) fun (z, places, esz) => orFail (fillA (placeOf places esz) (z.map .v) as) fun cs => putD o.dst (.g (.agg cs))
  | .buildSlice t n ps => orFail o.dst fun d => getPs ps.toList fun as => orFail (find1 T.elt t) fun (arr, e, agg, sz, by') => orFail (find1 T.zer e) fun z => orFail (fillA (fun i => some (i * sz, sz)) ((List.replicate n z).flatten.map .v) as) fun cs => orFail (pcs cs) fun l =>
      .need (arr = none ∧ z.length = sz ∧ n * sz ≤ 1000 ∧ n ≤ 1000) (lay1 (nid d 0) (.row (some e) sz l) fun r => putD o.dst (.g (.one (.sl (nid d 0) r n))))
  | .makeSlice t x y => orFail o.dst fun d => getV x fun a => getV y fun b => orFail (find1 T.elt t) fun (arr, e, agg, sz, by') => orFail (find1 T.zer e) fun z => match a, b with
    | .int _ n, .int _ c => .need (arr = none ∧ z.length = sz ∧ 0 ≤ n ∧ n ≤ c ∧ c ≤ 9223372036854775807 ∧ by' * c ≤ 281474976710656) (lay1 (nid d 0) (.row (some e) sz (List.replicate n.toNat z).flatten) fun r => putD o.dst (.g (.one (.sl (nid d 0) r n.toNat))))
    | _, _ => .fail
  | .slice t x lo hi mx => getO x fun a => getVo lo fun lv => getVo hi fun hv => getVo mx fun mv => match a with
    | .g (.one (.v (.string s))) => exr P (Instr.sliceAt t (.string s) lv hv mv) o.dst
    | .g (.one (.v (.slice none 0 0))) => orFail (find1 T.elt t) fun (arr, _) => orFail (lo0 lv) fun l => orFail (hi0 0 hv) fun h => orFail (hi0 0 mv) fun m => .need (arr = none ∧ l = 0 ∧ h = 0 ∧ m = 0 ∧ (hv = none → mv = none)) (putD o.dst a)
    | .g (.one (.ro z n c)) => orFail (find1 T.elt t) fun (arr, e, agg, sz, _) => orFail (lo0 lv) fun l => orFail (hi0 n hv) fun h => orFail (hi0 n mv) fun m => .need (arr = none ∧ z = sz ∧ 0 ≤ l ∧ l ≤ h ∧ h ≤ m ∧ m ≤ n ∧ (hv = none → mv = none)) (putD o.dst (.g (.one (.ro z (h - l).toNat ((c.drop (l.toNat * sz)).take ((h - l).toNat * sz))))))
    | .g (.one (.sl i r n)) => orFail (find1 T.elt t) fun (arr, e, agg, sz, _) => orFail (lo0 lv) fun l => orFail (hi0 n hv) fun h => orFail (hi0 n mv) fun m => .getE i fun
      | some (r', .row e' z c) => .need (r = r' ∧ arr = none ∧ z = sz ∧ n * sz ≤ c.length ∧ 0 ≤ l ∧ l ≤ h ∧ h ≤ m ∧ m ≤ n ∧ (hv = none → mv = none)) (match lv, mv with
        | none, none => putD o.dst (.g (.one (.sl i r h.toNat)))
        | none, some _ => .putE i (some (r' + 1, .row e' z (c.take (h.toNat * z)))) (putD o.dst (.g (.one (.sl i (r' + 1) h.toNat))))
        | _, _ => .need (i < 100000) (.putE i (some (r', .fro z c)) (putD o.dst (.g (.one (.ro z (h - l).toNat ((c.drop (l.toNat * sz)).take ((h - l).toNat * sz))))))))
      | some (r', .fro z c) => .need (r = r' ∧ arr = none ∧ z = sz ∧ n * sz ≤ c.length ∧ 0 ≤ l ∧ l ≤ h ∧ h ≤ m ∧ m ≤ n ∧ (hv = none → mv = none)) (putD o.dst (.g (.one (.ro z (h - l).toNat ((c.drop (l.toNat * sz)).take ((h - l).toNat * sz))))))
      | _ => .fail
    | _ => .fail
  | .call c => match c.callee with
    | .builtin .append => match c.args.toList, c.argTypes.toList with
      | [x, y], [t, t'] => getO x fun a => getO y fun b => orFail (find1 T.elt t) fun (arr, e, agg, sz, by') => orFail (find1 T.zer e) fun z => getSl b sz fun m news => .need (arr = none ∧ t' = t ∧ z.length = sz) <| match a with
        | .g (.one (.v (.slice none 0 0))) => orFail o.dst fun d => .need (m ≤ maxLen ∧ m * by' ≤ 140737488355328) (lay1 (nid d 0) (.row (some e) sz news) fun r => putD o.dst (.g (.one (.sl (nid d 0) r m))))
        | .g (.one (.sl i r n)) => .getE i fun
          | some (r', .row (some e') s l) => .need (r = r' ∧ e' = e ∧ s = sz ∧ n * sz ≤ l.length ∧ n + m ≤ maxLen ∧ (n + m) * by' ≤ 140737488355328)
            (.putE i (some (r' + 1, .row (some e) sz (l.take (n * sz) ++ news))) (putD o.dst (.g (.one (.sl i (r' + 1) (n + m))))))
          | _ => .fail
        | _ => .fail
      | _, _ => .fail
    | .builtin .len => match c.args.toList, c.argTypes.toList with
      | [x], [t] => getO x fun a => match a with
        | .g (.one (.v (.string s))) => .exv (fun r => okv r = true ∧ ∀ w, (builtin .len c.argTypes o.type (c.args.map isConst) #[.string s]).run P w = .ok (.value r) w) fun r => putD o.dst (ofv r)
        | _ => orFail (find1 T.elt t) fun (arr, e, agg, sz, _) => .need (arr = none) (match a with
          | .g (.one (.ro _ n _)) => putD o.dst (.g (.one (.v (.int .i64 n))))
          | .g (.one (.v (.slice none 0 0))) => putD o.dst (.g (.one (.v (.int .i64 (0 : Nat)))))
          | .g (.one (.sl i r n)) => .getE i fun
            | some (r', _) => .need (r = r') (putD o.dst (.g (.one (.v (.int .i64 n)))))
            | _ => .fail
          | _ => .fail)
      | _, _ => .fail
    | .builtin b => getVs c.args.toList fun vs => .exv (fun r => okv r = true ∧ ∀ w, (builtin b c.argTypes o.type (c.args.map isConst) vs.toArray).run P w = .ok (.value r) w) fun r => putD o.dst (ofv r)
    | .value f => getO f fun a => match a with
      | .g (.one (.fn f caps)) => getL c.args.toList fun as => orFail (cf f) fun m => m (as ++ caps.map fun p => .g (.one (.ptr p.1 p.2 0))) o.dst
      | _ => .fail
    | _ => .fail
  | _ => .fail
end Go.Proofs.Ytgifhhefcmmdfaa
