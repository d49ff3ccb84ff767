/- The abstract run, thirteenth part: rules by which an abstract run is reckoned. No program is named. -/
import Derived.Test.YtgifhhefcmmdfaaAbsQ
namespace Go.Proofs.Ytgifhhefcmmdfaa
set_option linter.unusedVariables false
open Go.RowKit

/-- An operand, read. -/
def rdO (F : Ft) (S : St) : Operand → Option AV
  | .tmp t => bif F.sr t then S.E t else none
  | .const v => bif v.oneCell' then some (.g (.one (.v v))) else none
  | .func f => some (.g (.one (.fn f [])))
  | .global _ => none
def rdV (F : Ft) (S : St) (x : Operand) : Option Value := match rdO F S x with
  | some a => pval a
  | none => none
abbrev vI (n : Int) : AV := .g (.one (.v (.int .i64 n)))
abbrev vB (b : Bool) : AV := .g (.one (.v (.bool b)))
/-- An operation that is carried out, and those behind it. -/
def runA (F : Nat → Ft) (P : Program) (T : Tab) (cf : FuncId → Option (List AV → Option Tmp → AM)) (ops : Array Oper) (i : Nat) (o : Oper) (rest : List Oper) (S : St) (K : St → Prop) : Prop :=
  (aop P T cf o).run (F i) S (fun S' => runX F P T cf ops (i + 1) rest S' K)
section
variable {P : Program} {T : Tab} {cf : FuncId → Option (List AV → Option Tmp → AM)} {F : Ft} {Fs : Nat → Ft} {i : Nat} {rest : List Oper} {S : St} {K : St → Prop} {ops : Array Oper} {d : Tmp} {x y c : Operand} {a b : AV} {ty : TypeId} {pos : String} {af : Array Edge} {g : Option (Nat × Bool)}
theorem getO_of {k : AV → AM} (h : rdO F S x = some a) (hk : (k a).run F S K) : (getO x k).run F S K := by
  cases x with
  | tmp t =>
    simp only [rdO] at h
    cases hF : F.sr t <;> simp only [hF, cond_true, cond_false] at h
    · cases h
    · exact ⟨hF, a, h, hk⟩
  | const v =>
    simp only [rdO] at h
    cases hF : v.oneCell' <;> simp only [hF, cond_true, cond_false] at h
    · cases h
    · cases h; exact ⟨hF, hk⟩
  | func f => cases h; exact hk
  | global g => cases h
theorem getV_of {k : Value → AM} {v : Value} (h : rdV F S x = some v) (hk : (k v).run F S K) : (getV x k).run F S K := by
  unfold rdV at h
  split at h
  · rename_i a ha
    refine getO_of ha ?_
    simp only [h]; exact hk
  · cases h
theorem putD_of (hw : F.sw d = true) (hk : K (S.put d (some a))) : (putD (some d) a).run F S K := ⟨hw, hk⟩
theorem r_move (hx : rdO (Fs i) S x = some a) (hw : (Fs i).sw d = true) (k : runX Fs P T cf ops (i + 1) rest (S.put d (some a)) K) : runA Fs P T cf ops i ⟨some d, .move x, ty, pos, af, g⟩ rest S K := getO_of hx (putD_of hw k)
theorem r_assign (hx : rdO (Fs i) S x = some a) (hw : (Fs i).sw d = true) (k : runX Fs P T cf ops (i + 1) rest (S.put d (some a)) K) : runA Fs P T cf ops i ⟨some d, .assign x, ty, pos, af, g⟩ rest S K := getO_of hx (putD_of hw k)
theorem r_pick_t {t : Bool} (hc : rdO (Fs i) S c = some (vB t)) (ht : t = true) (hx : rdO (Fs i) S x = some a) (hw : (Fs i).sw d = true) (k : runX Fs P T cf ops (i + 1) rest (S.put d (some a)) K) : runA Fs P T cf ops i ⟨some d, .pick c x y, ty, pos, af, g⟩ rest S K := by
  subst ht
  exact getO_of hc (getO_of (x := x) hx (putD_of hw k))
theorem r_pick_f {t : Bool} (hc : rdO (Fs i) S c = some (vB t)) (ht : t = false) (hy : rdO (Fs i) S y = some a) (hw : (Fs i).sw d = true) (k : runX Fs P T cf ops (i + 1) rest (S.put d (some a)) K) : runA Fs P T cf ops i ⟨some d, .pick c x y, ty, pos, af, g⟩ rest S K := by
  subst ht
  exact getO_of hc (getO_of (x := y) hy (putD_of hw k))
/-- No guard. -/
theorem r_none {dst : Option Tmp} {o : Op} (h : runA Fs P T cf ops i ⟨dst, o, ty, pos, af, none⟩ rest S K) : runX Fs P T cf ops i (⟨dst, o, ty, pos, af, none⟩ :: rest) S K := h
theorem r_nil (h : K S) : runX Fs P T cf ops i [] S K := h
/-- A guard: both ways. -/
theorem r_guard {o : Op} {j : Nat} {want t : Bool} {dj : Tmp} (hj : (ops[j]?).bind (·.dst) = some dj) (hc : rdO (Fs i) S (.tmp dj) = some (vB t)) (hw : (Fs i).sw d = true)
    (h1 : t = want → runA Fs P T cf ops i ⟨some d, o, ty, pos, af, some (j, want)⟩ rest S K) (h2 : t = !want → runX Fs P T cf ops (i + 1) rest (S.put d (some (.tup []))) K) : runX Fs P T cf ops i (⟨some d, o, ty, pos, af, some (j, want)⟩ :: rest) S K := by
  unfold runX gop
  dsimp only
  rw [hj]
  have : (getO (.tmp dj) fun x => match x with
      | .g (.one (.v (.bool b))) => if b = want then aop P T cf ⟨some d, o, ty, pos, af, some (j, want)⟩ else putD (some d) (.tup [])
      | .tup [] => putD (some d) (.tup [])
      | _ => .fail).run (Fs i) S (fun S' => runX Fs P T cf ops (i + 1) rest S' K) := by
    refine getO_of hc ?_
    dsimp only
    by_cases hb : t = want
    · rw [if_pos hb]; exact h1 hb
    · rw [if_neg hb]; exact ⟨hw, h2 (by cases t <;> cases want <;> simp_all)⟩
  exact this
/-- A guard that was not reached. -/
theorem r_gu {o : Op} {j : Nat} {want : Bool} {dj : Tmp} (hj : (ops[j]?).bind (·.dst) = some dj) (hc : rdO (Fs i) S (.tmp dj) = some (.tup [])) (hw : (Fs i).sw d = true)
    (h2 : runX Fs P T cf ops (i + 1) rest (S.put d (some (.tup []))) K) : runX Fs P T cf ops i (⟨some d, o, ty, pos, af, some (j, want)⟩ :: rest) S K := by
  unfold runX gop
  dsimp only
  rw [hj]
  have : (getO (.tmp dj) fun x => match x with
      | .g (.one (.v (.bool b))) => if b = want then aop P T cf ⟨some d, o, ty, pos, af, some (j, want)⟩ else putD (some d) (.tup [])
      | .tup [] => putD (some d) (.tup [])
      | _ => .fail).run (Fs i) S (fun S' => runX Fs P T cf ops (i + 1) rest S' K) := by
    refine getO_of hc ?_
    exact ⟨hw, h2⟩
  exact this
theorem r_pure2 {o : BinOp} {t yt : TypeId} {u v r : Value} (hx : rdV (Fs i) S x = some u) (hy : rdV (Fs i) S y = some v) (hr : ∀ w, (do eqGuard o t x y u v; binOp o t u v : Sem Value).run P w = .ok r w) (hok : okv r = true) (hw : (Fs i).sw d = true) (k : runX Fs P T cf ops (i + 1) rest (S.put d (some (ofv r))) K) :
    runA Fs P T cf ops i ⟨some d, .binOp o t x y yt, ty, pos, af, g⟩ rest S K := by
  have h1 : (getV y fun b => exr P (do eqGuard o t x y u b; binOp o t u b) (some d)).run (Fs i) S (fun S' => runX Fs P T cf ops (i + 1) rest S' K) := getV_of hy ⟨r, ⟨hok, hr⟩, putD_of hw k⟩
  unfold rdV at hx
  split at hx
  · rename_i a ha
    refine getO_of ha ?_
    have h2 : isRo a = none := by
      unfold isRo
      split
      · cases hx
      · rfl
    simp only [h2, hx]
    exact h1
  · cases hx
/-- A slice with elements is not nil. -/
theorem r_nilcmp {o : BinOp} {t yt : TypeId} {z n : Nat} {l : List Value} {r : Value} (hx : rdO (Fs i) S x = some (.g (.one (.ro z n l)))) (h0 : 0 < n) (hr : ∀ b off c w, (do eqGuard o t x (.const (.slice none 0 0)) (.slice (some ⟨b, off, none⟩) n c) (.slice none 0 0); binOp o t (.slice (some ⟨b, off, none⟩) n c) (.slice none 0 0) : Sem Value).run P w = .ok r w) (hok : okv r = true) (hw : (Fs i).sw d = true) (k : runX Fs P T cf ops (i + 1) rest (S.put d (some (ofv r))) K) :
    runA Fs P T cf ops i ⟨some d, .binOp o t x (.const (.slice none 0 0)) yt, ty, pos, af, g⟩ rest S K :=
  getO_of hx ⟨⟨h0, rfl⟩, r, ⟨hok, hr⟩, putD_of hw k⟩
theorem r_pure1 {o : UnOp} {t : TypeId} {u r : Value} (hx : rdV (Fs i) S x = some u) (hr : ∀ w, (Op.unary o u).run P w = .ok r w) (hok : okv r = true) (hw : (Fs i).sw d = true) (k : runX Fs P T cf ops (i + 1) rest (S.put d (some (ofv r))) K) :
    runA Fs P T cf ops i ⟨some d, .unOp o t x, ty, pos, af, g⟩ rest S K := getV_of hx ⟨r, ⟨hok, hr⟩, putD_of hw k⟩
theorem r_not {t : TypeId} {u : Bool} (hx : rdV (Fs i) S x = some (.bool u)) (hw : (Fs i).sw d = true) (k : runX Fs P T cf ops (i + 1) rest (S.put d (some (vB !u))) K) : runA Fs P T cf ops i ⟨some d, .unOp .not t x, ty, pos, af, g⟩ rest S K :=
  r_pure1 hx (r := .bool !u) (fun w => rfl) rfl hw k
/-- Integers compared. -/
def cmpI (o : BinOp) (m n : Int) : Option Bool := match o with
  | .eql => some (m == n)
  | .neq => some (m != n)
  | .lss => some (decide (m < n))
  | .leq => some (decide (m ≤ n))
  | .gtr => some (decide (m > n))
  | .geq => some (decide (m ≥ n))
  | _ => none
theorem r_cmp {o : BinOp} {t yt : TypeId} {kd : IntKind} {m n : Int} {q : Bool} (hx : rdV (Fs i) S x = some (.int kd m)) (hy : rdV (Fs i) S y = some (.int kd n)) (hq : cmpI o m n = some q) (hw : (Fs i).sw d = true) (k : runX Fs P T cf ops (i + 1) rest (S.put d (some (vB q))) K) :
    runA Fs P T cf ops i ⟨some d, .binOp o t x y yt, ty, pos, af, g⟩ rest S K := by
  refine r_pure2 hx hy (r := .bool q) (fun w => ?_) rfl hw k
  cases o <;> simp only [cmpI, Option.some.injEq] at hq <;> first | (cases hq; done) | (subst hq; simp [eqGuard, binOp, Op.intCmp])
/-- Sums, differences, products within bounds. -/
def arI (o : BinOp) (m n : Int) : Option Int := match o with
  | .add => some (m + n)
  | .sub => some (m - n)
  | .mul => some (m * n)
  | _ => none
theorem r_ar {o : BinOp} {t yt : TypeId} {m n q : Int} (hx : rdV (Fs i) S x = some (.int .i64 m)) (hy : rdV (Fs i) S y = some (.int .i64 n)) (hq : arI o m n = some q) (hb : -9223372036854775808 ≤ q ∧ q ≤ 9223372036854775807) (hw : (Fs i).sw d = true) (k : runX Fs P T cf ops (i + 1) rest (S.put d (some (vI q))) K) :
    runA Fs P T cf ops i ⟨some d, .binOp o t x y yt, ty, pos, af, g⟩ rest S K := by
  refine r_pure2 hx hy (r := .int .i64 q) (fun w => ?_) rfl hw k
  have hwrap : IntKind.i64.wrap q = q := IntWalk.i64_in _ hb
  cases o <;> simp only [arI, Option.some.injEq] at hq <;> first | (cases hq; done) | (subst hq; simp [eqGuard, binOp, Op.intArith, hwrap])
theorem r_neg {t : TypeId} {n : Int} (hx : rdV (Fs i) S x = some (.int .i64 n)) (hb : -9223372036854775807 ≤ n ∧ n ≤ 9223372036854775807) (hw : (Fs i).sw d = true) (k : runX Fs P T cf ops (i + 1) rest (S.put d (some (vI (-n)))) K) : runA Fs P T cf ops i ⟨some d, .unOp .neg t x, ty, pos, af, g⟩ rest S K := by
  refine r_pure1 hx (r := .int .i64 (-n)) (fun w => ?_) rfl hw k
  have hwrap : IntKind.i64.wrap (-n) = -n := IntWalk.i64_in _ (by omega)
  simp [Op.unary, Op.intArith, hwrap]
theorem r_rem {t yt : TypeId} {m n : Int} (hx : rdV (Fs i) S x = some (.int .i64 m)) (hy : rdV (Fs i) S y = some (.int .i64 n)) (h0 : 0 ≤ m) (h1 : 1 ≤ n) (hw : (Fs i).sw d = true) (k : runX Fs P T cf ops (i + 1) rest (S.put d (some (vI (m % n)))) K) :
    runA Fs P T cf ops i ⟨some d, .binOp .rem t x y yt, ty, pos, af, g⟩ rest S K := by
  refine r_pure2 hx hy (r := .int .i64 (m % n)) (fun w => ?_) rfl hw k
  have hne : ¬ n = 0 := by omega
  simp [eqGuard, binOp, Op.intDiv, hne, Int.tmod_eq_emod_of_nonneg h0]
theorem r_remt {t yt : TypeId} {m n : Int} (hx : rdV (Fs i) S x = some (.int .i64 m)) (hy : rdV (Fs i) S y = some (.int .i64 n)) (h1 : n ≠ 0) (hw : (Fs i).sw d = true) (k : runX Fs P T cf ops (i + 1) rest (S.put d (some (vI (m.tmod n)))) K) :
    runA Fs P T cf ops i ⟨some d, .binOp .rem t x y yt, ty, pos, af, g⟩ rest S K := by
  refine r_pure2 hx hy (r := .int .i64 (m.tmod n)) (fun w => ?_) rfl hw k
  simp [eqGuard, binOp, Op.intDiv, h1]
theorem r_quo {t yt : TypeId} {m n : Int} (hx : rdV (Fs i) S x = some (.int .i64 m)) (hy : rdV (Fs i) S y = some (.int .i64 n)) (h0 : 0 ≤ m ∧ m ≤ 9223372036854775807) (h1 : 1 ≤ n) (hw : (Fs i).sw d = true) (k : runX Fs P T cf ops (i + 1) rest (S.put d (some (vI (m / n)))) K) :
    runA Fs P T cf ops i ⟨some d, .binOp .quo t x y yt, ty, pos, af, g⟩ rest S K := by
  refine r_pure2 hx hy (r := .int .i64 (m / n)) (fun w => ?_) rfl hw k
  have hne : ¬ n = 0 := by omega
  simp [eqGuard, binOp, Op.intDiv, hne, IntWalk.i64_quo m n ⟨h0.1, h0.2, h1⟩]
theorem r_shl {t yt : TypeId} {yk : IntKind} {m n q : Int} (hx : rdV (Fs i) S x = some (.int .i64 m)) (hy : rdV (Fs i) S y = some (.int yk n)) (h0 : 0 ≤ n ∧ n ≤ 64) (hq : q = m * 2 ^ n.toNat) (hb : -9223372036854775808 ≤ q ∧ q ≤ 9223372036854775807) (hw : (Fs i).sw d = true) (k : runX Fs P T cf ops (i + 1) rest (S.put d (some (vI q))) K) :
    runA Fs P T cf ops i ⟨some d, .binOp .shl t x y yt, ty, pos, af, g⟩ rest S K := by
  refine r_pure2 hx hy (r := .int .i64 q) (fun w => ?_) rfl hw k
  have hne : ¬ n < 0 := by omega
  have hmin : min n.toNat 64 = n.toNat := by omega
  have hwrap : IntKind.i64.wrap (m * 2 ^ n.toNat) = q := by rw [← hq]; exact IntWalk.i64_in _ hb
  have hbits : IntKind.i64.bits = 64 := rfl
  have e : binOp .shl t (.int .i64 m) (.int yk n) = Op.shift .shl .i64 m yk n := rfl
  rw [e]
  simp only [eqGuard, Op.shift, hne, if_false, hbits, hmin, hwrap]
  rfl
theorem r_shr {t yt : TypeId} {yk : IntKind} {m n : Int} (hx : rdV (Fs i) S x = some (.int .i64 m)) (hy : rdV (Fs i) S y = some (.int yk n)) (h0 : 0 ≤ n ∧ n ≤ 64) (hw : (Fs i).sw d = true) (k : runX Fs P T cf ops (i + 1) rest (S.put d (some (vI (m / 2 ^ n.toNat)))) K) :
    runA Fs P T cf ops i ⟨some d, .binOp .shr t x y yt, ty, pos, af, g⟩ rest S K := by
  refine r_pure2 hx hy (r := .int .i64 (m / 2 ^ n.toNat)) (fun w => ?_) rfl hw k
  have hne : ¬ n < 0 := by omega
  have hmin : min n.toNat 64 = n.toNat := by omega
  have hbits : IntKind.i64.bits = 64 := rfl
  have hf : m.fdiv (2 ^ n.toNat) = m / 2 ^ n.toNat := Int.fdiv_eq_ediv_of_nonneg m (Int.le_of_lt (Int.pow_pos (by omega)))
  have e : binOp .shr t (.int .i64 m) (.int yk n) = Op.shift .shr .i64 m yk n := rfl
  rw [e]
  simp only [eqGuard, Op.shift, hne, if_false, hbits, hmin, hf]
  rfl
/-- Bits of numbers that are not negative. -/
def bitI (o : BinOp) (m n : Int) : Option Int := match o with
  | .and => some ((m.toNat &&& n.toNat : Nat) : Int)
  | .or => some ((m.toNat ||| n.toNat : Nat) : Int)
  | .xor => some ((m.toNat ^^^ n.toNat : Nat) : Int)
  | _ => none
theorem r_bit {o : BinOp} {t yt : TypeId} {m n q : Int} (hx : rdV (Fs i) S x = some (.int .i64 m)) (hy : rdV (Fs i) S y = some (.int .i64 n)) (hq : bitI o m n = some q) (h0 : 0 ≤ m ∧ m ≤ 9223372036854775807) (h1 : 0 ≤ n ∧ n ≤ 9223372036854775807) (hw : (Fs i).sw d = true) (k : runX Fs P T cf ops (i + 1) rest (S.put d (some (vI q))) K) :
    runA Fs P T cf ops i ⟨some d, .binOp o t x y yt, ty, pos, af, g⟩ rest S K := by
  refine r_pure2 hx hy (r := .int .i64 q) (fun w => ?_) rfl hw k
  obtain ⟨a, rfl⟩ := Int.eq_ofNat_of_zero_le h0.1
  obtain ⟨b, rfl⟩ := Int.eq_ofNat_of_zero_le h1.1
  have ha : a < 2 ^ 63 := by have := h0.2; omega
  have hb : b < 2 ^ 63 := by have := h1.2; omega
  have hbits : IntKind.i64.bits = 64 := rfl
  have hand : a &&& b < 2 ^ 63 := Nat.lt_of_le_of_lt Nat.and_le_left ha
  have hor : a ||| b < 2 ^ 63 := Nat.or_lt_two_pow ha hb
  have hxor : a ^^^ b < 2 ^ 63 := Nat.xor_lt_two_pow ha hb
  have w1 : ∀ c : Nat, c < 2 ^ 63 → IntKind.i64.wrap (c : Int) = (c : Int) := fun c hc => IntWalk.i64_in _ (by omega)
  have ea : a % 2 ^ 64 = a := Nat.mod_eq_of_lt (by omega)
  have eb : b % 2 ^ 64 = b := Nat.mod_eq_of_lt (by omega)
  cases o <;> simp only [bitI, Option.some.injEq] at hq <;> first | (cases hq; done) | skip
  · subst hq
    simp [eqGuard, binOp, Op.intBits, hbits, ea, eb, w1 _ hand]
  · subst hq
    simp [eqGuard, binOp, Op.intBits, hbits, ea, eb, w1 _ hor]
  · subst hq
    simp [eqGuard, binOp, Op.intBits, hbits, ea, eb, w1 _ hxor]
end
end Go.Proofs.Ytgifhhefcmmdfaa
