/- The abstract run: rules whose conditions are reckoned at one go. No program is named. -/
import Derived.Test.YtgifhhefcmmdfaaAbsX
namespace Go.Proofs.Ytgifhhefcmmdfaa
set_option linter.unusedVariables false
set_option linter.unusedSimpArgs false
open Go.RowKit
section
variable {P : Program} {T : Tab} {cf : FuncId → Option (List AV → Option Tmp → AM)} {F : Ft} {Fs : Nat → Ft} {i : Nat} {rest : List Oper} {S S' : St} {K : St → Prop} {ops : Array Oper} {d : Tmp} {x y c : Operand} {a b : AV} {ty : TypeId} {pos : String} {af : Array Edge} {g : Option (Nat × Bool)} {v : AV} {p : Prop}
theorem bc {α : Type} {b : Bool} {x : Option α} {y : α} (h : (bif b then x else none) = some y) : b = true ∧ x = some y := by
  cases b with
  | true => exact ⟨rfl, h⟩
  | false => cases h
theorem b2 {a b : Bool} (h : (a && b) = true) : a = true ∧ b = true := by cases a <;> cases b <;> first | exact ⟨rfl, rfl⟩ | cases h
/-- A value read from memory. -/
def evLoad (F : Ft) (T : Tab) (S : St) (x : Operand) (t : TypeId) : Option AV := match rdO F S x, find1 T.lay t with
  | some (.g (.one (.ptr j r off))), some (agg, size) => bif F.er j then (match S.G j with
    | some (r', .box cs) => bif Nat.beq r r' && Nat.ble (off + size) cs.length then ofa agg ((cs.drop off).take size) else none
    | some (r', .rbx cs) => bif Nat.beq r r' && Nat.ble (off + size) cs.length then ofa agg ((cs.drop off).take size) else none
    | some (r', .row e sz l) => bif agg then (match tellL ((l.drop off).take size) with
        | some vs => bif Nat.beq r r' && (Nat.beq vs.length size && Nat.blt 0 size) then some (.g (.agg (vs.map .v))) else none
        | none => none)
      else (match l[off]? with
        | some u => bif Nat.beq r r' && Nat.beq size 1 then some (.g (.one (.v u))) else none
        | none => none)
    | _ => none) else none
  | some (.g (.one (.rp l))), some (agg, size) => bif agg then (match tellL (l.take size) with
        | some vs => bif Nat.beq vs.length size then some (.g (.agg (vs.map .v))) else none
        | none => none)
      else (match l[0]? with
        | some u => bif Nat.beq size 1 then some (.g (.one (.v u))) else none
        | none => none)
  | _, _ => none
theorem q_load {t : TypeId} (h : evLoad (Fs i) T S x t = some v) (hw : (Fs i).sw d = true) (k : runX Fs P T cf ops (i + 1) rest (S.put d (some v)) K) : runA Fs P T cf ops i ⟨some d, .load t x, ty, pos, af, g⟩ rest S K := by
  unfold evLoad at h
  split at h
  · rename_i j r off agg size hx hl
    replace h := bc h; obtain ⟨her, h⟩ := h
    split at h
    · rename_i r' cs hG
      replace h := bc h; obtain ⟨h1, h⟩ := h
      obtain ⟨h1, h2⟩ := b2 h1
      have := Nat.eq_of_beq_eq_true h1; subst this
      exact r_load_box hx hl her hG h2 h hw k
    · rename_i r' cs hG
      replace h := bc h; obtain ⟨h1, h⟩ := h
      obtain ⟨h1, h2⟩ := b2 h1
      have := Nat.eq_of_beq_eq_true h1; subst this
      exact r_load_rbx hx hl her hG h2 h hw k
    · rename_i r' e sz l hG
      cases agg with
      | true =>
        simp only [cond_true] at h
        split at h
        · rename_i vs hv
          replace h := bc h; obtain ⟨h1, h⟩ := h
          obtain ⟨h1, h2⟩ := b2 h1
          obtain ⟨h2, h3⟩ := b2 h2
          have := Nat.eq_of_beq_eq_true h1; subst this
          cases h
          exact r_load_rowN hx hl her hG hw hv h2 h3 k
        · cases h
      | false =>
        simp only [cond_false] at h
        split at h
        · rename_i u hv
          replace h := bc h; obtain ⟨h1, h⟩ := h
          obtain ⟨h1, h2⟩ := b2 h1
          have := Nat.eq_of_beq_eq_true h1; subst this
          have := Nat.eq_of_beq_eq_true h2; subst this
          cases h
          exact r_load_row hx hl her hG hw hv k
        · cases h
    · cases h
  · rename_i l agg size hx hl
    cases agg with
    | true =>
      simp only [cond_true] at h
      split at h
      · rename_i vs hv
        replace h := bc h; obtain ⟨h1, h⟩ := h
        cases h
        exact r_load_rpN hx hl hw hv h1 k
      · cases h
    | false =>
      simp only [cond_false] at h
      split at h
      · rename_i u hv
        replace h := bc h; obtain ⟨h1, h⟩ := h
        have := Nat.eq_of_beq_eq_true h1; subst this
        cases h
        exact r_load_rp hx hl hw hv k
      · cases h
  · cases h
/-- The address of a field. -/
def evFA (F : Ft) (T : Tab) (S : St) (x : Operand) (s f : Nat) : Option AV := match rdO F S x, find1 T.fld (s * 1000 + f) with
  | some (.g (.one (.ptr j r o))), some (off, _, _) => bif F.er j && Nat.blt f 1000 then (match S.G j with
    | some (r', _) => bif Nat.beq r r' then some (.g (.one (.ptr j r (o + off)))) else none
    | none => none) else none
  | some (.g (.one (.rp l))), some (off, _, _) => bif Nat.blt f 1000 then some (.g (.one (.rp (l.drop off)))) else none
  | _, _ => none
theorem q_fieldAddr {s f : Nat} (h : evFA (Fs i) T S x s f = some v) (hw : (Fs i).sw d = true) (k : runX Fs P T cf ops (i + 1) rest (S.put d (some v)) K) : runA Fs P T cf ops i ⟨some d, .fieldAddr s x f, ty, pos, af, g⟩ rest S K := by
  unfold evFA at h
  split at h
  · rename_i j r o off agg size hx hl
    replace h := bc h; obtain ⟨h1, h⟩ := h
    obtain ⟨her, h2⟩ := b2 h1
    split at h
    · rename_i r' e hG
      replace h := bc h; obtain ⟨h1, h⟩ := h
      have := Nat.eq_of_beq_eq_true h1; subst this
      cases h
      exact r_fieldAddr hx hl h2 her hG hw k
    · cases h
  · rename_i l off agg size hx hl
    replace h := bc h; obtain ⟨h1, h⟩ := h
    cases h
    exact r_fieldAddr_rp hx hl h1 hw k
  · cases h
def evField (F : Ft) (T : Tab) (S : St) (x : Operand) (s f : Nat) : Option AV := match rdO F S x, find1 T.fld (s * 1000 + f) with
  | some (.g (.agg cs)), some (off, agg, size) => bif Nat.blt f 1000 && Nat.ble (off + size) cs.length then ofa agg ((cs.drop off).take size) else none
  | _, _ => none
theorem q_field {s f : Nat} (h : evField (Fs i) T S x s f = some v) (hw : (Fs i).sw d = true) (k : runX Fs P T cf ops (i + 1) rest (S.put d (some v)) K) : runA Fs P T cf ops i ⟨some d, .field s x f, ty, pos, af, g⟩ rest S K := by
  unfold evField at h
  split at h
  · rename_i cs off agg size hx hl
    replace h := bc h; obtain ⟨h1, h⟩ := h
    obtain ⟨h1, h2⟩ := b2 h1
    exact r_field hx hl h1 h2 h hw k
  · cases h
/-- Two integers. -/
def evBin (F : Ft) (S : St) (o : BinOp) (x y : Operand) : Option (AV × Prop) := match rdV F S x, rdV F S y with
  | some (.int .i64 m), some (.int .i64 n) => match cmpI o m n with
    | some q => some (vB q, True)
    | none => match arI o m n with
      | some q => some (vI q, -9223372036854775808 ≤ q ∧ q ≤ 9223372036854775807)
      | none => none
  | _, _ => none
theorem q_bin {o : BinOp} {t yt : TypeId} (h : evBin (Fs i) S o x y = some (v, p)) (hw : (Fs i).sw d = true) (hp : p) (k : runX Fs P T cf ops (i + 1) rest (S.put d (some v)) K) : runA Fs P T cf ops i ⟨some d, .binOp o t x y yt, ty, pos, af, g⟩ rest S K := by
  unfold evBin at h
  split at h
  · rename_i m n hx hy
    split at h
    · rename_i q hq
      cases h
      exact r_cmp hx hy hq hw k
    · split at h
      · rename_i q hq
        cases h
        exact r_ar hx hy hq hp hw k
      · cases h
  · cases h
/-- A store into a variable. -/
def evStore (F : Ft) (T : Tab) (S : St) (x y : Operand) (t : TypeId) : Option St := match rdO F S x, rdO F S y, find1 T.lay t with
  | some (.g (.one (.ptr j r off))), some b, some (_, size) => match cellsOf b with
    | some cs => bif F.er j && F.ew j then (match S.G j with
      | some (r', .box cells) => bif Nat.beq r r' && (Nat.beq cs.length size && Nat.ble (off + size) cells.length) then some (S.lay j (some (r, .box (setC cells off cs)))) else none
      | _ => none) else none
    | none => none
  | _, _, _ => none
theorem q_store {t : TypeId} (h : evStore (Fs i) T S x y t = some S') (k : runX Fs P T cf ops (i + 1) rest S' K) : runA Fs P T cf ops i ⟨none, .store t x y, ty, pos, af, g⟩ rest S K := by
  unfold evStore at h
  split at h
  · rename_i j r off b agg size hx hy hl
    split at h
    · rename_i cs hc
      replace h := bc h; obtain ⟨h1, h⟩ := h
      obtain ⟨her, hew⟩ := b2 h1
      split at h
      · rename_i r' cells hG
        replace h := bc h; obtain ⟨h1, h⟩ := h
        obtain ⟨h1, h2⟩ := b2 h1
        obtain ⟨h2, h3⟩ := b2 h2
        have := Nat.eq_of_beq_eq_true h1; subst this
        cases h
        exact r_store_box hx hy hl hc her hG h2 h3 hew k
      · cases h
    · cases h
  · cases h
/-- New variables. -/
def evNew (F : Ft) (S : St) (d : Nat) (cs : List AC) : Option St := bif Nat.blt (nid d 0) 100000 && (F.er (nid d 0) && (F.ew (nid d 0) && F.sw d)) then (match nvO S (nid d 0) with
  | some r => some ((S.lay (nid d 0) (some (r, .box cs))).put d (some (.g (.one (.ptr (nid d 0) r 0)))))
  | none => none) else none
def evBox (F : Ft) (S : St) (d : Nat) (x : Operand) : Option St := match rdO F S x with
  | some a => match cellsOf a with
    | some cs => evNew F S d cs
    | none => none
  | none => none
theorem q_box {t : TypeId} (h : evBox (Fs i) S d x = some S') (k : runX Fs P T cf ops (i + 1) rest S' K) : runA Fs P T cf ops i ⟨some d, .box t x, ty, pos, af, g⟩ rest S K := by
  unfold evBox at h
  split at h
  · rename_i a hx
    split at h
    · rename_i cs hc
      unfold evNew at h
      replace h := bc h; obtain ⟨h1, h⟩ := h
      obtain ⟨h1, h2⟩ := b2 h1
      obtain ⟨h2, h3⟩ := b2 h2
      obtain ⟨h3, h4⟩ := b2 h3
      split at h
      · rename_i r hr
        cases h
        exact r_boxV hx hc h1 h2 h3 hr h4 k
      · cases h
    · cases h
  · cases h
def evAlloc (F : Ft) (T : Tab) (S : St) (d : Nat) (t : TypeId) : Option St := match find1 T.zer t with
  | some z => evNew F S d (z.map .v)
  | none => none
theorem q_alloc {t : TypeId} (h : evAlloc (Fs i) T S d t = some S') (k : runX Fs P T cf ops (i + 1) rest S' K) : runA Fs P T cf ops i ⟨some d, .alloc t, ty, pos, af, g⟩ rest S K := by
  unfold evAlloc at h
  split at h
  · rename_i z hz
    unfold evNew at h
    replace h := bc h; obtain ⟨h1, h⟩ := h
    obtain ⟨h1, h2⟩ := b2 h1
    obtain ⟨h2, h3⟩ := b2 h2
    obtain ⟨h3, h4⟩ := b2 h3
    split at h
    · rename_i r hr
      cases h
      exact r_allocV hz h1 h2 h3 hr h4 k
    · cases h
  · cases h
/-- A literal. -/
def evBuild (F : Ft) (T : Tab) (S : St) (t : TypeId) (ps : Array (Nat × Operand)) : Option AV := match rdPs F S ps.toList, find1 T.bld t with
  | some ls, some (z, places, esz) => match fillA (placeOf places esz) (z.map .v) ls with
    | some cs => some (.g (.agg cs))
    | none => none
  | _, _ => none
theorem q_build {t : TypeId} {ps : Array (Nat × Operand)} (h : evBuild (Fs i) T S t ps = some v) (hw : (Fs i).sw d = true) (k : runX Fs P T cf ops (i + 1) rest (S.put d (some v)) K) : runA Fs P T cf ops i ⟨some d, .build t ps, ty, pos, af, g⟩ rest S K := by
  unfold evBuild at h
  split at h
  · rename_i ls z places esz hp hb
    split at h
    · rename_i cs hf
      cases h
      exact r_build hp hb hf hw k
    · cases h
  · cases h
/-- The address of an element. -/
def evIA (F : Ft) (T : Tab) (S : St) (x y : Operand) (t : TypeId) : Option (AV × Prop) := match rdO F S x, rdV F S y, find1 T.elt t with
  | some (.g (.one (.ro sz n l))), some (.int _ j), some (none, _, _, sz', _) => bif Nat.beq sz sz' then some (.g (.one (.rp (l.drop (j.toNat * sz)))), 0 ≤ j ∧ j < (n : Int)) else none
  | some (.g (.one (.sl b r n))), some (.int _ j), some (none, _, _, sz', _) => bif F.er b then (match S.G b with
    | some (r', .row _ sz _) => bif Nat.beq r r' && Nat.beq sz sz' then some (.g (.one (.ptr b r (j.toNat * sz))), 0 ≤ j ∧ j < (n : Int)) else none
    | _ => none) else none
  | some (.g (.one (.ptr b r off))), some (.int _ j), some (some n, _, _, sz, _) => bif F.er b then (match S.G b with
    | some (r', _) => bif Nat.beq r r' then some (.g (.one (.ptr b r (off + j.toNat * sz))), 0 ≤ j ∧ j < (n : Int)) else none
    | _ => none) else none
  | _, _, _ => none
theorem q_indexAddr {t : TypeId} (h : evIA (Fs i) T S x y t = some (v, p)) (hw : (Fs i).sw d = true) (hp : p) (k : runX Fs P T cf ops (i + 1) rest (S.put d (some v)) K) : runA Fs P T cf ops i ⟨some d, .indexAddr t x y, ty, pos, af, g⟩ rest S K := by
  unfold evIA at h
  split at h
  · rename_i sz n l kd j e agg sz' by' hx hy he
    replace h := bc h; obtain ⟨h1, h⟩ := h
    have := Nat.eq_of_beq_eq_true h1; subst this
    cases h
    exact r_indexAddr_ro hx hy he hw hp.1 hp.2 k
  · rename_i b r n kd j e agg sz' by' hx hy he
    replace h := bc h; obtain ⟨her, h⟩ := h
    split at h
    · rename_i r' e2 sz l hG
      replace h := bc h; obtain ⟨h1, h⟩ := h
      obtain ⟨h1, h2⟩ := b2 h1
      have := Nat.eq_of_beq_eq_true h1; subst this
      have := Nat.eq_of_beq_eq_true h2; subst this
      cases h
      exact r_indexAddr_sl hx hy he her hG hw hp.1 hp.2 k
    · cases h
  · rename_i b r off kd j n e agg sz by' hx hy he
    replace h := bc h; obtain ⟨her, h⟩ := h
    split at h
    · rename_i r' e2 hG
      replace h := bc h; obtain ⟨h1, h⟩ := h
      have := Nat.eq_of_beq_eq_true h1; subst this
      cases h
      exact r_indexAddr_arr hx hy he her hG hw hp.1 hp.2 k
    · cases h
  · cases h
def evLen (F : Ft) (T : Tab) (S : St) (x : Operand) (t : TypeId) : Option Int := match rdO F S x, find1 T.elt t with
  | some (.g (.one (.ro _ n _))), some (none, _) => some n
  | some (.g (.one (.v (.slice none 0 0)))), some (none, _) => some 0
  | some (.g (.one (.sl b r n))), some (none, _) => bif F.er b then (match S.G b with
    | some (r', _) => bif Nat.beq r r' then some n else none
    | none => none) else none
  | _, _ => none
theorem q_len {t : TypeId} {m : Int} (h : evLen (Fs i) T S x t = some m) (hw : (Fs i).sw d = true) (k : runX Fs P T cf ops (i + 1) rest (S.put d (some (vI m))) K) : runA Fs P T cf ops i ⟨some d, .call { callee := .builtin .len, args := #[x], argTypes := #[t] }, ty, pos, af, g⟩ rest S K := by
  unfold evLen at h
  split at h
  · rename_i z n l q hx he
    obtain ⟨e, agg, sz, by'⟩ := q
    cases h
    exact r_len_ro hx he hw k
  · rename_i q hx he
    obtain ⟨e, agg, sz, by'⟩ := q
    cases h
    exact r_len_nil hx he hw k
  · rename_i b r n q hx he
    obtain ⟨e, agg, sz, by'⟩ := q
    replace h := bc h; obtain ⟨her, h⟩ := h
    split at h
    · rename_i r' e2 hG
      replace h := bc h; obtain ⟨h1, h⟩ := h
      have := Nat.eq_of_beq_eq_true h1; subst this
      cases h
      exact r_len_sl hx he her hG hw k
    · cases h
  · cases h
/-- A call: what is handed over, and what comes back. -/
def preC (F : Ft) (wt : WsT) (f : Nat) (S : St) (d : Nat) (aa : Option (List AV)) : Option (Bool × St × List AV × List (Nat × Nat) × List Ent × Prop) := match wsOf wt f, aa with
  | (ws, al), some aa => match (bif al then frzF F (cellsL aa) S else some S) with
    | some S1 => match nrmLf F S1 (fun p => ws.any (Nat.beq p)) 0 aa [] [] [] with
      | some (args', ids, es, vw, q) => bif callB ids vw al d then some (al, S1, args', ids, es, q) else none
      | none => none
    | none => none
  | _, none => none
def postC (F : Ft) (S1 : St) (al : Bool) (ids : List (Nat × Nat)) (es : List Ent) (d : Nat) (out : AV) (news es' : List Ent) : Option St := bif roB al out news es' && F.sw d then (match backF F S1 ids es es' with
  | some S2 => match newFv F d 0 news S2 with
    | some (rs, S3) => match renV2 ids rs d out with
      | some v => some (S3.put d (some v))
      | none => none
    | none => none
  | none => none) else none
def zArgs (z : Nat) (aa : Option (List AV)) : Option (List AV) := match aa with
  | some aa => nilL z aa
  | none => none
theorem q_callA (wt : WsT) (z : Nat) {f : FuncId} {al : Bool} {aa : List AV} {args' : List AV} {ids : List (Nat × Nat)} {es news es' : List Ent} {q : Prop} {out : AV} {S1 S3 : St}
    (h1 : preC F wt f S d (some (aa.map (AV.nilz z))) = some (al, S1, args', ids, es, q)) (hK : Kon P f args' es out news es') (h2 : postC F S1 al ids es d out news es' = some S3) (hq : q) (k : K S3) : (orFail (cfU P f) fun m => m aa (some d)).run F S K := by
  obtain ⟨C, hC, hCe⟩ := hK
  unfold preC at h1
  split at h1
  · rename_i ws al' aa' haa hab
    cases hab
    split at h1
    · rename_i S1' hfz
      split at h1
      · rename_i args2 ids2 es2 vw q2 hn
        replace h1 := bc h1; obtain ⟨hB, h1⟩ := h1
        cases h1
        unfold postC at h2
        replace h2 := bc h2; obtain ⟨h3, h2⟩ := h2
        obtain ⟨hro, hw⟩ := b2 h3
        split at h2
        · rename_i S2 hbk
          split at h2
          · rename_i rs S4 hnw
            split at h2
            · rename_i v hv
              cases h2
              have hv' := renV2_ok hv
              subst hv'
              exact cfU_run (ws := ws) (al := al) z hC (call_of (dst := some d) hfz hn hB hCe hro (by simp) hbk (newFv_ok _ hnw) hq (putD_of hw k))
            · cases h2
          · cases h2
        · cases h2
      · cases h1
    · cases h1
  · cases h1
theorem q_call (wt : WsT) {f : FuncId} {al : Bool} {args : Array Operand} {ts : Array TypeId} {args' : List AV} {ids : List (Nat × Nat)} {es news es' : List Ent} {q : Prop} {out : AV} {S1 S3 : St}
    (h1 : preC (Fs i) wt f S d (rdL (Fs i) S args.toList) = some (al, S1, args', ids, es, q)) (hK : Kon P f args' es out news es') (h2 : postC (Fs i) S1 al ids es d out news es' = some S3) (hq : q) (k : runX Fs P T (cfU P) ops (i + 1) rest S3 K) :
    runA Fs P T (cfU P) ops i ⟨some d, .call { callee := .value (.func f), args := args, argTypes := ts }, ty, pos, af, g⟩ rest S K := by
  cases ha : rdL (Fs i) S args.toList with
  | none => rw [ha] at h1; unfold preC at h1; split at h1 <;> simp_all
  | some aa =>
    rw [ha] at h1
    have h : (getL args.toList fun ls => orFail (cfU P f) fun m => m (ls ++ List.map (fun p => (.g (.one (.ptr p.1 p.2 0)) : AV)) ([] : List (Nat × Nat))) (some d)).run (Fs i) S (fun S' => runX Fs P T (cfU P) ops (i + 1) rest S' K) := by
      refine getL_of _ ha ?_
      rw [List.map_nil, List.append_nil]
      exact q_callA wt 0 (by rw [nilz_zero]; exact h1) hK h2 hq k
    exact h
theorem q_callZ (wt : WsT) (z : Nat) {f : FuncId} {al : Bool} {args : Array Operand} {ts : Array TypeId} {args' : List AV} {ids : List (Nat × Nat)} {es news es' : List Ent} {q : Prop} {out : AV} {S1 S3 : St}
    (h1 : preC (Fs i) wt f S d (zArgs z (rdL (Fs i) S args.toList)) = some (al, S1, args', ids, es, q)) (hK : Kon P f args' es out news es') (h2 : postC (Fs i) S1 al ids es d out news es' = some S3) (hq : q) (k : runX Fs P T (cfU P) ops (i + 1) rest S3 K) :
    runA Fs P T (cfU P) ops i ⟨some d, .call { callee := .value (.func f), args := args, argTypes := ts }, ty, pos, af, g⟩ rest S K := by
  cases ha : zArgs z (rdL (Fs i) S args.toList) with
  | none => rw [ha] at h1; unfold preC at h1; split at h1 <;> simp_all
  | some ab =>
    rw [ha] at h1
    cases ha2 : rdL (Fs i) S args.toList with
    | none => rw [ha2] at ha; cases ha
    | some aa =>
      rw [ha2] at ha
      have hz := nilL_eq (show nilL z aa = some ab from ha)
      subst hz
      have h : (getL args.toList fun ls => orFail (cfU P f) fun m => m (ls ++ List.map (fun p => (.g (.one (.ptr p.1 p.2 0)) : AV)) ([] : List (Nat × Nat))) (some d)).run (Fs i) S (fun S' => runX Fs P T (cfU P) ops (i + 1) rest S' K) := by
        refine getL_of _ ha2 ?_
        rw [List.map_nil, List.append_nil]
        exact q_callA wt z h1 hK h2 hq k
      exact h
/-- The call of a function in a variable. -/
def capArgs (aa : Option (List AV)) (caps : List (Nat × Nat)) : Option (List AV) := match aa with
  | some aa => some (aa ++ caps.map fun p => .g (.one (.ptr p.1 p.2 0)))
  | none => none
theorem q_callV (wt : WsT) {f : FuncId} {caps : List (Nat × Nat)} {al : Bool} {args : Array Operand} {ts : Array TypeId} {args' : List AV} {ids : List (Nat × Nat)} {es news es' : List Ent} {q : Prop} {out : AV} {S1 S3 : St}
    (hc : rdO (Fs i) S c = some (.g (.one (.fn f caps)))) (h1 : preC (Fs i) wt f S d (capArgs (rdL (Fs i) S args.toList) caps) = some (al, S1, args', ids, es, q)) (hK : Kon P f args' es out news es') (h2 : postC (Fs i) S1 al ids es d out news es' = some S3) (hq : q) (k : runX Fs P T (cfU P) ops (i + 1) rest S3 K) :
    runA Fs P T (cfU P) ops i ⟨some d, .call { callee := .value c, args := args, argTypes := ts }, ty, pos, af, g⟩ rest S K := by
  cases ha : rdL (Fs i) S args.toList with
  | none => rw [ha] at h1; unfold preC capArgs at h1; split at h1 <;> simp_all
  | some aa =>
    rw [ha] at h1
    refine getO_of (k := fun a => match a with
        | .g (.one (.fn f caps)) => getL args.toList fun as => orFail (cfU P f) fun m => m (as ++ caps.map fun p => .g (.one (.ptr p.1 p.2 0))) (some d)
        | _ => .fail) hc ?_
    refine getL_of _ ha ?_
    exact q_callA wt 0 (by rw [nilz_zero]; exact h1) hK h2 hq k
/-- Calls, for whatever contract is found. -/
def CallK (P : Program) (F : Ft) (d : Nat) (f : FuncId) (K : St → Prop) : Bool × St × List AV × List (Nat × Nat) × List Ent × Prop → Prop
  | (al, S1, args', ids, es, q) => ∃ out news es', Kon P f args' es out news es' ∧ ∃ S3, postC F S1 al ids es d out news es' = some S3 ∧ q ∧ K S3
def wszOf (t : List (Nat × Nat)) (f : Nat) : Nat := match find1 t f with
  | some x => x
  | none => 0
def zA (z : Nat) (aa : Option (List AV)) : Option (List AV) := bif Nat.beq z 0 then aa else zArgs z aa
theorem q_callE (wt : WsT) (zt : List (Nat × Nat)) {f : FuncId} {args : Array Operand} {ts : Array TypeId} {r : Bool × St × List AV × List (Nat × Nat) × List Ent × Prop}
    (h1 : preC (Fs i) wt f S d (zA (wszOf zt f) (rdL (Fs i) S args.toList)) = some r) (h : CallK P (Fs i) d f (fun S3 => runX Fs P T (cfU P) ops (i + 1) rest S3 K) r) :
    runA Fs P T (cfU P) ops i ⟨some d, .call { callee := .value (.func f), args := args, argTypes := ts }, ty, pos, af, g⟩ rest S K := by
  obtain ⟨al, S1, args', ids, es, q⟩ := r
  obtain ⟨out, news, es', hK, S3, h2, hq, k⟩ := h
  cases hz : Nat.beq (wszOf zt f) 0 with
  | true =>
    unfold zA at h1
    rw [hz] at h1
    exact q_call wt h1 hK h2 hq k
  | false =>
    unfold zA at h1
    rw [hz] at h1
    exact q_callZ wt _ h1 hK h2 hq k
theorem q_callVE (wt : WsT) {f : FuncId} {caps : List (Nat × Nat)} {args : Array Operand} {ts : Array TypeId} {r : Bool × St × List AV × List (Nat × Nat) × List Ent × Prop}
    (hc : rdO (Fs i) S c = some (.g (.one (.fn f caps)))) (h1 : preC (Fs i) wt f S d (capArgs (rdL (Fs i) S args.toList) caps) = some r) (h : CallK P (Fs i) d f (fun S3 => runX Fs P T (cfU P) ops (i + 1) rest S3 K) r) :
    runA Fs P T (cfU P) ops i ⟨some d, .call { callee := .value c, args := args, argTypes := ts }, ty, pos, af, g⟩ rest S K := by
  obtain ⟨al, S1, args', ids, es, q⟩ := r
  obtain ⟨out, news, es', hK, S3, h2, hq, k⟩ := h
  exact q_callV wt hc h1 hK h2 hq k
/-- A slice that gets no more room. -/
def evClip (F : Ft) (S : St) (d : Nat) (aa : Option (List AV)) : Option (St × Prop) := match aa with
  | some [.g (.one (.sl j r n))] => bif F.er j && (F.ew j && F.sw d) then (match S.G j with
    | some (r', .row e z l) => some ((S.lay j (some (r + 1, .row e z l))).put d (some (.g (.one (.sl j (r + 1) n)))), r = r' ∧ l.length = n * z ∧ 0 < z)
    | _ => none) else none
  | _ => none
theorem q_clip {f : FuncId} {args : Array Operand} {ts : Array TypeId} (h1 : evClip (Fs i) S d (rdL (Fs i) S args.toList) = some (S', p)) (hf : IsClip P f) (hp : p) (k : runX Fs P T (cfU P) ops (i + 1) rest S' K) :
    runA Fs P T (cfU P) ops i ⟨some d, .call { callee := .value (.func f), args := args, argTypes := ts }, ty, pos, af, g⟩ rest S K := by
  cases ha : rdL (Fs i) S args.toList with
  | none => rw [ha] at h1; cases h1
  | some aa =>
    rw [ha] at h1
    unfold evClip at h1
    split at h1
    · rename_i j r n haa
      cases haa
      replace h1 := bc h1
      obtain ⟨hc, h1⟩ := h1
      obtain ⟨her, hc⟩ := b2 hc
      obtain ⟨hew, hw⟩ := b2 hc
      split at h1
      · rename_i r' e z l hG
        cases h1
        have h : (getL args.toList fun ls => orFail (cfU P f) fun m => m (ls ++ List.map (fun p => (.g (.one (.ptr p.1 p.2 0)) : AV)) ([] : List (Nat × Nat))) (some d)).run (Fs i) S (fun S' => runX Fs P T (cfU P) ops (i + 1) rest S' K) := by
          refine getL_of _ ha ?_
          rw [List.map_nil, List.append_nil]
          exact cfU_clip hf (getE_of her hG (need_of hp ⟨hew, putD_of hw k⟩))
        exact h
      · cases h1
    · cases h1
theorem isClip_mk {f : FuncId} {fn : Func} {c : Code} (hf : P.funcs[f]? = some fn) (hb : fn.body = some c) (hn : (fn.name == "runtime.NumGoroutine") = false) (h : ∀ A n c w, n ≤ c → c ≤ 9223372036854775807 → Calls P f #[.slice A n c] w fun e w' => e = .returned (.slice A n n) ∧ w = w') : IsClip P f := ⟨enters_of hf hb hn, h⟩
end
end Go.Proofs.Ytgifhhefcmmdfaa
