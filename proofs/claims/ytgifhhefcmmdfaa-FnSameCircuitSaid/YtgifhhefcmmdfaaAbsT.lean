/- The abstract run: guards that are decided, more rules. No program is named. -/
import Derived.Test.YtgifhhefcmmdfaaAbsS
namespace Go.Proofs.Ytgifhhefcmmdfaa
set_option linter.unusedVariables false
open Go.RowKit
section
variable {P : Program} {T : Tab} {cf : FuncId → Option (List AV → Option Tmp → AM)} {F : Ft} {Fs : Nat → Ft} {i : Nat} {rest : List Oper} {S : St} {K : St → Prop} {ops : Array Oper} {d : Tmp} {x y c : Operand} {a b : AV} {ty : TypeId} {pos : String} {af : Array Edge} {g : Option (Nat × Bool)}
/-- A guard that lets pass. -/
theorem r_gt {o : Op} {j : Nat} {t : Bool} {dj : Tmp} (hj : (ops[j]?).bind (·.dst) = some dj) (hc : rdO (Fs i) S (.tmp dj) = some (vB t)) (ht : t = true) (hw : (Fs i).sw d = true)
    (h1 : runA Fs P T cf ops i ⟨some d, o, ty, pos, af, some (j, true)⟩ rest S K) : runX Fs P T cf ops i (⟨some d, o, ty, pos, af, some (j, true)⟩ :: rest) S K :=
  r_guard hj hc hw (fun _ => h1) (fun h => by subst ht; cases h)
theorem r_gf {o : Op} {j : Nat} {t : Bool} {dj : Tmp} (hj : (ops[j]?).bind (·.dst) = some dj) (hc : rdO (Fs i) S (.tmp dj) = some (vB t)) (ht : t = false) (hw : (Fs i).sw d = true)
    (h1 : runA Fs P T cf ops i ⟨some d, o, ty, pos, af, some (j, false)⟩ rest S K) : runX Fs P T cf ops i (⟨some d, o, ty, pos, af, some (j, false)⟩ :: rest) S K :=
  r_guard hj hc hw (fun _ => h1) (fun h => by subst ht; cases h)
/-- A guard that does not. -/
theorem r_nt {o : Op} {j : Nat} {t : Bool} {dj : Tmp} (hj : (ops[j]?).bind (·.dst) = some dj) (hc : rdO (Fs i) S (.tmp dj) = some (vB t)) (ht : t = false) (hw : (Fs i).sw d = true)
    (h2 : runX Fs P T cf ops (i + 1) rest (S.put d (some (.tup []))) K) : runX Fs P T cf ops i (⟨some d, o, ty, pos, af, some (j, true)⟩ :: rest) S K :=
  r_guard hj hc hw (fun h => by subst ht; cases h) (fun _ => h2)
theorem r_nf {o : Op} {j : Nat} {t : Bool} {dj : Tmp} (hj : (ops[j]?).bind (·.dst) = some dj) (hc : rdO (Fs i) S (.tmp dj) = some (vB t)) (ht : t = true) (hw : (Fs i).sw d = true)
    (h2 : runX Fs P T cf ops (i + 1) rest (S.put d (some (.tup []))) K) : runX Fs P T cf ops i (⟨some d, o, ty, pos, af, some (j, false)⟩ :: rest) S K :=
  r_guard hj hc hw (fun h => by subst ht; cases h) (fun _ => h2)
/-- Both ways. -/
theorem r_bt {o : Op} {j : Nat} {t : Bool} {dj : Tmp} (hj : (ops[j]?).bind (·.dst) = some dj) (hc : rdO (Fs i) S (.tmp dj) = some (vB t)) (hw : (Fs i).sw d = true)
    (h1 : t = true → runA Fs P T cf ops i ⟨some d, o, ty, pos, af, some (j, true)⟩ rest S K) (h2 : t = false → runX Fs P T cf ops (i + 1) rest (S.put d (some (.tup []))) K) : runX Fs P T cf ops i (⟨some d, o, ty, pos, af, some (j, true)⟩ :: rest) S K :=
  r_guard hj hc hw h1 h2
theorem r_bf {o : Op} {j : Nat} {t : Bool} {dj : Tmp} (hj : (ops[j]?).bind (·.dst) = some dj) (hc : rdO (Fs i) S (.tmp dj) = some (vB t)) (hw : (Fs i).sw d = true)
    (h1 : t = false → runA Fs P T cf ops i ⟨some d, o, ty, pos, af, some (j, false)⟩ rest S K) (h2 : t = true → runX Fs P T cf ops (i + 1) rest (S.put d (some (.tup []))) K) : runX Fs P T cf ops i (⟨some d, o, ty, pos, af, some (j, false)⟩ :: rest) S K :=
  r_guard hj hc hw h1 h2
/-- Truth values compared. -/
def cmpB (o : BinOp) (m n : Bool) : Option Bool := match o with
  | .eql => some (m == n)
  | .neq => some (m != n)
  | _ => none
theorem r_cmpB {o : BinOp} {t yt : TypeId} {m n : Bool} {q : Bool} (hx : rdV (Fs i) S x = some (.bool m)) (hy : rdV (Fs i) S y = some (.bool n)) (hq : cmpB o m n = some q) (he : ∀ w, (Op.equal t (.bool m) (.bool n)).run P w = .ok (m == n) w) (hw : (Fs i).sw d = true) (k : runX Fs P T cf ops (i + 1) rest (S.put d (some (vB q))) K) :
    runA Fs P T cf ops i ⟨some d, .binOp o t x y yt, ty, pos, af, g⟩ rest S K := by
  refine r_pure2 hx hy (r := .bool q) (fun w => ?_) rfl hw k
  have e := he w
  cases o <;> simp only [cmpB, Option.some.injEq] at hq <;> first | (cases hq; done) | skip
  · subst hq
    simp [eqGuard, binOp, e]
  · subst hq
    simp [eqGuard, binOp, e, bne]
theorem r_nilCheck {j r off : Nat} {e : Ent} (hx : rdO (Fs i) S x = some (.g (.one (.ptr j r off)))) (her : (Fs i).er j = true) (hG : S.G j = some (r, e)) (hw : (Fs i).sw d = true)
    (k : runX Fs P T cf ops (i + 1) rest (S.put d (some (.g (.one (.ptr j r off))))) K) : runA Fs P T cf ops i ⟨some d, .nilCheck x, ty, pos, af, g⟩ rest S K :=
  getO_of hx (getE_of her hG (need_of rfl (putD_of hw k)))
theorem r_nilCheck_rp {l : List Value} (hx : rdO (Fs i) S x = some (.g (.one (.rp l)))) (hw : (Fs i).sw d = true)
    (k : runX Fs P T cf ops (i + 1) rest (S.put d (some (.g (.one (.rp l))))) K) : runA Fs P T cf ops i ⟨some d, .nilCheck x, ty, pos, af, g⟩ rest S K :=
  getO_of hx (putD_of hw k)
def rdVo (F : Ft) (S : St) : Option Operand → Option (Option Value)
  | none => some none
  | some x => match rdV F S x with
    | some v => some (some v)
    | none => none
theorem getVo_of {k : Option Value → AM} {v : Option Value} : ∀ (x : Option Operand), rdVo F S x = some v → (k v).run F S K → (getVo x k).run F S K
  | none, h, hk => by cases h; exact hk
  | some x, h, hk => by
    simp only [rdVo] at h
    split at h
    · rename_i u hu
      cases h
      exact getV_of (k := fun a => k (some a)) hu hk
    · cases h
/-- A slice of a read-only slice. -/
theorem r_slice_ro {t e z n by' : Nat} {agg : Bool} {l : List Value} {lo hi mx : Option Operand} {lv hv mv : Option Value} {p q m : Int} (hx : rdO (Fs i) S x = some (.g (.one (.ro z n l))))
    (hlo : rdVo (Fs i) S lo = some lv) (hhi : rdVo (Fs i) S hi = some hv) (hmx : rdVo (Fs i) S mx = some mv) (he : find1 T.elt t = some (none, e, agg, z, by'))
    (h1 : lo0 lv = some p) (h2 : hi0 n hv = some q) (h3 : hi0 n mv = some m) (h4 : 0 ≤ p ∧ p ≤ q ∧ q ≤ m ∧ m ≤ n) (h5 : hv = none → mv = none) (hw : (Fs i).sw d = true)
    (k : runX Fs P T cf ops (i + 1) rest (S.put d (some (.g (.one (.ro z (q - p).toNat ((l.drop (p.toNat * z)).take ((q - p).toNat * z))))))) K) : runA Fs P T cf ops i ⟨some d, .slice t x lo hi mx, ty, pos, af, g⟩ rest S K := by
  have e1 : (orFail (find1 T.elt t) fun (arr, e, agg, sz, _) => orFail (lo0 lv) fun l' => orFail (hi0 n hv) fun h => orFail (hi0 n mv) fun m => .need (arr = none ∧ z = sz ∧ 0 ≤ l' ∧ l' ≤ h ∧ h ≤ m ∧ m ≤ n ∧ (hv = none → mv = none)) (putD (some d) (.g (.one (.ro z (h - l').toNat ((l.drop (l'.toNat * sz)).take ((h - l').toNat * sz))))))).run (Fs i) S (fun S' => runX Fs P T cf ops (i + 1) rest S' K) :=
    orFail_of he (orFail_of h1 (orFail_of h2 (orFail_of h3 (need_of ⟨rfl, rfl, h4.1, h4.2.1, h4.2.2.1, h4.2.2.2, h5⟩ (putD_of hw k)))))
  exact getO_of hx (getVo_of lo hlo (getVo_of hi hhi (getVo_of mx hmx e1)))
theorem r_slice_sl {t e z n by' r j : Nat} {agg : Bool} {e' : Option TypeId} {l : List Value} {lo hi mx : Option Operand} {lv hv mv : Option Value} {p q m : Int} (hx : rdO (Fs i) S x = some (.g (.one (.sl j r n))))
    (hlo : rdVo (Fs i) S lo = some lv) (hhi : rdVo (Fs i) S hi = some hv) (hmx : rdVo (Fs i) S mx = some mv) (he : find1 T.elt t = some (none, e, agg, z, by')) (her : (Fs i).er j = true) (hew : (Fs i).ew j = true) (hG : S.G j = some (r, .row e' z l)) (hj : Nat.blt j 100000 = true)
    (h1 : lo0 lv = some p) (h2 : hi0 n hv = some q) (h3 : hi0 n mv = some m) (h4 : 0 ≤ p ∧ p ≤ q ∧ q ≤ m ∧ m ≤ n ∧ n * z ≤ l.length) (h5 : hv = none → mv = none) (h6 : lv.isSome = true) (hw : (Fs i).sw d = true)
    (k : runX Fs P T cf ops (i + 1) rest ((S.lay j (some (r, .fro z l))).put d (some (.g (.one (.ro z (q - p).toNat ((l.drop (p.toNat * z)).take ((q - p).toNat * z))))))) K) : runA Fs P T cf ops i ⟨some d, .slice t x lo hi mx, ty, pos, af, g⟩ rest S K := by
  refine getO_of hx (getVo_of lo hlo (getVo_of hi hhi (getVo_of mx hmx (orFail_of he (orFail_of h1 (orFail_of h2 (orFail_of h3 (getE_of her hG (need_of ⟨rfl, rfl, rfl, h4.2.2.2.2, h4.1, h4.2.1, h4.2.2.1, h4.2.2.2.1, h5⟩ ?_)))))))))
  cases lv <;> cases mv <;> simp at h6 <;> exact need_of (blt_lt hj) ⟨hew, putD_of hw k⟩
/-- The beginning of an own slice, with no more room. -/
theorem r_slice_clip {t e z n by' r j : Nat} {agg : Bool} {e' : Option TypeId} {l : List Value} {hi : Option Operand} {mx : Operand} {hv : Option Value} {m : Value} {q mq : Int} (hx : rdO (Fs i) S x = some (.g (.one (.sl j r n))))
    (hhi : rdVo (Fs i) S hi = some hv) (hmx : rdV (Fs i) S mx = some m) (he : find1 T.elt t = some (none, e, agg, z, by')) (her : (Fs i).er j = true) (hew : (Fs i).ew j = true) (hG : S.G j = some (r, .row e' z l))
    (h2 : hi0 n hv = some q) (h3 : hi0 n (some m) = some mq) (h4 : 0 ≤ q ∧ q ≤ mq ∧ mq ≤ n ∧ n * z ≤ l.length) (h5 : hv.isSome = true) (hw : (Fs i).sw d = true)
    (k : runX Fs P T cf ops (i + 1) rest ((S.lay j (some (r + 1, .row e' z (l.take (q.toNat * z))))).put d (some (.g (.one (.sl j (r + 1) q.toNat))))) K) : runA Fs P T cf ops i ⟨some d, .slice t x none hi (some mx), ty, pos, af, g⟩ rest S K := by
  refine getO_of hx (getVo_of (v := none) none rfl (getVo_of hi hhi (getVo_of (v := some m) (some mx) (by simp only [rdVo, hmx]) (orFail_of he (orFail_of (a := 0) rfl (orFail_of h2 (orFail_of h3 (getE_of her hG (need_of ⟨rfl, rfl, rfl, h4.2.2.2, Int.le_refl 0, h4.1, h4.2.1, h4.2.2.1, fun h => by rw [h] at h5; cases h5⟩ ?_)))))))))
  exact ⟨hew, putD_of hw k⟩
/-- The beginning of an own slice. -/
theorem r_slice_to {t e z n by' r j : Nat} {agg : Bool} {e' : Option TypeId} {l : List Value} {hi : Option Operand} {hv : Option Value} {q : Int} (hx : rdO (Fs i) S x = some (.g (.one (.sl j r n))))
    (hhi : rdVo (Fs i) S hi = some hv) (he : find1 T.elt t = some (none, e, agg, z, by')) (her : (Fs i).er j = true) (hG : S.G j = some (r, .row e' z l))
    (h2 : hi0 n hv = some q) (h4 : 0 ≤ q ∧ q ≤ n ∧ n * z ≤ l.length) (hw : (Fs i).sw d = true)
    (k : runX Fs P T cf ops (i + 1) rest (S.put d (some (.g (.one (.sl j r q.toNat))))) K) : runA Fs P T cf ops i ⟨some d, .slice t x none hi none, ty, pos, af, g⟩ rest S K := by
  refine getO_of hx (getVo_of (v := none) none rfl (getVo_of hi hhi (getVo_of (v := none) none rfl (orFail_of he (orFail_of (a := 0) rfl (orFail_of h2 (orFail_of (a := (n : Int)) rfl (getE_of her hG (need_of ⟨rfl, rfl, rfl, h4.2.2, Int.le_refl 0, h4.1, h4.2.1, Int.le_refl _, fun _ => rfl⟩ ?_)))))))))
  exact putD_of hw k
/-- Plain work whose answer does not hang on the world. -/
theorem exr_of {s : Sem Value} {r : Value} (hr : ∀ w, s.run P w = .ok r w) (hok : okv r = true) (hw : (Fs i).sw d = true) (k : runX Fs P T cf ops (i + 1) rest (S.put d (some (ofv r))) K) : (exr P s (some d)).run (Fs i) S (fun S' => runX Fs P T cf ops (i + 1) rest S' K) := ⟨r, ⟨hok, hr⟩, putD_of hw k⟩
theorem r_convert {s t : TypeId} {u r : Value} (hx : rdV (Fs i) S x = some u) (hr : ∀ w, (convert s t u).run P w = .ok r w) (hok : okv r = true) (hw : (Fs i).sw d = true) (k : runX Fs P T cf ops (i + 1) rest (S.put d (some (ofv r))) K) :
    runA Fs P T cf ops i ⟨some d, .convert s t x, ty, pos, af, g⟩ rest S K := getV_of hx (exr_of hr hok hw k)
theorem r_index {t : TypeId} {u v r : Value} (hx : rdV (Fs i) S x = some u) (hy : rdV (Fs i) S y = some v) (hr : ∀ w, (Instr.index t u v).run P w = .ok r w) (hok : okv r = true) (hw : (Fs i).sw d = true) (k : runX Fs P T cf ops (i + 1) rest (S.put d (some (ofv r))) K) :
    runA Fs P T cf ops i ⟨some d, .index t x y, ty, pos, af, g⟩ rest S K := getV_of hx (getV_of hy (exr_of hr hok hw k))
/-- The call of a function whose result is left. -/
theorem r_call0 {l : CfL} {f : FuncId} {C : Fn3} {ws : List Nat} {al : Bool} {args : Array Operand} {ts : Array TypeId} {aa args' : List AV} {ids : List (Nat × Nat)} {es es' : List Ent} {vw : List Nat} {q : Prop} {out : AV} {S1 S2 : St}
    (hf : find1 l f = some (C, ws, al)) (ha : rdL (Fs i) S args.toList = some aa) (hfz : (bif al then frzF (Fs i) (cellsL aa) S else some S) = some S1) (hn : nrmLf (Fs i) S1 (fun p => ws.any (Nat.beq p)) 0 aa [] [] [] = some (args', ids, es, vw, q)) (hB : callB ids vw al 0 = true) (hC : C args' es = some (out, [], es')) (hro : roB al out [] es' = true)
    (hbk : backF (Fs i) S1 ids es es' = some S2) (hq : q) (k : runX Fs P T (cfOf l) ops (i + 1) rest S2 K) :
    runA Fs P T (cfOf l) ops i ⟨none, .call { callee := .value (.func f), args := args, argTypes := ts }, ty, pos, af, g⟩ rest S K := by
  have h : (getL args.toList fun ls => orFail (cfOf l f) fun m => m (ls ++ List.map (fun p => (.g (.one (.ptr p.1 p.2 0)) : AV)) ([] : List (Nat × Nat))) none).run (Fs i) S (fun S' => runX Fs P T (cfOf l) ops (i + 1) rest S' K) := by
    refine getL_of _ ha (orFail_of (a := callM C (fun p => ws.any (Nat.beq p)) al) (by unfold cfOf; rw [hf]) ?_)
    rw [List.map_nil, List.append_nil]
    exact call_of (dst := none) hfz hn hB hC hro rfl hbk (rs := []) (S3 := S2) rfl hq k
  exact h
theorem enters_of {f : FuncId} {fn : Func} {c : Code} (hf : P.funcs[f]? = some fn) (hb : fn.body = some c) (hn : (fn.name == "runtime.NumGoroutine") = false) (args : Array Value) (w : World) : (callFunc f args).run P w = .ok (.enter f args) w := by
  have hn2 : ¬ fn.name = "runtime.NumGoroutine" := by simpa using hn
  simp [callFunc, hf, hb, hn2]
/-- A contract by arguments' shapes: A g is handed over, R g is given back. -/
noncomputable def cOf {σ : Type} (A : σ → List AV × List Ent) (R : σ → AV × List Ent × List Ent) : Fn3 := fun aa es => open Classical in if h : ∃ g, A g = (aa, es) then some (R h.choose) else none
theorem cOf_some {σ : Type} {A : σ → List AV × List Ent} {R : σ → AV × List Ent × List Ent} {aa : List AV} {es : List Ent} {out : AV} {news es' : List Ent} (h : cOf A R aa es = some (out, news, es')) : ∃ g, aa = (A g).1 ∧ es = (A g).2 ∧ out = (R g).1 ∧ news = (R g).2.1 ∧ es' = (R g).2.2 := by
  unfold cOf at h
  split at h
  · rename_i hx
    have h1 := hx.choose_spec
    simp only [Option.some.injEq] at h
    exact ⟨hx.choose, by rw [h1], by rw [h1], by rw [h], by rw [h], by rw [h]⟩
  · cases h
theorem cOf_at {σ : Type} {A : σ → List AV × List Ent} {R : σ → AV × List Ent × List Ent} (hA : ∀ g g', A g = A g' → R g = R g') (g : σ) : cOf A R (A g).1 (A g).2 = some (R g) := by
  unfold cOf
  have hx : ∃ g', A g' = ((A g).1, (A g).2) := ⟨g, rfl⟩
  rw [dif_pos hx, hA hx.choose g hx.choose_spec]
theorem con_cOf {σ : Type} {A : σ → List AV × List Ent} {R : σ → AV × List Ent × List Ent} (hT : TabOk P T) {f : FuncId} {fn : Func} {c : Code} (hf : P.funcs[f]? = some fn) (hb : fn.body = some c) (hn : (fn.name == "runtime.NumGoroutine") = false)
    (h : ∀ g, (∀ a ∈ (A g).1, a.fit) → (∀ e ∈ (A g).2, e.fit) → Nat.ble (A g).1.length fn.ntmps = true ∧ (R g).2.2.length = (A g).2.length ∧ AW P fn.ntmps c (retK T fn.results (R g).1 (R g).2.1 (R g).2.2) ⟨argsE (A g).1, Gin (A g).2⟩) : ConOk P f (cOf A R) := by
  refine con_fn hT hf hb (enters_of hf hb hn) fun aa es out news es' hC hfa hfe => ?_
  obtain ⟨g, rfl, rfl, rfl, rfl, rfl⟩ := cOf_some hC
  exact h g hfa hfe
theorem aw_ct {o : Operand} {b : Bool} {nt : Nat} {x y : Code} {KE : Exit → St → Prop} (hb : evalO S o = some (.g (.one (.v (.bool b))))) (h : b = true) (ht : AW P nt x KE S) : AW P nt (.cond o x y) KE S :=
  aw_cond hb (fun _ => ht) (fun h' => by rw [h] at h'; cases h')
theorem aw_cf {o : Operand} {b : Bool} {nt : Nat} {x y : Code} {KE : Exit → St → Prop} (hb : evalO S o = some (.g (.one (.v (.bool b))))) (h : b = false) (ht : AW P nt y KE S) : AW P nt (.cond o x y) KE S :=
  aw_cond hb (fun h' => by rw [h] at h'; cases h') (fun _ => ht)
/-- Are all contracts of a list kept? -/
def LOk (P : Program) (l : CfL) : Prop := ∀ p ∈ l, ConOk P p.1 p.2.1
theorem LOk.nil : LOk P [] := fun p hp => by cases hp
theorem LOk.cons {f : Nat} {C : Fn3} {ws : List Nat} {al : Bool} {l : CfL} (h : ConOk P f C) (hl : LOk P l) : LOk P ((f, (C, ws, al)) :: l) := fun p hp => by
  rcases List.mem_cons.1 hp with rfl | hp
  · exact h
  · exact hl p hp
theorem LOk.ok {l : CfL} (h : LOk P l) : ∀ f m, cfOf l f = some m → GoodCall P f m := cfOf_ok h
/-- New blocks of a call, none of which was there before. -/
def newF0 (F : Ft) (d : Nat) : Nat → List Ent → St → Option St
  | _, [], S => some S
  | j, e :: es, S => bif e.liveB && e.on (fun _ => false) && Nat.blt j 16 && Nat.blt (nid d j) 100000 && F.er (nid d j) && F.ew (nid d j) then
      (match S.G (nid d j) with
        | none => newF0 F d (j + 1) es (S.lay (nid d j) (some (0, e)))
        | _ => none) else none
theorem newF0_ok {d : Nat} : ∀ (es : List Ent) {j : Nat} {S S' : St}, newF0 F d j es S = some S' → newF F d j es S = some (List.replicate es.length 0, S')
  | [], j, S, S', h => by cases h; rfl
  | e :: es, j, S, S', h => by
    simp only [newF0] at h
    simp only [newF]
    split at h
    · cases hc : (e.liveB && e.on (fun _ => false) && Nat.blt j 16 && Nat.blt (nid d j) 100000 && F.er (nid d j) && F.ew (nid d j)) with
      | false => rw [hc] at h; cases h
      | true =>
        rw [hc] at h
        simp only [cond_true] at h ⊢
        rename_i hG
        have hv : nver S (nid d j) = 0 := by unfold nver; rw [hG]
        rw [hv, newF0_ok es h]
        rfl
    · cases hc : (e.liveB && e.on (fun _ => false) && Nat.blt j 16 && Nat.blt (nid d j) 100000 && F.er (nid d j) && F.ew (nid d j)) with
      | false => rw [hc] at h; cases h
      | true => rw [hc] at h; cases h
/-- Names of blocks in a call's result. -/
def renC (ids : List (Nat × Nat)) (d : Nat) : AC → Option AC
  | .sl i r n => bif Nat.ble 100000 i then (match ids[i - 100000]? with
    | some (a, b) => some (.sl a b n)
    | none => none) else some (.sl (nid d i) 0 n)
  | .ptr i r o => bif Nat.ble 100000 i then (match ids[i - 100000]? with
    | some (a, b) => some (.ptr a b o)
    | none => none) else some (.ptr (nid d i) 0 o)
  | .fn f [] => some (.fn f [])
  | .fn _ _ => none
  | .v x => some (.v x)
  | .ro z n l => some (.ro z n l)
  | .rp l => some (.rp l)
def renCs (ids : List (Nat × Nat)) (d : Nat) : List AC → Option (List AC)
  | [] => some []
  | c :: l => match renC ids d c, renCs ids d l with
    | some c', some l' => some (c' :: l')
    | _, _ => none
def renG (ids : List (Nat × Nat)) (d : Nat) : AG → Option AG
  | .one c => match renC ids d c with
    | some c' => some (.one c')
    | none => none
  | .agg cs => match renCs ids d cs with
    | some cs' => some (.agg cs')
    | none => none
def renGs (ids : List (Nat × Nat)) (d : Nat) : List AG → Option (List AG)
  | [] => some []
  | c :: l => match renG ids d c, renGs ids d l with
    | some c', some l' => some (c' :: l')
    | _, _ => none
def renV (ids : List (Nat × Nat)) (d : Nat) : AV → Option AV
  | .g x => match renG ids d x with
    | some x' => some (.g x')
    | none => none
  | .tup xs => match renGs ids d xs with
    | some xs' => some (.tup xs')
    | none => none
def renS (ids : List (Nat × Nat)) (d m : Nat) (i : Nat) : Nat × Nat := if 100000 ≤ i then (ids[i - 100000]?).getD (0, 0) else (nid d i, ((List.replicate m 0)[i]?).getD 0)
theorem renS_ge {ids : List (Nat × Nat)} {d m i : Nat} (h : Nat.ble 100000 i = true) : renS ids d m i = (ids[i - 100000]?).getD (0, 0) := by
  unfold renS; rw [if_pos (Nat.le_of_ble_eq_true h)]
theorem renS_lt {ids : List (Nat × Nat)} {d m i : Nat} (h : Nat.ble 100000 i = false) : renS ids d m i = (nid d i, 0) := by
  have h' : ¬ 100000 ≤ i := fun hc => by rw [Nat.ble_eq_true_of_le hc] at h; cases h
  unfold renS; rw [if_neg h']
  congr 1
  rw [List.getElem?_replicate]
  split <;> rfl
theorem renC_ok {ids : List (Nat × Nat)} {d m : Nat} {c c' : AC} (h : renC ids d c = some c') : c.ren (renS ids d m) = c' := by
  cases c with
  | sl i r n =>
    simp only [renC] at h
    cases hb : Nat.ble 100000 i with
    | true =>
      rw [hb] at h
      simp only [cond_true] at h
      split at h
      · rename_i a b hi
        cases h
        simp only [AC.ren, renS_ge hb, hi, Option.getD_some]
      · cases h
    | false =>
      rw [hb] at h
      cases h
      simp only [AC.ren, renS_lt hb]
  | ptr i r o =>
    simp only [renC] at h
    cases hb : Nat.ble 100000 i with
    | true =>
      rw [hb] at h
      simp only [cond_true] at h
      split at h
      · rename_i a b hi
        cases h
        simp only [AC.ren, renS_ge hb, hi, Option.getD_some]
      · cases h
    | false =>
      rw [hb] at h
      cases h
      simp only [AC.ren, renS_lt hb]
  | fn f caps => cases caps with
    | nil => cases h; rfl
    | cons _ _ => cases h
  | v x => cases h; rfl
  | ro z n l => cases h; rfl
  | rp l => cases h; rfl
theorem renCs_ok {ids : List (Nat × Nat)} {d m : Nat} : ∀ {l l' : List AC}, renCs ids d l = some l' → l.map (·.ren (renS ids d m)) = l'
  | [], l', h => by cases h; rfl
  | c :: l, l', h => by
    simp only [renCs] at h
    split at h
    · rename_i c1 l1 h1 h2
      cases h
      rw [List.map_cons, renC_ok h1, renCs_ok h2]
    · cases h
theorem renG_ok {ids : List (Nat × Nat)} {d m : Nat} {x x' : AG} (h : renG ids d x = some x') : x.ren (renS ids d m) = x' := by
  cases x with
  | one c =>
    simp only [renG] at h
    split at h
    · rename_i c1 h1
      cases h
      simp only [AG.ren, renC_ok h1]
    · cases h
  | agg cs =>
    simp only [renG] at h
    split at h
    · rename_i c1 h1
      cases h
      simp only [AG.ren, renCs_ok h1]
    · cases h
theorem renGs_ok {ids : List (Nat × Nat)} {d m : Nat} : ∀ {l l' : List AG}, renGs ids d l = some l' → l.map (·.ren (renS ids d m)) = l'
  | [], l', h => by cases h; rfl
  | c :: l, l', h => by
    simp only [renGs] at h
    split at h
    · rename_i c1 l1 h1 h2
      cases h
      rw [List.map_cons, renG_ok h1, renGs_ok h2]
    · cases h
theorem renV_ok {ids : List (Nat × Nat)} {d m : Nat} {x x' : AV} (h : renV ids d x = some x') : resV x ids (List.replicate m 0) d = x' := by
  have : x.ren (renS ids d m) = x' := by
    cases x with
    | g x =>
      simp only [renV] at h
      split at h
      · rename_i c1 h1
        cases h
        simp only [AV.ren, renG_ok h1]
      · cases h
    | tup xs =>
      simp only [renV] at h
      split at h
      · rename_i c1 h1
        cases h
        simp only [AV.ren, renGs_ok h1]
      · cases h
  exact this
/-- A call of a function; its new blocks were not there before. -/
theorem r_callN {l : CfL} {f : FuncId} {C : Fn3} {ws : List Nat} {al : Bool} {args : Array Operand} {ts : Array TypeId} {aa args' : List AV} {ids : List (Nat × Nat)} {es news es' : List Ent} {vw : List Nat} {q : Prop} {out : AV} {S1 S2 S3 : St} {v : AV}
    (hf : find1 l f = some (C, ws, al)) (ha : rdL (Fs i) S args.toList = some aa) (hfz : (bif al then frzF (Fs i) (cellsL aa) S else some S) = some S1) (hn : nrmLf (Fs i) S1 (fun p => ws.any (Nat.beq p)) 0 aa [] [] [] = some (args', ids, es, vw, q)) (hB : callB ids vw al d = true) (hC : C args' es = some (out, news, es')) (hro : roB al out news es' = true)
    (hbk : backF (Fs i) S1 ids es es' = some S2) (hnw : newF0 (Fs i) d 0 news S2 = some S3) (hv : renV ids d out = some v) (hw : (Fs i).sw d = true) (hq : q) (k : runX Fs P T (cfOf l) ops (i + 1) rest (S3.put d (some v)) K) :
    runA Fs P T (cfOf l) ops i ⟨some d, .call { callee := .value (.func f), args := args, argTypes := ts }, ty, pos, af, g⟩ rest S K :=
  r_call hf ha hfz hn hB hC hro hbk (newF0_ok _ hnw) (renV_ok hv) hw hq k
end
end Go.Proofs.Ytgifhhefcmmdfaa
