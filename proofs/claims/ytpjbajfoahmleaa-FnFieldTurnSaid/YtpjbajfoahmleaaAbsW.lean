/- The abstract run: calls by any contract that is proved, loops that are laid open, loops whose constants are looked up, returns. No program is named. -/
import Derived.Test.YtpjbajfoahmleaaAbsV
namespace Go.Proofs.Ytpjbajfoahmleaa
set_option linter.unusedVariables false
open Go.RowKit

/-- A nil slice told as a slice without elements. -/
def AC.nilz (z : Nat) : AC → AC
  | .v (.slice none 0 0) => if z = 0 then .v (.slice none 0 0) else .ro z 0 []
  | c => c
def AG.nilz (z : Nat) : AG → AG
  | .one c => .one (c.nilz z)
  | .agg cs => .agg (cs.map (AC.nilz z))
def AV.nilz (z : Nat) : AV → AV
  | .g x => .g (x.nilz z)
  | a => a
section
variable {w : World} {β : Nat → Value} {G : Blk} {ok : Nat → Prop} {z : Nat}
theorem nilz_c {c : AC} {y : Value} (h : c.rep w β G ok y) : (c.nilz z).rep w β G ok y := by
  unfold AC.nilz
  split
  · split
    · exact h
    · obtain ⟨rfl, _⟩ := h
      exact ⟨⟨by simp, rfl⟩, none, 0, rfl, Nat.le_refl _, by unfold maxLen; omega, fun h => absurd h (Nat.lt_irrefl _)⟩
  · exact h
theorem nilz_cs {cs : List AC} {vs : Array Value} (h : CsRep w β G ok cs vs) : CsRep w β G ok (cs.map (AC.nilz z)) vs :=
  ⟨by simpa using h.1, fun j c hj => by
    simp only [List.getElem?_map, Option.map_eq_some_iff] at hj
    obtain ⟨c0, h0, rfl⟩ := hj
    obtain ⟨y, hy, hr⟩ := h.2 j c0 h0
    exact ⟨y, hy, nilz_c hr⟩⟩
theorem nilz_a {a : AV} {y : Value} (h : a.rep w β G ok y) : (a.nilz z).rep w β G ok y := by
  cases a with
  | g x =>
    cases x with
    | one c => exact nilz_c h
    | agg cs => obtain ⟨vs, h1, h2⟩ := h; exact ⟨vs, h1, nilz_cs h2⟩
  | tup xs => exact h
theorem nilz_args {as : List AV} {vs : Array Value} (h : ArgsRep w β G ok as vs) : ArgsRep w β G ok (as.map (AV.nilz z)) vs :=
  ⟨by simpa using h.1, fun j a hj => by
    simp only [List.getElem?_map, Option.map_eq_some_iff] at hj
    obtain ⟨a0, h0, rfl⟩ := hj
    obtain ⟨y, hy, hr⟩ := h.2 j a0 h0
    exact ⟨y, hy, nilz_a hr⟩⟩
end
theorem nilz_zero (as : List AV) : as.map (AV.nilz 0) = as := by
  have h1 : ∀ c : AC, c.nilz 0 = c := fun c => by unfold AC.nilz; split <;> simp
  have h2 : (AC.nilz 0) = id := funext h1
  have h3 : ∀ a : AV, a.nilz 0 = a := fun a => by
    cases a with
    | g x => cases x <;> simp [AV.nilz, AG.nilz, h1, h2]
    | tup xs => rfl
  have h4 : (AV.nilz 0) = id := funext h3
  rw [h4, List.map_id]
/-- The same, by reckoning. -/
def nilC (z : Nat) (c : AC) : Option AC := match c with
  | .v (.slice none 0 0) => bif Nat.beq z 0 then some (.v (.slice none 0 0)) else some (.ro z 0 [])
  | c => some c
def nilCs (z : Nat) : List AC → Option (List AC)
  | [] => some []
  | c :: l => match nilC z c, nilCs z l with
    | some c', some l' => some (c' :: l')
    | _, _ => none
def nilA (z : Nat) (a : AV) : Option AV := match a with
  | .g (.one c) => match nilC z c with
    | some c' => some (.g (.one c'))
    | none => none
  | .g (.agg cs) => match nilCs z cs with
    | some cs' => some (.g (.agg cs'))
    | none => none
  | .tup xs => some (.tup xs)
def nilL (z : Nat) : List AV → Option (List AV)
  | [] => some []
  | a :: l => match nilA z a, nilL z l with
    | some a', some l' => some (a' :: l')
    | _, _ => none
theorem nilC_eq {z : Nat} {c c' : AC} (h : nilC z c = some c') : c.nilz z = c' := by
  unfold nilC at h
  unfold AC.nilz
  split at h
  · cases hz : Nat.beq z 0 with
    | true =>
      have := Nat.eq_of_beq_eq_true hz
      subst this
      simpa using h
    | false =>
      have : ¬ z = 0 := fun e => by subst e; cases hz
      simp only [hz, cond_false, Option.some.injEq] at h
      simp only [this, if_false, h]
  · cases h
    rfl
theorem nilCs_eq {z : Nat} : ∀ {l l' : List AC}, nilCs z l = some l' → l.map (AC.nilz z) = l'
  | [], l', h => by cases h; rfl
  | c :: l, l', h => by
    simp only [nilCs] at h
    split at h
    · rename_i c1 l1 h1 h2
      cases h
      rw [List.map_cons, nilC_eq h1, nilCs_eq h2]
    · cases h
theorem nilL_eq {z : Nat} : ∀ {l l' : List AV}, nilL z l = some l' → l.map (AV.nilz z) = l'
  | [], l', h => by cases h; rfl
  | a :: l, l', h => by
    simp only [nilL] at h
    split at h
    · rename_i a1 l1 h1 h2
      cases h
      rw [List.map_cons, nilL_eq h2]
      congr 1
      unfold nilA at h1
      split at h1
      · split at h1
        · rename_i h3
          cases h1
          simp only [AV.nilz, AG.nilz, nilC_eq h3]
        · cases h1
      · split at h1
        · rename_i h3
          cases h1
          simp only [AV.nilz, AG.nilz, nilCs_eq h3]
        · cases h1
      · cases h1; rfl
    · cases h
/-- Calls by any contract that is kept. -/
noncomputable def cfU (P : Program) : FuncId → Option (List AV → Option Tmp → AM) := fun f => open Classical in if ∃ C, ConOk P f C then
  some (fun args dst => .exv (fun p : Fn3 × List Nat × Bool × Nat => ConOk P f p.1) fun p => callM p.1 (fun q => p.2.1.any (Nat.beq q)) p.2.2.1 (args.map (AV.nilz p.2.2.2)) dst) else none
theorem cfU_ok {P : Program} : ∀ f m, cfU P f = some m → GoodCall P f m := by
  intro f m hm
  unfold cfU at hm
  split at hm
  · rename_i hx
    obtain ⟨C, hC⟩ := hx
    cases hm
    refine ⟨hC.enters, ?_⟩
    rintro F S K as dst ⟨⟨C', ws, al, z⟩, hp, h⟩ w0 M N b0 nt β w tm vs hd hs ha
    exact (good_of_con hp _ _).does F S K _ dst h w0 M N b0 nt β w tm vs hd hs (nilz_args ha)
  · cases hm
/-- A function, called with these arguments and blocks, gives back this. -/
def Kon (P : Program) (f : FuncId) (aa : List AV) (es : List Ent) (out : AV) (news es' : List Ent) : Prop := ∃ C, ConOk P f C ∧ C aa es = some (out, news, es')
theorem Kon.of {P : Program} {f : FuncId} {C : Fn3} {aa : List AV} {es : List Ent} {out : AV} {news es' : List Ent} (hC : ConOk P f C) (h : C aa es = some (out, news, es')) : Kon P f aa es out news es' := ⟨C, hC, h⟩
theorem kon_mk {P : Program} {T : Tab} (hT : TabOk P T) {f : FuncId} {fn : Func} {c : Code} {aa : List AV} {es : List Ent} {out : AV} {news es' : List Ent} (hf : P.funcs[f]? = some fn) (hb : fn.body = some c) (hn : (fn.name == "runtime.NumGoroutine") = false)
    (hl : Nat.ble aa.length fn.ntmps = true) (hes : es'.length = es.length)
    (h : (∀ a ∈ aa, a.fit) → (∀ e ∈ es, e.fit) → AW P fn.ntmps c (retK T fn.results out news es') ⟨argsE aa, Gin es⟩) : Kon P f aa es out news es' := by
  refine ⟨cOf (fun _ : Unit => (aa, es)) (fun _ => (out, news, es')), con_cOf hT hf hb hn fun _ h1 h2 => ⟨hl, hes, h h1 h2⟩, ?_⟩
  exact cOf_at (A := fun _ : Unit => (aa, es)) (R := fun _ => (out, news, es')) (fun _ _ _ => rfl) ()
/-- Which parameters a function may write through; may its result share memory with what is only read? -/
abbrev WsT := List (Nat × (List Nat × Bool))
def wsOf (t : WsT) (f : Nat) : List Nat × Bool := match find1 t f with
  | some x => x
  | none => ([], false)
section
variable {F : Ft} {S : St}
/-- The turn of a new block, reckoned. -/
def nvO (S : St) (j : Nat) : Option Nat := match S.G j with
  | none => some 0
  | some (r, _) => some (r + 1)
theorem nvO_eq {j r : Nat} (h : nvO S j = some r) : nver S j = r := by
  unfold nvO at h
  unfold nver
  cases hG : S.G j with
  | none => rw [hG] at h; cases h; rfl
  | some p => rw [hG] at h; cases h; rfl
def newFv (F : Ft) (d : Nat) : Nat → List Ent → St → Option (List Nat × St)
  | _, [], S => some ([], S)
  | j, e :: es, S => bif e.liveB && e.on (fun _ => false) && Nat.blt j 16 && Nat.blt (nid d j) 100000 && F.er (nid d j) && F.ew (nid d j) then (match nvO S (nid d j) with
    | some r => match newFv F d (j + 1) es (S.lay (nid d j) (some (r, e))) with
      | some (rs, S') => some (r :: rs, S')
      | none => none
    | none => none) else none
theorem newFv_ok {d : Nat} : ∀ (es : List Ent) {j : Nat} {S : St} {x : List Nat × St}, newFv F d j es S = some x → newF F d j es S = some x
  | [], j, S, x, h => h
  | e :: es, j, S, x, h => by
    simp only [newFv] at h
    simp only [newF]
    cases hc : (e.liveB && e.on (fun _ => false) && Nat.blt j 16 && Nat.blt (nid d j) 100000 && F.er (nid d j) && F.ew (nid d j)) with
    | false => rw [hc] at h; cases h
    | true =>
      rw [hc] at h
      simp only [cond_true] at h ⊢
      split at h
      · rename_i r hr
        rw [nvO_eq hr]
        split at h
        · rename_i rs S' h1
          cases h
          rw [newFv_ok es h1]
        · cases h
      · cases h
/-- Names of blocks in a call's result, at any turn. -/
def renC2 (ids : List (Nat × Nat)) (rs : List Nat) (d : Nat) : AC → Option AC
  | .sl i r n => bif Nat.ble 100000 i then (match ids[i - 100000]? with
    | some (a, b) => some (.sl a b n)
    | none => none) else (match rs[i]? with
    | some q => some (.sl (nid d i) q n)
    | none => none)
  | .ptr i r o => bif Nat.ble 100000 i then (match ids[i - 100000]? with
    | some (a, b) => some (.ptr a b o)
    | none => none) else (match rs[i]? with
    | some q => some (.ptr (nid d i) q o)
    | none => none)
  | .fn f [] => some (.fn f [])
  | .fn _ _ => none
  | .v x => some (.v x)
  | .ro z n l => some (.ro z n l)
  | .rp l => some (.rp l)
def renCs2 (ids : List (Nat × Nat)) (rs : List Nat) (d : Nat) : List AC → Option (List AC)
  | [] => some []
  | c :: l => match renC2 ids rs d c, renCs2 ids rs d l with
    | some c', some l' => some (c' :: l')
    | _, _ => none
def renG2 (ids : List (Nat × Nat)) (rs : List Nat) (d : Nat) : AG → Option AG
  | .one c => match renC2 ids rs d c with
    | some c' => some (.one c')
    | none => none
  | .agg cs => match renCs2 ids rs d cs with
    | some cs' => some (.agg cs')
    | none => none
def renGs2 (ids : List (Nat × Nat)) (rs : List Nat) (d : Nat) : List AG → Option (List AG)
  | [] => some []
  | c :: l => match renG2 ids rs d c, renGs2 ids rs d l with
    | some c', some l' => some (c' :: l')
    | _, _ => none
def renV2 (ids : List (Nat × Nat)) (rs : List Nat) (d : Nat) : AV → Option AV
  | .g x => match renG2 ids rs d x with
    | some x' => some (.g x')
    | none => none
  | .tup xs => match renGs2 ids rs d xs with
    | some xs' => some (.tup xs')
    | none => none
def renS2 (ids : List (Nat × Nat)) (rs : List Nat) (d : Nat) (i : Nat) : Nat × Nat := if 100000 ≤ i then (ids[i - 100000]?).getD (0, 0) else (nid d i, (rs[i]?).getD 0)
theorem renS2_ge {ids : List (Nat × Nat)} {rs : List Nat} {d i : Nat} (h : Nat.ble 100000 i = true) : renS2 ids rs d i = (ids[i - 100000]?).getD (0, 0) := by
  unfold renS2; rw [if_pos (Nat.le_of_ble_eq_true h)]
theorem renS2_lt {ids : List (Nat × Nat)} {rs : List Nat} {d i q : Nat} (h : Nat.ble 100000 i = false) (hq : rs[i]? = some q) : renS2 ids rs d i = (nid d i, q) := by
  have h' : ¬ 100000 ≤ i := fun hc => by rw [Nat.ble_eq_true_of_le hc] at h; cases h
  unfold renS2; rw [if_neg h', hq]; rfl
theorem renC2_ok {ids : List (Nat × Nat)} {rs : List Nat} {d : Nat} {c c' : AC} (h : renC2 ids rs d c = some c') : c.ren (renS2 ids rs d) = c' := by
  cases c with
  | sl i r n =>
    simp only [renC2] at h
    cases hb : Nat.ble 100000 i with
    | true =>
      rw [hb] at h
      simp only [cond_true] at h
      split at h
      · rename_i a b hi
        cases h
        simp only [AC.ren, renS2_ge hb, hi, Option.getD_some]
      · cases h
    | false =>
      rw [hb] at h
      simp only [cond_false] at h
      split at h
      · rename_i q hi
        cases h
        simp only [AC.ren, renS2_lt hb hi]
      · cases h
  | ptr i r o =>
    simp only [renC2] at h
    cases hb : Nat.ble 100000 i with
    | true =>
      rw [hb] at h
      simp only [cond_true] at h
      split at h
      · rename_i a b hi
        cases h
        simp only [AC.ren, renS2_ge hb, hi, Option.getD_some]
      · cases h
    | false =>
      rw [hb] at h
      simp only [cond_false] at h
      split at h
      · rename_i q hi
        cases h
        simp only [AC.ren, renS2_lt hb hi]
      · cases h
  | fn f caps => cases caps with
    | nil => cases h; rfl
    | cons _ _ => cases h
  | v x => cases h; rfl
  | ro z n l => cases h; rfl
  | rp l => cases h; rfl
theorem renCs2_ok {ids : List (Nat × Nat)} {rs : List Nat} {d : Nat} : ∀ {l l' : List AC}, renCs2 ids rs d l = some l' → l.map (·.ren (renS2 ids rs d)) = l'
  | [], l', h => by cases h; rfl
  | c :: l, l', h => by
    simp only [renCs2] at h
    split at h
    · rename_i c1 l1 h1 h2
      cases h
      rw [List.map_cons, renC2_ok h1, renCs2_ok h2]
    · cases h
theorem renG2_ok {ids : List (Nat × Nat)} {rs : List Nat} {d : Nat} {x x' : AG} (h : renG2 ids rs d x = some x') : x.ren (renS2 ids rs d) = x' := by
  cases x with
  | one c =>
    simp only [renG2] at h
    split at h
    · rename_i c1 h1
      cases h
      simp only [AG.ren, renC2_ok h1]
    · cases h
  | agg cs =>
    simp only [renG2] at h
    split at h
    · rename_i c1 h1
      cases h
      simp only [AG.ren, renCs2_ok h1]
    · cases h
theorem renGs2_ok {ids : List (Nat × Nat)} {rs : List Nat} {d : Nat} : ∀ {l l' : List AG}, renGs2 ids rs d l = some l' → l.map (·.ren (renS2 ids rs d)) = l'
  | [], l', h => by cases h; rfl
  | c :: l, l', h => by
    simp only [renGs2] at h
    split at h
    · rename_i c1 l1 h1 h2
      cases h
      rw [List.map_cons, renG2_ok h1, renGs2_ok h2]
    · cases h
theorem renV2_ok {ids : List (Nat × Nat)} {rs : List Nat} {d : Nat} {x x' : AV} (h : renV2 ids rs d x = some x') : resV x ids rs d = x' := by
  have : x.ren (renS2 ids rs d) = x' := by
    cases x with
    | g x =>
      simp only [renV2] at h
      split at h
      · rename_i c1 h1
        cases h
        simp only [AV.ren, renG2_ok h1]
      · cases h
    | tup xs =>
      simp only [renV2] at h
      split at h
      · rename_i c1 h1
        cases h
        simp only [AV.ren, renGs2_ok h1]
      · cases h
  exact this
end
section
variable {P : Program} {T : Tab} {F : Ft} {Fs : Nat → Ft} {i : Nat} {rest : List Oper} {S : St} {K : St → Prop} {ops : Array Oper} {d : Tmp} {x y c : Operand} {a b : AV} {ty : TypeId} {pos : String} {af : Array Edge} {g : Option (Nat × Bool)}
theorem cfU_run {f : FuncId} {C : Fn3} {ws : List Nat} {al : Bool} {args : List AV} {dst : Option Tmp} (z : Nat) (hC : ConOk P f C) (h : (callM C (fun q => ws.any (Nat.beq q)) al (args.map (AV.nilz z)) dst).run F S K) : (orFail (cfU P f) fun m => m args dst).run F S K := by
  unfold cfU
  rw [if_pos ⟨C, hC⟩]
  exact ⟨⟨C, ws, al, z⟩, hC, h⟩
/-- A call of a function. -/
theorem r_callZ (wt : WsT) (z : Nat) {f : FuncId} {ws : List Nat} {al : Bool} {args : Array Operand} {ts : Array TypeId} {aa ab args' : List AV} {ids : List (Nat × Nat)} {es news es' : List Ent} {vw : List Nat} {q : Prop} {out : AV} {S1 S2 S3 : St} {v : AV} {rs : List Nat}
    (hws : wsOf wt f = (ws, al)) (ha : rdL (Fs i) S args.toList = some aa) (hz : nilL z aa = some ab) (hfz : (bif al then frzF (Fs i) (cellsL ab) S else some S) = some S1) (hn : nrmLf (Fs i) S1 (fun p => ws.any (Nat.beq p)) 0 ab [] [] [] = some (args', ids, es, vw, q)) (hB : callB ids vw al d = true) (hK : Kon P f args' es out news es') (hro : roB al out news es' = true)
    (hbk : backF (Fs i) S1 ids es es' = some S2) (hnw : newFv (Fs i) d 0 news S2 = some (rs, S3)) (hv : renV2 ids rs d out = some v) (hw : (Fs i).sw d = true) (hq : q) (k : runX Fs P T (cfU P) ops (i + 1) rest (S3.put d (some v)) K) :
    runA Fs P T (cfU P) ops i ⟨some d, .call { callee := .value (.func f), args := args, argTypes := ts }, ty, pos, af, g⟩ rest S K := by
  obtain ⟨C, hC, hCe⟩ := hK
  have hz := nilL_eq hz
  subst hz
  have hv' := renV2_ok hv
  subst hv'
  have h : (getL args.toList fun ls => orFail (cfU P f) fun m => m (ls ++ List.map (fun p => (.g (.one (.ptr p.1 p.2 0)) : AV)) ([] : List (Nat × Nat))) (some d)).run (Fs i) S (fun S' => runX Fs P T (cfU P) ops (i + 1) rest S' K) := by
    refine getL_of _ ha ?_
    rw [List.map_nil, List.append_nil]
    exact cfU_run (ws := ws) (al := al) z hC (call_of (dst := some d) hfz hn hB hCe hro (by simp) hbk (newFv_ok _ hnw) hq (putD_of hw k))
  exact h
/-- The call of a function in a variable. -/
theorem r_callZV (wt : WsT) (z : Nat) {f : FuncId} {caps : List (Nat × Nat)} {ws : List Nat} {al : Bool} {args : Array Operand} {ts : Array TypeId} {aa ab args' : List AV} {ids : List (Nat × Nat)} {es news es' : List Ent} {vw : List Nat} {q : Prop} {out : AV} {S1 S2 S3 : St} {v : AV} {rs : List Nat}
    (hc : rdO (Fs i) S c = some (.g (.one (.fn f caps)))) (hws : wsOf wt f = (ws, al)) (ha : rdL (Fs i) S args.toList = some aa) (hz : nilL z (aa ++ caps.map fun p => (.g (.one (.ptr p.1 p.2 0)) : AV)) = some ab) (hfz : (bif al then frzF (Fs i) (cellsL ab) S else some S) = some S1) (hn : nrmLf (Fs i) S1 (fun p => ws.any (Nat.beq p)) 0 ab [] [] [] = some (args', ids, es, vw, q)) (hB : callB ids vw al d = true) (hK : Kon P f args' es out news es') (hro : roB al out news es' = true)
    (hbk : backF (Fs i) S1 ids es es' = some S2) (hnw : newFv (Fs i) d 0 news S2 = some (rs, S3)) (hv : renV2 ids rs d out = some v) (hw : (Fs i).sw d = true) (hq : q) (k : runX Fs P T (cfU P) ops (i + 1) rest (S3.put d (some v)) K) :
    runA Fs P T (cfU P) ops i ⟨some d, .call { callee := .value c, args := args, argTypes := ts }, ty, pos, af, g⟩ rest S K := by
  obtain ⟨C, hC, hCe⟩ := hK
  have hz := nilL_eq hz
  subst hz
  have hv' := renV2_ok hv
  subst hv'
  refine getO_of (k := fun a => match a with
      | .g (.one (.fn f caps)) => getL args.toList fun as => orFail (cfU P f) fun m => m (as ++ caps.map fun p => .g (.one (.ptr p.1 p.2 0))) (some d)
      | _ => .fail) hc ?_
  refine getL_of _ ha ?_
  exact cfU_run (ws := ws) (al := al) z hC (call_of (dst := some d) hfz hn hB hCe hro (by simp) hbk (newFv_ok _ hnw) hq (putD_of hw k))
/-- The call of a function whose result is left. -/
theorem r_callZ0 (wt : WsT) (z : Nat) {f : FuncId} {ws : List Nat} {al : Bool} {args : Array Operand} {ts : Array TypeId} {aa ab args' : List AV} {ids : List (Nat × Nat)} {es es' : List Ent} {vw : List Nat} {q : Prop} {out : AV} {S1 S2 : St}
    (hws : wsOf wt f = (ws, al)) (ha : rdL (Fs i) S args.toList = some aa) (hz : nilL z aa = some ab) (hfz : (bif al then frzF (Fs i) (cellsL ab) S else some S) = some S1) (hn : nrmLf (Fs i) S1 (fun p => ws.any (Nat.beq p)) 0 ab [] [] [] = some (args', ids, es, vw, q)) (hB : callB ids vw al 0 = true) (hK : Kon P f args' es out [] es') (hro : roB al out [] es' = true)
    (hbk : backF (Fs i) S1 ids es es' = some S2) (hq : q) (k : runX Fs P T (cfU P) ops (i + 1) rest S2 K) :
    runA Fs P T (cfU P) ops i ⟨none, .call { callee := .value (.func f), args := args, argTypes := ts }, ty, pos, af, g⟩ rest S K := by
  obtain ⟨C, hC, hCe⟩ := hK
  have hz := nilL_eq hz
  subst hz
  have h : (getL args.toList fun ls => orFail (cfU P f) fun m => m (ls ++ List.map (fun p => (.g (.one (.ptr p.1 p.2 0)) : AV)) ([] : List (Nat × Nat))) none).run (Fs i) S (fun S' => runX Fs P T (cfU P) ops (i + 1) rest S' K) := by
    refine getL_of _ ha ?_
    rw [List.map_nil, List.append_nil]
    exact cfU_run (ws := ws) (al := al) z hC (call_of (dst := none) hfz hn hB hCe hro rfl hbk (rs := []) (S3 := S2) rfl hq k)
  exact h
/-- A call of a function. -/
theorem r_callK (wt : WsT) {f : FuncId} {ws : List Nat} {al : Bool} {args : Array Operand} {ts : Array TypeId} {aa args' : List AV} {ids : List (Nat × Nat)} {es news es' : List Ent} {vw : List Nat} {q : Prop} {out : AV} {S1 S2 S3 : St} {v : AV} {rs : List Nat}
    (hws : wsOf wt f = (ws, al)) (ha : rdL (Fs i) S args.toList = some aa) (hfz : (bif al then frzF (Fs i) (cellsL aa) S else some S) = some S1) (hn : nrmLf (Fs i) S1 (fun p => ws.any (Nat.beq p)) 0 aa [] [] [] = some (args', ids, es, vw, q)) (hB : callB ids vw al d = true) (hK : Kon P f args' es out news es') (hro : roB al out news es' = true)
    (hbk : backF (Fs i) S1 ids es es' = some S2) (hnw : newFv (Fs i) d 0 news S2 = some (rs, S3)) (hv : renV2 ids rs d out = some v) (hw : (Fs i).sw d = true) (hq : q) (k : runX Fs P T (cfU P) ops (i + 1) rest (S3.put d (some v)) K) :
    runA Fs P T (cfU P) ops i ⟨some d, .call { callee := .value (.func f), args := args, argTypes := ts }, ty, pos, af, g⟩ rest S K := by
  obtain ⟨C, hC, hCe⟩ := hK
  have hv' := renV2_ok hv
  subst hv'
  have h : (getL args.toList fun ls => orFail (cfU P f) fun m => m (ls ++ List.map (fun p => (.g (.one (.ptr p.1 p.2 0)) : AV)) ([] : List (Nat × Nat))) (some d)).run (Fs i) S (fun S' => runX Fs P T (cfU P) ops (i + 1) rest S' K) := by
    refine getL_of _ ha ?_
    rw [List.map_nil, List.append_nil]
    exact cfU_run (ws := ws) (al := al) 0 hC (by rw [nilz_zero]; exact call_of (dst := some d) hfz hn hB hCe hro (by simp) hbk (newFv_ok _ hnw) hq (putD_of hw k))
  exact h
/-- The call of a function in a variable. -/
theorem r_callKV (wt : WsT) {f : FuncId} {caps : List (Nat × Nat)} {ws : List Nat} {al : Bool} {args : Array Operand} {ts : Array TypeId} {aa args' : List AV} {ids : List (Nat × Nat)} {es news es' : List Ent} {vw : List Nat} {q : Prop} {out : AV} {S1 S2 S3 : St} {v : AV} {rs : List Nat}
    (hc : rdO (Fs i) S c = some (.g (.one (.fn f caps)))) (hws : wsOf wt f = (ws, al)) (ha : rdL (Fs i) S args.toList = some aa) (hfz : (bif al then frzF (Fs i) (cellsL (aa ++ caps.map fun p => (.g (.one (.ptr p.1 p.2 0)) : AV))) S else some S) = some S1) (hn : nrmLf (Fs i) S1 (fun p => ws.any (Nat.beq p)) 0 (aa ++ caps.map fun p => (.g (.one (.ptr p.1 p.2 0)) : AV)) [] [] [] = some (args', ids, es, vw, q)) (hB : callB ids vw al d = true) (hK : Kon P f args' es out news es') (hro : roB al out news es' = true)
    (hbk : backF (Fs i) S1 ids es es' = some S2) (hnw : newFv (Fs i) d 0 news S2 = some (rs, S3)) (hv : renV2 ids rs d out = some v) (hw : (Fs i).sw d = true) (hq : q) (k : runX Fs P T (cfU P) ops (i + 1) rest (S3.put d (some v)) K) :
    runA Fs P T (cfU P) ops i ⟨some d, .call { callee := .value c, args := args, argTypes := ts }, ty, pos, af, g⟩ rest S K := by
  obtain ⟨C, hC, hCe⟩ := hK
  have hv' := renV2_ok hv
  subst hv'
  refine getO_of (k := fun a => match a with
      | .g (.one (.fn f caps)) => getL args.toList fun as => orFail (cfU P f) fun m => m (as ++ caps.map fun p => .g (.one (.ptr p.1 p.2 0))) (some d)
      | _ => .fail) hc ?_
  refine getL_of _ ha ?_
  exact cfU_run (ws := ws) (al := al) 0 hC (by rw [nilz_zero]; exact call_of (dst := some d) hfz hn hB hCe hro (by simp) hbk (newFv_ok _ hnw) hq (putD_of hw k))
/-- The call of a function whose result is left. -/
theorem r_callK0 (wt : WsT) {f : FuncId} {ws : List Nat} {al : Bool} {args : Array Operand} {ts : Array TypeId} {aa args' : List AV} {ids : List (Nat × Nat)} {es es' : List Ent} {vw : List Nat} {q : Prop} {out : AV} {S1 S2 : St}
    (hws : wsOf wt f = (ws, al)) (ha : rdL (Fs i) S args.toList = some aa) (hfz : (bif al then frzF (Fs i) (cellsL aa) S else some S) = some S1) (hn : nrmLf (Fs i) S1 (fun p => ws.any (Nat.beq p)) 0 aa [] [] [] = some (args', ids, es, vw, q)) (hB : callB ids vw al 0 = true) (hK : Kon P f args' es out [] es') (hro : roB al out [] es' = true)
    (hbk : backF (Fs i) S1 ids es es' = some S2) (hq : q) (k : runX Fs P T (cfU P) ops (i + 1) rest S2 K) :
    runA Fs P T (cfU P) ops i ⟨none, .call { callee := .value (.func f), args := args, argTypes := ts }, ty, pos, af, g⟩ rest S K := by
  obtain ⟨C, hC, hCe⟩ := hK
  have h : (getL args.toList fun ls => orFail (cfU P f) fun m => m (ls ++ List.map (fun p => (.g (.one (.ptr p.1 p.2 0)) : AV)) ([] : List (Nat × Nat))) none).run (Fs i) S (fun S' => runX Fs P T (cfU P) ops (i + 1) rest S' K) := by
    refine getL_of _ ha ?_
    rw [List.map_nil, List.append_nil]
    exact cfU_run (ws := ws) (al := al) 0 hC (by rw [nilz_zero]; exact call_of (dst := none) hfz hn hB hCe hro rfl hbk (rs := []) (S3 := S2) rfl hq k)
  exact h
end
section
variable {P : Program} {T : Tab} {S : St} {nt : Nat} {c : Code} {KE : Exit → St → Prop}
/-- A loop, laid open: at most n rounds. -/
def RA (P : Program) (nt : Nat) (c : Code) (KE : Exit → St → Prop) : Nat → St → Prop
  | 0, _ => False
  | n + 1, S => AW P nt c (fun e S'' => match e with
    | .normal => RA P nt c KE n S''
    | e => KE e S'') S
def raK (P : Program) (nt : Nat) (c : Code) (KE : Exit → St → Prop) (n : Nat) : Exit → St → Prop
  | .normal, S => RA P nt c KE n S
  | e, S => KE e S
theorem ra_step {n : Nat} (h : AW P nt c (raK P nt c KE n) S) : RA P nt c KE (n + 1) S := h.mono fun e S' hk => by cases e <;> exact hk
theorem aw_unroll (n : Nat) (h : RA P nt c KE n S) : AW P nt (.loop c) KE S :=
  aw_loop (fun g S' => RA P nt c KE g S') id n h fun g S' hg => by
    cases g with
    | zero => exact hg.elim
    | succ g =>
      refine AW.mono (KE := raK P nt c KE g) (hg.mono fun e S' hk => by cases e <;> exact hk) fun e S'' hk => ?_
      cases e with
      | normal => exact ⟨g, hk, Nat.lt_succ_self g⟩
      | _ => exact hk
/-- Slots and blocks, looked up. -/
def rdSlots (S : St) : List Nat → Option (List (Nat × AV))
  | [] => some []
  | k :: ks => match S.E k, rdSlots S ks with
    | some a, some l => some ((k, a) :: l)
    | _, _ => none
def rdBlks (S : St) : List Nat → Option (List (Nat × (Nat × Ent)))
  | [] => some []
  | k :: ks => match S.G k, rdBlks S ks with
    | some a, some l => some ((k, a) :: l)
    | _, _ => none
theorem rdSlots_has : ∀ {ks : List Nat} {l : List (Nat × AV)}, rdSlots S ks = some l → HasE S l
  | [], l, h => by cases h; trivial
  | k :: ks, l, h => by
    simp only [rdSlots] at h
    split at h
    · rename_i a l' h1 h2
      cases h
      exact ⟨h1, rdSlots_has h2⟩
    · cases h
theorem rdBlks_has : ∀ {ks : List Nat} {l : List (Nat × (Nat × Ent))}, rdBlks S ks = some l → HasB S l
  | [], l, h => by cases h; trivial
  | k :: ks, l, h => by
    simp only [rdBlks] at h
    split at h
    · rename_i a l' h1 h2
      cases h
      exact ⟨h1, rdBlks_has h2⟩
    · cases h
theorem HasE.app : ∀ {l l' : List (Nat × AV)}, HasE S l → HasE S l' → HasE S (l ++ l')
  | [], l', _, h' => h'
  | p :: l, l', h, h' => ⟨h.1, HasE.app h.2 h'⟩
theorem HasB.app : ∀ {l l' : List (Nat × (Nat × Ent))}, HasB S l → HasB S l' → HasB S (l ++ l')
  | [], l', _, h' => h'
  | p :: l, l', h, h' => ⟨h.1, HasB.app h.2 h'⟩
def loopK {σ : Type} (KE : Exit → St → Prop) (E : σ → List (Nat × AV)) (G : σ → List (Nat × (Nat × Ent))) (q : σ → Prop) (μ : σ → Nat) (m : Nat) : Exit → St → Prop
  | .normal, S => ∃ g', q g' ∧ Is S (E g') (G g') ∧ μ g' < m
  | e, S => KE e S
/-- A loop: what changes by a value g; what stays is looked up. -/
theorem aw_rd (ks bs : List Nat) {Ec : List (Nat × AV)} {Gc : List (Nat × (Nat × Ent))} {σ : Type} (E : σ → List (Nat × AV)) (G : σ → List (Nat × (Nat × Ent))) (q : σ → Prop) (μ : σ → Nat) (g0 : σ) (hE : rdSlots S ks = some Ec) (hG : rdBlks S bs = some Gc) (hq : q g0)
    (hon : onB (E g0 ++ Ec) (G g0 ++ Gc) = true) (h1 : HasE S (E g0)) (h2 : HasB S (G g0))
    (round : ∀ g, q g → AW P nt c (loopK KE (fun g => E g ++ Ec) (fun g => G g ++ Gc) q μ (μ g)) (ofL (E g ++ Ec) (G g ++ Gc))) : AW P nt (.loop c) KE S :=
  aw_rounds (fun g => E g ++ Ec) (fun g => G g ++ Gc) q μ g0 hq ⟨hon, h1.app (rdSlots_has hE), h2.app (rdBlks_has hG)⟩ fun g hg => (round g hg).mono fun e S'' hk => by cases e <;> exact hk
/-- The blocks that a result leads to. -/
def nubP : List (Nat × Nat) → List (Nat × Nat) → List (Nat × Nat)
  | acc, [] => acc
  | acc, p :: l => bif Nat.ble 100000 p.1 || acc.any (fun q => Nat.beq q.1 p.1) then nubP acc l else nubP (acc ++ [p]) l
theorem ret_auto {rs : Array ResultVar} {out : AV} {news es' : List Ent} {xs : List AG} (hx : resL T S rs.toList = some xs) (hB : retB (nubP [] (tupOf xs).refs) (tupOf xs).refs es'.length = true) (ho : (tupOf xs).ren (fun i => (tau (nubP [] (tupOf xs).refs) i, 0)) = out) (hn : HasN S (nubP [] (tupOf xs).refs) news) (he : HasG S 100000 es') : RetOk T rs out news es' S :=
  ret_of _ hx hB ho hn he
theorem vI_of {i : Nat} {m n : Int} (h : S.E i = some (vI m)) (e : m = n) : S.E i = some (vI n) := by rw [h, e]
end
end Go.Proofs.Ytpjbajfoahmleaa
