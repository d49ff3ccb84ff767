/- The abstract run: calls by any contract that is proved, loops that are laid open, loops whose constants are looked up, returns. No program is named. -/
import Derived.Test.YtgifhhefcmmdfaaAbsV
namespace Go.Proofs.Ytgifhhefcmmdfaa
set_option linter.unusedVariables false
open Go.RowKit

/-- A nil slice told as a slice without elements. -/
def AC.nilz (z : Nat) : AC → AC
  | .v (.slice none 0 0) => if z = 0 then .v (.slice none 0 0) else .ro z 0 []
  | c => c
def AG.nilz (z : Nat) : AG → AG
  | .one c => .one (c.nilz z)
  | .agg cs => .agg (cs.map (AC.nilz z))
def AV.nilz (z : Nat) : AV → AV
  | .g x => .g (x.nilz z)
  | a => a
section
variable {w : World} {β : Nat → Value} {G : Blk} {ok : Nat → Prop} {z : Nat}
theorem nilz_c {c : AC} {y : Value} (h : c.rep w β G ok y) : (c.nilz z).rep w β G ok y := by
  unfold AC.nilz
  split
  · split
    · exact h
    · obtain ⟨rfl, _⟩ := h
      exact ⟨⟨by simp, rfl⟩, none, 0, rfl, Nat.le_refl _, by unfold maxLen; omega, fun h => absurd h (Nat.lt_irrefl _)⟩
  · exact h
theorem nilz_cs {cs : List AC} {vs : Array Value} (h : CsRep w β G ok cs vs) : CsRep w β G ok (cs.map (AC.nilz z)) vs :=
  ⟨by simpa using h.1, fun j c hj => by
    simp only [List.getElem?_map, Option.map_eq_some_iff] at hj
    obtain ⟨c0, h0, rfl⟩ := hj
    obtain ⟨y, hy, hr⟩ := h.2 j c0 h0
    exact ⟨y, hy, nilz_c hr⟩⟩
theorem nilz_a {a : AV} {y : Value} (h : a.rep w β G ok y) : (a.nilz z).rep w β G ok y := by
  cases a with
  | g x =>
    cases x with
    | one c => exact nilz_c h
    | agg cs => obtain ⟨vs, h1, h2⟩ := h; exact ⟨vs, h1, nilz_cs h2⟩
  | tup xs => exact h
theorem nilz_args {as : List AV} {vs : Array Value} (h : ArgsRep w β G ok as vs) : ArgsRep w β G ok (as.map (AV.nilz z)) vs :=
  ⟨by simpa using h.1, fun j a hj => by
    simp only [List.getElem?_map, Option.map_eq_some_iff] at hj
    obtain ⟨a0, h0, rfl⟩ := hj
    obtain ⟨y, hy, hr⟩ := h.2 j a0 h0
    exact ⟨y, hy, nilz_a hr⟩⟩
end
theorem nilz_zero (as : List AV) : as.map (AV.nilz 0) = as := by
  have h1 : ∀ c : AC, c.nilz 0 = c := fun c => by unfold AC.nilz; split <;> simp
  have h2 : (AC.nilz 0) = id := funext h1
  have h3 : ∀ a : AV, a.nilz 0 = a := fun a => by
    cases a with
    | g x => cases x <;> simp [AV.nilz, AG.nilz, h1, h2]
    | tup xs => rfl
  have h4 : (AV.nilz 0) = id := funext h3
  rw [h4, List.map_id]
/-- The same, by reckoning. -/
def nilC (z : Nat) (c : AC) : Option AC := match c with
  | .v (.slice none 0 0) => bif Nat.beq z 0 then some (.v (.slice none 0 0)) else some (.ro z 0 [])
  | c => some c
def nilCs (z : Nat) : List AC → Option (List AC)
  | [] => some []
  | c :: l => match nilC z c, nilCs z l with
    | some c', some l' => some (c' :: l')
    | _, _ => none
def nilA (z : Nat) (a : AV) : Option AV := match a with
  | .g (.one c) => match nilC z c with
    | some c' => some (.g (.one c'))
    | none => none
  | .g (.agg cs) => match nilCs z cs with
    | some cs' => some (.g (.agg cs'))
    | none => none
  | .tup xs => some (.tup xs)
def nilL (z : Nat) : List AV → Option (List AV)
  | [] => some []
  | a :: l => match nilA z a, nilL z l with
    | some a', some l' => some (a' :: l')
    | _, _ => none
theorem nilC_eq {z : Nat} {c c' : AC} (h : nilC z c = some c') : c.nilz z = c' := by
  unfold nilC at h
  unfold AC.nilz
  split at h
  · cases hz : Nat.beq z 0 with
    | true =>
      have := Nat.eq_of_beq_eq_true hz
      subst this
      simpa using h
    | false =>
      have : ¬ z = 0 := fun e => by subst e; cases hz
      simp only [hz, cond_false, Option.some.injEq] at h
      simp only [this, if_false, h]
  · cases h
    rfl
theorem nilCs_eq {z : Nat} : ∀ {l l' : List AC}, nilCs z l = some l' → l.map (AC.nilz z) = l'
  | [], l', h => by cases h; rfl
  | c :: l, l', h => by
    simp only [nilCs] at h
    split at h
    · rename_i c1 l1 h1 h2
      cases h
      rw [List.map_cons, nilC_eq h1, nilCs_eq h2]
    · cases h
theorem nilL_eq {z : Nat} : ∀ {l l' : List AV}, nilL z l = some l' → l.map (AV.nilz z) = l'
  | [], l', h => by cases h; rfl
  | a :: l, l', h => by
    simp only [nilL] at h
    split at h
    · rename_i a1 l1 h1 h2
      cases h
      rw [List.map_cons, nilL_eq h2]
      congr 1
      unfold nilA at h1
      split at h1
      · split at h1
        · rename_i h3
          cases h1
          simp only [AV.nilz, AG.nilz, nilC_eq h3]
        · cases h1
      · split at h1
        · rename_i h3
          cases h1
          simp only [AV.nilz, AG.nilz, nilCs_eq h3]
        · cases h1
      · cases h1; rfl
    · cases h
/-- A function that gives back its slice with no more room. -/
structure IsClip (P : Program) (f : FuncId) : Prop where
  enters : ∀ args w, (callFunc f args).run P w = .ok (.enter f args) w
  does : ∀ A n c w, n ≤ c → c ≤ 9223372036854775807 → Calls P f #[.slice A n c] w fun e w' => e = .returned (.slice A n n) ∧ w = w'
def clipM (args : List AV) (dst : Option Tmp) : AM := match args with
  | [.g (.one (.sl i r n))] => .getE i fun
    | some (r', .row e z l) => .need (r = r' ∧ l.length = n * z ∧ 0 < z) (.putE i (some (r + 1, .row e z l)) (putD dst (.g (.one (.sl i (r + 1) n)))))
    | _ => .fail
  | _ => .fail
theorem clip_good {P : Program} {f : FuncId} (hf : IsClip P f) : GoodCall P f clipM := by
  refine ⟨hf.enters, ?_⟩
  intro F S K as dst h w0 M N b0 nt β w tm vs hd hs hargs
  match as, h, hargs with
  | [.g (.one (.sl i r n))], h, hargs =>
    obtain ⟨_, h⟩ := h
    dsimp only at h
    split at h
    · rename_i r' e z l hG
      obtain ⟨⟨rfl, hl, hz⟩, hew, hk⟩ := h
      obtain ⟨y, hy, hr⟩ := hargs.2 0 _ rfl
      have hvs : vs = #[y] := by
        apply Array.ext
        · rw [hargs.1]; rfl
        · intro j h1 h2
          have : j = 0 := by simp at h2; omega
          subst this
          have := (Array.getElem?_eq_some_iff.1 hy).2
          simpa using this
      subst hvs
      obtain ⟨A, m, cap, q1, q2, rfl⟩ := hs.cur_sl hr hG
      obtain ⟨p0, e2, n2, p1, p2⟩ := hs.ents i r _ hG
      have hnm : n2 = n := by
        have := p2.1
        exact Nat.eq_of_mul_eq_mul_right hz (this.symm.trans hl)
      subst hnm
      rw [q1] at p2
      have hmm : n2 = m ∧ m ≤ cap ∧ cap ≤ 9223372036854775807 := by
        rcases p2.2 with ⟨p3, h0⟩ | ⟨g, cap', cur, p3, p4, p5, p6, p7, p8, p9⟩
        · cases p3; omega
        · cases p3
          unfold maxLen at p7
          exact ⟨rfl, p6, by omega⟩
      obtain ⟨rfl, hc1, hc2⟩ := hmm
      have hblk : ∀ b, blk? (Value.slice A n2 n2) = some b → blk? (β i) = some b := by
        intro b hb
        rw [q1]
        cases A with
        | none => cases hb
        | some a => exact hb
      refine (hf.does A n2 cap w hc1 hc2).mono ?_
      rintro e' w' ⟨rfl, rfl⟩
      obtain ⟨β', h1, h2, h3, h4⟩ := hs.change1 (w' := w) i (r + 1) (.row e z l) (.slice A n2 n2) rfl rfl rfl (Nat.le_refl _)
        (fun r1 e1 hg => by rw [hG] at hg; cases hg; exact ⟨Nat.le_succ _, fun he => by omega⟩)
        (fun k _ _ => rfl)
        (fun b _ hb => ⟨(hs.fresh i r _ b hG trivial (hblk b hb)).1, .inr ⟨r, _, hG, trivial, hblk b hb⟩⟩)
        (fun _ => ⟨_, hG⟩)
        (fun β' G' _ _ hok hold hβ => ⟨p0, e2, n2, p1, by
          rw [hβ]
          refine ⟨hl, ?_⟩
          rcases p2.2 with ⟨p3, hz0⟩ | ⟨g, cap', cur, p3, p4, p5, p6, p7, p8, p9⟩
          · cases p3; exact .inl ⟨rfl, rfl⟩
          · cases p3
            exact .inr ⟨g, n2, cur, rfl, p4, p5, Nat.le_refl _, by omega, Nat.le_trans (Nat.mul_le_mul_right z p6) p8, p9⟩⟩)
      have hrep : AV.rep w β' (S.lay i (some (r + 1, Ent.row e z l))).G (okB w0 N β' (S.lay i (some (r + 1, Ent.row e z l))).G w) (.g (.one (.sl i (r + 1) n2))) (.slice A n2 n2) :=
        ⟨rfl, r + 1, _, upd_same _ _ _, Nat.le_refl _, fun _ => ⟨A, n2, n2, h2, Nat.le_refl _, rfl⟩⟩
      cases dst with
      | none => exact ⟨_, β', _, rfl, hk, h1⟩
      | some d =>
        obtain ⟨_, hk⟩ := hk
        exact ⟨_, β', _, rfl, hk, h1.put (hd d rfl) hrep⟩
    · exact h.elim
/-- Calls by any contract that is kept. -/
noncomputable def cfU (P : Program) : FuncId → Option (List AV → Option Tmp → AM) := fun f => open Classical in if ∃ C, ConOk P f C then
  some (fun args dst => .exv (fun p : Option (Fn3 × List Nat × Bool × Nat) => match p with
    | some p => ConOk P f p.1
    | none => IsClip P f) fun p => match p with
    | some p => callM p.1 (fun q => p.2.1.any (Nat.beq q)) p.2.2.1 (args.map (AV.nilz p.2.2.2)) dst
    | none => clipM args dst) else none
theorem cfU_ok {P : Program} : ∀ f m, cfU P f = some m → GoodCall P f m := by
  intro f m hm
  unfold cfU at hm
  split at hm
  · rename_i hx
    obtain ⟨C, hC⟩ := hx
    cases hm
    refine ⟨hC.enters, ?_⟩
    rintro F S K as dst ⟨p, hp, h⟩ w0 M N b0 nt β w tm vs hd hs ha
    cases p with
    | some p =>
      obtain ⟨C', ws, al, z⟩ := p
      exact (good_of_con hp _ _).does F S K _ dst h w0 M N b0 nt β w tm vs hd hs (nilz_args ha)
    | none => exact (clip_good hp).does F S K _ dst h w0 M N b0 nt β w tm vs hd hs ha
  · cases hm
theorem cfU_clip {P : Program} {F : Ft} {S : St} {K : St → Prop} {f : FuncId} {args : List AV} {dst : Option Tmp} (hf : IsClip P f) (h : (clipM args dst).run F S K) : (orFail (cfU P f) fun m => m args dst).run F S K := by
  unfold cfU
  rw [if_pos ⟨fun _ _ => none, hf.enters, fun as es out news es' h => by cases h⟩]
  exact ⟨none, hf, h⟩
/-- A function, called with these arguments and blocks, gives back this. -/
def Kon (P : Program) (f : FuncId) (aa : List AV) (es : List Ent) (out : AV) (news es' : List Ent) : Prop := ∃ C, ConOk P f C ∧ C aa es = some (out, news, es')
theorem Kon.of {P : Program} {f : FuncId} {C : Fn3} {aa : List AV} {es : List Ent} {out : AV} {news es' : List Ent} (hC : ConOk P f C) (h : C aa es = some (out, news, es')) : Kon P f aa es out news es' := ⟨C, hC, h⟩
theorem kon_mk {P : Program} {T : Tab} (hT : TabOk P T) {f : FuncId} {fn : Func} {c : Code} {aa : List AV} {es : List Ent} {out : AV} {news es' : List Ent} (hf : P.funcs[f]? = some fn) (hb : fn.body = some c) (hn : (fn.name == "runtime.NumGoroutine") = false)
    (hl : Nat.ble aa.length fn.ntmps = true) (hes : es'.length = es.length)
    (h : (∀ a ∈ aa, a.fit) → (∀ e ∈ es, e.fit) → AW P fn.ntmps c (retK T fn.results out news es') ⟨argsE aa, Gin es⟩) : Kon P f aa es out news es' := by
  refine ⟨cOf (fun _ : Unit => (aa, es)) (fun _ => (out, news, es')), con_cOf hT hf hb hn fun _ h1 h2 => ⟨hl, hes, h h1 h2⟩, ?_⟩
  exact cOf_at (A := fun _ : Unit => (aa, es)) (R := fun _ => (out, news, es')) (fun _ _ _ => rfl) ()
/-- Which parameters a function may write through; may its result share memory with what is only read? -/
abbrev WsT := List (Nat × (List Nat × Bool))
def wsOf (t : WsT) (f : Nat) : List Nat × Bool := match find1 t f with
  | some x => x
  | none => ([], false)
section
variable {F : Ft} {S : St}
/-- The turn of a new block, reckoned. -/
def nvO (S : St) (j : Nat) : Option Nat := match S.G j with
  | none => some 0
  | some (r, _) => some (r + 1)
theorem nvO_eq {j r : Nat} (h : nvO S j = some r) : nver S j = r := by
  unfold nvO at h
  unfold nver
  cases hG : S.G j with
  | none => rw [hG] at h; cases h; rfl
  | some p => rw [hG] at h; cases h; rfl
def newFv (F : Ft) (d : Nat) : Nat → List Ent → St → Option (List Nat × St)
  | _, [], S => some ([], S)
  | j, e :: es, S => bif e.liveB && e.on (fun _ => false) && Nat.blt j 16 && Nat.blt (nid d j) 100000 && F.er (nid d j) && F.ew (nid d j) then (match nvO S (nid d j) with
    | some r => match newFv F d (j + 1) es (S.lay (nid d j) (some (r, e))) with
      | some (rs, S') => some (r :: rs, S')
      | none => none
    | none => none) else none
theorem newFv_ok {d : Nat} : ∀ (es : List Ent) {j : Nat} {S : St} {x : List Nat × St}, newFv F d j es S = some x → newF F d j es S = some x
  | [], j, S, x, h => h
  | e :: es, j, S, x, h => by
    simp only [newFv] at h
    simp only [newF]
    cases hc : (e.liveB && e.on (fun _ => false) && Nat.blt j 16 && Nat.blt (nid d j) 100000 && F.er (nid d j) && F.ew (nid d j)) with
    | false => rw [hc] at h; cases h
    | true =>
      rw [hc] at h
      simp only [cond_true] at h ⊢
      split at h
      · rename_i r hr
        rw [nvO_eq hr]
        split at h
        · rename_i rs S' h1
          cases h
          rw [newFv_ok es h1]
        · cases h
      · cases h
/-- Names of blocks in a call's result, at any turn. -/
def renC2 (ids : List (Nat × Nat)) (rs : List Nat) (d : Nat) : AC → Option AC
  | .sl i r n => bif Nat.ble 100000 i then (match ids[i - 100000]? with
    | some (a, b) => some (.sl a b n)
    | none => none) else (match rs[i]? with
    | some q => some (.sl (nid d i) q n)
    | none => none)
  | .ptr i r o => bif Nat.ble 100000 i then (match ids[i - 100000]? with
    | some (a, b) => some (.ptr a b o)
    | none => none) else (match rs[i]? with
    | some q => some (.ptr (nid d i) q o)
    | none => none)
  | .fn f [] => some (.fn f [])
  | .fn _ _ => none
  | .v x => some (.v x)
  | .ro z n l => some (.ro z n l)
  | .rp l => some (.rp l)
def renCs2 (ids : List (Nat × Nat)) (rs : List Nat) (d : Nat) : List AC → Option (List AC)
  | [] => some []
  | c :: l => match renC2 ids rs d c, renCs2 ids rs d l with
    | some c', some l' => some (c' :: l')
    | _, _ => none
def renG2 (ids : List (Nat × Nat)) (rs : List Nat) (d : Nat) : AG → Option AG
  | .one c => match renC2 ids rs d c with
    | some c' => some (.one c')
    | none => none
  | .agg cs => match renCs2 ids rs d cs with
    | some cs' => some (.agg cs')
    | none => none
def renGs2 (ids : List (Nat × Nat)) (rs : List Nat) (d : Nat) : List AG → Option (List AG)
  | [] => some []
  | c :: l => match renG2 ids rs d c, renGs2 ids rs d l with
    | some c', some l' => some (c' :: l')
    | _, _ => none
def renV2 (ids : List (Nat × Nat)) (rs : List Nat) (d : Nat) : AV → Option AV
  | .g x => match renG2 ids rs d x with
    | some x' => some (.g x')
    | none => none
  | .tup xs => match renGs2 ids rs d xs with
    | some xs' => some (.tup xs')
    | none => none
def renS2 (ids : List (Nat × Nat)) (rs : List Nat) (d : Nat) (i : Nat) : Nat × Nat := if 100000 ≤ i then (ids[i - 100000]?).getD (0, 0) else (nid d i, (rs[i]?).getD 0)
theorem renS2_ge {ids : List (Nat × Nat)} {rs : List Nat} {d i : Nat} (h : Nat.ble 100000 i = true) : renS2 ids rs d i = (ids[i - 100000]?).getD (0, 0) := by
  unfold renS2; rw [if_pos (Nat.le_of_ble_eq_true h)]
theorem renS2_lt {ids : List (Nat × Nat)} {rs : List Nat} {d i q : Nat} (h : Nat.ble 100000 i = false) (hq : rs[i]? = some q) : renS2 ids rs d i = (nid d i, q) := by
  have h' : ¬ 100000 ≤ i := fun hc => by rw [Nat.ble_eq_true_of_le hc] at h; cases h
  unfold renS2; rw [if_neg h', hq]; rfl
theorem renC2_ok {ids : List (Nat × Nat)} {rs : List Nat} {d : Nat} {c c' : AC} (h : renC2 ids rs d c = some c') : c.ren (renS2 ids rs d) = c' := by
  cases c with
  | sl i r n =>
    simp only [renC2] at h
    cases hb : Nat.ble 100000 i with
    | true =>
      rw [hb] at h
      simp only [cond_true] at h
      split at h
      · rename_i a b hi
        cases h
        simp only [AC.ren, renS2_ge hb, hi, Option.getD_some]
      · cases h
    | false =>
      rw [hb] at h
      simp only [cond_false] at h
      split at h
      · rename_i q hi
        cases h
        simp only [AC.ren, renS2_lt hb hi]
      · cases h
  | ptr i r o =>
    simp only [renC2] at h
    cases hb : Nat.ble 100000 i with
    | true =>
      rw [hb] at h
      simp only [cond_true] at h
      split at h
      · rename_i a b hi
        cases h
        simp only [AC.ren, renS2_ge hb, hi, Option.getD_some]
      · cases h
    | false =>
      rw [hb] at h
      simp only [cond_false] at h
      split at h
      · rename_i q hi
        cases h
        simp only [AC.ren, renS2_lt hb hi]
      · cases h
  | fn f caps => cases caps with
    | nil => cases h; rfl
    | cons _ _ => cases h
  | v x => cases h; rfl
  | ro z n l => cases h; rfl
  | rp l => cases h; rfl
theorem renCs2_ok {ids : List (Nat × Nat)} {rs : List Nat} {d : Nat} : ∀ {l l' : List AC}, renCs2 ids rs d l = some l' → l.map (·.ren (renS2 ids rs d)) = l'
  | [], l', h => by cases h; rfl
  | c :: l, l', h => by
    simp only [renCs2] at h
    split at h
    · rename_i c1 l1 h1 h2
      cases h
      rw [List.map_cons, renC2_ok h1, renCs2_ok h2]
    · cases h
theorem renG2_ok {ids : List (Nat × Nat)} {rs : List Nat} {d : Nat} {x x' : AG} (h : renG2 ids rs d x = some x') : x.ren (renS2 ids rs d) = x' := by
  cases x with
  | one c =>
    simp only [renG2] at h
    split at h
    · rename_i c1 h1
      cases h
      simp only [AG.ren, renC2_ok h1]
    · cases h
  | agg cs =>
    simp only [renG2] at h
    split at h
    · rename_i c1 h1
      cases h
      simp only [AG.ren, renCs2_ok h1]
    · cases h
theorem renGs2_ok {ids : List (Nat × Nat)} {rs : List Nat} {d : Nat} : ∀ {l l' : List AG}, renGs2 ids rs d l = some l' → l.map (·.ren (renS2 ids rs d)) = l'
  | [], l', h => by cases h; rfl
  | c :: l, l', h => by
    simp only [renGs2] at h
    split at h
    · rename_i c1 l1 h1 h2
      cases h
      rw [List.map_cons, renG2_ok h1, renGs2_ok h2]
    · cases h
theorem renV2_ok {ids : List (Nat × Nat)} {rs : List Nat} {d : Nat} {x x' : AV} (h : renV2 ids rs d x = some x') : resV x ids rs d = x' := by
  have : x.ren (renS2 ids rs d) = x' := by
    cases x with
    | g x =>
      simp only [renV2] at h
      split at h
      · rename_i c1 h1
        cases h
        simp only [AV.ren, renG2_ok h1]
      · cases h
    | tup xs =>
      simp only [renV2] at h
      split at h
      · rename_i c1 h1
        cases h
        simp only [AV.ren, renGs2_ok h1]
      · cases h
  exact this
end
section
variable {P : Program} {T : Tab} {F : Ft} {Fs : Nat → Ft} {i : Nat} {rest : List Oper} {S : St} {K : St → Prop} {ops : Array Oper} {d : Tmp} {x y c : Operand} {a b : AV} {ty : TypeId} {pos : String} {af : Array Edge} {g : Option (Nat × Bool)}
theorem cfU_run {f : FuncId} {C : Fn3} {ws : List Nat} {al : Bool} {args : List AV} {dst : Option Tmp} (z : Nat) (hC : ConOk P f C) (h : (callM C (fun q => ws.any (Nat.beq q)) al (args.map (AV.nilz z)) dst).run F S K) : (orFail (cfU P f) fun m => m args dst).run F S K := by
  unfold cfU
  rw [if_pos ⟨C, hC⟩]
  exact ⟨some ⟨C, ws, al, z⟩, hC, h⟩
end
section
variable {P : Program} {T : Tab} {S : St} {nt : Nat} {c : Code} {KE : Exit → St → Prop}
/-- A loop, laid open: at most n rounds. -/
def RA (P : Program) (nt : Nat) (c : Code) (KE : Exit → St → Prop) : Nat → St → Prop
  | 0, _ => False
  | n + 1, S => AW P nt c (fun e S'' => match e with
    | .normal => RA P nt c KE n S''
    | e => KE e S'') S
def raK (P : Program) (nt : Nat) (c : Code) (KE : Exit → St → Prop) (n : Nat) : Exit → St → Prop
  | .normal, S => RA P nt c KE n S
  | e, S => KE e S
theorem ra_step {n : Nat} (h : AW P nt c (raK P nt c KE n) S) : RA P nt c KE (n + 1) S := h.mono fun e S' hk => by cases e <;> exact hk
theorem aw_unroll (n : Nat) (h : RA P nt c KE n S) : AW P nt (.loop c) KE S :=
  aw_loop (fun g S' => RA P nt c KE g S') id n h fun g S' hg => by
    cases g with
    | zero => exact hg.elim
    | succ g =>
      refine AW.mono (KE := raK P nt c KE g) (hg.mono fun e S' hk => by cases e <;> exact hk) fun e S'' hk => ?_
      cases e with
      | normal => exact ⟨g, hk, Nat.lt_succ_self g⟩
      | _ => exact hk
/-- Slots and blocks, looked up. -/
def rdSlots (S : St) : List Nat → Option (List (Nat × AV))
  | [] => some []
  | k :: ks => match S.E k, rdSlots S ks with
    | some a, some l => some ((k, a) :: l)
    | _, _ => none
def rdBlks (S : St) : List Nat → Option (List (Nat × (Nat × Ent)))
  | [] => some []
  | k :: ks => match S.G k, rdBlks S ks with
    | some a, some l => some ((k, a) :: l)
    | _, _ => none
theorem rdSlots_has : ∀ {ks : List Nat} {l : List (Nat × AV)}, rdSlots S ks = some l → HasE S l
  | [], l, h => by cases h; trivial
  | k :: ks, l, h => by
    simp only [rdSlots] at h
    split at h
    · rename_i a l' h1 h2
      cases h
      exact ⟨h1, rdSlots_has h2⟩
    · cases h
theorem rdBlks_has : ∀ {ks : List Nat} {l : List (Nat × (Nat × Ent))}, rdBlks S ks = some l → HasB S l
  | [], l, h => by cases h; trivial
  | k :: ks, l, h => by
    simp only [rdBlks] at h
    split at h
    · rename_i a l' h1 h2
      cases h
      exact ⟨h1, rdBlks_has h2⟩
    · cases h
theorem HasE.app : ∀ {l l' : List (Nat × AV)}, HasE S l → HasE S l' → HasE S (l ++ l')
  | [], l', _, h' => h'
  | p :: l, l', h, h' => ⟨h.1, HasE.app h.2 h'⟩
theorem HasB.app : ∀ {l l' : List (Nat × (Nat × Ent))}, HasB S l → HasB S l' → HasB S (l ++ l')
  | [], l', _, h' => h'
  | p :: l, l', h, h' => ⟨h.1, HasB.app h.2 h'⟩
def loopK {σ : Type} (KE : Exit → St → Prop) (E : σ → List (Nat × AV)) (G : σ → List (Nat × (Nat × Ent))) (q : σ → Prop) (μ : σ → Nat) (m : Nat) : Exit → St → Prop
  | .normal, S => ∃ g', q g' ∧ Is S (E g') (G g') ∧ μ g' < m
  | e, S => KE e S
/-- A loop: what changes by a value g; what stays is looked up. -/
theorem aw_rd (ks bs : List Nat) {Ec : List (Nat × AV)} {Gc : List (Nat × (Nat × Ent))} {σ : Type} (E : σ → List (Nat × AV)) (G : σ → List (Nat × (Nat × Ent))) (q : σ → Prop) (μ : σ → Nat) (g0 : σ) (hE : rdSlots S ks = some Ec) (hG : rdBlks S bs = some Gc) (hq : q g0)
    (hon : onB (E g0 ++ Ec) (G g0 ++ Gc) = true) (h1 : HasE S (E g0)) (h2 : HasB S (G g0))
    (round : ∀ g, q g → AW P nt c (loopK KE (fun g => E g ++ Ec) (fun g => G g ++ Gc) q μ (μ g)) (ofL (E g ++ Ec) (G g ++ Gc))) : AW P nt (.loop c) KE S :=
  aw_rounds (fun g => E g ++ Ec) (fun g => G g ++ Gc) q μ g0 hq ⟨hon, h1.app (rdSlots_has hE), h2.app (rdBlks_has hG)⟩ fun g hg => (round g hg).mono fun e S'' hk => by cases e <;> exact hk
/-- A slot, told with less. -/
theorem aw_slot (t z : Nat) {c' cc : AC} {q : Prop} {cd : Code} (hE : S.E t = some (.g (.one cc))) (hw : wkC S.G z cc = some (c', q)) (hq : q) (h : AW P nt cd KE (S.put t (some (.g (.one c'))))) : AW P nt cd KE S := fun w0 M N b0 β w tm hs => by
  obtain ⟨h1, h2⟩ := hs.env t _ hE
  have h3 := wkC_ok (ok := fun _ => True) hs hw hq h2
  have h4 := hs.put (i := t) (a := .g (.one c')) h1 h3
  have e : tm.setIfInBounds t (tm.getD t undef) = tm := by
    apply Array.ext
    · simp
    · intro j h5 h6
      by_cases hj : t = j
      · subst hj; simp [h6]
      · rw [Array.getElem_setIfInBounds_ne _ hj]
  rw [e] at h4
  exact h w0 M N b0 β w tm h4
/-- The blocks that a result leads to. -/
def nubP : List (Nat × Nat) → List (Nat × Nat) → List (Nat × Nat)
  | acc, [] => acc
  | acc, p :: l => bif Nat.ble 100000 p.1 || acc.any (fun q => Nat.beq q.1 p.1) then nubP acc l else nubP (acc ++ [p]) l
theorem ret_auto {rs : Array ResultVar} {out : AV} {news es' : List Ent} {xs : List AG} (hx : resL T S rs.toList = some xs) (hB : retB (nubP [] (tupOf xs).refs) (tupOf xs).refs es'.length = true) (ho : (tupOf xs).ren (fun i => (tau (nubP [] (tupOf xs).refs) i, 0)) = out) (hn : HasN S (nubP [] (tupOf xs).refs) news) (he : HasG S 100000 es') : RetOk T rs out news es' S :=
  ret_of _ hx hB ho hn he
theorem vI_of {i : Nat} {m n : Int} (h : S.E i = some (vI m)) (e : m = n) : S.E i = some (vI n) := by rw [h, e]
end
end Go.Proofs.Ytgifhhefcmmdfaa
