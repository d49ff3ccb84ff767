/- AbsW, AbsX, AbsY: laid into one text. -/
import Derived.Test.YtnenhckongccgaaGreatDoorQED

/- The abstract run: calls by any contract that is proved, loops that are laid open, loops whose constants are looked up, returns. No program is named. -/
namespace Go.Proofs.YtnenhckongccgaaGreatDoor
set_option linter.unusedVariables false
open Go.RowKit

/-- A nil slice told as a slice without elements. -/
def AC.nilz (z : Nat) : AC → AC
  | .v (.slice none 0 0) => if z = 0 then .v (.slice none 0 0) else .ro z 0 []
  | c => c
def AG.nilz (z : Nat) : AG → AG
  | .one c => .one (c.nilz z)
  | .agg cs => .agg (cs.map (AC.nilz z))
def AV.nilz (z : Nat) : AV → AV
  | .g x => .g (x.nilz z)
  | a => a
section
variable {w : World} {β : Nat → Value} {G : Blk} {ok : Nat → Prop} {z : Nat}
theorem nilz_c {c : AC} {y : Value} (h : c.rep w β G ok y) : (c.nilz z).rep w β G ok y := by
  unfold AC.nilz
  split
  · split
    · exact h
    · obtain ⟨rfl, _⟩ := h
      exact ⟨⟨by simp, rfl⟩, none, 0, rfl, Nat.le_refl _, by unfold maxLen; omega, fun h => absurd h (Nat.lt_irrefl _)⟩
  · exact h
theorem nilz_cs {cs : List AC} {vs : Array Value} (h : CsRep w β G ok cs vs) : CsRep w β G ok (cs.map (AC.nilz z)) vs :=
  ⟨by simpa using h.1, fun j c hj => by
    simp only [List.getElem?_map, Option.map_eq_some_iff] at hj
    obtain ⟨c0, h0, rfl⟩ := hj
    obtain ⟨y, hy, hr⟩ := h.2 j c0 h0
    exact ⟨y, hy, nilz_c hr⟩⟩
theorem nilz_a {a : AV} {y : Value} (h : a.rep w β G ok y) : (a.nilz z).rep w β G ok y := by
  cases a with
  | g x =>
    cases x with
    | one c => exact nilz_c h
    | agg cs => obtain ⟨vs, h1, h2⟩ := h; exact ⟨vs, h1, nilz_cs h2⟩
  | tup xs => exact h
theorem nilz_args {as : List AV} {vs : Array Value} (h : ArgsRep w β G ok as vs) : ArgsRep w β G ok (as.map (AV.nilz z)) vs :=
  ⟨by simpa using h.1, fun j a hj => by
    simp only [List.getElem?_map, Option.map_eq_some_iff] at hj
    obtain ⟨a0, h0, rfl⟩ := hj
    obtain ⟨y, hy, hr⟩ := h.2 j a0 h0
    exact ⟨y, hy, nilz_a hr⟩⟩
end
theorem nilz_zero (as : List AV) : as.map (AV.nilz 0) = as := by
  have h1 : ∀ c : AC, c.nilz 0 = c := fun c => by unfold AC.nilz; split <;> simp
  have h2 : (AC.nilz 0) = id := funext h1
  have h3 : ∀ a : AV, a.nilz 0 = a := fun a => by
    cases a with
    | g x => cases x <;> simp [AV.nilz, AG.nilz, h1, h2]
    | tup xs => rfl
  have h4 : (AV.nilz 0) = id := funext h3
  rw [h4, List.map_id]
/-- The same, by reckoning. -/
def nilC (z : Nat) (c : AC) : Option AC := match c with
  | .v (.slice none 0 0) => bif Nat.beq z 0 then some (.v (.slice none 0 0)) else some (.ro z 0 [])
  | c => some c
def nilCs (z : Nat) : List AC → Option (List AC)
  | [] => some []
  | c :: l => match nilC z c, nilCs z l with
    | some c', some l' => some (c' :: l')
    | _, _ => none
def nilA (z : Nat) (a : AV) : Option AV := match a with
  | .g (.one c) => match nilC z c with
    | some c' => some (.g (.one c'))
    | none => none
  | .g (.agg cs) => match nilCs z cs with
    | some cs' => some (.g (.agg cs'))
    | none => none
  | .tup xs => some (.tup xs)
def nilL (z : Nat) : List AV → Option (List AV)
  | [] => some []
  | a :: l => match nilA z a, nilL z l with
    | some a', some l' => some (a' :: l')
    | _, _ => none
theorem nilC_eq {z : Nat} {c c' : AC} (h : nilC z c = some c') : c.nilz z = c' := by
  unfold nilC at h
  unfold AC.nilz
  split at h
  · cases hz : Nat.beq z 0 with
    | true =>
      have := Nat.eq_of_beq_eq_true hz
      subst this
      simpa using h
    | false =>
      have : ¬ z = 0 := fun e => by subst e; cases hz
      simp only [hz, cond_false, Option.some.injEq] at h
      simp only [this, if_false, h]
  · cases h
    rfl
theorem nilCs_eq {z : Nat} : ∀ {l l' : List AC}, nilCs z l = some l' → l.map (AC.nilz z) = l'
  | [], l', h => by cases h; rfl
  | c :: l, l', h => by
    simp only [nilCs] at h
    split at h
    · rename_i c1 l1 h1 h2
      cases h
      rw [List.map_cons, nilC_eq h1, nilCs_eq h2]
    · cases h
theorem nilL_eq {z : Nat} : ∀ {l l' : List AV}, nilL z l = some l' → l.map (AV.nilz z) = l'
  | [], l', h => by cases h; rfl
  | a :: l, l', h => by
    simp only [nilL] at h
    split at h
    · rename_i a1 l1 h1 h2
      cases h
      rw [List.map_cons, nilL_eq h2]
      congr 1
      unfold nilA at h1
      split at h1
      · split at h1
        · rename_i h3
          cases h1
          simp only [AV.nilz, AG.nilz, nilC_eq h3]
        · cases h1
      · split at h1
        · rename_i h3
          cases h1
          simp only [AV.nilz, AG.nilz, nilCs_eq h3]
        · cases h1
      · cases h1; rfl
    · cases h
/-- A function that gives back its slice with no more room. -/
structure IsClip (P : Program) (f : FuncId) : Prop where
  enters : ∀ args w, (callFunc f args).run P w = .ok (.enter f args) w
  does : ∀ A n c w, n ≤ c → c ≤ 9223372036854775807 → Calls P f #[.slice A n c] w fun e w' => e = .returned (.slice A n n) ∧ w = w'
def clipM (args : List AV) (dst : Option Tmp) : AM := match args with
  | [.g (.one (.sl i r n))] => .getE i fun
    | some (r', .row e z l) => .need (r = r' ∧ l.length = n * z ∧ 0 < z) (.putE i (some (r + 1, .row e z l)) (putD dst (.g (.one (.sl i (r + 1) n)))))
    | _ => .fail
  | _ => .fail
theorem clip_good {P : Program} {f : FuncId} (hf : IsClip P f) : GoodCall P f clipM := by
  refine ⟨hf.enters, ?_⟩
  intro F S K as dst h w0 M N b0 nt β w tm vs hd hs hargs
  match as, h, hargs with
  | [.g (.one (.sl i r n))], h, hargs =>
    obtain ⟨_, h⟩ := h
    dsimp only at h
    split at h
    · rename_i r' e z l hG
      obtain ⟨⟨rfl, hl, hz⟩, hew, hk⟩ := h
      obtain ⟨y, hy, hr⟩ := hargs.2 0 _ rfl
      have hvs : vs = #[y] := by
        apply Array.ext
        · rw [hargs.1]; rfl
        · intro j h1 h2
          have : j = 0 := by simp at h2; omega
          subst this
          have := (Array.getElem?_eq_some_iff.1 hy).2
          simpa using this
      subst hvs
      obtain ⟨A, m, cap, q1, q2, rfl⟩ := hs.cur_sl hr hG
      obtain ⟨p0, e2, n2, p1, p2⟩ := hs.ents i r _ hG
      have hnm : n2 = n := by
        have := p2.1
        exact Nat.eq_of_mul_eq_mul_right hz (this.symm.trans hl)
      subst hnm
      rw [q1] at p2
      have hmm : n2 = m ∧ m ≤ cap ∧ cap ≤ 9223372036854775807 := by
        rcases p2.2 with ⟨p3, h0⟩ | ⟨g, cap', cur, p3, p4, p5, p6, p7, p8, p9⟩
        · cases p3; omega
        · cases p3
          unfold maxLen at p7
          exact ⟨rfl, p6, by omega⟩
      obtain ⟨rfl, hc1, hc2⟩ := hmm
      have hblk : ∀ b, blk? (Value.slice A n2 n2) = some b → blk? (β i) = some b := by
        intro b hb
        rw [q1]
        cases A with
        | none => cases hb
        | some a => exact hb
      refine (hf.does A n2 cap w hc1 hc2).mono ?_
      rintro e' w' ⟨rfl, rfl⟩
      obtain ⟨β', h1, h2, h3, h4⟩ := hs.change1 (w' := w) i (r + 1) (.row e z l) (.slice A n2 n2) rfl rfl rfl (Nat.le_refl _)
        (fun r1 e1 hg => by rw [hG] at hg; cases hg; exact ⟨Nat.le_succ _, fun he => by omega⟩)
        (fun k _ _ => rfl)
        (fun b _ hb => ⟨(hs.fresh i r _ b hG trivial (hblk b hb)).1, .inr ⟨r, _, hG, trivial, hblk b hb⟩⟩)
        (fun _ => ⟨_, hG⟩)
        (fun β' G' _ _ hok hold hβ => ⟨p0, e2, n2, p1, by
          rw [hβ]
          refine ⟨hl, ?_⟩
          rcases p2.2 with ⟨p3, hz0⟩ | ⟨g, cap', cur, p3, p4, p5, p6, p7, p8, p9⟩
          · cases p3; exact .inl ⟨rfl, rfl⟩
          · cases p3
            exact .inr ⟨g, n2, cur, rfl, p4, p5, Nat.le_refl _, by omega, Nat.le_trans (Nat.mul_le_mul_right z p6) p8, p9⟩⟩)
      have hrep : AV.rep w β' (S.lay i (some (r + 1, Ent.row e z l))).G (okB w0 N β' (S.lay i (some (r + 1, Ent.row e z l))).G w) (.g (.one (.sl i (r + 1) n2))) (.slice A n2 n2) :=
        ⟨rfl, r + 1, _, upd_same _ _ _, Nat.le_refl _, fun _ => ⟨A, n2, n2, h2, Nat.le_refl _, rfl⟩⟩
      cases dst with
      | none => exact ⟨_, β', _, rfl, hk, h1⟩
      | some d =>
        obtain ⟨_, hk⟩ := hk
        exact ⟨_, β', _, rfl, hk, h1.put (hd d rfl) hrep⟩
    · exact h.elim
/-- A function that cuts the elements from a on, up to b, out of its slice, in place. -/
structure IsDel (P : Program) (f : FuncId) (e : TypeId) (z : Nat) : Prop where
  enters : ∀ args w, (callFunc f args).run P w = .ok (.enter f args) w
  does : ∀ g n c cur w (a b : Nat), w.heap[g]? = some (.cells cur e (0, 0)) → n ≤ c → c ≤ maxLen → c * z ≤ cur.size → a < b → b ≤ n → (cur.toList.take (n * z)).all (·.oneCell') = true →
    Calls P f #[.slice (some ⟨g, 0, none⟩) n c, .int .i64 a, .int .i64 b] w fun en w' => en = .returned (.slice (some ⟨g, 0, none⟩) (n - (b - a)) c) ∧
      (∃ cur', w'.heap[g]? = some (.cells cur' e (0, 0)) ∧ c * z ≤ cur'.size ∧ cur'.toList.take ((n - (b - a)) * z) = (cur.toList.take (n * z)).take (a * z) ++ (cur.toList.take (n * z)).drop (b * z)) ∧ w.grownBy w' (some g)
def delM (e0 : TypeId) (z0 : Nat) (args : List AV) (dst : Option Tmp) : AM := match args with
  | [.g (.one (.sl i r n)), .g (.one (.v (.int .i64 a))), .g (.one (.v (.int .i64 b)))] => .getE i fun
    | some (r', .row e z l) => .need (r = r' ∧ l.length = n * z ∧ 0 < z ∧ z = z0 ∧ e = some e0 ∧ 0 ≤ a ∧ a < b ∧ b ≤ n) (.putE i (some (r + 1, .row e z (l.take (a.toNat * z) ++ l.drop (b.toNat * z)))) (putD dst (.g (.one (.sl i (r + 1) (n - (b - a).toNat))))))
    | _ => .fail
  | _ => .fail
theorem del_good {P : Program} {f : FuncId} {e0 : TypeId} {z0 : Nat} (hf : IsDel P f e0 z0) : GoodCall P f (delM e0 z0) := by
  refine ⟨hf.enters, ?_⟩
  intro F S K as dst h w0 M N b0 nt β w tm vs hd hs hargs
  match as, h, hargs with
  | [.g (.one (.sl i r n)), .g (.one (.v (.int .i64 a))), .g (.one (.v (.int .i64 b)))], h, hargs =>
    obtain ⟨_, h⟩ := h
    dsimp only at h
    split at h
    · rename_i r' e z l hG
      obtain ⟨⟨rfl, hl, hz, rfl, rfl, ha0, hab, hbn⟩, hew, hk⟩ := h
      obtain ⟨y, hy, hr⟩ := hargs.2 0 _ rfl
      obtain ⟨y1, hy1, hr1⟩ := hargs.2 1 _ rfl
      obtain ⟨y2, hy2, hr2⟩ := hargs.2 2 _ rfl
      have hq1 : y1 = .int .i64 a := hr1.1
      have hq2 : y2 = .int .i64 b := hr2.1
      subst hq1; subst hq2
      have hvs : vs = #[y, .int .i64 a, .int .i64 b] := by
        apply Array.ext
        · rw [hargs.1]; rfl
        · intro j h1 h2
          have h2' : j < 3 := by simpa using h2
          have hj : j = 0 ∨ j = 1 ∨ j = 2 := by omega
          rcases hj with rfl | rfl | rfl
          · simpa using (Array.getElem?_eq_some_iff.1 hy).2
          · simpa using (Array.getElem?_eq_some_iff.1 hy1).2
          · simpa using (Array.getElem?_eq_some_iff.1 hy2).2
      subst hvs
      obtain ⟨A, m, cap, q1, q2, rfl⟩ := hs.cur_sl hr hG
      obtain ⟨p0, e2, n2, p1, p2⟩ := hs.ents i r _ hG
      have ee := p1 _ rfl
      subst ee
      have hnm : n2 = n := by
        have := p2.1
        exact Nat.eq_of_mul_eq_mul_right hz (this.symm.trans hl)
      subst hnm
      rw [q1] at p2
      obtain ⟨a, rfl⟩ : ∃ a' : Nat, a = (a' : Int) := ⟨a.toNat, by omega⟩
      obtain ⟨b, rfl⟩ : ∃ b' : Nat, b = (b' : Int) := ⟨b.toNat, by omega⟩
      rcases p2.2 with ⟨p3, h0⟩ | ⟨g, cap', cur, p3, p4, p5, p6, p7, p8, p9⟩
      · omega
      · cases p3
        have e1 : ((a : Int)).toNat = a := by omega
        have e3 : ((b : Int)).toNat = b := by omega
        have e4 : ((b : Int) - (a : Int)).toNat = b - a := by omega
        rw [e1, e3, e4] at hk
        refine (hf.does g m cap cur w a b p5 p6 p7 p8 (by omega) (by omega) (by rw [p9]; exact p0)).mono ?_
        rintro en w' ⟨rfl, ⟨cur', k1, k2, k3⟩, kg⟩
        rw [p9] at k3
        have hblk : blk? (β i) = some g := by rw [q1]; rfl
        have hmz : b * z ≤ m * z := Nat.mul_le_mul_right z (by omega)
        have hnz : (m - (b - a)) * z = a * z + (m * z - b * z) := by
          rw [← Nat.sub_mul, ← Nat.add_mul]; congr 1; omega
        obtain ⟨β', h1, h2, h3, h4⟩ := hs.change1 (w' := w') i (r + 1) (.row (some e0) z (l.take (a * z) ++ l.drop (b * z))) (.slice (some ⟨g, 0, none⟩) (m - (b - a)) cap) kg.os kg.tape kg.output kg.size
          (fun r1 e1 hg => by rw [hG] at hg; cases hg; exact ⟨Nat.le_succ _, fun he => by omega⟩)
          (fun k hk hne => kg.block k hk (fun ek => hne r _ hG trivial (by rw [hblk]; exact ek.symm)))
          (fun b' _ hb => by
            cases hb
            exact ⟨(Array.getElem?_eq_some_iff.1 k1).1, .inr ⟨r, _, hG, trivial, hblk⟩⟩)
          (fun _ => ⟨_, hG⟩)
          (fun β' G' _ _ hok hold hβ => ⟨by
              rw [List.all_append, Bool.and_eq_true]
              rw [List.all_eq_true] at p0
              exact ⟨List.all_eq_true.2 fun x hx => p0 x (List.mem_of_mem_take hx), List.all_eq_true.2 fun x hx => p0 x (List.mem_of_mem_drop hx)⟩, e0, m - (b - a), fun x hx => by cases hx; rfl, by
              rw [hβ]
              refine ⟨?_, .inr ⟨g, cap, cur', rfl, Nat.zero_le _, k1, by omega, p7, k2, k3⟩⟩
              rw [List.length_append, List.length_take, List.length_drop, hl, hnz, Nat.min_eq_left (Nat.mul_le_mul_right z (by omega))]⟩)
        have hrep : AV.rep w' β' (S.lay i (some (r + 1, Ent.row (some e0) z (l.take (a * z) ++ l.drop (b * z))))).G (okB w0 N β' (S.lay i (some (r + 1, Ent.row (some e0) z (l.take (a * z) ++ l.drop (b * z))))).G w') (.g (.one (.sl i (r + 1) (m - (b - a))))) (.slice (some ⟨g, 0, none⟩) (m - (b - a)) cap) :=
          ⟨rfl, r + 1, _, upd_same _ _ _, Nat.le_refl _, fun _ => ⟨_, m - (b - a), cap, h2, Nat.le_refl _, rfl⟩⟩
        cases dst with
        | none => exact ⟨_, β', _, rfl, hk, h1⟩
        | some d =>
          obtain ⟨_, hk⟩ := hk
          exact ⟨_, β', _, rfl, hk, h1.put (hd d rfl) hrep⟩
    · exact h.elim
/-- Calls by any contract that is kept. -/
noncomputable def cfU (P : Program) : FuncId → Option (List AV → Option Tmp → AM) := fun f => open Classical in if (∀ args w, (callFunc f args).run P w = .ok (.enter f args) w) then
  some (fun args dst => .exv (fun p : Sum (Fn3 × List Nat × Bool × Nat) (Option (TypeId × Nat)) => match p with
    | .inl p => ConOk P f p.1
    | .inr none => IsClip P f
    | .inr (some q) => IsDel P f q.1 q.2) fun p => match p with
    | .inl p => callM p.1 (fun q => p.2.1.any (Nat.beq q)) p.2.2.1 (args.map (AV.nilz p.2.2.2)) dst
    | .inr none => clipM args dst
    | .inr (some q) => delM q.1 q.2 args dst) else none
theorem cfU_ok {P : Program} : ∀ f m, cfU P f = some m → GoodCall P f m := by
  intro f m hm
  unfold cfU at hm
  split at hm
  · rename_i hx
    cases hm
    refine ⟨hx, ?_⟩
    rintro F S K as dst ⟨p, hp, h⟩ w0 M N b0 nt β w tm vs hd hs ha
    match p, hp, h with
    | .inl p, hp, h =>
      obtain ⟨C', ws, al, z⟩ := p
      exact (good_of_con hp _ _).does F S K _ dst h w0 M N b0 nt β w tm vs hd hs (nilz_args ha)
    | .inr none, hp, h => exact (clip_good hp).does F S K _ dst h w0 M N b0 nt β w tm vs hd hs ha
    | .inr (some q), hp, h => exact (del_good hp).does F S K _ dst h w0 M N b0 nt β w tm vs hd hs ha
  · cases hm
theorem cfU_clip {P : Program} {F : Ft} {S : St} {K : St → Prop} {f : FuncId} {args : List AV} {dst : Option Tmp} (hf : IsClip P f) (h : (clipM args dst).run F S K) : (orFail (cfU P f) fun m => m args dst).run F S K := by
  unfold cfU
  rw [if_pos hf.enters]
  exact ⟨.inr none, hf, h⟩
theorem cfU_del {P : Program} {F : Ft} {S : St} {K : St → Prop} {f : FuncId} {args : List AV} {dst : Option Tmp} {e : TypeId} {z : Nat} (hf : IsDel P f e z) (h : (delM e z args dst).run F S K) : (orFail (cfU P f) fun m => m args dst).run F S K := by
  unfold cfU
  rw [if_pos hf.enters]
  exact ⟨.inr (some (e, z)), hf, h⟩
/-- A function, called with these arguments and blocks, gives back this. -/
def Kon (P : Program) (f : FuncId) (aa : List AV) (es : List Ent) (out : AV) (news es' : List Ent) : Prop := ∃ C, ConOk P f C ∧ C aa es = some (out, news, es')
theorem Kon.of {P : Program} {f : FuncId} {C : Fn3} {aa : List AV} {es : List Ent} {out : AV} {news es' : List Ent} (hC : ConOk P f C) (h : C aa es = some (out, news, es')) : Kon P f aa es out news es' := ⟨C, hC, h⟩
theorem kon_mk {P : Program} {T : Tab} (hT : TabOk P T) {f : FuncId} {fn : Func} {c : Code} {aa : List AV} {es : List Ent} {out : AV} {news es' : List Ent} (hf : P.funcs[f]? = some fn) (hb : fn.body = some c) (hn : (fn.name == "runtime.NumGoroutine") = false)
    (hl : Nat.ble aa.length fn.ntmps = true) (hes : es'.length = es.length)
    (h : (∀ a ∈ aa, a.fit) → (∀ e ∈ es, e.fit) → AW P fn.ntmps c (retK T fn.results out news es') ⟨argsE aa, Gin es⟩) : Kon P f aa es out news es' := by
  refine ⟨cOf (fun _ : Unit => (aa, es)) (fun _ => (out, news, es')), con_cOf hT hf hb hn fun _ h1 h2 => ⟨hl, hes, h h1 h2⟩, ?_⟩
  exact cOf_at (A := fun _ : Unit => (aa, es)) (R := fun _ => (out, news, es')) (fun _ _ _ => rfl) ()
/-- Which parameters a function may write through; may its result share memory with what is only read? -/
abbrev WsT := List (Nat × (List Nat × Bool))
def wsOf (t : WsT) (f : Nat) : List Nat × Bool := match find1 t f with
  | some x => x
  | none => ([], false)
section
variable {F : Ft} {S : St}
/-- The turn of a new block, reckoned. -/
def nvO (S : St) (j : Nat) : Option Nat := match S.G j with
  | none => some 0
  | some (r, _) => some (r + 1)
theorem nvO_eq {j r : Nat} (h : nvO S j = some r) : nver S j = r := by
  unfold nvO at h
  unfold nver
  cases hG : S.G j with
  | none => rw [hG] at h; cases h; rfl
  | some p => rw [hG] at h; cases h; rfl
def newFv (F : Ft) (d : Nat) : Nat → List Ent → St → Option (List Nat × St)
  | _, [], S => some ([], S)
  | j, e :: es, S => bif e.liveB && e.on (fun _ => false) && Nat.blt j 16 && Nat.blt (nid d j) 100000 && F.er (nid d j) && F.ew (nid d j) then (match nvO S (nid d j) with
    | some r => match newFv F d (j + 1) es (S.lay (nid d j) (some (r, e))) with
      | some (rs, S') => some (r :: rs, S')
      | none => none
    | none => none) else none
theorem newFv_ok {d : Nat} : ∀ (es : List Ent) {j : Nat} {S : St} {x : List Nat × St}, newFv F d j es S = some x → newF F d j es S = some x
  | [], j, S, x, h => h
  | e :: es, j, S, x, h => by
    simp only [newFv] at h
    simp only [newF]
    cases hc : (e.liveB && e.on (fun _ => false) && Nat.blt j 16 && Nat.blt (nid d j) 100000 && F.er (nid d j) && F.ew (nid d j)) with
    | false => rw [hc] at h; cases h
    | true =>
      rw [hc] at h
      simp only [cond_true] at h ⊢
      split at h
      · rename_i r hr
        rw [nvO_eq hr]
        split at h
        · rename_i rs S' h1
          cases h
          rw [newFv_ok es h1]
        · cases h
      · cases h
/-- Names of blocks in a call's result, at any turn. -/
def renC2 (ids : List (Nat × Nat)) (rs : List Nat) (d : Nat) : AC → Option AC
  | .sl i r n => bif Nat.ble 100000 i then (match ids[i - 100000]? with
    | some (a, b) => some (.sl a b n)
    | none => none) else (match rs[i]? with
    | some q => some (.sl (nid d i) q n)
    | none => none)
  | .ptr i r o => bif Nat.ble 100000 i then (match ids[i - 100000]? with
    | some (a, b) => some (.ptr a b o)
    | none => none) else (match rs[i]? with
    | some q => some (.ptr (nid d i) q o)
    | none => none)
  | .fn f [] => some (.fn f [])
  | .fn _ _ => none
  | .v x => some (.v x)
  | .ro z n l => some (.ro z n l)
  | .rp l => some (.rp l)
  | .er => some .er
  | .sb _ _ _ => none
def renCs2 (ids : List (Nat × Nat)) (rs : List Nat) (d : Nat) : List AC → Option (List AC)
  | [] => some []
  | c :: l => match renC2 ids rs d c, renCs2 ids rs d l with
    | some c', some l' => some (c' :: l')
    | _, _ => none
def renG2 (ids : List (Nat × Nat)) (rs : List Nat) (d : Nat) : AG → Option AG
  | .one c => match renC2 ids rs d c with
    | some c' => some (.one c')
    | none => none
  | .agg cs => match renCs2 ids rs d cs with
    | some cs' => some (.agg cs')
    | none => none
def renGs2 (ids : List (Nat × Nat)) (rs : List Nat) (d : Nat) : List AG → Option (List AG)
  | [] => some []
  | c :: l => match renG2 ids rs d c, renGs2 ids rs d l with
    | some c', some l' => some (c' :: l')
    | _, _ => none
def renV2 (ids : List (Nat × Nat)) (rs : List Nat) (d : Nat) : AV → Option AV
  | .g x => match renG2 ids rs d x with
    | some x' => some (.g x')
    | none => none
  | .tup xs => match renGs2 ids rs d xs with
    | some xs' => some (.tup xs')
    | none => none
def renS2 (ids : List (Nat × Nat)) (rs : List Nat) (d : Nat) (i : Nat) : Nat × Nat := if 100000 ≤ i then (ids[i - 100000]?).getD (0, 0) else (nid d i, (rs[i]?).getD 0)
theorem renS2_ge {ids : List (Nat × Nat)} {rs : List Nat} {d i : Nat} (h : Nat.ble 100000 i = true) : renS2 ids rs d i = (ids[i - 100000]?).getD (0, 0) := by
  unfold renS2; rw [if_pos (Nat.le_of_ble_eq_true h)]
theorem renS2_lt {ids : List (Nat × Nat)} {rs : List Nat} {d i q : Nat} (h : Nat.ble 100000 i = false) (hq : rs[i]? = some q) : renS2 ids rs d i = (nid d i, q) := by
  have h' : ¬ 100000 ≤ i := fun hc => by rw [Nat.ble_eq_true_of_le hc] at h; cases h
  unfold renS2; rw [if_neg h', hq]; rfl
theorem renC2_ok {ids : List (Nat × Nat)} {rs : List Nat} {d : Nat} {c c' : AC} (h : renC2 ids rs d c = some c') : c.ren (renS2 ids rs d) = c' := by
  cases c with
  | sl i r n =>
    simp only [renC2] at h
    cases hb : Nat.ble 100000 i with
    | true =>
      rw [hb] at h
      simp only [cond_true] at h
      split at h
      · rename_i a b hi
        cases h
        simp only [AC.ren, renS2_ge hb, hi, Option.getD_some]
      · cases h
    | false =>
      rw [hb] at h
      simp only [cond_false] at h
      split at h
      · rename_i q hi
        cases h
        simp only [AC.ren, renS2_lt hb hi]
      · cases h
  | ptr i r o =>
    simp only [renC2] at h
    cases hb : Nat.ble 100000 i with
    | true =>
      rw [hb] at h
      simp only [cond_true] at h
      split at h
      · rename_i a b hi
        cases h
        simp only [AC.ren, renS2_ge hb, hi, Option.getD_some]
      · cases h
    | false =>
      rw [hb] at h
      simp only [cond_false] at h
      split at h
      · rename_i q hi
        cases h
        simp only [AC.ren, renS2_lt hb hi]
      · cases h
  | fn f caps => cases caps with
    | nil => cases h; rfl
    | cons _ _ => cases h
  | v x => cases h; rfl
  | ro z n l => cases h; rfl
  | rp l => cases h; rfl
  | er => cases h; rfl
  | sb i r n => cases h
theorem renCs2_ok {ids : List (Nat × Nat)} {rs : List Nat} {d : Nat} : ∀ {l l' : List AC}, renCs2 ids rs d l = some l' → l.map (·.ren (renS2 ids rs d)) = l'
  | [], l', h => by cases h; rfl
  | c :: l, l', h => by
    simp only [renCs2] at h
    split at h
    · rename_i c1 l1 h1 h2
      cases h
      rw [List.map_cons, renC2_ok h1, renCs2_ok h2]
    · cases h
theorem renG2_ok {ids : List (Nat × Nat)} {rs : List Nat} {d : Nat} {x x' : AG} (h : renG2 ids rs d x = some x') : x.ren (renS2 ids rs d) = x' := by
  cases x with
  | one c =>
    simp only [renG2] at h
    split at h
    · rename_i c1 h1
      cases h
      simp only [AG.ren, renC2_ok h1]
    · cases h
  | agg cs =>
    simp only [renG2] at h
    split at h
    · rename_i c1 h1
      cases h
      simp only [AG.ren, renCs2_ok h1]
    · cases h
theorem renGs2_ok {ids : List (Nat × Nat)} {rs : List Nat} {d : Nat} : ∀ {l l' : List AG}, renGs2 ids rs d l = some l' → l.map (·.ren (renS2 ids rs d)) = l'
  | [], l', h => by cases h; rfl
  | c :: l, l', h => by
    simp only [renGs2] at h
    split at h
    · rename_i c1 l1 h1 h2
      cases h
      rw [List.map_cons, renG2_ok h1, renGs2_ok h2]
    · cases h
theorem renV2_ok {ids : List (Nat × Nat)} {rs : List Nat} {d : Nat} {x x' : AV} (h : renV2 ids rs d x = some x') : resV x ids rs d = x' := by
  have : x.ren (renS2 ids rs d) = x' := by
    cases x with
    | g x =>
      simp only [renV2] at h
      split at h
      · rename_i c1 h1
        cases h
        simp only [AV.ren, renG2_ok h1]
      · cases h
    | tup xs =>
      simp only [renV2] at h
      split at h
      · rename_i c1 h1
        cases h
        simp only [AV.ren, renGs2_ok h1]
      · cases h
  exact this
end
section
variable {P : Program} {T : Tab} {F : Ft} {Fs : Nat → Ft} {i : Nat} {rest : List Oper} {S : St} {K : St → Prop} {ops : Array Oper} {d : Tmp} {x y c : Operand} {a b : AV} {ty : TypeId} {pos : String} {af : Array Edge} {g : Option (Nat × Bool)}
theorem cfU_run {f : FuncId} {C : Fn3} {ws : List Nat} {al : Bool} {args : List AV} {dst : Option Tmp} (z : Nat) (hC : ConOk P f C) (h : (callM C (fun q => ws.any (Nat.beq q)) al (args.map (AV.nilz z)) dst).run F S K) : (orFail (cfU P f) fun m => m args dst).run F S K := by
  unfold cfU
  rw [if_pos hC.enters]
  exact ⟨.inl ⟨C, ws, al, z⟩, hC, h⟩
end
section
variable {P : Program} {T : Tab} {S : St} {nt : Nat} {c : Code} {KE : Exit → St → Prop}
/-- A loop, laid open: at most n rounds. -/
def RA (P : Program) (nt : Nat) (c : Code) (KE : Exit → St → Prop) : Nat → St → Prop
  | 0, _ => False
  | n + 1, S => AW P nt c (fun e S'' => match e with
    | .normal => RA P nt c KE n S''
    | e => KE e S'') S
def raK (P : Program) (nt : Nat) (c : Code) (KE : Exit → St → Prop) (n : Nat) : Exit → St → Prop
  | .normal, S => RA P nt c KE n S
  | e, S => KE e S
theorem ra_step {n : Nat} (h : AW P nt c (raK P nt c KE n) S) : RA P nt c KE (n + 1) S := h.mono fun e S' hk => by cases e <;> exact hk
theorem aw_unroll (n : Nat) (h : RA P nt c KE n S) : AW P nt (.loop c) KE S :=
  aw_loop (fun g S' => RA P nt c KE g S') id n h fun g S' hg => by
    cases g with
    | zero => exact hg.elim
    | succ g =>
      refine AW.mono (KE := raK P nt c KE g) (hg.mono fun e S' hk => by cases e <;> exact hk) fun e S'' hk => ?_
      cases e with
      | normal => exact ⟨g, hk, Nat.lt_succ_self g⟩
      | _ => exact hk
/-- Slots and blocks, looked up. -/
def rdSlots (S : St) : List Nat → Option (List (Nat × AV))
  | [] => some []
  | k :: ks => match S.E k, rdSlots S ks with
    | some a, some l => some ((k, a) :: l)
    | _, _ => none
def rdBlks (S : St) : List Nat → Option (List (Nat × (Nat × Ent)))
  | [] => some []
  | k :: ks => match S.G k, rdBlks S ks with
    | some a, some l => some ((k, a) :: l)
    | _, _ => none
theorem rdSlots_has : ∀ {ks : List Nat} {l : List (Nat × AV)}, rdSlots S ks = some l → HasE S l
  | [], l, h => by cases h; trivial
  | k :: ks, l, h => by
    simp only [rdSlots] at h
    split at h
    · rename_i a l' h1 h2
      cases h
      exact ⟨h1, rdSlots_has h2⟩
    · cases h
theorem rdBlks_has : ∀ {ks : List Nat} {l : List (Nat × (Nat × Ent))}, rdBlks S ks = some l → HasB S l
  | [], l, h => by cases h; trivial
  | k :: ks, l, h => by
    simp only [rdBlks] at h
    split at h
    · rename_i a l' h1 h2
      cases h
      exact ⟨h1, rdBlks_has h2⟩
    · cases h
theorem HasE.app : ∀ {l l' : List (Nat × AV)}, HasE S l → HasE S l' → HasE S (l ++ l')
  | [], l', _, h' => h'
  | p :: l, l', h, h' => ⟨h.1, HasE.app h.2 h'⟩
theorem HasB.app : ∀ {l l' : List (Nat × (Nat × Ent))}, HasB S l → HasB S l' → HasB S (l ++ l')
  | [], l', _, h' => h'
  | p :: l, l', h, h' => ⟨h.1, HasB.app h.2 h'⟩
def loopK {σ : Type} (KE : Exit → St → Prop) (E : σ → List (Nat × AV)) (G : σ → List (Nat × (Nat × Ent))) (q : σ → Prop) (μ : σ → Nat) (m : Nat) : Exit → St → Prop
  | .normal, S => ∃ g', q g' ∧ Is S (E g') (G g') ∧ μ g' < m
  | e, S => KE e S
/-- A loop: what changes by a value g; what stays is looked up. -/
theorem aw_rd (ks bs : List Nat) {Ec : List (Nat × AV)} {Gc : List (Nat × (Nat × Ent))} {σ : Type} (E : σ → List (Nat × AV)) (G : σ → List (Nat × (Nat × Ent))) (q : σ → Prop) (μ : σ → Nat) (g0 : σ) (hE : rdSlots S ks = some Ec) (hG : rdBlks S bs = some Gc) (hq : q g0)
    (hon : onB (E g0 ++ Ec) (G g0 ++ Gc) = true) (h1 : HasE S (E g0)) (h2 : HasB S (G g0))
    (round : ∀ g, q g → AW P nt c (loopK KE (fun g => E g ++ Ec) (fun g => G g ++ Gc) q μ (μ g)) (ofL (E g ++ Ec) (G g ++ Gc))) : AW P nt (.loop c) KE S :=
  aw_rounds (fun g => E g ++ Ec) (fun g => G g ++ Gc) q μ g0 hq ⟨hon, h1.app (rdSlots_has hE), h2.app (rdBlks_has hG)⟩ fun g hg => (round g hg).mono fun e S'' hk => by cases e <;> exact hk
/-- A slot, told with less. -/
theorem aw_slot (t z : Nat) {c' cc : AC} {q : Prop} {cd : Code} (hE : S.E t = some (.g (.one cc))) (hw : wkC S.G z cc = some (c', q)) (hq : q) (h : AW P nt cd KE (S.put t (some (.g (.one c'))))) : AW P nt cd KE S := fun w0 M N b0 β w tm hs => by
  obtain ⟨h1, h2⟩ := hs.env t _ hE
  have h3 := wkC_ok (ok := fun _ => True) hs hw hq h2
  have h4 := hs.put (i := t) (a := .g (.one c')) h1 h3
  have e : tm.setIfInBounds t (tm.getD t undef) = tm := by
    apply Array.ext
    · simp
    · intro j h5 h6
      by_cases hj : t = j
      · subst hj; simp [h6]
      · rw [Array.getElem_setIfInBounds_ne _ hj]
  rw [e] at h4
  exact h w0 M N b0 β w tm h4
/-- The blocks that a result leads to. -/
def nubP : List (Nat × Nat) → List (Nat × Nat) → List (Nat × Nat)
  | acc, [] => acc
  | acc, p :: l => bif Nat.ble 100000 p.1 || acc.any (fun q => Nat.beq q.1 p.1) then nubP acc l else nubP (acc ++ [p]) l
theorem vI_of {i : Nat} {m n : Int} (h : S.E i = some (vI m)) (e : m = n) : S.E i = some (vI n) := by rw [h, e]
end
end Go.Proofs.YtnenhckongccgaaGreatDoor

/- The abstract run: rows of elements of one kind. No program is named. -/
namespace Go.Proofs.YtnenhckongccgaaGreatDoor
set_option linter.unusedVariables false
open Go.RowKit

/-- Data that lie in cells of a row. -/
class Cel (α : Type) where
  f : α → List Value
  un : List Value → Option α
  sz : Nat
  no : α
  pos : 0 < sz
  len : ∀ a, (f a).length = sz
  one : ∀ a, (f a).all (·.oneCell') = true
  unf : ∀ vs a, un vs = some a → f a = vs
def cV {α : Type} [Cel α] (l : List α) : List Value := l.flatMap Cel.f
section
variable {α : Type} [Cel α]
@[simp] theorem cV_nil : cV ([] : List α) = [] := rfl
theorem cV_cons (a : α) (l : List α) : cV (a :: l) = Cel.f a ++ cV l := rfl
theorem cV_len : ∀ l : List α, (cV l).length = l.length * Cel.sz α
  | [] => by simp
  | a :: l => by rw [cV_cons, List.length_append, Cel.len, cV_len l, List.length_cons, Nat.add_mul, Nat.one_mul, Nat.add_comm]
theorem cV_append : ∀ l m : List α, cV l ++ cV m = cV (l ++ m)
  | [], m => rfl
  | a :: l, m => by rw [cV_cons, List.append_assoc, cV_append l m]; rfl
theorem cV_take : ∀ (l : List α) (n : Nat), (cV l).take (n * Cel.sz α) = cV (l.take n)
  | [], n => by simp
  | a :: l, 0 => by simp
  | a :: l, n + 1 => by
    rw [cV_cons, List.take_succ_cons, cV_cons, ← cV_take l n, Nat.add_mul, Nat.one_mul, Nat.add_comm, ← Cel.len a, List.take_append]
    rw [List.take_of_length_le (by omega), Nat.add_sub_cancel_left]
theorem cV_drop : ∀ (l : List α) (n : Nat), (cV l).drop (n * Cel.sz α) = cV (l.drop n)
  | [], n => by simp
  | a :: l, 0 => by simp
  | a :: l, n + 1 => by
    rw [cV_cons, List.drop_succ_cons, ← cV_drop l n, Nat.add_mul, Nat.one_mul, Nat.add_comm, ← Cel.len a, List.drop_append]
    rw [List.drop_of_length_le (by omega), Nat.add_sub_cancel_left, List.nil_append]
theorem cV_at {l : List α} {j : Nat} (h : j < l.length) : ((cV l).drop (j * Cel.sz α)).take (Cel.sz α) = Cel.f (l.getD j Cel.no) := by
  have e1 : l.getD j Cel.no = l[j] := by simp [List.getD_eq_getElem?_getD, h]
  rw [cV_drop, e1, List.drop_eq_getElem_cons h, cV_cons, List.take_append, Cel.len, Nat.sub_self, List.take_zero, List.append_nil, List.take_of_length_le (by rw [Cel.len]; exact Nat.le_refl _)]
theorem cV_mul {l : List α} {j : Nat} (h : j < l.length) : j * Cel.sz α + Cel.sz α ≤ (cV l).length := by
  rw [cV_len]
  have : (j + 1) * Cel.sz α ≤ l.length * Cel.sz α := Nat.mul_le_mul_right _ h
  rwa [Nat.add_mul, Nat.one_mul] at this
theorem cV_cell {l : List α} {j o : Nat} {v : Value} (h : j < l.length) (hv : (Cel.f (l.getD j Cel.no))[o]? = some v) : (cV l)[j * Cel.sz α + o]? = some v := by
  rw [← cV_at h, List.getElem?_take] at hv
  split at hv
  · simpa using hv
  · cases hv
theorem cV_set {l : List α} {j : Nat} (a : α) (h : j < l.length) : splice (cV l) (j * Cel.sz α) (Cel.f a) = cV (l.set j a) := by
  unfold splice
  rw [cV_take, show j * Cel.sz α + (Cel.f a).length = (j + 1) * Cel.sz α by rw [Cel.len, Nat.add_mul, Nat.one_mul], cV_drop, List.append_assoc, ← cV_cons, cV_append]
  congr 1
  rw [List.set_eq_take_append_cons_drop, if_pos h]
theorem cV_zero (n : Nat) (a : α) : (List.replicate n (Cel.f a)).flatten = cV (List.replicate n a) := by
  induction n with
  | zero => rfl
  | succ n ih => rw [List.replicate_succ, List.flatten_cons, ih]; rfl
theorem cV_one (l : List α) : (cV l).all (·.oneCell') = true := by
  induction l with
  | nil => rfl
  | cons a l ih => rw [cV_cons, List.all_append, Cel.one, ih]; rfl
/-- The elements that lie in cells. -/
def unL (α : Type) [Cel α] : Nat → List Value → Option (List α)
  | 0, [] => some []
  | 0, _ :: _ => none
  | n + 1, vs => match Cel.un (α := α) (vs.take (Cel.sz α)), unL α n (vs.drop (Cel.sz α)) with
    | some a, some l => some (a :: l)
    | _, _ => none
theorem unL_eq : ∀ {n : Nat} {vs : List Value} {l : List α}, unL α n vs = some l → cV l = vs ∧ l.length = n
  | 0, [], l, h => by cases h; exact ⟨rfl, rfl⟩
  | 0, _ :: _, l, h => by cases h
  | n + 1, vs, l, h => by
    simp only [unL] at h
    split at h
    · rename_i a l' h1 h2
      cases h
      obtain ⟨h3, h4⟩ := unL_eq h2
      exact ⟨by rw [cV_cons, Cel.unf _ _ h1, h3, List.take_append_drop], by simp [h4]⟩
    · cases h
end
section
variable {P : Program} {T : Tab} {cf : FuncId → Option (List AV → Option Tmp → AM)} {F : Ft} {Fs : Nat → Ft} {i : Nat} {rest : List Oper} {S : St} {K : St → Prop} {ops : Array Oper} {d : Tmp} {x y c : Operand} {a b : AV} {ty : TypeId} {pos : String} {af : Array Edge} {g : Option (Nat × Bool)} {α : Type} [Cel α]
theorem r_append_cut {t e sz by' b' r n m : Nat} {agg : Bool} {z l news : List Value} {p : Prop} (hx : rdO (Fs i) S x = some (.g (.one (.sl b' r n)))) (hy : rdO (Fs i) S y = some b) (he : find1 T.elt t = some (none, e, agg, sz, by')) (hz : find1 T.zer e = some z) (hsl : rdSl (Fs i) S b sz = some (m, news, p)) (hzl : Nat.beq z.length sz = true)
    (her : (Fs i).er b' = true) (hG : S.G b' = some (r, .row (some e) sz l)) (hew : (Fs i).ew b' = true) (hw : (Fs i).sw d = true) (hp : p) (hle : n * sz ≤ l.length) (h1 : n + m ≤ maxLen) (h2 : (n + m) * by' ≤ 140737488355328)
    (k : runX Fs P T cf ops (i + 1) rest ((S.lay b' (some (r + 1, .row (some e) sz (l.take (n * sz) ++ news)))).put d (some (.g (.one (.sl b' (r + 1) (n + m)))))) K) : runA Fs P T cf ops i ⟨some d, .call { callee := .builtin .append, args := #[x, y], argTypes := #[t, t] }, ty, pos, af, g⟩ rest S K :=
  getO_of hx (getO_of hy (orFail_of he (orFail_of hz (getSl_of hsl hp (need_of ⟨rfl, rfl, Nat.eq_of_beq_eq_true hzl⟩ (getE_of her hG (need_of ⟨rfl, rfl, rfl, hle, h1, h2⟩ ⟨hew, putD_of hw k⟩)))))))
theorem r_boxV {t r : Nat} {cs : List AC} (hx : rdO (Fs i) S x = some a) (hc : cellsOf a = some cs) (hj : Nat.blt (nid d 0) 100000 = true) (her : (Fs i).er (nid d 0) = true) (hew : (Fs i).ew (nid d 0) = true) (hr : nvO S (nid d 0) = some r) (hw : (Fs i).sw d = true)
    (k : runX Fs P T cf ops (i + 1) rest ((S.lay (nid d 0) (some (r, .box cs))).put d (some (.g (.one (.ptr (nid d 0) r 0))))) K) : runA Fs P T cf ops i ⟨some d, .box t x, ty, pos, af, g⟩ rest S K :=
  r_box hx hc hj her hew (nvO_eq hr) hw k
theorem r_allocV {t r : Nat} {z : List Value} (hz : find1 T.zer t = some z) (hj : Nat.blt (nid d 0) 100000 = true) (her : (Fs i).er (nid d 0) = true) (hew : (Fs i).ew (nid d 0) = true) (hr : nvO S (nid d 0) = some r) (hw : (Fs i).sw d = true)
    (k : runX Fs P T cf ops (i + 1) rest ((S.lay (nid d 0) (some (r, .box (z.map .v)))).put d (some (.g (.one (.ptr (nid d 0) r 0))))) K) : runA Fs P T cf ops i ⟨some d, .alloc t, ty, pos, af, g⟩ rest S K :=
  r_alloc hz hj her hew (nvO_eq hr) hw k
end
section
variable {P : Program} {T : Tab} {cf : FuncId → Option (List AV → Option Tmp → AM)} {F : Ft} {Fs : Nat → Ft} {i : Nat} {rest : List Oper} {S : St} {K : St → Prop} {ops : Array Oper} {d : Tmp} {x y c : Operand} {a b : AV} {ty : TypeId} {pos : String} {af : Array Edge} {g : Option (Nat × Bool)}
theorem two_pow_le {n m : Nat} (h : n ≤ m) : (2 : Int) ^ n ≤ 2 ^ m := by
  have : 2 ^ n ≤ 2 ^ m := Nat.pow_le_pow_right (by omega) h
  exact_mod_cast this
theorem two_pow_pos (n : Nat) : (1 : Int) ≤ 2 ^ n := by
  have : 0 < (2 : Int) ^ n := Int.pow_pos (by omega)
  omega
/-- Work on small numbers, whose result is named. -/
theorem r_shlS {t yt : TypeId} {yk : IntKind} {m n : Int} (hx : rdV (Fs i) S x = some (.int .i64 m)) (hy : rdV (Fs i) S y = some (.int yk n)) (h0 : 0 ≤ n ∧ n ≤ 24) (h1 : 0 ≤ m ∧ m ≤ 65536) (hw : (Fs i).sw d = true)
    (k : ∀ q : Int, q = m * 2 ^ n.toNat → 0 ≤ q ∧ q ≤ m * 16777216 → runX Fs P T cf ops (i + 1) rest (S.put d (some (vI q))) K) : runA Fs P T cf ops i ⟨some d, .binOp .shl t x y yt, ty, pos, af, g⟩ rest S K := by
  have h2 := two_pow_le (n := n.toNat) (m := 24) (by omega)
  have h3 := two_pow_pos n.toNat
  have h4 : 0 ≤ m * 2 ^ n.toNat := Int.mul_nonneg h1.1 (by omega)
  have h5 : m * 2 ^ n.toNat ≤ m * 2 ^ 24 := Int.mul_le_mul_of_nonneg_left h2 h1.1
  refine r_shl hx hy (by omega) rfl ?_ hw (k _ rfl ⟨h4, by simpa using h5⟩)
  have : m * 2 ^ 24 ≤ 65536 * 2 ^ 24 := Int.mul_le_mul_of_nonneg_right h1.2 (by omega)
  omega
theorem r_shrS {t yt : TypeId} {yk : IntKind} {m n : Int} (hx : rdV (Fs i) S x = some (.int .i64 m)) (hy : rdV (Fs i) S y = some (.int yk n)) (h0 : 0 ≤ n ∧ n ≤ 64) (h1 : 0 ≤ m) (hw : (Fs i).sw d = true)
    (k : ∀ q : Int, q = m / 2 ^ n.toNat → 0 ≤ q ∧ q ≤ m → runX Fs P T cf ops (i + 1) rest (S.put d (some (vI q))) K) : runA Fs P T cf ops i ⟨some d, .binOp .shr t x y yt, ty, pos, af, g⟩ rest S K :=
  r_shr hx hy h0 hw (k _ rfl ⟨Int.ediv_nonneg h1 (by have := two_pow_pos n.toNat; omega), Int.ediv_le_self _ h1⟩)
theorem r_bitS {o : BinOp} {t yt : TypeId} {m n q0 : Int} (hx : rdV (Fs i) S x = some (.int .i64 m)) (hy : rdV (Fs i) S y = some (.int .i64 n)) (hq : bitI o m n = some q0) (h0 : 0 ≤ m ∧ m < 1099511627776) (h1 : 0 ≤ n ∧ n < 1099511627776) (hw : (Fs i).sw d = true)
    (k : ∀ q : Int, q = q0 → 0 ≤ q ∧ q < 1099511627776 → runX Fs P T cf ops (i + 1) rest (S.put d (some (vI q))) K) : runA Fs P T cf ops i ⟨some d, .binOp o t x y yt, ty, pos, af, g⟩ rest S K := by
  refine r_bit hx hy hq (by omega) (by omega) hw (k _ rfl ?_)
  have ha : m.toNat < 2 ^ 40 := by omega
  have hb : n.toNat < 2 ^ 40 := by omega
  have hand : m.toNat &&& n.toNat < 2 ^ 40 := Nat.lt_of_le_of_lt Nat.and_le_left ha
  have hor : m.toNat ||| n.toNat < 2 ^ 40 := Nat.or_lt_two_pow ha hb
  have hxor : m.toNat ^^^ n.toNat < 2 ^ 40 := Nat.xor_lt_two_pow ha hb
  cases o <;> simp only [bitI, Option.some.injEq] at hq <;> first | (cases hq; done) | (subst hq; omega)
theorem r_remS {t yt : TypeId} {m n : Int} (hx : rdV (Fs i) S x = some (.int .i64 m)) (hy : rdV (Fs i) S y = some (.int .i64 n)) (h0 : 0 ≤ m) (h1 : 1 ≤ n) (hw : (Fs i).sw d = true)
    (k : ∀ q : Int, q = m % n → 0 ≤ q ∧ q < n ∧ q ≤ m → runX Fs P T cf ops (i + 1) rest (S.put d (some (vI q))) K) : runA Fs P T cf ops i ⟨some d, .binOp .rem t x y yt, ty, pos, af, g⟩ rest S K :=
  r_rem hx hy h0 h1 hw (k _ rfl ⟨Int.emod_nonneg _ (by omega), Int.emod_lt_of_pos _ (by omega), by
    have := Int.emod_add_mul_ediv m n
    have h2 : 0 ≤ n * (m / n) := Int.mul_nonneg (by omega) (Int.ediv_nonneg h0 (by omega))
    omega⟩)
theorem r_quoS {t yt : TypeId} {m n : Int} (hx : rdV (Fs i) S x = some (.int .i64 m)) (hy : rdV (Fs i) S y = some (.int .i64 n)) (h0 : 0 ≤ m ∧ m ≤ 9223372036854775807) (h1 : 1 ≤ n) (hw : (Fs i).sw d = true)
    (k : ∀ q : Int, q = m / n → 0 ≤ q ∧ q ≤ m → runX Fs P T cf ops (i + 1) rest (S.put d (some (vI q))) K) : runA Fs P T cf ops i ⟨some d, .binOp .quo t x y yt, ty, pos, af, g⟩ rest S K :=
  r_quo hx hy h0 h1 hw (k _ rfl ⟨Int.ediv_nonneg h0.1 (by omega), Int.ediv_le_self _ h0.1⟩)
end
section
variable {P : Program} {T : Tab} {cf : FuncId → Option (List AV → Option Tmp → AM)} {F : Ft} {Fs : Nat → Ft} {i : Nat} {rest : List Oper} {S : St} {K : St → Prop} {ops : Array Oper} {d : Tmp} {x y c : Operand} {a b : AV} {ty : TypeId} {pos : String} {af : Array Edge} {g : Option (Nat × Bool)}
end
section
variable {P : Program} {T : Tab} {cf : FuncId → Option (List AV → Option Tmp → AM)} {F : Ft} {Fs : Nat → Ft} {i : Nat} {rest : List Oper} {S : St} {K : St → Prop} {ops : Array Oper} {d : Tmp} {x y c : Operand} {a b : AV} {ty : TypeId} {pos : String} {af : Array Edge} {g : Option (Nat × Bool)}
end
instance : Cel Int where
  f n := [.int .i64 n]
  un vs := match vs with
    | [.int .i64 n] => some n
    | _ => none
  sz := 1
  no := 0
  pos := by omega
  len _ := rfl
  one _ := rfl
  unf vs a h := by
    split at h
    · cases h; rfl
    · cases h
/-- A gate. -/
structure Gt where
  k : Int
  a : Int
  b : Int
  c : Int
  deriving DecidableEq
instance : Cel Gt where
  f g := [.int .i64 g.k, .int .i64 g.a, .int .i64 g.b, .int .i64 g.c]
  un vs := match vs with
    | [.int .i64 k, .int .i64 a, .int .i64 b, .int .i64 c] => some ⟨k, a, b, c⟩
    | _ => none
  sz := 4
  no := ⟨0, 0, 0, 0⟩
  pos := by omega
  len _ := rfl
  one _ := rfl
  unf vs a h := by
    split at h
    · cases h; rfl
    · cases h
end Go.Proofs.YtnenhckongccgaaGreatDoor

/- The abstract run: rules whose conditions are reckoned at one go. No program is named. -/
namespace Go.Proofs.YtnenhckongccgaaGreatDoor
set_option linter.unusedVariables false
set_option linter.unusedSimpArgs false
open Go.RowKit
section
variable {P : Program} {T : Tab} {cf : FuncId → Option (List AV → Option Tmp → AM)} {F : Ft} {Fs : Nat → Ft} {i : Nat} {rest : List Oper} {S S' : St} {K : St → Prop} {ops : Array Oper} {d : Tmp} {x y c : Operand} {a b : AV} {ty : TypeId} {pos : String} {af : Array Edge} {g : Option (Nat × Bool)} {v : AV} {p : Prop}
theorem bc {α : Type} {b : Bool} {x : Option α} {y : α} (h : (bif b then x else none) = some y) : b = true ∧ x = some y := by
  cases b with
  | true => exact ⟨rfl, h⟩
  | false => cases h
theorem b2 {a b : Bool} (h : (a && b) = true) : a = true ∧ b = true := by cases a <;> cases b <;> first | exact ⟨rfl, rfl⟩ | cases h
def evField (F : Ft) (T : Tab) (S : St) (x : Operand) (s f : Nat) : Option AV := match rdO F S x, find1 T.fld (s * 1000 + f) with
  | some (.g (.agg cs)), some (off, agg, size) => bif Nat.blt f 1000 && Nat.ble (off + size) cs.length then ofa agg ((cs.drop off).take size) else none
  | _, _ => none
theorem q_field {s f : Nat} (h : evField (Fs i) T S x s f = some v) (hw : (Fs i).sw d = true) (k : runX Fs P T cf ops (i + 1) rest (S.put d (some v)) K) : runA Fs P T cf ops i ⟨some d, .field s x f, ty, pos, af, g⟩ rest S K := by
  unfold evField at h
  split at h
  · rename_i cs off agg size hx hl
    replace h := bc h; obtain ⟨h1, h⟩ := h
    obtain ⟨h1, h2⟩ := b2 h1
    exact r_field hx hl h1 h2 h hw k
  · cases h
/-- New variables. -/
def evNew (F : Ft) (S : St) (d : Nat) (cs : List AC) : Option St := bif Nat.blt (nid d 0) 100000 && (F.er (nid d 0) && (F.ew (nid d 0) && F.sw d)) then (match nvO S (nid d 0) with
  | some r => some ((S.lay (nid d 0) (some (r, .box cs))).put d (some (.g (.one (.ptr (nid d 0) r 0)))))
  | none => none) else none
def evBox (F : Ft) (S : St) (d : Nat) (x : Operand) : Option St := match rdO F S x with
  | some a => match cellsOf a with
    | some cs => evNew F S d cs
    | none => none
  | none => none
theorem q_box {t : TypeId} (h : evBox (Fs i) S d x = some S') (k : runX Fs P T cf ops (i + 1) rest S' K) : runA Fs P T cf ops i ⟨some d, .box t x, ty, pos, af, g⟩ rest S K := by
  unfold evBox at h
  split at h
  · rename_i a hx
    split at h
    · rename_i cs hc
      unfold evNew at h
      replace h := bc h; obtain ⟨h1, h⟩ := h
      obtain ⟨h1, h2⟩ := b2 h1
      obtain ⟨h2, h3⟩ := b2 h2
      obtain ⟨h3, h4⟩ := b2 h3
      split at h
      · rename_i r hr
        cases h
        exact r_boxV hx hc h1 h2 h3 hr h4 k
      · cases h
    · cases h
  · cases h
def evAlloc (F : Ft) (T : Tab) (S : St) (d : Nat) (t : TypeId) : Option St := match find1 T.zer t with
  | some z => evNew F S d (z.map .v)
  | none => none
theorem q_alloc {t : TypeId} (h : evAlloc (Fs i) T S d t = some S') (k : runX Fs P T cf ops (i + 1) rest S' K) : runA Fs P T cf ops i ⟨some d, .alloc t, ty, pos, af, g⟩ rest S K := by
  unfold evAlloc at h
  split at h
  · rename_i z hz
    unfold evNew at h
    replace h := bc h; obtain ⟨h1, h⟩ := h
    obtain ⟨h1, h2⟩ := b2 h1
    obtain ⟨h2, h3⟩ := b2 h2
    obtain ⟨h3, h4⟩ := b2 h3
    split at h
    · rename_i r hr
      cases h
      exact r_allocV hz h1 h2 h3 hr h4 k
    · cases h
  · cases h
/-- A literal. -/
def evBuild (F : Ft) (T : Tab) (S : St) (t : TypeId) (ps : Array (Nat × Operand)) : Option AV := match rdPs F S ps.toList, find1 T.bld t with
  | some ls, some (z, places, esz) => match fillA (placeOf places esz) (z.map .v) ls with
    | some cs => some (.g (.agg cs))
    | none => none
  | _, _ => none
theorem q_build {t : TypeId} {ps : Array (Nat × Operand)} (h : evBuild (Fs i) T S t ps = some v) (hw : (Fs i).sw d = true) (k : runX Fs P T cf ops (i + 1) rest (S.put d (some v)) K) : runA Fs P T cf ops i ⟨some d, .build t ps, ty, pos, af, g⟩ rest S K := by
  unfold evBuild at h
  split at h
  · rename_i ls z places esz hp hb
    split at h
    · rename_i cs hf
      cases h
      exact r_build hp hb hf hw k
    · cases h
  · cases h
/-- A call: what is handed over, and what comes back. -/
def preC (F : Ft) (wt : WsT) (f : Nat) (S : St) (d : Nat) (aa : Option (List AV)) : Option (Bool × St × List AV × List (Nat × Nat) × List Ent × Prop) := match wsOf wt f, aa with
  | (ws, al), some aa => match (bif al then frzF F (cellsW (fun p => ws.any (Nat.beq p)) 0 aa) S else some S) with
    | some S1 => match nrmLf F S1 (fun p => ws.any (Nat.beq p)) 0 aa [] [] [] with
      | some (args', ids, es, vw, q) => bif callB ids vw al d then some (al, S1, args', ids, es, q) else none
      | none => none
    | none => none
  | _, none => none
def postC (F : Ft) (S1 : St) (al : Bool) (ids : List (Nat × Nat)) (es : List Ent) (d : Nat) (out : AV) (news es' : List Ent) : Option St := bif roB al out news es' && F.sw d then (match backF F S1 ids es es' with
  | some S2 => match newFv F d 0 news S2 with
    | some (rs, S3) => match renV2 ids rs d out with
      | some v => some (S3.put d (some v))
      | none => none
    | none => none
  | none => none) else none
def zArgs (z : Nat) (aa : Option (List AV)) : Option (List AV) := match aa with
  | some aa => nilL z aa
  | none => none
theorem q_callA (wt : WsT) (z : Nat) {f : FuncId} {al : Bool} {aa : List AV} {args' : List AV} {ids : List (Nat × Nat)} {es news es' : List Ent} {q : Prop} {out : AV} {S1 S3 : St}
    (h1 : preC F wt f S d (some (aa.map (AV.nilz z))) = some (al, S1, args', ids, es, q)) (hK : Kon P f args' es out news es') (h2 : postC F S1 al ids es d out news es' = some S3) (hq : q) (k : K S3) : (orFail (cfU P f) fun m => m aa (some d)).run F S K := by
  obtain ⟨C, hC, hCe⟩ := hK
  unfold preC at h1
  split at h1
  · rename_i ws al' aa' haa hab
    cases hab
    split at h1
    · rename_i S1' hfz
      split at h1
      · rename_i args2 ids2 es2 vw q2 hn
        replace h1 := bc h1; obtain ⟨hB, h1⟩ := h1
        cases h1
        unfold postC at h2
        replace h2 := bc h2; obtain ⟨h3, h2⟩ := h2
        obtain ⟨hro, hw⟩ := b2 h3
        split at h2
        · rename_i S2 hbk
          split at h2
          · rename_i rs S4 hnw
            split at h2
            · rename_i v hv
              cases h2
              have hv' := renV2_ok hv
              subst hv'
              exact cfU_run (ws := ws) (al := al) z hC (call_of (dst := some d) hfz hn hB hCe hro (by simp) hbk (newFv_ok _ hnw) hq (putD_of hw k))
            · cases h2
          · cases h2
        · cases h2
      · cases h1
    · cases h1
  · cases h1
theorem q_call (wt : WsT) {f : FuncId} {al : Bool} {args : Array Operand} {ts : Array TypeId} {args' : List AV} {ids : List (Nat × Nat)} {es news es' : List Ent} {q : Prop} {out : AV} {S1 S3 : St}
    (h1 : preC (Fs i) wt f S d (rdL (Fs i) S args.toList) = some (al, S1, args', ids, es, q)) (hK : Kon P f args' es out news es') (h2 : postC (Fs i) S1 al ids es d out news es' = some S3) (hq : q) (k : runX Fs P T (cfU P) ops (i + 1) rest S3 K) :
    runA Fs P T (cfU P) ops i ⟨some d, .call { callee := .value (.func f), args := args, argTypes := ts }, ty, pos, af, g⟩ rest S K := by
  cases ha : rdL (Fs i) S args.toList with
  | none => rw [ha] at h1; unfold preC at h1; split at h1 <;> simp_all
  | some aa =>
    rw [ha] at h1
    have h : (getL args.toList fun ls => orFail (cfU P f) fun m => m (ls ++ List.map (fun p => (.g (.one (.ptr p.1 p.2 0)) : AV)) ([] : List (Nat × Nat))) (some d)).run (Fs i) S (fun S' => runX Fs P T (cfU P) ops (i + 1) rest S' K) := by
      refine getL_of _ ha ?_
      rw [List.map_nil, List.append_nil]
      exact q_callA wt 0 (by rw [nilz_zero]; exact h1) hK h2 hq k
    exact h
theorem q_callZ (wt : WsT) (z : Nat) {f : FuncId} {al : Bool} {args : Array Operand} {ts : Array TypeId} {args' : List AV} {ids : List (Nat × Nat)} {es news es' : List Ent} {q : Prop} {out : AV} {S1 S3 : St}
    (h1 : preC (Fs i) wt f S d (zArgs z (rdL (Fs i) S args.toList)) = some (al, S1, args', ids, es, q)) (hK : Kon P f args' es out news es') (h2 : postC (Fs i) S1 al ids es d out news es' = some S3) (hq : q) (k : runX Fs P T (cfU P) ops (i + 1) rest S3 K) :
    runA Fs P T (cfU P) ops i ⟨some d, .call { callee := .value (.func f), args := args, argTypes := ts }, ty, pos, af, g⟩ rest S K := by
  cases ha : zArgs z (rdL (Fs i) S args.toList) with
  | none => rw [ha] at h1; unfold preC at h1; split at h1 <;> simp_all
  | some ab =>
    rw [ha] at h1
    cases ha2 : rdL (Fs i) S args.toList with
    | none => rw [ha2] at ha; cases ha
    | some aa =>
      rw [ha2] at ha
      have hz := nilL_eq (show nilL z aa = some ab from ha)
      subst hz
      have h : (getL args.toList fun ls => orFail (cfU P f) fun m => m (ls ++ List.map (fun p => (.g (.one (.ptr p.1 p.2 0)) : AV)) ([] : List (Nat × Nat))) (some d)).run (Fs i) S (fun S' => runX Fs P T (cfU P) ops (i + 1) rest S' K) := by
        refine getL_of _ ha2 ?_
        rw [List.map_nil, List.append_nil]
        exact q_callA wt z h1 hK h2 hq k
      exact h
/-- The call of a function in a variable. -/
def capArgs (aa : Option (List AV)) (caps : List (Nat × Nat)) : Option (List AV) := match aa with
  | some aa => some (aa ++ caps.map fun p => .g (.one (.ptr p.1 p.2 0)))
  | none => none
theorem q_callV (wt : WsT) {f : FuncId} {caps : List (Nat × Nat)} {al : Bool} {args : Array Operand} {ts : Array TypeId} {args' : List AV} {ids : List (Nat × Nat)} {es news es' : List Ent} {q : Prop} {out : AV} {S1 S3 : St}
    (hc : rdO (Fs i) S c = some (.g (.one (.fn f caps)))) (h1 : preC (Fs i) wt f S d (capArgs (rdL (Fs i) S args.toList) caps) = some (al, S1, args', ids, es, q)) (hK : Kon P f args' es out news es') (h2 : postC (Fs i) S1 al ids es d out news es' = some S3) (hq : q) (k : runX Fs P T (cfU P) ops (i + 1) rest S3 K) :
    runA Fs P T (cfU P) ops i ⟨some d, .call { callee := .value c, args := args, argTypes := ts }, ty, pos, af, g⟩ rest S K := by
  cases ha : rdL (Fs i) S args.toList with
  | none => rw [ha] at h1; unfold preC capArgs at h1; split at h1 <;> simp_all
  | some aa =>
    rw [ha] at h1
    refine getO_of (k := fun a => match a with
        | .g (.one (.fn f caps)) => getL args.toList fun as => orFail (cfU P f) fun m => m (as ++ caps.map fun p => .g (.one (.ptr p.1 p.2 0))) (some d)
        | _ => .fail) hc ?_
    refine getL_of _ ha ?_
    exact q_callA wt 0 (by rw [nilz_zero]; exact h1) hK h2 hq k
/-- Calls, for whatever contract is found. -/
def CallK (P : Program) (F : Ft) (d : Nat) (f : FuncId) (K : St → Prop) : Bool × St × List AV × List (Nat × Nat) × List Ent × Prop → Prop
  | (al, S1, args', ids, es, q) => ∃ out news es', Kon P f args' es out news es' ∧ ∃ S3, postC F S1 al ids es d out news es' = some S3 ∧ q ∧ K S3
def wszOf (t : List (Nat × Nat)) (f : Nat) : Nat := match find1 t f with
  | some x => x
  | none => 0
def zA (z : Nat) (aa : Option (List AV)) : Option (List AV) := bif Nat.beq z 0 then aa else zArgs z aa
theorem q_callE (wt : WsT) (zt : List (Nat × Nat)) {f : FuncId} {args : Array Operand} {ts : Array TypeId} {r : Bool × St × List AV × List (Nat × Nat) × List Ent × Prop}
    (h1 : preC (Fs i) wt f S d (zA (wszOf zt f) (rdL (Fs i) S args.toList)) = some r) (h : CallK P (Fs i) d f (fun S3 => runX Fs P T (cfU P) ops (i + 1) rest S3 K) r) :
    runA Fs P T (cfU P) ops i ⟨some d, .call { callee := .value (.func f), args := args, argTypes := ts }, ty, pos, af, g⟩ rest S K := by
  obtain ⟨al, S1, args', ids, es, q⟩ := r
  obtain ⟨out, news, es', hK, S3, h2, hq, k⟩ := h
  cases hz : Nat.beq (wszOf zt f) 0 with
  | true =>
    unfold zA at h1
    rw [hz] at h1
    exact q_call wt h1 hK h2 hq k
  | false =>
    unfold zA at h1
    rw [hz] at h1
    exact q_callZ wt _ h1 hK h2 hq k
theorem q_callVE (wt : WsT) {f : FuncId} {caps : List (Nat × Nat)} {args : Array Operand} {ts : Array TypeId} {r : Bool × St × List AV × List (Nat × Nat) × List Ent × Prop}
    (hc : rdO (Fs i) S c = some (.g (.one (.fn f caps)))) (h1 : preC (Fs i) wt f S d (capArgs (rdL (Fs i) S args.toList) caps) = some r) (h : CallK P (Fs i) d f (fun S3 => runX Fs P T (cfU P) ops (i + 1) rest S3 K) r) :
    runA Fs P T (cfU P) ops i ⟨some d, .call { callee := .value c, args := args, argTypes := ts }, ty, pos, af, g⟩ rest S K := by
  obtain ⟨al, S1, args', ids, es, q⟩ := r
  obtain ⟨out, news, es', hK, S3, h2, hq, k⟩ := h
  exact q_callV wt hc h1 hK h2 hq k
/-- A slice that gets no more room. -/
def evClip (F : Ft) (S : St) (d : Nat) (aa : Option (List AV)) : Option (St × Prop) := match aa with
  | some [.g (.one (.sl j r n))] => bif F.er j && (F.ew j && F.sw d) then (match S.G j with
    | some (r', .row e z l) => some ((S.lay j (some (r + 1, .row e z l))).put d (some (.g (.one (.sl j (r + 1) n)))), r = r' ∧ l.length = n * z ∧ 0 < z)
    | _ => none) else none
  | _ => none
theorem q_clip {f : FuncId} {args : Array Operand} {ts : Array TypeId} (h1 : evClip (Fs i) S d (rdL (Fs i) S args.toList) = some (S', p)) (hf : IsClip P f) (hp : p) (k : runX Fs P T (cfU P) ops (i + 1) rest S' K) :
    runA Fs P T (cfU P) ops i ⟨some d, .call { callee := .value (.func f), args := args, argTypes := ts }, ty, pos, af, g⟩ rest S K := by
  cases ha : rdL (Fs i) S args.toList with
  | none => rw [ha] at h1; cases h1
  | some aa =>
    rw [ha] at h1
    unfold evClip at h1
    split at h1
    · rename_i j r n haa
      cases haa
      replace h1 := bc h1
      obtain ⟨hc, h1⟩ := h1
      obtain ⟨her, hc⟩ := b2 hc
      obtain ⟨hew, hw⟩ := b2 hc
      split at h1
      · rename_i r' e z l hG
        cases h1
        have h : (getL args.toList fun ls => orFail (cfU P f) fun m => m (ls ++ List.map (fun p => (.g (.one (.ptr p.1 p.2 0)) : AV)) ([] : List (Nat × Nat))) (some d)).run (Fs i) S (fun S' => runX Fs P T (cfU P) ops (i + 1) rest S' K) := by
          refine getL_of _ ha ?_
          rw [List.map_nil, List.append_nil]
          exact cfU_clip hf (getE_of her hG (need_of hp ⟨hew, putD_of hw k⟩))
        exact h
      · cases h1
    · cases h1
/-- Elements that are cut out of a slice. -/
def evDel (e0 : TypeId) (z0 : Nat) (F : Ft) (S : St) (d : Nat) (aa : Option (List AV)) : Option (St × Prop) := match aa with
  | some [.g (.one (.sl j r n)), .g (.one (.v (.int .i64 a))), .g (.one (.v (.int .i64 b)))] => bif F.er j && (F.ew j && F.sw d) then (match S.G j with
    | some (r', .row e z l) => some ((S.lay j (some (r + 1, .row e z (l.take (a.toNat * z) ++ l.drop (b.toNat * z))))).put d (some (.g (.one (.sl j (r + 1) (n - (b - a).toNat))))), r = r' ∧ l.length = n * z ∧ 0 < z ∧ z = z0 ∧ e = some e0 ∧ 0 ≤ a ∧ a < b ∧ b ≤ n)
    | _ => none) else none
  | _ => none
theorem q_del {f : FuncId} {e0 : TypeId} {z0 : Nat} {args : Array Operand} {ts : Array TypeId} (h1 : evDel e0 z0 (Fs i) S d (rdL (Fs i) S args.toList) = some (S', p)) (hf : IsDel P f e0 z0) (hp : p) (k : runX Fs P T (cfU P) ops (i + 1) rest S' K) :
    runA Fs P T (cfU P) ops i ⟨some d, .call { callee := .value (.func f), args := args, argTypes := ts }, ty, pos, af, g⟩ rest S K := by
  cases ha : rdL (Fs i) S args.toList with
  | none => rw [ha] at h1; cases h1
  | some aa =>
    rw [ha] at h1
    unfold evDel at h1
    split at h1
    · rename_i j r n a b haa
      cases haa
      replace h1 := bc h1
      obtain ⟨hc, h1⟩ := h1
      obtain ⟨her, hc⟩ := b2 hc
      obtain ⟨hew, hw⟩ := b2 hc
      split at h1
      · rename_i r' e z l hG
        cases h1
        have h : (getL args.toList fun ls => orFail (cfU P f) fun m => m (ls ++ List.map (fun p => (.g (.one (.ptr p.1 p.2 0)) : AV)) ([] : List (Nat × Nat))) (some d)).run (Fs i) S (fun S' => runX Fs P T (cfU P) ops (i + 1) rest S' K) := by
          refine getL_of _ ha ?_
          rw [List.map_nil, List.append_nil]
          exact cfU_del hf (getE_of her hG (need_of hp ⟨hew, putD_of hw k⟩))
        exact h
      · cases h1
    · cases h1
theorem isClip_mk {f : FuncId} {fn : Func} {c : Code} (hf : P.funcs[f]? = some fn) (hb : fn.body = some c) (hn : (fn.name == "runtime.NumGoroutine") = false) (h : ∀ A n c w, n ≤ c → c ≤ 9223372036854775807 → Calls P f #[.slice A n c] w fun e w' => e = .returned (.slice A n n) ∧ w = w') : IsClip P f := ⟨enters_of hf hb hn, h⟩
end
end Go.Proofs.YtnenhckongccgaaGreatDoor
