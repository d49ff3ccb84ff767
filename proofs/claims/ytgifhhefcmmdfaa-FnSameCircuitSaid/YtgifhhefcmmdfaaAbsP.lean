/- The abstract run, sixteenth part: a function that keeps its contract can be called by it. No program is named. -/
import Derived.Test.YtgifhhefcmmdfaaAbsO
namespace Go.Proofs.Ytgifhhefcmmdfaa
set_option linter.unusedVariables false
open Go.RowKit

theorem good_of_con {P : Program} {f : FuncId} {C : Fn3} (hC : ConOk P f C) (wr : Nat → Bool) (al : Bool) : GoodCall P f (callM C wr al) := by
  refine ⟨hC.enters, ?_⟩
  intro F S0 K aa dst h w0 M N b0 nt βa w tm vs hd hsa hargs
  -- own rows that are only read from now on
  have hfrz : ∃ S β, (nrmL wr 0 aa [] [] [] fun args' ids es vw => .need ((ids.map (·.1)).Nodup ∧ (∀ i ∈ vw, i ∉ ids.map (·.1)) ∧ (al = true → vw = []) ∧ (∀ i ∈ ids.map (·.1), i / 16 ≠ dst.getD 0)) <|
      orFail (C args' es) fun (out, news, es') => .need (al = true ∨ (out.noro = true ∧ news.all Ent.noro = true ∧ (es'.all fun e => match e with | .rbx _ => true | e => e.noro) = true)) <|
      .need (news = [] ∨ dst.isSome = true) <|
      backL ids es es' <| newL (dst.getD 0) 0 news fun rs => callM.putD' dst (out.ren fun i => if 100000 ≤ i then (ids[i - 100000]?).getD (0, 0) else (nid (dst.getD 0) i, (rs[i]?).getD 0))).run F S K ∧
      Sim w0 M N b0 nt β S w tm ∧ ArgsRep w β S.G (okB w0 N β S.G w) aa vs := by
    unfold callM at h
    cases al with
    | false => exact ⟨S0, βa, h, hsa, hargs⟩
    | true =>
      obtain ⟨S1, β1, h1, h2, h3, h4⟩ := frzL_run _ h hsa
      exact ⟨S1, β1, h1, h2, hargs.1, fun j a hj => let ⟨z, hz, hr⟩ := hargs.2 j a hj; ⟨z, hz, h4 a z hr⟩⟩
  clear h hsa hargs
  obtain ⟨S, β, h, hs, hargs⟩ := hfrz
  obtain ⟨args', ids, es, vw, h, hmore, hlen, hrep⟩ := nrmL_run hs aa vs.toList h (by simpa using hargs.1) (fun j a hj => let ⟨z, hz, hr⟩ := hargs.2 j a hj; ⟨z, by simpa using hz, hr⟩) ⟨rfl, fun j p e hj he => by simp at hj⟩
  have hacc := hmore.acc
  obtain ⟨⟨hnd, hvw, hal, hidd⟩, h⟩ := h
  obtain ⟨⟨out, news, es'⟩, hCe, h⟩ := orFail_run h
  obtain ⟨hro, hdst, h⟩ := h
  -- the callee's beginning
  let βc : Nat → Value := fun i => if 100000 ≤ i then (match ids[i - 100000]? with | some p => β p.1 | none => undef) else undef
  have hβc : ∀ (j : Nat) (p : Nat × Nat), ids[j]? = some p → βc (100000 + j) = β p.1 := fun j p hp => by simp [βc, hp]
  have hGin : ∀ i r e, Gin es i = some (r, e) → r = 0 ∧ ∃ (j : Nat) (p : Nat × Nat), i = 100000 + j ∧ es[j]? = some e ∧ ids[j]? = some p ∧ βc i = β p.1 ∧ RefOk w β S.G (okB w0 N β S.G w) vw p e := by
    intro i r e hi
    unfold Gin at hi
    split at hi
    · rename_i hge
      simp only [Option.map_eq_some_iff, Prod.mk.injEq] at hi
      obtain ⟨e0, he0, h0, rfl⟩ := hi
      have hlt : i - 100000 < ids.length := by rw [hacc.len]; exact (List.getElem?_eq_some_iff.1 he0).1
      have hp : ids[i - 100000]? = some ids[i - 100000] := List.getElem?_eq_getElem hlt
      have ei : i = 100000 + (i - 100000) := by omega
      exact ⟨h0.symm, i - 100000, _, ei, he0, hp, by have h1 := hβc _ _ hp; rwa [← ei] at h1, hacc.ent _ _ _ hp he0⟩
    · cases hi
  have hGin2 : ∀ (j : Nat) (e : Ent), es[j]? = some e → Gin es (100000 + j) = some (0, e) := fun j e he => by
    unfold Gin
    rw [if_pos (by omega), show 100000 + j - 100000 = j by omega, he]; rfl
  -- a live block handed over is a live own block
  have hlive : ∀ (p : Nat × Nat) (e : Ent), RefOk w β S.G (okB w0 N β S.G w) vw p e → e.live → S.G p.1 = some (p.2, e) := by
    intro p e hr hl
    cases e with
    | box cs => exact hr.1
    | row a b c => exact hr
    | fro a b => exact hl.elim
    | rbx cs => exact hl.elim
  have hownc : ∀ b, ownB βc (Gin es) b → ∃ (j : Nat) (p : Nat × Nat) (e : Ent), ids[j]? = some p ∧ es[j]? = some e ∧ e.live ∧ S.G p.1 = some (p.2, e) ∧ blk? (β p.1) = some b := by
    rintro b ⟨i, r, e, hi, hl, hb⟩
    obtain ⟨_, j, p, rfl, he, hp, hβ, hr⟩ := hGin i r e hi
    exact ⟨j, p, e, hp, he, hl, hlive p e hr hl, by rw [← hβ]; exact hb⟩
  have hMc : ∀ b, Mof βc es b → ∃ (j : Nat) (p : Nat × Nat) (e : Ent), ids[j]? = some p ∧ es[j]? = some e ∧ e.live ∧ S.G p.1 = some (p.2, e) ∧ blk? (β p.1) = some b := by
    rintro b ⟨j, e, he, hl, hb⟩
    exact hownc b ⟨100000 + j, 0, e, hGin2 j e he, hl, hb⟩
  let Nc : Nat → Prop := fun b => b < w.heap.size ∧ ¬ Mof βc es b ∧ (al = true → okB w0 N β S.G w b)
  have hVW : ∀ b, VW β S.G vw b → b < w.heap.size ∧ ¬ ownB βc (Gin es) b := by
    rintro b ⟨i, hi, r, e, hG, hl, hb⟩
    refine ⟨(hs.fresh i r e b hG hl hb).1, fun ho => ?_⟩
    obtain ⟨j, p, e', hp, he', hl', hG', hb'⟩ := hownc b ho
    have := hs.apart i p.1 r e p.2 e' b hG hl hG' hl' hb hb'
    exact hvw i hi (by rw [this]; exact List.mem_map_of_mem (f := (·.1)) (List.mem_of_getElem? hp))
  have hMown : ∀ b, Mof βc es b → ownB βc (Gin es) b := by
    rintro b ⟨j, e, he, hl, hb⟩
    exact ⟨100000 + j, 0, e, hGin2 j e he, hl, hb⟩
  have hreads : Reads β S.G (okB w0 N β S.G w) vw (okB w Nc βc (Gin es) w) := by
    intro b hb
    rcases hb with hb | hb
    · have hno : ¬ ownB βc (Gin es) b := fun ho => by
        obtain ⟨j, p, e, _, _, hl, hG, hbp⟩ := hownc b ho
        exact hb.2.1 ⟨p.1, p.2, e, hG, hl, hbp⟩
      exact ⟨hb.1, hno, fun _ => ⟨hb.1, fun hM => hno (hMown b hM), fun _ => hb⟩⟩
    · obtain ⟨h1, h2⟩ := hVW b hb
      refine ⟨h1, h2, fun _ => ⟨h1, fun hM => h2 (hMown b hM), fun ha => ?_⟩⟩
      have := hal ha
      subst this
      obtain ⟨i, hi, _⟩ := hb
      cases hi
  have hhands : Hands β βc (Gin es) ids := fun j p hp => by
    have hlt : j < es.length := by rw [← hacc.len]; exact (List.getElem?_eq_some_iff.1 hp).1
    exact ⟨⟨es[j], hGin2 j _ (List.getElem?_eq_getElem hlt)⟩, hβc j p hp⟩
  have hinit : Sim w (Mof βc es) Nc βc vs.size βc ⟨argsE args', Gin es⟩ w vs := by
    refine ⟨rfl, rfl, rfl, Nat.le_refl _, fun _ _ _ => rfl, ?_, ?_, ?_, fun _ _ _ _ => rfl, rfl, ?_⟩
    · intro i r e hi
      obtain ⟨_, j, p, rfl, he, hp, hβ, hr⟩ := hGin i r e hi
      cases e with
      | box cs =>
        obtain ⟨hG, hon⟩ := hr
        obtain ⟨g, vs', t, e1, e2, e3⟩ := hs.ents p.1 p.2 _ hG
        exact ⟨g, vs', t, hβ.trans e1, e2, e3.1, fun j c hj => let ⟨z, hz, hrz⟩ := e3.2 j c hj; ⟨z, hz, noref ((List.all_eq_true.1 hon) c (List.mem_of_getElem? hj)) (fun b hb => hreads b (.inl hb)) hrz⟩⟩
      | row a b c =>
        obtain ⟨h0, e', n, h1, h2⟩ := hs.ents p.1 p.2 _ hr
        exact ⟨h0, e', n, h1, by rw [hβ]; exact h2⟩
      | fro a b => exact hr.elim
      | rbx cs =>
        obtain ⟨⟨cs0, hG⟩, g, vs', t, fr, e1, e2, e3⟩ := hr
        refine ⟨g, vs', t, fr, hβ.trans e1, e2, e3 _ _ _ hreads, fun ho => ?_⟩
        obtain ⟨j', q, e', hq, he', hl', hGq, hbq⟩ := hownc g ho
        have hbp : blk? (β p.1) = some g := by rw [e1]; rfl
        rcases hG with hG | hG
        · have hpq := hs.apart p.1 q.1 p.2 _ q.2 e' g hG trivial hGq hl' hbp hbq
          have h1 : (ids.map (·.1))[j]? = some p.1 := by simp [hp]
          have h2 : (ids.map (·.1))[j']? = some p.1 := by simp [hq, hpq]
          have hjj : j = j' := (List.getElem?_inj (List.getElem?_eq_some_iff.1 h1).1 hnd).1 (h1.trans h2.symm)
          subst hjj
          rw [he] at he'
          cases he'
          exact hl'.elim
        · obtain ⟨g2, vs2, t2, fr2, f1, f2, f3, f4⟩ := hs.ents p.1 p.2 _ hG
          rw [e1] at f1
          cases f1
          exact f4 ⟨q.1, q.2, e', hGq, hl', hbq⟩
    · intro i i' r e r' e' b hi hl hi' hl' hb hb'
      obtain ⟨_, j, p, rfl, he, hp, hβ, hr⟩ := hGin i r e hi
      obtain ⟨_, j', p', rfl, he', hp', hβ', hr'⟩ := hGin i' r' e' hi'
      have hpq := hs.apart p.1 p'.1 p.2 e p'.2 e' b (hlive p e hr hl) hl (hlive p' e' hr' hl') hl' (by rw [← hβ]; exact hb) (by rw [← hβ']; exact hb')
      have h1 : (ids.map (·.1))[j]? = some p.1 := by simp [hp]
      have h2 : (ids.map (·.1))[j']? = some p.1 := by simp [hp', hpq]
      have hjj : j = j' := (List.getElem?_inj (List.getElem?_eq_some_iff.1 h1).1 hnd).1 (h1.trans h2.symm)
      rw [hjj]
    · intro i r e b hi hl hb
      obtain ⟨_, j, p, rfl, he, hp, hβ, hr⟩ := hGin i r e hi
      refine ⟨(hs.fresh p.1 p.2 e b (hlive p e hr hl) hl (by rw [← hβ]; exact hb)).1, .inr ⟨⟨j, e, he, hl, hb⟩, by omega⟩⟩
    · intro i a ha
      have hj : args'[i]? = some a := ha
      obtain ⟨z, hz, hr⟩ := hrep i a hj
      have hz' : vs[i]? = some z := by simpa using hz
      have hlt : i < vs.size := (Array.getElem?_eq_some_iff.1 hz').1
      refine ⟨hlt, ?_⟩
      have e1 : vs.getD i undef = z := by rw [Array.getD_eq_getD_getElem?, hz']; rfl
      rw [e1]
      exact hr _ _ _ hreads hhands
  have hcall := hC.does args' es out news es' hCe w vs βc Nc (fun b hb => ⟨hb.1, hb.2.1⟩) hinit (by rw [hlen]; exact hargs.1)
  obtain ⟨h, hkind⟩ := backL_run ids es es' h
  obtain ⟨rs, G', h, hrs, hG'out, hG'new⟩ := newL_run news 0 h
  refine hcall.mono ?_
  rintro e w' ⟨v, βe, rfl, hse, hout, hel, hon', hrefs⟩
  have hdin : ∀ (k : Nat), k < news.length → ∀ p ∈ ids, p.1 ≠ nid (dst.getD 0) k := by
    intro k hk p hp he
    have h1 := hidd p.1 (List.mem_map_of_mem (f := (·.1)) hp)
    obtain ⟨_, _, hk16, _⟩ := hG'new k _ (List.getElem?_eq_getElem hk)
    have hk : k < 16 := by omega
    have h2 : nid (dst.getD 0) k / 16 = dst.getD 0 := by unfold nid; omega
    rw [he] at h1
    exact h1 h2
  have hesl : ∀ (j : Nat) (e : Ent), es[j]? = some e → e.live ∨ ∃ cs, e = .rbx cs := by
    intro j e he
    have hlt : j < ids.length := by rw [hacc.len]; exact (List.getElem?_eq_some_iff.1 he).1
    have hr := hacc.ent j _ e (List.getElem?_eq_getElem hlt) he
    cases e with
    | box cs => exact .inl trivial
    | row a b c => exact .inl trivial
    | fro a b => exact hr.elim
    | rbx cs => exact .inr ⟨cs, rfl⟩
  -- the caller's blocks behind the call
  have hGref : ∀ (j : Nat) (p : Nat × Nat) (e e' : Ent), ids[j]? = some p → es[j]? = some e → e.live → es'[j]? = some e' → G' p.1 = some (p.2, e') := by
    intro j p e e' hp he hl he'
    rw [hG'out p.1 (fun m hm => by rw [Nat.zero_add]; exact hdin m hm p (List.mem_of_getElem? hp))]
    exact backG_at ids es es' S.G hnd hkind hesl hel j p e e' hp he hl he'
  have hGsame : ∀ i, (∀ m, m < news.length → i ≠ nid (dst.getD 0) m) → (∀ (j : Nat) (p : Nat × Nat) (e : Ent), ids[j]? = some p → es[j]? = some e → e.live → p.1 ≠ i) → G' i = S.G i := by
    intro i h1 h2
    rw [hG'out i (fun m hm => by rw [Nat.zero_add]; exact h1 m hm)]
    exact backG_out ids es es' S.G h2
  let d := dst.getD 0
  let βn : Nat → Value := fun i => if i / 16 = d ∧ i % 16 < news.length then βe (i % 16) else β i
  have hn16 : ∀ k, k < news.length → k < 16 := fun k hk => by
    obtain ⟨_, _, hk16, _⟩ := hG'new k _ (List.getElem?_eq_getElem hk)
    omega
  have hβn1 : ∀ k, k < news.length → βn (nid d k) = βe k := fun k hk => by
    have := hn16 k hk
    have e1 : nid d k / 16 = d := by unfold nid; omega
    have e2 : nid d k % 16 = k := by unfold nid; omega
    simp [βn, e1, e2, hk]
  have hβn2 : ∀ i, (∀ m, m < news.length → i ≠ nid d m) → βn i = β i := fun i hi => by
    have : ¬ (i / 16 = d ∧ i % 16 < news.length) := fun ⟨h1, h2⟩ => hi (i % 16) h2 (by unfold nid; omega)
    simp [βn, this]
  have hGnew : ∀ (k : Nat) (e : Ent), news[k]? = some e → e.live ∧ e.on (fun _ => false) = true ∧ nid d k < 100000 ∧ ∃ r, rs[k]? = some r ∧ G' (nid d k) = some (r, e) ∧ ∀ r1 e1, S.G (nid d k) = some (r1, e1) → r1 < r := by
    intro k e he
    obtain ⟨q1, q2, q3, q4, r, q5, q6, q7⟩ := hG'new k e he
    rw [Nat.zero_add] at q4 q6 q7
    refine ⟨q1, q2, q4, r, q5, q6, fun r1 e1 hg => q7 r1 e1 ?_⟩
    have hk : k < news.length := (List.getElem?_eq_some_iff.1 he).1
    show backG S.G ids es es' (nid (dst.getD 0) k) = _
    rw [backG_out ids es es' S.G (fun j p e hp _ _ => hdin k hk p (List.mem_of_getElem? hp))]
    exact hg
  have hpinj : ∀ (j : Nat) (p : Nat × Nat), ids[j]? = some p → j < es'.length → βe (100000 + j) = β p.1 := by
    intro j p hp hj
    have hgo : Gout news es' (100000 + j) = some (0, es'[j]) := by
      unfold Gout
      rw [if_pos (by omega), show 100000 + j - 100000 = j by omega, List.getElem?_eq_getElem hj]; rfl
    rw [hse.pin (100000 + j) _ (by omega) hgo, hβc j p hp]
  let Ch : Nat → Prop := fun i => (∃ k, k < news.length ∧ i = nid d k) ∨ (∃ (j : Nat) (p : Nat × Nat) (e : Ent), ids[j]? = some p ∧ es[j]? = some e ∧ e.live ∧ p.1 = i)
  have href_new : ∀ (j : Nat) (p : Nat × Nat), ids[j]? = some p → ∀ m, m < news.length → p.1 ≠ nid d m := fun j p hp m hm => hdin m hm p (List.mem_of_getElem? hp)
  have hes'j : ∀ (j : Nat) (e : Ent), es[j]? = some e → e.live → ∃ e', es'[j]? = some e' ∧ Alike e e' := hkind
  have hGoutnew : ∀ (k : Nat) (e : Ent), news[k]? = some e → k < 100000 → Gout news es' k = some (0, e) := fun k e he hk => by
    unfold Gout
    rw [if_neg (by omega), he]; rfl
  have hGoutref : ∀ (j : Nat) (e : Ent), es'[j]? = some e → Gout news es' (100000 + j) = some (0, e) := fun j e he => by
    unfold Gout
    rw [if_pos (by omega), show 100000 + j - 100000 = j by omega, he]; rfl
  have hk100 : ∀ k, k < news.length → k < 100000 := fun k hk => by have := hn16 k hk; omega
  have hchange := hs.change (w' := w') (β' := βn) Ch G' hse.os hse.tape hse.output hse.size
    (fun i hi => by
      have h1 : ∀ m, m < news.length → i ≠ nid d m := fun m hm he => hi (.inl ⟨m, hm, he⟩)
      exact ⟨hGsame i h1 (fun j p e hp he hl hpi => hi (.inr ⟨j, p, e, hp, he, hl, hpi⟩)), hβn2 i h1⟩)
    (fun i r e hi hG => by
      rcases hi with ⟨k, hk, rfl⟩ | ⟨j, p, e0, hp, he0, hl, rfl⟩
      · obtain ⟨_, _, _, r', _, q1, q2⟩ := hGnew k _ (List.getElem?_eq_getElem hk)
        have := q2 r e hG
        exact ⟨r', _, q1, by omega, fun he => by omega⟩
      · obtain ⟨e', he', _⟩ := hes'j j e0 he0 hl
        have hS := hlive p e0 (hacc.ent j p e0 hp he0) hl
        have hgr := hGref j p e0 e' hp he0 hl he'
        rw [hS] at hG
        cases hG
        exact ⟨p.2, e', hgr, Nat.le_refl _, fun _ => hβn2 p.1 (href_new j p hp)⟩)
    (fun k hk hne => by
      refine hse.block k hk fun hM => ?_
      obtain ⟨j, p, e, hp, he, hl, hG, hb⟩ := hMc k hM
      exact hne p.1 p.2 e (.inr ⟨j, p, e, hp, he, hl, rfl⟩) hG hl hb)
    (fun i r e b hi hG hl hb => by
      rcases hi with ⟨k, hk, rfl⟩ | ⟨j, p, e0, hp, he0, hl0, rfl⟩
      · rw [hβn1 k hk] at hb
        obtain ⟨q0, _, _, r', _, q1, _⟩ := hGnew k _ (List.getElem?_eq_getElem hk)
        obtain ⟨f1, f2⟩ := hse.fresh k 0 _ b (hGoutnew k _ (List.getElem?_eq_getElem hk) (hk100 k hk)) q0 hb
        refine ⟨f1, .inl ?_⟩
        rcases f2 with f2 | ⟨_, f2⟩
        · exact f2
        · have := hk100 k hk; omega
      · rw [hβn2 p.1 (href_new j p hp)] at hb
        have hS := hlive p e0 (hacc.ent j p e0 hp he0) hl0
        have hf := hs.fresh p.1 p.2 e0 b hS hl0 hb
        have := hse.size
        exact ⟨by omega, .inr ⟨p.2, e0, hS, hl0, hb⟩⟩)
    (fun i hi hge => by
      rcases hi with ⟨k, hk, rfl⟩ | ⟨j, p, e0, hp, he0, hl0, rfl⟩
      · obtain ⟨_, _, q, _⟩ := hGnew k _ (List.getElem?_eq_getElem hk)
        omega
      · exact ⟨_, hlive p e0 (hacc.ent j p e0 hp he0) hl0⟩)
    (fun i i' r e r' e' b hi hi' hG hl hG' hl' hwb hb hb' => by
      rcases hi with ⟨k, hk, rfl⟩ | ⟨j, p, e0, hp, he0, hl0, rfl⟩
      · rcases hi' with ⟨k', hk', rfl⟩ | ⟨j', p', e0', hp', he0', hl0', rfl⟩
        · rw [hβn1 k hk] at hb
          rw [hβn1 k' hk'] at hb'
          obtain ⟨q0, _⟩ := hGnew k _ (List.getElem?_eq_getElem hk)
          obtain ⟨q0', _⟩ := hGnew k' _ (List.getElem?_eq_getElem hk')
          rw [hse.apart k k' 0 _ 0 _ b (hGoutnew k _ (List.getElem?_eq_getElem hk) (hk100 k hk)) q0 (hGoutnew k' _ (List.getElem?_eq_getElem hk') (hk100 k' hk')) q0' hb hb']
        · rw [hβn2 p'.1 (href_new j' p' hp')] at hb'
          have := (hs.fresh p'.1 p'.2 e0' b (hlive p' e0' (hacc.ent j' p' e0' hp' he0') hl0') hl0' hb').1
          omega
      · rw [hβn2 p.1 (href_new j p hp)] at hb
        have := (hs.fresh p.1 p.2 e0 b (hlive p e0 (hacc.ent j p e0 hp he0) hl0) hl0 hb).1
        omega)
  -- what may be read behind the call
  have hokn : al = true → ∀ b, okB w Nc βe (Gout news es') w' b → okB w0 N βn G' w' b := by
    intro ha b ⟨q1, q2, q3⟩
    refine ⟨q1, ?_, fun hlt => ?_⟩
    · rintro ⟨i, r, e, hi, hl, hb⟩
      by_cases hci : Ch i
      · rcases hci with ⟨k, hk, rfl⟩ | ⟨j, p, e0, hp, he0, hl0, rfl⟩
        · rw [hβn1 k hk] at hb
          obtain ⟨q0, _⟩ := hGnew k _ (List.getElem?_eq_getElem hk)
          exact q2 ⟨k, 0, _, hGoutnew k _ (List.getElem?_eq_getElem hk) (hk100 k hk), q0, hb⟩
        · obtain ⟨e', he', hal'⟩ := hes'j j e0 he0 hl0
          rw [hβn2 p.1 (href_new j p hp), ← hpinj j p hp (List.getElem?_eq_some_iff.1 he').1] at hb
          exact q2 ⟨100000 + j, 0, e', hGoutref j e' he', hal'.live, hb⟩
      · have h1 : ∀ m, m < news.length → i ≠ nid d m := fun m hm he => hci (.inl ⟨m, hm, he⟩)
        rw [hGsame i h1 (fun j p e hp he hl hpi => hci (.inr ⟨j, p, e, hp, he, hl, hpi⟩))] at hi
        rw [hβn2 i h1] at hb
        have hf := hs.fresh i r e b hi hl hb
        exact ((q3 hf.1).2.2 ha).2.1 ⟨i, r, e, hi, hl, hb⟩
    · have := hs.size
      exact ((q3 (by omega)).2.2 ha).2.2 hlt
  obtain ⟨hsn, _, _⟩ := hchange (fun hok hold i r e hi hG => by
    rcases hi with ⟨k, hk, rfl⟩ | ⟨j, p, e0, hp, he0, hl0, rfl⟩
    · obtain ⟨q0, q1, _, r', _, q2, _⟩ := hGnew k _ (List.getElem?_eq_getElem hk)
      rw [q2] at hG
      cases hG
      refine give_ent q0 q1 ?_ (hβn1 k hk) (hse.ents k 0 _ (hGoutnew k _ (List.getElem?_eq_getElem hk) (hk100 k hk)))
      rcases hro with ha | ⟨_, hr2, _⟩
      · exact .inl (hokn ha)
      · exact .inr ((List.all_eq_true.1 hr2) _ (List.getElem_mem hk))
    · obtain ⟨e', he', hal'⟩ := hes'j j e0 he0 hl0
      rw [hGref j p e0 e' hp he0 hl0 he'] at hG
      cases hG
      have hje' : j < es'.length := (List.getElem?_eq_some_iff.1 he').1
      have hrefent := hse.ents (100000 + j) 0 e (hGoutref j e he')
      have hβ : βn p.1 = βe (100000 + j) := by rw [hβn2 p.1 (href_new j p hp), hpinj j p hp hje']
      refine give_ent hal'.live ((List.all_eq_true.1 hon') _ (List.mem_of_getElem? he')) ?_ hβ hrefent
      rcases hro with ha | ⟨_, _, hr3⟩
      · exact .inl (hokn ha)
      · right
        have h3 := (List.all_eq_true.1 hr3) _ (List.mem_of_getElem? he')
        have hl' := hal'.live
        cases e with
        | rbx cs => exact hl'.elim
        | _ => exact h3)
  -- the result
  have hσ : RenOk (fun i => if 100000 ≤ i then (ids[i - 100000]?).getD (0, 0) else (nid (dst.getD 0) i, (rs[i]?).getD 0)) βe βn (Gout news es') G' out.refs := by
    intro p hp
    obtain ⟨e, he⟩ := hrefs p hp
    refine ⟨⟨e, he⟩, ?_⟩
    have he0 := he
    unfold Gout at he
    split at he
    · rename_i hge
      simp only [Option.map_eq_some_iff, Prod.mk.injEq] at he
      obtain ⟨e1, he1, h0, rfl⟩ := he
      have hlt : p.1 - 100000 < es'.length := (List.getElem?_eq_some_iff.1 he1).1
      have hlt2 : p.1 - 100000 < ids.length := by rw [hacc.len, ← hel]; exact hlt
      have hq : ids[p.1 - 100000]? = some ids[p.1 - 100000] := List.getElem?_eq_getElem hlt2
      have hlt3 : p.1 - 100000 < es.length := by rw [← hacc.len]; exact hlt2
      have hq2 : es[p.1 - 100000]? = some es[p.1 - 100000] := List.getElem?_eq_getElem hlt3
      dsimp only
      rw [if_pos hge, hq]
      simp only [Option.getD_some]
      have hpe : p.1 = 100000 + (p.1 - 100000) := by omega
      refine ⟨?_, ?_⟩
      · rcases hesl _ _ hq2 with hl | ⟨cs, hcs⟩
        · exact ⟨_, hGref _ _ _ _ hq hq2 hl he1⟩
        · have hr := hacc.ent _ _ _ hq hq2
          rw [hcs] at hr
          obtain ⟨⟨cs0, hG⟩, _⟩ := hr
          have hex : ∃ e2, S.G ids[p.1 - 100000].1 = some (ids[p.1 - 100000].2, e2) := by
            rcases hG with hG | hG <;> exact ⟨_, hG⟩
          obtain ⟨e2, hG⟩ := hex
          refine ⟨e2, ?_⟩
          rw [hGsame _ (href_new _ _ hq) ?_]
          · exact hG
          · intro j' q e' hq' he' hl' hqe
            have h1 : (ids.map (·.1))[j']? = some q.1 := by simp [hq']
            have h2 : (ids.map (·.1))[p.1 - 100000]? = some q.1 := by simp [hq, hqe]
            have hjj : j' = p.1 - 100000 := (List.getElem?_inj (List.getElem?_eq_some_iff.1 h1).1 hnd).1 (h1.trans h2.symm)
            rw [hjj, hq2] at he'
            have he2 := Option.some.inj he'
            rw [← he2, hcs] at hl'
            exact hl'.elim
      · rw [hβn2 _ (href_new _ _ hq)]
        have := hpinj _ _ hq hlt
        rw [← hpe] at this
        exact this.symm
    · rename_i hlt
      simp only [Option.map_eq_some_iff, Prod.mk.injEq] at he
      obtain ⟨e1, he1, h0, rfl⟩ := he
      have hk : p.1 < news.length := (List.getElem?_eq_some_iff.1 he1).1
      obtain ⟨_, _, _, r', q1, q2, _⟩ := hGnew p.1 _ he1
      dsimp only
      rw [if_neg hlt, q1]
      exact ⟨⟨_, q2⟩, hβn1 p.1 hk⟩
  have hrepn := avren2 (w := w') (G := Gout news es') (G' := G') (ok := okB w Nc βe (Gout news es') w') (ok' := okB w0 N βn G' w') hσ (hro.imp (fun ha => hokn ha) (fun h => h.1)) hout
  cases dst with
  | none => exact ⟨v, βn, _, rfl, h, hsn⟩
  | some t => exact ⟨v, βn, _, rfl, h.2, hsn.put (hd t rfl) hrepn⟩
end Go.Proofs.Ytgifhhefcmmdfaa
