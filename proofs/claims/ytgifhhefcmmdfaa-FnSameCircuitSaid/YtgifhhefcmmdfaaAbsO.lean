/- The abstract run, fifteenth part: a call by the callee's contract is a call. No program is named. -/
import Derived.Test.YtgifhhefcmmdfaaAbsN
namespace Go.Proofs.Ytgifhhefcmmdfaa
set_option linter.unusedVariables false
open Go.RowKit

section
variable {P : Program} {T : Tab} {F : Ft} {S : St} {K : St → Prop} {w0 w w' : World} {M N : Nat → Prop} {b0 : Nat → Value} {nt : Nat} {β : Nat → Value} {tm : Array Value}
theorem rep_ren2 {G G' : Blk} {β' : Nat → Value} {ok ok' : Nat → Prop} {σ : Nat → Nat × Nat} {c : AC} {y : Value} (hσ : RenOk σ β β' G G' c.refs) (hok : (∀ b, ok b → ok' b) ∨ c.noro = true) (h : c.rep w β G ok y) : (c.ren σ).rep w β' G' ok' y := by
  rcases hok with hok | hn
  · exact AC.rep_ren hσ (fun b hb => ⟨hok b hb, rfl⟩) h
  · cases c with
    | ro sz n l =>
      have hn0 : n = 0 := by simpa [AC.noro] using hn
      subst hn0
      obtain ⟨h1, A, c, h2, h3, h4, _⟩ := h
      exact ⟨h1, A, c, h2, h3, h4, fun hp => by omega⟩
    | rp l => simp [AC.noro] at hn
    | v x => exact h
    | sl i r n =>
      obtain ⟨⟨e, h1⟩, ⟨e', h2⟩, h3⟩ := hσ (i, r) (List.mem_singleton.2 rfl)
      obtain ⟨h0, r', e2, g1, g2, g3⟩ := h
      have : r = r' := by
        have : some (r, e) = some (r', e2) := h1.symm.trans g1
        cases this; rfl
      exact ⟨h0, _, e', h2, Nat.le_refl _, fun _ => by rw [h3]; exact g3 this⟩
    | ptr i r o => exact PtrRep.ren hσ h
    | fn f c =>
      obtain ⟨vs, h1, h2, h3⟩ := h
      refine ⟨vs, h1, by simpa using h2, fun j p hp => ?_⟩
      simp only [List.getElem?_map, Option.map_eq_some_iff] at hp
      obtain ⟨q, hq, rfl⟩ := hp
      obtain ⟨z, hz, hr⟩ := h3 j q hq
      exact ⟨z, hz, hr.ren fun p hp => hσ p (by rw [List.mem_singleton.1 hp]; exact List.mem_of_getElem? hq)⟩
theorem csren2 {G G' : Blk} {β' : Nat → Value} {ok ok' : Nat → Prop} {σ : Nat → Nat × Nat} {cs : List AC} {vs : Array Value} (hσ : RenOk σ β β' G G' (cs.flatMap AC.refs)) (hok : (∀ b, ok b → ok' b) ∨ cs.all AC.noro = true) (h : CsRep w β G ok cs vs) : CsRep w β' G' ok' (cs.map (AC.ren σ)) vs := by
  refine ⟨by simpa using h.1, fun j c hj => ?_⟩
  simp only [List.getElem?_map, Option.map_eq_some_iff] at hj
  obtain ⟨d, hd, rfl⟩ := hj
  obtain ⟨z, hz, hr⟩ := h.2 j d hd
  exact ⟨z, hz, rep_ren2 (fun p hp => hσ p (List.mem_flatMap.2 ⟨d, List.mem_of_getElem? hd, hp⟩)) (hok.imp id fun h => (List.all_eq_true.1 h) d (List.mem_of_getElem? hd)) hr⟩
theorem agren2 {G G' : Blk} {β' : Nat → Value} {ok ok' : Nat → Prop} {σ : Nat → Nat × Nat} {x : AG} {y : Value} (hσ : RenOk σ β β' G G' x.refs) (hok : (∀ b, ok b → ok' b) ∨ x.noro = true) (h : x.rep w β G ok y) : (x.ren σ).rep w β' G' ok' y := by
  cases x with
  | one c => exact rep_ren2 hσ hok h
  | agg cs => obtain ⟨vs, h1, h2⟩ := h; exact ⟨vs, h1, csren2 hσ hok h2⟩
theorem avren2 {G G' : Blk} {β' : Nat → Value} {ok ok' : Nat → Prop} {σ : Nat → Nat × Nat} {x : AV} {y : Value} (hσ : RenOk σ β β' G G' x.refs) (hok : (∀ b, ok b → ok' b) ∨ x.noro = true) (h : x.rep w β G ok y) : (x.ren σ).rep w β' G' ok' y := by
  cases x with
  | g c => exact agren2 hσ hok h
  | tup xs =>
    obtain ⟨vs, h1, h2, h3⟩ := h
    refine ⟨vs, h1, by simpa using h2, fun j x hx => ?_⟩
    simp only [List.getElem?_map, Option.map_eq_some_iff] at hx
    obtain ⟨d, hd, rfl⟩ := hx
    obtain ⟨z, hz, hr⟩ := h3 j d hd
    exact ⟨z, hz, agren2 (fun p hp => hσ p (List.mem_flatMap.2 ⟨d, List.mem_of_getElem? hd, hp⟩)) (hok.imp id fun h => (List.all_eq_true.1 h) d (List.mem_of_getElem? hd)) hr⟩
theorem noref_ren {c : AC} (hc : c.on (fun _ => false) = true) (σ : Nat → Nat × Nat) : c.ren σ = c ∧ c.refs = [] := by
  cases c with
  | sl i r n => cases hc
  | ptr i r o => cases hc
  | fn f c =>
    cases c with
    | nil => exact ⟨rfl, rfl⟩
    | cons p c => simp [AC.on] at hc
  | _ => exact ⟨rfl, rfl⟩
theorem noref2 {ok ok' : Nat → Prop} {β' : Nat → Value} {G G' : Blk} {c : AC} {y : Value} (hc : c.on (fun _ => false) = true) (hok : (∀ b, ok b → ok' b) ∨ c.noro = true) (h : c.rep w β G ok y) : c.rep w β' G' ok' y := by
  obtain ⟨h1, h2⟩ := noref_ren hc (fun _ => (0, 0))
  have := rep_ren2 (σ := fun _ => (0, 0)) (β' := β') (G' := G') (by rw [h2]; intro p hp; cases hp) hok h
  rwa [h1] at this
/-- An own block that the callee gives back, as the caller sees it. -/
theorem give_ent {ok ok' : Nat → Prop} {β' : Nat → Value} {G G' : Blk} {e : Ent} {i i' : Nat} (hl : e.live) (hc : e.on (fun _ => false) = true) (hok : (∀ b, ok b → ok' b) ∨ e.noro = true) (hβ : β' i' = β i) (h : e.rep w β G ok i) : e.rep w β' G' ok' i' := by
  cases e with
  | box cs =>
    obtain ⟨g, vs, t, e1, e2, e3⟩ := h
    exact ⟨g, vs, t, hβ.trans e1, e2, e3.1, fun j c hj => let ⟨z, hz, hr⟩ := e3.2 j c hj; ⟨z, hz, noref2 ((List.all_eq_true.1 hc) c (List.mem_of_getElem? hj)) (hok.imp id fun h => (List.all_eq_true.1 h) c (List.mem_of_getElem? hj)) hr⟩⟩
  | row e sz l =>
    obtain ⟨h0, e', n, h1, h2⟩ := h
    exact ⟨h0, e', n, h1, by rw [hβ]; exact h2⟩
  | fro sz l => exact hl.elim
  | rbx cs => exact hl.elim
theorem frzC_run {c : AC} {k : AM} (h : (frzC c k).run F S K) (hs : Sim w0 M N b0 nt β S w tm) :
    ∃ S' β', k.run F S' K ∧ Sim w0 M N b0 nt β' S' w tm ∧ S'.E = S.E ∧ (∀ (a : AV) (y : Value), a.rep w β S.G (okB w0 N β S.G w) y → a.rep w β' S'.G (okB w0 N β' S'.G w) y) := by
  have same : k.run F S K → ∃ S' β', k.run F S' K ∧ Sim w0 M N b0 nt β' S' w tm ∧ S'.E = S.E ∧ (∀ (a : AV) (y : Value), a.rep w β S.G (okB w0 N β S.G w) y → a.rep w β' S'.G (okB w0 N β' S'.G w) y) :=
    fun h => ⟨S, β, h, hs, rfl, fun a y h => h⟩
  cases c with
  | sl i r n =>
    obtain ⟨_, h⟩ := h
    dsimp only at h
    split at h
    · rename_i r' e z l hG
      obtain ⟨hi, _, h⟩ := h
      obtain ⟨p0, e2, n2, p1, p2⟩ := hs.ents i r' _ hG
      obtain ⟨β', k1, k2, k3, k4⟩ := hs.change1 (w' := w) i r' (.fro z l) (β i) rfl rfl rfl (Nat.le_refl _)
        (fun r1 e1 hg => by rw [hG] at hg; cases hg; exact ⟨Nat.le_refl _, fun _ => rfl⟩) (fun k _ _ => rfl) (fun b hb _ => hb.elim) (fun _ => ⟨_, hG⟩)
        (fun β' G' hβ hG' hok hold hβi => by
          refine ⟨n2, ?_⟩
          rw [hβi]
          refine row_ro p2 p0 fun b hb => ?_
          have hf := hs.fresh i r' _ b hG trivial hb
          refine ⟨hf.1, ?_, fun hlt => ?_⟩
          · rintro ⟨j, r1, e1, hj, hlive, hjb⟩
            by_cases hji : j = i
            · subst hji
              rw [hG', upd_same] at hj
              cases hj
              exact hlive.elim
            · rw [hG', upd_ne _ _ hji] at hj
              rw [hβ] at hjb
              simp only [hji, if_false] at hjb
              exact hji (hs.apart j i r1 e1 r' _ b hj hlive hG trivial hjb hb)
          · rcases hf.2 with hf | hf
            · omega
            · omega)
      exact ⟨_, β', h, k1, rfl, fun a y ha => AV.rep_mono k3 k4 ha⟩
    · exact same h
  | _ => exact same h
theorem frzL_run : ∀ (cs : List AC) {S : St} {β : Nat → Value} {k : AM}, (frzL cs k).run F S K → Sim w0 M N b0 nt β S w tm →
    ∃ S' β', k.run F S' K ∧ Sim w0 M N b0 nt β' S' w tm ∧ S'.E = S.E ∧ (∀ (a : AV) (y : Value), a.rep w β S.G (okB w0 N β S.G w) y → a.rep w β' S'.G (okB w0 N β' S'.G w) y)
  | [], S, β, k, h, hs => ⟨S, β, h, hs, rfl, fun a y h => h⟩
  | c :: cs, S, β, k, h, hs => by
    obtain ⟨S1, β1, h, hs1, e1, r1⟩ := frzC_run h hs
    obtain ⟨S2, β2, h, hs2, e2, r2⟩ := frzL_run cs h hs1
    exact ⟨S2, β2, h, hs2, e2.trans e1, fun a y ha => r2 a y (r1 a y ha)⟩
/-- A variable stays a variable, a row a row. -/
def Alike (e e' : Ent) : Prop := (∃ a b, e = .box a ∧ e' = .box b) ∨ (∃ a b c d f g, e = .row a b c ∧ e' = .row d f g)
theorem Alike.live {e e' : Ent} (h : Alike e e') : e'.live := by
  rcases h with ⟨a, b, rfl, rfl⟩ | ⟨a, b, c, d, f, g, rfl, rfl⟩ <;> trivial
/-- The blocks behind the call. -/
def backG (G : Blk) : List (Nat × Nat) → List Ent → List Ent → Blk
  | (i, r) :: ids, .box _ :: es, .box cs' :: es' => backG (upd G i (some (r, .box cs'))) ids es es'
  | (i, r) :: ids, .row _ _ _ :: es, .row e' z' l' :: es' => backG (upd G i (some (r, .row e' z' l'))) ids es es'
  | _ :: ids, .rbx _ :: es, _ :: es' => backG G ids es es'
  | _, _, _ => G
theorem backL_run {k : AM} : ∀ (ids : List (Nat × Nat)) (es es' : List Ent) {S : St}, (backL ids es es' k).run F S K → k.run F ⟨S.E, backG S.G ids es es'⟩ K ∧ (∀ (j : Nat) (e : Ent), es[j]? = some e → e.live → ∃ e', es'[j]? = some e' ∧ Alike e e')
  | [], [], [], S, h => ⟨h, fun j e hj => by simp at hj⟩
  | (i, r) :: ids, .box _ :: es, .box cs' :: es', S, h => by
    obtain ⟨h1, h2⟩ := backL_run ids es es' h.2
    refine ⟨h1, fun j e hj hl => ?_⟩
    cases j with
    | zero => cases hj; exact ⟨_, rfl, .inl ⟨_, _, rfl, rfl⟩⟩
    | succ j => exact h2 j e (by simpa using hj) hl
  | (i, r) :: ids, .row _ _ _ :: es, .row e' z' l' :: es', S, h => by
    obtain ⟨h1, h2⟩ := backL_run ids es es' h.2
    refine ⟨h1, fun j e hj hl => ?_⟩
    cases j with
    | zero => cases hj; exact ⟨_, rfl, .inr ⟨_, _, _, _, _, _, rfl, rfl⟩⟩
    | succ j => exact h2 j e (by simpa using hj) hl
  | _ :: ids, .rbx _ :: es, _ :: es', S, h => by
    obtain ⟨h1, h2⟩ := backL_run ids es es' h
    refine ⟨h1, fun j e hj hl => ?_⟩
    cases j with
    | zero => cases hj; exact hl.elim
    | succ j => exact h2 j e (by simpa using hj) hl
  | [], [], _ :: _, S, h => h.elim
  | [], _ :: _, _, S, h => h.elim
  | _ :: _, [], _, S, h => h.elim
  | _ :: _, .fro _ _ :: _, _, S, h => h.elim
  | _ :: _, .box _ :: _, [], S, h => h.elim
  | _ :: _, .row _ _ _ :: _, [], S, h => h.elim
  | _ :: _, .rbx _ :: _, [], S, h => h.elim
  | _ :: _, .box _ :: _, .row _ _ _ :: _, S, h => h.elim
  | _ :: _, .box _ :: _, .fro _ _ :: _, S, h => h.elim
  | _ :: _, .box _ :: _, .rbx _ :: _, S, h => h.elim
  | _ :: _, .row _ _ _ :: _, .box _ :: _, S, h => h.elim
  | _ :: _, .row _ _ _ :: _, .fro _ _ :: _, S, h => h.elim
  | _ :: _, .row _ _ _ :: _, .rbx _ :: _, S, h => h.elim
theorem backG_out {i : Nat} : ∀ (ids : List (Nat × Nat)) (es es' : List Ent) (G : Blk), (∀ (j : Nat) (p : Nat × Nat) (e : Ent), ids[j]? = some p → es[j]? = some e → e.live → p.1 ≠ i) → backG G ids es es' i = G i
  | (i', r) :: ids, .box cs :: es, .box cs' :: es', G, h => by
    have h0 := h 0 (i', r) (.box cs) rfl rfl trivial
    have := backG_out ids es es' (upd G i' (some (r, .box cs'))) (fun j p e hj he hl => h (j + 1) p e (by simpa using hj) (by simpa using he) hl)
    rw [backG, this, upd_ne _ _ (fun e => h0 e.symm)]
  | (i', r) :: ids, .row a b c :: es, .row e' z' l' :: es', G, h => by
    have h0 := h 0 (i', r) (.row a b c) rfl rfl trivial
    have := backG_out ids es es' (upd G i' (some (r, .row e' z' l'))) (fun j p e hj he hl => h (j + 1) p e (by simpa using hj) (by simpa using he) hl)
    rw [backG, this, upd_ne _ _ (fun e => h0 e.symm)]
  | _ :: ids, .rbx _ :: es, _ :: es', G, h => by
    have := backG_out ids es es' G (fun j p e hj he hl => h (j + 1) p e (by simpa using hj) (by simpa using he) hl)
    rw [backG, this]
  | [], _, _, G, h => by simp [backG]
  | _ :: _, [], _, G, h => by simp [backG]
  | _ :: _, .fro _ _ :: _, _, G, h => by simp [backG]
  | _ :: _, .box _ :: _, [], G, h => by simp [backG]
  | _ :: _, .row _ _ _ :: _, [], G, h => by simp [backG]
  | _ :: _, .rbx _ :: _, [], G, h => by simp [backG]
  | _ :: _, .box _ :: _, .row _ _ _ :: _, G, h => by simp [backG]
  | _ :: _, .box _ :: _, .fro _ _ :: _, G, h => by simp [backG]
  | _ :: _, .box _ :: _, .rbx _ :: _, G, h => by simp [backG]
  | _ :: _, .row _ _ _ :: _, .box _ :: _, G, h => by simp [backG]
  | _ :: _, .row _ _ _ :: _, .fro _ _ :: _, G, h => by simp [backG]
  | _ :: _, .row _ _ _ :: _, .rbx _ :: _, G, h => by simp [backG]
theorem backG_at : ∀ (ids : List (Nat × Nat)) (es es' : List Ent) (G : Blk), (ids.map (·.1)).Nodup → (∀ (j : Nat) (e : Ent), es[j]? = some e → e.live → ∃ e', es'[j]? = some e' ∧ Alike e e') → (∀ (j : Nat) (e : Ent), es[j]? = some e → e.live ∨ ∃ cs, e = .rbx cs) →
    es'.length = es.length → ∀ (j : Nat) (p : Nat × Nat) (e e' : Ent), ids[j]? = some p → es[j]? = some e → e.live → es'[j]? = some e' → backG G ids es es' p.1 = some (p.2, e')
  | (i', r) :: ids, e0 :: es, e0' :: es', G, hn, hk, hf, hlen, j, p, e, e', hj, he, hlive, he' => by
    rw [List.map_cons, List.nodup_cons] at hn
    have hrec := backG_at ids es es'
    have h00 : e0.live → Alike e0 e0' := fun hl => by
      obtain ⟨e2, h1, h2⟩ := hk 0 e0 rfl hl
      cases h1; exact h2
    cases j with
    | zero =>
      cases hj; cases he; cases he'
      have hout : ∀ G' : Blk, backG G' ids es es' i' = G' i' := fun G' => backG_out ids es es' G' fun j p e hj _ _ hp => hn.1 (hp ▸ List.mem_map_of_mem (f := (·.1)) (List.mem_of_getElem? hj))
      rcases h00 hlive with ⟨a, b, rfl, rfl⟩ | ⟨a, b, c, d, f, g, rfl, rfl⟩
      · rw [backG, hout, upd_same]
      · rw [backG, hout, upd_same]
    | succ j =>
      have hstep : ∃ G', backG G ((i', r) :: ids) (e0 :: es) (e0' :: es') = backG G' ids es es' := by
        rcases hf 0 e0 rfl with hl0 | ⟨cs, rfl⟩
        · rcases h00 hl0 with ⟨a, b, rfl, rfl⟩ | ⟨a, b, c, d, f, g, rfl, rfl⟩
          · exact ⟨_, by rw [backG]⟩
          · exact ⟨_, by rw [backG]⟩
        · exact ⟨G, by rw [backG]⟩
      obtain ⟨G', hG'⟩ := hstep
      rw [hG']
      exact hrec G' hn.2 (fun j e hj hl' => hk (j + 1) e (by simpa using hj) hl') (fun j e hj => hf (j + 1) e (by simpa using hj)) (by simpa using hlen) j p e e' (by simpa using hj) (by simpa using he) hlive (by simpa using he')
  | [], es, es', G, hn, hk, hf, hlen, j, p, e, e', hj, he, hlive, he' => by simp at hj
  | _ :: _, [], es', G, hn, hk, hf, hlen, j, p, e, e', hj, he, hlive, he' => by simp at he
  | _ :: _, _ :: _, [], G, hn, hk, hf, hlen, j, p, e, e', hj, he, hlive, he' => by simp at hlen
/-- The new blocks, laid. -/
theorem newL_run {d : Nat} : ∀ (news : List Ent) (j0 : Nat) {S : St} {k : List Nat → AM}, (newL d j0 news k).run F S K →
    ∃ rs G', (k rs).run F ⟨S.E, G'⟩ K ∧ rs.length = news.length ∧ (∀ i, (∀ m, m < news.length → i ≠ nid d (j0 + m)) → G' i = S.G i) ∧
      (∀ (m : Nat) (e : Ent), news[m]? = some e → e.live ∧ e.on (fun _ => false) = true ∧ j0 + m < 16 ∧ nid d (j0 + m) < 100000 ∧ ∃ r, rs[m]? = some r ∧ G' (nid d (j0 + m)) = some (r, e) ∧ ∀ r1 e1, S.G (nid d (j0 + m)) = some (r1, e1) → r1 < r)
  | [], j0, S, k, h => ⟨[], S.G, h, rfl, fun i hi => rfl, fun m e hm => by simp at hm⟩
  | e :: news, j0, S, k, h => by
    obtain ⟨⟨hl, hon, hj⟩, h⟩ := h
    obtain ⟨hlt, _, h⟩ := h
    have key : ∀ r, (∀ r1 e1, S.G (nid d j0) = some (r1, e1) → r1 < r) → (newL d (j0 + 1) news fun rs => k (r :: rs)).run F (S.lay (nid d j0) (some (r, e))) K → ∃ rs G', (k rs).run F ⟨S.E, G'⟩ K ∧ rs.length = (e :: news).length ∧ (∀ i, (∀ m, m < (e :: news).length → i ≠ nid d (j0 + m)) → G' i = S.G i) ∧
      (∀ (m : Nat) (e' : Ent), (e :: news)[m]? = some e' → e'.live ∧ e'.on (fun _ => false) = true ∧ j0 + m < 16 ∧ nid d (j0 + m) < 100000 ∧ ∃ r, rs[m]? = some r ∧ G' (nid d (j0 + m)) = some (r, e') ∧ ∀ r1 e1, S.G (nid d (j0 + m)) = some (r1, e1) → r1 < r) := by
      intro r hr h
      obtain ⟨rs, G', h1, h2, h3, h4⟩ := newL_run news (j0 + 1) h
      have hne : ∀ m, nid d j0 ≠ nid d (j0 + 1 + m) := fun m => by unfold nid; omega
      refine ⟨r :: rs, G', h1, by simpa using h2, fun i hi => ?_, fun m e' hm => ?_⟩
      · rw [h3 i (fun m hm => by have := hi (m + 1) (by simpa using hm); rwa [show j0 + (m + 1) = j0 + 1 + m by omega] at this)]
        exact upd_ne _ _ (hi 0 (by simp))
      · cases m with
        | zero =>
          cases hm
          refine ⟨hl, hon, hj, hlt, r, rfl, ?_, hr⟩
          rw [Nat.add_zero, h3 _ (fun m _ => hne m)]
          exact upd_same _ _ _
        | succ m =>
          obtain ⟨q1, q2, q3, q4, r', q5, q6, q7⟩ := h4 m e' (by simpa using hm)
          rw [show j0 + (m + 1) = j0 + 1 + m by omega]
          refine ⟨q1, q2, q3, q4, r', by simpa using q5, q6, fun r1 e1 hg => q7 r1 e1 ?_⟩
          have : (S.lay (nid d j0) (some (r, e))).G (nid d (j0 + 1 + m)) = S.G (nid d (j0 + 1 + m)) := upd_ne _ _ (Ne.symm (hne m))
          rw [this]; exact hg
    dsimp only at h
    split at h
    · rename_i hG
      obtain ⟨_, h⟩ := h
      exact key 0 (fun r1 e1 hg => by rw [hG] at hg; cases hg) h
    · rename_i r e' hG
      obtain ⟨_, h⟩ := h
      exact key (r + 1) (fun r1 e1 hg => by rw [hG] at hg; cases hg; omega) h
end
end Go.Proofs.Ytgifhhefcmmdfaa
