/- TRW: laid into one text. -/
import Derived.Test.YtgjnnlgeggamjaaQXEU
import Derived.Test.YtgjnnlgeggamjaaQXEZB

namespace Go.Proofs.Ytgjnnlgeggamjaa
set_option linter.unusedVariables false
set_option linter.unusedSimpArgs false
open Go.RowKit Go.Shelf
attribute [local go_sem] Oper.semAt_some
theorem back_ok_aux : ∀ (N : Nat) (t : PS), (fl t).length = N → BOK t := by
  intro N
  induction N using Nat.strongRecOn with
  | ind N ih =>
    intro t ht w D pv ov O B hT hD hO hB hN hNO hwf hlk
    exact callsIn_wide.1 (back_in Fence.wide rfl rfl (fun _ => trivial) (fun m h => callsIn_wide.2 h) 5 (Nat.le_refl _) t (fun p hp => ih _ (by omega) p rfl) w D pv ov O B hT hD hO hB hN hNO hwf hlk)
theorem back_ok (t : PS) : BOK t := back_ok_aux _ t rfl
theorem kon_freshR {α : Type} [Cel α] {P : Program} {f : FuncId} {e : TypeId} {aa : List AV} {r : List α} (hent : ∀ args w, (callFunc f args).run P w = .ok (.enter f args) w) (hpl : aa.all (AV.on fun _ => false) = true)
    (h : ∀ (w : World) (ok : Nat → Prop) (vs : Array Value), Glo w → gsz ≤ w.heap.size → (∀ b, ok b → b < w.heap.size) → vs.size = aa.length → Args0 w ok aa vs →
      Calls P f vs w fun en W' => ∃ v, en = .returned v ∧ ownR W' e (Cel.sz α) v r.length (cV r) ∧ (∀ b, blk? v = some b → w.heap.size ≤ b) ∧ Below w.heap.size w W') :
    Kon P f aa [] (slA 0 0 r) [rwE e r] [] := by
  refine ⟨cOf (fun _ : Unit => (aa, [])) (fun _ => (slA 0 0 r, [rwE e r], [])), ⟨hent, ?_⟩, cOf_at (A := fun _ : Unit => (aa, [])) (R := fun _ => (slA 0 0 r, [rwE e r], [])) (fun _ _ _ => rfl) ()⟩
  intro aa' es out news es' hC w vs β N hN hs hvs
  obtain ⟨_, rfl, rfl, rfl, rfl, rfl⟩ := cOf_some hC
  have hz : gsz ≤ w.heap.size := by
    rcases Nat.eq_zero_or_pos gsz with h0 | h0
    · omega
    · have := (hs.glo.2 (gsz - 1) (by omega)).2.2; omega
  refine (h w _ vs hs.glo.1 hz (fun b hb => hb.1) hvs (args_of_sim hpl hs)).mono ?_
  rintro en W' ⟨v, rfl, hown, hnew, hB⟩
  have hblk : ∀ b, blk? v = some b → b < W'.heap.size ∧ w.heap.size ≤ b := by
    intro b hb
    refine ⟨?_, hnew b hb⟩
    rcases hown.2 with ⟨rfl, _⟩ | ⟨g, cap, cur, rfl, hg, hgb, _⟩
    · cases hb
    · cases hb
      exact (Array.getElem?_eq_some_iff.1 hgb).1
  have hG : ∀ {i r1 e1}, Gout [rwE e r] [] i = some (r1, e1) → i = 0 ∧ r1 = 0 ∧ e1 = rwE e r := by
    intro i r1 e1 hi
    unfold Gout at hi
    split at hi
    · simp at hi
    · match i, hi with
      | 0, hi => simp at hi; exact ⟨rfl, hi.1.symm, hi.2.symm⟩
      | i + 1, hi => simp at hi
  have hsl : ∃ A c, v = .slice A r.length c := by
    rcases hown.2 with ⟨rfl, h0⟩ | ⟨g, cap, cur, rfl, _⟩
    · rw [h0]; exact ⟨_, _, rfl⟩
    · exact ⟨_, _, rfl⟩
  obtain ⟨A, c, rfl⟩ := hsl
  refine ⟨_, fun _ => .slice A r.length c, rfl, ?_, ?_, rfl, rfl, ?_⟩
  · refine { os := hB.os, tape := hB.tape, output := hB.output, glo := hs.glo, size := hB.size, block := fun k hk _ => hB.block k hk, ents := ?_, apart := ?_, fresh := ?_, pin := ?_, wide := rfl, env := ?_ }
    · intro i r1 e1 hi
      obtain ⟨rfl, rfl, rfl⟩ := hG hi
      exact ⟨cV_one r, e, r.length, fun x hx => by cases hx; rfl, hown⟩
    · intro i j r1 e1 r2 e2 b hi _ hj _ _ _
      rw [(hG hi).1, (hG hj).1]
    · intro i r1 e1 b hi _ hb
      exact ⟨(hblk b hb).1, .inl (hblk b hb).2⟩
    · intro i e1 hi hg
      have := (hG hg).1
      omega
    · intro i a hi; cases hi
  · exact ⟨rfl, 0, rwE e r, rfl, Nat.le_refl _, fun _ => ⟨A, _, c, rfl, Nat.le_refl _, rfl⟩⟩
  · intro p hp
    simp [AV.refs, AG.refs, AC.refs] at hp
    subst hp
    exact ⟨_, rfl⟩
theorem parse_one (P : List Gt) (hP : P.length ≤ 2000000) (w : World) (hg : Glo w) (hz : gsz ≤ w.heap.size) (y : Value) (hy : RoRep w (fun b => b < w.heap.size) 4 P.length (cV P) y) :
    Calls Try.prog 36 #[y] w fun e w' => ∃ v, e = .returned (.tuple #[v, .bool (prs P).isSome]) ∧ Below w.heap.size w w' ∧ ∀ t, prs P = some t → TV w' (fun b => w.heap.size ≤ b ∧ b < w'.heap.size) t v := by
  have hp := parse_ok P hP w hg hz y hy
  obtain ⟨F, hF⟩ : ∃ F, F = prs P := ⟨_, rfl⟩
  rw [← hF] at hp ⊢
  refine hp.mono ?_
  rintro e w' ⟨hb, he⟩
  cases F with
  | none => exact ⟨_, he, hb, fun t h => by cases h⟩
  | some t =>
    obtain ⟨v, he, hv⟩ := he
    exact ⟨v, he, hb, fun t' h => by cases h; exact hv⟩
theorem clip_ok (A : Option Addr) (n c : Nat) (hc : n ≤ c) (hA : A.map (·.add 0) = A) (w : World) : Calls Try.prog 37 #[.slice A n c] w fun e w' => e = .returned (.slice A n n) ∧ Below w.heap.size w w' := by
  have hT : Try.prog.underlying 24 = some (.slice (Try.prog.elem 24)) := by kernel_rfl
  have hs : (Instr.slice 24 (.slice A n c) none (some (.int .i64 n)) (some (.int .i64 n))).run Try.prog w = .ok (.slice A n n) w := by
    rw [run_slice_hm (P := Try.prog) w 24 A n c hT .i64 .i64 n n (by omega) (by omega) (by omega)]
    rw [show (sizeOf (Try.prog.elem 24)).run Try.prog w = .ok 4 w by kernel_rfl]
    simp [Result.andThen, sliced, hA]
  clear hT
  go_enter Try.func37, Try.ntmps37
  go_wp2
  exact ⟨rfl, _, results_tmp rfl _ _ _, rfl, Below.refl _ _⟩
def pbB (P : List Gt) : List Gt := match prs P with
  | none => []
  | some t => fl (bk t)
theorem k_pbI (P : List Gt) (h : P.length ≤ 2000000) : Kon Try.prog 12 [roA P] [] (slA 0 0 (pbB P)) [rwE 47 (pbB P)] [] := by
  refine kon_freshR (Go.Proofs.enters_of Try.func12 (by kernel_rfl) rfl) rfl ?_
  intro w ok vs hg hz hoks hsz hargs
  obtain ⟨y, hy, hr⟩ := hargs 0 _ rfl
  have hv : vs = #[y] := by
    obtain ⟨xs⟩ := vs
    match xs, hsz with
    | [x], _ => cases hy; rfl
  subst hv
  have hro : RoRep w (fun b => b < w.heap.size) 4 P.length (cV P) y := RoRep.mono (fun b hb => ⟨hoks b hb, rfl⟩) hr
  unfold pbB
  have hp := parse_one P h w hg hz y hro
  have ht : ∀ t, prs P = some t → _ := fun t h => prs_t h
  cases hF : prs P with
  | none =>
    rw [hF] at hp
    clear ht hF
    go_enter Try.func12, Try.ntmps12
    go_wp2_with (go_at_call 36; refine hp.mono ?_; rintro e w1 ⟨v, rfl, hb, _⟩)
    exact ⟨rfl, _, results_tmp rfl _ _ _, _, rfl, ⟨rfl, .inl ⟨rfl, rfl⟩⟩, fun b hb => (by cases hb), hb⟩
  | some t =>
    obtain ⟨h16, hall, hfl, hwf, hdp, _⟩ := ht t hF
    rw [hF] at hp
    clear ht hF
    have hbk : ∀ (w1 : World) (v : Value), Below w.heap.size w w1 → TV w1 (fun b => w.heap.size ≤ b ∧ b < w1.heap.size) t v → _ := fun w1 v hb hv => back_ok t w1 _ v (.slice none 0 0) [] w.heap.size hv (fun b hb => ⟨hb.2, fun e => by cases e⟩) ⟨rfl, .inl ⟨rfl, rfl⟩⟩ hb.size (by rw [hfl]; omega) (by simp) hwf (by unfold lkA; rw [hfl]; exact hall)
    rw [List.nil_append] at hbk
    go_enter Try.func12, Try.ntmps12
    go_wp2_with (go_at_call 36; refine hp.mono ?_; rintro e w1 ⟨v, rfl, hb, hv⟩)
    go_wp2_with (go_at_call 38; refine (hbk w1 v hb (hv t rfl)).mono ?_; rintro e w2 ⟨v2, rfl, hown, hgr, _⟩)
    have hB2 : Below w.heap.size w w2 := ⟨hgr.os.trans hb.os, hgr.tape.trans hb.tape, hgr.output.trans hb.output, Nat.le_trans hb.size hgr.size, fun k hk => (hgr.block k (Nat.lt_of_lt_of_le hk hb.size) (fun e => by cases e)).trans (hb.block k hk)⟩
    obtain ⟨A, c, rfl, hc, hA, hown2⟩ : ∃ A c, v2 = .slice A (fl (bk t)).length c ∧ (fl (bk t)).length ≤ c ∧ A.map (·.add 0) = A ∧ ∀ w3, Below w2.heap.size w2 w3 → ownR w3 47 4 (.slice A (fl (bk t)).length (fl (bk t)).length) (fl (bk t)).length (cV (fl (bk t))) ∧ (∀ b, blk? (.slice A (fl (bk t)).length (fl (bk t)).length) = some b → w.heap.size ≤ b) := by
      rcases hown.2 with ⟨rfl, h0⟩ | ⟨g, cap, cu, rfl, h1, h2, h3, h4, h5, h6⟩
      · rw [h0]
        exact ⟨none, 0, rfl, Nat.le_refl _, rfl, fun w3 _ => ⟨⟨by have := hown.1; rw [h0] at this; exact this, .inl ⟨rfl, rfl⟩⟩, fun b hb => by cases hb⟩⟩
      · refine ⟨_, cap, rfl, h3, by simp [Option.map, addE], fun w3 hb3 => ⟨⟨hown.1, .inr ⟨g, _, cu, rfl, Nat.zero_le _, ?_, Nat.le_refl _, Nat.le_trans h3 h4, ?_, ?_⟩⟩, fun b hb => ?_⟩⟩
        · exact (hb3.block g (Array.getElem?_eq_some_iff.1 h2).1).trans h2
        · rw [h5]; exact Nat.mul_le_mul_right 4 h3
        · exact h6
        · cases hb; exact h1
    go_wp2_with (go_at_call 37; refine (clip_ok A _ c hc hA w2).mono ?_; rintro e w3 ⟨rfl, hb3⟩)
    exact ⟨rfl, _, results_tmp (t := 2) rfl _ _ _, _, rfl, (hown2 w3 hb3).1, (hown2 w3 hb3).2, hB2.trans (hb3.mono hB2.size)⟩
end Go.Proofs.Ytgjnnlgeggamjaa
