/- LTR: laid into one text. -/
import Derived.Test.YtfbcblknahicdaaQXFG
import Derived.Test.YtfbcblknahicdaaQXFP

namespace Go.Proofs.Ytfbcblknahicdaa
set_option linter.unusedVariables false
set_option linter.unusedSimpArgs false
set_option maxRecDepth 20000
open Go.RowKit
theorem ld_a4 {ρ : Operand → Value} {w : World} {x dd : Nat} {g off : Nat} {a b c d : Int} {ty : TypeId} {pos : String} {af : Array Edge} (h : ρ (.tmp x) = .pointer (some ⟨g, off, none⟩))
    (h0 : w.cell? ⟨g, off, none⟩ = some (.int .i64 a)) (h1 : w.cell? ⟨g, off + 1, none⟩ = some (.int .i64 b)) (h2 : w.cell? ⟨g, off + 2, none⟩ = some (.int .i64 c)) (h3 : w.cell? ⟨g, off + 3, none⟩ = some (.int .i64 d)) :
    (execOp ρ ⟨some dd, .load 42 (.tmp x), ty, pos, af, none⟩).run Try.prog w = .ok (.value (a4 a b c d)) w := by
  unfold execOp
  simp only [h]
  simp [go_sem, h0, h1, h2, h3]
theorem ld_box {ρ : Operand → Value} {w w' : World} {x dd g m : Nat} {t0 : TypeId} {a b c d : Int} {ty : TypeId} {pos : String} {af : Array Edge} (h : ρ (.tmp x) = .pointer (some ⟨g, 0, none⟩)) (hg : w.heap[g]? = some (.cells #[.int .i64 a, .int .i64 b, .int .i64 c, .int .i64 d] t0 (0, 0))) (ho : Oth m w w') (hm : g ≠ m) :
    (execOp ρ ⟨some dd, .load 42 (.tmp x), ty, pos, af, none⟩).run Try.prog w' = .ok (.value (a4 a b c d)) w' := by
  have hg' : w'.heap[g]? = some (.cells #[.int .i64 a, .int .i64 b, .int .i64 c, .int .i64 d] t0 (0, 0)) := (ho.block g (Array.getElem?_eq_some_iff.1 hg).1 hm).trans hg
  exact ld_a4 h (by simp [World.cell?, hg']) (by simp [World.cell?, hg']) (by simp [World.cell?, hg']) (by simp [World.cell?, hg'])
section
variable {nt : Nat} {S : St} {KE : Exit → St → Prop} {id : Nat} {s0 s1 s2 s3 s4 s5 s6 : String} {a0 a1 a2 a3 a5' a6 a7 : Array Edge} {t0 t1 t2 t3 t4 t5 t6 : TypeId}
abbrev r24 (t0 t1 t2 t3 t4 t5 t6 : TypeId) (s0 s1 s2 s3 s4 s5 s6 : String) (a0 a1 a2 a3 a5' a6 a7 : Array Edge) : Array Oper :=
  #[⟨some 74, .move (.tmp 6), t0, s0, a0, none⟩, ⟨some 75, .load 42 (.tmp 11), t1, s1, a1, none⟩, ⟨some 76, .move (.tmp 6), t2, s2, a2, none⟩, ⟨some 77, .load 42 (.tmp 8), t3, s3, a3, none⟩,
    ⟨some 78, .lookup 43 (.tmp 76) (.tmp 77) false, t4, s4, a5', none⟩, ⟨some 79, .binOp .add 3 (.tmp 78) (.const (.int .i64 1)) 3, t5, s5, a6, none⟩, ⟨none, .mapUpdate 43 (.tmp 74) (.tmp 75) (.tmp 79), t6, s6, a7, none⟩]
theorem r24_ds (i : Nat) (d : Nat) (h : dsO (r24 t0 t1 t2 t3 t4 t5 t6 s0 s1 s2 s3 s4 s5 s6 a0 a1 a2 a3 a5' a6 a7) i = some d) : 74 ≤ d ∧ d ≤ 79 := by
  match i, h with
  | 0, h => cases h; omega
  | 1, h => cases h; omega
  | 2, h => cases h; omega
  | 3, h => cases h; omega
  | 4, h => cases h; omega
  | 5, h => cases h; omega
  | 6, h => cases h
  | i + 7, h => simp [dsO, r24] at h
def v24 (m : Nat) (q p : Value) (n : Nat) : Nat → Value
  | 0 => .map (some m)
  | 1 => q
  | 2 => .map (some m)
  | 3 => p
  | 4 => .int .i64 (n : Int)
  | _ => .int .i64 ((n : Int) + 1)
theorem add_one {ρ : Operand → Value} {w : World} {x dd : Nat} {n : Nat} {ty : TypeId} {pos : String} {af : Array Edge} (h : ρ (.tmp x) = .int .i64 (n : Int)) (hc : ρ (.const (.int .i64 1)) = .int .i64 1) (hn : n ≤ 1000) :
    (execOp ρ ⟨some dd, .binOp .add 3 (.tmp x) (.const (.int .i64 1)) 3, ty, pos, af, none⟩).run Try.prog w = .ok (.value (.int .i64 ((n : Int) + 1))) w := by
  have hwrap : IntKind.i64.wrap ((n : Int) + 1) = (n : Int) + 1 := IntWalk.i64_in _ (by omega)
  unfold execOp
  simp only [h, hc]
  simp [eqGuard, binOp, Op.intArith, hwrap]
set_option maxHeartbeats 1000000 in
theorem aw_r24 {m r11 r8 rm q0 q1 q2 q3 p0 p1 p2 p3 n : Nat} {s u1 u2 : BS} {c11 c8 : List AC} (hc : ogB (r24 t0 t1 t2 t3 t4 t5 t6 s0 s1 s2 s3 s4 s5 s6 a0 a1 a2 a3 a5' a6 a7) nt = true)
    (d4 : (depB a5' 2 && depB a5' 3 && depB a6 4 && depB a7 0 && depB a7 1 && depB a7 5) = true)
    (h6 : S.E 6 = some (plV (.map (some m)))) (h11 : S.E 11 = some (.g (.one (.ptr 176 r11 0)))) (g11 : S.G 176 = some (r11, .box c11)) (k11 : pcs c11 = some [.int .i64 (q0 : Int), .int .i64 (q1 : Int), .int .i64 (q2 : Int), .int .i64 (q3 : Int)])
    (h8 : S.E 8 = some (.g (.one (.ptr 128 r8 0)))) (g8 : S.G 128 = some (r8, .box c8)) (k8 : pcs c8 = some [.int .i64 (p0 : Int), .int .i64 (p1 : Int), .int .i64 (p2 : Int), .int .i64 (p3 : Int)])
    (hG : S.G 464 = some (rm, .gst (maR m s))) (hq : q0 < 4 ∧ q1 < 4 ∧ q2 < 4 ∧ q3 < 4) (hp : p0 < 4 ∧ p1 < 4 ∧ p2 < 4 ∧ p3 < 4) (hcut : s = u1 ++ ([(p0 : Int), (p1 : Int), (p2 : Int), (p3 : Int)], n) :: u2) (hd : ∀ x ∈ s, dom4 x.1) (hin : inB u2 [(p0 : Int), (p1 : Int), (p2 : Int), (p3 : Int)] = false) (hl : s.length ≤ 1000) (hn : n ≤ 999)
    (h : KE .normal (((((((S.put 74 none).put 75 none).put 76 none).put 77 none).put 78 none).put 79 none).lay 464 (some (rm, .gst (maR m (s ++ [([(q0 : Int), (q1 : Int), (q2 : Int), (q3 : Int)], n + 1)])))))) :
    AW Try.prog nt (.region id (r24 t0 t1 t2 t3 t4 t5 t6 s0 s1 s2 s3 s4 s5 s6 a0 a1 a2 a3 a5' a6 a7) true) KE S := fun w0 M N b0 β w tm hs => by
  simp only [Bool.and_eq_true] at d4
  obtain ⟨⟨⟨⟨⟨d42, d43⟩, d54⟩, d60⟩, d61⟩, d65⟩ := d4
  have v6 : tm.getD 6 undef = .map (some m) := (hs.env 6 _ h6).2.1
  obtain ⟨b11, vs11, t11, v11, β11, o11, x11⟩ := hs.cur_box (hs.env 11 _ h11).2 g11
  obtain ⟨b8, vs8, t8, v8, β8, o8, x8⟩ := hs.cur_box (hs.env 8 _ h8).2 g8
  have y11 := pcs_get k11
  have y8 := pcs_get k8
  subst y11 y8
  obtain ⟨z11, _⟩ := csRep_map x11
  obtain ⟨z8, _⟩ := csRep_map x8
  subst z11 z8
  obtain ⟨gm, o, m1, m2, m3⟩ := hs.ents 464 _ _ hG
  obtain ⟨rfl, _⟩ := maR_at m3 m2
  have n11 : b11 ≠ gm := fun e => by
    have := hs.apart 176 464 _ _ _ _ gm g11 trivial hG trivial (by rw [β11, e]; rfl) (by rw [m1]; rfl)
    omega
  have n8 : b8 ≠ gm := fun e => by
    have := hs.apart 128 464 _ _ _ _ gm g8 trivial hG trivial (by rw [β8, e]; rfl) (by rw [m1]; rfl)
    omega
  have hstep : ∀ (f : Fl) (v : Nat → Value) (w' : World) (i : Nat), i < 6 → ((∀ i, i < 6 → f i = true → v i = v24 gm (a4 q0 q1 q2 q3) (a4 p0 p1 p2 p3) n i) ∧ Oth gm w w' ∧ (f 6 = false → w'.heap[gm]? = some o) ∧ (f 6 = true → ∃ o', w'.heap[gm]? = some o' ∧ maR gm (s ++ [([(q0 : Int), (q1 : Int), (q2 : Int), (q3 : Int)], n + 1)]) gm o')) →
      ((∀ k, k < 6 → up1 f i k = true → upv v i (v24 gm (a4 q0 q1 q2 q3) (a4 p0 p1 p2 p3) n i) k = v24 gm (a4 q0 q1 q2 q3) (a4 p0 p1 p2 p3) n k) ∧ Oth gm w w' ∧ (up1 f i 6 = false → w'.heap[gm]? = some o) ∧ (up1 f i 6 = true → ∃ o', w'.heap[gm]? = some o' ∧ maR gm (s ++ [([(q0 : Int), (q1 : Int), (q2 : Int), (q3 : Int)], n + 1)]) gm o')) := by
    rintro f v w' i hi ⟨j1, j2, j3, j4⟩
    have hne : 6 ≠ i := by omega
    refine ⟨fun k hk hu => ?_, j2, fun hu => j3 (by rw [← up1_ne f hne]; exact hu), fun hu => j4 (by rw [← up1_ne f hne]; exact hu)⟩
    rcases Nat.decEq k i with hki | hki
    · rw [upv_ne _ _ hki]
      exact j1 k hk (by rw [← up1_ne f hki]; exact hu)
    · subst hki; exact upv_same _ _ _
  refine og_region (N := nt) (M := fun f v w' => (∀ i, i < 6 → f i = true → v i = v24 gm (a4 q0 q1 q2 q3) (a4 p0 p1 p2 p3) n i) ∧ Oth gm w w' ∧ (f 6 = false → w'.heap[gm]? = some o) ∧ (f 6 = true → ∃ o', w'.heap[gm]? = some o' ∧ maR gm (s ++ [([(q0 : Int), (q1 : Int), (q2 : Int), (q3 : Int)], n + 1)]) gm o')) mixed hc hs.wide ⟨(fun i _ hf => by cases hf), (Oth.refl gm w).drew, fun _ => m2, (fun hf => by cases hf)⟩ ?_ ?_
  · rintro f i oo ⟨tmA, dsA⟩ w' v ho hfi hdep hcl hdf hfr hval hM
    dsimp only at hdf
    subst hdf
    have fr : ∀ t : Nat, t < 74 → Act.eval ⟨tmA, []⟩ (.tmp t) = tm.getD t undef := fun t ht => hfr t (fun i hi => absurd (r24_ds i t hi).1 (Nat.not_le.2 ht))
    have dep : ∀ (k d : Nat), k < 6 → f k = true → dsO (r24 t0 t1 t2 t3 t4 t5 t6 s0 s1 s2 s3 s4 s5 s6 a0 a1 a2 a3 a5' a6 a7) k = some d → Act.eval ⟨tmA, []⟩ (.tmp d) = v24 gm (a4 q0 q1 q2 q3) (a4 p0 p1 p2 p3) n k := fun k d hk hf hdk => (hval k d hf hdk).trans (hM.1 k hk hf)
    match i, ho with
    | 0, ho =>
      obtain rfl := Option.some.inj (show some (⟨some 74, .move (.tmp 6), t0, s0, a0, none⟩ : Oper) = some oo from ho)
      exact wp_value (v := .map (some gm)) (w' := w') (by unfold execOp; simp only [fr 6 (by decide), v6, Sem.run_pure]) ⟨_, rfl, hstep f v w' 0 (by omega) hM⟩
    | 1, ho =>
      obtain rfl := Option.some.inj (show some (⟨some 75, .load 42 (.tmp 11), t1, s1, a1, none⟩ : Oper) = some oo from ho)
      exact wp_value (v := a4 q0 q1 q2 q3) (w' := w') (ld_box ((fr 11 (by decide)).trans v11) o11 hM.2.1 n11) ⟨_, rfl, hstep f v w' 1 (by omega) hM⟩
    | 2, ho =>
      obtain rfl := Option.some.inj (show some (⟨some 76, .move (.tmp 6), t2, s2, a2, none⟩ : Oper) = some oo from ho)
      exact wp_value (v := .map (some gm)) (w' := w') (by unfold execOp; simp only [fr 6 (by decide), v6, Sem.run_pure]) ⟨_, rfl, hstep f v w' 2 (by omega) hM⟩
    | 3, ho =>
      obtain rfl := Option.some.inj (show some (⟨some 77, .load 42 (.tmp 8), t3, s3, a3, none⟩ : Oper) = some oo from ho)
      exact wp_value (v := a4 p0 p1 p2 p3) (w' := w') (ld_box ((fr 8 (by decide)).trans v8) o8 hM.2.1 n8) ⟨_, rfl, hstep f v w' 3 (by omega) hM⟩
    | 4, ho =>
      obtain rfl := Option.some.inj (show some (⟨some 78, .lookup 43 (.tmp 76) (.tmp 77) false, t4, s4, a5', none⟩ : Oper) = some oo from ho)
      have f6 : f 6 = false := by
        cases h6' : f 6 with
        | false => rfl
        | true =>
          have f5 : f 5 = true := depB_at d65 (hcl 6 _ rfl h6')
          have f4 : f 4 = true := depB_at d54 (hcl 5 _ rfl f5)
          rw [hfi] at f4; cases f4
      obtain ⟨_, hown⟩ := maR_at m3 (hM.2.2.1 f6)
      have e1 := dep 2 76 (by omega) (depB_at d42 hdep) rfl
      have e2 := dep 3 77 (by omega) (depB_at d43 hdep) rfl
      have h1 := ma_look hown hp hcut hd hin
      exact wp_value (v := .int .i64 (n : Int)) (w' := w') (by unfold execOp; simp only [e1, e2, v24, Sem.run_bind, h1, Result.andThen_ok, Sem.run_pure]) ⟨_, rfl, hstep f v w' 4 (by omega) hM⟩
    | 5, ho =>
      obtain rfl := Option.some.inj (show some (⟨some 79, .binOp .add 3 (.tmp 78) (.const (.int .i64 1)) 3, t5, s5, a6, none⟩ : Oper) = some oo from ho)
      have e1 := dep 4 78 (by omega) (depB_at d54 hdep) rfl
      exact wp_value (v := .int .i64 ((n : Int) + 1)) (w' := w') (add_one e1 rfl (by omega)) ⟨_, rfl, hstep f v w' 5 (by omega) hM⟩
    | 6, ho =>
      obtain rfl := Option.some.inj (show some (⟨none, .mapUpdate 43 (.tmp 74) (.tmp 75) (.tmp 79), t6, s6, a7, none⟩ : Oper) = some oo from ho)
      obtain ⟨_, hown⟩ := maR_at m3 (hM.2.2.1 hfi)
      have e1 := dep 0 74 (by omega) (depB_at d60 hdep) rfl
      have e2 := dep 1 75 (by omega) (depB_at d61 hdep) rfl
      have e3 := dep 5 79 (by omega) (depB_at d65 hdep) rfl
      obtain ⟨w2, o2, h1, h2, h3, h4⟩ := ma_put hown hl hq (n + 1) (by omega)
      have h1' : (Instr.mapUpdate 43 (.map (some gm)) (a4 q0 q1 q2 q3) (.int .i64 ((n : Int) + 1))).run Try.prog w' = .ok () w2 := h1
      refine wp_skipv (w' := w2) (by unfold execOp; simp only [e1, e2, e3, v24, Sem.run_bind, h1', Result.andThen_ok, Sem.run_pure]) ⟨_, rfl, fun k hk hu => ?_, hM.2.1.trans h2, (fun hu => by rw [up1_same] at hu; cases hu), fun _ => ⟨o2, h3, h4⟩⟩
      rw [upv_ne _ _ (by omega)]
      exact hM.1 k hk (by rw [← up1_ne f (show k ≠ 6 by omega)]; exact hu)
    | i + 7, ho => simp [r24] at ho
  · rintro f ⟨tmA, dsA⟩ w' v hall hdf hsz hfr ⟨_, hO, _, hR⟩
    dsimp only at hdf hsz
    subst hdf
    obtain ⟨o', j1, j2⟩ := hR (hall 6 (show 6 < 7 by decide))
    obtain ⟨β', k1, k2, k3, k4⟩ := hs.change1 (w' := w') 464 rm (.gst (maR gm (s ++ [([(q0 : Int), (q1 : Int), (q2 : Int), (q3 : Int)], n + 1)]))) (β 464) hO.os hO.tape hO.output hO.size
      (fun r1 e1 hg => by rw [hG] at hg; cases hg; exact ⟨Nat.le_refl _, fun _ => rfl⟩)
      (fun k hk hne => hO.block k hk (fun ek => hne rm _ hG trivial (by rw [m1, ek]; rfl)))
      (fun b _ hb => ⟨Nat.lt_of_lt_of_le (hs.fresh 464 rm _ b hG trivial hb).1 hO.size, .inr ⟨rm, _, hG, trivial, hb⟩⟩)
      (fun h => by omega)
      (fun β' G'' _ _ hok hold hβ => ⟨gm, o', hβ.trans m1, j1, j2⟩)
    refine ⟨β', _, h, ?_, rfl⟩
    refine k1.refr _ hsz (fun t a ht => ?_)
    have hnone : ∀ d, (d = 74 ∨ d = 75 ∨ d = 76 ∨ d = 77 ∨ d = 78 ∨ d = 79) → (((((((S.put 74 none).put 75 none).put 76 none).put 77 none).put 78 none).put 79 none)).E d = none := by
      rintro d (rfl | rfl | rfl | rfl | rfl | rfl) <;> rfl
    have htd : ¬ (74 ≤ t ∧ t ≤ 79) := fun hh => by
      have h3 := hnone t (by omega)
      have ht' : (((((((S.put 74 none).put 75 none).put 76 none).put 77 none).put 78 none).put 79 none)).E t = some a := ht
      rw [h3] at ht'; cases ht'
    refine ⟨?_, hfr t (fun i hi => htd (r24_ds i t hi))⟩
    rw [← ht]
    show S.E t = upd (upd (upd (upd (upd (upd S.E 74 none) 75 none) 76 none) 77 none) 78 none) 79 none t
    rw [upd_ne _ _ (by omega), upd_ne _ _ (by omega), upd_ne _ _ (by omega), upd_ne _ _ (by omega), upd_ne _ _ (by omega), upd_ne _ _ (by omega)]
end
end Go.Proofs.Ytfbcblknahicdaa
