/- LTI: laid into one text. -/
import Derived.Test.YtfbcblknahicdaaQXFN
import Derived.Test.YtfbcblknahicdaaQXFQ

namespace Go.Proofs.Ytfbcblknahicdaa
set_option linter.unusedVariables false
set_option linter.unusedSimpArgs false
set_option maxRecDepth 20000
open Go.RowKit
attribute [local irreducible] runA runX AW
theorem gq_LTI {H G : Prop} (k : H) (h : Hid H → G := by (intro hh; repeat1' (first | (first | (refine nxA ?_; (first | refine r_pure2 (by rfl) (by rfl) (fun w => eq_arr4 _ _ _ _ _ _ _ _ _ _ w) (by rfl) (by rfl) ?_ | ((first | (refine z_op (by rfl) ?_; first | refine z_ok ?_ ?_ | refine z_ex ?_ (by first | exact zL1 | ((first | fail); exact zWW) | exact zL2 | (first | exact rw_c Int rfl | exact rw_c Gt rfl) | exact zL3 | fail) ?_) | ((first | refine q_callE wsT wsZ (by rfl) ?_ | refine q_callVE wsT (by rfl) (by rfl) ?_); refine ⟨_, _, _, (by first | assumption), _, by rfl, ?_, ?_⟩)); focus (first | exact trivial | fail | exact zQZ)) | fail)) | refine swA ?_) | refine awA ?_); exact hh.out)) : G := h ⟨k⟩
theorem gs_LTI {H G : Prop} (k : H) (h : Hid H → G := by (intro hh; repeat1' (first | (refine nxA ?_; (first | refine r_pure2 (by rfl) (by rfl) (fun w => eq_arr4 _ _ _ _ _ _ _ _ _ _ w) (by rfl) (by rfl) ?_ | ((first | (refine z_op (by rfl) ?_; first | refine z_ok ?_ ?_ | refine z_ex ?_ (by first | exact zL1 | ((first | fail); exact zWW) | exact zL2 | (first | exact rw_c Int rfl | exact rw_c Gt rfl) | exact zL3 | fail) ?_) | ((first | refine q_callE wsT wsZ (by rfl) ?_ | refine q_callVE wsT (by rfl) (by rfl) ?_); refine ⟨_, _, _, (by first | assumption), _, by rfl, ?_, ?_⟩)); focus (first | exact trivial | fail | exact zQZ)) | fail)) | refine swA ?_); exact hh.out)) : G := h ⟨k⟩
theorem hu_a4 : Try.prog.underlying 42 = some (.array 4 3) := by kernel_rfl
theorem vals_nil {S : St} : Vals S [] := fun p hp => by cases hp
theorem vals_cons {S : St} {p : Nat × Value} {vs : List (Nat × Value)} {a : AV} (h1 : S.E p.1 = some a) (h2 : pval a = some p.2) (h3 : Vals S vs) : Vals S (p :: vs) := fun q hq => by
  rcases List.mem_cons.1 hq with rfl | hq
  · exact ⟨a, h1, h2⟩
  · exact h3 q hq
abbrev qvs (s : BS) : List Value := (s.map (·.1)).flatMap fun t => t.map fun x => Value.int .i64 x
theorem len_q {ρ : Operand → Value} {w : World} {x dd : Nat} {g off cap n : Nat} {ty : TypeId} {pos : String} {af : Array Edge} (h : ρ (.tmp x) = quV g off cap n) : (execOp ρ ⟨some dd, .call { callee := .builtin .len, args := #[.tmp x], argTypes := #[44] }, ty, pos, af, none⟩).run Try.prog w = .ok (.value (.int .i64 n)) w := by
  have hu : Try.prog.underlying 44 = some (.slice 42) := by kernel_rfl
  unfold execOp
  simp [resolve, invoke, builtin, Builtin.len_, h, run_underlying hu, Builtin.lenOf, goInt]
theorem idx_q {tm : Array Value} {w : World} {x dd : Nat} {g off cap n : Nat} {ty : TypeId} {pos : String} {af : Array Edge} (h : Act.eval ⟨tm, []⟩ (.tmp x) = quV g off cap (n + 1)) : (execOp (Act.eval ⟨tm, []⟩) ⟨some dd, .indexAddr 44 (.tmp x) (.const (.int .i64 0)), ty, pos, af, none⟩).run Try.prog w = .ok (.value (.pointer (some ⟨g, off, none⟩))) w := by
  have hu : Try.prog.underlying 44 = some (.slice 42) := by kernel_rfl
  have e3 : Act.eval ⟨tm, []⟩ (.const (.int .i64 0)) = .int .i64 0 := rfl
  unfold execOp
  simp only [h, e3]
  simp [go_sem, Instr.indexAt, run_underlying hu]
theorem ld_q {tm : Array Value} {w : World} {x dd : Nat} {g off : Nat} {a b c d : Int} {ty : TypeId} {pos : String} {af : Array Edge} (h : Act.eval ⟨tm, []⟩ (.tmp x) = .pointer (some ⟨g, off, none⟩))
    (h0 : w.cell? ⟨g, off, none⟩ = some (.int .i64 a)) (h1 : w.cell? ⟨g, off + 1, none⟩ = some (.int .i64 b)) (h2 : w.cell? ⟨g, off + 2, none⟩ = some (.int .i64 c)) (h3 : w.cell? ⟨g, off + 3, none⟩ = some (.int .i64 d)) :
    (execOp (Act.eval ⟨tm, []⟩) ⟨some dd, .load 42 (.tmp x), ty, pos, af, none⟩).run Try.prog w = .ok (.value (a4 a b c d)) w := by
  unfold execOp
  simp only [h]
  simp [go_sem, h0, h1, h2, h3]
theorem tup2 {w : World} {β : Nat → Value} {G : Blk} {ok : Nat → Prop} (v : Int) (b : Bool) : AV.rep w β G ok (.tup [.one (.v (.int .i64 v)), .one (.v (.bool b))]) (.tuple #[.int .i64 v, .bool b]) :=
  ⟨#[.int .i64 v, .bool b], rfl, rfl, fun j x hj => by
    match j with
    | 0 => cases hj; exact ⟨_, rfl, rfl, rfl⟩
    | 1 => cases hj; exact ⟨_, rfl, rfl, rfl⟩
    | j + 2 => simp at hj⟩
structure QSt where
  (j r g off cap n : Nat)
  (xs : List Value)
  (s : BS)
def QSt.E (q : QSt) : List (Nat × AV) := [(7, plV (quV q.g q.off q.cap q.n))]
def QSt.G (m : Nat) (q : QSt) : List (Nat × (Nat × Ent)) := [(464, (0, .gst (maR m q.s))), (528, (q.r, .gst (quR 42 4 q.g q.off q.cap q.n q.xs)))]
structure QSt.ok (q : QSt) (k : Nat) (B : BS) : Prop where
  s : q.s = B
  n : q.n + k = B.length
  xs : q.xs = qvs (B.drop k)
theorem dom4_mk {t : List Int} (h : dmB t = true) : ∃ a b c d : Nat, (a < 4 ∧ b < 4 ∧ c < 4 ∧ d < 4) ∧ t = [(a : Int), (b : Int), (c : Int), (d : Int)] := dmB_ok h
set_option maxHeartbeats 4000000 in
theorem k_ltI1 (a b c d : Nat) (hab : a < 4 ∧ b < 4 ∧ c < 4 ∧ d < 4) (k0 : Nat) (hk0 : k0 < 24) (ht : tbA S24 k0 = [(a : Int), (b : Int), (c : Int), (d : Int)]) : Kon Try.prog 5 [roA [(a : Int), (b : Int), (c : Int), (d : Int)]] [] (vI (dsA S24 k0 : Int)) [] [] := by
  have hV := k_tvI 2 [(a : Int), (b : Int), (c : Int), (d : Int)] (by simp)
  have hv := (at24 k0 hk0).1
  rw [ht] at hv
  rw [hv] at hV
  clear hv
  (refine kM Try.func5 rfl ?_; intro hfit hfe)
  (repeat refine gcA ?_)
  (repeat (first | refine gs_LTI ?_ | (refine ga0A ?_; intro _hq)))
  (repeat refine gcA ?_)
  (repeat (first | refine gs_LTI ?_ | (refine ga0A ?_; intro _hq)))
  (repeat refine gcA ?_)
  (repeat (first | refine gs_LTI ?_ | (refine ga0A ?_; intro _hq)))
  refine aw_seq ?_
  refine wx_region ?_
  refine wx_run 1 T0ok cfU_ok (by rfl) ?_
  (repeat (first | refine gs_LTI ?_ | (refine ga0A ?_; intro _hq)))
  refine wx_arr hu_a4 (by rfl) (by rfl) (by simp) (by simp) ?_
  refine wx_end T0ok cfU_ok (i := 2) (by rfl) ?_
  (repeat (first | refine gs_LTI ?_ | (refine ga0A ?_; intro _hq)))
  (repeat refine gcA ?_)
  (repeat (first | refine gs_LTI ?_ | (refine ga0A ?_; intro _hq)))
  refine aw_seq ?_
  refine wx_region ?_
  refine wx_gnew (fun g => .map (some g)) (fun g => maR g []) (.map #[] 0) (by rfl) (by rfl) (fun tm w => by rfl) ma_new (fun g => rfl) (fun m => ?_)
  refine wx_run 1 T0ok cfU_ok (by rfl) ?_
  (repeat (first | refine gs_LTI ?_ | (refine ga0A ?_; intro _hq)))
  refine wx_gw (i := 464) (maR m [([0, 1, 2, 3], 0)]) [(29, .map (some m)), (30, a4 0 1 2 3)] (by rfl) (by rfl) (by repeat (first | exact vals_nil | refine vals_cons (by rfl) (by rfl) ?_)) (fun tm w g o hw hR hv => ?_) ?_
  · obtain ⟨rfl, hown⟩ := maR_at hR hw
    obtain ⟨w', o', h1, h2, h3, h4⟩ := ma_put hown (by simp) (a := 0) (b := 1) (c := 2) (d := 3) ⟨by omega, by omega, by omega, by omega⟩ 0 (by omega)
    have e1 := hv (29, .map (some g)) (by simp)
    have e2 := hv (30, a4 0 1 2 3) (by simp)
    have h1' : (Instr.mapUpdate 43 (.map (some g)) (a4 0 1 2 3) (.int .i64 0)).run Try.prog w = .ok () w' := h1
    have e3 : Act.eval ⟨tm, []⟩ (.const (.int .i64 0)) = .int .i64 0 := rfl
    refine ⟨w', o', ?_, h2, h3, h4⟩
    unfold execOp
    simp only [e1, e2, e3, Sem.run_bind, h1', Result.andThen_ok, Sem.run_pure]
  refine wx_end T0ok cfU_ok (i := 3) (by rfl) ?_
  (repeat (first | refine gs_LTI ?_ | (refine ga0A ?_; intro _hq)))
  (repeat refine gcA ?_)
  (repeat (first | refine gs_LTI ?_ | (refine ga0A ?_; intro _hq)))
  refine aw_toq 7 528 (by rfl) (by rfl) (by rfl) (by decide) (by decide) (by rfl) (fun g cap => ?_)
  (repeat refine gcA ?_)
  refine aw_rd [3, 4, 6] [384, 64] (fun q : QSt => q.E) (fun q => q.G m) (fun q => q.j ≤ k0 ∧ q.ok q.j (bst q.j)) (fun q => 25 - q.j) ⟨0, 1, g, 0, cap, 1, [.int .i64 0, .int .i64 1, .int .i64 2, .int .i64 3], [([0, 1, 2, 3], 0)]⟩ (by rfl) (by rfl) ⟨Nat.zero_le _, ⟨by rfl, by rfl, by rfl⟩⟩ (by rfl) zHE zHE ?_
  clear hV hfit hfe g cap
  rintro ⟨k, r, g, off, cap, n, xs, s⟩ ⟨hk, hs, hn, hx⟩
  dsimp only at hk hs hn hx
  dsimp only [QSt.E, QSt.G]
  obtain ⟨p0, p1, p2, p3, hp, hT⟩ := dom4_mk (dom_at k (by omega))
  obtain ⟨f1, f2, f3⟩ := bst_facts k (by omega)
  obtain ⟨hc1, hc2⟩ := stj_cut k (by omega) 0 (by omega)
  rw [stj_0] at hc1 hc2
  obtain ⟨n, rfl⟩ : ∃ n', n = n' + 1 := ⟨n - 1, by omega⟩
  have hd : decide (((n + 1 : Nat) : Int) > 0) = true := decide_eq_true (by omega)
  have hxs : ∃ ys, xs = .int .i64 (p0 : Int) :: .int .i64 (p1 : Int) :: .int .i64 (p2 : Int) :: .int .i64 (p3 : Int) :: ys := by
    have e1 : (bst k).drop k = (tbA S24 k, dsA S24 k) :: (bst k).drop (k + 1) := by
      rw [List.drop_eq_getElem_cons f1]
      have : (bst k)[k] = (tbA S24 k, dsA S24 k) := by
        have h := f3
        rw [List.getD_eq_getElem?_getD, List.getElem?_eq_getElem f1, Option.getD_some] at h
        rw [h]; rfl
      rw [this]
    refine ⟨qvs ((bst k).drop (k + 1)), ?_⟩
    rw [hx, e1, hT]; rfl
  obtain ⟨ys, hys⟩ := hxs
  (repeat (first | refine wx_region ?_ | refine aw_seq ?_ | refine aw_ct (by rfl) zDD ?_ | refine aw_cf (by rfl) zDD ?_ | refine ra_step ?_ | refine aw_skip ?_ | refine aw_block ?_ | refine aw_exit ?_))
  refine wx_run 1 T0ok cfU_ok (by rfl) ?_
  (repeat (first | refine gs_LTI ?_ | (refine ga0A ?_; intro _hq)))
  refine wx_val (b := plV (quV g off cap (n + 1))) (a := vI ((n + 1 : Nat) : Int)) (yv := quV g off cap (n + 1)) (by rfl) (by rfl) (fun w β G ok y h => h.1) (fun ρ w h => len_q h) (fun w β G ok => ⟨rfl, rfl⟩) ?_
  refine wx_end T0ok cfU_ok (i := 2) (by rfl) ?_
  (repeat (first | refine gs_LTI ?_ | (refine ga0A ?_; intro _hq)))
  (repeat (first | refine wx_region ?_ | refine aw_seq ?_ | refine aw_ct (by rfl) zDD ?_ | refine aw_cf (by rfl) zDD ?_ | refine ra_step ?_ | refine aw_skip ?_ | refine aw_block ?_ | refine aw_exit ?_))
  refine wx_run 1 T0ok cfU_ok (by rfl) ?_
  (repeat (first | refine gs_LTI ?_ | (refine ga0A ?_; intro _hq)))
  refine wx_gv (i := 528) (ι := Unit) (fun _ => .pointer (some ⟨g, off, none⟩)) (fun _ => plV (.pointer (some ⟨g, off, none⟩))) (fun _ => quR 42 4 g off cap (n + 1) xs) [(39, quV g off cap (n + 1))] (by rfl) (by rfl) (by rfl) (by repeat (first | exact vals_nil | refine vals_cons (by rfl) (by rfl) ?_)) (fun tm w g' o hw hR hv => ⟨(), idx_q (hv (39, quV g off cap (n + 1)) List.mem_cons_self), hR⟩) (fun j w β G ok => ⟨rfl, rfl⟩) (fun _ => ?_)
  refine wx_gv (i := 528) (ι := Unit) (fun _ => a4 p0 p1 p2 p3) (fun _ => .g (.agg [.v (.int .i64 p0), .v (.int .i64 p1), .v (.int .i64 p2), .v (.int .i64 p3)])) (fun _ => quR 42 4 g off cap (n + 1) xs) [(40, .pointer (some ⟨g, off, none⟩))] (by rfl) (by rfl) (by rfl) (by repeat (first | exact vals_nil | refine vals_cons (by rfl) (by rfl) ?_)) (fun tm w g' o hw hR hv => ?_) (fun j w β G ok => ofv_rep (x := a4 p0 p1 p2 p3) rfl) (fun _ => ?_)
  · obtain ⟨rfl, hQ⟩ := quR_at hR hw
    obtain ⟨off', cap', e, _, _, hc⟩ := hQ.cell
    cases e
    exact ⟨(), ld_q (hv (40, .pointer (some ⟨g', off, none⟩)) List.mem_cons_self) (hc 0 _ (by rw [hys]; rfl)) (hc 1 _ (by rw [hys]; rfl)) (hc 2 _ (by rw [hys]; rfl)) (hc 3 _ (by rw [hys]; rfl)), hR⟩
  refine wx_end T0ok cfU_ok (i := 3) (by rfl) ?_
  (repeat (first | refine gs_LTI ?_ | (refine ga0A ?_; intro _hq)))
  (repeat refine gcA ?_)
  (repeat (first | refine gs_LTI ?_ | (refine ga0A ?_; intro _hq)))
  have hdom : ∀ x ∈ bst k, dom4 x.1 := dom_stj (k := k) (j := 0) (by omega) (by omega)
  subst hs
  rcases Nat.lt_or_ge k k0 with h7 | h7
  · have hne : ((p0 : Int) == (a : Int) && ((p1 : Int) == (b : Int) && ((p2 : Int) == (c : Int) && (p3 : Int) == (d : Int)))) = false := by
      cases hb : ((p0 : Int) == (a : Int) && ((p1 : Int) == (b : Int) && ((p2 : Int) == (c : Int) && (p3 : Int) == (d : Int)))) with
      | false => rfl
      | true =>
        simp only [Bool.and_eq_true, beq_iff_eq] at hb
        obtain ⟨b0, b1, b2, b3⟩ := hb
        rw [b0, b1, b2, b3, ← ht] at hT
        have := ne24 k (by omega) k0 hk0 hT
        omega
    (repeat refine gcA ?_)
    (repeat (first | refine gs_LTI ?_ | (refine ga0A ?_; intro _hq)))
    (repeat refine gcA ?_)
    refine aw_rd [3, 4, 6, 8, 48, 49] [384, 64, 128] (fun q : QSt => (50, vI q.j) :: q.E) (fun q => q.G m) (fun q => q.j ≤ 5 ∧ q.ok k (stj k q.j)) (fun q => 5 - q.j) ⟨0, r, g, off, cap, n + 1, xs, bst k⟩ (by rfl) (by rfl) ⟨Nat.zero_le _, ⟨by rfl, hn, hx⟩⟩ (by rfl) zHE zHE ?_
    clear hd hys hne hn hx hc1 hc2 hdom f1 f2 f3 hab ys n r g off cap xs
    rintro ⟨j, r, g, off, cap, n, xs, s⟩ ⟨hj, hs, hn, hx⟩
    dsimp only at hj hs hn hx
    dsimp only [QSt.E, QSt.G]
    subst hs
    have hk24 : k < 24 := by omega
    rcases Nat.lt_or_ge j 5 with h8 | h8
    · have hd : decide ((j : Int) < ((5 : Nat) : Int)) = true := decide_eq_true (by omega)
      have hjn : 0 ≤ (j : Int) ∧ (j : Int) < 5 := by omega
      obtain ⟨n1, n2, n3⟩ := nxt_ok k hk24 j h8
      obtain ⟨q0, q1, q2, q3, hq, hN⟩ := dom4_mk (dom_nx k hk24 j h8)
      have hN' := hN
      rw [nxt, hT] at hN'
      simp only [List.map_cons, List.map_nil, List.cons.injEq, and_true] at hN'
      obtain ⟨e0, e1, e2, e3⟩ := hN'
      have hG0 : Kon Try.prog 17 [gV (g5.getD (j : Int).toNat Cel.no), vI (p0 : Int)] [] (vI (q0 : Int)) [] [] := by have h := k_run 2 _ (p0 : Int) n1 (by omega); rwa [e0] at h
      have hG1 : Kon Try.prog 17 [gV (g5.getD (j : Int).toNat Cel.no), vI (p1 : Int)] [] (vI (q1 : Int)) [] [] := by have h := k_run 2 _ (p1 : Int) n1 (by omega); rwa [e1] at h
      have hG2 : Kon Try.prog 17 [gV (g5.getD (j : Int).toNat Cel.no), vI (p2 : Int)] [] (vI (q2 : Int)) [] [] := by have h := k_run 2 _ (p2 : Int) n1 (by omega); rwa [e2] at h
      have hG3 : Kon Try.prog 17 [gV (g5.getD (j : Int).toNat Cel.no), vI (p3 : Int)] [] (vI (q3 : Int)) [] [] := by have h := k_run 2 _ (p3 : Int) n1 (by omega); rwa [e3] at h
      clear n1 n2 n3 e0 e1 e2 e3
      (repeat refine gcA ?_)
      (repeat (first | refine gs_LTI ?_ | (refine ga0A ?_; intro _hq)))
      (repeat refine gcA ?_)
      (repeat (first | refine gs_LTI ?_ | (refine ga0A ?_; intro _hq)))
      (repeat refine gcA ?_)
      (repeat (first | refine gs_LTI ?_ | (refine ga0A ?_; intro _hq)))
      (repeat refine gcA ?_)
      (repeat (first | refine gs_LTI ?_ | (refine ga0A ?_; intro _hq)))
      (repeat refine gcA ?_)
      refine aw_unroll 5 ?_
      iterate 17 ((repeat refine gcA ?_); (repeat (first | refine gs_LTI ?_ | (refine ga0A ?_; intro _hq))))
      have hdom := dom_stj (k := k) (j := j) hk24 (by omega)
      have hjs := stj_s k hk24 j h8
      obtain ⟨hc1, hc2⟩ := stj_cut k hk24 j (by omega)
      obtain ⟨f1, f2, f3⟩ := stj_len k hk24 j (by omega)
      obtain ⟨hB, hhB⟩ : ∃ hB, inB (stj k j) [(q0 : Int), (q1 : Int), (q2 : Int), (q3 : Int)] = hB := ⟨_, rfl⟩
      rw [hN, hhB] at hjs
      rw [hT] at hc1 hc2
      (repeat (first | refine wx_region ?_ | refine aw_seq ?_ | refine aw_ct (by rfl) zDD ?_ | refine aw_cf (by rfl) zDD ?_ | refine ra_step ?_ | refine aw_skip ?_ | refine aw_block ?_ | refine aw_exit ?_))
      refine wx_run 2 T0ok cfU_ok (by rfl) ?_
      (repeat (first | refine gs_LTI ?_ | (refine ga0A ?_; intro _hq)))
      refine wx_gv (i := 464) (ι := Int) (fun v => .tuple #[.int .i64 v, .bool hB]) (fun v => .tup [.one (.v (.int .i64 v)), .one (.v (.bool hB))]) (fun _ => maR m (stj k j)) [(67, .map (some m)), (68, a4 q0 q1 q2 q3)] (by rfl) (by rfl) (by rfl) (by repeat (first | exact vals_nil | refine vals_cons (by rfl) (by rfl) ?_)) (fun tm w g' o hw hR hv => ?_) (fun v w β G ok => tup2 v hB) (fun v => ?_)
      · obtain ⟨rfl, hown⟩ := maR_at hR hw
        have e1 := hv (67, .map (some g')) (by simp)
        have e2 := hv (68, a4 q0 q1 q2 q3) (by simp)
        obtain ⟨v, h1⟩ := ma_has hown hq hdom
        rw [hhB] at h1
        refine ⟨v, ?_, hR⟩
        unfold execOp
        simp only [e1, e2, Sem.run_bind, h1, Result.andThen_ok, Sem.run_pure]
      refine wx_end T0ok cfU_ok (i := 3) (by rfl) ?_
      (repeat (first | refine gs_LTI ?_ | (refine ga0A ?_; intro _hq)))
      cases hB with
      | true =>
        rw [if_pos rfl] at hjs
        (repeat (first | refine gq_LTI ?_ | (refine ga0A ?_; intro _hq)))
        exact ⟨⟨j + 1, r, g, off, cap, n, xs, stj k j⟩, ⟨h8, ⟨hjs.symm, by rw [hjs]; exact hn, by rw [hjs]; exact hx⟩⟩, ⟨by rfl, zHE, zHE⟩, (by first | omega | (dsimp only; omega))⟩
      | false =>
        rw [if_neg (by decide)] at hjs
        (repeat refine gcA ?_)
        (repeat (first | refine gs_LTI ?_ | (refine ga0A ?_; intro _hq)))
        refine aw_ct (by rfl) rfl ?_
        refine aw_seq ?_
        refine aw_r24 (by kernel_rfl) (by kernel_rfl) (by rfl) (by rfl) (by rfl) (by rfl) (by rfl) (by rfl) (by rfl) (by rfl) hq hp hc1 hdom hc2 (by omega) (by have := (at24 k hk24).2.2; omega) ?_
        refine wx_region ?_
        refine wx_run 3 T0ok cfU_ok (by rfl) ?_
        (repeat (first | refine gs_LTI ?_ | (refine ga0A ?_; intro _hq)))
        refine wx_gpush (i := 528) (j := 1312) (l := [.int .i64 (q0 : Int), .int .i64 (q1 : Int), .int .i64 (q2 : Int), .int .i64 (q3 : Int)]) T0ok (by rfl) (by rfl) (by rfl) (by rfl) (by rfl) (by rfl) (by rfl) (by rfl) (by rfl) (by rfl) (by rfl) (by omega) (fun g' off' cap' => ?_)
        refine wx_end T0ok cfU_ok (i := 4) (by rfl) ?_
        (repeat (first | refine gq_LTI ?_ | (refine ga0A ?_; intro _hq)))
        have hx' : xs ++ [.int .i64 (q0 : Int), .int .i64 (q1 : Int), .int .i64 (q2 : Int), .int .i64 (q3 : Int)] = qvs ((stj k (j + 1)).drop k) := by
          rw [hjs, List.drop_append_of_le_length (by omega), qvs, List.map_append, List.flatMap_append, hx]; rfl
        exact ⟨⟨j + 1, r + 1, g', off', cap', n + 1, xs ++ [.int .i64 (q0 : Int), .int .i64 (q1 : Int), .int .i64 (q2 : Int), .int .i64 (q3 : Int)], stj k j ++ [([(q0 : Int), (q1 : Int), (q2 : Int), (q3 : Int)], dsA S24 k + 1)]⟩, ⟨h8, ⟨hjs.symm, (by rw [hjs, List.length_append, ← hn, List.length_singleton]; dsimp only; omega), hx'⟩⟩, ⟨by rfl, zHE, zHE⟩, (by first | omega | (dsimp only; omega))⟩
    · obtain rfl : j = 5 := by omega
      have hd5 : decide (((5 : Nat) : Int) < ((5 : Nat) : Int)) = false := by decide
      obtain ⟨f1, f2, f3⟩ := stj_len k hk24 5 (by omega)
      obtain ⟨n, rfl⟩ : ∃ n', n = n' + 1 := ⟨n - 1, by omega⟩
      (repeat refine gcA ?_)
      (repeat (first | refine gs_LTI ?_ | (refine ga0A ?_; intro _hq)))
      (repeat (first | refine wx_region ?_ | refine aw_seq ?_ | refine aw_ct (by rfl) zDD ?_ | refine aw_cf (by rfl) zDD ?_ | refine ra_step ?_ | refine aw_skip ?_ | refine aw_block ?_ | refine aw_exit ?_))
      refine wx_run 1 T0ok cfU_ok (by rfl) ?_
      (repeat (first | refine gs_LTI ?_ | (refine ga0A ?_; intro _hq)))
      refine wx_gtail (i := 528) T0ok (by rfl) (by rfl) (by rfl) (by rfl) (by rfl) (fun off' cap' => ?_)
      refine wx_end T0ok cfU_ok (i := 2) (by rfl) ?_
      (repeat (first | refine gq_LTI ?_ | (refine ga0A ?_; intro _hq)))
      have hx' : xs.drop 4 = qvs ((bst (k + 1)).drop (k + 1)) := by
        rw [stj_5] at hx f1 f3
        have e1 : (bst (k + 1)).drop k = (tbA S24 k, dsA S24 k) :: (bst (k + 1)).drop (k + 1) := by
          rw [List.drop_eq_getElem_cons f1]
          have : (bst (k + 1))[k] = (tbA S24 k, dsA S24 k) := by
            have h := f3
            rw [List.getD_eq_getElem?_getD, List.getElem?_eq_getElem f1, Option.getD_some] at h
            rw [h]; rfl
          rw [this]
        rw [hx, e1, hT]; rfl
      exact ⟨⟨k + 1, r, g, off', cap', n, xs.drop 4, stj k 5⟩, ⟨h7, ⟨stj_5 k, by rw [stj_5] at hn; dsimp only; omega, hx'⟩⟩, ⟨by rfl, zHE, zHE⟩, (by first | omega | (dsimp only; omega))⟩
  · obtain rfl : k = k0 := by omega
    have heq : ((p0 : Int) == (a : Int) && ((p1 : Int) == (b : Int) && ((p2 : Int) == (c : Int) && (p3 : Int) == (d : Int)))) = true := by
      rw [ht] at hT
      simp only [List.cons.injEq, and_true] at hT
      obtain ⟨b0, b1, b2, b3⟩ := hT
      rw [b0, b1, b2, b3]; simp
    (repeat (first | refine wx_region ?_ | refine aw_seq ?_ | refine aw_ct (by rfl) zDD ?_ | refine aw_cf (by rfl) zDD ?_ | refine ra_step ?_ | refine aw_skip ?_ | refine aw_block ?_ | refine aw_exit ?_))
    refine wx_run 2 T0ok cfU_ok (by rfl) ?_
    (repeat (first | refine gs_LTI ?_ | (refine ga0A ?_; intro _hq)))
    refine wx_gv (i := 464) (ι := Unit) (fun _ => .int .i64 (dsA S24 k : Int)) (fun _ => vI (dsA S24 k : Int)) (fun _ => maR m (bst k)) [(45, .map (some m)), (46, a4 p0 p1 p2 p3)] (by rfl) (by rfl) (by rfl) (by repeat (first | exact vals_nil | refine vals_cons (by rfl) (by rfl) ?_)) (fun tm w g' o hw hR hv => ?_) (fun j w β G ok => ⟨rfl, rfl⟩) (fun _ => ?_)
    · obtain ⟨rfl, hown⟩ := maR_at hR hw
      have e1 := hv (45, .map (some g')) (by simp)
      have e2 := hv (46, a4 p0 p1 p2 p3) (by simp)
      rw [hT] at hc1 hc2
      have h1 := ma_look hown hp hc1 hdom hc2
      refine ⟨(), ?_, hR⟩
      unfold execOp
      simp only [e1, e2, Sem.run_bind, h1, Result.andThen_ok, Sem.run_pure]
    refine wx_end T0ok cfU_ok (i := 3) (by rfl) ?_
    (repeat (first | refine gq_LTI ?_ | (refine ga0A ?_; intro _hq)))
    (refine rtA ?_; try rfl)
end Go.Proofs.Ytfbcblknahicdaa
