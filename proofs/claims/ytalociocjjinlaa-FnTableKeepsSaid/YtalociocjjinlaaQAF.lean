/- Tab, ZA, PTA, KGA, PH, KGE, KGH, KGM: laid into one text. -/
import Derived.Test.YtalociocjjinlaaQAD
import Derived.Test.YtalociocjjinlaaQAE
import Derived.Test.YtalociocjjinlaaRows

namespace Go.Proofs.Ytalociocjjinlaa
set_option maxRecDepth 10000
theorem allN {α : Type} {Q : α → Prop} : ∀ p ∈ ([] : List α), Q p := fun p hp => by cases hp
theorem allC {α : Type} {Q : α → Prop} {x : α} {l : List α} (h : Q x) (h' : ∀ p ∈ l, Q p) : ∀ p ∈ x :: l, Q p := fun p hp => by
  rcases List.mem_cons.1 hp with rfl | hp
  · exact h
  · exact h' p hp
def T0 : Tab := ⟨[(2, (false, 1)), (3, (false, 1)), (4, (false, 1)), (5, (false, 1)), (9, (false, 1)), (12, (false, 1)), (13, (true, 2)), (19, (true, 1)), (21, (false, 1)), (22, (false, 1)), (23, (false, 1)), (27, (false, 1)), (32, (true, 4)), (33, (true, 4)), (37, (false, 1)), (46, (true, 2)), (47, (true, 2)), (52, (false, 1)), (53, (false, 1)), (57, (true, 4)), (58, (true, 4)), (67, (false, 1)), (69, (false, 1)), (70, (true, 20)), (72, (true, 3)), (84, (false, 1))],
  [(13000, (0, false, 1)), (13001, (1, false, 1)), (19000, (0, false, 1)), (32000, (0, false, 1)), (32001, (1, false, 1)), (32002, (2, false, 1)), (32003, (3, false, 1)), (33000, (0, false, 1)), (33001, (1, false, 1)), (33002, (2, false, 1)), (33003, (3, false, 1)), (46000, (0, false, 1)), (46001, (1, false, 1)), (47000, (0, false, 1)), (47001, (1, false, 1)), (57000, (0, false, 1)), (57001, (1, false, 1)), (57002, (2, false, 1)), (57003, (3, false, 1)), (58000, (0, false, 1)), (58001, (1, false, 1)), (58002, (2, false, 1)), (58003, (3, false, 1))],
  [(22, (none, 5, false, 1, 1)), (23, (none, 3, false, 1, 8)), (27, (none, 33, true, 4, 32)), (53, (none, 4, false, 1, 1)), (70, (some 5, 58, true, 4, 40)), (72, (some 3, 3, false, 1, 8))],
  [(2, [.int .i64 0]), (3, [.int .i64 0]), (4, [.bool false]), (5, [.int .u8 0]), (9, [.string ByteArray.empty]), (12, [.int .u64 0]), (13, [.string ByteArray.empty, .int .u64 0]), (19, [.pointer none]), (21, [.int .i32 0]), (22, [.slice none 0 0]), (23, [.slice none 0 0]), (27, [.slice none 0 0]), (32, [.int .i64 0, .int .i64 0, .int .i64 0, .int .i64 0]), (33, [.int .i64 0, .int .i64 0, .int .i64 0, .int .i64 0]), (37, [.pointer none]), (46, [.slice none 0 0, .int .i64 0]), (47, [.slice none 0 0, .int .i64 0]), (52, [.int .u64 0]), (53, [.slice none 0 0]), (57, [.string ByteArray.empty, .int .i64 0, .int .i64 0, .int .i64 0]), (58, [.string ByteArray.empty, .int .i64 0, .int .i64 0, .int .i64 0]), (67, [.int .u32 0]), (69, [.int .u64 0]), (70, [.string ByteArray.empty, .int .i64 0, .int .i64 0, .int .i64 0, .string ByteArray.empty, .int .i64 0, .int .i64 0, .int .i64 0, .string ByteArray.empty, .int .i64 0, .int .i64 0, .int .i64 0, .string ByteArray.empty, .int .i64 0, .int .i64 0, .int .i64 0, .string ByteArray.empty, .int .i64 0, .int .i64 0, .int .i64 0]), (72, [.int .i64 0, .int .i64 0, .int .i64 0]), (84, [.pointer none])],
  [(13, ([.string ByteArray.empty, .int .u64 0], some [(0, 1), (1, 1)], 0)), (19, ([.pointer none], some [(0, 1)], 0)), (32, ([.int .i64 0, .int .i64 0, .int .i64 0, .int .i64 0], some [(0, 1), (1, 1), (2, 1), (3, 1)], 0)), (33, ([.int .i64 0, .int .i64 0, .int .i64 0, .int .i64 0], some [(0, 1), (1, 1), (2, 1), (3, 1)], 0)), (46, ([.slice none 0 0, .int .i64 0], some [(0, 1), (1, 1)], 0)), (47, ([.slice none 0 0, .int .i64 0], some [(0, 1), (1, 1)], 0)), (57, ([.string ByteArray.empty, .int .i64 0, .int .i64 0, .int .i64 0], some [(0, 1), (1, 1), (2, 1), (3, 1)], 0)), (58, ([.string ByteArray.empty, .int .i64 0, .int .i64 0, .int .i64 0], some [(0, 1), (1, 1), (2, 1), (3, 1)], 0)), (70, ([.string ByteArray.empty, .int .i64 0, .int .i64 0, .int .i64 0, .string ByteArray.empty, .int .i64 0, .int .i64 0, .int .i64 0, .string ByteArray.empty, .int .i64 0, .int .i64 0, .int .i64 0, .string ByteArray.empty, .int .i64 0, .int .i64 0, .int .i64 0, .string ByteArray.empty, .int .i64 0, .int .i64 0, .int .i64 0], none, 4)), (72, ([.int .i64 0, .int .i64 0, .int .i64 0], none, 1))]⟩
theorem T0ok : TabOk Try.prog T0 :=
  ⟨(allC (by kernel_rfl) (allC (by kernel_rfl) (allC (by kernel_rfl) (allC (by kernel_rfl) (allC (by kernel_rfl) (allC (by kernel_rfl) (allC (by kernel_rfl) (allC (by kernel_rfl) (allC (by kernel_rfl) (allC (by kernel_rfl) (allC (by kernel_rfl) (allC (by kernel_rfl) (allC (by kernel_rfl) (allC (by kernel_rfl) (allC (by kernel_rfl) (allC (by kernel_rfl) (allC (by kernel_rfl) (allC (by kernel_rfl) (allC (by kernel_rfl) (allC (by kernel_rfl) (allC (by kernel_rfl) (allC (by kernel_rfl) (allC (by kernel_rfl) (allC (by kernel_rfl) (allC (by kernel_rfl) (allC (by kernel_rfl) allN)))))))))))))))))))))))))),
   (allC ⟨by kernel_rfl, by decide⟩ (allC ⟨by kernel_rfl, by decide⟩ (allC ⟨by kernel_rfl, by decide⟩ (allC ⟨by kernel_rfl, by decide⟩ (allC ⟨by kernel_rfl, by decide⟩ (allC ⟨by kernel_rfl, by decide⟩ (allC ⟨by kernel_rfl, by decide⟩ (allC ⟨by kernel_rfl, by decide⟩ (allC ⟨by kernel_rfl, by decide⟩ (allC ⟨by kernel_rfl, by decide⟩ (allC ⟨by kernel_rfl, by decide⟩ (allC ⟨by kernel_rfl, by decide⟩ (allC ⟨by kernel_rfl, by decide⟩ (allC ⟨by kernel_rfl, by decide⟩ (allC ⟨by kernel_rfl, by decide⟩ (allC ⟨by kernel_rfl, by decide⟩ (allC ⟨by kernel_rfl, by decide⟩ (allC ⟨by kernel_rfl, by decide⟩ (allC ⟨by kernel_rfl, by decide⟩ (allC ⟨by kernel_rfl, by decide⟩ (allC ⟨by kernel_rfl, by decide⟩ (allC ⟨by kernel_rfl, by decide⟩ (allC ⟨by kernel_rfl, by decide⟩ allN))))))))))))))))))))))),
   (allC ⟨by kernel_rfl, by decide⟩ (allC ⟨by kernel_rfl, by decide⟩ (allC ⟨by kernel_rfl, by decide⟩ (allC ⟨by kernel_rfl, by decide⟩ (allC ⟨by kernel_rfl, by decide⟩ (allC ⟨by kernel_rfl, by decide⟩ allN)))))),
   (allC ⟨by kernel_rfl, rfl⟩ (allC ⟨by kernel_rfl, rfl⟩ (allC ⟨by kernel_rfl, rfl⟩ (allC ⟨by kernel_rfl, rfl⟩ (allC ⟨by kernel_rfl, rfl⟩ (allC ⟨by kernel_rfl, rfl⟩ (allC ⟨by kernel_rfl, rfl⟩ (allC ⟨by kernel_rfl, rfl⟩ (allC ⟨by kernel_rfl, rfl⟩ (allC ⟨by kernel_rfl, rfl⟩ (allC ⟨by kernel_rfl, rfl⟩ (allC ⟨by kernel_rfl, rfl⟩ (allC ⟨by kernel_rfl, rfl⟩ (allC ⟨by kernel_rfl, rfl⟩ (allC ⟨by kernel_rfl, rfl⟩ (allC ⟨by kernel_rfl, rfl⟩ (allC ⟨by kernel_rfl, rfl⟩ (allC ⟨by kernel_rfl, rfl⟩ (allC ⟨by kernel_rfl, rfl⟩ (allC ⟨by kernel_rfl, rfl⟩ (allC ⟨by kernel_rfl, rfl⟩ (allC ⟨by kernel_rfl, rfl⟩ (allC ⟨by kernel_rfl, rfl⟩ (allC ⟨by kernel_rfl, rfl⟩ (allC ⟨by kernel_rfl, rfl⟩ (allC ⟨by kernel_rfl, rfl⟩ allN)))))))))))))))))))))))))),
   (allC ⟨by kernel_rfl, rfl⟩ (allC ⟨by kernel_rfl, rfl⟩ (allC ⟨by kernel_rfl, rfl⟩ (allC ⟨by kernel_rfl, rfl⟩ (allC ⟨by kernel_rfl, rfl⟩ (allC ⟨by kernel_rfl, rfl⟩ (allC ⟨by kernel_rfl, rfl⟩ (allC ⟨by kernel_rfl, rfl⟩ (allC ⟨by kernel_rfl, rfl⟩ (allC ⟨by kernel_rfl, rfl⟩ allN))))))))))⟩
theorem mixed : Try.prog.follows .mixedOrders = true := by kernel_rfl
end Go.Proofs.Ytalociocjjinlaa
namespace Go.Proofs.Ytalociocjjinlaa
set_option linter.unusedVariables false
set_option linter.unusedSimpArgs false
set_option maxRecDepth 20000
open Go.RowKit
attribute [local irreducible] runA runX AW
theorem kM {f : FuncId} {fn : Func} {aa : List AV} {es : List Ent} {out : AV} {news es' : List Ent} (hf : Try.prog.funcs[f]? = some fn) (hs : fn.body.isSome = true)
    (h : (∀ a ∈ aa, a.fit) → (∀ e ∈ es, e.fit) → AW Try.prog fn.ntmps (fn.body.get hs) (retK T0 fn.results out news es') ⟨argsE aa, Gin es⟩) (hn : (fn.name == "runtime.NumGoroutine") = false := by rfl) (hl : Nat.ble aa.length fn.ntmps = true := by rfl) (hes : es'.length = es.length := by rfl) : Kon Try.prog f aa es out news es' :=
  kon_mk T0ok hf (Option.some_get hs).symm hn hl hes h
theorem nxA {H G : Prop} (k : H) (h : Hid H → G := by (intro hh; (first | refine r_none ?_ | refine r_gt (by rfl) (by rfl) zDD (by rfl) ?_ | refine r_gf (by rfl) (by rfl) zDD (by rfl) ?_); exact hh.out)) : G := h ⟨k⟩
theorem swA {H G : Prop} (k : H) (h : Hid H → G := by (intro hh; (first | refine r_nt (by rfl) (by rfl) zDD (by rfl) ?_ | refine r_nf (by rfl) (by rfl) zDD (by rfl) ?_ | refine r_gu (by rfl) (by rfl) (by rfl) ?_ | refine r_nil ?_); exact hh.out)) : G := h ⟨k⟩
theorem awA {H G : Prop} (k : H) (h : Hid H → G := by (intro hh; (first | refine aw_seq ?_ | refine aw_ct (by rfl) zDD ?_ | refine aw_cf (by rfl) zDD ?_ | refine aw_block ?_ | refine aw_region T0ok cfU_ok (by rfl) ?_ | refine aw_skip ?_ | refine aw_exit ?_ | refine ra_step ?_); exact hh.out)) : G := h ⟨k⟩
theorem ga0A {H G : Prop} (k : H) (h : Hid H → G := by (intro hh; (first | refine r_none ?_ | refine r_gt (by rfl) (by rfl) zDD (by rfl) ?_ | refine r_gf (by rfl) (by rfl) zDD (by rfl) ?_); refine z_op (by rfl) ?_; refine z_alV ?_ hh.out; focus (first | exact trivial | fail | exact zQZ))) : G := h ⟨k⟩
theorem ga1A {H G : Prop} (k : H) (h : Hid H → G := by (intro hh; (first | refine r_none ?_ | refine r_gt (by rfl) (by rfl) zDD (by rfl) ?_ | refine r_gf (by rfl) (by rfl) zDD (by rfl) ?_); refine z_op (by rfl) ?_; refine z_al ?_ hh.out; focus (first | exact trivial | fail | exact zQZ))) : G := h ⟨k⟩
theorem gcA {H G : Prop} (k : H) (h : Hid H → G := by (intro hh; repeat1' (first | refine aw_seq ?_ | refine aw_ct (by rfl) zDD ?_ | refine aw_cf (by rfl) zDD ?_ | refine aw_block ?_ | refine aw_region T0ok cfU_ok (by rfl) ?_ | refine aw_skip ?_ | refine aw_exit ?_ | refine ra_step ?_); exact hh.out)) : G := h ⟨k⟩
theorem gdA {H G : Prop} (k : H) (h : Hid H → G := by (intro hh; (refine aw_draw mixed T0ok cfU_ok [] (by rfl) (by kernel_rfl) ?_); exact hh.out)) : G := h ⟨k⟩
theorem rtA {H G : Prop} (k : H) (h : Hid H → G := by (intro hh; (try refine aw_ret ?_); refine ret_auto2 (by rfl) (by rfl) (by rfl) zHQ hh.out zHN zHN)) : G := h ⟨k⟩
theorem gq_ZA {H G : Prop} (k : H) (h : Hid H → G := by (intro hh; repeat1' (first | (first | (refine nxA ?_; (first | fail | ((first | (refine z_op (by rfl) ?_; first | refine z_ok ?_ ?_ | refine z_ex ?_ (by first | exact zL1 | ((first | refine mk_0 Int rfl rfl ?_ | refine mk_c Int rfl rfl rfl ?_ | refine mk_c Bool rfl rfl rfl ?_); exact zWW) | exact zL2 | exact rw_c Int rfl | exact rw_c Bool rfl | exact zL3 | fail) ?_) | ((first | refine q_callE wsT wsZ (by rfl) ?_ | refine q_callVE wsT (by rfl) (by rfl) ?_); refine ⟨_, _, _, (by first | exact k_within _ _ _ | exact k_l1In _ _ _ | exact k_okL _ | exact k_wv _ _ | assumption), _, by rfl, ?_, ?_⟩)); focus (first | exact trivial | fail | exact zQZ)) | fail)) | refine swA ?_) | refine awA ?_); exact hh.out)) : G := h ⟨k⟩
def wsT : WsT := [
  (14, ([0], true)),
  (29, ([0], true)),
  (38, ([0], true)),
  (30, ([0], true)),
  (15, ([0], true)),
  (22, ([0], true)),
  (13, ([0], true)),
  (12, ([], true)),
  (999999, ([], false))]
def wsZ : List (Nat × Nat) := [
  (999999, 0)]
def btw (n a b : Int) : Bool := decide (n ≥ a) && decide (n ≤ b)
theorem btw_t {n a b : Int} (h : btw n a b = true) : a ≤ n ∧ n ≤ b := by simpa [btw] using h
theorem btw_f {n a b : Int} (h : btw n a b = false) : ¬ (a ≤ n ∧ n ≤ b) := by intro ⟨h1, h2⟩; simp [btw, h1, h2] at h
theorem k_within (n a b : Int) : Kon Try.prog 34 [vI n, vI a, vI b] [] (vB (btw n a b)) [] [] := by
  (refine kM Try.func34 rfl ?_; intro hfit hfe)
  unfold btw
  cases h1 : decide (n ≥ a)
  all_goals ((repeat (first | refine gq_ZA ?_ | (refine ga1A ?_; intro _q ⟨_he, _hq⟩))); (refine rtA ?_; try rfl))
theorem k_l1In (n a b : Int) : Kon Try.prog 24 [vI n, vI a, vI b] [] (vB (btw n a b)) [] [] := by
  (refine kM Try.func24 rfl ?_; intro hfit hfe)
  unfold btw
  cases h1 : decide (n ≥ a)
  all_goals ((repeat (first | refine gq_ZA ?_ | (refine ga1A ?_; intro _q ⟨_he, _hq⟩))); (refine rtA ?_; try rfl))
theorem k_okL (n : Int) : Kon Try.prog 33 [vI n] [] (vB (btw n 1 8)) [] [] := by
  (refine kM Try.func33 rfl ?_; intro hfit hfe)
  (repeat (first | refine gq_ZA ?_ | (refine ga1A ?_; intro _q ⟨_he, _hq⟩)))
  (refine rtA ?_; try rfl)
abbrev rdE (l : List UInt8) (c : Int) : Ent := .box [roC l, .v (.int .i64 c)]
abbrev p0 : AV := .g (.one (.ptr 100000 0 0))
def byI (l : List UInt8) (i : Int) : Int := (l.getD i.toNat 0).toNat
def pickW (l : List UInt8) (c : Int) : Int := byI l (c % l.length) * 131 + byI l ((c * 7 + 3) % l.length) * 1117 + c * 29 + c / l.length * 53
def pickI (l : List UInt8) (c n : Int) : Int :=
  if n < 1 ∨ l.length = 0 then 0 else if c < l.length then byI l c % n else (((pickW l c).toNat ^^^ (pickW l c / 64).toNat : Nat) : Int) % n
theorem pickI_lt {l : List UInt8} {c n : Int} (h : 1 ≤ n) : 0 ≤ pickI l c n ∧ pickI l c n < n := by
  unfold pickI
  split
  · omega
  · split <;> exact ⟨Int.emod_nonneg _ (by omega), Int.emod_lt_of_pos _ (by omega)⟩
theorem k_pick (l : List UInt8) (c n : Int) (h : 0 ≤ c ∧ c ≤ 1000000 ∧ l.length ≤ 2000) : Kon Try.prog 14 [p0, vI n] [rdE l c] (vI (pickI l c n)) [] [rdE l (c + 1)] := by
  (refine kM Try.func14 rfl ?_; intro hfit hfe)
  have e1 : c + 1 - 1 = c := by omega
  unfold pickI
  cases h3 : decide (n < 1) with
  | true => rw [if_pos (.inl (of_decide_eq_true h3))]; (repeat (first | refine gq_ZA ?_ | (refine ga1A ?_; intro _q ⟨_he, _hq⟩))); (refine rtA ?_; try rfl)
  | false =>
    have h3' := of_decide_eq_false h3
    cases h4 : ((l.length : Int) == 0) with
    | true => rw [if_pos (.inr (by simpa using h4))]; (repeat (first | refine gq_ZA ?_ | (refine ga1A ?_; intro _q ⟨_he, _hq⟩))); (refine rtA ?_; try rfl)
    | false =>
      have h4' : ¬ l.length = 0 := by simpa using h4
      rw [if_neg (by omega)]
      cases h5 : decide (c + 1 - 1 < (l.length : Int)) with
      | true =>
        have h5' := of_decide_eq_true h5
        rw [if_pos (by omega)]
        (repeat (first | refine gq_ZA ?_ | (refine ga1A ?_; intro _q ⟨_he, _hq⟩)))
        (subst_vars; (refine rtA ?_; try rfl))
        rw [e1]; rfl
      | false =>
        rw [if_neg (by simpa using h5)]
        (repeat (first | refine gq_ZA ?_ | (refine ga1A ?_; intro _q ⟨_he, _hq⟩)))
        (refine aw_draw mixed T0ok cfU_ok [] (by rfl) (by kernel_rfl) ?_)
        (repeat (first | refine gq_ZA ?_ | (refine ga1A ?_; intro _q ⟨_he, _hq⟩)))
        (subst_vars; (refine rtA ?_; try rfl))
        rw [e1]; rfl
theorem k_odd (l : List UInt8) (c n : Int) (h : 0 ≤ c ∧ c ≤ 1000000 ∧ l.length ≤ 2000 ∧ 0 < n ∧ n ≤ 1000000) : Kon Try.prog 29 [p0, vI n] [rdE l c] (vB (pickI l c n == n - 1)) [] [rdE l (c + 1)] := by
  (refine kM Try.func29 rfl ?_; intro hfit hfe)
  have hp := pickI_lt (l := l) (c := c) (n := n) (by omega)
  have h3 : decide (n > 0) = true := by simp; omega
  have hK := k_pick l c n ⟨h.1, h.2.1, h.2.2.1⟩
  (repeat (first | refine gq_ZA ?_ | (refine ga1A ?_; intro _q ⟨_he, _hq⟩)))
  (refine rtA ?_; try rfl)
theorem k_open (l : List UInt8) (h : l.length ≤ 100000000) : Kon Try.prog 12 [roA l] [] (.g (.one (.ptr 0 0 0))) [rdE (l.take 2000) 0] [] := by
  (refine kM Try.func12 rfl ?_; intro hfit hfe)
  cases h1 : decide ((l.length : Int) > 2000) with
  | true =>
    have h1' := of_decide_eq_true h1
    (repeat (first | refine gq_ZA ?_ | (refine ga1A ?_; intro _q ⟨_he, _hq⟩)))
    (refine rtA ?_; try rfl)
  | false =>
    have e : l.take 2000 = l := List.take_of_length_le (by have := of_decide_eq_false h1; omega)
    rw [e]
    (repeat (first | refine gq_ZA ?_ | (refine ga1A ?_; intro _q ⟨_he, _hq⟩)))
    (refine rtA ?_; try rfl)
theorem ex_pick (l : List UInt8) (c n : Int) (h : 0 ≤ c ∧ c ≤ 1000000 ∧ l.length ≤ 2000) : ∃ v : Int, (n < 1 → v = 0) ∧ (1 ≤ n → 0 ≤ v ∧ v < n) ∧ Kon Try.prog 14 [p0, vI n] [rdE l c] (vI v) [] [rdE l (c + 1)] :=
  ⟨pickI l c n, fun h => by unfold pickI; rw [if_pos (.inl h)], pickI_lt, k_pick l c n h⟩
theorem ex_odd (l : List UInt8) (c n : Int) (h : 0 ≤ c ∧ c ≤ 1000000 ∧ l.length ≤ 2000 ∧ 0 < n ∧ n ≤ 1000000) : ∃ v : Bool, Kon Try.prog 29 [p0, vI n] [rdE l c] (vB v) [] [rdE l (c + 1)] := ⟨_, k_odd l c n h⟩
def wvB (n w : Int) : Bool := btw n 1 8 && btw w 0 (2 ^ n.toNat - 1)
theorem k_wv (n w : Int) : Kon Try.prog 28 [vI n, vI w] [] (vB (wvB n w)) [] [] := by
  (refine kM Try.func28 rfl ?_; intro hfit hfe)
  unfold wvB
  cases h1 : btw n 1 8 with
  | false => (repeat (first | refine gq_ZA ?_ | (refine ga1A ?_; intro _q ⟨_he, _hq⟩))); (refine rtA ?_; try rfl)
  | true =>
    have h1' := btw_t h1
    (repeat (first | refine gq_ZA ?_ | (refine ga1A ?_; intro _q ⟨_he, _hq⟩)))
    (subst_vars; (refine rtA ?_; try rfl))
    rw [Int.one_mul]; rfl
theorem k_alive : Kon Try.prog 11 [] [] (vB true) [] [] := by
  (refine kM Try.func11 rfl ?_; intro hfit hfe)
  (repeat (first | refine gq_ZA ?_ | (refine ga1A ?_; intro _q ⟨_he, _hq⟩)))
  (refine rtA ?_; try rfl)
end Go.Proofs.Ytalociocjjinlaa
namespace Go.Proofs.Ytalociocjjinlaa
set_option linter.unusedVariables false
set_option linter.unusedSimpArgs false
def tvL (N : Int) : List Bool → List Int → Bool
  | _, [] => true
  | s, x :: l => btw x 0 (N - 1) && !(s.getD x.toNat false) && tvL N (s.set x.toNat true) l
def tvB (n : Int) (t : List Int) : Bool := btw n 1 8 && (((t.length : Int) == 2 ^ n.toNat) && tvL (t.length : Int) (List.replicate t.length false) t)
theorem set_at {s : List Bool} {x y : Nat} (hx : x < s.length) : (s.set x true).getD y false = (decide (x = y) || s.getD y false) := by
  by_cases h : x = y
  · subst h
    rw [List.getD_eq_getElem?_getD, List.getElem?_set_self hx]
    simp
  · rw [List.getD_eq_getElem?_getD, List.getElem?_set_ne h, ← List.getD_eq_getElem?_getD, decide_eq_false h, Bool.false_or]
theorem tvL_drop {N : Int} {s : List Bool} {i : Nat} {L : List Int} (hi : i < L.length) : tvL N s (L.drop i) = (btw (L.getD i 0) 0 (N - 1) && !(s.getD (L.getD i 0).toNat false) && tvL N (s.set (L.getD i 0).toNat true) (L.drop (i + 1))) := by
  rw [List.drop_eq_getElem_cons hi]
  simp [tvL, List.getD_eq_getElem?_getD, hi]
theorem tvL_of {N : Int} : ∀ {L : List Int} {s : List Bool}, (s.length : Int) = N → (∀ i, i < L.length → (0 ≤ L.getD i 0 ∧ L.getD i 0 < N) ∧ s.getD (L.getD i 0).toNat false = false) → (∀ i j, i < j → j < L.length → L.getD i 0 ≠ L.getD j 0) → tvL N s L = true
  | [], _, _, _, _ => rfl
  | x :: L, s, hs, h, hd => by
    obtain ⟨hx, hsx⟩ := h 0 (Nat.succ_pos _)
    replace hx : 0 ≤ x ∧ x < N := hx
    replace hsx : s.getD x.toNat false = false := hsx
    rw [tvL, Bool.and_eq_true, Bool.and_eq_true, Bool.not_eq_true']
    refine ⟨⟨?_, hsx⟩, tvL_of (by rw [List.length_set]; exact hs) (fun i hi => ?_) (fun i j hij hj => hd (i + 1) (j + 1) (by omega) (Nat.succ_lt_succ hj))⟩
    · unfold btw
      rw [decide_eq_true hx.1, decide_eq_true (show x ≤ N - 1 by omega)]; rfl
    · obtain ⟨h1, h2⟩ := h (i + 1) (Nat.succ_lt_succ hi)
      replace h1 : 0 ≤ L.getD i 0 ∧ L.getD i 0 < N := h1
      replace h2 : s.getD (L.getD i 0).toNat false = false := h2
      have hne : x ≠ L.getD i 0 := hd 0 (i + 1) (Nat.succ_pos _) (Nat.succ_lt_succ hi)
      refine ⟨h1, ?_⟩
      rw [set_at (by omega), h2, Bool.or_false]
      exact decide_eq_false (by omega)
def seenL : List Bool → List Int → List Bool
  | s, [] => s
  | s, x :: l => seenL (s.set x.toNat true) l
theorem seenL_snoc : ∀ (l : List Int) (s : List Bool) (x : Int), seenL s (l ++ [x]) = (seenL s l).set x.toNat true
  | [], s, x => rfl
  | y :: l, s, x => seenL_snoc l _ x
theorem seenL_at : ∀ (l : List Int) (s : List Bool) (y : Int), (∀ x ∈ l, 0 ≤ x ∧ x < (s.length : Int)) → 0 ≤ y → (seenL s l).getD y.toNat false = (s.getD y.toNat false || l.any (· == y))
  | [], s, y, _, _ => by simp [seenL]
  | x :: l, s, y, hl, hy => by
    have hx := hl x List.mem_cons_self
    rw [seenL, seenL_at l _ y (fun z hz => by rw [List.length_set]; exact hl z (List.mem_cons_of_mem _ hz)) hy, set_at (by omega), List.any_cons]
    have e : decide (x.toNat = y.toNat) = (x == y) := by rw [Bool.eq_iff_iff, decide_eq_true_eq, beq_iff_eq]; omega
    rw [e]
    cases (x == y) <;> cases (s.getD y.toNat false) <;> simp
end Go.Proofs.Ytalociocjjinlaa
namespace Go.Proofs.Ytalociocjjinlaa
set_option linter.unusedVariables false
set_option linter.unusedSimpArgs false
set_option maxRecDepth 20000
open Go.RowKit
attribute [local irreducible] runA runX AW
theorem gq_KGA {H G : Prop} (k : H) (h : Hid H → G := by (intro hh; repeat1' (first | (first | (refine nxA ?_; (first | refine r_pure2 (by rfl) (by rfl) (fun w => rfl) (by rfl) (by rfl) ?_ | ((first | (refine z_op (by rfl) ?_; first | refine z_ok ?_ ?_ | refine z_ex ?_ (by first | exact zL1 | ((first | refine mk_0 Int rfl rfl ?_); exact zWW) | exact zL2 | exact rw_c Int rfl | exact zL3 | fail) ?_) | ((first | refine q_callE wsT wsZ (by rfl) ?_ | refine q_callVE wsT (by rfl) (by rfl) ?_); refine ⟨_, _, _, (by first | assumption | exact k_within _ _ _ | exact k_okL _ | exact k_natures | exact k_nat1 _ (by assumption) | exact k_nat0 _ (by assumption) | exact k_some _ _ (by first | assumption | decide)), _, by rfl, ?_, ?_⟩)); focus (first | exact trivial | fail | exact zQZ)) | fail)) | refine swA ?_) | refine awA ?_); exact hh.out)) : G := h ⟨k⟩
abbrev gCs (g : Gt) : List AC := [.v (.int .i64 g.k), .v (.int .i64 g.a), .v (.int .i64 g.b), .v (.int .i64 g.c)]
abbrev gV (g : Gt) : AV := .g (.agg (gCs g))
abbrev iRow (l : List Int) : Ent := rwE 3 l
abbrev gRow (l : List Gt) : Ent := rwE 33 l
def ntC (k : Int) : List AC := if k = 0 then [.v (.string ⟨#[110, 111, 116]⟩), .v (.int .i64 1), .v (.int .i64 1), .v (.int .i64 1)] else if k = 1 then [.v (.string ⟨#[99, 111, 112, 121]⟩), .v (.int .i64 3), .v (.int .i64 2), .v (.int .i64 1)] else if k = 2 then [.v (.string ⟨#[98, 111, 116, 104]⟩), .v (.int .i64 7), .v (.int .i64 4), .v (.int .i64 5)] else if k = 3 then [.v (.string ⟨#[115, 119, 97, 112]⟩), .v (.int .i64 3), .v (.int .i64 3), .v (.int .i64 3)] else [.v (.string ⟨#[105, 102]⟩), .v (.int .i64 7), .v (.int .i64 6), .v (.int .i64 7)]
theorem k_natures : Kon Try.prog 48 [] [] (.g (.agg (ntC 0 ++ ntC 1 ++ ntC 2 ++ ntC 3 ++ ntC 4))) [] [] := by
  (refine kM Try.func48 rfl ?_; intro hfit hfe)
  (repeat (first | refine gq_KGA ?_ | (refine ga1A ?_; intro _q ⟨_he, _hq⟩)))
  (refine rtA ?_; try rfl)
def ntV (k : Int) : Value := if k = 0 then .agg #[.string ⟨#[110, 111, 116]⟩, .int .i64 1, .int .i64 1, .int .i64 1] else if k = 1 then .agg #[.string ⟨#[99, 111, 112, 121]⟩, .int .i64 3, .int .i64 2, .int .i64 1] else if k = 2 then .agg #[.string ⟨#[98, 111, 116, 104]⟩, .int .i64 7, .int .i64 4, .int .i64 5] else if k = 3 then .agg #[.string ⟨#[115, 119, 97, 112]⟩, .int .i64 3, .int .i64 3, .int .i64 3] else .agg #[.string ⟨#[105, 102]⟩, .int .i64 7, .int .i64 6, .int .i64 7]
theorem k_nat1 (g : Gt) (h : 0 ≤ g.k ∧ g.k ≤ 4) : Kon Try.prog 40 [gV g] [] (.tup [.agg (ntC g.k), .one (.v (.bool true))]) [] [] := by
  obtain ⟨k, a, b, c⟩ := g
  dsimp only at h ⊢
  have h' : k = 0 ∨ k = 1 ∨ k = 2 ∨ k = 3 ∨ k = 4 := by omega
  (refine kM Try.func40 rfl ?_; intro hfit hfe)
  rcases h' with rfl | rfl | rfl | rfl | rfl
  · (repeat (first | refine gq_KGA ?_ | (refine ga1A ?_; intro _q ⟨_he, _hq⟩)))
    (refine aw_draw mixed T0ok cfU_ok [(32, [4])] (by rfl) (by kernel_rfl) ?_)
    (first | ((first | refine r_none ?_ | refine r_gt (by rfl) (by rfl) zDD (by rfl) ?_ | refine r_gf (by rfl) (by rfl) zDD (by rfl) ?_); (first | refine r_pure2 (by rfl) (by rfl) (fun w => rfl) (by rfl) (by rfl) ?_ | ((first | (refine z_op (by rfl) ?_; first | refine z_ok ?_ ?_ | refine z_ex ?_ (by first | exact zL1 | ((first | refine mk_0 Int rfl rfl ?_); exact zWW) | exact zL2 | exact rw_c Int rfl | exact zL3 | fail) ?_ | refine z_al ?_ (fun _q ⟨_he, _hq⟩ => ?_)) | ((first | refine q_callE wsT wsZ (by rfl) ?_ | refine q_callVE wsT (by rfl) (by rfl) ?_); refine ⟨_, _, _, (by first | assumption | exact k_within _ _ _ | exact k_okL _ | exact k_natures | exact k_nat1 _ (by assumption) | exact k_nat0 _ (by assumption) | exact k_some _ _ (by first | assumption | decide)), _, by rfl, ?_, ?_⟩)); focus (first | exact trivial | fail | exact zQZ)) | fail)) | refine r_nt (by rfl) (by rfl) zDD (by rfl) ?_ | refine r_nf (by rfl) (by rfl) zDD (by rfl) ?_ | refine r_gu (by rfl) (by rfl) (by rfl) ?_ | refine r_nil ?_)
    (first | ((first | refine r_none ?_ | refine r_gt (by rfl) (by rfl) zDD (by rfl) ?_ | refine r_gf (by rfl) (by rfl) zDD (by rfl) ?_); (first | refine r_pure2 (by rfl) (by rfl) (fun w => rfl) (by rfl) (by rfl) ?_ | ((first | (refine z_op (by rfl) ?_; first | refine z_ok ?_ ?_ | refine z_ex ?_ (by first | exact zL1 | ((first | refine mk_0 Int rfl rfl ?_); exact zWW) | exact zL2 | exact rw_c Int rfl | exact zL3 | fail) ?_ | refine z_al ?_ (fun _q ⟨_he, _hq⟩ => ?_)) | ((first | refine q_callE wsT wsZ (by rfl) ?_ | refine q_callVE wsT (by rfl) (by rfl) ?_); refine ⟨_, _, _, (by first | assumption | exact k_within _ _ _ | exact k_okL _ | exact k_natures | exact k_nat1 _ (by assumption) | exact k_nat0 _ (by assumption) | exact k_some _ _ (by first | assumption | decide)), _, by rfl, ?_, ?_⟩)); focus (first | exact trivial | fail | exact zQZ)) | fail)) | refine r_nt (by rfl) (by rfl) zDD (by rfl) ?_ | refine r_nf (by rfl) (by rfl) zDD (by rfl) ?_ | refine r_gu (by rfl) (by rfl) (by rfl) ?_ | refine r_nil ?_)
    (first | ((first | refine r_none ?_ | refine r_gt (by rfl) (by rfl) zDD (by rfl) ?_ | refine r_gf (by rfl) (by rfl) zDD (by rfl) ?_); (first | refine r_pure2 (by rfl) (by rfl) (fun w => rfl) (by rfl) (by rfl) ?_ | ((first | (refine z_op (by rfl) ?_; first | refine z_ok ?_ ?_ | refine z_ex ?_ (by first | exact zL1 | ((first | refine mk_0 Int rfl rfl ?_); exact zWW) | exact zL2 | exact rw_c Int rfl | exact zL3 | fail) ?_ | refine z_al ?_ (fun _q ⟨_he, _hq⟩ => ?_)) | ((first | refine q_callE wsT wsZ (by rfl) ?_ | refine q_callVE wsT (by rfl) (by rfl) ?_); refine ⟨_, _, _, (by first | assumption | exact k_within _ _ _ | exact k_okL _ | exact k_natures | exact k_nat1 _ (by assumption) | exact k_nat0 _ (by assumption) | exact k_some _ _ (by first | assumption | decide)), _, by rfl, ?_, ?_⟩)); focus (first | exact trivial | fail | exact zQZ)) | fail)) | refine r_nt (by rfl) (by rfl) zDD (by rfl) ?_ | refine r_nf (by rfl) (by rfl) zDD (by rfl) ?_ | refine r_gu (by rfl) (by rfl) (by rfl) ?_ | refine r_nil ?_)
    refine r_none ?_; refine z_op (by rfl) ?_; refine z_ex ?_ (pu_of (r := ntV 0) (fun w => by kernel_rfl) rfl) ?_; focus (first | exact trivial | fail | exact zQZ)
    (repeat (first | refine gq_KGA ?_ | (refine ga1A ?_; intro _q ⟨_he, _hq⟩)))
    (refine rtA ?_; try rfl)
  · (repeat (first | refine gq_KGA ?_ | (refine ga1A ?_; intro _q ⟨_he, _hq⟩)))
    (refine aw_draw mixed T0ok cfU_ok [(32, [4])] (by rfl) (by kernel_rfl) ?_)
    (first | ((first | refine r_none ?_ | refine r_gt (by rfl) (by rfl) zDD (by rfl) ?_ | refine r_gf (by rfl) (by rfl) zDD (by rfl) ?_); (first | refine r_pure2 (by rfl) (by rfl) (fun w => rfl) (by rfl) (by rfl) ?_ | ((first | (refine z_op (by rfl) ?_; first | refine z_ok ?_ ?_ | refine z_ex ?_ (by first | exact zL1 | ((first | refine mk_0 Int rfl rfl ?_); exact zWW) | exact zL2 | exact rw_c Int rfl | exact zL3 | fail) ?_ | refine z_al ?_ (fun _q ⟨_he, _hq⟩ => ?_)) | ((first | refine q_callE wsT wsZ (by rfl) ?_ | refine q_callVE wsT (by rfl) (by rfl) ?_); refine ⟨_, _, _, (by first | assumption | exact k_within _ _ _ | exact k_okL _ | exact k_natures | exact k_nat1 _ (by assumption) | exact k_nat0 _ (by assumption) | exact k_some _ _ (by first | assumption | decide)), _, by rfl, ?_, ?_⟩)); focus (first | exact trivial | fail | exact zQZ)) | fail)) | refine r_nt (by rfl) (by rfl) zDD (by rfl) ?_ | refine r_nf (by rfl) (by rfl) zDD (by rfl) ?_ | refine r_gu (by rfl) (by rfl) (by rfl) ?_ | refine r_nil ?_)
    (first | ((first | refine r_none ?_ | refine r_gt (by rfl) (by rfl) zDD (by rfl) ?_ | refine r_gf (by rfl) (by rfl) zDD (by rfl) ?_); (first | refine r_pure2 (by rfl) (by rfl) (fun w => rfl) (by rfl) (by rfl) ?_ | ((first | (refine z_op (by rfl) ?_; first | refine z_ok ?_ ?_ | refine z_ex ?_ (by first | exact zL1 | ((first | refine mk_0 Int rfl rfl ?_); exact zWW) | exact zL2 | exact rw_c Int rfl | exact zL3 | fail) ?_ | refine z_al ?_ (fun _q ⟨_he, _hq⟩ => ?_)) | ((first | refine q_callE wsT wsZ (by rfl) ?_ | refine q_callVE wsT (by rfl) (by rfl) ?_); refine ⟨_, _, _, (by first | assumption | exact k_within _ _ _ | exact k_okL _ | exact k_natures | exact k_nat1 _ (by assumption) | exact k_nat0 _ (by assumption) | exact k_some _ _ (by first | assumption | decide)), _, by rfl, ?_, ?_⟩)); focus (first | exact trivial | fail | exact zQZ)) | fail)) | refine r_nt (by rfl) (by rfl) zDD (by rfl) ?_ | refine r_nf (by rfl) (by rfl) zDD (by rfl) ?_ | refine r_gu (by rfl) (by rfl) (by rfl) ?_ | refine r_nil ?_)
    (first | ((first | refine r_none ?_ | refine r_gt (by rfl) (by rfl) zDD (by rfl) ?_ | refine r_gf (by rfl) (by rfl) zDD (by rfl) ?_); (first | refine r_pure2 (by rfl) (by rfl) (fun w => rfl) (by rfl) (by rfl) ?_ | ((first | (refine z_op (by rfl) ?_; first | refine z_ok ?_ ?_ | refine z_ex ?_ (by first | exact zL1 | ((first | refine mk_0 Int rfl rfl ?_); exact zWW) | exact zL2 | exact rw_c Int rfl | exact zL3 | fail) ?_ | refine z_al ?_ (fun _q ⟨_he, _hq⟩ => ?_)) | ((first | refine q_callE wsT wsZ (by rfl) ?_ | refine q_callVE wsT (by rfl) (by rfl) ?_); refine ⟨_, _, _, (by first | assumption | exact k_within _ _ _ | exact k_okL _ | exact k_natures | exact k_nat1 _ (by assumption) | exact k_nat0 _ (by assumption) | exact k_some _ _ (by first | assumption | decide)), _, by rfl, ?_, ?_⟩)); focus (first | exact trivial | fail | exact zQZ)) | fail)) | refine r_nt (by rfl) (by rfl) zDD (by rfl) ?_ | refine r_nf (by rfl) (by rfl) zDD (by rfl) ?_ | refine r_gu (by rfl) (by rfl) (by rfl) ?_ | refine r_nil ?_)
    refine r_none ?_; refine z_op (by rfl) ?_; refine z_ex ?_ (pu_of (r := ntV 1) (fun w => by kernel_rfl) rfl) ?_; focus (first | exact trivial | fail | exact zQZ)
    (repeat (first | refine gq_KGA ?_ | (refine ga1A ?_; intro _q ⟨_he, _hq⟩)))
    (refine rtA ?_; try rfl)
  · (repeat (first | refine gq_KGA ?_ | (refine ga1A ?_; intro _q ⟨_he, _hq⟩)))
    (refine aw_draw mixed T0ok cfU_ok [(32, [4])] (by rfl) (by kernel_rfl) ?_)
    (first | ((first | refine r_none ?_ | refine r_gt (by rfl) (by rfl) zDD (by rfl) ?_ | refine r_gf (by rfl) (by rfl) zDD (by rfl) ?_); (first | refine r_pure2 (by rfl) (by rfl) (fun w => rfl) (by rfl) (by rfl) ?_ | ((first | (refine z_op (by rfl) ?_; first | refine z_ok ?_ ?_ | refine z_ex ?_ (by first | exact zL1 | ((first | refine mk_0 Int rfl rfl ?_); exact zWW) | exact zL2 | exact rw_c Int rfl | exact zL3 | fail) ?_ | refine z_al ?_ (fun _q ⟨_he, _hq⟩ => ?_)) | ((first | refine q_callE wsT wsZ (by rfl) ?_ | refine q_callVE wsT (by rfl) (by rfl) ?_); refine ⟨_, _, _, (by first | assumption | exact k_within _ _ _ | exact k_okL _ | exact k_natures | exact k_nat1 _ (by assumption) | exact k_nat0 _ (by assumption) | exact k_some _ _ (by first | assumption | decide)), _, by rfl, ?_, ?_⟩)); focus (first | exact trivial | fail | exact zQZ)) | fail)) | refine r_nt (by rfl) (by rfl) zDD (by rfl) ?_ | refine r_nf (by rfl) (by rfl) zDD (by rfl) ?_ | refine r_gu (by rfl) (by rfl) (by rfl) ?_ | refine r_nil ?_)
    (first | ((first | refine r_none ?_ | refine r_gt (by rfl) (by rfl) zDD (by rfl) ?_ | refine r_gf (by rfl) (by rfl) zDD (by rfl) ?_); (first | refine r_pure2 (by rfl) (by rfl) (fun w => rfl) (by rfl) (by rfl) ?_ | ((first | (refine z_op (by rfl) ?_; first | refine z_ok ?_ ?_ | refine z_ex ?_ (by first | exact zL1 | ((first | refine mk_0 Int rfl rfl ?_); exact zWW) | exact zL2 | exact rw_c Int rfl | exact zL3 | fail) ?_ | refine z_al ?_ (fun _q ⟨_he, _hq⟩ => ?_)) | ((first | refine q_callE wsT wsZ (by rfl) ?_ | refine q_callVE wsT (by rfl) (by rfl) ?_); refine ⟨_, _, _, (by first | assumption | exact k_within _ _ _ | exact k_okL _ | exact k_natures | exact k_nat1 _ (by assumption) | exact k_nat0 _ (by assumption) | exact k_some _ _ (by first | assumption | decide)), _, by rfl, ?_, ?_⟩)); focus (first | exact trivial | fail | exact zQZ)) | fail)) | refine r_nt (by rfl) (by rfl) zDD (by rfl) ?_ | refine r_nf (by rfl) (by rfl) zDD (by rfl) ?_ | refine r_gu (by rfl) (by rfl) (by rfl) ?_ | refine r_nil ?_)
    (first | ((first | refine r_none ?_ | refine r_gt (by rfl) (by rfl) zDD (by rfl) ?_ | refine r_gf (by rfl) (by rfl) zDD (by rfl) ?_); (first | refine r_pure2 (by rfl) (by rfl) (fun w => rfl) (by rfl) (by rfl) ?_ | ((first | (refine z_op (by rfl) ?_; first | refine z_ok ?_ ?_ | refine z_ex ?_ (by first | exact zL1 | ((first | refine mk_0 Int rfl rfl ?_); exact zWW) | exact zL2 | exact rw_c Int rfl | exact zL3 | fail) ?_ | refine z_al ?_ (fun _q ⟨_he, _hq⟩ => ?_)) | ((first | refine q_callE wsT wsZ (by rfl) ?_ | refine q_callVE wsT (by rfl) (by rfl) ?_); refine ⟨_, _, _, (by first | assumption | exact k_within _ _ _ | exact k_okL _ | exact k_natures | exact k_nat1 _ (by assumption) | exact k_nat0 _ (by assumption) | exact k_some _ _ (by first | assumption | decide)), _, by rfl, ?_, ?_⟩)); focus (first | exact trivial | fail | exact zQZ)) | fail)) | refine r_nt (by rfl) (by rfl) zDD (by rfl) ?_ | refine r_nf (by rfl) (by rfl) zDD (by rfl) ?_ | refine r_gu (by rfl) (by rfl) (by rfl) ?_ | refine r_nil ?_)
    refine r_none ?_; refine z_op (by rfl) ?_; refine z_ex ?_ (pu_of (r := ntV 2) (fun w => by kernel_rfl) rfl) ?_; focus (first | exact trivial | fail | exact zQZ)
    (repeat (first | refine gq_KGA ?_ | (refine ga1A ?_; intro _q ⟨_he, _hq⟩)))
    (refine rtA ?_; try rfl)
  · (repeat (first | refine gq_KGA ?_ | (refine ga1A ?_; intro _q ⟨_he, _hq⟩)))
    (refine aw_draw mixed T0ok cfU_ok [(32, [4])] (by rfl) (by kernel_rfl) ?_)
    (first | ((first | refine r_none ?_ | refine r_gt (by rfl) (by rfl) zDD (by rfl) ?_ | refine r_gf (by rfl) (by rfl) zDD (by rfl) ?_); (first | refine r_pure2 (by rfl) (by rfl) (fun w => rfl) (by rfl) (by rfl) ?_ | ((first | (refine z_op (by rfl) ?_; first | refine z_ok ?_ ?_ | refine z_ex ?_ (by first | exact zL1 | ((first | refine mk_0 Int rfl rfl ?_); exact zWW) | exact zL2 | exact rw_c Int rfl | exact zL3 | fail) ?_ | refine z_al ?_ (fun _q ⟨_he, _hq⟩ => ?_)) | ((first | refine q_callE wsT wsZ (by rfl) ?_ | refine q_callVE wsT (by rfl) (by rfl) ?_); refine ⟨_, _, _, (by first | assumption | exact k_within _ _ _ | exact k_okL _ | exact k_natures | exact k_nat1 _ (by assumption) | exact k_nat0 _ (by assumption) | exact k_some _ _ (by first | assumption | decide)), _, by rfl, ?_, ?_⟩)); focus (first | exact trivial | fail | exact zQZ)) | fail)) | refine r_nt (by rfl) (by rfl) zDD (by rfl) ?_ | refine r_nf (by rfl) (by rfl) zDD (by rfl) ?_ | refine r_gu (by rfl) (by rfl) (by rfl) ?_ | refine r_nil ?_)
    (first | ((first | refine r_none ?_ | refine r_gt (by rfl) (by rfl) zDD (by rfl) ?_ | refine r_gf (by rfl) (by rfl) zDD (by rfl) ?_); (first | refine r_pure2 (by rfl) (by rfl) (fun w => rfl) (by rfl) (by rfl) ?_ | ((first | (refine z_op (by rfl) ?_; first | refine z_ok ?_ ?_ | refine z_ex ?_ (by first | exact zL1 | ((first | refine mk_0 Int rfl rfl ?_); exact zWW) | exact zL2 | exact rw_c Int rfl | exact zL3 | fail) ?_ | refine z_al ?_ (fun _q ⟨_he, _hq⟩ => ?_)) | ((first | refine q_callE wsT wsZ (by rfl) ?_ | refine q_callVE wsT (by rfl) (by rfl) ?_); refine ⟨_, _, _, (by first | assumption | exact k_within _ _ _ | exact k_okL _ | exact k_natures | exact k_nat1 _ (by assumption) | exact k_nat0 _ (by assumption) | exact k_some _ _ (by first | assumption | decide)), _, by rfl, ?_, ?_⟩)); focus (first | exact trivial | fail | exact zQZ)) | fail)) | refine r_nt (by rfl) (by rfl) zDD (by rfl) ?_ | refine r_nf (by rfl) (by rfl) zDD (by rfl) ?_ | refine r_gu (by rfl) (by rfl) (by rfl) ?_ | refine r_nil ?_)
    (first | ((first | refine r_none ?_ | refine r_gt (by rfl) (by rfl) zDD (by rfl) ?_ | refine r_gf (by rfl) (by rfl) zDD (by rfl) ?_); (first | refine r_pure2 (by rfl) (by rfl) (fun w => rfl) (by rfl) (by rfl) ?_ | ((first | (refine z_op (by rfl) ?_; first | refine z_ok ?_ ?_ | refine z_ex ?_ (by first | exact zL1 | ((first | refine mk_0 Int rfl rfl ?_); exact zWW) | exact zL2 | exact rw_c Int rfl | exact zL3 | fail) ?_ | refine z_al ?_ (fun _q ⟨_he, _hq⟩ => ?_)) | ((first | refine q_callE wsT wsZ (by rfl) ?_ | refine q_callVE wsT (by rfl) (by rfl) ?_); refine ⟨_, _, _, (by first | assumption | exact k_within _ _ _ | exact k_okL _ | exact k_natures | exact k_nat1 _ (by assumption) | exact k_nat0 _ (by assumption) | exact k_some _ _ (by first | assumption | decide)), _, by rfl, ?_, ?_⟩)); focus (first | exact trivial | fail | exact zQZ)) | fail)) | refine r_nt (by rfl) (by rfl) zDD (by rfl) ?_ | refine r_nf (by rfl) (by rfl) zDD (by rfl) ?_ | refine r_gu (by rfl) (by rfl) (by rfl) ?_ | refine r_nil ?_)
    refine r_none ?_; refine z_op (by rfl) ?_; refine z_ex ?_ (pu_of (r := ntV 3) (fun w => by kernel_rfl) rfl) ?_; focus (first | exact trivial | fail | exact zQZ)
    (repeat (first | refine gq_KGA ?_ | (refine ga1A ?_; intro _q ⟨_he, _hq⟩)))
    (refine rtA ?_; try rfl)
  · (repeat (first | refine gq_KGA ?_ | (refine ga1A ?_; intro _q ⟨_he, _hq⟩)))
    (refine aw_draw mixed T0ok cfU_ok [(32, [4])] (by rfl) (by kernel_rfl) ?_)
    (first | ((first | refine r_none ?_ | refine r_gt (by rfl) (by rfl) zDD (by rfl) ?_ | refine r_gf (by rfl) (by rfl) zDD (by rfl) ?_); (first | refine r_pure2 (by rfl) (by rfl) (fun w => rfl) (by rfl) (by rfl) ?_ | ((first | (refine z_op (by rfl) ?_; first | refine z_ok ?_ ?_ | refine z_ex ?_ (by first | exact zL1 | ((first | refine mk_0 Int rfl rfl ?_); exact zWW) | exact zL2 | exact rw_c Int rfl | exact zL3 | fail) ?_ | refine z_al ?_ (fun _q ⟨_he, _hq⟩ => ?_)) | ((first | refine q_callE wsT wsZ (by rfl) ?_ | refine q_callVE wsT (by rfl) (by rfl) ?_); refine ⟨_, _, _, (by first | assumption | exact k_within _ _ _ | exact k_okL _ | exact k_natures | exact k_nat1 _ (by assumption) | exact k_nat0 _ (by assumption) | exact k_some _ _ (by first | assumption | decide)), _, by rfl, ?_, ?_⟩)); focus (first | exact trivial | fail | exact zQZ)) | fail)) | refine r_nt (by rfl) (by rfl) zDD (by rfl) ?_ | refine r_nf (by rfl) (by rfl) zDD (by rfl) ?_ | refine r_gu (by rfl) (by rfl) (by rfl) ?_ | refine r_nil ?_)
    (first | ((first | refine r_none ?_ | refine r_gt (by rfl) (by rfl) zDD (by rfl) ?_ | refine r_gf (by rfl) (by rfl) zDD (by rfl) ?_); (first | refine r_pure2 (by rfl) (by rfl) (fun w => rfl) (by rfl) (by rfl) ?_ | ((first | (refine z_op (by rfl) ?_; first | refine z_ok ?_ ?_ | refine z_ex ?_ (by first | exact zL1 | ((first | refine mk_0 Int rfl rfl ?_); exact zWW) | exact zL2 | exact rw_c Int rfl | exact zL3 | fail) ?_ | refine z_al ?_ (fun _q ⟨_he, _hq⟩ => ?_)) | ((first | refine q_callE wsT wsZ (by rfl) ?_ | refine q_callVE wsT (by rfl) (by rfl) ?_); refine ⟨_, _, _, (by first | assumption | exact k_within _ _ _ | exact k_okL _ | exact k_natures | exact k_nat1 _ (by assumption) | exact k_nat0 _ (by assumption) | exact k_some _ _ (by first | assumption | decide)), _, by rfl, ?_, ?_⟩)); focus (first | exact trivial | fail | exact zQZ)) | fail)) | refine r_nt (by rfl) (by rfl) zDD (by rfl) ?_ | refine r_nf (by rfl) (by rfl) zDD (by rfl) ?_ | refine r_gu (by rfl) (by rfl) (by rfl) ?_ | refine r_nil ?_)
    (first | ((first | refine r_none ?_ | refine r_gt (by rfl) (by rfl) zDD (by rfl) ?_ | refine r_gf (by rfl) (by rfl) zDD (by rfl) ?_); (first | refine r_pure2 (by rfl) (by rfl) (fun w => rfl) (by rfl) (by rfl) ?_ | ((first | (refine z_op (by rfl) ?_; first | refine z_ok ?_ ?_ | refine z_ex ?_ (by first | exact zL1 | ((first | refine mk_0 Int rfl rfl ?_); exact zWW) | exact zL2 | exact rw_c Int rfl | exact zL3 | fail) ?_ | refine z_al ?_ (fun _q ⟨_he, _hq⟩ => ?_)) | ((first | refine q_callE wsT wsZ (by rfl) ?_ | refine q_callVE wsT (by rfl) (by rfl) ?_); refine ⟨_, _, _, (by first | assumption | exact k_within _ _ _ | exact k_okL _ | exact k_natures | exact k_nat1 _ (by assumption) | exact k_nat0 _ (by assumption) | exact k_some _ _ (by first | assumption | decide)), _, by rfl, ?_, ?_⟩)); focus (first | exact trivial | fail | exact zQZ)) | fail)) | refine r_nt (by rfl) (by rfl) zDD (by rfl) ?_ | refine r_nf (by rfl) (by rfl) zDD (by rfl) ?_ | refine r_gu (by rfl) (by rfl) (by rfl) ?_ | refine r_nil ?_)
    refine r_none ?_; refine z_op (by rfl) ?_; refine z_ex ?_ (pu_of (r := ntV 4) (fun w => by kernel_rfl) rfl) ?_; focus (first | exact trivial | fail | exact zQZ)
    (repeat (first | refine gq_KGA ?_ | (refine ga1A ?_; intro _q ⟨_he, _hq⟩)))
    (refine rtA ?_; try rfl)
theorem k_nat0 (g : Gt) (h : btw g.k 0 4 = false) : Kon Try.prog 40 [gV g] [] (.tup [.agg [.v (.string ⟨#[]⟩), .v (.int .i64 0), .v (.int .i64 0), .v (.int .i64 0)], .one (.v (.bool false))]) [] [] := by
  (refine kM Try.func40 rfl ?_; intro hfit hfe)
  (repeat (first | refine gq_KGA ?_ | (refine ga1A ?_; intro _q ⟨_he, _hq⟩)))
  (refine rtA ?_; try rfl)
def smL (s : Int) (g : Gt) : List Int := if s = 1 then [g.a] else if s = 2 then [g.b] else if s = 3 then [g.a, g.b] else if s = 4 then [g.c] else if s = 6 then [g.b, g.c] else if s = 7 then [g.a, g.b, g.c] else if s = -2 then [g.b, g.c] else if s = -4 then [g.c] else []
def okSet (s : Int) : Prop := s = 1 ∨ s = 2 ∨ s = 3 ∨ s = 4 ∨ s = 6 ∨ s = 7 ∨ s = -2 ∨ s = -4 ∨ s = -8
instance (s : Int) : Decidable (okSet s) := by unfold okSet; infer_instance
set_option maxHeartbeats 4000000 in
theorem k_some (g : Gt) (s : Int) (h : okSet s) : Kon Try.prog 41 [gV g, vI s] [] (slA 0 0 (smL s g)) [iRow (smL s g)] [] := by
  (refine kM Try.func41 rfl ?_; intro hfit hfe)
  rcases h with rfl | rfl | rfl | rfl | rfl | rfl | rfl | rfl | rfl
  all_goals
    repeat (first | (first | refine aw_seq ?_ | refine aw_ct (by rfl) zDD ?_ | refine aw_cf (by rfl) zDD ?_ | refine aw_block ?_ | refine aw_region T0ok cfU_ok (by rfl) ?_ | refine aw_skip ?_ | refine aw_exit ?_ | refine ra_step ?_) | (first | ((first | refine r_none ?_ | refine r_gt (by rfl) (by rfl) zDD (by rfl) ?_ | refine r_gf (by rfl) (by rfl) zDD (by rfl) ?_); (first | refine r_pure2 (by rfl) (by rfl) (fun w => rfl) (by rfl) (by rfl) ?_ | ((first | (refine z_op (by rfl) ?_; first | refine z_ok ?_ ?_ | refine z_ex ?_ (by first | exact zL1 | ((first | refine mk_0 Int rfl rfl ?_); exact zWW) | exact zL2 | exact rw_c Int rfl | exact zL3 | fail) ?_ | refine z_al ?_ (fun _q ⟨_he, _hq⟩ => ?_)) | ((first | refine q_callE wsT wsZ (by rfl) ?_ | refine q_callVE wsT (by rfl) (by rfl) ?_); refine ⟨_, _, _, (by first | assumption | exact k_within _ _ _ | exact k_okL _ | exact k_natures | exact k_nat1 _ (by assumption) | exact k_nat0 _ (by assumption) | exact k_some _ _ (by first | assumption | decide)), _, by rfl, ?_, ?_⟩)); focus (first | exact trivial | fail | exact zQZ)) | fail)) | refine r_nt (by rfl) (by rfl) zDD (by rfl) ?_ | refine r_nf (by rfl) (by rfl) zDD (by rfl) ?_ | refine r_gu (by rfl) (by rfl) (by rfl) ?_ | refine r_nil ?_) | refine aw_unroll 5 ?_)
    (refine rtA ?_; try rfl)
def lns (g : Gt) : List Int := if g.k = 0 then [g.a] else if g.k = 1 ∨ g.k = 3 then [g.a, g.b] else if g.k = 2 ∨ g.k = 4 then [g.a, g.b, g.c] else []
end Go.Proofs.Ytalociocjjinlaa
namespace Go.Proofs.Ytalociocjjinlaa
set_option linter.unusedVariables false
set_option linter.unusedSimpArgs false
theorem sb_and {w a : Int} (hw : 0 ≤ w) : ((((w / 2 ^ a.toNat).toNat &&& Int.toNat 1 : Nat)) : Int) = if bt w a then 1 else 0 := by
  have e : (w / 2 ^ a.toNat).toNat = w.toNat >>> a.toNat := by
    rw [Nat.shiftRight_eq_div_pow]
    obtain ⟨m, rfl⟩ := Int.eq_ofNat_of_zero_le hw
    rw [show ((m : Int) / 2 ^ a.toNat) = ((m / 2 ^ a.toNat : Nat) : Int) by simp, Int.toNat_natCast, Int.toNat_natCast]
  rw [e]
  unfold bt
  rw [Nat.testBit, Nat.and_comm]
  show ((((1 &&& w.toNat >>> a.toNat : Nat)) : Int)) = _
  have h := Nat.mod_two_eq_zero_or_one (w.toNat >>> a.toNat)
  rw [Nat.and_comm, Nat.and_one_is_mod]
  rcases h with h | h <;> rw [h] <;> rfl
theorem sb_mod {w a : Int} (hw : 0 ≤ w) : w / 2 ^ a.toNat % 2 = if bt w a then 1 else 0 := by
  rw [← sb_and hw]
  have h0 : 0 ≤ w / 2 ^ a.toNat := Int.ediv_nonneg hw (Int.pow_nonneg (by decide))
  obtain ⟨m, hm⟩ := Int.eq_ofNat_of_zero_le h0
  rw [hm, Int.toNat_natCast]
  show _ = ((m &&& 1 : Nat) : Int)
  rw [Nat.and_one_is_mod]
  omega
theorem xor_add : ∀ w < 256, ∀ i < 8, w.testBit i = false → w ^^^ 2 ^ i = w + 2 ^ i := by decide +kernel
theorem xor_sub : ∀ w < 256, ∀ i < 8, w.testBit i = true → (w ^^^ 2 ^ i) + 2 ^ i = w := by decide +kernel
theorem turn_eq {w a : Int} (hw : 0 ≤ w ∧ w < 256) (ha : 0 ≤ a ∧ a < 8) : (if bt w a then w - 1 * 2 ^ a.toNat else w + 1 * 2 ^ a.toNat) = ((w.toNat ^^^ 2 ^ a.toNat : Nat) : Int) := by
  have h1 : w.toNat < 256 := by omega
  have h2 : a.toNat < 8 := by omega
  have e : ((2 : Int) ^ a.toNat) = ((2 ^ a.toNat : Nat) : Int) := by simp
  have e2 : ((w.toNat : Nat) : Int) = w := Int.toNat_of_nonneg hw.1
  rw [Int.one_mul, e]
  unfold bt
  cases hb : w.toNat.testBit a.toNat with
  | false =>
    have := xor_add _ h1 _ h2 hb
    rw [if_neg (by decide)]; omega
  | true =>
    have := xor_sub _ h1 _ h2 hb
    rw [if_pos rfl]; omega
theorem gr_if (g : Gt) {w : Int} (hw : 0 ≤ w) : gr g w = if gc g w then ((w.toNat ^^^ gm g : Nat) : Int) else w := by
  unfold gr
  split
  · rfl
  · exact Int.toNat_of_nonneg hw
theorem pow_nat (a : Int) : ((2 : Int) ^ a.toNat).toNat = 2 ^ a.toNat := by
  rw [show ((2 : Int) ^ a.toNat) = ((2 ^ a.toNat : Nat) : Int) by simp, Int.toNat_natCast]
theorem pow_8 {n : Int} (h : 1 ≤ n ∧ n ≤ 8) : 2 ≤ (2 : Int) ^ n.toNat ∧ (2 : Int) ^ n.toNat ≤ 256 := by
  obtain rfl | rfl | rfl | rfl | rfl | rfl | rfl | rfl : n = 1 ∨ n = 2 ∨ n = 3 ∨ n = 4 ∨ n = 5 ∨ n = 6 ∨ n = 7 ∨ n = 8 := by omega
  all_goals decide
theorem pow_7 {n : Int} (h : 0 ≤ n ∧ n ≤ 7) : 1 ≤ (2 : Int) ^ n.toNat ∧ (2 : Int) ^ n.toNat ≤ 128 := by
  obtain rfl | rfl | rfl | rfl | rfl | rfl | rfl | rfl : n = 0 ∨ n = 1 ∨ n = 2 ∨ n = 3 ∨ n = 4 ∨ n = 5 ∨ n = 6 ∨ n = 7 := by omega
  all_goals decide
def gvL (n : Int) : Nat → List Int → Bool
  | _, [] => true
  | s, x :: l => btw x 0 (n - 1) && !(s.testBit x.toNat) && gvL n (s ||| 2 ^ x.toNat) l
def z0 (l : List Int) : Bool := l.all (· == 0)
theorem or_bit (s a b : Nat) : (s ||| 2 ^ a).testBit b = (s.testBit b || decide (a = b)) := by rw [Nat.testBit_or, Nat.testBit_two_pow]
theorem btw8 (n x : Int) : btw x 0 (n - 1) = in8 n x := by
  unfold btw in8
  congr 1
  exact decide_eq_decide.2 (by omega)
theorem nat_ne {n a b : Int} (ha : in8 n a = true) (hb : in8 n b = true) : decide (a.toNat = b.toNat) = (b == a) := by
  simp only [in8, Bool.and_eq_true, decide_eq_true_eq] at ha hb
  by_cases h : a = b
  · subst h; simp
  · have : (b == a) = false := by rw [beq_eq_false_iff_ne]; exact Ne.symm h
    rw [this]; exact decide_eq_false (by omega)
theorem gvL1 (n a : Int) : gvL n 0 [a] = in8 n a := by simp [gvL, btw8]
theorem gvL2 (n a b : Int) : gvL n 0 [a, b] = (in8 n a && in8 n b && (b != a)) := by
  simp only [gvL, btw8, or_bit, Nat.zero_testBit, Bool.false_or, Bool.and_true, Bool.not_false]
  cases ha : in8 n a <;> cases hb : in8 n b <;> first | (simp; done) | (rw [nat_ne ha hb]; rfl)
theorem gvL3 (n a b c : Int) : gvL n 0 [a, b, c] = (in8 n a && in8 n b && (b != a) && in8 n c && (c != a) && (c != b)) := by
  simp only [gvL, btw8, or_bit, Nat.zero_testBit, Bool.false_or, Bool.and_true, Bool.not_false]
  cases ha : in8 n a <;> cases hb : in8 n b <;> cases hc : in8 n c <;> first | (simp; done) | (rw [nat_ne ha hb, nat_ne ha hc, nat_ne hb hc]; unfold bne; cases (b == a) <;> cases (c == a) <;> cases (c == b) <;> rfl)
def ntL (g : Gt) : List Int := if g.k = 0 then [g.a] else if g.k = 1 ∨ g.k = 3 then [g.a, g.b] else [g.a, g.b, g.c]
def ntR (g : Gt) : List Int := if g.k = 0 then [g.b, g.c] else if g.k = 1 ∨ g.k = 3 then [g.c] else []
theorem gok_nt {n : Int} {g : Gt} (h : 0 ≤ g.k ∧ g.k ≤ 4) (hn : btw n 1 8 = true) : gok n g = (gvL n 0 (ntL g) && z0 (ntR g)) := by
  have e : okLn n = true := hn
  unfold gok
  rw [e, Bool.true_and]
  unfold gokL ntL ntR
  have h' : g.k = 0 ∨ g.k = 1 ∨ g.k = 2 ∨ g.k = 3 ∨ g.k = 4 := by omega
  rcases h' with h' | h' | h' | h' | h' <;> simp [h', gvL1, gvL2, gvL3, z0, Bool.and_assoc]
theorem gok_k {n : Int} {g : Gt} (h : btw g.k 0 4 = false) : gok n g = false := by
  have := btw_f h
  unfold gok gokL
  rw [if_neg (by omega), if_neg (by omega), if_neg (by omega), Bool.and_false]
theorem gok_n {n : Int} {g : Gt} (h : btw n 1 8 = false) : gok n g = false := by
  have e : okLn n = false := h
  unfold gok; rw [e, Bool.false_and]
end Go.Proofs.Ytalociocjjinlaa
namespace Go.Proofs.Ytalociocjjinlaa
set_option linter.unusedVariables false
set_option linter.unusedSimpArgs false
set_option maxRecDepth 20000
open Go.RowKit
attribute [local irreducible] runA runX AW
theorem gq_KGE {H G : Prop} (k : H) (h : Hid H → G := by (intro hh; repeat1' (first | (first | (refine nxA ?_; (first | (refine z_op (by rfl) ?_; refine z_ex ?_ (pu_of hm rfl) ?_; focus (first | exact trivial | fail | exact zQZ)) | ((first | (refine z_op (by rfl) ?_; first | refine z_ok ?_ ?_ | refine z_ex ?_ (by first | exact zL1 | ((first | fail); exact zWW) | exact zL2 | fail | exact zL3 | fail) ?_) | ((first | refine q_callE wsT wsZ (by rfl) ?_ | refine q_callVE wsT (by rfl) (by rfl) ?_); refine ⟨_, _, _, (by first | assumption | exact k_within _ _ _ | exact k_okL _ | exact k_nat0 _ (by assumption)), _, by rfl, ?_, ?_⟩)); focus (first | exact trivial | fail | exact zQZ)) | fail)) | refine swA ?_) | refine awA ?_); exact hh.out)) : G := h ⟨k⟩
theorem hm0 : ∀ w : World, (Op.unary .not (.bool true)).run Try.prog w = .ok (.bool false) w := fun w => rfl
theorem k_gv00 (n : Int) (g : Gt) (h : btw g.k 0 4 = false) : Kon Try.prog 25 [vI n, gV g] [] (vB false) [] [] := by
  have hm := hm0
  (refine kM Try.func25 rfl ?_; intro hfit hfe)
  (repeat (first | refine gq_KGE ?_ | (refine ga0A ?_; intro _hq)))
  (refine rtA ?_; try rfl)
theorem seen_nat (s : Nat) (x : Int) : (((((((s : Nat) : Int) / 2 ^ x.toNat).toNat &&& Int.toNat 1 : Nat) : Int)) == 1) = s.testBit x.toNat := by
  rw [sb_and (Int.natCast_nonneg s)]
  unfold bt
  rw [Int.toNat_natCast]
  cases s.testBit x.toNat <;> rfl
theorem or_lt8 {s : Nat} {x : Int} (hs : s < 256) (hx : 0 ≤ x ∧ x ≤ 7) : s ||| 2 ^ x.toNat < 256 := Nat.or_lt_two_pow (n := 8) hs (Nat.pow_lt_pow_right (by omega) (by omega))
theorem or_cast (s : Nat) (x : Int) : ((((s : Nat) : Int).toNat ||| (1 * 2 ^ x.toNat : Int).toNat : Nat) : Int) = ((s ||| 2 ^ x.toNat : Nat) : Int) := by
  rw [Int.toNat_natCast, Int.one_mul, pow_nat]
theorem gvL_drop {n : Int} {s i : Nat} {L : List Int} (hi : i < L.length) : gvL n s (L.drop i) = (btw (L.getD i 0) 0 (n - 1) && !(s.testBit (L.getD i 0).toNat) && gvL n (s ||| 2 ^ (L.getD i 0).toNat) (L.drop (i + 1))) := by
  rw [List.drop_eq_getElem_cons hi]
  simp [gvL, List.getD_eq_getElem?_getD, hi]
theorem z0_drop {i : Nat} {L : List Int} (hi : i < L.length) : z0 (L.drop i) = ((L.getD i 0 == 0) && z0 (L.drop (i + 1))) := by
  rw [List.drop_eq_getElem_cons hi]
  have e : L.getD i 0 = L[i] := by simp [List.getD_eq_getElem?_getD, hi]
  rw [e]; rfl
set_option maxHeartbeats 1000000 in
theorem gv_core (n : Int) (g : Gt) (x1 x3 x4 : Value) (m m2 : Int) (L L2 : List Int) (hK : Kon Try.prog 40 [gV g] [] (.tup [.agg [.v x1, .v (.int .i64 m), .v x3, .v x4], .one (.v (.bool true))]) [] [])
    (hS : Kon Try.prog 41 [gV g, vI m] [] (slA 0 0 L) [iRow L] []) (hS2 : Kon Try.prog 41 [gV g, vI m2] [] (slA 0 0 L2) [iRow L2] [])
    (hm : ∀ w, (Op.unary .xor (.int .i64 m)).run Try.prog w = .ok (.int .i64 m2) w) (hL : L.length ≤ 3) (hL2 : L2.length ≤ 3) : Kon Try.prog 25 [vI n, gV g] [] (vB (btw n 1 8 && (gvL n 0 L && z0 L2))) [] [] := by
  cases hn : btw n 1 8 with
  | false =>
    (refine kM Try.func25 rfl ?_; intro hfit hfe)
    (repeat (first | refine gq_KGE ?_ | (refine ga0A ?_; intro _hq)))
    (refine rtA ?_; try rfl)
  | true =>
  have hn' := btw_t hn
  rw [Bool.true_and]
  (refine kM Try.func25 rfl ?_; intro hfit hfe)
  (repeat (first | refine gq_KGE ?_ | (refine ga0A ?_; intro _hq)))
  (refine aw_rd [0, 3, 5, 27, 28] [48, 432, 80] (fun g : Nat × Nat => [(7, vI g.2), (29, vI g.1)]) (fun _ => []) (fun g => g.1 ≤ L.length ∧ g.2 < 256 ∧ gvL n g.2 (L.drop g.1) = gvL n 0 L) (fun g => L.length - g.1) (0, 0) (by rfl) (by rfl) ?_ (by rfl) zHE zHE ?_)
  · exact ⟨Nat.zero_le _, by decide, by rw [List.drop_zero]⟩
  rintro ⟨i, s⟩ ⟨hi, hs, hg⟩
  dsimp only at hi hs hg ⊢
  rcases Nat.lt_or_ge i L.length with h5 | h5
  · have hd : decide ((i : Int) < (L.length : Int)) = true := by simpa using h5
    obtain ⟨x, hx⟩ : ∃ x, L.getD (i : Int).toNat (Cel.no : Int) = x := ⟨_, rfl⟩
    have hx' : L.getD i 0 = x := hx
    rw [gvL_drop h5, hx'] at hg
    (repeat (first | refine gq_KGE ?_ | (refine ga0A ?_; intro _hq)))
    rw [hx]
    cases hb : btw x 0 (n - 1) with
    | false =>
      rw [hb, Bool.false_and, Bool.false_and] at hg
      rw [← hg, Bool.false_and]
      (repeat (first | refine gq_KGE ?_ | (refine ga0A ?_; intro _hq)))
      (refine rtA ?_; try rfl)
    | true =>
      have hb' := btw_t hb
      have hp := pow_7 (n := x) (by omega)
      have hn1 := seen_nat s x
      have hs2 := or_lt8 (s := s) (x := x) hs (by omega)
      rw [hb, Bool.true_and] at hg
      cases hv : s.testBit x.toNat with
      | true =>
        rw [hv, Bool.not_true, Bool.false_and] at hg
        rw [hv] at hn1
        rw [← hg, Bool.false_and]
        (repeat (first | refine gq_KGE ?_ | (refine ga0A ?_; intro _hq)))
        (refine rtA ?_; try rfl)
      | false =>
        rw [hv, Bool.not_false, Bool.true_and] at hg
        rw [hv] at hn1
        have hinv : i + 1 ≤ L.length ∧ s ||| 2 ^ x.toNat < 256 ∧ gvL n (s ||| 2 ^ x.toNat) (L.drop (i + 1)) = gvL n 0 L := ⟨h5, hs2, hg⟩
        have e := or_cast s x
        (repeat (first | refine gq_KGE ?_ | (refine ga0A ?_; intro _hq)))
        rw [e]
        exact ⟨(i + 1, s ||| 2 ^ x.toNat), hinv, ⟨by rfl, zHE, zHE⟩, (by first | omega | (dsimp only; omega))⟩
  · have hd : decide ((i : Int) < (L.length : Int)) = false := by simp; omega
    rw [List.drop_of_length_le h5] at hg
    rw [← hg]
    clear hg
    (repeat (first | refine gq_KGE ?_ | (refine ga0A ?_; intro _hq)))
    (refine aw_rd [54, 55] [864] (fun i : Nat => [(56, vI i)]) (fun _ => []) (fun i => i ≤ L2.length ∧ z0 (L2.drop i) = z0 L2) (fun i => L2.length - i) 0 (by rfl) (by rfl) ?_ (by rfl) zHE zHE ?_)
    · exact ⟨Nat.zero_le _, by rw [List.drop_zero]⟩
    rintro j ⟨hj, hz⟩
    rcases Nat.lt_or_ge j L2.length with h6 | h6
    · have hd : decide ((j : Int) < (L2.length : Int)) = true := by simpa using h6
      obtain ⟨x, hx⟩ : ∃ x, L2.getD (j : Int).toNat (Cel.no : Int) = x := ⟨_, rfl⟩
      have hx' : L2.getD j 0 = x := hx
      rw [z0_drop h6, hx'] at hz
      (repeat (first | refine gq_KGE ?_ | (refine ga0A ?_; intro _hq)))
      rw [hx]
      cases hb : (x != 0) with
      | true =>
        have e : (x == 0) = false := by rw [bne] at hb; simpa using hb
        rw [e, Bool.false_and] at hz
        rw [← hz]
        (repeat (first | refine gq_KGE ?_ | (refine ga0A ?_; intro _hq)))
        (refine rtA ?_; try rfl)
      | false =>
        have e : (x == 0) = true := by rw [bne] at hb; simpa using hb
        rw [e, Bool.true_and] at hz
        have hinv : j + 1 ≤ L2.length ∧ z0 (L2.drop (j + 1)) = z0 L2 := ⟨h6, hz⟩
        (repeat (first | refine gq_KGE ?_ | (refine ga0A ?_; intro _hq)))
        exact ⟨j + 1, hinv, ⟨by rfl, zHE, zHE⟩, (by first | omega | (dsimp only; omega))⟩
    · have hd : decide ((j : Int) < (L2.length : Int)) = false := by simp; omega
      rw [List.drop_of_length_le h6] at hz
      rw [← hz]
      (repeat (first | refine gq_KGE ?_ | (refine ga0A ?_; intro _hq)))
      (refine rtA ?_; try rfl)
theorem k_gv (n : Int) (g : Gt) : Kon Try.prog 25 [vI n, gV g] [] (vB (gok n g)) [] [] := by
  cases hk : btw g.k 0 4 with
  | false => rw [gok_k hk]; exact k_gv00 n g hk
  | true =>
    have hk' := btw_t hk
    have hK := k_nat1 g hk'
    cases hn : btw n 1 8 with
    | false =>
      rw [gok_n hn]
      obtain ⟨k, a, b, c⟩ := g
      dsimp only at hk' hK ⊢
      have h' : k = 0 ∨ k = 1 ∨ k = 2 ∨ k = 3 ∨ k = 4 := by omega
      have hm := hm0
      rcases h' with rfl | rfl | rfl | rfl | rfl
      all_goals
        (refine kM Try.func25 rfl ?_; intro hfit hfe)
        (repeat (first | refine gq_KGE ?_ | (refine ga0A ?_; intro _hq)))
        (refine rtA ?_; try rfl)
    | true =>
      rw [gok_nt hk' hn]
      have hG : ∀ (x1 x3 x4 : Value) (m m2 : Int) (L L2 : List Int), _ → _ → _ → _ → _ → _ → Kon Try.prog 25 [vI n, gV g] [] (vB (btw n 1 8 && (gvL n 0 L && z0 L2))) [] [] := gv_core n g
      rw [hn] at hG
      simp only [Bool.true_and] at hG
      obtain ⟨k, a, b, c⟩ := g
      dsimp only at hk' hK ⊢
      have h' : k = 0 ∨ k = 1 ∨ k = 2 ∨ k = 3 ∨ k = 4 := by omega
      rcases h' with rfl | rfl | rfl | rfl | rfl
      · exact hG _ _ _ 1 (-2) [a] [b, c] hK (k_some _ 1 (by decide)) (k_some _ (-2) (by decide)) (fun w => rfl) (by simp) (by simp)
      · exact hG _ _ _ 3 (-4) [a, b] [c] hK (k_some _ 3 (by decide)) (k_some _ (-4) (by decide)) (fun w => rfl) (by simp) (by simp)
      · exact hG _ _ _ 7 (-8) [a, b, c] [] hK (k_some _ 7 (by decide)) (k_some _ (-8) (by decide)) (fun w => rfl) (by simp) (by simp)
      · exact hG _ _ _ 3 (-4) [a, b] [c] hK (k_some _ 3 (by decide)) (k_some _ (-4) (by decide)) (fun w => rfl) (by simp) (by simp)
      · exact hG _ _ _ 7 (-8) [a, b, c] [] hK (k_some _ 7 (by decide)) (k_some _ (-8) (by decide)) (fun w => rfl) (by simp) (by simp)
theorem gq_KGH {H G : Prop} (k : H) (h : Hid H → G := by (intro hh; repeat1' (first | (first | (refine nxA ?_; (first | fail | ((first | (refine z_op (by rfl) ?_; first | refine z_ok ?_ ?_ | refine z_ex ?_ (by first | exact zL1 | ((first | fail); exact zWW) | exact zL2 | exact rw_c Int rfl | exact zL3 | fail) ?_) | ((first | refine q_callE wsT wsZ (by rfl) ?_ | refine q_callVE wsT (by rfl) (by rfl) ?_); refine ⟨_, _, _, (by first | assumption | exact k_l1In _ _ _ | exact k_linesS _ | exact k_has _ _ (by omega) | exact k_wvS2 _ _ | exact k_bitS _ _ (by omega) | exact k_turnS _ _ (by omega)), _, by rfl, ?_, ?_⟩)); focus (first | exact trivial | fail | exact zQZ)) | fail)) | refine swA ?_) | refine awA ?_); exact hh.out)) : G := h ⟨k⟩
theorem gs_KGH {H G : Prop} (k : H) (h : Hid H → G := by (intro hh; repeat1' (first | (refine nxA ?_; (first | fail | ((first | (refine z_op (by rfl) ?_; first | refine z_ok ?_ ?_ | refine z_ex ?_ (by first | exact zL1 | ((first | fail); exact zWW) | exact zL2 | exact rw_c Int rfl | exact zL3 | fail) ?_) | ((first | refine q_callE wsT wsZ (by rfl) ?_ | refine q_callVE wsT (by rfl) (by rfl) ?_); refine ⟨_, _, _, (by first | assumption | exact k_l1In _ _ _ | exact k_linesS _ | exact k_has _ _ (by omega) | exact k_wvS2 _ _ | exact k_bitS _ _ (by omega) | exact k_turnS _ _ (by omega)), _, by rfl, ?_, ?_⟩)); focus (first | exact trivial | fail | exact zQZ)) | fail)) | refine swA ?_); exact hh.out)) : G := h ⟨k⟩
theorem k_linesS (g : Gt) : Kon Try.prog 39 [gV g] [] (slA 0 0 (lns g)) [iRow (lns g)] [] := by
  obtain ⟨k, a, b, c⟩ := g
  by_cases h0 : k = 0
  · subst h0
    (refine kM Try.func39 rfl ?_; intro hfit hfe)
    (repeat (first | refine gq_KGH ?_ | (refine ga0A ?_; intro _hq)))
    (refine rtA ?_; try rfl)
  by_cases h1 : k = 1
  · subst h1
    (refine kM Try.func39 rfl ?_; intro hfit hfe)
    (repeat (first | refine gq_KGH ?_ | (refine ga0A ?_; intro _hq)))
    (refine rtA ?_; try rfl)
  by_cases h2 : k = 2
  · subst h2
    (refine kM Try.func39 rfl ?_; intro hfit hfe)
    (repeat (first | refine gq_KGH ?_ | (refine ga0A ?_; intro _hq)))
    (refine rtA ?_; try rfl)
  by_cases h3 : k = 3
  · subst h3
    (refine kM Try.func39 rfl ?_; intro hfit hfe)
    (repeat (first | refine gq_KGH ?_ | (refine ga0A ?_; intro _hq)))
    (refine rtA ?_; try rfl)
  by_cases h4 : k = 4
  · subst h4
    (refine kM Try.func39 rfl ?_; intro hfit hfe)
    (repeat (first | refine gq_KGH ?_ | (refine ga0A ?_; intro _hq)))
    (refine rtA ?_; try rfl)
  have e : lns ⟨k, a, b, c⟩ = [] := by simp [lns, h0, h1, h2, h3, h4]
  have e0 : (k == 0) = false := by simpa using h0
  have e1 : (k == 1) = false := by simpa using h1
  have e2 : (k == 2) = false := by simpa using h2
  have e3 : (k == 3) = false := by simpa using h3
  have e4 : (k == 4) = false := by simpa using h4
  rw [e]
  clear e h0 h1 h2 h3 h4
  (refine kM Try.func39 rfl ?_; intro hfit hfe)
  (repeat (first | refine gq_KGH ?_ | (refine ga0A ?_; intro _hq)))
  (refine rtA ?_; try rfl)
def hasB (l : List Int) (x : Int) : Bool := l.any (· == x)
theorem has_drop {l : List Int} {x : Int} {i : Nat} (hi : i < l.length) : hasB (l.drop i) x = ((l.getD i 0 == x) || hasB (l.drop (i + 1)) x) := by
  have e : l.getD i 0 = l[i] := by simp [List.getD_eq_getElem?_getD, hi]
  rw [List.drop_eq_getElem_cons hi, e]; rfl
theorem k_has (l : List Int) (x : Int) (h : l.length ≤ 100000000) : Kon Try.prog 36 [roA l, vI x] [] (vB (hasB l x)) [] [] := by
  (refine kM Try.func36 rfl ?_; intro hfit hfe)
  (repeat (first | refine gq_KGH ?_ | (refine ga0A ?_; intro _hq)))
  (refine aw_rd [0, 1] [] (fun i : Nat => [(5, vI i)]) (fun _ => []) (fun i => i ≤ l.length ∧ hasB (l.drop i) x = hasB l x) (fun i => l.length - i) 0 (by rfl) (by rfl) ?_ (by rfl) zHE zHE ?_)
  · exact ⟨Nat.zero_le _, by rw [List.drop_zero]⟩
  rintro i ⟨hi, hz⟩
  rcases Nat.lt_or_ge i l.length with h6 | h6
  · have hd : decide ((i : Int) < (l.length : Int)) = true := by simpa using h6
    have e := has_drop (x := x) h6
    rw [hz] at e
    cases hb : (l.getD i 0 == x) with
    | true =>
      have hb2 : (l.getD (i : Int).toNat (Cel.no : Int) == x) = true := hb
      rw [hb, Bool.true_or] at e
      rw [e]
      clear e hz
      (repeat (first | refine gq_KGH ?_ | (refine ga0A ?_; intro _hq)))
      (refine rtA ?_; try rfl)
    | false =>
      have hb2 : (l.getD (i : Int).toNat (Cel.no : Int) == x) = false := hb
      rw [hb, Bool.false_or] at e
      have hinv : i + 1 ≤ l.length ∧ hasB (l.drop (i + 1)) x = hasB l x := ⟨h6, e.symm⟩
      clear e hz
      (repeat (first | refine gq_KGH ?_ | (refine ga0A ?_; intro _hq)))
      exact ⟨i + 1, hinv, ⟨by rfl, zHE, zHE⟩, (by first | omega | (dsimp only; omega))⟩
  · have hd : decide ((i : Int) < (l.length : Int)) = false := by simp; omega
    rw [List.drop_of_length_le h6] at hz
    rw [← hz]
    clear hz
    (repeat (first | refine gq_KGH ?_ | (refine ga0A ?_; intro _hq)))
    (refine rtA ?_; try rfl)
theorem k_wvS2 (n w : Int) : Kon Try.prog 35 [vI n, vI w] [] (vB (wvB n w)) [] [] := by
  (refine kM Try.func35 rfl ?_; intro hfit hfe)
  unfold wvB
  cases h1 : btw n 1 8 with
  | false => (repeat (first | refine gq_KGH ?_ | (refine ga0A ?_; intro _hq))); (refine rtA ?_; try rfl)
  | true =>
    have h1' := btw_t h1
    (repeat (first | refine gq_KGH ?_ | (refine ga0A ?_; intro _hq)))
    (subst_vars; (refine rtA ?_; try rfl))
    rw [Int.one_mul]; rfl
theorem k_bitS (w a : Int) (h : 0 ≤ w ∧ w < 256 ∧ 0 ≤ a ∧ a ≤ 60) : Kon Try.prog 37 [vI w, vI a] [] (vI (if bt w a then 1 else 0)) [] [] := by
  rw [← sb_mod h.1]
  (refine kM Try.func37 rfl ?_; intro hfit hfe)
  (repeat (first | refine gq_KGH ?_ | (refine ga0A ?_; intro _hq)))
  (refine rtA ?_; try rfl)
theorem k_turnS (w a : Int) (h : 0 ≤ w ∧ w < 256 ∧ 0 ≤ a ∧ a ≤ 7) : Kon Try.prog 51 [vI w, vI a] [] (vI ((w.toNat ^^^ 2 ^ a.toNat : Nat) : Int)) [] [] := by
  have hp := pow_7 (n := a) (by omega)
  have e := turn_eq (w := w) (a := a) ⟨h.1, h.2.1⟩ (by omega)
  rw [← e]
  have hK := k_bitS w a (by omega)
  cases hb : bt w a <;> rw [hb] at hK <;> clear e
  all_goals
    (refine kM Try.func51 rfl ?_; intro hfit hfe)
    (repeat (first | refine gq_KGH ?_ | (refine ga0A ?_; intro _hq)))
    (refine rtA ?_; try rfl)
def gsL (n : Int) (L : List Int) : Nat → Nat → Bool
  | 0, _ => true
  | f + 1, i => btw (L.getD i 0) 0 (n - 1) && (!(hasB (L.take i) (L.getD i 0)) && gsL n L f (i + 1))
def gvS (n : Int) (g : Gt) : Bool := gsL n (lns g) (lns g).length 0 && (btw n 1 8 && (decide ((lns g).length > 0) && ((decide ((lns g).length > 1) || g.b == 0) && (decide ((lns g).length > 2) || g.c == 0))))
theorem beqC (a b : Int) : (a == b) = (b == a) := by rw [Bool.eq_iff_iff, beq_iff_eq, beq_iff_eq]; exact eq_comm
theorem gvS_eq (n : Int) (g : Gt) : gvS n g = gok n g := by
  cases hk : btw g.k 0 4 with
  | false =>
    have h := btw_f hk
    have e : lns g = [] := by simp [lns, show ¬ g.k = 0 by omega, show ¬ g.k = 1 by omega, show ¬ g.k = 2 by omega, show ¬ g.k = 3 by omega, show ¬ g.k = 4 by omega]
    unfold gvS
    rw [e, gok_k hk]
    simp
  | true =>
    have hk' := btw_t hk
    cases hn : btw n 1 8 with
    | false => rw [gok_n hn]; unfold gvS; rw [hn]; simp
    | true =>
      rw [gok_nt hk' hn]
      have h' : g.k = 0 ∨ g.k = 1 ∨ g.k = 2 ∨ g.k = 3 ∨ g.k = 4 := by omega
      unfold gvS ntL ntR lns
      rw [hn]
      rcases h' with h' | h' | h' | h' | h' <;> simp [h', gvL1, gvL2, gvL3, z0, gsL, btw8, hasB, Bool.and_assoc, bne, beqC g.a g.b, beqC g.a g.c, beqC g.b g.c]
set_option maxHeartbeats 1000000 in
theorem k_gvSa (n : Int) (g : Gt) (hr : -9223372036854775807 ≤ n ∧ n ≤ 9223372036854775807) : Kon Try.prog 23 [vI n, gV g] [] (vB (gok n g)) [] [] := by
  rw [← gvS_eq]
  have hK := k_linesS g
  have hL : (lns g).length ≤ 3 := by unfold lns; split <;> (try split) <;> (try split) <;> simp
  unfold gvS
  obtain ⟨L, eL⟩ : ∃ L, L = lns g := ⟨_, rfl⟩
  rw [← eL] at hK hL ⊢
  obtain ⟨k, a, b, c⟩ := g
  clear eL
  dsimp only
  (refine kM Try.func23 rfl ?_; intro hfit hfe)
  (repeat refine gcA ?_)
  (repeat (first | refine gs_KGH ?_ | (refine ga0A ?_; intro _hq)))
  (repeat refine gcA ?_)
  (repeat (first | refine gs_KGH ?_ | (refine ga0A ?_; intro _hq)))
  (refine aw_freeze 128 (by rfl) (by rfl) ?_; refine aw_slot 5 1 (by rfl) (by rfl) (by first | exact trivial | omega | exact cvB (fun w => rfl) | ((repeat (any_goals (first | exact rfl | exact cV_len _ | exact cV_ln rfl (by omega) | exact Cel.pos | omega | exact trivial | refine And.intro ?_ ?_))); first | done | fail) | (simp [*]; first | done | fail)) ?_)
  (repeat (first | refine gq_KGH ?_ | (refine ga0A ?_; intro _hq)))
  (refine aw_rd [0, 3, 5] [48] (fun i : Nat => [(6, vI i)]) (fun _ => []) (fun i => i ≤ L.length ∧ gsL n L (L.length - i) i = gsL n L L.length 0) (fun i => L.length - i) 0 (by rfl) (by rfl) ?_ (by rfl) zHE zHE ?_)
  · exact ⟨Nat.zero_le _, rfl⟩
  rintro i ⟨hi, hz⟩
  rcases Nat.lt_or_ge i L.length with h6 | h6
  · have hd : decide ((i : Int) < (L.length : Int)) = true := by simpa using h6
    rw [show L.length - i = (L.length - (i + 1)) + 1 by omega, gsL] at hz
    replace hz : (btw (L.getD (i : Int).toNat (Cel.no : Int)) 0 (n - 1) && (!(hasB (L.take (i : Int).toNat) (L.getD (i : Int).toNat (Cel.no : Int))) && gsL n L (L.length - (i + 1)) (i + 1))) = gsL n L L.length 0 := hz
    cases hb : btw (L.getD (i : Int).toNat (Cel.no : Int)) 0 (n - 1) with
    | false =>
      rw [hb, Bool.false_and] at hz
      rw [← hz, Bool.false_and]
      clear hz
      (repeat (first | refine gq_KGH ?_ | (refine ga0A ?_; intro _hq) | refine gdA ?_))
      (refine rtA ?_; try rfl)
    | true =>
      rw [hb, Bool.true_and] at hz
      have hK2 : Kon Try.prog 36 [roA (L.take (i : Int).toNat), vI (L.getD (i : Int).toNat (Cel.no : Int))] [] (vB (hasB (L.take (i : Int).toNat) (L.getD (i : Int).toNat (Cel.no : Int)))) [] [] := k_has _ _ (by simp; omega)
      cases hv : hasB (L.take (i : Int).toNat) (L.getD (i : Int).toNat (Cel.no : Int)) with
      | true =>
        rw [hv, Bool.not_true, Bool.false_and] at hz
        rw [← hz, Bool.false_and]
        clear hz
        (repeat (first | refine gq_KGH ?_ | (refine ga0A ?_; intro _hq) | refine gdA ?_))
        (refine rtA ?_; try rfl)
      | false =>
        rw [hv, Bool.not_false, Bool.true_and] at hz
        have hinv : i + 1 ≤ L.length ∧ gsL n L (L.length - (i + 1)) (i + 1) = gsL n L L.length 0 := ⟨h6, hz⟩
        clear hz
        (repeat (first | refine gq_KGH ?_ | (refine ga0A ?_; intro _hq) | refine gdA ?_))
        exact ⟨i + 1, hinv, ⟨by rfl, zHE, zHE⟩, (by first | omega | (dsimp only; omega))⟩
  · have hd : decide ((i : Int) < (L.length : Int)) = false := by simp; omega
    have e0 : L.length - i = 0 := by omega
    rw [e0, gsL] at hz
    rw [← hz, Bool.true_and]
    clear hz e0
    cases hn : btw n 1 8 with
    | false => 
      (repeat (first | refine gq_KGH ?_ | (refine ga0A ?_; intro _hq) | refine gdA ?_))
      (refine rtA ?_; try rfl)
    | true =>
      rw [Bool.true_and]
      cases h1 : decide ((L.length : Int) > 0) with
      | false =>
        have e : decide (L.length > 0) = false := by simpa using h1
        rw [e, Bool.false_and]
        (repeat (first | refine gq_KGH ?_ | (refine ga0A ?_; intro _hq) | refine gdA ?_))
        (refine rtA ?_; try rfl)
      | true =>
        have e : decide (L.length > 0) = true := by simpa using h1
        rw [e, Bool.true_and]
        clear e
        have e2 : decide ((L.length : Int) > 1) = decide (L.length > 1) := decide_eq_decide.2 (by omega)
        have e3 : decide ((L.length : Int) > 2) = decide (L.length > 2) := decide_eq_decide.2 (by omega)
        rw [← e2, ← e3]
        clear e2 e3
        cases h2 : decide ((L.length : Int) > 1) <;> cases h3 : decide ((L.length : Int) > 2) <;> cases h4 : (b == 0)
        all_goals
          (repeat (first | refine gq_KGH ?_ | (refine ga0A ?_; intro _hq) | refine gdA ?_))
          (refine rtA ?_; try rfl)
theorem gq_KGM {H G : Prop} (k : H) (h : Hid H → G := by (intro hh; repeat1' (first | (first | (refine nxA ?_; (first | (refine r_pure2 (o := .sub) (r := .int .i64 9223372036854775807) (by rfl) (by rfl) (fun w => by kernel_rfl) (by rfl) (by rfl) ?_) | ((first | (refine z_op (by rfl) ?_; first | refine z_ok ?_ ?_ | refine z_ex ?_ (by first | exact zL1 | ((first | fail); exact zWW) | exact zL2 | fail | exact zL3 | fail) ?_) | ((first | refine q_callE wsT wsZ (by rfl) ?_ | refine q_callVE wsT (by rfl) (by rfl) ?_); refine ⟨_, _, _, (by first | assumption | exact k_l1In _ _ _ | exact k_linesS _), _, by rfl, ?_, ?_⟩)); focus (first | exact trivial | fail | exact zQZ)) | fail)) | refine swA ?_) | refine awA ?_); exact hh.out)) : G := h ⟨k⟩
theorem gs_KGM {H G : Prop} (k : H) (h : Hid H → G := by (intro hh; repeat1' (first | (refine nxA ?_; (first | (refine r_pure2 (o := .sub) (r := .int .i64 9223372036854775807) (by rfl) (by rfl) (fun w => by kernel_rfl) (by rfl) (by rfl) ?_) | ((first | (refine z_op (by rfl) ?_; first | refine z_ok ?_ ?_ | refine z_ex ?_ (by first | exact zL1 | ((first | fail); exact zWW) | exact zL2 | fail | exact zL3 | fail) ?_) | ((first | refine q_callE wsT wsZ (by rfl) ?_ | refine q_callVE wsT (by rfl) (by rfl) ?_); refine ⟨_, _, _, (by first | assumption | exact k_l1In _ _ _ | exact k_linesS _), _, by rfl, ?_, ?_⟩)); focus (first | exact trivial | fail | exact zQZ)) | fail)) | refine swA ?_); exact hh.out)) : G := h ⟨k⟩
set_option maxHeartbeats 1000000 in
theorem k_gvSm (g : Gt) : Kon Try.prog 23 [vI (-9223372036854775808), gV g] [] (vB false) [] [] := by
  have hK := k_linesS g
  have hL : (lns g).length ≤ 3 := by unfold lns; split <;> (try split) <;> (try split) <;> simp
  obtain ⟨L, eL⟩ : ∃ L, L = lns g := ⟨_, rfl⟩
  rw [← eL] at hK hL
  obtain ⟨k, a, b, c⟩ := g
  clear eL
  (refine kM Try.func23 rfl ?_; intro hfit hfe)
  (repeat refine gcA ?_)
  (repeat (first | refine gs_KGM ?_ | (refine ga0A ?_; intro _hq)))
  (repeat refine gcA ?_)
  (repeat (first | refine gs_KGM ?_ | (refine ga0A ?_; intro _hq)))
  (refine aw_freeze 128 (by rfl) (by rfl) ?_; refine aw_slot 5 1 (by rfl) (by rfl) (by first | exact trivial | omega | exact cvB (fun w => rfl) | ((repeat (any_goals (first | exact rfl | exact cV_len _ | exact cV_ln rfl (by omega) | exact Cel.pos | omega | exact trivial | refine And.intro ?_ ?_))); first | done | fail) | (simp [*]; first | done | fail)) ?_)
  (repeat (first | refine gq_KGM ?_ | (refine ga0A ?_; intro _hq)))
  (refine aw_rd [0, 3, 5] [48] (fun i : Nat => [(6, vI i)]) (fun _ => []) (fun i => i ≤ L.length) (fun i => L.length - i) 0 (by rfl) (by rfl) ?_ (by rfl) zHE zHE ?_)
  · exact Nat.zero_le _
  rintro i hi
  rcases Nat.lt_or_ge i L.length with h6 | h6
  · have hd : decide ((i : Int) < (L.length : Int)) = true := by simpa using h6
    cases hb : btw (L.getD (i : Int).toNat (Cel.no : Int)) 0 9223372036854775807 with
    | false =>
      (repeat (first | refine gq_KGM ?_ | (refine ga0A ?_; intro _hq) | refine gdA ?_))
      (refine rtA ?_; try rfl)
    | true =>
      have hK2 : Kon Try.prog 36 [roA (L.take (i : Int).toNat), vI (L.getD (i : Int).toNat (Cel.no : Int))] [] (vB (hasB (L.take (i : Int).toNat) (L.getD (i : Int).toNat (Cel.no : Int)))) [] [] := k_has _ _ (by simp; omega)
      cases hv : hasB (L.take (i : Int).toNat) (L.getD (i : Int).toNat (Cel.no : Int)) with
      | true =>
        (repeat (first | refine gq_KGM ?_ | (refine ga0A ?_; intro _hq) | refine gdA ?_))
        (refine rtA ?_; try rfl)
      | false =>
        (repeat (first | refine gq_KGM ?_ | (refine ga0A ?_; intro _hq) | refine gdA ?_))
        exact ⟨i + 1, h6, ⟨by rfl, zHE, zHE⟩, (by first | omega | (dsimp only; omega))⟩
  · have hd : decide ((i : Int) < (L.length : Int)) = false := by simp; omega
    have hn : btw (-9223372036854775808) 1 8 = false := rfl
    (repeat (first | refine gq_KGM ?_ | (refine ga0A ?_; intro _hq) | refine gdA ?_))
    (refine rtA ?_; try rfl)
theorem k_gvS (n : Int) (g : Gt) (hr : -9223372036854775808 ≤ n ∧ n ≤ 9223372036854775807) : Kon Try.prog 23 [vI n, gV g] [] (vB (gok n g)) [] [] := by
  by_cases h : n = -9223372036854775808
  · subst h
    rw [gok_n rfl]
    exact k_gvSm g
  · exact k_gvSa n g (by omega)
end Go.Proofs.Ytalociocjjinlaa
