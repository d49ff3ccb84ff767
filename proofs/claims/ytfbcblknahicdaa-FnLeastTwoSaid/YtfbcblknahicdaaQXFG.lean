/- Tab, ZA, PLK, PPA, PPB, PPC, PPD, TRA, QR, CutH, PTA, PTC, PLT, MK, CutI, CutJ: laid into one text. -/
import Derived.Test.YtfbcblknahicdaaQXFA
import Derived.Test.YtfbcblknahicdaaQXFD
import Derived.Test.YtfbcblknahicdaaQXFE
import Derived.Test.YtfbcblknahicdaaQXFF
import Derived.Test.YtfbcblknahicdaaRows
import Derived.Deep.AppendSrc
import Derived.Maps.Views
import Derived.Maps.OwnSet
import Derived.Maps.OwnOps
import Derived.WideKeyPair

namespace Go.Proofs.Ytfbcblknahicdaa
set_option maxRecDepth 10000
theorem allN {α : Type} {Q : α → Prop} : ∀ p ∈ ([] : List α), Q p := fun p hp => by cases hp
theorem allC {α : Type} {Q : α → Prop} {x : α} {l : List α} (h : Q x) (h' : ∀ p ∈ l, Q p) : ∀ p ∈ x :: l, Q p := fun p hp => by
  rcases List.mem_cons.1 hp with rfl | hp
  · exact h
  · exact h' p hp
def T0 : Tab := ⟨[(2, (false, 1)), (3, (false, 1)), (4, (false, 1)), (5, (false, 1)), (9, (false, 1)), (12, (false, 1)), (13, (true, 2)), (19, (true, 1)), (21, (false, 1)), (22, (false, 1)), (23, (false, 1)), (26, (false, 1)), (35, (false, 1)), (40, (true, 4)), (41, (true, 4)), (42, (true, 4)), (43, (false, 1)), (44, (false, 1)), (46, (false, 1)), (55, (true, 2)), (56, (true, 2)), (57, (false, 1)), (67, (true, 4)), (68, (true, 4)), (72, (true, 20)), (74, (true, 3)), (82, (false, 1)), (86, (false, 1))],
  [(13000, (0, false, 1)), (13001, (1, false, 1)), (19000, (0, false, 1)), (40000, (0, false, 1)), (40001, (1, false, 1)), (40002, (2, false, 1)), (40003, (3, false, 1)), (41000, (0, false, 1)), (41001, (1, false, 1)), (41002, (2, false, 1)), (41003, (3, false, 1)), (55000, (0, false, 1)), (55001, (1, false, 1)), (56000, (0, false, 1)), (56001, (1, false, 1)), (67000, (0, false, 1)), (67001, (1, false, 1)), (67002, (2, false, 1)), (67003, (3, false, 1)), (68000, (0, false, 1)), (68001, (1, false, 1)), (68002, (2, false, 1)), (68003, (3, false, 1))],
  [(22, (none, 5, false, 1, 1)), (23, (none, 3, false, 1, 8)), (26, (none, 41, true, 4, 32)), (42, (some 4, 3, false, 1, 8)), (44, (none, 42, true, 4, 32)), (46, (none, 23, false, 1, 24)), (57, (none, 4, false, 1, 1)), (72, (some 5, 68, true, 4, 40)), (74, (some 3, 3, false, 1, 8))],
  [(2, [.int .i64 0]), (3, [.int .i64 0]), (4, [.bool false]), (5, [.int .u8 0]), (9, [.string ByteArray.empty]), (12, [.int .u64 0]), (13, [.string ByteArray.empty, .int .u64 0]), (19, [.pointer none]), (21, [.int .i32 0]), (22, [.slice none 0 0]), (23, [.slice none 0 0]), (26, [.slice none 0 0]), (35, [.pointer none]), (40, [.int .i64 0, .int .i64 0, .int .i64 0, .int .i64 0]), (41, [.int .i64 0, .int .i64 0, .int .i64 0, .int .i64 0]), (42, [.int .i64 0, .int .i64 0, .int .i64 0, .int .i64 0]), (44, [.slice none 0 0]), (46, [.slice none 0 0]), (55, [.slice none 0 0, .int .i64 0]), (56, [.slice none 0 0, .int .i64 0]), (57, [.slice none 0 0]), (67, [.string ByteArray.empty, .int .i64 0, .int .i64 0, .int .i64 0]), (68, [.string ByteArray.empty, .int .i64 0, .int .i64 0, .int .i64 0]), (72, [.string ByteArray.empty, .int .i64 0, .int .i64 0, .int .i64 0, .string ByteArray.empty, .int .i64 0, .int .i64 0, .int .i64 0, .string ByteArray.empty, .int .i64 0, .int .i64 0, .int .i64 0, .string ByteArray.empty, .int .i64 0, .int .i64 0, .int .i64 0, .string ByteArray.empty, .int .i64 0, .int .i64 0, .int .i64 0]), (74, [.int .i64 0, .int .i64 0, .int .i64 0]), (82, [.int .u32 0]), (86, [.pointer none])],
  [(13, ([.string ByteArray.empty, .int .u64 0], some [(0, 1), (1, 1)], 0)), (19, ([.pointer none], some [(0, 1)], 0)), (40, ([.int .i64 0, .int .i64 0, .int .i64 0, .int .i64 0], some [(0, 1), (1, 1), (2, 1), (3, 1)], 0)), (41, ([.int .i64 0, .int .i64 0, .int .i64 0, .int .i64 0], some [(0, 1), (1, 1), (2, 1), (3, 1)], 0)), (42, ([.int .i64 0, .int .i64 0, .int .i64 0, .int .i64 0], none, 1)), (55, ([.slice none 0 0, .int .i64 0], some [(0, 1), (1, 1)], 0)), (56, ([.slice none 0 0, .int .i64 0], some [(0, 1), (1, 1)], 0)), (67, ([.string ByteArray.empty, .int .i64 0, .int .i64 0, .int .i64 0], some [(0, 1), (1, 1), (2, 1), (3, 1)], 0)), (68, ([.string ByteArray.empty, .int .i64 0, .int .i64 0, .int .i64 0], some [(0, 1), (1, 1), (2, 1), (3, 1)], 0)), (72, ([.string ByteArray.empty, .int .i64 0, .int .i64 0, .int .i64 0, .string ByteArray.empty, .int .i64 0, .int .i64 0, .int .i64 0, .string ByteArray.empty, .int .i64 0, .int .i64 0, .int .i64 0, .string ByteArray.empty, .int .i64 0, .int .i64 0, .int .i64 0, .string ByteArray.empty, .int .i64 0, .int .i64 0, .int .i64 0], none, 4)), (74, ([.int .i64 0, .int .i64 0, .int .i64 0], none, 1))]⟩
theorem T0ok : TabOk Try.prog T0 :=
  ⟨(allC (by kernel_rfl) (allC (by kernel_rfl) (allC (by kernel_rfl) (allC (by kernel_rfl) (allC (by kernel_rfl) (allC (by kernel_rfl) (allC (by kernel_rfl) (allC (by kernel_rfl) (allC (by kernel_rfl) (allC (by kernel_rfl) (allC (by kernel_rfl) (allC (by kernel_rfl) (allC (by kernel_rfl) (allC (by kernel_rfl) (allC (by kernel_rfl) (allC (by kernel_rfl) (allC (by kernel_rfl) (allC (by kernel_rfl) (allC (by kernel_rfl) (allC (by kernel_rfl) (allC (by kernel_rfl) (allC (by kernel_rfl) (allC (by kernel_rfl) (allC (by kernel_rfl) (allC (by kernel_rfl) (allC (by kernel_rfl) (allC (by kernel_rfl) (allC (by kernel_rfl) allN)))))))))))))))))))))))))))),
   (allC ⟨by kernel_rfl, by decide⟩ (allC ⟨by kernel_rfl, by decide⟩ (allC ⟨by kernel_rfl, by decide⟩ (allC ⟨by kernel_rfl, by decide⟩ (allC ⟨by kernel_rfl, by decide⟩ (allC ⟨by kernel_rfl, by decide⟩ (allC ⟨by kernel_rfl, by decide⟩ (allC ⟨by kernel_rfl, by decide⟩ (allC ⟨by kernel_rfl, by decide⟩ (allC ⟨by kernel_rfl, by decide⟩ (allC ⟨by kernel_rfl, by decide⟩ (allC ⟨by kernel_rfl, by decide⟩ (allC ⟨by kernel_rfl, by decide⟩ (allC ⟨by kernel_rfl, by decide⟩ (allC ⟨by kernel_rfl, by decide⟩ (allC ⟨by kernel_rfl, by decide⟩ (allC ⟨by kernel_rfl, by decide⟩ (allC ⟨by kernel_rfl, by decide⟩ (allC ⟨by kernel_rfl, by decide⟩ (allC ⟨by kernel_rfl, by decide⟩ (allC ⟨by kernel_rfl, by decide⟩ (allC ⟨by kernel_rfl, by decide⟩ (allC ⟨by kernel_rfl, by decide⟩ allN))))))))))))))))))))))),
   (allC ⟨by kernel_rfl, by decide⟩ (allC ⟨by kernel_rfl, by decide⟩ (allC ⟨by kernel_rfl, by decide⟩ (allC ⟨by kernel_rfl, by decide⟩ (allC ⟨by kernel_rfl, by decide⟩ (allC ⟨by kernel_rfl, by decide⟩ (allC ⟨by kernel_rfl, by decide⟩ (allC ⟨by kernel_rfl, by decide⟩ (allC ⟨by kernel_rfl, by decide⟩ allN))))))))),
   (allC ⟨by kernel_rfl, rfl⟩ (allC ⟨by kernel_rfl, rfl⟩ (allC ⟨by kernel_rfl, rfl⟩ (allC ⟨by kernel_rfl, rfl⟩ (allC ⟨by kernel_rfl, rfl⟩ (allC ⟨by kernel_rfl, rfl⟩ (allC ⟨by kernel_rfl, rfl⟩ (allC ⟨by kernel_rfl, rfl⟩ (allC ⟨by kernel_rfl, rfl⟩ (allC ⟨by kernel_rfl, rfl⟩ (allC ⟨by kernel_rfl, rfl⟩ (allC ⟨by kernel_rfl, rfl⟩ (allC ⟨by kernel_rfl, rfl⟩ (allC ⟨by kernel_rfl, rfl⟩ (allC ⟨by kernel_rfl, rfl⟩ (allC ⟨by kernel_rfl, rfl⟩ (allC ⟨by kernel_rfl, rfl⟩ (allC ⟨by kernel_rfl, rfl⟩ (allC ⟨by kernel_rfl, rfl⟩ (allC ⟨by kernel_rfl, rfl⟩ (allC ⟨by kernel_rfl, rfl⟩ (allC ⟨by kernel_rfl, rfl⟩ (allC ⟨by kernel_rfl, rfl⟩ (allC ⟨by kernel_rfl, rfl⟩ (allC ⟨by kernel_rfl, rfl⟩ (allC ⟨by kernel_rfl, rfl⟩ (allC ⟨by kernel_rfl, rfl⟩ allN))))))))))))))))))))))))))),
   (allC ⟨by kernel_rfl, rfl⟩ (allC ⟨by kernel_rfl, rfl⟩ (allC ⟨by kernel_rfl, rfl⟩ (allC ⟨by kernel_rfl, rfl⟩ (allC ⟨by kernel_rfl, rfl⟩ (allC ⟨by kernel_rfl, rfl⟩ (allC ⟨by kernel_rfl, rfl⟩ (allC ⟨by kernel_rfl, rfl⟩ (allC ⟨by kernel_rfl, rfl⟩ (allC ⟨by kernel_rfl, rfl⟩ (allC ⟨by kernel_rfl, rfl⟩ allN)))))))))))⟩
theorem mixed : Try.prog.follows .mixedOrders = true := by kernel_rfl
end Go.Proofs.Ytfbcblknahicdaa
namespace Go.Proofs.Ytfbcblknahicdaa
set_option linter.unusedVariables false
set_option linter.unusedSimpArgs false
set_option maxRecDepth 20000
open Go.RowKit
attribute [local irreducible] runA runX AW
theorem kM {f : FuncId} {fn : Func} {aa : List AV} {es : List Ent} {out : AV} {news es' : List Ent} (hf : Try.prog.funcs[f]? = some fn) (hs : fn.body.isSome = true)
    (h : (∀ a ∈ aa, a.fit) → (∀ e ∈ es, e.fit) → AW Try.prog fn.ntmps (fn.body.get hs) (retK T0 fn.results out news es') ⟨argsE aa, Gin es⟩) (hn : (fn.name == "runtime.NumGoroutine") = false := by rfl) (hl : Nat.ble aa.length fn.ntmps = true := by rfl) (hes : es'.length = es.length := by rfl) : Kon Try.prog f aa es out news es' :=
  kon_mk T0ok hf (Option.some_get hs).symm hn hl hes h
theorem nxA {H G : Prop} (k : H) (h : Hid H → G := by (intro hh; (first | refine r_none ?_ | refine r_gt (by rfl) (by rfl) zDD (by rfl) ?_ | refine r_gf (by rfl) (by rfl) zDD (by rfl) ?_); exact hh.out)) : G := h ⟨k⟩
theorem swA {H G : Prop} (k : H) (h : Hid H → G := by (intro hh; (first | refine r_nt (by rfl) (by rfl) zDD (by rfl) ?_ | refine r_nf (by rfl) (by rfl) zDD (by rfl) ?_ | refine r_gu (by rfl) (by rfl) (by rfl) ?_ | refine r_nil ?_); exact hh.out)) : G := h ⟨k⟩
theorem awA {H G : Prop} (k : H) (h : Hid H → G := by (intro hh; (first | refine aw_seq ?_ | refine aw_ct (by rfl) zDD ?_ | refine aw_cf (by rfl) zDD ?_ | refine aw_block ?_ | refine aw_region T0ok cfU_ok (by rfl) ?_ | refine aw_skip ?_ | refine aw_exit ?_ | refine ra_step ?_); exact hh.out)) : G := h ⟨k⟩
theorem ga0A {H G : Prop} (k : H) (h : Hid H → G := by (intro hh; (first | refine r_none ?_ | refine r_gt (by rfl) (by rfl) zDD (by rfl) ?_ | refine r_gf (by rfl) (by rfl) zDD (by rfl) ?_); refine z_op (by rfl) ?_; refine z_alV ?_ hh.out; focus (first | exact trivial | fail | exact zQZ))) : G := h ⟨k⟩
theorem ga1A {H G : Prop} (k : H) (h : Hid H → G := by (intro hh; (first | refine r_none ?_ | refine r_gt (by rfl) (by rfl) zDD (by rfl) ?_ | refine r_gf (by rfl) (by rfl) zDD (by rfl) ?_); refine z_op (by rfl) ?_; refine z_al ?_ hh.out; focus (first | exact trivial | fail | exact zQZ))) : G := h ⟨k⟩
theorem gcA {H G : Prop} (k : H) (h : Hid H → G := by (intro hh; repeat1' (first | refine aw_seq ?_ | refine aw_ct (by rfl) zDD ?_ | refine aw_cf (by rfl) zDD ?_ | refine aw_block ?_ | refine aw_region T0ok cfU_ok (by rfl) ?_ | refine aw_skip ?_ | refine aw_exit ?_ | refine ra_step ?_); exact hh.out)) : G := h ⟨k⟩
theorem gdA {H G : Prop} (k : H) (h : Hid H → G := by (intro hh; (refine aw_draw mixed T0ok cfU_ok [] (by rfl) (by kernel_rfl) ?_); exact hh.out)) : G := h ⟨k⟩
theorem rtA {H G : Prop} (k : H) (h : Hid H → G := by (intro hh; (try refine aw_ret ?_); refine ret_auto2 (by rfl) (by rfl) (by rfl) zHQ hh.out zHN zHN)) : G := h ⟨k⟩
theorem gq_ZA {H G : Prop} (k : H) (h : Hid H → G := by (intro hh; repeat1' (first | (first | (refine nxA ?_; (first | fail | ((first | (refine z_op (by rfl) ?_; first | refine z_ok ?_ ?_ | refine z_ex ?_ (by first | exact zL1 | ((first | refine mk_0 Int rfl rfl ?_ | refine mk_c Int rfl rfl rfl ?_ | refine mk_c Bool rfl rfl rfl ?_); exact zWW) | exact zL2 | exact rw_c Int rfl | exact rw_c Bool rfl | exact zL3 | fail) ?_) | ((first | refine q_callE wsT wsZ (by rfl) ?_ | refine q_callVE wsT (by rfl) (by rfl) ?_); refine ⟨_, _, _, (by first | exact k_within _ _ _ | exact k_l1In _ _ _ | exact k_okL _ | exact k_wv _ _ | assumption), _, by rfl, ?_, ?_⟩)); focus (first | exact trivial | fail | exact zQZ)) | fail)) | refine swA ?_) | refine awA ?_); exact hh.out)) : G := h ⟨k⟩
def wsT : WsT := [
  (14, ([0], true)),
  (15, ([0], true)),
  (35, ([0], true)),
  (42, ([0], true)),
  (36, ([0], true)),
  (23, ([0], true)),
  (13, ([], true)),
  (999999, ([], false))]
def wsZ : List (Nat × Nat) := [
  (999999, 0)]
def btw (n a b : Int) : Bool := decide (n ≥ a) && decide (n ≤ b)
theorem btw_t {n a b : Int} (h : btw n a b = true) : a ≤ n ∧ n ≤ b := by simpa [btw] using h
theorem btw_f {n a b : Int} (h : btw n a b = false) : ¬ (a ≤ n ∧ n ≤ b) := by intro ⟨h1, h2⟩; simp [btw, h1, h2] at h
theorem k_within (n a b : Int) : Kon Try.prog 31 [vI n, vI a, vI b] [] (vB (btw n a b)) [] [] := by
  (refine kM Try.func31 rfl ?_; intro hfit hfe)
  unfold btw
  cases h1 : decide (n ≥ a)
  all_goals ((repeat (first | refine gq_ZA ?_ | (refine ga1A ?_; intro _q ⟨_he, _hq⟩))); (refine rtA ?_; try rfl))
theorem k_l1In (n a b : Int) : Kon Try.prog 25 [vI n, vI a, vI b] [] (vB (btw n a b)) [] [] := by
  (refine kM Try.func25 rfl ?_; intro hfit hfe)
  unfold btw
  cases h1 : decide (n ≥ a)
  all_goals ((repeat (first | refine gq_ZA ?_ | (refine ga1A ?_; intro _q ⟨_he, _hq⟩))); (refine rtA ?_; try rfl))
theorem k_okL (n : Int) : Kon Try.prog 30 [vI n] [] (vB (btw n 1 8)) [] [] := by
  (refine kM Try.func30 rfl ?_; intro hfit hfe)
  (repeat (first | refine gq_ZA ?_ | (refine ga1A ?_; intro _q ⟨_he, _hq⟩)))
  (refine rtA ?_; try rfl)
abbrev rdE (l : List UInt8) (c : Int) : Ent := .box [roC l, .v (.int .i64 c)]
abbrev p0 : AV := .g (.one (.ptr 100000 0 0))
def byI (l : List UInt8) (i : Int) : Int := (l.getD i.toNat 0).toNat
def pickW (l : List UInt8) (c : Int) : Int := byI l (c % l.length) * 131 + byI l ((c * 7 + 3) % l.length) * 1117 + c * 29 + c / l.length * 53
def pickI (l : List UInt8) (c n : Int) : Int :=
  if n < 1 ∨ l.length = 0 then 0 else if c < l.length then byI l c % n else (((pickW l c).toNat ^^^ (pickW l c / 64).toNat : Nat) : Int) % n
theorem pickI_lt {l : List UInt8} {c n : Int} (h : 1 ≤ n) : 0 ≤ pickI l c n ∧ pickI l c n < n := by
  unfold pickI
  split
  · omega
  · split <;> exact ⟨Int.emod_nonneg _ (by omega), Int.emod_lt_of_pos _ (by omega)⟩
theorem k_pick (l : List UInt8) (c n : Int) (h : 0 ≤ c ∧ c ≤ 1000000 ∧ l.length ≤ 2000) : Kon Try.prog 14 [p0, vI n] [rdE l c] (vI (pickI l c n)) [] [rdE l (c + 1)] := by
  (refine kM Try.func14 rfl ?_; intro hfit hfe)
  have e1 : c + 1 - 1 = c := by omega
  unfold pickI
  cases h3 : decide (n < 1) with
  | true => rw [if_pos (.inl (of_decide_eq_true h3))]; (repeat (first | refine gq_ZA ?_ | (refine ga1A ?_; intro _q ⟨_he, _hq⟩))); (refine rtA ?_; try rfl)
  | false =>
    have h3' := of_decide_eq_false h3
    cases h4 : ((l.length : Int) == 0) with
    | true => rw [if_pos (.inr (by simpa using h4))]; (repeat (first | refine gq_ZA ?_ | (refine ga1A ?_; intro _q ⟨_he, _hq⟩))); (refine rtA ?_; try rfl)
    | false =>
      have h4' : ¬ l.length = 0 := by simpa using h4
      rw [if_neg (by omega)]
      cases h5 : decide (c + 1 - 1 < (l.length : Int)) with
      | true =>
        have h5' := of_decide_eq_true h5
        rw [if_pos (by omega)]
        (repeat (first | refine gq_ZA ?_ | (refine ga1A ?_; intro _q ⟨_he, _hq⟩)))
        (subst_vars; (refine rtA ?_; try rfl))
        rw [e1]; rfl
      | false =>
        rw [if_neg (by simpa using h5)]
        (repeat (first | refine gq_ZA ?_ | (refine ga1A ?_; intro _q ⟨_he, _hq⟩)))
        (refine aw_draw mixed T0ok cfU_ok [] (by rfl) (by kernel_rfl) ?_)
        (repeat (first | refine gq_ZA ?_ | (refine ga1A ?_; intro _q ⟨_he, _hq⟩)))
        (subst_vars; (refine rtA ?_; try rfl))
        rw [e1]; rfl
theorem k_odd (l : List UInt8) (c n : Int) (h : 0 ≤ c ∧ c ≤ 1000000 ∧ l.length ≤ 2000 ∧ 0 < n ∧ n ≤ 1000000) : Kon Try.prog 15 [p0, vI n] [rdE l c] (vB (pickI l c n == n - 1)) [] [rdE l (c + 1)] := by
  (refine kM Try.func15 rfl ?_; intro hfit hfe)
  have hp := pickI_lt (l := l) (c := c) (n := n) (by omega)
  have h3 : decide (n > 0) = true := by simp; omega
  have hK := k_pick l c n ⟨h.1, h.2.1, h.2.2.1⟩
  (repeat (first | refine gq_ZA ?_ | (refine ga1A ?_; intro _q ⟨_he, _hq⟩)))
  (refine rtA ?_; try rfl)
theorem k_open (l : List UInt8) (h : l.length ≤ 100000000) : Kon Try.prog 13 [roA l] [] (.g (.one (.ptr 0 0 0))) [rdE (l.take 2000) 0] [] := by
  (refine kM Try.func13 rfl ?_; intro hfit hfe)
  cases h1 : decide ((l.length : Int) > 2000) with
  | true =>
    have h1' := of_decide_eq_true h1
    (repeat (first | refine gq_ZA ?_ | (refine ga1A ?_; intro _q ⟨_he, _hq⟩)))
    (refine rtA ?_; try rfl)
  | false =>
    have e : l.take 2000 = l := List.take_of_length_le (by have := of_decide_eq_false h1; omega)
    rw [e]
    (repeat (first | refine gq_ZA ?_ | (refine ga1A ?_; intro _q ⟨_he, _hq⟩)))
    (refine rtA ?_; try rfl)
theorem ex_pick (l : List UInt8) (c n : Int) (h : 0 ≤ c ∧ c ≤ 1000000 ∧ l.length ≤ 2000) : ∃ v : Int, (n < 1 → v = 0) ∧ (1 ≤ n → 0 ≤ v ∧ v < n) ∧ Kon Try.prog 14 [p0, vI n] [rdE l c] (vI v) [] [rdE l (c + 1)] :=
  ⟨pickI l c n, fun h => by unfold pickI; rw [if_pos (.inl h)], pickI_lt, k_pick l c n h⟩
theorem ex_odd (l : List UInt8) (c n : Int) (h : 0 ≤ c ∧ c ≤ 1000000 ∧ l.length ≤ 2000 ∧ 0 < n ∧ n ≤ 1000000) : ∃ v : Bool, Kon Try.prog 15 [p0, vI n] [rdE l c] (vB v) [] [rdE l (c + 1)] := ⟨_, k_odd l c n h⟩
def wvB (n w : Int) : Bool := btw n 1 8 && btw w 0 (2 ^ n.toNat - 1)
theorem k_wv (n w : Int) : Kon Try.prog 28 [vI n, vI w] [] (vB (wvB n w)) [] [] := by
  (refine kM Try.func28 rfl ?_; intro hfit hfe)
  unfold wvB
  cases h1 : btw n 1 8 with
  | false => (repeat (first | refine gq_ZA ?_ | (refine ga1A ?_; intro _q ⟨_he, _hq⟩))); (refine rtA ?_; try rfl)
  | true =>
    have h1' := btw_t h1
    (repeat (first | refine gq_ZA ?_ | (refine ga1A ?_; intro _q ⟨_he, _hq⟩)))
    (subst_vars; (refine rtA ?_; try rfl))
    rw [Int.one_mul]; rfl
theorem k_alive : Kon Try.prog 10 [] [] (vB true) [] [] := by
  (refine kM Try.func10 rfl ?_; intro hfit hfe)
  (repeat (first | refine gq_ZA ?_ | (refine ga1A ?_; intro _q ⟨_he, _hq⟩)))
  (refine rtA ?_; try rfl)
end Go.Proofs.Ytfbcblknahicdaa
namespace Go.Proofs.Ytfbcblknahicdaa
set_option linter.unusedVariables false
set_option linter.unusedSimpArgs false
open Go.RowKit
end Go.Proofs.Ytfbcblknahicdaa
namespace Go.Proofs.Ytfbcblknahicdaa
set_option linter.unusedVariables false
set_option linter.unusedSimpArgs false
inductive PS where
  | nil : PS
  | one (l : Gt) (t : PS) : PS
  | rep (l e : Gt) (p t : PS) : PS
  | iff (l m e : Gt) (p q t : PS) : PS
def wf : PS → Prop
  | .nil => True
  | .one l t => (0 ≤ l.k ∧ l.k ≤ 3) ∧ wf t
  | .rep l e p t => (l.k = 4 ∧ e.k = 5) ∧ wf p ∧ wf t
  | .iff l m e p q t => (l.k = 6 ∧ m.k = 7 ∧ e.k = 8) ∧ wf p ∧ wf q ∧ wf t
def app : PS → PS → PS
  | .nil, b => b
  | .one l t, b => .one l (app t b)
  | .rep l e p t, b => .rep l e p (app t b)
  | .iff l m e p q t, b => .iff l m e p q (app t b)
def cl (k e : Int) : Prop := (k = 4 ∧ e = 5) ∨ (k = 6 ∧ e = 7) ∨ (k = 7 ∧ e = 8)

abbrev RS := List Int × Nat
def rg (r : List Int) (i : Int) : Int := r.getD i.toNat 0
def do1 (l : Gt) (r : List Int) : List Int :=
  if l.k = 0 then r.set l.a.toNat ((rg r l.a + rg r l.b) % 64)
  else if l.k = 1 then r.set l.a.toNat ((rg r l.a + 64 - rg r l.b) % 64)
  else if l.k = 2 then r.set l.a.toNat ((rg r l.a + l.c) % 64)
  else if l.k = 3 then (r.set l.a.toNat (rg r l.b)).set l.b.toNat (rg r l.a)
  else r
def itO {α : Type} (f : α → Option α) : Nat → α → Option α
  | 0, x => some x
  | n + 1, x => (f x).bind (itO f n)
def rs : PS → RS → Option RS
  | .nil, x => some x
  | .one l t, x => rs t (do1 l x.1, x.2 + 1)
  | .rep l e p t, x => (itO (rs p) l.c.toNat x).bind (rs t)
  | .iff l m e p q t, x => (if (rg x.1 l.a == l.c) = true then rs p x else rs q x).bind fun y => if ((rg y.1 e.a == e.c) == (rg x.1 l.a == l.c)) = true then none else rs t y
def lb (l : Gt) : Gt :=
  if l.k = 0 then ⟨1, l.a, l.b, l.c⟩ else if l.k = 1 then ⟨0, l.a, l.b, l.c⟩ else if l.k = 2 then ⟨2, l.a, l.b, (64 - l.c) % 64⟩
  else if l.k = 6 then ⟨8, l.a, l.b, l.c⟩ else if l.k = 8 then ⟨6, l.a, l.b, l.c⟩ else if l.k = 5 then ⟨4, l.a, l.b, l.c⟩ else if l.k = 4 then ⟨5, 0, 0, 0⟩ else l
theorem four (i : Int) (h : 0 ≤ i ∧ i ≤ 3) : i = 0 ∨ i = 1 ∨ i = 2 ∨ i = 3 := by omega
def clo : List Gt → Nat → Nat
  | [], _ => 0
  | l :: r, d =>
    if l.k = 4 ∨ l.k = 6 then 1 + clo r (d + 1)
    else if l.k = 5 ∨ l.k = 8 then (if d = 0 then 0 else 1 + clo r (d - 1))
    else if l.k = 7 then (if d = 0 then 0 else 1 + clo r d)
    else 1 + clo r d
abbrev gz : Gt := ⟨0, 0, 0, 0⟩
def cls (P : List Gt) (j : Nat) : Nat := j + 1 + clo (P.drop (j + 1)) 0
def sbN (P : List Gt) (k : Nat) : Nat → Int
  | 0 => 0
  | j + 1 => if (P.getD j gz).k = 4 ∧ cls P j = k then (P.getD j gz).c else sbN P k j
def sb (P : List Gt) (k : Nat) : Gt := if (P.getD k gz).k = 5 then ⟨(lb (P.getD k gz)).k, (lb (P.getD k gz)).a, (lb (P.getD k gz)).b, sbN P k k⟩ else lb (P.getD k gz)
end Go.Proofs.Ytfbcblknahicdaa
namespace Go.Proofs.Ytfbcblknahicdaa
set_option linter.unusedVariables false
set_option linter.unusedSimpArgs false
open Go.RowKit
def pl : PS → Nat
  | .nil => 0
  | .one _ t => pl t + 1
  | .rep _ _ _ t => pl t + 1
  | .iff _ _ _ _ _ t => pl t + 1
abbrev lC (g : Gt) : List Value := [.int .i64 g.k, .int .i64 g.a, .int .i64 g.b, .int .i64 g.c]
abbrev vNil : Value := .slice none 0 0
def RC (w : World) (D : Nat → Prop) : PS → List Value → Prop
  | .nil, cs => cs = []
  | .one l t, cs => ∃ cs', cs = lC l ++ (vNil :: vNil :: (lC gz ++ cs')) ∧ RC w D t cs'
  | .rep l e p t, cs => ∃ A c ps cs', cs = lC l ++ (.slice A (pl p) c :: vNil :: (lC e ++ cs')) ∧ RC w D p ps ∧ (0 < pl p → ∃ b off, A = some ⟨b, off, none⟩ ∧ D b ∧ Cells w b off ps) ∧ RC w D t cs'
  | .iff l m e p q t, cs => ∃ A c ps A2 c2 qs cs', cs = lC l ++ (.slice A (pl p) c :: .slice A2 (pl q) c2 :: (lC e ++ cs')) ∧ (RC w D p ps ∧ (0 < pl p → ∃ b off, A = some ⟨b, off, none⟩ ∧ D b ∧ Cells w b off ps)) ∧ (RC w D q qs ∧ (0 < pl q → ∃ b off, A2 = some ⟨b, off, none⟩ ∧ D b ∧ Cells w b off qs)) ∧ RC w D t cs'
def TV (w : World) (D : Nat → Prop) (t : PS) (v : Value) : Prop := ∃ A c ps, v = .slice A (pl t) c ∧ RC w D t ps ∧ (0 < pl t → ∃ b off, A = some ⟨b, off, none⟩ ∧ D b ∧ Cells w b off ps)
theorem RC.keep {w w' : World} {D D' : Nat → Prop} (h : ∀ b, D b → D' b ∧ w'.heap[b]? = w.heap[b]?) : ∀ {t : PS} {cs : List Value}, RC w D t cs → RC w' D' t cs
  | .nil, cs, hr => hr
  | .one l t, cs, ⟨cs', e, hr⟩ => ⟨cs', e, RC.keep h hr⟩
  | .rep l e p t, cs, ⟨A, c, ps, cs', q, h1, h2, h3⟩ => ⟨A, c, ps, cs', q, RC.keep h h1, fun h0 => by
      obtain ⟨b, off, e1, e2, e3⟩ := h2 h0
      exact ⟨b, off, e1, (h b e2).1, e3.keep (h b e2).2⟩, RC.keep h h3⟩
  | .iff l m e p q t, cs, ⟨A, c, ps, A2, c2, qs, cs', qq, ⟨h1, h2⟩, ⟨h4, h5⟩, h3⟩ => ⟨A, c, ps, A2, c2, qs, cs', qq, ⟨RC.keep h h1, fun h0 => by
      obtain ⟨b, off, e1, e2, e3⟩ := h2 h0
      exact ⟨b, off, e1, (h b e2).1, e3.keep (h b e2).2⟩⟩, ⟨RC.keep h h4, fun h0 => by
      obtain ⟨b, off, e1, e2, e3⟩ := h5 h0
      exact ⟨b, off, e1, (h b e2).1, e3.keep (h b e2).2⟩⟩, RC.keep h h3⟩
theorem TV.keep {w w' : World} {D D' : Nat → Prop} (h : ∀ b, D b → D' b ∧ w'.heap[b]? = w.heap[b]?) {t : PS} {v : Value} : TV w D t v → TV w' D' t v
  | ⟨A, c, ps, e, h1, h2⟩ => ⟨A, c, ps, e, RC.keep h h1, fun h0 => by
      obtain ⟨b, off, e1, e2, e3⟩ := h2 h0
      exact ⟨b, off, e1, (h b e2).1, e3.keep (h b e2).2⟩⟩
theorem RC.len {w : World} {D : Nat → Prop} : ∀ {t : PS} {cs : List Value}, RC w D t cs → cs.length = pl t * 10
  | .nil, cs, hr => by rw [show cs = [] from hr]; rfl
  | .one l t, cs, ⟨cs', e, hr⟩ => by
    have := RC.len hr
    rw [e, pl]; simp; omega
  | .rep l e p t, cs, ⟨A, c, ps, cs', q, h1, h2, h3⟩ => by
    have := RC.len h3
    rw [q, pl]; simp; omega
  | .iff l m e p q t, cs, ⟨A, c, ps, A2, c2, qs, cs', qq, ⟨h1, h2⟩, ⟨h4, h5⟩, h3⟩ => by
    have := RC.len h3
    rw [qq, pl]; simp; omega
theorem RC.app {w : World} {D : Nat → Prop} {b : PS} {ys : List Value} (hb : RC w D b ys) : ∀ {a : PS} {xs : List Value}, RC w D a xs → RC w D (app a b) (xs ++ ys)
  | .nil, xs, hr => by rw [show xs = [] from hr]; exact hb
  | .one l t, xs, ⟨cs', e, hr⟩ => ⟨cs' ++ ys, by rw [e]; simp, RC.app hb hr⟩
  | .rep l e p t, xs, ⟨A, c, ps, cs', q, h1, h2, h3⟩ => ⟨A, c, ps, cs' ++ ys, by rw [q]; simp, h1, h2, RC.app hb h3⟩
  | .iff l m e p q t, xs, ⟨A, c, ps, A2, c2, qs, cs', qq, h1, h2, h3⟩ => ⟨A, c, ps, A2, c2, qs, cs' ++ ys, by rw [qq]; simp, h1, h2, RC.app hb h3⟩
structure Oth (p : Nat) (w w' : World) : Prop where
  os : w'.os = w.os
  tape : w'.tape = w.tape
  output : w'.output = w.output
  size : w.heap.size ≤ w'.heap.size
  block : ∀ k, k < w.heap.size → k ≠ p → w'.heap[k]? = w.heap[k]?
section
variable {p : Nat} {a w w' : World}
theorem Oth.refl (p : Nat) (w : World) : Oth p w w := ⟨rfl, rfl, rfl, Nat.le_refl _, fun _ _ _ => rfl⟩
theorem Oth.trans (h : Oth p a w) (k : Oth p w w') : Oth p a w' := ⟨k.os.trans h.os, k.tape.trans h.tape, k.output.trans h.output, Nat.le_trans h.size k.size, fun i hi hp => (k.block i (Nat.lt_of_lt_of_le hi h.size) hp).trans (h.block i hi hp)⟩
theorem Oth.setCell (h : Oth p a w) {q : Addr} (hq : q.block = p) (u : Value) : Oth p a (w.setCell q u) :=
  ⟨h.os, h.tape, h.output, Nat.le_trans h.size (by simp [World.setCell]), fun k hk hp => (Below.heap_setCell w q u k (by rw [hq]; exact hp)).trans (h.block k hk hp)⟩
theorem Oth.alloc (h : Oth p a w) (o : Obj) : Oth p a (w.alloc o) :=
  ⟨h.os, h.tape, h.output, Nat.le_trans h.size (by simp), fun k hk hp => (Below.heap_alloc w o k (Nat.lt_of_lt_of_le hk h.size)).trans (h.block k hk hp)⟩
theorem Oth.drew (h : Oth p a w) : Oth p a w.drew := ⟨h.os, h.tape, h.output, h.size, h.block⟩
theorem Oth.below {B : Nat} (h : Oth p w w') (hB : B ≤ w.heap.size) (hp : B ≤ p) : Below B w w' := ⟨h.os, h.tape, h.output, h.size, fun k hk => h.block k (by omega) (by omega)⟩
end
def LnC (w : World) (lb : Nat) (Ls : List Gt) : Prop := ∀ j, j < Ls.length → w.cell? ⟨lb, j * 4, none⟩ = some (.int .i64 (Ls.getD j gz).k) ∧ w.cell? ⟨lb, j * 4 + 1, none⟩ = some (.int .i64 (Ls.getD j gz).a) ∧ w.cell? ⟨lb, j * 4 + 2, none⟩ = some (.int .i64 (Ls.getD j gz).b) ∧ w.cell? ⟨lb, j * 4 + 3, none⟩ = some (.int .i64 (Ls.getD j gz).c)
theorem LnC.keep {w w' : World} {lb : Nat} {Ls : List Gt} (h : LnC w lb Ls) (hk : w'.heap[lb]? = w.heap[lb]?) : LnC w' lb Ls := fun j hj => by
  obtain ⟨h1, h2, h3, h4⟩ := h j hj
  exact ⟨(World.cell?_of_block (a := ⟨lb, j * 4, none⟩) hk).trans h1, (World.cell?_of_block (a := ⟨lb, j * 4 + 1, none⟩) hk).trans h2, (World.cell?_of_block (a := ⟨lb, j * 4 + 2, none⟩) hk).trans h3, (World.cell?_of_block (a := ⟨lb, j * 4 + 3, none⟩) hk).trans h4⟩
structure Pts (w : World) (B : Nat) (e : TypeId) (t : PS) (v : Value) (cs : List Value) : Prop where
  own : w.ownsRow B e 10 v (pl t) cs
  rc : RC w (fun b => B ≤ b ∧ b < w.heap.size ∧ v.ownBlock ≠ some b) t cs
theorem own_lt {w : World} {B : Nat} {e : TypeId} {n sz : Nat} {v : Value} {xs : List Value} (h : w.ownsRow B e sz v n xs) {g : Nat} (hg : v.ownBlock = some g) : B ≤ g ∧ g < w.heap.size := by
  rcases h.2 with ⟨rfl, _⟩ | ⟨g', cap, cur, rfl, h1, h2, _⟩
  · cases hg
  · cases hg; exact ⟨h1, (Array.getElem?_eq_some_iff.1 h2).1⟩
theorem Pts.nil (w : World) (e : TypeId) {B : Nat} (hB : B ≤ w.heap.size) : Pts (w.alloc (.cells #[] e)) B e .nil (.slice (some ⟨w.heap.size, 0, none⟩) 0 0) [] :=
  ⟨by exact World.ownsRow_made w #[] 0 hB (Nat.zero_le _) (by simp), rfl⟩
theorem Pts.snoc {w w0 w' : World} {B : Nat} {e : TypeId} {t u : PS} {v v' : Value} {cs us : List Value} (h : Pts w B e t v cs) (hu : RC w0 (fun b => w.heap.size ≤ b ∧ b < w0.heap.size) u us)
    (hk : ∀ k, B ≤ k → k < w.heap.size → w0.heap[k]? = w.heap[k]?) (hs : w.heap.size ≤ w0.heap.size) (hB : B ≤ w.heap.size)
    (hown : w'.ownsRow B e 10 v' (pl (app t u)) (cs ++ us)) (hg : w0.grownBy w' v.ownBlock) (hat : v'.ownBlock = v.ownBlock ∨ v'.ownBlock = some w0.heap.size) : Pts w' B e (app t u) v' (cs ++ us) := by
  have key : ∀ b, v'.ownBlock = some b → v.ownBlock = some b ∨ b = w0.heap.size := fun b hb => by
    rcases hat with hat | hat
    · exact .inl (hat ▸ hb)
    · rw [hat] at hb; cases hb; exact .inr rfl
  have hgs := hg.size
  refine ⟨hown, RC.app (hu.keep fun b hb => ?_) (h.rc.keep fun b hb => ?_)⟩
  · have hvb : v.ownBlock ≠ some b := fun hv => by have := own_lt h.own hv; omega
    refine ⟨⟨by omega, by omega, fun hv => ?_⟩, hg.block b hb.2 (fun e => hvb e.symm)⟩
    rcases key b hv with h1 | h1
    · exact hvb h1
    · omega
  · refine ⟨⟨hb.1, by omega, fun hv => ?_⟩, (hg.block b (by omega) (fun e => hb.2.2 e.symm)).trans (hk b hb.1 hb.2.1)⟩
    rcases key b hv with h1 | h1
    · exact hb.2.2 h1
    · omega
structure QRow (w : World) (B : Nat) (e : TypeId) (sz : Nat) (g : Nat) (v : Value) (n : Nat) (xs : List Value) : Prop where
  len : xs.length = n * sz
  base : B ≤ g
  ex : ∃ off cap cur, v = .slice (some ⟨g, off, none⟩) n cap ∧ w.heap[g]? = some (.cells cur e (0, 0)) ∧ n ≤ cap ∧ cap ≤ maxLen ∧ off + cap * sz ≤ cur.size ∧ ∀ j u, xs[j]? = some u → cur[off + j]? = some u
section
variable {w w' : World} {B : Nat} {e : TypeId} {sz g n : Nat} {v : Value} {xs : List Value}
theorem QRow.lt (h : QRow w B e sz g v n xs) : g < w.heap.size := by
  obtain ⟨off, cap, cur, _, hh, _⟩ := h.ex
  exact (Array.getElem?_eq_some_iff.1 hh).1
theorem QRow.keep (h : QRow w B e sz g v n xs) (hk : w'.heap[g]? = w.heap[g]?) : QRow w' B e sz g v n xs := by
  obtain ⟨off, cap, cur, h1, h2, h3⟩ := h.ex
  exact ⟨h.len, h.base, off, cap, cur, h1, hk.trans h2, h3⟩
theorem QRow.cell (h : QRow w B e sz g v n xs) : ∃ off cap, v = .slice (some ⟨g, off, none⟩) n cap ∧ n ≤ cap ∧ cap ≤ maxLen ∧ ∀ j u, xs[j]? = some u → w.cell? ⟨g, off + j, none⟩ = some u := by
  obtain ⟨off, cap, cur, h1, h2, h3, h4, h5, h6⟩ := h.ex
  exact ⟨off, cap, h1, h3, h4, fun j u hj => by simp [World.cell?, h2, h6 j u hj]⟩
theorem QRow.tail (h : QRow w B e sz g v (n + 1) xs) : ∃ off cap, v = .slice (some ⟨g, off, none⟩) (n + 1) cap ∧ n + 1 ≤ cap ∧ QRow w B e sz g (.slice (some ⟨g, off + sz, none⟩) n (cap - 1)) n (xs.drop sz) := by
  obtain ⟨off, cap, cur, h1, h2, h3, h4, h5, h6⟩ := h.ex
  refine ⟨off, cap, h1, h3, ?_, h.base, off + sz, cap - 1, cur, rfl, h2, by omega, by omega, ?_, fun j u hj => ?_⟩
  · rw [List.length_drop, h.len, Nat.succ_mul]; omega
  · obtain ⟨c, rfl⟩ : ∃ c, cap = c + 1 := ⟨cap - 1, by omega⟩
    rw [Nat.succ_mul] at h5
    rw [Nat.add_sub_cancel]; omega
  · rw [List.getElem?_drop] at hj
    rw [Nat.add_assoc]; exact h6 _ u hj
theorem QRow.new (w : World) (hB : B ≤ w.heap.size) (cs : Array Value) (n : Nat) (hc : cs.size = n * sz) (hn : n ≤ maxLen) : QRow (w.alloc (.cells cs e)) B e sz w.heap.size (.slice (some ⟨w.heap.size, 0, none⟩) n n) n cs.toList :=
  ⟨by rw [Array.length_toList, hc], hB, 0, n, cs, rfl, heap_alloc_new w _, Nat.le_refl _, hn, by omega, fun j u hj => by rw [Nat.zero_add]; simpa using hj⟩
theorem setCells_blk {b : Nat} : ∀ (vs : List Value) (o : Nat) (w : World) (cur : Array Value), w.heap[b]? = some (.cells cur e (0, 0)) → o + vs.length ≤ cur.size →
    Oth b w (w.setCells b o vs) ∧ (w.setCells b o vs).heap.size = w.heap.size ∧ ∃ cur', (w.setCells b o vs).heap[b]? = some (.cells cur' e (0, 0)) ∧ cur'.size = cur.size ∧ (∀ j, j < o → cur'[j]? = cur[j]?) ∧ ∀ j u, vs[j]? = some u → cur'[o + j]? = some u
  | [], o, w, cur, h, hl => ⟨Oth.refl _ _, rfl, cur, h, rfl, fun _ _ => rfl, fun j u hj => by simp at hj⟩
  | x :: r, o, w, cur, h, hl => by
    rw [List.length_cons] at hl
    have h1 : (w.setCell ⟨b, o, none⟩ x).heap[b]? = some (.cells (cur.setIfInBounds o x) e (0, 0)) := by simp [World.setCell, Array.getElem?_modify, h]
    obtain ⟨k1, k2, cur', k3, k4, k5, k6⟩ := setCells_blk r (o + 1) (w.setCell ⟨b, o, none⟩ x) _ h1 (by rw [Array.size_setIfInBounds]; omega)
    rw [Array.size_setIfInBounds] at k4
    refine ⟨((Oth.refl b w).setCell rfl x).trans k1, by rw [World.setCells, k2]; simp [World.setCell], cur', k3, k4, fun j hj => ?_, fun j u hj => ?_⟩
    · rw [k5 j (by omega), Array.getElem?_setIfInBounds_ne (by omega)]
    · rcases j with _ | j
      · have hx : x = u := by simpa using hj
        subst hx
        rw [Nat.add_zero, k5 o (by omega), Array.getElem?_setIfInBounds_self_of_lt (by omega)]
      · rw [List.getElem?_cons_succ] at hj
        have := k6 j u hj
        rw [show o + (j + 1) = o + 1 + j by omega]; exact this
theorem QRow.append {P : Program} (t ty : TypeId) (i : TypeInfo) (z : Value) (bytes : Nat) (ht : P.underlying t = some (.slice e)) (hi : P.info? e = some i) (hz : i.zero = some z) (hsize : i.size = sz) (hby : i.bytes = bytes) (hzs : z.cells.size = sz) (hsz : 0 < sz)
    (h : QRow w B e sz g v n xs) (hB : B ≤ w.heap.size) (a : Addr) (c : Nat) (news : List Value) (hl : news.length = 1 * sz) (hnews : ∀ j u, news[j]? = some u → w.cell? (a.add j) = some u) (h1 : ∀ u ∈ news, u.oneCell' = true)
    (h63 : n + 1 ≤ maxLen) (hbytes : (n + 1) * bytes ≤ 140737488355328) :
    ∃ v' w' g', (Builtin.append_ #[t, t] ty #[v, .slice (some a) 1 c]).run P w = .ok v' w' ∧ QRow w' B e sz g' v' (n + 1) (xs ++ news) ∧ Oth g w w' ∧ (g' = g ∨ w.heap.size ≤ g') := by
  subst hsize
  subst hby
  obtain ⟨off, cap, cur, rfl, h2, h3, h4, h5, h6⟩ := h.ex
  have hlen : (xs ++ news).length = (n + 1) * i.size := by rw [List.length_append, h.len, hl, Nat.add_mul]
  by_cases hroom : n + 1 ≤ cap
  · have hfit : off + n * i.size + news.length ≤ cur.size := by
      have : (n + 1) * i.size ≤ cap * i.size := Nat.mul_le_mul_right _ hroom
      rw [Nat.add_mul] at this
      omega
    have hc : ∀ j, j < news.length → (w.cell? ⟨g, off + n * i.size + j, none⟩).isSome = true := fun j hj => by
      have : off + n * i.size + j < cur.size := by omega
      simp [World.cell?, h2, this]
    have hf : ∀ j, j < news.length → w.frozen? ⟨g, off + n * i.size + j, none⟩ = false := fun j hj => by simp [World.frozen?, h2]
    have hr := run_append_room_src (P := P) w t t ty e i ht hi g off n cap (.slice (some a) 1 c) 1 news (Src.ofSlice w ht a 1 c news hl hnews h1) hroom hc hf
    obtain ⟨k1, k2, cur', k3, k4, k5, k6⟩ := setCells_blk news (off + n * i.size) w cur h2 hfit
    refine ⟨_, _, g, hr, ⟨hlen, h.base, off, cap, cur', rfl, k3, hroom, h4, by rw [k4]; exact h5, fun j u hj => ?_⟩, k1, .inl rfl⟩
    rcases Nat.lt_or_ge j xs.length with h8 | h8
    · rw [List.getElem?_append_left h8] at hj
      rw [k5 _ (by rw [h.len] at h8; omega)]
      exact h6 j u hj
    · rw [List.getElem?_append_right h8] at hj
      have := k6 _ u hj
      rw [show off + j = off + n * i.size + (j - xs.length) by rw [h.len] at h8 ⊢; omega]
      exact this
  · have holds : ∀ j u, xs[j]? = some u → w.cell? ((⟨g, off, none⟩ : Addr).add j) = some u := fun j u hj => by
      have hadd : (⟨g, off, none⟩ : Addr).add j = ⟨g, off + j, none⟩ := by unfold Addr.add; split <;> simp_all
      rw [hadd]
      simp [World.cell?, h2, h6 j u hj]
    have hr := run_append_grow (P := P) w t ty e i z ht hi hz ⟨g, off, none⟩ n cap xs h.len holds a 1 c news hl hnews (by omega) (by simp only [maxLen] at h63; omega) (growslice_fits (by omega) hbytes)
    have hge := grownCap_ge w (n + 1) cap e
    have hcm : grownCap w (n + 1) cap e ≤ maxLen := grownCap_le_maxLen w (n + 1) cap e h63
    refine ⟨_, _, w.heap.size, hr, ⟨hlen, hB, 0, _, _, rfl, heap_alloc_new w.drew _, hge, hcm, ?_, fun j u hj => ?_⟩, (Oth.refl g w).drew.alloc _, .inr (Nat.le_refl _)⟩
    · simp only [Array.size_append, List.size_toArray, size_zeroCells, hzs, h.len, hl, ← Nat.add_mul, Nat.zero_add]
      exact Nat.le_of_eq (by congr 1; omega)
    · rw [Nat.zero_add]
      have hj2 : j < (xs ++ news).length := (List.getElem?_eq_some_iff.1 hj).1
      rw [Array.getElem?_append_left (by simpa using hj2)]
      simpa using hj
end
abbrev nilS : Value := .slice none 0 0
section
variable {P : Program}
theorem cells_set {vs : Array Value} {n c : Nat} {x : Value} (hs : vs.size = c) (hn : n + 1 ≤ c) (hnil : ∀ j, n ≤ j → j < c → vs[j]? = some nilS) :
    vs.setIfInBounds n x = (vs.toList.take n ++ [x] ++ List.replicate (c - (n + 1)) nilS).toArray := by
  have hl : vs.toList.length = c := by simpa using hs
  apply Array.ext'
  rw [Array.toList_setIfInBounds]
  apply List.ext_getElem?
  intro j
  have hnil' : ∀ j, n ≤ j → j < c → vs.toList[j]? = some nilS := fun j h1 h2 => by rw [← hnil j h1 h2]; simp
  rcases Nat.lt_trichotomy j n with h | h | h
  · rw [List.getElem?_set_ne (by omega), List.append_assoc, List.getElem?_append_left (by rw [List.length_take]; omega), List.getElem?_take_of_lt h]
  · subst h
    rw [List.getElem?_set_self (by omega), List.append_assoc, List.getElem?_append_right (by rw [List.length_take]; omega)]
    simp [List.length_take, show min j vs.size = j by omega]
  · rw [List.getElem?_set_ne (by omega), List.getElem?_append_right (by simp [List.length_take]; omega)]
    have e : (vs.toList.take n ++ [x]).length = n + 1 := by simp [List.length_take]; omega
    rw [e]
    rcases Nat.lt_or_ge j c with h2 | h2
    · rw [hnil' j (by omega) h2, List.getElem?_replicate, if_pos (by omega)]
    · rw [List.getElem?_eq_none (by omega), List.getElem?_replicate, if_neg (by omega)]
theorem zero_nil {k : Nat} : Builtin.zeroCells #[nilS] k = (List.replicate k nilS).toArray := by
  apply Array.ext
  · simp [Builtin.zeroCells]
  · intro j h1 h2
    simp [Builtin.zeroCells, Nat.mod_one]
theorem run_pushS {w : World} {t ty e : TypeId} {i : TypeInfo} {z : Value} (ht : P.underlying t = some (.slice e)) (hi : P.info? e = some i) (hz : i.zero = some z) (hzc : z.cells = #[nilS]) (hsz : i.size = 1)
    {b n c : Nat} {vs : Array Value} {t0 : TypeId} (hb : w.heap[b]? = some (.cells vs t0 (0, 0))) (hvs : vs.size = c) (hn : n ≤ c) (hcm : c ≤ maxLen) (hnil : ∀ j, n ≤ j → j < c → vs[j]? = some nilS)
    {b2 cc : Nat} {xv : Value} (h2 : w.cell? ⟨b2, 0, none⟩ = some xv) (hx1 : xv.oneCell' = true) (h63 : n + 1 ≤ maxLen) (hbytes : (n + 1) * i.bytes ≤ 140737488355328) :
    ∃ g' c' t' w', (Builtin.append_ #[t, t] ty #[.slice (some ⟨b, 0, none⟩) n c, .slice (some ⟨b2, 0, none⟩) 1 cc]).run P w = .ok (.slice (some ⟨g', 0, none⟩) (n + 1) c') w' ∧ n + 1 ≤ c' ∧ c' ≤ maxLen ∧
      w'.heap[g']? = some (.cells (vs.toList.take n ++ [xv] ++ List.replicate (c' - (n + 1)) nilS).toArray t' (0, 0)) ∧ Oth b w w' ∧ (g' = b ∨ w.heap.size ≤ g') := by
  have hnews : ∀ j u, [xv][j]? = some u → w.cell? ((⟨b2, 0, none⟩ : Addr).add j) = some u := fun j u hj => by
    cases j with
    | zero => cases hj; exact h2
    | succ j => simp at hj
  have hone : ∀ u ∈ [xv], u.oneCell' = true := fun u hu => by simp at hu; subst hu; exact hx1
  by_cases hroom : n + 1 ≤ c
  · have hr := run_append_room_src (P := P) (ty := ty) w t t e i ht hi b 0 n c (.slice (some ⟨b2, 0, none⟩) 1 cc) 1 [xv] (Src.ofSlice w ht ⟨b2, 0, none⟩ 1 cc [xv] (by rw [hsz]; rfl) hnews hone) hroom
      (fun j hj => by
        have hj0 : j = 0 := by simpa using hj
        subst hj0
        have : n < vs.size := by omega
        simp [World.cell?, hb, hsz, this])
      (fun j hj => by simp [World.frozen?, hb])
    have e1 : w.setCells b (0 + n * i.size) [xv] = w.setCell ⟨b, n, none⟩ xv := by rw [hsz]; simp [World.setCells]
    rw [e1] at hr
    refine ⟨b, c, t0, _, hr, hroom, hcm, ?_, (Oth.refl b w).setCell rfl xv, .inl rfl⟩
    rw [← cells_set hvs hroom hnil]
    simp [World.setCell, Array.getElem?_modify, hb]
  · have hcn : c = n := by omega
    subst hcn
    have hl : vs.toList.length = c := by simpa using hvs
    have hr := run_append_grow (P := P) w t ty e i z ht hi hz ⟨b, 0, none⟩ c c vs.toList (by rw [hsz, Nat.mul_one, hl])
      (fun j u hj => by
        have hadd : (⟨b, 0, none⟩ : Addr).add j = ⟨b, j, none⟩ := by unfold Addr.add; split <;> simp_all
        rw [hadd]
        have : vs[j]? = some u := by simpa using hj
        simp [World.cell?, hb, this]) ⟨b2, 0, none⟩ 1 cc [xv] (by rw [hsz]; rfl) hnews (by omega) (by simp only [maxLen] at h63; omega) (growslice_fits (by omega) hbytes)
    refine ⟨w.heap.size, _, e, _, hr, grownCap_ge w (c + 1) c e, grownCap_le_maxLen w (c + 1) c e h63, ?_, (Oth.refl b w).drew.alloc _, .inr (Nat.le_refl _)⟩
    have e2 : (vs.toList.toArray ++ [xv].toArray ++ Builtin.zeroCells z.cells (grownCap w (c + 1) c e - (c + 1))) = (vs.toList.take c ++ [xv] ++ List.replicate (grownCap w (c + 1) c e - (c + 1)) nilS).toArray := by
      rw [hzc, zero_nil, List.take_of_length_le (by omega)]
      simp
    rw [← e2]
    exact heap_alloc_new w.drew _
end
def bxC (as1 : List AC) (n c : Nat) : List AC := as1 ++ List.replicate (c - n) (.v nilS)
section
variable {P : Program} {T : Tab} {S : St} {nt : Nat} {K : St → Prop}
theorem wx_pushbox (hT : TabOk P T) {t e by' i r n c j r2 c2 d tx ty ty1 : Nat} {agg : Bool} {as1 : List AC} {x : AC} {pos : String} {af : Array Edge} {ops : Array Oper} {rest : List Oper}
    (hd : Nat.blt d nt = true) (hl : find1 T.elt t = some (none, e, agg, 1, by')) (hz : find1 T.zer e = some [nilS]) (hx : S.E tx = some (.g (.one (.sb i r n c)))) (hG : S.G i = some (r, .box (bxC as1 n c))) (hn : as1.length = n)
    (hy : S.E ty = some (.g (.one (.sb j r2 1 c2)))) (hG2 : S.G j = some (r2, .box [x])) (hb : Nat.ble by' 1000 = true) (hi : Nat.blt i 100000 = true) (hn2 : n ≤ 1000000)
    (hk : ∀ c', n + 1 ≤ c' → WX P nt ops rest ((S.lay i (some (r + 1, .box (bxC (as1 ++ [x]) (n + 1) c')))).put d (some (.g (.one (.sb i (r + 1) (n + 1) c'))))) K) :
    WX P nt ops (⟨some d, .call { callee := .builtin .append, args := #[.tmp tx, .tmp ty], argTypes := #[t, t] }, ty1, pos, af, none⟩ :: rest) S K := fun w0 M N b0 β w tm hs => by
  obtain ⟨hu, hlay, hpos, i0, hi0, hby, hisz⟩ := elt_facts hT hl
  obtain ⟨i', z1, hi', hz1, hzc, hz2⟩ := zer_facts hT hz
  have ei : i' = i0 := by rw [hi0] at hi'; exact (Option.some.inj hi').symm
  subst ei
  have hd := blt_lt hd
  have hi := blt_lt hi
  have hby' : by' ≤ 1000 := Nat.le_of_ble_eq_true hb
  obtain ⟨hx1, hx2⟩ := hs.env tx _ hx
  obtain ⟨hy1, hy2⟩ := hs.env ty _ hy
  obtain ⟨_, r1, e1, g1, g2, g3⟩ := hx2
  rw [hG] at g1
  cases g1
  obtain ⟨b, q1, q2, q3, q4⟩ := g3 rfl
  obtain ⟨_, r1', e1', f1, f2, f3⟩ := hy2
  rw [hG2] at f1
  cases f1
  obtain ⟨b2, p1, p2, p3, p4⟩ := f3 rfl
  obtain ⟨g, vs, t0, m1, m2, m3⟩ := hs.ents i r _ hG
  obtain ⟨g', vs2, t2, o1, o2, o3⟩ := hs.ents j r2 _ hG2
  rw [m1] at q1; cases q1
  rw [o1] at p1; cases p1
  obtain ⟨xv, hxv, hxr⟩ := o3.2 0 x rfl
  have hvs : vs.size = c := by rw [m3.1, bxC, List.length_append, List.length_replicate, hn]; omega
  have hnil : ∀ k, n ≤ k → k < c → vs[k]? = some nilS := fun k h1 h2 => by
    obtain ⟨zv, hz1, hz2⟩ := m3.2 k (.v nilS) (by rw [bxC, List.getElem?_append_right (by omega), List.getElem?_replicate, if_pos (by omega)])
    rw [hz1, hz2.1]
  have hcell : w.cell? ⟨g', 0, none⟩ = some xv := by simp [World.cell?, o2, hxv]
  obtain ⟨G', c', t', w', k1, k2, k3, k4, k5, k6⟩ := run_pushS (P := P) (ty := ty1) (cc := c2) hu hi0 hz1 (by rw [hzc]) hisz m2 hvs q3 q4 hnil hcell (oneC hxr) (by unfold maxLen; omega)
    (by rw [hby]; calc (n + 1) * by' ≤ 1000001 * 1000 := Nat.mul_le_mul (by omega) hby'
          _ ≤ 140737488355328 := by decide)
  refine wpList_plain rfl fun K1 hK1 => wp_value (v := .slice (some ⟨G', 0, none⟩) (n + 1) c') (w' := w') ?_ (hK1 _ _ ?_)
  · unfold execOp
    have ex : Act.eval ⟨tm, []⟩ (.tmp tx) = .slice (some ⟨g, 0, none⟩) n c := q2
    have ey : Act.eval ⟨tm, []⟩ (.tmp ty) = .slice (some ⟨g', 0, none⟩) 1 c2 := p2
    simp only [resolve, invoke, builtin, Sem.run_bind, Sem.run_pure, Result.andThen_ok, List.map_toArray, List.map_cons, List.map_nil, ex, ey, k1]
  · obtain ⟨β', h1, h2, h3, h4⟩ := hs.change1 (w' := w') i (r + 1) (.box (bxC (as1 ++ [x]) (n + 1) c')) (.pointer (some ⟨G', 0, none⟩)) k5.os k5.tape k5.output k5.size
      (fun r1 e1 hg => by rw [hG] at hg; cases hg; exact ⟨Nat.le_succ _, fun he => by omega⟩)
      (fun k hk hne => k5.block k hk (fun ek => hne r _ hG trivial (by rw [m1, ek]; rfl)))
      (fun b _ hb => by
        have hbG : G' = b := Option.some.inj hb
        subst hbG
        refine ⟨(Array.getElem?_eq_some_iff.1 k4).1, ?_⟩
        rcases k6 with rfl | h
        · right; exact ⟨r, _, hG, trivial, by rw [m1]; rfl⟩
        · left; exact h)
      (fun h => by omega)
      (fun β' G'' _ _ hok hold hβ => ⟨G', _, t', hβ, k4, by simp [bxC, List.length_take, hn, hvs]; omega, fun k a hk => by
        rcases Nat.lt_or_ge k n with h | h
        · rw [bxC, List.append_assoc, List.getElem?_append_left (by omega)] at hk
          obtain ⟨zv, y1, y2⟩ := m3.2 k a (by rw [bxC, List.getElem?_append_left (by omega)]; exact hk)
          refine ⟨zv, ?_, AC.rep_mono hok hold y2⟩
          rw [List.getElem?_toArray, List.append_assoc, List.getElem?_append_left (by simp [List.length_take]; omega), List.getElem?_take_of_lt h]
          simpa using y1
        · rcases Nat.eq_or_lt_of_le h with h | h
          · subst h
            rw [bxC, List.append_assoc, List.getElem?_append_right (by omega), hn, Nat.sub_self] at hk
            have ha : x = a := by simpa using hk
            subst ha
            refine ⟨xv, ?_, AC.rep_mono hok hold hxr⟩
            rw [List.getElem?_toArray, List.append_assoc, List.getElem?_append_right (by simp [List.length_take]; omega)]
            have : (vs.toList.take n).length = n := by simp [List.length_take]; omega
            rw [this, Nat.sub_self]; rfl
          · rw [bxC, List.getElem?_append_right (by simp; omega), List.getElem?_replicate] at hk
            split at hk
            · rename_i hlt
              cases hk
              refine ⟨nilS, ?_, rfl, rfl⟩
              rw [List.getElem?_toArray, List.getElem?_append_right (by simp [List.length_take]; omega), List.getElem?_replicate, if_pos (by simp [List.length_take, hn] at hlt ⊢; omega)]
            · cases hk⟩)
    have hs' := h1.put (i := d) (a := .g (.one (.sb i (r + 1) (n + 1) c'))) (v := .slice (some ⟨G', 0, none⟩) (n + 1) c') hd ⟨rfl, r + 1, _, upd_same _ _ _, Nat.le_refl _, fun _ => ⟨G', by rw [h2]; rfl, rfl, k2, k3⟩⟩
    exact hk c' k2 w0 M N b0 β' w' _ hs'
end
end Go.Proofs.Ytfbcblknahicdaa
namespace Go.Proofs.Ytfbcblknahicdaa
set_option linter.unusedVariables false
set_option linter.unusedSimpArgs false
def tvL (N : Int) : List Bool → List Int → Bool
  | _, [] => true
  | s, x :: l => btw x 0 (N - 1) && !(s.getD x.toNat false) && tvL N (s.set x.toNat true) l
def tvB (n : Int) (t : List Int) : Bool := btw n 1 8 && (((t.length : Int) == 2 ^ n.toNat) && tvL (t.length : Int) (List.replicate t.length false) t)
theorem set_at {s : List Bool} {x y : Nat} (hx : x < s.length) : (s.set x true).getD y false = (decide (x = y) || s.getD y false) := by
  by_cases h : x = y
  · subst h
    rw [List.getD_eq_getElem?_getD, List.getElem?_set_self hx]
    simp
  · rw [List.getD_eq_getElem?_getD, List.getElem?_set_ne h, ← List.getD_eq_getElem?_getD, decide_eq_false h, Bool.false_or]
theorem tvL_drop {N : Int} {s : List Bool} {i : Nat} {L : List Int} (hi : i < L.length) : tvL N s (L.drop i) = (btw (L.getD i 0) 0 (N - 1) && !(s.getD (L.getD i 0).toNat false) && tvL N (s.set (L.getD i 0).toNat true) (L.drop (i + 1))) := by
  rw [List.drop_eq_getElem_cons hi]
  simp [tvL, List.getD_eq_getElem?_getD, hi]
theorem tvL_at {N : Int} : ∀ {L : List Int} {s : List Bool}, (s.length : Int) = N → tvL N s L = true → ∀ i, i < L.length → (0 ≤ L.getD i 0 ∧ L.getD i 0 < N) ∧ s.getD (L.getD i 0).toNat false = false
  | [], _, _, _, i, hi => absurd hi (Nat.not_lt_zero _)
  | x :: L, s, hs, h, i, hi => by
    rw [tvL, Bool.and_eq_true, Bool.and_eq_true, Bool.not_eq_true'] at h
    have hb := btw_t h.1.1
    rcases i with _ | i
    · exact ⟨⟨hb.1, by have := hb.2; show x < N; omega⟩, h.1.2⟩
    · obtain ⟨h1, h2⟩ := tvL_at (by rw [List.length_set]; exact hs) h.2 i (Nat.lt_of_succ_lt_succ hi)
      refine ⟨h1, ?_⟩
      rw [set_at (by omega), Bool.or_eq_false_iff] at h2
      exact h2.2
theorem tvL_ne {N : Int} : ∀ {L : List Int} {s : List Bool}, (s.length : Int) = N → tvL N s L = true → ∀ i j, i < j → j < L.length → L.getD i 0 ≠ L.getD j 0
  | [], _, _, _, i, j, _, hj => absurd hj (Nat.not_lt_zero _)
  | x :: L, s, hs, h, i, j, hij, hj => by
    rw [tvL, Bool.and_eq_true, Bool.and_eq_true, Bool.not_eq_true'] at h
    have hb := btw_t h.1.1
    rcases i with _ | i
    · rcases j with _ | j
      · omega
      · obtain ⟨h1, h2⟩ := tvL_at (by rw [List.length_set]; exact hs) h.2 j (Nat.lt_of_succ_lt_succ hj)
        rw [set_at (by omega), Bool.or_eq_false_iff, decide_eq_false_iff_not] at h2
        intro e
        exact h2.1 (congrArg Int.toNat e)
    · rcases j with _ | j
      · omega
      · exact tvL_ne (by rw [List.length_set]; exact hs) h.2 i j (Nat.lt_of_succ_lt_succ hij) (Nat.lt_of_succ_lt_succ hj)
def fT (t : List Int) (x : Nat) : Nat := (t.getD x 0).toNat
theorem tv_tp {t : List Int} (h : tvL (t.length : Int) (List.replicate t.length false) t = true) : TP (fT t) t.length := by
  have hs : ((List.replicate t.length false).length : Int) = (t.length : Int) := by rw [List.length_replicate]
  refine ⟨fun x hx => ?_, fun x y hx hy e => ?_⟩
  · have := (tvL_at hs h x hx).1
    unfold fT; omega
  · have h1 := (tvL_at hs h x hx).1
    have h2 := (tvL_at hs h y hy).1
    unfold fT at e
    have e2 : t.getD x 0 = t.getD y 0 := by omega
    rcases Nat.lt_trichotomy x y with h3 | h3 | h3
    · exact absurd e2 (tvL_ne hs h _ _ h3 hy)
    · exact h3
    · exact absurd e2.symm (tvL_ne hs h _ _ h3 hx)
def seenL : List Bool → List Int → List Bool
  | s, [] => s
  | s, x :: l => seenL (s.set x.toNat true) l
theorem seenL_snoc : ∀ (l : List Int) (s : List Bool) (x : Int), seenL s (l ++ [x]) = (seenL s l).set x.toNat true
  | [], s, x => rfl
  | y :: l, s, x => seenL_snoc l _ x
theorem seenL_at : ∀ (l : List Int) (s : List Bool) (y : Int), (∀ x ∈ l, 0 ≤ x ∧ x < (s.length : Int)) → 0 ≤ y → (seenL s l).getD y.toNat false = (s.getD y.toNat false || l.any (· == y))
  | [], s, y, _, _ => by simp [seenL]
  | x :: l, s, y, hl, hy => by
    have hx := hl x List.mem_cons_self
    rw [seenL, seenL_at l _ y (fun z hz => by rw [List.length_set]; exact hl z (List.mem_cons_of_mem _ hz)) hy, set_at (by omega), List.any_cons]
    have e : decide (x.toNat = y.toNat) = (x == y) := by rw [Bool.eq_iff_iff, decide_eq_true_eq, beq_iff_eq]; omega
    rw [e]
    cases (x == y) <;> cases (s.getD y.toNat false) <;> simp
def wkM (f : Nat → Nat) : Nat → List Bool → Nat → Int → List Bool × Int
  | 0, s, x, l => (s, l)
  | k + 1, s, x, l => if s.getD x false = true then (s, l) else wkM f k (s.set x true) (f x) (l + 1)
def Ends (f : Nat → Nat) : Nat → List Bool → Nat → Prop
  | 0, s, x => s.getD x false = true
  | k + 1, s, x => s.getD x false = true ∨ Ends f k (s.set x true) (f x)
theorem wkM_len (f : Nat → Nat) : ∀ (k : Nat) (s : List Bool) (x : Nat) (l : Int), (wkM f k s x l).1.length = s.length
  | 0, s, x, l => rfl
  | k + 1, s, x, l => by
    rw [wkM]
    split
    · rfl
    · rw [wkM_len f k, List.length_set]
section
variable {f : Nat → Nat} {N : Nat}
def SeenB (f : Nat → Nat) (N w : Nat) (s : List Bool) : Prop := s.length = N ∧ ∀ x, x < N → (s.getD x false = true ↔ ∃ y, y < w ∧ Orb f y x)
def SeenI (f : Nat → Nat) (N w i : Nat) (s : List Bool) : Prop := s.length = N ∧ ∀ x, x < N → (s.getD x false = true ↔ ((∃ y, y < w ∧ Orb f y x) ∨ ∃ j, j < i ∧ itT f j w = x))
theorem wk_go (h : TP f N) {w p : Nat} (hw : w < N) (hf : Fst f w) (hp : 0 < p) (he : itT f p w = w) (hd : ∀ j, 0 < j → j < p → itT f j w ≠ w) : ∀ (r i : Nat) (s : List Bool) (l : Int), i + r = p → SeenI f N w i s → ∀ k, r ≤ k → Ends f k s (itT f i w) ∧ SeenI f N w p (wkM f k s (itT f i w) l).1 ∧ (wkM f k s (itT f i w) l).2 = l + (r : Int)
  | 0, i, s, l, hir, hs, k, hk => by
    have : i = p := by omega
    subst this
    have hseen : s.getD (itT f i w) false = true := by
      rw [he]
      exact (hs.2 w hw).2 (.inr ⟨0, hp, rfl⟩)
    rcases k with _ | k
    · exact ⟨hseen, hs, by show l = l + ((0 : Nat) : Int); omega⟩
    · refine ⟨.inl hseen, ?_, ?_⟩
      · rw [wkM, if_pos hseen]; exact hs
      · rw [wkM, if_pos hseen]; show l = l + ((0 : Nat) : Int); omega
  | r + 1, i, s, l, hir, hs, k, hk => by
    have hx := itT_lt h i hw
    have hns : ¬ s.getD (itT f i w) false = true := by
      intro hc
      rcases (hs.2 _ hx).1 hc with ⟨y, hy, ho⟩ | ⟨j, hj, e⟩
      · exact (not_fst h hw).2 ⟨y, hy, orb_trans ho (orb_sym h hw ⟨i, rfl⟩)⟩ hf
      · exact itT_dist h hw hd hj (by omega) e
    obtain ⟨k, rfl⟩ : ∃ k', k = k' + 1 := ⟨k - 1, by omega⟩
    have hs2 : SeenI f N w (i + 1) (s.set (itT f i w) true) := by
      refine ⟨by rw [List.length_set]; exact hs.1, fun x hxN => ?_⟩
      rw [set_at (by rw [hs.1]; exact hx), Bool.or_eq_true, decide_eq_true_eq, hs.2 x hxN]
      constructor
      · rintro (e | ho | ⟨j, hj, e⟩)
        · exact .inr ⟨i, by omega, e⟩
        · exact .inl ho
        · exact .inr ⟨j, by omega, e⟩
      · rintro (ho | ⟨j, hj, e⟩)
        · exact .inr (.inl ho)
        · rcases Nat.lt_or_ge j i with h1 | h1
          · exact .inr (.inr ⟨j, h1, e⟩)
          · have : j = i := by omega
            subst this
            exact .inl e
    obtain ⟨h1, h2, h3⟩ := wk_go h hw hf hp he hd r (i + 1) (s.set (itT f i w) true) (l + 1) (by omega) hs2 k (by omega)
    rw [itT_one] at h1 h2 h3
    refine ⟨.inr h1, ?_, ?_⟩
    · rw [wkM, if_neg hns]; exact h2
    · rw [wkM, if_neg hns, h3]; omega
theorem per_le (h : TP f N) {w p : Nat} (hw : w < N) (hp : 0 < p) (hd : ∀ j, 0 < j → j < p → itT f j w ≠ w) : p ≤ N := by
  apply Nat.le_of_not_lt
  intro hlt
  obtain ⟨i, j, hij, hj, e⟩ := pigeon N (fun i => itT f i w) (fun i _ => itT_lt h i hw)
  exact itT_dist h hw hd hij (by omega) e
theorem wk_one (h : TP f N) {w : Nat} (hw : w < N) {s : List Bool} (hs : SeenB f N w s) : Ends f N s w ∧ SeenB f N (w + 1) (wkM f N s w 0).1 ∧ (Fst f w → 0 < (wkM f N s w 0).2) ∧ (¬ Fst f w → (wkM f N s w 0).2 = 0) ∧ (wkM f N s w 0).2 ≤ (N : Int) ∧ 0 ≤ (wkM f N s w 0).2 := by
  by_cases hf : Fst f w
  · obtain ⟨p, hp, he, hd⟩ := period h hw
    have hs0 : SeenI f N w 0 s := ⟨hs.1, fun x hx => by
      rw [hs.2 x hx]
      constructor
      · exact .inl
      · rintro (ho | ⟨j, hj, _⟩)
        · exact ho
        · exact absurd hj (Nat.not_lt_zero _)⟩
    have hpN := per_le h hw hp hd
    obtain ⟨h1, h2, h3⟩ := wk_go h hw hf hp he hd p 0 s 0 (by omega) hs0 N hpN
    refine ⟨h1, ⟨h2.1, fun x hx => ?_⟩, fun _ => ?_, fun hn => absurd hf hn, ?_, ?_⟩
    · have h2x := h2.2 x hx
      rw [show itT f 0 w = w from rfl] at h2x
      rw [h2x]
      constructor
      · rintro (⟨y, hy, ho⟩ | ⟨j, _, e⟩)
        · exact ⟨y, by omega, ho⟩
        · exact ⟨w, Nat.lt_succ_self w, ⟨j, e⟩⟩
      · rintro ⟨y, hy, ho⟩
        rcases Nat.lt_or_ge y w with h4 | h4
        · exact .inl ⟨y, h4, ho⟩
        · have : y = w := by omega
          subst this
          obtain ⟨j, e⟩ := ho
          rw [itT_mod he j] at e
          exact .inr ⟨j % p, Nat.mod_lt j hp, e⟩
    · rw [show itT f 0 w = w from rfl] at h3; rw [h3]; omega
    · rw [show itT f 0 w = w from rfl] at h3; rw [h3]; omega
    · rw [show itT f 0 w = w from rfl] at h3; rw [h3]; omega
  · have hseen : s.getD w false = true := (hs.2 w hw).2 ((not_fst h hw).1 hf)
    obtain ⟨k, rfl⟩ : ∃ k, N = k + 1 := ⟨N - 1, by omega⟩
    have e : wkM f (k + 1) s w 0 = (s, 0) := by rw [wkM, if_pos hseen]
    rw [e]
    refine ⟨.inl hseen, ⟨hs.1, fun x hx => ?_⟩, fun hc => absurd hc hf, fun _ => rfl, Int.natCast_nonneg _, Int.le_refl _⟩
    rw [hs.2 x hx]
    constructor
    · rintro ⟨y, hy, ho⟩; exact ⟨y, by omega, ho⟩
    · rintro ⟨y, hy, ho⟩
      rcases Nat.lt_or_ge y w with h4 | h4
      · exact ⟨y, h4, ho⟩
      · have : y = w := by omega
        subst this
        obtain ⟨z, hz, hzo⟩ := (not_fst h hw).1 hf
        exact ⟨z, hz, orb_trans hzo ho⟩
end
def cyM (f : Nat → Nat) (N : Nat) : Nat → List Bool × List Int
  | 0 => (List.replicate N false, [])
  | w + 1 => ((wkM f N (cyM f N w).1 w 0).1, if (wkM f N (cyM f N w).1 w 0).2 > 0 then (cyM f N w).2 ++ [(wkM f N (cyM f N w).1 w 0).2] else (cyM f N w).2)
theorem cyM_ok {f : Nat → Nat} {N : Nat} (h : TP f N) : ∀ w, w ≤ N → SeenB f N w (cyM f N w).1 ∧ (cyM f N w).2.length = cntF f w
  | 0, _ => ⟨⟨by rw [cyM, List.length_replicate], fun x hx => by
      rw [cyM]
      constructor
      · intro hc
        have : (List.replicate N false).getD x false = false := by simp [List.getD_eq_getElem?_getD, hx]
        rw [this] at hc; cases hc
      · rintro ⟨y, hy, _⟩; exact absurd hy (Nat.not_lt_zero _)⟩, rfl⟩
  | w + 1, hw => by
    obtain ⟨h1, h2⟩ := cyM_ok h w (by omega)
    obtain ⟨_, g2, g3, g4, _, _⟩ := wk_one h (show w < N by omega) h1
    refine ⟨g2, ?_⟩
    rw [cyM, cntF]
    by_cases hf : Fst f w
    · have := g3 hf
      rw [if_pos hf]
      dsimp only
      rw [if_pos this, List.length_append, h2]; rfl
    · have := g4 hf
      rw [if_neg hf]
      dsimp only
      rw [if_neg (by omega), h2]; rfl
def g5 : List Gt := [⟨0, 0, 0, 0⟩, ⟨0, 1, 0, 0⟩, ⟨1, 0, 1, 0⟩, ⟨1, 1, 0, 0⟩, ⟨3, 0, 1, 0⟩]
abbrev BS := List (List Int × Nat)
def inB (s : BS) (t : List Int) : Bool := s.any fun x => x.1 == t
def ins (t : List Int) (d : Nat) (s : BS) (g : Gt) : BS := if inB s (t.map (gr g)) = true then s else s ++ [(t.map (gr g), d + 1)]
def tbA (s : BS) (k : Nat) : List Int := (s.getD k ([], 0)).1
def dsA (s : BS) (k : Nat) : Nat := (s.getD k ([], 0)).2
def bst : Nat → BS
  | 0 => [([0, 1, 2, 3], 0)]
  | k + 1 => g5.foldl (ins (tbA (bst k) k) (dsA (bst k) k)) (bst k)
def S24 : BS := bst 24
theorem s24_len : S24.length = 24 := by decide +kernel
def ltN (t : List Int) : Option Nat := (S24.find? fun x => x.1 == t).map (·.2)
def ltI (t : List Int) : Int := if tvB 2 t = true then (match ltN t with | none => -1 | some n => (n : Int)) else -1
theorem all24 : ∀ a, a < 4 → ∀ b, b < 4 → ∀ c, c < 4 → ∀ d, d < 4 → tvB 2 [((a : Nat) : Int), ((b : Nat) : Int), ((c : Nat) : Int), ((d : Nat) : Int)] = true → inB S24 [((a : Nat) : Int), ((b : Nat) : Int), ((c : Nat) : Int), ((d : Nat) : Int)] = true := by decide +kernel
theorem tv_four {t : List Int} (h : tvB 2 t = true) : ∃ a b c d : Nat, (a < 4 ∧ b < 4 ∧ c < 4 ∧ d < 4) ∧ t = [(a : Int), (b : Int), (c : Int), (d : Int)] := by
  unfold tvB at h
  rw [Bool.and_eq_true, Bool.and_eq_true] at h
  obtain ⟨_, h2, h3⟩ := h
  have h4 : t.length = 4 := by rw [beq_iff_eq] at h2; have : (2 : Int) ^ (2 : Int).toNat = 4 := rfl; omega
  match t, h4 with
  | [a, b, c, d], _ =>
    simp only [tvL, Bool.and_eq_true, btw, decide_eq_true_eq, List.length_cons, List.length_nil] at h3
    refine ⟨a.toNat, b.toNat, c.toNat, d.toNat, by omega, ?_⟩
    rw [Int.toNat_of_nonneg (by omega), Int.toNat_of_nonneg (by omega), Int.toNat_of_nonneg (by omega), Int.toNat_of_nonneg (by omega)]
theorem tv_in {t : List Int} (h : tvB 2 t = true) : inB S24 t = true := by
  obtain ⟨a, b, c, d, ⟨ha, hb, hc, hd⟩, rfl⟩ := tv_four h
  exact all24 a ha b hb c hc d hd h
theorem in_at {t : List Int} (h : inB S24 t = true) : ∃ k, k < 24 ∧ t = tbA S24 k := by
  unfold inB at h
  rw [List.any_eq_true] at h
  obtain ⟨x, hx, he⟩ := h
  obtain ⟨k, hk, rfl⟩ := List.getElem_of_mem hx
  rw [s24_len] at hk
  refine ⟨k, hk, ?_⟩
  rw [beq_iff_eq] at he
  unfold tbA
  rw [List.getD_eq_getElem?_getD, List.getElem?_eq_getElem]
  exact he.symm
theorem at24 : ∀ k, k < 24 → tvB 2 (tbA S24 k) = true ∧ ltN (tbA S24 k) = some (dsA S24 k) ∧ dsA S24 k ≤ 4 := by decide +kernel
theorem ne24 : ∀ k, k < 24 → ∀ j, j < 24 → tbA S24 k = tbA S24 j → k = j := by decide +kernel
def g6 : List Gt := g5 ++ [⟨3, 1, 0, 0⟩]
theorem step24 : ∀ k, k < 24 → ∀ g ∈ g6, ∃ j, j < 24 ∧ (tbA S24 k).map (gr g) = tbA S24 j ∧ dsA S24 j ≤ dsA S24 k + 1 := by decide +kernel
theorem gok_g6 {g : Gt} (h : gok 2 g = true) : g ∈ g6 := by
  obtain ⟨k, a, b, c⟩ := g
  have hf := (gok_facts h).2
  dsimp only at hf
  clear h
  rcases hf with ⟨hk, ha, hb, hc⟩ | ⟨hk, ha, hb, hn, hc⟩ | hf
  · have h2 : a = 0 ∨ a = 1 := by omega
    subst hk hb hc
    rcases h2 with rfl | rfl
    · exact .head _
    · exact .tail _ (.head _)
  · have h2 : (a = 0 ∧ b = 1) ∨ (a = 1 ∧ b = 0) := by omega
    subst hc
    rcases hk with rfl | rfl
    · rcases h2 with ⟨rfl, rfl⟩ | ⟨rfl, rfl⟩
      · exact .tail _ (.tail _ (.head _))
      · exact .tail _ (.tail _ (.tail _ (.head _)))
    · rcases h2 with ⟨rfl, rfl⟩ | ⟨rfl, rfl⟩
      · exact .tail _ (.tail _ (.tail _ (.tail _ (.head _))))
      · exact .tail _ (.tail _ (.tail _ (.tail _ (.tail _ (.head _)))))
  · exfalso
    omega
def bkT (t : List Int) : List Int := [0, 1, 2, 3].map fun w => ((t.idxOf w : Nat) : Int)
theorem back24 : ∀ k, k < 24 → ∃ j, j < 24 ∧ bkT (tbA S24 k) = tbA S24 j ∧ dsA S24 j = dsA S24 k := by decide +kernel
theorem cyc24 : ∀ k, k < 24 → ((dsA S24 k == 0) = ((cyM (fT (tbA S24 k)) 4 4).2.length == 4)) := by decide +kernel
attribute [local irreducible] S24
theorem circ_from : ∀ (c : List Gt) (j : Nat), c.all (gok 2) = true → j < 24 → ∃ i, i < 24 ∧ (tbA S24 j).map (cr c) = tbA S24 i ∧ dsA S24 i ≤ dsA S24 j + c.length
  | [], j, _, hj => ⟨j, hj, (List.map_congr_left (fun w _ => rfl)).trans (List.map_id _), Nat.le_refl _⟩
  | g :: c, j, h, hj => by
    rw [List.all_cons, Bool.and_eq_true] at h
    obtain ⟨i, hi, e2, hd2⟩ := step24 j hj g (gok_g6 h.1)
    obtain ⟨i', hi', e3, hd3⟩ := circ_from c i h.2 hi
    refine ⟨i', hi', ?_, by rw [List.length_cons]; omega⟩
    rw [← e3, ← e2, List.map_map]
    rfl
theorem circ_le (c : List Gt) (h : c.all (gok 2) = true) : ∃ j, j < 24 ∧ [0, 1, 2, 3].map (cr c) = tbA S24 j ∧ dsA S24 j ≤ c.length := by
  have e0 : tbA S24 0 = [0, 1, 2, 3] := by decide +kernel
  have d0 : dsA S24 0 = 0 := by decide +kernel
  obtain ⟨i, hi, e, hd⟩ := circ_from c 0 h (by decide)
  rw [e0] at e
  rw [d0, Nat.zero_add] at hd
  exact ⟨i, hi, e, hd⟩
end Go.Proofs.Ytfbcblknahicdaa
namespace Go.Proofs.Ytfbcblknahicdaa
set_option linter.unusedVariables false
set_option linter.unusedSimpArgs false
open Go.Maps Go.WideMaps
section
variable {H : Type} {ky : List Int → Lit} {dom : List Int → Prop}
def mP (ky : List Int → Lit) (D : DataW H) (x : List Int × Nat) : DataW H := D.put (ky x.1) (.lit (.int .i64 (x.2 : Int)))
def mD (H : Type) (ky : List Int → Lit) (s : BS) : DataW H := s.foldl (mP ky) (.map [])
theorem mD_snoc (s : BS) (x : List Int × Nat) : mD H ky (s ++ [x]) = (mD H ky s).put (ky x.1) (.lit (.int .i64 (x.2 : Int))) := by
  unfold mD; rw [List.foldl_append]; rfl
theorem has_foldl (hk : ∀ t, WideAt.IsKeyLit (ky t)) (hi : ∀ a b, dom a → dom b → ky a = ky b → a = b) (t : List Int) (ht : dom t) : ∀ (s : BS) (D : DataW H), Maps.IsMap D → (∀ x ∈ s, dom x.1) → Maps.has (s.foldl (mP ky) D) (ky t) = (Maps.has D (ky t) || inB s t) ∧ Maps.IsMap (s.foldl (mP ky) D)
  | [], D, hD, _ => ⟨by simp [inB], hD⟩
  | x :: s, D, hD, hs => by
    obtain ⟨h1, h2⟩ := has_foldl hk hi t ht s (mP ky D x) (hD.put _ _) (fun y hy => hs y (List.mem_cons_of_mem _ hy))
    refine ⟨?_, h2⟩
    rw [List.foldl_cons, h1]
    by_cases he : x.1 = t
    · have : Maps.has (mP ky D x) (ky t) = true := by unfold mP; rw [he]; exact has_put_same hD (hk t) _
      rw [this]
      simp [inB, he]
    · have hne : ky t ≠ ky x.1 := fun e => he (hi _ _ (hs x List.mem_cons_self) ht e.symm)
      have : Maps.has (mP ky D x) (ky t) = Maps.has D (ky t) := has_put_other hne _
      rw [this]
      have h3 : inB (x :: s) t = inB s t := by simp [inB, he]
      rw [h3]
theorem at_foldl (hk : ∀ t, WideAt.IsKeyLit (ky t)) (hi : ∀ a b, dom a → dom b → ky a = ky b → a = b) (t : List Int) (ht : dom t) (z : DataW H) : ∀ (s : BS) (D : DataW H), Maps.IsMap D → (∀ x ∈ s, dom x.1) → inB s t = false → (s.foldl (mP ky) D).atKey (ky t) z = D.atKey (ky t) z
  | [], D, hD, _, _ => rfl
  | x :: s, D, hD, hs, hn => by
    have hx : x.1 ≠ t ∧ inB s t = false := by
      unfold inB at hn ⊢
      rw [List.any_cons, Bool.or_eq_false_iff] at hn
      exact ⟨by simpa using hn.1, hn.2⟩
    rw [List.foldl_cons, at_foldl hk hi t ht z s (mP ky D x) (hD.put _ _) (fun y hy => hs y (List.mem_cons_of_mem _ hy)) hx.2]
    have hne : ky t ≠ ky x.1 := fun e => hx.1 (hi _ _ (hs x List.mem_cons_self) ht e.symm)
    exact atKey_put_other hne _ z
theorem mD_has (hk : ∀ t, WideAt.IsKeyLit (ky t)) (hi : ∀ a b, dom a → dom b → ky a = ky b → a = b) {t : List Int} (ht : dom t) {s : BS} (hs : ∀ x ∈ s, dom x.1) : Maps.has (mD H ky s) (ky t) = inB s t := by
  have := (has_foldl (H := H) hk hi t ht s (.map []) isMap_empty hs).1
  unfold mD
  rw [this]; rfl
theorem mD_at (hk : ∀ t, WideAt.IsKeyLit (ky t)) (hi : ∀ a b, dom a → dom b → ky a = ky b → a = b) {t : List Int} (ht : dom t) {s1 s2 : BS} {d : Nat} (hs : ∀ x ∈ s1 ++ (t, d) :: s2, dom x.1) (hn : inB s2 t = false) (z : DataW H) : (mD H ky (s1 ++ (t, d) :: s2)).atKey (ky t) z = .lit (.int .i64 (d : Int)) := by
  unfold mD
  rw [List.foldl_append, List.foldl_cons]
  have hm := (has_foldl (H := H) hk hi t ht s1 (.map []) isMap_empty (fun x hx => hs x (List.mem_append_left _ hx))).2
  rw [at_foldl hk hi t ht z s2 (mP ky (s1.foldl (mP ky) (.map [])) (t, d)) (hm.put _ _) (fun x hx => hs x (List.mem_append_right _ (List.mem_cons_of_mem _ hx))) hn]
  exact atKey_put_same hm (hk t) _ z
end
theorem keyOf_four {P : Program} {k e : TypeId} {q : IntKind} (A : ArrKey P k e 4) (he : P.underlying e = some (.int q)) (hsz : ∃ m, P.types.size = m + 1) {a b c d : Int} (wa : (Lit.int q a).wf = true) (wb : (Lit.int q b).wf = true) (wc : (Lit.int q c).wf = true) (wd : (Lit.int q d).wf = true) :
    keyOf P k (.agg #[.int q a, .int q b, .int q c, .int q d]) = some (.string (keyBytes [.int q a, .int q b, .int q c, .int q d])) := by
  have hkt := A.keyType hsz
  obtain ⟨m, hm⟩ := hsz
  unfold keyOf
  simp only [A.hu]
  rw [if_pos (by simp [hkt, Value.formed, A.hu, A.size]), hm]
  unfold Program.keyLits
  simp only [A.hu, Value.cells]
  rw [if_pos (by rw [A.size]; rfl), show List.range 4 = [0, 1, 2, 3] from rfl, List.mapM_cons, List.mapM_cons, List.mapM_cons, List.mapM_cons, List.mapM_nil]
  simp [A.one, Program.keyLits, he, wa, wb, wc, wd]
end Go.Proofs.Ytfbcblknahicdaa
namespace Go.Proofs.Ytfbcblknahicdaa
set_option linter.unusedVariables false
set_option linter.unusedSimpArgs false
open Go.RowKit
def quR (e : TypeId) (sz g off cap n : Nat) (xs : List Value) : Nat → Obj → Prop := fun g' o => g' = g ∧ ∃ w : World, w.heap[g]? = some o ∧ QRow w 0 e sz g (.slice (some ⟨g, off, none⟩) n cap) n xs
theorem quR_at {e : TypeId} {sz g off cap n : Nat} {xs : List Value} {g' : Nat} {o : Obj} {w : World} (h : quR e sz g off cap n xs g' o) (hw : w.heap[g']? = some o) : g' = g ∧ QRow w 0 e sz g (.slice (some ⟨g, off, none⟩) n cap) n xs := by
  obtain ⟨rfl, w1, h1, h2⟩ := h
  exact ⟨rfl, h2.keep (hw.trans h1.symm)⟩
abbrev quV (g off cap n : Nat) : Value := .slice (some ⟨g, off, none⟩) n cap
abbrev plV (v : Value) : AV := .g (.one (.v v))
section
variable {P : Program} {T : Tab} {S : St} {nt : Nat} {K : St → Prop} {KE : Exit → St → Prop} {c : Code} {ops : Array Oper} {rest : List Oper} {ty : TypeId} {pos : String} {af : Array Edge}
theorem Sim.refr {w0 w : World} {M N : Nat → Prop} {b0 β : Nat → Value} {tm tm' : Array Value} (hs : Sim w0 M N b0 nt β S w tm) (E' : Slots) (hsz : tm'.size = nt) (h : ∀ t a, E' t = some a → S.E t = some a ∧ tm'.getD t undef = tm.getD t undef) : Sim w0 M N b0 nt β ⟨E', S.G⟩ w tm' :=
  ⟨hs.os, hs.tape, hs.output, hs.glo, hs.size, hs.block, hs.ents, hs.apart, hs.fresh, hs.pin, hsz, fun i a ha => by
    obtain ⟨h1, h2⟩ := h i a ha
    obtain ⟨h3, h4⟩ := hs.env i a h1
    exact ⟨h3, by rw [h2]; exact h4⟩⟩
theorem aw_toq (t i : Nat) {r n sz : Nat} {e : TypeId} {l : List Value} (hE : S.E t = some (.g (.one (.sl i r n)))) (hG : S.G i = some (r, .row (some e) sz l)) (hl : l.length = n * sz) (hz : 0 < sz) (hn : 0 < n) (hi : Nat.blt i 100000 = true)
    (h : ∀ g cap, AW P nt c KE ((S.lay i (some (r + 1, .gst (quR e sz g 0 cap n l)))).put t (some (plV (quV g 0 cap n))))) : AW P nt c KE S := fun w0 M N b0 β w tm hs => by
  have hi := blt_lt hi
  obtain ⟨ht, hv⟩ := hs.env t _ hE
  obtain ⟨A, m, cc, q1, q2, q3⟩ := hs.cur_sl hv hG
  obtain ⟨p0, e2, n2, p1, p2⟩ := hs.ents i r _ hG
  have e3 := p1 _ rfl
  subst e3
  rw [q1] at p2
  have hn2 : n2 = n := by
    have := p2.1
    rw [hl] at this
    exact (Nat.eq_of_mul_eq_mul_right hz this).symm
  subst hn2
  rcases p2.2 with ⟨p3, p4⟩ | ⟨g, cap, cur, p3, _, p4, p5, p6, p7, p8⟩
  · omega
  cases p3
  have hQ : QRow w 0 e sz g (quV g 0 cc m) m l := ⟨hl, Nat.zero_le _, 0, cc, cur, rfl, p4, p5, p6, by omega, fun j u hj => by
    rw [← p8] at hj
    have hlt : j < m * sz := by
      rcases Nat.lt_or_ge j (m * sz) with h | h
      · exact h
      · rw [List.getElem?_eq_none (by rw [List.length_take]; omega)] at hj; cases hj
    rw [List.getElem?_take_of_lt hlt] at hj
    rw [Nat.zero_add]; simpa using hj⟩
  obtain ⟨β', h1, h2, h3, h4⟩ := hs.change1 (w' := w) i (r + 1) (.gst (quR e sz g 0 cc m l)) (.pointer (some ⟨g, 0, none⟩)) rfl rfl rfl (Nat.le_refl _)
    (fun r1 e1 hg => by rw [hG] at hg; cases hg; exact ⟨Nat.le_succ _, fun he => by omega⟩)
    (fun k hk hne => rfl)
    (fun b _ hb => by
      have hgb : g = b := Option.some.inj hb
      subst hgb
      exact ⟨(Array.getElem?_eq_some_iff.1 p4).1, .inr ⟨r, _, hG, trivial, by rw [q1]; rfl⟩⟩)
    (fun h => by omega)
    (fun β' G'' _ _ hok hold hβ => ⟨g, _, hβ, p4, rfl, w, p4, hQ⟩)
  have hs' := h1.put (i := t) (a := plV (quV g 0 cc m)) (v := quV g 0 cc m) ht ⟨rfl, rfl⟩
  have e5 : tm.setIfInBounds t (quV g 0 cc m) = tm := by
    apply Array.ext
    · simp
    · intro j h5 h6
      by_cases hj : t = j
      · subst hj
        have hq : tm[t] = quV g 0 cc m := by
          have : tm.getD t undef = tm[t] := by simp [h6]
          rw [← this]; exact q3
        simp [hq]
      · rw [Array.getElem_setIfInBounds_ne _ hj]
  rw [e5] at hs'
  exact h g cc w0 M N b0 β' w tm hs'
def Vals (S : St) (vs : List (Nat × Value)) : Prop := ∀ p ∈ vs, ∃ a, S.E p.1 = some a ∧ pval a = some p.2
theorem Vals.at {w0 w : World} {M N : Nat → Prop} {b0 β : Nat → Value} {tm : Array Value} {vs : List (Nat × Value)} (h : Vals S vs) (hs : Sim w0 M N b0 nt β S w tm) : ∀ p ∈ vs, Act.eval ⟨tm, []⟩ (.tmp p.1) = p.2 := fun p hp => by
  obtain ⟨a, h1, h2⟩ := h p hp
  exact pval_rep h2 (hs.env _ _ h1).2
theorem wx_gv {d i r : Nat} {op : Op} {R : Nat → Obj → Prop} {ι : Type} (V : ι → Value) (A : ι → AV) (R' : ι → Nat → Obj → Prop) (vs : List (Nat × Value)) (hd : Nat.blt d nt = true) (hG : S.G i = some (r, .gst R)) (hi : Nat.blt i 100000 = true) (hvs : Vals S vs)
    (hex : ∀ (tm : Array Value) (w : World) (g : Nat) (o : Obj), w.heap[g]? = some o → R g o → (∀ p ∈ vs, Act.eval ⟨tm, []⟩ (.tmp p.1) = p.2) → ∃ j, (execOp (Act.eval ⟨tm, []⟩) ⟨some d, op, ty, pos, af, none⟩).run P w = .ok (.value (V j)) w ∧ R' j g o)
    (hv : ∀ (j : ι) (w : World) (β : Nat → Value) (G : Blk) (ok : Nat → Prop), (A j).rep w β G ok (V j))
    (k : ∀ j, WX P nt ops rest ((S.lay i (some (r, .gst (R' j)))).put d (some (A j))) K) : WX P nt ops (⟨some d, op, ty, pos, af, none⟩ :: rest) S K := fun w0 M N b0 β w tm hs => by
  have hi := blt_lt hi
  obtain ⟨g, o, m1, m2, m3⟩ := hs.ents i r _ hG
  obtain ⟨j, h1, h2⟩ := hex tm w g o m2 m3 (hvs.at hs)
  obtain ⟨β', k1, k2, k3, k4⟩ := hs.change1 (w' := w) i r (.gst (R' j)) (β i) rfl rfl rfl (Nat.le_refl _)
    (fun r1 e1 hg => by rw [hG] at hg; cases hg; exact ⟨Nat.le_refl _, fun _ => rfl⟩)
    (fun k hk hne => rfl)
    (fun b _ hb => ⟨(hs.fresh i r _ b hG trivial hb).1, .inr ⟨r, _, hG, trivial, hb⟩⟩)
    (fun h => by omega)
    (fun β' G'' _ _ hok hold hβ => ⟨g, o, hβ.trans m1, m2, h2⟩)
  exact wpList_plain rfl fun K1 hK1 => wp_value (v := V j) (w' := w) h1 (hK1 _ _ (k j w0 M N b0 β' w _ (k1.put (blt_lt hd) (hv _ _ _ _ _))))
theorem wx_gw {i r : Nat} {op : Op} {R : Nat → Obj → Prop} (R' : Nat → Obj → Prop) (vs : List (Nat × Value)) (hG : S.G i = some (r, .gst R)) (hi : Nat.blt i 100000 = true) (hvs : Vals S vs)
    (hex : ∀ (tm : Array Value) (w : World) (g : Nat) (o : Obj), w.heap[g]? = some o → R g o → (∀ p ∈ vs, Act.eval ⟨tm, []⟩ (.tmp p.1) = p.2) → ∃ w' o', (execOp (Act.eval ⟨tm, []⟩) ⟨none, op, ty, pos, af, none⟩).run P w = .ok .skip w' ∧ Oth g w w' ∧ w'.heap[g]? = some o' ∧ R' g o')
    (k : WX P nt ops rest (S.lay i (some (r, .gst R'))) K) : WX P nt ops (⟨none, op, ty, pos, af, none⟩ :: rest) S K := fun w0 M N b0 β w tm hs => by
  have hi := blt_lt hi
  obtain ⟨g, o, m1, m2, m3⟩ := hs.ents i r _ hG
  obtain ⟨w', o', h1, h2, h3, h4⟩ := hex tm w g o m2 m3 (hvs.at hs)
  obtain ⟨β', k1, k2, k3, k4⟩ := hs.change1 (w' := w') i r (.gst R') (β i) h2.os h2.tape h2.output h2.size
    (fun r1 e1 hg => by rw [hG] at hg; cases hg; exact ⟨Nat.le_refl _, fun _ => rfl⟩)
    (fun k hk hne => h2.block k hk (fun ek => hne r _ hG trivial (by rw [m1, ek]; rfl)))
    (fun b _ hb => ⟨Nat.lt_of_lt_of_le (hs.fresh i r _ b hG trivial hb).1 h2.size, .inr ⟨r, _, hG, trivial, hb⟩⟩)
    (fun h => by omega)
    (fun β' G'' _ _ hok hold hβ => ⟨g, o', hβ.trans m1, h3, h4⟩)
  exact wpList_plain rfl fun K1 hK1 => wp_skipv (w' := w') h1 (hK1 _ _ (k w0 M N b0 β' w' _ k1))
theorem wx_gnew {d : Nat} {op : Op} (V : Nat → Value) (R : Nat → Nat → Obj → Prop) (o : Obj) (hd : (Nat.blt d nt && Nat.blt (d * 16) 100000) = true) (hG : S.G (d * 16) = none)
    (hex : ∀ (tm : Array Value) (w : World), (execOp (Act.eval ⟨tm, []⟩) ⟨some d, op, ty, pos, af, none⟩).run P w = .ok (.value (V w.heap.size)) (w.alloc o)) (hR : ∀ w : World, R w.heap.size w.heap.size o) (hv : ∀ g, (V g).oneCell' = true)
    (k : ∀ g, WX P nt ops rest ((S.lay (d * 16) (some (0, .gst (R g)))).put d (some (plV (V g)))) K) : WX P nt ops (⟨some d, op, ty, pos, af, none⟩ :: rest) S K := fun w0 M N b0 β w tm hs => by
  simp only [Bool.and_eq_true] at hd
  have hd1 := blt_lt hd.1
  have hd2 := blt_lt hd.2
  obtain ⟨β', k1, k2, k3, k4⟩ := hs.change1 (w' := w.alloc o) (d * 16) 0 (.gst (R w.heap.size)) (.pointer (some ⟨w.heap.size, 0, none⟩)) rfl rfl rfl (by simp)
    (fun r1 e1 hg => by rw [hG] at hg; cases hg)
    (fun k hk hne => Below.heap_alloc w o k hk)
    (fun b _ hb => by cases hb; exact ⟨by simp, .inl (Nat.le_refl _)⟩)
    (fun h => by omega)
    (fun β' G'' _ _ hok hold hβ => ⟨w.heap.size, o, hβ, heap_alloc_new w o, hR w⟩)
  exact wpList_plain rfl fun K1 hK1 => wp_value (v := V w.heap.size) (w' := w.alloc o) (hex tm w) (hK1 _ _ (k w.heap.size w0 M N b0 β' _ _ (k1.put hd1 ⟨rfl, hv _⟩)))
theorem wx_gpush (hT : TabOk P T) {t e by' i j r r2 n g off cap sz d tx ty' : Nat} {agg : Bool} {z xs l : List Value} (hd : Nat.blt d nt = true) (hl : find1 T.elt t = some (none, e, agg, sz, by')) (hz : find1 T.zer e = some z) (hzl : z.length = sz)
    (hx : S.E tx = some (plV (quV g off cap n))) (hG : S.G i = some (r, .gst (quR e sz g off cap n xs))) (hy : S.E ty' = some (.g (.one (.sl j r2 1)))) (hG2 : S.G j = some (r2, .row (some e) sz l)) (hl1 : l.length = 1 * sz) (hi : Nat.blt i 100000 = true) (hb : Nat.ble by' 1000 = true) (hn : n ≤ 1000000)
    (k : ∀ g' off' cap', WX P nt ops rest ((S.lay i (some (r + 1, .gst (quR e sz g' off' cap' (n + 1) (xs ++ l))))).put d (some (plV (quV g' off' cap' (n + 1))))) K) :
    WX P nt ops (⟨some d, .call { callee := .builtin .append, args := #[.tmp tx, .tmp ty'], argTypes := #[t, t] }, ty, pos, af, none⟩ :: rest) S K := fun w0 M N b0 β w tm hs => by
  have hi := blt_lt hi
  have hby' : by' ≤ 1000 := Nat.le_of_ble_eq_true hb
  obtain ⟨hu, hlay, hpos, i0, hi0, hby, hisz⟩ := elt_facts hT hl
  obtain ⟨i', z1, hi', hz1, hzc, hz2⟩ := zer_facts hT hz
  have ei : i' = i0 := by rw [hi0] at hi'; exact (Option.some.inj hi').symm
  subst ei
  obtain ⟨hx1, hx2⟩ := hs.env tx _ hx
  obtain ⟨hy1, hy2⟩ := hs.env ty' _ hy
  obtain ⟨g0, o, m1, m2, m3⟩ := hs.ents i r _ hG
  obtain ⟨rfl, hQ⟩ := quR_at m3 m2
  obtain ⟨n', l', ⟨⟨rfl, rfl⟩, _⟩, hro⟩ := getSl_run (F := Ft.all) (S := S) (K := fun _ => True) (sz := sz) (k := fun n' l' => .need (n' = 1 ∧ l' = l) .done) (x := .g (.one (.sl j r2 1))) ⟨rfl, by rw [hG2]; exact ⟨⟨rfl, rfl, hpos, hl1⟩, ⟨rfl, rfl⟩, trivial⟩⟩ hs hy2
  obtain ⟨⟨b1, b2⟩, A, cc, b3, b4, b5, b6⟩ := hro
  obtain ⟨bb, boff, rfl, _, hc⟩ := b6 (by decide)
  obtain ⟨v', w', G', c1, c2, c3, c4⟩ := hQ.append (P := P) t ty i' z1 by' hu hi0 hz1 hisz hby (by rw [hzc]; simpa using hzl) hpos (Nat.zero_le _) ⟨bb, boff, none⟩ cc l' hl1 (fun j u hj => by rw [add_lit]; exact hc j u hj) (fun u hu' => (List.all_eq_true.1 b2) u hu') (by unfold maxLen; omega)
    (calc (n + 1) * by' ≤ 1000001 * 1000 := Nat.mul_le_mul (by omega) hby'
          _ ≤ 140737488355328 := by decide)
  obtain ⟨off', cap', cur, d1, d2, d3⟩ := c2.ex
  subst d1
  have hlt : G' < w'.heap.size := c2.lt
  obtain ⟨β', k1, k2, k3, k4⟩ := hs.change1 (w' := w') i (r + 1) (.gst (quR e sz G' off' cap' (n + 1) (xs ++ l'))) (.pointer (some ⟨G', 0, none⟩)) c3.os c3.tape c3.output c3.size
    (fun r1 e1 hg => by rw [hG] at hg; cases hg; exact ⟨Nat.le_succ _, fun he => by omega⟩)
    (fun k hk hne => c3.block k hk (fun ek => hne r _ hG trivial (by rw [m1, ek]; rfl)))
    (fun b _ hb => by
      have hgb : G' = b := Option.some.inj hb
      subst hgb
      refine ⟨hlt, ?_⟩
      rcases c4 with rfl | h
      · right; exact ⟨r, _, hG, trivial, by rw [m1]; rfl⟩
      · left; exact h)
    (fun h => by omega)
    (fun β' G'' _ _ hok hold hβ => ⟨G', _, hβ, d2, rfl, w', d2, c2⟩)
  refine wpList_plain rfl fun K1 hK1 => wp_value (v := quV G' off' cap' (n + 1)) (w' := w') ?_ (hK1 _ _ (k G' off' cap' w0 M N b0 β' w' _ (k1.put (blt_lt hd) ⟨rfl, rfl⟩)))
  unfold execOp
  have ex : Act.eval ⟨tm, []⟩ (.tmp tx) = quV g0 off cap n := hx2.1
  have ey : Act.eval ⟨tm, []⟩ (.tmp ty') = .slice (some ⟨bb, boff, none⟩) 1 cc := b3
  simp only [resolve, invoke, builtin, Sem.run_bind, Sem.run_pure, Result.andThen_ok, List.map_toArray, List.map_cons, List.map_nil, ex, ey, c1]
theorem wx_arr {t e m d x n sz : Nat} {l : List Value} (hu : P.underlying t = some (.array m e)) (hd : Nat.blt d nt = true) (hx : S.E x = some (.g (.one (.ro sz n l)))) (hm : m ≤ n) (h0 : 0 < n)
    (k : WX P nt ops rest (S.put d (some (.g (.one (.rp l))))) K) : WX P nt ops (⟨some d, .sliceToArrayPointer t (.tmp x), ty, pos, af, none⟩ :: rest) S K := fun w0 M N b0 β w tm hs => by
  obtain ⟨_, ⟨b1, b2⟩, A, cc, b3, b4, b5, b6⟩ := hs.env x _ hx
  obtain ⟨bb, boff, rfl, hok, hc⟩ := b6 h0
  refine wpList_plain rfl fun K1 hK1 => wp_value (v := .pointer (some ⟨bb, boff, none⟩)) (w' := w) ?_ (hK1 _ _ (k w0 M N b0 β w _ (hs.put (blt_lt hd) ⟨b2, bb, boff, rfl, hok, hc⟩)))
  unfold execOp
  have ex : Act.eval ⟨tm, []⟩ (.tmp x) = .slice (some ⟨bb, boff, none⟩) n cc := b3
  simp only [ex, Instr.arrayAt, Sem.run_bind, run_underlying hu, Result.andThen_ok, Sem.run_ite, Sem.run_pure]
  rw [if_neg (by omega)]
  rfl
end
abbrev Fl := Nat → Bool
def up1 (f : Fl) (i : Nat) : Fl := fun j => bif Nat.beq j i then true else f j
def upv (v : Nat → Value) (i : Nat) (x : Value) : Nat → Value := fun j => bif Nat.beq j i then x else v j
theorem up1_same (f : Fl) (i : Nat) : up1 f i i = true := by simp [up1, Nat.beq_refl]
theorem up1_ne (f : Fl) {i j : Nat} (h : j ≠ i) : up1 f i j = f j := by
  have : Nat.beq j i = false := by rw [Bool.eq_false_iff]; intro hb; exact h (Nat.eq_of_beq_eq_true hb)
  simp [up1, this]
theorem upv_same (v : Nat → Value) (i : Nat) (x : Value) : upv v i x i = x := by simp [upv, Nat.beq_refl]
theorem upv_ne (v : Nat → Value) {i j : Nat} (x : Value) (h : j ≠ i) : upv v i x j = v j := by
  have : Nat.beq j i = false := by rw [Bool.eq_false_iff]; intro hb; exact h (Nat.eq_of_beq_eq_true hb)
  simp [upv, this]
theorem up1_mono (f : Fl) (i j : Nat) (h : f j = true) : up1 f i j = true := by
  rcases Nat.decEq j i with h1 | h1
  · rw [up1_ne _ h1]; exact h
  · subst h1; exact up1_same _ _
def dsO (ops : Array Oper) (i : Nat) : Option Tmp := (ops[i]?).bind (·.dst)
structure OgW (ops : Array Oper) (N : Nat) (tm0 : Array Value) (M : Fl → (Nat → Value) → World → Prop) (f : Fl) (a : Act) (w : World) : Prop where
  df : a.defers = []
  sz : a.tmps.size = N
  fr : ∀ t, (∀ i, dsO ops i ≠ some t) → a.tmps.getD t undef = tm0.getD t undef
  cl : ∀ i o, ops[i]? = some o → f i = true → ∀ e ∈ o.after, Region.binds .any e = true → f e.on = true
  ex : ∃ v, (∀ i d, f i = true → dsO ops i = some d → a.tmps.getD d undef = v i) ∧ M f v w
def ogB (ops : Array Oper) (N : Nat) : Bool :=
  (List.range ops.size).all fun i => match ops[i]? with
    | none => false
    | some o => o.guard.isNone && (o.after.all fun e => decide (e.on < i)) && match o.dst with
      | none => true
      | some d => decide (d < N) && (List.range i).all fun j => !(dsO ops j == some d)
section
variable {P : Program} {ops : Array Oper} {Q : Exit → Act → World → Prop} {N : Nat} {tm0 : Array Value} {M : Fl → (Nat → Value) → World → Prop}
theorem ogB_at (h : ogB ops N = true) {i : Nat} {o : Oper} (ho : ops[i]? = some o) : o.guard = none ∧ (∀ e ∈ o.after, e.on < i) ∧ ∀ d, o.dst = some d → d < N ∧ ∀ j, j < i → dsO ops j ≠ some d := by
  have hlt : i < ops.size := (Array.getElem?_eq_some_iff.1 ho).1
  have h1 := List.all_eq_true.1 h i (List.mem_range.2 hlt)
  rw [ho] at h1
  simp only [Bool.and_eq_true] at h1
  obtain ⟨⟨h2, h3⟩, h4⟩ := h1
  refine ⟨by simpa using h2, fun e he => ?_, fun d hd => ?_⟩
  · have := (Array.all_eq_true_iff_forall_mem.1 h3) e he
    simpa using this
  · rw [hd] at h4
    simp only [Bool.and_eq_true, decide_eq_true_eq, Bool.not_eq_true', List.all_eq_true, List.mem_range] at h4
    refine ⟨h4.1, fun j hj e => ?_⟩
    have := h4.2 j hj
    rw [e] at this
    simp at this
theorem ready_done (hc : ogB ops N = true) {listed : Array Bool} (hs : listed.size = ops.size) (hr : Region.ready .any ops listed = []) : ∀ i, i < ops.size → listed.getD i false = true := by
  intro i
  induction i using Nat.strongRecOn with
  | ind i ih =>
    intro hi
    cases hb : listed.getD i false with
    | true => rfl
    | false =>
      exfalso
      have ho : ops[i]? = some ops[i] := Array.getElem?_eq_getElem hi
      have hmem : i ∈ Region.ready .any ops listed := by
        refine mem_ready.2 ⟨?_, ops[i], ho, fun e he _ => ?_⟩
        · have : i < listed.size := by omega
          simp [Array.getD, this] at hb ⊢
          exact hb
        · have h1 := (ogB_at hc ho).2.1 e he
          exact ih e.on h1 (by omega)
      rw [hr] at hmem; cases hmem
def lft (l : Array Bool) : Nat := l.toList.countP (· == false)
theorem lft_set {l : Array Bool} {i : Nat} (h : l[i]? = some false) : lft (l.setIfInBounds i true) + 1 = lft l := by
  obtain ⟨l⟩ := l
  unfold lft
  simp only [List.setIfInBounds_toArray]
  have h' : l[i]? = some false := by simpa using h
  clear h
  induction l generalizing i with
  | nil => simp at h'
  | cons b l ih =>
    cases i with
    | zero =>
      simp at h'
      subst h'
      simp
    | succ i =>
      simp at h'
      rw [List.set_cons_succ, List.countP_cons, List.countP_cons, ← ih (by simpa using h')]
      omega
theorem og_any (hc : ogB ops N = true)
    (hs : ∀ (f : Fl) (i : Nat) (o : Oper) (a : Act) (w : World) (v : Nat → Value), ops[i]? = some o → f i = false → (∀ e ∈ o.after, Region.binds .any e = true → f e.on = true) → (∀ i o, ops[i]? = some o → f i = true → ∀ e ∈ o.after, Region.binds .any e = true → f e.on = true) → a.defers = [] → (∀ t, (∀ i, dsO ops i ≠ some t) → a.tmps.getD t undef = tm0.getD t undef) → (∀ j d, f j = true → dsO ops j = some d → a.eval (.tmp d) = v j) → M f v w →
      o.wp P a w (fun a' w' => ∃ x, a' = a.put o.dst x ∧ M (up1 f i) (upv v i x) w') Q)
    (he : ∀ (f : Fl) (a : Act) (w : World) (v : Nat → Value), (∀ i, i < ops.size → f i = true) → a.defers = [] → a.tmps.size = N → (∀ t, (∀ i, dsO ops i ≠ some t) → a.tmps.getD t undef = tm0.getD t undef) → M f v w → Q .normal a w) :
    ∀ (fuel : Nat) (listed : Array Bool) (a : Act) (w : World), listed.size = ops.size → lft listed ≤ fuel → OgW ops N tm0 M (fun i => listed.getD i false) a w → wpAny P .any ops Q fuel listed a w := by
  have hend : ∀ (listed : Array Bool) (a : Act) (w : World), listed.size = ops.size → Region.ready .any ops listed = [] → OgW ops N tm0 M (fun i => listed.getD i false) a w → Q .normal a w := fun listed a w hsz hr h => by
    obtain ⟨v, h1, h2⟩ := h.ex
    exact he _ a w v (ready_done hc hsz hr) h.df h.sz h.fr h2
  have hz : ∀ (listed : Array Bool) (i : Nat), i ∈ Region.ready .any ops listed → lft listed ≠ 0 := fun listed i hi h0 => by
    obtain ⟨h1, o, ho, h2⟩ := mem_ready.1 hi
    have : listed[i]? = some false := by
      rcases Nat.lt_or_ge i listed.size with h | h
      · simp [Array.getD, h] at h1 ⊢; exact h1
      · simp [Array.getD, Nat.not_lt.2 h] at h1
    have := lft_set this
    omega
  intro fuel
  induction fuel with
  | zero =>
    intro listed a w hsz hl h
    have hr : Region.ready .any ops listed = [] := by
      cases hq : Region.ready .any ops listed with
      | nil => rfl
      | cons i l => exact absurd (by omega) (hz listed i (by rw [hq]; exact List.mem_cons_self))
    exact ⟨hr, hend listed a w hsz hr h⟩
  | succ fuel ih =>
    intro listed a w hsz hl h
    refine ⟨fun hr => hend listed a w hsz hr h, fun i hi => ?_⟩
    obtain ⟨h1, o, ho, h2⟩ := mem_ready.1 hi
    have hlf : listed[i]? = some false := by
      rcases Nat.lt_or_ge i listed.size with h | h
      · simp [Array.getD, h] at h1 ⊢; exact h1
      · simp [Array.getD, Nat.not_lt.2 h] at h1
    have hlt : i < listed.size := (Array.getElem?_eq_some_iff.1 hlf).1
    have hfi : listed.getD i false = false := by rw [Array.getD_eq_getD_getElem?, hlf]; rfl
    have hup : (fun j => (listed.setIfInBounds i true).getD j false) = up1 (fun j => listed.getD j false) i := by
      funext j
      rcases Nat.decEq j i with hj | hj
      · rw [up1_ne _ hj, Array.getD_eq_getD_getElem?, Array.getD_eq_getD_getElem?, Array.getElem?_setIfInBounds_ne (Ne.symm hj)]
      · subst hj; rw [up1_same, Array.getD_eq_getD_getElem?, Array.getElem?_setIfInBounds_self_of_lt hlt]; rfl
    obtain ⟨b1, b2, b3⟩ := ogB_at hc ho
    obtain ⟨v, hv, hM⟩ := h.ex
    have hst := hs (fun j => listed.getD j false) i o a w v ho hfi h2 h.cl h.df h.fr hv hM
    unfold wpOp
    rw [ho]
    have hw : Region.wanted o (yielded ops a.tmps) = true := by unfold Region.wanted; rw [b1]
    simp only [hw, if_true]
    left
    refine Oper.wp_mono (fun a' w' hh => ?_) hst
    obtain ⟨x, rfl, hM'⟩ := hh
    refine ih _ _ _ (by rw [Array.size_setIfInBounds]; exact hsz) (by have := lft_set hlf; omega) ?_
    rw [hup]
    have hget : ∀ d, o.dst ≠ some d → (a.put o.dst x).tmps.getD d undef = a.tmps.getD d undef := by
      intro d hd
      cases hq : o.dst with
      | none => rfl
      | some d' =>
        have hne : d' ≠ d := fun e => hd (by rw [hq, e])
        show (a.tmps.setIfInBounds d' x).getD d undef = _
        rw [Array.getD_eq_getD_getElem?, Array.getD_eq_getD_getElem?, Array.getElem?_setIfInBounds_ne hne]
    refine ⟨?_, ?_, ?_, ?_, ?_⟩
    · cases o.dst <;> exact h.df
    · cases o.dst with
      | none => exact h.sz
      | some d => show (a.tmps.setIfInBounds d x).size = N; rw [Array.size_setIfInBounds]; exact h.sz
    · intro t ht
      rw [hget _ (fun e => ht i (by unfold dsO; rw [ho]; exact e))]
      exact h.fr t ht
    · intro j oj hoj hj e hee hb
      rcases Nat.decEq j i with hji | hji
      · rw [up1_ne _ hji] at hj
        exact up1_mono _ _ _ (h.cl j oj hoj hj e hee hb)
      · subst hji
        rw [ho] at hoj; cases hoj
        exact up1_mono _ _ _ (h2 e hee hb)
    · refine ⟨upv v i x, fun j d hj hd => ?_, hM'⟩
      rcases Nat.decEq j i with hji | hji
      · rw [up1_ne _ hji] at hj
        rw [upv_ne _ _ hji, hget, hv j d hj hd]
        intro e
        obtain ⟨c1, c3⟩ := b3 d e
        rcases Nat.lt_or_ge j i with h5 | h5
        · exact c3 j h5 hd
        · have hji2 : i < j := by omega
          have hoj : ∃ oj, ops[j]? = some oj ∧ oj.dst = some d := by
            unfold dsO at hd
            cases hq : ops[j]? with
            | none => rw [hq] at hd; cases hd
            | some oj => rw [hq] at hd; exact ⟨oj, rfl, hd⟩
          obtain ⟨oj, hoj, hdj⟩ := hoj
          exact ((ogB_at hc hoj).2.2 d hdj).2 i hji2 (by unfold dsO; rw [ho]; exact e)
      · subst hji
        have hd' : o.dst = some d := by unfold dsO at hd; rw [ho] at hd; exact hd
        rw [upv_same, hd']
        show (a.tmps.setIfInBounds d x).getD d undef = x
        have hlt2 : d < a.tmps.size := by rw [h.sz]; exact (b3 d hd').1
        rw [Array.getD_eq_getD_getElem?, Array.getElem?_setIfInBounds_self_of_lt hlt2]; rfl
theorem og_region {id : Nat} {w : World} (hm : P.follows .mixedOrders = true) (hc : ogB ops N = true) (hsz : tm0.size = N) (h0 : M (fun _ => false) (fun _ => undef) w.drew)
    (hs : ∀ (f : Fl) (i : Nat) (o : Oper) (a : Act) (w : World) (v : Nat → Value), ops[i]? = some o → f i = false → (∀ e ∈ o.after, Region.binds .any e = true → f e.on = true) → (∀ i o, ops[i]? = some o → f i = true → ∀ e ∈ o.after, Region.binds .any e = true → f e.on = true) → a.defers = [] → (∀ t, (∀ i, dsO ops i ≠ some t) → a.tmps.getD t undef = tm0.getD t undef) → (∀ j d, f j = true → dsO ops j = some d → a.eval (.tmp d) = v j) → M f v w →
      o.wp P a w (fun a' w' => ∃ x, a' = a.put o.dst x ∧ M (up1 f i) (upv v i x) w') Q)
    (he : ∀ (f : Fl) (a : Act) (w : World) (v : Nat → Value), (∀ i, i < ops.size → f i = true) → a.defers = [] → a.tmps.size = N → (∀ t, (∀ i, dsO ops i ≠ some t) → a.tmps.getD t undef = tm0.getD t undef) → M f v w → Q .normal a w) :
    (Code.region id ops true).wp P Q ⟨tm0, []⟩ w := by
  refine wp_region_any hm ?_
  refine og_any (M := M) hc hs he ops.size _ ⟨tm0, []⟩ w.drew (by simp) ?_ ?_
  · unfold lft
    exact Nat.le_trans List.countP_le_length (by simp)
  · have hf : (fun i => (Array.replicate ops.size false).getD i false) = (fun _ : Nat => false) := by
      funext i
      rw [Array.getD_eq_getD_getElem?]
      rcases Nat.lt_or_ge i ops.size with h | h
      · simp [h]
      · simp [h]
    rw [hf]
    exact ⟨rfl, hsz, fun t _ => rfl, (by intro i o _ h; cases h), ⟨fun _ => undef, (by intro i d h; cases h), h0⟩⟩
def depB (af : Array Edge) (n : Nat) : Bool := af.any fun e => Region.binds .any e && Nat.beq e.on n
theorem depB_at {af : Array Edge} {n : Nat} (h : depB af n = true) {f : Fl} (hf : ∀ e ∈ af, Region.binds .any e = true → f e.on = true) : f n = true := by
  unfold depB at h
  rw [Array.any_eq_true'] at h
  obtain ⟨e, he, h2⟩ := h
  rw [Bool.and_eq_true] at h2
  have := Nat.eq_of_beq_eq_true h2.2
  rw [← this]
  exact hf e he h2.1
end
theorem wx_gtail {P : Program} {T : Tab} {S : St} {nt : Nat} {K : St → Prop} {ops : Array Oper} {rest : List Oper} {ty : TypeId} {pos : String} {af : Array Edge} (hT : TabOk P T) {t e by' i r n g off cap sz d tx : Nat} {agg : Bool} {xs : List Value} (hd : Nat.blt d nt = true) (hl : find1 T.elt t = some (none, e, agg, sz, by'))
    (hx : S.E tx = some (plV (quV g off cap (n + 1)))) (hG : S.G i = some (r, .gst (quR e sz g off cap (n + 1) xs))) (hi : Nat.blt i 100000 = true)
    (k : ∀ off' cap', WX P nt ops rest ((S.lay i (some (r, .gst (quR e sz g off' cap' n (xs.drop sz))))).put d (some (plV (quV g off' cap' n)))) K) :
    WX P nt ops (⟨some d, .slice t (.tmp tx) (some (.const (.int .i64 1))) none none, ty, pos, af, none⟩ :: rest) S K := by
  refine wx_gv (i := i) (ι := Nat × Nat) (fun p => quV g p.1 p.2 n) (fun p => plV (quV g p.1 p.2 n)) (fun p => quR e sz g p.1 p.2 n (xs.drop sz)) [(tx, quV g off cap (n + 1))] hd hG hi (fun p hp => ?_) (fun tm w g' o hw hR hv => ?_) (fun p w β G ok => ⟨rfl, rfl⟩) (fun p => k p.1 p.2)
  · rw [List.mem_singleton] at hp; subst hp
    exact ⟨_, hx, rfl⟩
  · obtain ⟨rfl, hQ⟩ := quR_at hR hw
    have e1 := hv (tx, quV g' off cap (n + 1)) List.mem_cons_self
    obtain ⟨off0, cap0, e2, h3, hQt⟩ := hQ.tail
    cases e2
    have hrun := run_piece (P := P) (w := w) (A := some ⟨g', off, none⟩) (n := n + 1) (c := cap) (lv := some (.int .i64 1)) (hv := none) (mv := none) (l := 1) (h' := ((n + 1 : Nat) : Int)) (m := ((n + 1 : Nat) : Int)) hT by' hl rfl rfl rfl (by omega) (by omega) (Int.le_refl _) (Int.le_refl _) h3 (fun h => rfl)
    have e3 : Act.eval ⟨tm, []⟩ (.const (.int .i64 1)) = .int .i64 1 := rfl
    have e4 : ((n + 1 : Nat) : Int).toNat - (1 : Int).toNat = n := by omega
    simp only [if_true, e4] at hrun
    by_cases hc : cap = 1
    · subst hc
      have hn : n = 0 := by omega
      subst hn
      refine ⟨(off, 0), ?_, rfl, w, hw, ?_⟩
      · unfold execOp
        simp only [Option.map_some, Option.map_none, e1, e3, Sem.run_bind, hrun, Result.andThen_ok, Sem.run_pure]
        rfl
      · obtain ⟨_, _, cur, q1, q2, q3, q4, q5, q6⟩ := hQ.ex
        cases q1
        have hl0 : (xs.drop sz).length = 0 := by rw [List.length_drop, hQ.len]; omega
        exact ⟨by rw [hl0, Nat.zero_mul], Nat.zero_le _, off, 0, cur, rfl, q2, Nat.le_refl _, Nat.zero_le _, by omega, fun j u hj => by rw [List.getElem?_eq_none (by omega)] at hj; cases hj⟩
    · refine ⟨(off + sz, cap - 1), ?_, rfl, w, hw, hQt⟩
      unfold execOp
      simp only [Option.map_some, Option.map_none, e1, e3, Sem.run_bind, hrun, Result.andThen_ok, Sem.run_pure]
      rw [if_neg (by omega)]
      simp [add_lit]
end Go.Proofs.Ytfbcblknahicdaa
