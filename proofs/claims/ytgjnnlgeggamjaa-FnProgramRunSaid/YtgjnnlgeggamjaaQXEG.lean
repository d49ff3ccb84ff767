/- Tab, ZA, PLK, LE, LA0, PPA, PPB, PKA, PPC, PPD, PKB: laid into one text. -/
import Derived.Test.YtgjnnlgeggamjaaQXED
import Derived.Test.YtgjnnlgeggamjaaQXEE
import Derived.Test.YtgjnnlgeggamjaaRows
import Derived.ChangeKeysEq

namespace Go.Proofs.Ytgjnnlgeggamjaa
set_option maxRecDepth 10000
theorem allN {α : Type} {Q : α → Prop} : ∀ p ∈ ([] : List α), Q p := fun p hp => by cases hp
theorem allC {α : Type} {Q : α → Prop} {x : α} {l : List α} (h : Q x) (h' : ∀ p ∈ l, Q p) : ∀ p ∈ x :: l, Q p := fun p hp => by
  rcases List.mem_cons.1 hp with rfl | hp
  · exact h
  · exact h' p hp
def T0 : Tab := ⟨[(2, (false, 1)), (3, (false, 1)), (4, (false, 1)), (5, (false, 1)), (9, (false, 1)), (12, (false, 1)), (13, (true, 2)), (19, (true, 1)), (21, (false, 1)), (22, (false, 1)), (24, (false, 1)), (30, (false, 1)), (35, (false, 1)), (46, (true, 4)), (47, (true, 4)), (50, (true, 4)), (51, (false, 1)), (57, (false, 1)), (62, (false, 1)), (65, (true, 4)), (66, (true, 5)), (67, (true, 5)), (75, (false, 1)), (76, (true, 3)), (77, (true, 3)), (80, (false, 1)), (82, (true, 10)), (83, (true, 10)), (85, (true, 2)), (86, (true, 2)), (90, (true, 5)), (91, (true, 5)), (92, (true, 45)), (99, (false, 1)), (107, (false, 1)), (111, (false, 1))],
  [(13000, (0, false, 1)), (13001, (1, false, 1)), (19000, (0, false, 1)), (46000, (0, false, 1)), (46001, (1, false, 1)), (46002, (2, false, 1)), (46003, (3, false, 1)), (47000, (0, false, 1)), (47001, (1, false, 1)), (47002, (2, false, 1)), (47003, (3, false, 1)), (50000, (0, false, 1)), (50001, (1, false, 1)), (50002, (2, false, 1)), (50003, (3, false, 1)), (66000, (0, true, 4)), (66001, (4, false, 1)), (67000, (0, true, 4)), (67001, (4, false, 1)), (76000, (0, false, 1)), (76001, (1, false, 1)), (76002, (2, false, 1)), (77000, (0, false, 1)), (77001, (1, false, 1)), (77002, (2, false, 1)), (82000, (0, true, 4)), (82001, (4, false, 1)), (82002, (5, false, 1)), (82003, (6, true, 4)), (83000, (0, true, 4)), (83001, (4, false, 1)), (83002, (5, false, 1)), (83003, (6, true, 4)), (85000, (0, false, 1)), (85001, (1, false, 1)), (86000, (0, false, 1)), (86001, (1, false, 1)), (90000, (0, false, 1)), (90001, (1, false, 1)), (90002, (2, false, 1)), (90003, (3, false, 1)), (90004, (4, false, 1)), (91000, (0, false, 1)), (91001, (1, false, 1)), (91002, (2, false, 1)), (91003, (3, false, 1)), (91004, (4, false, 1))],
  [(22, (none, 50, true, 4, 32)), (24, (none, 47, true, 4, 32)), (30, (none, 5, false, 1, 1)), (35, (none, 3, false, 1, 8)), (51, (none, 83, true, 10, 112)), (65, (some 4, 3, false, 1, 8)), (92, (some 9, 91, true, 5, 32))],
  [(2, [.int .i64 0]), (3, [.int .i64 0]), (4, [.bool false]), (5, [.int .u8 0]), (9, [.string ByteArray.empty]), (12, [.int .u64 0]), (13, [.string ByteArray.empty, .int .u64 0]), (19, [.pointer none]), (21, [.int .i32 0]), (22, [.slice none 0 0]), (24, [.slice none 0 0]), (30, [.slice none 0 0]), (35, [.slice none 0 0]), (46, [.int .i64 0, .int .i64 0, .int .i64 0, .int .i64 0]), (47, [.int .i64 0, .int .i64 0, .int .i64 0, .int .i64 0]), (50, [.int .i64 0, .int .i64 0, .int .i64 0, .int .i64 0]), (51, [.slice none 0 0]), (57, [.pointer none]), (62, [.pointer none]), (65, [.int .i64 0, .int .i64 0, .int .i64 0, .int .i64 0]), (66, [.int .i64 0, .int .i64 0, .int .i64 0, .int .i64 0, .int .i64 0]), (67, [.int .i64 0, .int .i64 0, .int .i64 0, .int .i64 0, .int .i64 0]), (75, [.pointer none]), (76, [.slice none 0 0, .int .i64 0, .int .i64 0]), (77, [.slice none 0 0, .int .i64 0, .int .i64 0]), (80, [.nilFunc]), (82, [.int .i64 0, .int .i64 0, .int .i64 0, .int .i64 0, .slice none 0 0, .slice none 0 0, .int .i64 0, .int .i64 0, .int .i64 0, .int .i64 0]), (83, [.int .i64 0, .int .i64 0, .int .i64 0, .int .i64 0, .slice none 0 0, .slice none 0 0, .int .i64 0, .int .i64 0, .int .i64 0, .int .i64 0]), (85, [.slice none 0 0, .int .i64 0]), (86, [.slice none 0 0, .int .i64 0]), (90, [.string ByteArray.empty, .bool false, .bool false, .bool false, .int .i64 0]), (91, [.string ByteArray.empty, .bool false, .bool false, .bool false, .int .i64 0]), (92, [.string ByteArray.empty, .bool false, .bool false, .bool false, .int .i64 0, .string ByteArray.empty, .bool false, .bool false, .bool false, .int .i64 0, .string ByteArray.empty, .bool false, .bool false, .bool false, .int .i64 0, .string ByteArray.empty, .bool false, .bool false, .bool false, .int .i64 0, .string ByteArray.empty, .bool false, .bool false, .bool false, .int .i64 0, .string ByteArray.empty, .bool false, .bool false, .bool false, .int .i64 0, .string ByteArray.empty, .bool false, .bool false, .bool false, .int .i64 0, .string ByteArray.empty, .bool false, .bool false, .bool false, .int .i64 0, .string ByteArray.empty, .bool false, .bool false, .bool false, .int .i64 0]), (99, [.pointer none]), (107, [.int .u32 0]), (111, [.pointer none])],
  [(13, ([.string ByteArray.empty, .int .u64 0], some [(0, 1), (1, 1)], 0)), (19, ([.pointer none], some [(0, 1)], 0)), (46, ([.int .i64 0, .int .i64 0, .int .i64 0, .int .i64 0], some [(0, 1), (1, 1), (2, 1), (3, 1)], 0)), (47, ([.int .i64 0, .int .i64 0, .int .i64 0, .int .i64 0], some [(0, 1), (1, 1), (2, 1), (3, 1)], 0)), (50, ([.int .i64 0, .int .i64 0, .int .i64 0, .int .i64 0], some [(0, 1), (1, 1), (2, 1), (3, 1)], 0)), (65, ([.int .i64 0, .int .i64 0, .int .i64 0, .int .i64 0], none, 1)), (66, ([.int .i64 0, .int .i64 0, .int .i64 0, .int .i64 0, .int .i64 0], some [(0, 4), (4, 1)], 0)), (67, ([.int .i64 0, .int .i64 0, .int .i64 0, .int .i64 0, .int .i64 0], some [(0, 4), (4, 1)], 0)), (76, ([.slice none 0 0, .int .i64 0, .int .i64 0], some [(0, 1), (1, 1), (2, 1)], 0)), (77, ([.slice none 0 0, .int .i64 0, .int .i64 0], some [(0, 1), (1, 1), (2, 1)], 0)), (82, ([.int .i64 0, .int .i64 0, .int .i64 0, .int .i64 0, .slice none 0 0, .slice none 0 0, .int .i64 0, .int .i64 0, .int .i64 0, .int .i64 0], some [(0, 4), (4, 1), (5, 1), (6, 4)], 0)), (83, ([.int .i64 0, .int .i64 0, .int .i64 0, .int .i64 0, .slice none 0 0, .slice none 0 0, .int .i64 0, .int .i64 0, .int .i64 0, .int .i64 0], some [(0, 4), (4, 1), (5, 1), (6, 4)], 0)), (85, ([.slice none 0 0, .int .i64 0], some [(0, 1), (1, 1)], 0)), (86, ([.slice none 0 0, .int .i64 0], some [(0, 1), (1, 1)], 0)), (90, ([.string ByteArray.empty, .bool false, .bool false, .bool false, .int .i64 0], some [(0, 1), (1, 1), (2, 1), (3, 1), (4, 1)], 0)), (91, ([.string ByteArray.empty, .bool false, .bool false, .bool false, .int .i64 0], some [(0, 1), (1, 1), (2, 1), (3, 1), (4, 1)], 0)), (92, ([.string ByteArray.empty, .bool false, .bool false, .bool false, .int .i64 0, .string ByteArray.empty, .bool false, .bool false, .bool false, .int .i64 0, .string ByteArray.empty, .bool false, .bool false, .bool false, .int .i64 0, .string ByteArray.empty, .bool false, .bool false, .bool false, .int .i64 0, .string ByteArray.empty, .bool false, .bool false, .bool false, .int .i64 0, .string ByteArray.empty, .bool false, .bool false, .bool false, .int .i64 0, .string ByteArray.empty, .bool false, .bool false, .bool false, .int .i64 0, .string ByteArray.empty, .bool false, .bool false, .bool false, .int .i64 0, .string ByteArray.empty, .bool false, .bool false, .bool false, .int .i64 0], none, 5))]⟩
theorem T0ok : TabOk Try.prog T0 :=
  ⟨(allC (by kernel_rfl) (allC (by kernel_rfl) (allC (by kernel_rfl) (allC (by kernel_rfl) (allC (by kernel_rfl) (allC (by kernel_rfl) (allC (by kernel_rfl) (allC (by kernel_rfl) (allC (by kernel_rfl) (allC (by kernel_rfl) (allC (by kernel_rfl) (allC (by kernel_rfl) (allC (by kernel_rfl) (allC (by kernel_rfl) (allC (by kernel_rfl) (allC (by kernel_rfl) (allC (by kernel_rfl) (allC (by kernel_rfl) (allC (by kernel_rfl) (allC (by kernel_rfl) (allC (by kernel_rfl) (allC (by kernel_rfl) (allC (by kernel_rfl) (allC (by kernel_rfl) (allC (by kernel_rfl) (allC (by kernel_rfl) (allC (by kernel_rfl) (allC (by kernel_rfl) (allC (by kernel_rfl) (allC (by kernel_rfl) (allC (by kernel_rfl) (allC (by kernel_rfl) (allC (by kernel_rfl) (allC (by kernel_rfl) (allC (by kernel_rfl) (allC (by kernel_rfl) allN)))))))))))))))))))))))))))))))))))),
   (allC ⟨by kernel_rfl, by decide⟩ (allC ⟨by kernel_rfl, by decide⟩ (allC ⟨by kernel_rfl, by decide⟩ (allC ⟨by kernel_rfl, by decide⟩ (allC ⟨by kernel_rfl, by decide⟩ (allC ⟨by kernel_rfl, by decide⟩ (allC ⟨by kernel_rfl, by decide⟩ (allC ⟨by kernel_rfl, by decide⟩ (allC ⟨by kernel_rfl, by decide⟩ (allC ⟨by kernel_rfl, by decide⟩ (allC ⟨by kernel_rfl, by decide⟩ (allC ⟨by kernel_rfl, by decide⟩ (allC ⟨by kernel_rfl, by decide⟩ (allC ⟨by kernel_rfl, by decide⟩ (allC ⟨by kernel_rfl, by decide⟩ (allC ⟨by kernel_rfl, by decide⟩ (allC ⟨by kernel_rfl, by decide⟩ (allC ⟨by kernel_rfl, by decide⟩ (allC ⟨by kernel_rfl, by decide⟩ (allC ⟨by kernel_rfl, by decide⟩ (allC ⟨by kernel_rfl, by decide⟩ (allC ⟨by kernel_rfl, by decide⟩ (allC ⟨by kernel_rfl, by decide⟩ (allC ⟨by kernel_rfl, by decide⟩ (allC ⟨by kernel_rfl, by decide⟩ (allC ⟨by kernel_rfl, by decide⟩ (allC ⟨by kernel_rfl, by decide⟩ (allC ⟨by kernel_rfl, by decide⟩ (allC ⟨by kernel_rfl, by decide⟩ (allC ⟨by kernel_rfl, by decide⟩ (allC ⟨by kernel_rfl, by decide⟩ (allC ⟨by kernel_rfl, by decide⟩ (allC ⟨by kernel_rfl, by decide⟩ (allC ⟨by kernel_rfl, by decide⟩ (allC ⟨by kernel_rfl, by decide⟩ (allC ⟨by kernel_rfl, by decide⟩ (allC ⟨by kernel_rfl, by decide⟩ (allC ⟨by kernel_rfl, by decide⟩ (allC ⟨by kernel_rfl, by decide⟩ (allC ⟨by kernel_rfl, by decide⟩ (allC ⟨by kernel_rfl, by decide⟩ (allC ⟨by kernel_rfl, by decide⟩ (allC ⟨by kernel_rfl, by decide⟩ (allC ⟨by kernel_rfl, by decide⟩ (allC ⟨by kernel_rfl, by decide⟩ (allC ⟨by kernel_rfl, by decide⟩ (allC ⟨by kernel_rfl, by decide⟩ allN))))))))))))))))))))))))))))))))))))))))))))))),
   (allC ⟨by kernel_rfl, by decide⟩ (allC ⟨by kernel_rfl, by decide⟩ (allC ⟨by kernel_rfl, by decide⟩ (allC ⟨by kernel_rfl, by decide⟩ (allC ⟨by kernel_rfl, by decide⟩ (allC ⟨by kernel_rfl, by decide⟩ (allC ⟨by kernel_rfl, by decide⟩ allN))))))),
   (allC ⟨by kernel_rfl, rfl⟩ (allC ⟨by kernel_rfl, rfl⟩ (allC ⟨by kernel_rfl, rfl⟩ (allC ⟨by kernel_rfl, rfl⟩ (allC ⟨by kernel_rfl, rfl⟩ (allC ⟨by kernel_rfl, rfl⟩ (allC ⟨by kernel_rfl, rfl⟩ (allC ⟨by kernel_rfl, rfl⟩ (allC ⟨by kernel_rfl, rfl⟩ (allC ⟨by kernel_rfl, rfl⟩ (allC ⟨by kernel_rfl, rfl⟩ (allC ⟨by kernel_rfl, rfl⟩ (allC ⟨by kernel_rfl, rfl⟩ (allC ⟨by kernel_rfl, rfl⟩ (allC ⟨by kernel_rfl, rfl⟩ (allC ⟨by kernel_rfl, rfl⟩ (allC ⟨by kernel_rfl, rfl⟩ (allC ⟨by kernel_rfl, rfl⟩ (allC ⟨by kernel_rfl, rfl⟩ (allC ⟨by kernel_rfl, rfl⟩ (allC ⟨by kernel_rfl, rfl⟩ (allC ⟨by kernel_rfl, rfl⟩ (allC ⟨by kernel_rfl, rfl⟩ (allC ⟨by kernel_rfl, rfl⟩ (allC ⟨by kernel_rfl, rfl⟩ (allC ⟨by kernel_rfl, rfl⟩ (allC ⟨by kernel_rfl, rfl⟩ (allC ⟨by kernel_rfl, rfl⟩ (allC ⟨by kernel_rfl, rfl⟩ (allC ⟨by kernel_rfl, rfl⟩ (allC ⟨by kernel_rfl, rfl⟩ (allC ⟨by kernel_rfl, rfl⟩ (allC ⟨by kernel_rfl, rfl⟩ (allC ⟨by kernel_rfl, rfl⟩ (allC ⟨by kernel_rfl, rfl⟩ (allC ⟨by kernel_rfl, rfl⟩ allN)))))))))))))))))))))))))))))))))))),
   (allC ⟨by kernel_rfl, rfl⟩ (allC ⟨by kernel_rfl, rfl⟩ (allC ⟨by kernel_rfl, rfl⟩ (allC ⟨by kernel_rfl, rfl⟩ (allC ⟨by kernel_rfl, rfl⟩ (allC ⟨by kernel_rfl, rfl⟩ (allC ⟨by kernel_rfl, rfl⟩ (allC ⟨by kernel_rfl, rfl⟩ (allC ⟨by kernel_rfl, rfl⟩ (allC ⟨by kernel_rfl, rfl⟩ (allC ⟨by kernel_rfl, rfl⟩ (allC ⟨by kernel_rfl, rfl⟩ (allC ⟨by kernel_rfl, rfl⟩ (allC ⟨by kernel_rfl, rfl⟩ (allC ⟨by kernel_rfl, rfl⟩ (allC ⟨by kernel_rfl, rfl⟩ (allC ⟨by kernel_rfl, rfl⟩ allN)))))))))))))))))⟩
theorem mixed : Try.prog.follows .mixedOrders = true := by kernel_rfl
end Go.Proofs.Ytgjnnlgeggamjaa
namespace Go.Proofs.Ytgjnnlgeggamjaa
set_option linter.unusedVariables false
set_option linter.unusedSimpArgs false
set_option maxRecDepth 20000
open Go.RowKit
attribute [local irreducible] runA runX AW
theorem kM {f : FuncId} {fn : Func} {aa : List AV} {es : List Ent} {out : AV} {news es' : List Ent} (hf : Try.prog.funcs[f]? = some fn) (hs : fn.body.isSome = true)
    (h : (∀ a ∈ aa, a.fit) → (∀ e ∈ es, e.fit) → AW Try.prog fn.ntmps (fn.body.get hs) (retK T0 fn.results out news es') ⟨argsE aa, Gin es⟩) (hn : (fn.name == "runtime.NumGoroutine") = false := by rfl) (hl : Nat.ble aa.length fn.ntmps = true := by rfl) (hes : es'.length = es.length := by rfl) : Kon Try.prog f aa es out news es' :=
  kon_mk T0ok hf (Option.some_get hs).symm hn hl hes h
theorem nxA {H G : Prop} (k : H) (h : Hid H → G := by (intro hh; (first | refine r_none ?_ | refine r_gt (by rfl) (by rfl) zDD (by rfl) ?_ | refine r_gf (by rfl) (by rfl) zDD (by rfl) ?_); exact hh.out)) : G := h ⟨k⟩
theorem swA {H G : Prop} (k : H) (h : Hid H → G := by (intro hh; (first | refine r_nt (by rfl) (by rfl) zDD (by rfl) ?_ | refine r_nf (by rfl) (by rfl) zDD (by rfl) ?_ | refine r_gu (by rfl) (by rfl) (by rfl) ?_ | refine r_nil ?_); exact hh.out)) : G := h ⟨k⟩
theorem awA {H G : Prop} (k : H) (h : Hid H → G := by (intro hh; (first | refine aw_seq ?_ | refine aw_ct (by rfl) zDD ?_ | refine aw_cf (by rfl) zDD ?_ | refine aw_block ?_ | refine aw_region T0ok cfU_ok (by rfl) ?_ | refine aw_skip ?_ | refine aw_exit ?_ | refine ra_step ?_); exact hh.out)) : G := h ⟨k⟩
theorem ga0A {H G : Prop} (k : H) (h : Hid H → G := by (intro hh; (first | refine r_none ?_ | refine r_gt (by rfl) (by rfl) zDD (by rfl) ?_ | refine r_gf (by rfl) (by rfl) zDD (by rfl) ?_); refine z_op (by rfl) ?_; refine z_alV ?_ hh.out; focus (first | exact trivial | fail | exact zQZ))) : G := h ⟨k⟩
theorem ga1A {H G : Prop} (k : H) (h : Hid H → G := by (intro hh; (first | refine r_none ?_ | refine r_gt (by rfl) (by rfl) zDD (by rfl) ?_ | refine r_gf (by rfl) (by rfl) zDD (by rfl) ?_); refine z_op (by rfl) ?_; refine z_al ?_ hh.out; focus (first | exact trivial | fail | exact zQZ))) : G := h ⟨k⟩
theorem gcA {H G : Prop} (k : H) (h : Hid H → G := by (intro hh; repeat1' (first | refine aw_seq ?_ | refine aw_ct (by rfl) zDD ?_ | refine aw_cf (by rfl) zDD ?_ | refine aw_block ?_ | refine aw_region T0ok cfU_ok (by rfl) ?_ | refine aw_skip ?_ | refine aw_exit ?_ | refine ra_step ?_); exact hh.out)) : G := h ⟨k⟩
theorem gdA {H G : Prop} (k : H) (h : Hid H → G := by (intro hh; (refine aw_draw mixed T0ok cfU_ok [] (by rfl) (by kernel_rfl) ?_); exact hh.out)) : G := h ⟨k⟩
theorem rtA {H G : Prop} (k : H) (h : Hid H → G := by (intro hh; (try refine aw_ret ?_); refine ret_auto2 (by rfl) (by rfl) (by rfl) zHQ hh.out zHN zHN)) : G := h ⟨k⟩
theorem gq_ZA {H G : Prop} (k : H) (h : Hid H → G := by (intro hh; repeat1' (first | (first | (refine nxA ?_; (first | fail | ((first | (refine z_op (by rfl) ?_; first | refine z_ok ?_ ?_ | refine z_ex ?_ (by first | exact zL1 | ((first | refine mk_0 Int rfl rfl ?_ | refine mk_c Int rfl rfl rfl ?_ | refine mk_c Bool rfl rfl rfl ?_); exact zWW) | exact zL2 | exact rw_c Int rfl | exact rw_c Bool rfl | exact zL3 | fail) ?_) | ((first | refine q_callE wsT wsZ (by rfl) ?_ | refine q_callVE wsT (by rfl) (by rfl) ?_); refine ⟨_, _, _, (by first | exact k_within _ _ _ | exact k_l1In _ _ _ | exact k_okL _ | exact k_wv _ _ | assumption), _, by rfl, ?_, ?_⟩)); focus (first | exact trivial | fail | exact zQZ)) | fail)) | refine swA ?_) | refine awA ?_); exact hh.out)) : G := h ⟨k⟩
def wsT : WsT := [
  (63, ([0], true)),
  (62, ([0], true)),
  (41, ([], true)),
  (999999, ([], false))]
def wsZ : List (Nat × Nat) := [
  (999999, 0)]
def btw (n a b : Int) : Bool := decide (n ≥ a) && decide (n ≤ b)
theorem btw_t {n a b : Int} (h : btw n a b = true) : a ≤ n ∧ n ≤ b := by simpa [btw] using h
theorem k_within (n a b : Int) : Kon Try.prog 52 [vI n, vI a, vI b] [] (vB (btw n a b)) [] [] := by
  (refine kM Try.func52 rfl ?_; intro hfit hfe)
  unfold btw
  cases h1 : decide (n ≥ a)
  all_goals ((repeat (first | refine gq_ZA ?_ | (refine ga1A ?_; intro _q ⟨_he, _hq⟩))); (refine rtA ?_; try rfl))
theorem k_l1In (n a b : Int) : Kon Try.prog 64 [vI n, vI a, vI b] [] (vB (btw n a b)) [] [] := by
  (refine kM Try.func64 rfl ?_; intro hfit hfe)
  unfold btw
  cases h1 : decide (n ≥ a)
  all_goals ((repeat (first | refine gq_ZA ?_ | (refine ga1A ?_; intro _q ⟨_he, _hq⟩))); (refine rtA ?_; try rfl))
theorem k_okL (n : Int) : Kon Try.prog 65 [vI n] [] (vB (btw n 1 8)) [] [] := by
  (refine kM Try.func65 rfl ?_; intro hfit hfe)
  (repeat (first | refine gq_ZA ?_ | (refine ga1A ?_; intro _q ⟨_he, _hq⟩)))
  (refine rtA ?_; try rfl)
abbrev rdE (l : List UInt8) (c : Int) : Ent := .box [roC l, .v (.int .i64 c)]
abbrev p0 : AV := .g (.one (.ptr 100000 0 0))
def byI (l : List UInt8) (i : Int) : Int := (l.getD i.toNat 0).toNat
def pickW (l : List UInt8) (c : Int) : Int := byI l (c % l.length) * 131 + byI l ((c * 7 + 3) % l.length) * 1117 + c * 29 + c / l.length * 53
def pickI (l : List UInt8) (c n : Int) : Int :=
  if n < 1 ∨ l.length = 0 then 0 else if c < l.length then byI l c % n else (((pickW l c).toNat ^^^ (pickW l c / 64).toNat : Nat) : Int) % n
theorem pickI_lt {l : List UInt8} {c n : Int} (h : 1 ≤ n) : 0 ≤ pickI l c n ∧ pickI l c n < n := by
  unfold pickI
  split
  · omega
  · split <;> exact ⟨Int.emod_nonneg _ (by omega), Int.emod_lt_of_pos _ (by omega)⟩
theorem k_pick (l : List UInt8) (c n : Int) (h : 0 ≤ c ∧ c ≤ 1000000 ∧ l.length ≤ 2000) : Kon Try.prog 63 [p0, vI n] [rdE l c] (vI (pickI l c n)) [] [rdE l (c + 1)] := by
  (refine kM Try.func63 rfl ?_; intro hfit hfe)
  have e1 : c + 1 - 1 = c := by omega
  unfold pickI
  cases h3 : decide (n < 1) with
  | true => rw [if_pos (.inl (of_decide_eq_true h3))]; (repeat (first | refine gq_ZA ?_ | (refine ga1A ?_; intro _q ⟨_he, _hq⟩))); (refine rtA ?_; try rfl)
  | false =>
    have h3' := of_decide_eq_false h3
    cases h4 : ((l.length : Int) == 0) with
    | true => rw [if_pos (.inr (by simpa using h4))]; (repeat (first | refine gq_ZA ?_ | (refine ga1A ?_; intro _q ⟨_he, _hq⟩))); (refine rtA ?_; try rfl)
    | false =>
      have h4' : ¬ l.length = 0 := by simpa using h4
      rw [if_neg (by omega)]
      cases h5 : decide (c + 1 - 1 < (l.length : Int)) with
      | true =>
        have h5' := of_decide_eq_true h5
        rw [if_pos (by omega)]
        (repeat (first | refine gq_ZA ?_ | (refine ga1A ?_; intro _q ⟨_he, _hq⟩)))
        (subst_vars; (refine rtA ?_; try rfl))
        rw [e1]; rfl
      | false =>
        rw [if_neg (by simpa using h5)]
        (repeat (first | refine gq_ZA ?_ | (refine ga1A ?_; intro _q ⟨_he, _hq⟩)))
        (refine aw_draw mixed T0ok cfU_ok [] (by rfl) (by kernel_rfl) ?_)
        (repeat (first | refine gq_ZA ?_ | (refine ga1A ?_; intro _q ⟨_he, _hq⟩)))
        (subst_vars; (refine rtA ?_; try rfl))
        rw [e1]; rfl
theorem k_odd (l : List UInt8) (c n : Int) (h : 0 ≤ c ∧ c ≤ 1000000 ∧ l.length ≤ 2000 ∧ 0 < n ∧ n ≤ 1000000) : Kon Try.prog 62 [p0, vI n] [rdE l c] (vB (pickI l c n == n - 1)) [] [rdE l (c + 1)] := by
  (refine kM Try.func62 rfl ?_; intro hfit hfe)
  have hp := pickI_lt (l := l) (c := c) (n := n) (by omega)
  have h3 : decide (n > 0) = true := by simp; omega
  have hK := k_pick l c n ⟨h.1, h.2.1, h.2.2.1⟩
  (repeat (first | refine gq_ZA ?_ | (refine ga1A ?_; intro _q ⟨_he, _hq⟩)))
  (refine rtA ?_; try rfl)
theorem k_open (l : List UInt8) (h : l.length ≤ 100000000) : Kon Try.prog 41 [roA l] [] (.g (.one (.ptr 0 0 0))) [rdE (l.take 2000) 0] [] := by
  (refine kM Try.func41 rfl ?_; intro hfit hfe)
  cases h1 : decide ((l.length : Int) > 2000) with
  | true =>
    have h1' := of_decide_eq_true h1
    (repeat (first | refine gq_ZA ?_ | (refine ga1A ?_; intro _q ⟨_he, _hq⟩)))
    (refine rtA ?_; try rfl)
  | false =>
    have e : l.take 2000 = l := List.take_of_length_le (by have := of_decide_eq_false h1; omega)
    rw [e]
    (repeat (first | refine gq_ZA ?_ | (refine ga1A ?_; intro _q ⟨_he, _hq⟩)))
    (refine rtA ?_; try rfl)
theorem ex_pick (l : List UInt8) (c n : Int) (h : 0 ≤ c ∧ c ≤ 1000000 ∧ l.length ≤ 2000) : ∃ v : Int, (n < 1 → v = 0) ∧ (1 ≤ n → 0 ≤ v ∧ v < n) ∧ Kon Try.prog 63 [p0, vI n] [rdE l c] (vI v) [] [rdE l (c + 1)] :=
  ⟨pickI l c n, fun h => by unfold pickI; rw [if_pos (.inl h)], pickI_lt, k_pick l c n h⟩
theorem ex_odd (l : List UInt8) (c n : Int) (h : 0 ≤ c ∧ c ≤ 1000000 ∧ l.length ≤ 2000 ∧ 0 < n ∧ n ≤ 1000000) : ∃ v : Bool, Kon Try.prog 62 [p0, vI n] [rdE l c] (vB v) [] [rdE l (c + 1)] := ⟨_, k_odd l c n h⟩
def wvB (n w : Int) : Bool := btw n 1 8 && btw w 0 (2 ^ n.toNat - 1)
theorem k_wv (n w : Int) : Kon Try.prog 44 [vI n, vI w] [] (vB (wvB n w)) [] [] := by
  (refine kM Try.func44 rfl ?_; intro hfit hfe)
  unfold wvB
  cases h1 : btw n 1 8 with
  | false => (repeat (first | refine gq_ZA ?_ | (refine ga1A ?_; intro _q ⟨_he, _hq⟩))); (refine rtA ?_; try rfl)
  | true =>
    have h1' := btw_t h1
    (repeat (first | refine gq_ZA ?_ | (refine ga1A ?_; intro _q ⟨_he, _hq⟩)))
    (subst_vars; (refine rtA ?_; try rfl))
    rw [Int.one_mul]; rfl
theorem k_alive : Kon Try.prog 19 [] [] (vB true) [] [] := by
  (refine kM Try.func19 rfl ?_; intro hfit hfe)
  (repeat (first | refine gq_ZA ?_ | (refine ga1A ?_; intro _q ⟨_he, _hq⟩)))
  (refine rtA ?_; try rfl)
end Go.Proofs.Ytgjnnlgeggamjaa
namespace Go.Proofs.Ytgjnnlgeggamjaa
set_option linter.unusedVariables false
set_option linter.unusedSimpArgs false
open Go.RowKit
def lok (k v w n : Int) : Bool :=
  if k = 0 ∨ k = 1 ∨ k = 3 then btw v 0 3 && btw w 0 3 && (v != w) && (n == 0)
  else if k = 2 ∨ k = 6 ∨ k = 8 then btw v 0 3 && (w == 0) && btw n 0 63
  else if k = 4 then (v == 0) && (w == 0) && btw n 0 3
  else if k = 5 ∨ k = 7 then (v == 0) && (w == 0) && (n == 0) else false
theorem lok_out {k v w n : Int} (h : k < 0 ∨ 8 < k) : lok k v w n = false := by
  unfold lok
  rw [if_neg (by omega), if_neg (by omega), if_neg (by omega), if_neg (by omega)]
theorem lok_A {k v w n : Int} (h : k = 0 ∨ k = 1 ∨ k = 3) : lok k v w n = (btw v 0 3 && btw w 0 3 && (v != w) && (n == 0)) := by unfold lok; rw [if_pos h]
theorem lok_B {k v w n : Int} (h : k = 2 ∨ k = 6 ∨ k = 8) : lok k v w n = (btw v 0 3 && (w == 0) && btw n 0 63) := by unfold lok; rw [if_neg (by omega), if_pos h]
theorem lok_C {v w n : Int} : lok 4 v w n = ((v == 0) && (w == 0) && btw n 0 3) := by unfold lok; rw [if_neg (by omega), if_neg (by omega), if_pos rfl]
theorem lok_D {k v w n : Int} (h : k = 5 ∨ k = 7) : lok k v w n = ((v == 0) && (w == 0) && (n == 0)) := by unfold lok; rw [if_neg (by omega), if_neg (by omega), if_neg (by omega), if_pos h]
end Go.Proofs.Ytgjnnlgeggamjaa
namespace Go.Proofs.Ytgjnnlgeggamjaa
set_option linter.unusedVariables false
set_option linter.unusedSimpArgs false
set_option maxRecDepth 20000
open Go.RowKit
def chk4 (ti : TypeId) : List Field → Bool
  | [f, f', f'', f3] => (f.name != "_") && (f.type == ti) && (f.offset == 0) && ((f'.name != "_") && (f'.type == ti) && (f'.offset == 1)) && ((f''.name != "_") && (f''.type == ti) && (f''.offset == 2)) && ((f3.name != "_") && (f3.type == ti) && (f3.offset == 3))
  | _ => false
theorem equal_line (k a b c k' a' b' c' : Int) (w : World) : (Op.equalIn 10000 47 (.agg #[.int .i64 k, .int .i64 a, .int .i64 b, .int .i64 c]) (.agg #[.int .i64 k', .int .i64 a', .int .i64 b', .int .i64 c'])).run Try.prog w = .ok (k == k' && (a == a' && (b == b' && c == c'))) w := by
  rw [run_equalIn_agg (ht := by kernel_rfl) (hp := by kernel_rfl)]
  have hc : chk4 3 (Try.prog.fieldsOf 47).toList = true := by kernel_rfl
  have hi : Try.prog.underlying 3 = some (.int .i64) := by kernel_rfl
  have hz : ∀ (xs : Array Value) (k : Nat) (v : Value) (w : World), xs[k]? = some v → (part 3 xs k).run Try.prog w = .ok v w := fun xs k v w h => run_part_plain w (by kernel_rfl) h
  have z0 := fun w => hz #[.int .i64 k, .int .i64 a, .int .i64 b, .int .i64 c] 0 _ w rfl
  have y0 := fun w => hz #[.int .i64 k', .int .i64 a', .int .i64 b', .int .i64 c'] 0 _ w rfl
  have z1 := fun w => hz #[.int .i64 k, .int .i64 a, .int .i64 b, .int .i64 c] 1 _ w rfl
  have y1 := fun w => hz #[.int .i64 k', .int .i64 a', .int .i64 b', .int .i64 c'] 1 _ w rfl
  have z2 := fun w => hz #[.int .i64 k, .int .i64 a, .int .i64 b, .int .i64 c] 2 _ w rfl
  have y2 := fun w => hz #[.int .i64 k', .int .i64 a', .int .i64 b', .int .i64 c'] 2 _ w rfl
  have z3 := fun w => hz #[.int .i64 k, .int .i64 a, .int .i64 b, .int .i64 c] 3 _ w rfl
  have y3 := fun w => hz #[.int .i64 k', .int .i64 a', .int .i64 b', .int .i64 c'] 3 _ w rfl
  have e : ∀ (x y : Int) w, (Op.equalIn 9999 3 (.int .i64 x) (.int .i64 y)).run Try.prog w = .ok (x == y) w := fun x y w => run_equalIn_int (P := Try.prog) w 9998 3 .i64 .i64 x y hi
  clear hz
  generalize (Try.prog.fieldsOf 47).toList = fs at hc ⊢
  unfold chk4 at hc
  split at hc
  · rename_i f f' f'' f3
    simp only [Bool.and_eq_true, bne_iff_ne, beq_iff_eq] at hc
    obtain ⟨⟨⟨⟨⟨h1, h2⟩, h3⟩, ⟨⟨h4, h5⟩, h6⟩⟩, ⟨⟨h7, h8⟩, h9⟩⟩, ⟨⟨g1, g2⟩, g3⟩⟩ := hc
    simp only [Op.eqFields, h1, h2, h3, h4, h5, h6, h7, h8, h9, g1, g2, g3, if_true, ne_eq, not_false_eq_true, Sem.run_bind, z0, y0, Result.andThen_ok]
    erw [e k k' w]
    cases (k == k')
    · rfl
    simp only [Result.andThen_ok, Bool.not_true, Bool.false_eq_true, if_false, Sem.run_bind, z1, y1]
    erw [e a a' w]
    cases (a == a')
    · rfl
    simp only [Result.andThen_ok, Bool.not_true, Bool.false_eq_true, if_false, Sem.run_bind, z2, y2]
    erw [e b b' w]
    cases (b == b')
    · rfl
    simp only [Result.andThen_ok, Bool.not_true, Bool.false_eq_true, if_false, Sem.run_bind, z3, y3]
    erw [e c c' w]
    cases (c == c') <;> rfl
  · cases hc
theorem eq_line (x y : Operand) (k a b c k' a' b' c' : Int) (w : World) : (do eqGuard .eql 47 x y (.agg #[.int .i64 k, .int .i64 a, .int .i64 b, .int .i64 c]) (.agg #[.int .i64 k', .int .i64 a', .int .i64 b', .int .i64 c']); binOp .eql 47 (.agg #[.int .i64 k, .int .i64 a, .int .i64 b, .int .i64 c]) (.agg #[.int .i64 k', .int .i64 a', .int .i64 b', .int .i64 c']) : Sem Value).run Try.prog w = .ok (.bool (k == k' && (a == a' && (b == b' && c == c')))) w := by
  rw [Sem.run_bind, run_eqGuard_agg (hm := by kernel_rfl)]
  simp only [Result.andThen_ok]
  rw [run_eql_struct, equal_line]; rfl
end Go.Proofs.Ytgjnnlgeggamjaa
namespace Go.Proofs.Ytgjnnlgeggamjaa
set_option linter.unusedVariables false
set_option linter.unusedSimpArgs false
set_option maxRecDepth 20000
open Go.RowKit
attribute [local irreducible] runA runX AW
theorem gq_LA0 {H G : Prop} (k : H) (h : Hid H → G := by (intro hh; repeat1' (first | (first | (refine nxA ?_; (first | fail | ((first | (refine z_op (by rfl) ?_; first | refine z_ok ?_ ?_ | refine z_ex ?_ (by first | exact zL1 | ((first | fail); exact zWW) | exact zL2 | fail | exact zL3 | (first | exact pu_of (fun w => eq_line _ _ _ _ _ _ _ _ _ _ w) rfl)) ?_) | ((first | refine q_callE wsT wsZ (by rfl) ?_ | refine q_callVE wsT (by rfl) (by rfl) ?_); refine ⟨_, _, _, (by first | assumption | exact k_within _ _ _ | exact k_l1In _ _ _), _, by rfl, ?_, ?_⟩)); focus (first | exact trivial | fail | exact zQZ)) | fail)) | refine swA ?_) | refine awA ?_); exact hh.out)) : G := h ⟨k⟩
abbrev lCs (k v w n : Int) : List AC := [.v (.int .i64 k), .v (.int .i64 v), .v (.int .i64 w), .v (.int .i64 n)]
abbrev lV (k v w n : Int) : AV := .g (.agg (lCs k v w n))
theorem k_lvS0 (k v w n : Int) (h0 : k < 0 ∨ 8 < k) : Kon Try.prog 42 [lV k v w n] [] (vB (lok k v w n)) [] [] := by
  rw [lok_out h0]
  have hk : (k == 0) = false ∧ (k == 1) = false ∧ (k == 2) = false ∧ (k == 3) = false ∧ (k == 4) = false ∧ (k == 5) = false ∧ (k == 6) = false ∧ (k == 7) = false ∧ (k == 8) = false := by
    refine ⟨?_, ?_, ?_, ?_, ?_, ?_, ?_, ?_, ?_⟩ <;> (simp; omega)
  obtain ⟨k0, k1, k2, k3, k4, k5, k6, k7, k8⟩ := hk
  (refine kM Try.func42 rfl ?_; intro hfit hfe)
  (repeat (first | refine gq_LA0 ?_ | (refine ga0A ?_; intro _hq)))
  (refine rtA ?_; try rfl)
set_option maxHeartbeats 4000000 in
theorem k_lvSA (k v w n : Int) (hk : k = 0 ∨ k = 1 ∨ k = 3) : Kon Try.prog 42 [lV k v w n] [] (vB (lok k v w n)) [] [] := by
  rw [lok_A hk]
  cases h1 : btw v 0 3 <;> cases h2 : btw w 0 3 <;> cases h3 : (v != w)
  all_goals rcases hk with rfl | rfl | rfl
  all_goals (refine kM Try.func42 rfl ?_; intro hfit hfe)
  all_goals ((repeat (first | refine gq_LA0 ?_ | (refine ga0A ?_; intro _hq))))
  all_goals ((refine rtA ?_; try rfl))
set_option maxHeartbeats 4000000 in
theorem k_lvSB (k v w n : Int) (hk : k = 2 ∨ k = 6 ∨ k = 8) : Kon Try.prog 42 [lV k v w n] [] (vB (lok k v w n)) [] [] := by
  rw [lok_B hk]
  cases h1 : btw v 0 3 <;> cases h2 : (w == 0)
  all_goals rcases hk with rfl | rfl | rfl
  all_goals (refine kM Try.func42 rfl ?_; intro hfit hfe)
  all_goals ((repeat (first | refine gq_LA0 ?_ | (refine ga0A ?_; intro _hq))))
  all_goals ((refine rtA ?_; try rfl))
set_option maxHeartbeats 4000000 in
theorem k_lvSC (v w n : Int) : Kon Try.prog 42 [lV 4 v w n] [] (vB (lok 4 v w n)) [] [] := by
  rw [lok_C]
  cases h1 : (v == 0) <;> cases h2 : (w == 0)
  all_goals (refine kM Try.func42 rfl ?_; intro hfit hfe)
  all_goals ((repeat (first | refine gq_LA0 ?_ | (refine ga0A ?_; intro _hq))))
  all_goals ((refine rtA ?_; try rfl))
theorem k_lvSD (k v w n : Int) (hk : k = 5 ∨ k = 7) : Kon Try.prog 42 [lV k v w n] [] (vB (lok k v w n)) [] [] := by
  rw [lok_D hk]
  rcases hk with rfl | rfl
  all_goals (refine kM Try.func42 rfl ?_; intro hfit hfe)
  all_goals ((repeat (first | refine gq_LA0 ?_ | (refine ga0A ?_; intro _hq))))
  all_goals ((refine rtA ?_; try rfl))
  all_goals (cases (v == 0) <;> cases (w == 0) <;> cases (n == 0) <;> rfl)
theorem k_lvS (k v w n : Int) : Kon Try.prog 42 [lV k v w n] [] (vB (lok k v w n)) [] [] := by
  by_cases h0 : k < 0 ∨ 8 < k
  · exact k_lvS0 k v w n h0
  have h' : (k = 0 ∨ k = 1 ∨ k = 3) ∨ (k = 2 ∨ k = 6 ∨ k = 8) ∨ k = 4 ∨ (k = 5 ∨ k = 7) := by omega
  rcases h' with hk | hk | rfl | hk
  · exact k_lvSA k v w n hk
  · exact k_lvSB k v w n hk
  · exact k_lvSC v w n
  · exact k_lvSD k v w n hk
end Go.Proofs.Ytgjnnlgeggamjaa
namespace Go.Proofs.Ytgjnnlgeggamjaa
set_option linter.unusedVariables false
set_option linter.unusedSimpArgs false
abbrev lkG (g : Gt) : Bool := lok g.k g.a g.b g.c
inductive PS where
  | nil : PS
  | one (l : Gt) (t : PS) : PS
  | rep (l e : Gt) (p t : PS) : PS
  | iff (l m e : Gt) (p q t : PS) : PS
def fl : PS → List Gt
  | .nil => []
  | .one l t => l :: fl t
  | .rep l e p t => l :: (fl p ++ e :: fl t)
  | .iff l m e p q t => l :: (fl p ++ m :: (fl q ++ e :: fl t))
def dp : PS → Nat
  | .nil => 0
  | .one _ t => dp t
  | .rep _ _ p t => max (dp p + 1) (dp t)
  | .iff _ _ _ p q t => max (max (dp p) (dp q) + 1) (dp t)
def wf : PS → Prop
  | .nil => True
  | .one l t => (0 ≤ l.k ∧ l.k ≤ 3) ∧ wf t
  | .rep l e p t => (l.k = 4 ∧ e.k = 5) ∧ wf p ∧ wf t
  | .iff l m e p q t => (l.k = 6 ∧ m.k = 7 ∧ e.k = 8) ∧ wf p ∧ wf q ∧ wf t
def app : PS → PS → PS
  | .nil, b => b
  | .one l t, b => .one l (app t b)
  | .rep l e p t, b => .rep l e p (app t b)
  | .iff l m e p q t, b => .iff l m e p q (app t b)
theorem app_nil : ∀ a, app a .nil = a
  | .nil => rfl
  | .one l t => by rw [app, app_nil t]
  | .rep l e p t => by rw [app, app_nil t]
  | .iff l m e p q t => by rw [app, app_nil t]
theorem app_assoc (b c : PS) : ∀ a, app (app a b) c = app a (app b c)
  | .nil => rfl
  | .one l t => by rw [app, app, app_assoc b c t]; rfl
  | .rep l e p t => by rw [app, app, app_assoc b c t]; rfl
  | .iff l m e p q t => by rw [app, app, app_assoc b c t]; rfl
theorem fl_app (b : PS) : ∀ a, fl (app a b) = fl a ++ fl b
  | .nil => rfl
  | .one l t => by simp [app, fl, fl_app b t]
  | .rep l e p t => by simp [app, fl, fl_app b t]
  | .iff l m e p q t => by simp [app, fl, fl_app b t]
theorem dp_app (b : PS) : ∀ a, dp (app a b) = max (dp a) (dp b)
  | .nil => by simp [app, dp]
  | .one l t => by simp [app, dp, dp_app b t]
  | .rep l e p t => by rw [app, dp, dp, dp_app b t]; omega
  | .iff l m e p q t => by rw [app, dp, dp, dp_app b t]; omega
theorem wf_app {b : PS} (hb : wf b) : ∀ {a}, wf a → wf (app a b)
  | .nil, _ => hb
  | .one l t, h => ⟨h.1, wf_app hb h.2⟩
  | .rep l e p t, h => ⟨h.1, h.2.1, wf_app hb h.2.2⟩
  | .iff l m e p q t, h => ⟨h.1, h.2.1, h.2.2.1, wf_app hb h.2.2.2⟩
def op1 (st : List Int) (k : Int) : Option (List Int) :=
  if k = 4 ∨ k = 6 then (if 3 < st.length + 1 then none else some (k :: st))
  else if k = 5 then (if st.head? = some 4 then some st.tail else none)
  else if k = 7 then (if st.head? = some 6 then some (7 :: st.tail) else none)
  else if k = 8 then (if st.head? = some 7 then some st.tail else none)
  else some st
def scan : List Gt → List Int → Option (List Int)
  | [], st => some st
  | l :: p, st => match op1 st l.k with
    | none => none
    | some st' => scan p st'
theorem scan_fl : ∀ (t : PS) (r : List Gt) (st : List Int), wf t → dp t + st.length ≤ 3 → scan (fl t ++ r) st = scan r st
  | .nil, r, st, _, _ => rfl
  | .one l t, r, st, h, hd => by
    have e : op1 st l.k = some st := by
      have := h.1
      unfold op1; rw [if_neg (by omega), if_neg (by omega), if_neg (by omega), if_neg (by omega)]
    rw [fl, List.cons_append, scan, e]
    exact scan_fl t r st h.2 hd
  | .rep l e p t, r, st, h, hd => by
    rw [dp] at hd
    have hk := h.1
    have e1 : op1 st l.k = some (4 :: st) := by
      unfold op1; rw [if_pos (by omega), if_neg (by omega), h.1.1]
    have e2 : op1 (4 :: st) e.k = some st := by
      unfold op1; rw [h.1.2, if_neg (by omega), if_pos rfl]; rfl
    rw [fl, List.cons_append, List.append_assoc, scan, e1]
    show scan (fl p ++ (e :: fl t ++ r)) (4 :: st) = _
    rw [scan_fl p _ (4 :: st) h.2.1 (by rw [List.length_cons]; omega), List.cons_append, scan, e2]
    exact scan_fl t r st h.2.2 (by omega)
  | .iff l m e p q t, r, st, h, hd => by
    rw [dp] at hd
    have hk := h.1
    have e1 : op1 st l.k = some (6 :: st) := by
      unfold op1; rw [if_pos (by omega), if_neg (by omega), h.1.1]
    have e2 : op1 (6 :: st) m.k = some (7 :: st) := by
      unfold op1; rw [h.1.2.1, if_neg (by omega), if_neg (by omega), if_pos rfl]; rfl
    have e3 : op1 (7 :: st) e.k = some st := by
      unfold op1; rw [h.1.2.2, if_neg (by omega), if_neg (by omega), if_neg (by omega), if_pos rfl]; rfl
    rw [fl, List.cons_append, List.append_assoc, scan, e1]
    show scan (fl p ++ (m :: (fl q ++ e :: fl t) ++ r)) (6 :: st) = _
    rw [scan_fl p _ (6 :: st) h.2.1 (by rw [List.length_cons]; omega), List.cons_append, scan, e2]
    show scan (fl q ++ e :: fl t ++ r) (7 :: st) = _
    rw [List.append_assoc, scan_fl q _ (7 :: st) h.2.2.1 (by rw [List.length_cons]; omega), List.cons_append, scan, e3]
    exact scan_fl t r st h.2.2.2 (by omega)
def cl (k e : Int) : Prop := (k = 4 ∧ e = 5) ∨ (k = 6 ∧ e = 7) ∨ (k = 7 ∧ e = 8)
def aft (k : Int) (st : List Int) : List Int := if k = 6 then 7 :: st else st
theorem tree_of : ∀ (n : Nat) (p : List Gt) (st : List Int), p.length ≤ n → (∀ x ∈ p, 0 ≤ x.k ∧ x.k ≤ 8) → st.length ≤ 3 → scan p st = some [] →
    (st = [] → ∃ t, wf t ∧ fl t = p ∧ dp t ≤ 3) ∧
    (∀ k st', st = k :: st' → ∃ t e r, p = fl t ++ e :: r ∧ wf t ∧ dp t + st.length ≤ 3 ∧ cl k e.k ∧ scan r (aft k st') = some []) := by
  intro n
  induction n with
  | zero =>
    intro p st hp _ _ hs
    obtain rfl : p = [] := List.length_eq_zero_iff.1 (by omega)
    have e : some st = some [] := hs
    cases e
    exact ⟨fun _ => ⟨.nil, trivial, rfl, Nat.zero_le _⟩, fun k st' h => by cases h⟩
  | succ n ih =>
    intro p st hp hk hd hs
    rcases p with _ | ⟨l, p⟩
    · have e : some st = some [] := hs
      cases e
      exact ⟨fun _ => ⟨.nil, trivial, rfl, Nat.zero_le _⟩, fun k st' h => by cases h⟩
    have hp' : p.length ≤ n := by rw [List.length_cons] at hp; omega
    have hlk := hk l List.mem_cons_self
    have hk' : ∀ x ∈ p, 0 ≤ x.k ∧ x.k ≤ 8 := fun x hx => hk x (List.mem_cons_of_mem _ hx)
    rw [scan] at hs
    -- what a suffix has
    have sub : ∀ {a b : List Gt} {e : Gt}, p = a ++ e :: b → b.length ≤ n ∧ ∀ x ∈ b, 0 ≤ x.k ∧ x.k ≤ 8 := fun {a b e} h => by
      refine ⟨?_, fun x hx => hk' x (by rw [h]; exact List.mem_append_right _ (List.mem_cons_of_mem _ hx))⟩
      rw [h, List.length_append, List.length_cons] at hp'; omega
    -- a part put ahead of what follows
    have put : ∀ (f : PS → PS) (g : List Gt) (dm : Nat), (∀ t, wf t → wf (f t)) → (∀ t, fl (f t) = g ++ fl t) → (∀ t, dp (f t) = max dm (dp t)) → dm + st.length ≤ 3 → ∀ q : List Gt, l :: p = g ++ q →
        ((st = [] → ∃ t, wf t ∧ fl t = q ∧ dp t ≤ 3) ∧ (∀ k st', st = k :: st' → ∃ t e r, q = fl t ++ e :: r ∧ wf t ∧ dp t + st.length ≤ 3 ∧ cl k e.k ∧ scan r (aft k st') = some [])) →
        ((st = [] → ∃ t, wf t ∧ fl t = l :: p ∧ dp t ≤ 3) ∧ (∀ k st', st = k :: st' → ∃ t e r, l :: p = fl t ++ e :: r ∧ wf t ∧ dp t + st.length ≤ 3 ∧ cl k e.k ∧ scan r (aft k st') = some [])) := by
      intro f g dm hw hf hdp hdm q hq ⟨h1, h2⟩
      refine ⟨fun h => ?_, fun k st' h => ?_⟩
      · obtain ⟨t, t1, t2, t3⟩ := h1 h
        exact ⟨f t, hw t t1, by rw [hf, t2, hq], by rw [hdp]; omega⟩
      · obtain ⟨t, e, r, t1, t2, t3, t4, t5⟩ := h2 k st' h
        exact ⟨f t, e, r, by rw [hf, List.append_assoc, ← t1, hq], hw t t2, by rw [hdp]; omega, t4, t5⟩
    have hcase : l.k = 4 ∨ l.k = 6 ∨ l.k = 5 ∨ l.k = 7 ∨ l.k = 8 ∨ (0 ≤ l.k ∧ l.k ≤ 3) := by omega
    rcases hcase with h4 | h6 | h5 | h7 | h8 | h0
    · have e1 : op1 st l.k = if 3 < st.length + 1 then none else some (4 :: st) := by unfold op1; rw [h4, if_pos (by omega)]
      rw [e1] at hs
      by_cases hlen : 3 < st.length + 1
      · rw [if_pos hlen] at hs; cases hs
      rw [if_neg hlen] at hs
      obtain ⟨_, h2⟩ := ih p (4 :: st) hp' hk' (by rw [List.length_cons]; omega) hs
      obtain ⟨t1, e, r, q1, q2, q3, q4, q5⟩ := h2 4 st rfl
      have he : e.k = 5 := by unfold cl at q4; omega
      have q5' : scan r st = some [] := q5
      obtain ⟨s1, s2⟩ := sub q1
      rw [List.length_cons] at q3
      refine put (fun t => .rep l e t1 t) (l :: (fl t1 ++ [e])) (dp t1 + 1) (fun t ht => ⟨⟨h4, he⟩, q2, ht⟩) (fun t => by simp [fl]) (fun t => rfl) (by omega) r (by rw [q1]; simp) (ih r st s1 s2 hd q5')
    · have e1 : op1 st l.k = if 3 < st.length + 1 then none else some (6 :: st) := by unfold op1; rw [h6, if_pos (by omega)]
      rw [e1] at hs
      by_cases hlen : 3 < st.length + 1
      · rw [if_pos hlen] at hs; cases hs
      rw [if_neg hlen] at hs
      obtain ⟨_, h2⟩ := ih p (6 :: st) hp' hk' (by rw [List.length_cons]; omega) hs
      obtain ⟨t1, m, r1, q1, q2, q3, q4, q5⟩ := h2 6 st rfl
      have hm : m.k = 7 := by unfold cl at q4; omega
      have q5' : scan r1 (7 :: st) = some [] := q5
      obtain ⟨s1, s2⟩ := sub q1
      obtain ⟨_, h3⟩ := ih r1 (7 :: st) s1 s2 (by rw [List.length_cons]; omega) q5'
      obtain ⟨t2, e, r2, u1, u2, u3, u4, u5⟩ := h3 7 st rfl
      have he : e.k = 8 := by unfold cl at u4; omega
      have u5' : scan r2 st = some [] := u5
      rw [List.length_cons] at q3 u3
      have q1' : p = (fl t1 ++ m :: fl t2) ++ e :: r2 := by rw [q1, u1]; simp
      obtain ⟨v1, v2⟩ := sub q1'
      refine put (fun t => .iff l m e t1 t2 t) (l :: (fl t1 ++ m :: (fl t2 ++ [e]))) (max (dp t1) (dp t2) + 1) (fun t ht => ⟨⟨h6, hm, he⟩, q2, u2, ht⟩) (fun t => by simp [fl]) (fun t => rfl) (by omega) r2 (by rw [q1']; simp) (ih r2 st v1 v2 hd u5')
    · have e1 : op1 st l.k = if st.head? = some 4 then some st.tail else none := by unfold op1; rw [h5, if_neg (by omega), if_pos rfl]
      rw [e1] at hs
      by_cases hh : st.head? = some 4
      · rw [if_pos hh] at hs
        refine ⟨fun h => (by rw [h] at hh; cases hh), fun k st' h => ?_⟩
        subst h
        obtain rfl : k = 4 := by cases hh; rfl
        exact ⟨.nil, l, p, rfl, trivial, by rw [dp]; omega, .inl ⟨rfl, h5⟩, hs⟩
      · rw [if_neg hh] at hs; cases hs
    · have e1 : op1 st l.k = if st.head? = some 6 then some (7 :: st.tail) else none := by unfold op1; rw [h7, if_neg (by omega), if_neg (by omega), if_pos rfl]
      rw [e1] at hs
      by_cases hh : st.head? = some 6
      · rw [if_pos hh] at hs
        refine ⟨fun h => (by rw [h] at hh; cases hh), fun k st' h => ?_⟩
        subst h
        obtain rfl : k = 6 := by cases hh; rfl
        exact ⟨.nil, l, p, rfl, trivial, by rw [dp]; omega, .inr (.inl ⟨rfl, h7⟩), hs⟩
      · rw [if_neg hh] at hs; cases hs
    · have e1 : op1 st l.k = if st.head? = some 7 then some st.tail else none := by unfold op1; rw [h8, if_neg (by omega), if_neg (by omega), if_neg (by omega), if_pos rfl]
      rw [e1] at hs
      by_cases hh : st.head? = some 7
      · rw [if_pos hh] at hs
        refine ⟨fun h => (by rw [h] at hh; cases hh), fun k st' h => ?_⟩
        subst h
        obtain rfl : k = 7 := by cases hh; rfl
        exact ⟨.nil, l, p, rfl, trivial, by rw [dp]; omega, .inr (.inr ⟨rfl, h8⟩), hs⟩
      · rw [if_neg hh] at hs; cases hs
    · have e1 : op1 st l.k = some st := by unfold op1; rw [if_neg (by omega), if_neg (by omega), if_neg (by omega), if_neg (by omega)]
      rw [e1] at hs
      exact put (fun t => .one l t) [l] 0 (fun t ht => ⟨h0, ht⟩) (fun t => rfl) (fun t => by rw [dp]; omega) (by omega) p rfl (ih p st hp' hk' hd hs)
def pr : Nat → Nat → Int → List Gt → Option (PS × Gt × List Gt)
  | 0, _, _, _ => none
  | f + 1, d, k, [] => none
  | f + 1, d, k, l :: r =>
    if l.k = k then some (.nil, l, r)
    else if l.k = 5 ∨ l.k = 7 ∨ l.k = 8 then none
    else if l.k = 4 then
      if 3 < d + 1 then none else
      match pr f (d + 1) 5 r with
      | none => none
      | some (p, e, r1) => match pr f d k r1 with
        | none => none
        | some (t, x, r2) => some (.rep l e p t, x, r2)
    else if l.k = 6 then
      if 3 < d + 1 then none else
      match pr f (d + 1) 7 r with
      | none => none
      | some (p, m, r1) => match pr f (d + 1) 8 r1 with
        | none => none
        | some (q, e, r2) => match pr f d k r2 with
          | none => none
          | some (t, x, r3) => some (.iff l m e p q t, x, r3)
    else match pr f d k r with
      | none => none
      | some (t, x, r1) => some (.one l t, x, r1)
def ini (r : List Gt) : Prop := ∀ x ∈ r.dropLast, 0 ≤ x.k ∧ x.k ≤ 8
theorem ini_app {a : List Gt} {e : Gt} {b : List Gt} (h : ini (a ++ e :: b)) : ini b := fun x hx => h x (by
  rcases b with _ | ⟨y, b⟩
  · cases hx
  · rw [List.dropLast_append_of_ne_nil (by simp)]
    exact List.mem_append_right _ (by rw [List.dropLast_cons_cons]; exact List.mem_cons_of_mem _ hx))
theorem pr_some : ∀ (f : Nat) (d : Nat) (k : Int) (r : List Gt) (t : PS) (e : Gt) (r' : List Gt), ini r → d ≤ 3 → pr f d k r = some (t, e, r') → wf t ∧ r = fl t ++ e :: r' ∧ e.k = k ∧ dp t + d ≤ 3
  | 0, d, k, r, t, e, r', _, _, h => by cases h
  | f + 1, d, k, [], t, e, r', _, _, h => by cases h
  | f + 1, d, k, l :: r, t, e, r', hi, hd, h => by
    rw [pr] at h
    have hi1 : ini r := ini_app (a := []) (e := l) (b := r) hi
    split at h
    · rename_i hk; cases h; exact ⟨trivial, rfl, hk, by rw [dp]; omega⟩
    split at h
    · cases h
    split at h
    · rename_i h1 h2 h4
      split at h
      · cases h
      rename_i hlen
      rcases hp : pr f (d + 1) 5 r with _ | ⟨p, x, r1⟩
      · rw [hp] at h; cases h
      obtain ⟨a1, a2, a3, a4⟩ := pr_some f (d + 1) 5 r p x r1 hi1 (by omega) hp
      rw [hp] at h
      dsimp only at h
      have hi2 : ini r1 := ini_app (a := fl p) (e := x) (b := r1) (by rw [← a2]; exact hi1)
      rcases hq : pr f d k r1 with _ | ⟨t2, x2, r2⟩
      · rw [hq] at h; cases h
      obtain ⟨b1, b2, b3, b4⟩ := pr_some f d k r1 t2 x2 r2 hi2 hd hq
      rw [hq] at h
      cases h
      refine ⟨⟨⟨h4, a3⟩, a1, b1⟩, ?_, b3, by rw [dp]; omega⟩
      rw [a2, b2]; simp [fl]
    split at h
    · rename_i h1 h2 h4 h6
      split at h
      · cases h
      rename_i hlen
      rcases hp : pr f (d + 1) 7 r with _ | ⟨p, x, r1⟩
      · rw [hp] at h; cases h
      obtain ⟨a1, a2, a3, a4⟩ := pr_some f (d + 1) 7 r p x r1 hi1 (by omega) hp
      rw [hp] at h
      dsimp only at h
      have hi2 : ini r1 := ini_app (a := fl p) (e := x) (b := r1) (by rw [← a2]; exact hi1)
      rcases hq : pr f (d + 1) 8 r1 with _ | ⟨q, y, r2⟩
      · rw [hq] at h; cases h
      obtain ⟨b1, b2, b3, b4⟩ := pr_some f (d + 1) 8 r1 q y r2 hi2 (by omega) hq
      rw [hq] at h
      dsimp only at h
      have hi3 : ini r2 := ini_app (a := fl q) (e := y) (b := r2) (by rw [← b2]; exact hi2)
      rcases hs : pr f d k r2 with _ | ⟨t3, z, r3⟩
      · rw [hs] at h; cases h
      obtain ⟨c1, c2, c3, c4⟩ := pr_some f d k r2 t3 z r3 hi3 hd hs
      rw [hs] at h
      cases h
      refine ⟨⟨⟨h6, a3, b3⟩, a1, b1, c1⟩, ?_, c3, by rw [dp]; omega⟩
      rw [a2, b2, c2]; simp [fl]
    · rename_i h1 h2 h4 h6
      rcases hq : pr f d k r with _ | ⟨t2, x2, r2⟩
      · rw [hq] at h; cases h
      obtain ⟨b1, b2, b3, b4⟩ := pr_some f d k r t2 x2 r2 hi1 hd hq
      rw [hq] at h
      cases h
      have hlk : 0 ≤ l.k ∧ l.k ≤ 8 := hi l (by
        rcases r with _ | ⟨y, r⟩
        · rcases f with _ | f <;> cases hq
        · rw [List.dropLast_cons_cons]; exact List.mem_cons_self)
      refine ⟨⟨by omega, b1⟩, ?_, b3, by rw [dp]; omega⟩
      rw [b2]; simp [fl]
theorem pr_ok : ∀ (f : Nat) (t : PS) (d : Nat) (k : Int) (e : Gt) (r : List Gt), (fl t).length < f → wf t → dp t + d ≤ 3 → e.k = k → (k = -1 ∨ k = 5 ∨ k = 7 ∨ k = 8) → pr f d k (fl t ++ e :: r) = some (t, e, r)
  | 0, t, _, _, _, _, h, _, _, _, _ => by omega
  | f + 1, .nil, d, k, e, r, h, hw, hd, he, hk => by
    show pr (f + 1) d k (e :: r) = _
    rw [pr, if_pos he]
  | f + 1, .one l t, d, k, e, r, h, hw, hd, he, hk => by
    show pr (f + 1) d k (l :: (fl t ++ e :: r)) = _
    rw [fl, List.length_cons] at h
    rw [dp] at hd
    have := hw.1
    rw [pr, if_neg (by omega), if_neg (by omega), if_neg (by omega), if_neg (by omega), pr_ok f t d k e r (by omega) hw.2 hd he hk]
  | f + 1, .rep l x p t, d, k, e, r, h, hw, hd, he, hk => by
    rw [fl, List.length_cons, List.length_append, List.length_cons] at h
    rw [dp] at hd
    have e1 : fl (.rep l x p t) ++ e :: r = l :: (fl p ++ x :: (fl t ++ e :: r)) := by simp [fl]
    have h4 := hw.1.1
    rw [e1, pr, if_neg (by omega), if_neg (by omega), if_pos h4, if_neg (by omega), pr_ok f p (d + 1) 5 x _ (by omega) hw.2.1 (by omega) hw.1.2 (by omega)]
    dsimp only
    rw [pr_ok f t d k e r (by omega) hw.2.2 (by omega) he hk]
  | f + 1, .iff l m x p q t, d, k, e, r, h, hw, hd, he, hk => by
    rw [fl, List.length_cons, List.length_append, List.length_cons, List.length_append, List.length_cons] at h
    rw [dp] at hd
    have e1 : fl (.iff l m x p q t) ++ e :: r = l :: (fl p ++ m :: (fl q ++ x :: (fl t ++ e :: r))) := by simp [fl]
    have h6 := hw.1.1
    rw [e1, pr, if_neg (by omega), if_neg (by omega), if_neg (by omega), if_pos h6, if_neg (by omega), pr_ok f p (d + 1) 7 m _ (by omega) hw.2.1 (by omega) hw.1.2.1 (by omega)]
    dsimp only
    rw [pr_ok f q (d + 1) 8 x _ (by omega) hw.2.2.1 (by omega) hw.1.2.2 (by omega)]
    dsimp only
    rw [pr_ok f t d k e r (by omega) hw.2.2.2 (by omega) he hk]
abbrev gStop : Gt := ⟨-1, 0, 0, 0⟩
def prs (p : List Gt) : Option PS := if p.length ≤ 16 ∧ p.all lkG = true then (pr 18 0 (-1) (p ++ [gStop])).map (·.1) else none
def pvS (p : List Gt) : Bool := p.all lkG && (scan p [] == some []) && decide (p.length ≤ 16)
theorem lk_kind {g : Gt} (h : lkG g = true) : 0 ≤ g.k ∧ g.k ≤ 8 := by
  refine Decidable.byContradiction fun hn => ?_
  have : lkG g = false := lok_out (by omega)
  rw [this] at h; cases h
theorem lk_all {p : List Gt} (h : p.all lkG = true) : ∀ x ∈ p, 0 ≤ x.k ∧ x.k ≤ 8 := fun x hx => lk_kind (List.all_eq_true.1 h x hx)
theorem prs_t {p : List Gt} {t : PS} (h : prs p = some t) : p.length ≤ 16 ∧ p.all lkG = true ∧ fl t = p ∧ wf t ∧ dp t ≤ 3 ∧ pr 18 0 (-1) (p ++ [gStop]) = some (t, gStop, []) := by
  unfold prs at h
  split at h
  · rename_i hc
    rcases hq : pr 18 0 (-1) (p ++ [gStop]) with _ | ⟨t2, x, r⟩
    · rw [hq] at h; cases h
    rw [hq] at h
    cases h
    have hi : ini (p ++ [gStop]) := fun x hx => by
      rw [List.dropLast_concat] at hx
      exact lk_all hc.2 x hx
    obtain ⟨a1, a2, a3, a4⟩ := pr_some 18 0 (-1) _ t2 x r hi (by omega) hq
    -- the statement that ends it is the last one
    have hx : r = [] ∧ x = gStop ∧ p = fl t2 := by
      rcases List.eq_nil_or_concat r with rfl | ⟨r1, y, rfl⟩
      · have e := List.append_inj' a2 rfl
        cases e.2
        exact ⟨rfl, rfl, e.1⟩
      · rw [List.concat_eq_append, show fl t2 ++ x :: (r1 ++ [y]) = (fl t2 ++ x :: r1) ++ [y] by simp] at a2
        have e := List.append_inj' a2 rfl
        have := lk_all hc.2 x (by rw [e.1]; simp)
        omega
    obtain ⟨rfl, rfl, rfl⟩ := hx
    exact ⟨hc.1, hc.2, rfl, a1, by omega, rfl⟩
  · cases h
theorem prs_of {t : PS} (hw : wf t) (hd : dp t ≤ 3) (hl : (fl t).length ≤ 16) (hk : (fl t).all lkG = true) : prs (fl t) = some t := by
  unfold prs
  rw [if_pos ⟨hl, hk⟩, pr_ok 18 t 0 (-1) gStop [] (by omega) hw (by omega) rfl (.inl rfl)]
  rfl
theorem pvS_prs (p : List Gt) : pvS p = (prs p).isSome := by
  cases h : prs p with
  | some t =>
    obtain ⟨a1, a2, a3, a4, a5, _⟩ := prs_t h
    have := scan_fl t [] [] a4 (by rw [List.length_nil]; omega)
    rw [List.append_nil, a3] at this
    unfold pvS
    rw [a2, this, decide_eq_true a1]; rfl
  | none =>
    cases hv : pvS p with
    | false => rfl
    | true =>
      unfold pvS at hv
      rw [Bool.and_eq_true, Bool.and_eq_true, beq_iff_eq, decide_eq_true_eq] at hv
      obtain ⟨⟨h1, h2⟩, h3⟩ := hv
      obtain ⟨t, t1, t2, t3⟩ := (tree_of p.length p [] (Nat.le_refl _) (lk_all h1) (by simp) h2).1 rfl
      have := prs_of t1 t3 (by rw [t2]; exact h3) (by rw [t2]; exact h1)
      rw [t2, h] at this
      cases this
end Go.Proofs.Ytgjnnlgeggamjaa
namespace Go.Proofs.Ytgjnnlgeggamjaa
set_option linter.unusedVariables false
set_option linter.unusedSimpArgs false
set_option maxRecDepth 20000
open Go.RowKit
attribute [local irreducible] runA runX AW
theorem gq_PKA {H G : Prop} (k : H) (h : Hid H → G := by (intro hh; repeat1' (first | (first | (refine nxA ?_; (first | fail | ((first | (refine z_op (by rfl) ?_; first | refine z_ok ?_ ?_ | refine z_ex ?_ (by first | exact zL1 | ((first | fail); exact zWW) | exact zL2 | exact rw_c Int rfl | exact zL3 | fail) ?_) | ((first | refine q_callE wsT wsZ (by rfl) ?_ | refine q_callVE wsT (by rfl) (by rfl) ?_); refine ⟨_, _, _, (by first | assumption | exact k_l1In _ _ _), _, by rfl, ?_, ?_⟩)); focus (first | exact trivial | fail | exact zQZ)) | fail)) | refine swA ?_) | refine awA ?_); exact hh.out)) : G := h ⟨k⟩
def rvB (l : List Int) : Bool := l.all (fun x => btw x 0 63) && ((l.length : Int) == 4)
theorem drop_at {l : List Int} {k : Nat} (h : k < l.length) : l.drop k = l.getD k 0 :: l.drop (k + 1) := by
  rw [List.drop_eq_getElem_cons h]
  simp [List.getD_eq_getElem?_getD, h]
theorem k_rvS (l : List Int) (h : l.length ≤ 2000000) : Kon Try.prog 45 [roA l] [] (vB (rvB l)) [] [] := by
  (refine kM Try.func45 rfl ?_; intro hfit hfe)
  (repeat (first | refine gq_PKA ?_ | (refine ga0A ?_; intro _hq)))
  (refine aw_rd [0] [] (fun i : Nat => [(3, vI i)]) (fun _ => []) (fun i => i ≤ l.length ∧ (l.drop i).all (fun x => btw x 0 63) = l.all (fun x => btw x 0 63)) (fun i => l.length - i) 0 (by rfl) (by rfl) ?_ (by rfl) zHE zHE ?_)
  · exact ⟨Nat.zero_le _, rfl⟩
  rintro i ⟨hi, hz⟩
  rcases Nat.lt_or_ge i l.length with h5 | h5
  · have hd : decide ((i : Int) < (l.length : Int)) = true := by simpa using h5
    rw [drop_at h5, List.all_cons] at hz
    cases hb : btw (l.getD i 0) 0 63 with
    | false =>
      have e : rvB l = false := by unfold rvB; rw [← hz, hb]; rfl
      have hb' : btw (l.getD (i : Int).toNat Cel.no) 0 63 = false := hb
      rw [e]
      (repeat (first | refine gq_PKA ?_ | (refine ga0A ?_; intro _hq)))
      (refine rtA ?_; try rfl)
    | true =>
      have hb' : btw (l.getD (i : Int).toNat Cel.no) 0 63 = true := hb
      rw [hb, Bool.true_and] at hz
      have hinv : i + 1 ≤ l.length ∧ (l.drop (i + 1)).all (fun x => btw x 0 63) = l.all (fun x => btw x 0 63) := ⟨h5, hz⟩
      clear hz
      (repeat (first | refine gq_PKA ?_ | (refine ga0A ?_; intro _hq)))
      exact ⟨i + 1, hinv, ⟨by rfl, zHE, zHE⟩, (by first | omega | (dsimp only; omega))⟩
  · have hd : decide ((i : Int) < (l.length : Int)) = false := by simp; omega
    have e : rvB l = ((l.length : Int) == 4) := by
      unfold rvB; rw [← hz, List.drop_of_length_le h5]; rfl
    rw [e]
    (repeat (first | refine gq_PKA ?_ | (refine ga0A ?_; intro _hq)))
    (refine rtA ?_; try rfl)
def o1 (o : List Int) (k : Int) : List Int × Bool :=
  if k = 4 ∨ k = 6 then (o ++ [k], decide (o.length + 1 ≤ 3))
  else if k = 5 then (if o.getLast? = some 4 then (o.take ((o.length : Int) - 1).toNat, true) else (o, false))
  else if k = 7 then (if o.getLast? = some 6 then (o.set ((o.length : Int) - 1).toNat 7, true) else (o, false))
  else if k = 8 then (if o.getLast? = some 7 then (o.take ((o.length : Int) - 1).toNat, true) else (o, false))
  else (o, true)
def opn : List Gt → List Int → List Int × Bool
  | [], o => (o, true)
  | l :: p, o => if (o1 o l.k).2 then opn p (o1 o l.k).1 else ((o1 o l.k).1, false)
theorem last_snoc (st : List Int) (x : Int) : (x :: st).reverse.take ((((x :: st).reverse.length : Nat) : Int) - 1).toNat = st.reverse := by
  have : ((((x :: st).reverse.length : Nat) : Int) - 1).toNat = st.reverse.length := by simp
  rw [this, List.reverse_cons]
  exact List.take_left
theorem set_snoc (st : List Int) (x y : Int) : (x :: st).reverse.set ((((x :: st).reverse.length : Nat) : Int) - 1).toNat y = (y :: st).reverse := by
  have : ((((x :: st).reverse.length : Nat) : Int) - 1).toNat = st.reverse.length := by simp
  rw [this, List.reverse_cons, List.reverse_cons, List.set_append_right _ _ (Nat.le_refl _), Nat.sub_self]
  rfl
theorem last_head (st : List Int) : st.reverse.getLast? = st.head? := by rw [List.getLast?_reverse]
theorem o1_op1 (st : List Int) (k : Int) : (match op1 st k with | none => (o1 st.reverse k).2 = false | some st' => o1 st.reverse k = (st'.reverse, true)) := by
  unfold op1 o1
  rw [last_head]
  by_cases h4 : k = 4 ∨ k = 6
  · rw [if_pos h4, if_pos h4]
    by_cases h3 : 3 < st.length + 1
    · rw [if_pos h3]; simp; omega
    · rw [if_neg h3]; simp; omega
  rw [if_neg h4, if_neg h4]
  by_cases h5 : k = 5
  · rw [if_pos h5, if_pos h5]
    by_cases h : st.head? = some 4
    · rw [if_pos h, if_pos h]
      obtain _ | ⟨x, st⟩ := st
      · cases h
      · show _ = _; rw [last_snoc]; rfl
    · rw [if_neg h, if_neg h]
  rw [if_neg h5, if_neg h5]
  by_cases h7 : k = 7
  · rw [if_pos h7, if_pos h7]
    by_cases h : st.head? = some 6
    · rw [if_pos h, if_pos h]
      obtain _ | ⟨x, st⟩ := st
      · cases h
      · show _ = _; rw [set_snoc]; rfl
    · rw [if_neg h, if_neg h]
  rw [if_neg h7, if_neg h7]
  by_cases h8 : k = 8
  · rw [if_pos h8, if_pos h8]
    by_cases h : st.head? = some 7
    · rw [if_pos h, if_pos h]
      obtain _ | ⟨x, st⟩ := st
      · cases h
      · show _ = _; rw [last_snoc]; rfl
    · rw [if_neg h, if_neg h]
  rw [if_neg h8, if_neg h8]
theorem opn_scan : ∀ (p : List Gt) (st : List Int), (match scan p st with | none => (opn p st.reverse).2 = false | some st' => opn p st.reverse = (st'.reverse, true))
  | [], st => rfl
  | l :: p, st => by
    have h := o1_op1 st l.k
    rw [scan, opn]
    cases ho : op1 st l.k with
    | none => rw [ho] at h; dsimp only at h ⊢; rw [h]; rfl
    | some st' => rw [ho] at h; dsimp only at h ⊢; rw [h]; exact opn_scan p st'
def o2 (R : List Int) (n : Nat) (k : Int) : (List Int × Nat) × Bool :=
  if k = 4 ∨ k = 6 then ((R.take n ++ [k], (R.take n ++ [k]).length), decide (n + 1 ≤ 3))
  else if k = 5 then (if 0 < n ∧ R.getD ((n : Int) - 1).toNat Cel.no = 4 then ((R, ((n : Int) - 1).toNat), true) else ((R, n), false))
  else if k = 7 then (if 0 < n ∧ R.getD ((n : Int) - 1).toNat Cel.no = 6 then ((R.set ((n : Int) - 1).toNat 7, n), true) else ((R, n), false))
  else if k = 8 then (if 0 < n ∧ R.getD ((n : Int) - 1).toNat Cel.no = 7 then ((R, ((n : Int) - 1).toNat), true) else ((R, n), false))
  else ((R, n), true)
def opm : List Gt → List Int → Nat → (List Int × Nat) × Bool
  | [], R, n => ((R, n), true)
  | l :: p, R, n => if (o2 R n l.k).2 then opm p (o2 R n l.k).1.1 (o2 R n l.k).1.2 else ((o2 R n l.k).1, false)
theorem lastR {R : List Int} {n : Nat} (h : n ≤ R.length) (x : Int) : (0 < n ∧ R.getD ((n : Int) - 1).toNat Cel.no = x) ↔ (R.take n).getLast? = some x := by
  rw [show ((n : Int) - 1).toNat = n - 1 by omega, List.getLast?_eq_getElem?, List.length_take, Nat.min_eq_left h]
  rcases Nat.eq_zero_or_pos n with rfl | h0
  · simp
  · rw [List.getElem?_take_of_lt (by omega), List.getElem?_eq_getElem (by omega), List.getD_eq_getElem?_getD, List.getElem?_eq_getElem (by omega)]
    simp [h0]
theorem o2_o1 {R : List Int} {n : Nat} (h : n ≤ R.length) (k : Int) : (o2 R n k).1.2 ≤ (o2 R n k).1.1.length ∧ o1 (R.take n) k = ((o2 R n k).1.1.take (o2 R n k).1.2, (o2 R n k).2) := by
  have hl : (R.take n).length = n := by rw [List.length_take]; omega
  have hc : (R.take n).take ((n : Int) - 1).toNat = R.take ((n : Int) - 1).toNat := by rw [List.take_take, Nat.min_eq_left (by omega)]
  unfold o1 o2
  rw [hl, hc]
  by_cases h4 : k = 4 ∨ k = 6
  · rw [if_pos h4, if_pos h4]
    exact ⟨Nat.le_refl _, by rw [List.take_length]⟩
  rw [if_neg h4, if_neg h4]
  by_cases h5 : k = 5
  · rw [if_pos h5, if_pos h5]
    by_cases hx : (R.take n).getLast? = some 4
    · rw [if_pos hx, if_pos ((lastR h 4).2 hx)]; exact ⟨show ((n : Int) - 1).toNat ≤ R.length by omega, rfl⟩
    · rw [if_neg hx, if_neg (fun z => hx ((lastR h 4).1 z))]; exact ⟨h, rfl⟩
  rw [if_neg h5, if_neg h5]
  by_cases h7 : k = 7
  · rw [if_pos h7, if_pos h7]
    by_cases hx : (R.take n).getLast? = some 6
    · rw [if_pos hx, if_pos ((lastR h 6).2 hx)]; exact ⟨show n ≤ (R.set _ 7).length by rw [List.length_set]; exact h, by rw [List.take_set]⟩
    · rw [if_neg hx, if_neg (fun z => hx ((lastR h 6).1 z))]; exact ⟨h, rfl⟩
  rw [if_neg h7, if_neg h7]
  by_cases h8 : k = 8
  · rw [if_pos h8, if_pos h8]
    by_cases hx : (R.take n).getLast? = some 7
    · rw [if_pos hx, if_pos ((lastR h 7).2 hx)]; exact ⟨show ((n : Int) - 1).toNat ≤ R.length by omega, rfl⟩
    · rw [if_neg hx, if_neg (fun z => hx ((lastR h 7).1 z))]; exact ⟨h, rfl⟩
  rw [if_neg h8, if_neg h8]
  exact ⟨h, rfl⟩
theorem opm_opn : ∀ (p : List Gt) {R : List Int} {n : Nat}, n ≤ R.length → (opm p R n).1.2 ≤ (opm p R n).1.1.length ∧ opn p (R.take n) = ((opm p R n).1.1.take (opm p R n).1.2, (opm p R n).2)
  | [], R, n, h => ⟨h, rfl⟩
  | l :: p, R, n, h => by
    have h1 := o2_o1 h l.k
    rw [opn, opm, h1.2]
    dsimp only
    by_cases hb : (o2 R n l.k).2 = true
    · rw [if_pos hb, if_pos hb]; exact opm_opn p h1.1
    · rw [if_neg hb, if_neg hb]; exact ⟨h1.1, rfl⟩
theorem pv_opn (p : List Gt) : pvS p = (p.all lkG && ((opn p []).2 && (((opn p []).1.length : Int) == 0) && decide ((p.length : Int) ≤ 16))) := by
  have h := opn_scan p []
  have e16 : decide ((p.length : Int) ≤ 16) = decide (p.length ≤ 16) := by rw [decide_eq_decide]; omega
  unfold pvS
  rw [e16]
  cases hs : scan p [] with
  | none => rw [hs] at h; dsimp only at h; rw [show (opn p []) = opn p ([] : List Int).reverse from rfl, h]; simp
  | some st =>
    rw [hs] at h; dsimp only at h
    rw [show (opn p []) = opn p ([] : List Int).reverse from rfl, h]
    obtain _ | ⟨x, st⟩ := st
    · simp
    · simp
      intros
      omega
theorem pv_opm (p : List Gt) : pvS p = (p.all lkG && ((opm p [] 0).2 && (((opm p [] 0).1.2 : Int) == 0) && decide ((p.length : Int) ≤ 16))) := by
  have h := opm_opn p (R := []) (n := 0) (Nat.le_refl _)
  rw [pv_opn, show (opn p []) = opn p (([] : List Int).take 0) from rfl, h.2]
  dsimp only
  rw [List.length_take, Nat.min_eq_left h.1]
end Go.Proofs.Ytgjnnlgeggamjaa
namespace Go.Proofs.Ytgjnnlgeggamjaa
set_option linter.unusedVariables false
set_option linter.unusedSimpArgs false
abbrev RS := List Int × Nat
def rg (r : List Int) (i : Int) : Int := r.getD i.toNat 0
def do1 (l : Gt) (r : List Int) : List Int :=
  if l.k = 0 then r.set l.a.toNat ((rg r l.a + rg r l.b) % 64)
  else if l.k = 1 then r.set l.a.toNat ((rg r l.a + 64 - rg r l.b) % 64)
  else if l.k = 2 then r.set l.a.toNat ((rg r l.a + l.c) % 64)
  else if l.k = 3 then (r.set l.a.toNat (rg r l.b)).set l.b.toNat (rg r l.a)
  else r
def itO {α : Type} (f : α → Option α) : Nat → α → Option α
  | 0, x => some x
  | n + 1, x => (f x).bind (itO f n)
theorem itO_last {α : Type} (f : α → Option α) : ∀ (n : Nat) (x : α), itO f (n + 1) x = (itO f n x).bind f
  | 0, x => by
    show (f x).bind (itO f 0) = f x
    cases f x <;> rfl
  | n + 1, x => by
    rw [itO]
    cases h : f x with
    | none => rw [itO, h]; rfl
    | some y => rw [itO, h]; exact itO_last f n y
def rs : PS → RS → Option RS
  | .nil, x => some x
  | .one l t, x => rs t (do1 l x.1, x.2 + 1)
  | .rep l e p t, x => (itO (rs p) l.c.toNat x).bind (rs t)
  | .iff l m e p q t, x => (if (rg x.1 l.a == l.c) = true then rs p x else rs q x).bind fun y => if ((rg y.1 e.a == e.c) == (rg x.1 l.a == l.c)) = true then none else rs t y
theorem rs_app (b : PS) : ∀ (a : PS) (x : RS), rs (app a b) x = (rs a x).bind (rs b)
  | .nil, x => rfl
  | .one l t, x => by rw [app, rs, rs]; exact rs_app b t _
  | .rep l e p t, x => by
    rw [app, rs, rs]
    cases itO (rs p) l.c.toNat x with
    | none => rfl
    | some y => exact rs_app b t y
  | .iff l m e p q t, x => by
    rw [app, rs, rs]
    cases (if (rg x.1 l.a == l.c) = true then rs p x else rs q x) with
    | none => rfl
    | some y =>
      simp only [Option.bind_some]
      split
      · rfl
      · exact rs_app b t y
def rok (r : List Int) : Prop := r.length = 4 ∧ ∀ i, i < 4 → 0 ≤ r.getD i 0 ∧ r.getD i 0 < 64
def lb (l : Gt) : Gt :=
  if l.k = 0 then ⟨1, l.a, l.b, l.c⟩ else if l.k = 1 then ⟨0, l.a, l.b, l.c⟩ else if l.k = 2 then ⟨2, l.a, l.b, (64 - l.c) % 64⟩
  else if l.k = 6 then ⟨8, l.a, l.b, l.c⟩ else if l.k = 8 then ⟨6, l.a, l.b, l.c⟩ else if l.k = 5 then ⟨4, l.a, l.b, l.c⟩ else if l.k = 4 then ⟨5, 0, 0, 0⟩ else l
theorem lk_cases {l : Gt} (h : lkG l = true) : ((l.k = 0 ∨ l.k = 1 ∨ l.k = 3) ∧ (0 ≤ l.a ∧ l.a ≤ 3) ∧ (0 ≤ l.b ∧ l.b ≤ 3) ∧ l.a ≠ l.b ∧ l.c = 0) ∨ ((l.k = 2 ∨ l.k = 6 ∨ l.k = 8) ∧ (0 ≤ l.a ∧ l.a ≤ 3) ∧ l.b = 0 ∧ (0 ≤ l.c ∧ l.c ≤ 63)) ∨ (l.k = 4 ∧ l.a = 0 ∧ l.b = 0 ∧ (0 ≤ l.c ∧ l.c ≤ 3)) ∨ ((l.k = 5 ∨ l.k = 7) ∧ l.a = 0 ∧ l.b = 0 ∧ l.c = 0) := by
  have hk := lk_kind h
  obtain ⟨k, a, b, c⟩ := l
  have h' : lok k a b c = true := h
  dsimp only at hk ⊢
  have hcase : (k = 0 ∨ k = 1 ∨ k = 3) ∨ (k = 2 ∨ k = 6 ∨ k = 8) ∨ k = 4 ∨ (k = 5 ∨ k = 7) := by omega
  rcases hcase with hc | hc | rfl | hc
  · rw [lok_A hc] at h'
    simp only [Bool.and_eq_true, btw, decide_eq_true_eq, bne_iff_ne, beq_iff_eq] at h'
    exact .inl ⟨hc, h'.1.1.1, h'.1.1.2, h'.1.2, h'.2⟩
  · rw [lok_B hc] at h'
    simp only [Bool.and_eq_true, btw, decide_eq_true_eq, bne_iff_ne, beq_iff_eq] at h'
    exact .inr (.inl ⟨hc, h'.1.1, h'.1.2, h'.2⟩)
  · rw [lok_C] at h'
    simp only [Bool.and_eq_true, btw, decide_eq_true_eq, bne_iff_ne, beq_iff_eq] at h'
    exact .inr (.inr (.inl ⟨rfl, h'.1.1, h'.1.2, h'.2⟩))
  · rw [lok_D hc] at h'
    simp only [Bool.and_eq_true, btw, decide_eq_true_eq, bne_iff_ne, beq_iff_eq] at h'
    exact .inr (.inr (.inr ⟨hc, h'.1.1, h'.1.2, h'.2⟩))
theorem lkG_A {k a b c : Int} (hk : k = 0 ∨ k = 1 ∨ k = 3) (ha : 0 ≤ a ∧ a ≤ 3) (hb : 0 ≤ b ∧ b ≤ 3) (hn : a ≠ b) (hc : c = 0) : lkG ⟨k, a, b, c⟩ = true := by
  show lok k a b c = true
  rw [lok_A hk]
  simp only [Bool.and_eq_true, btw, decide_eq_true_eq, bne_iff_ne, beq_iff_eq]
  exact ⟨⟨⟨ha, hb⟩, hn⟩, hc⟩
theorem lkG_B {k a b c : Int} (hk : k = 2 ∨ k = 6 ∨ k = 8) (ha : 0 ≤ a ∧ a ≤ 3) (hb : b = 0) (hc : 0 ≤ c ∧ c ≤ 63) : lkG ⟨k, a, b, c⟩ = true := by
  show lok k a b c = true
  rw [lok_B hk]
  simp only [Bool.and_eq_true, btw, decide_eq_true_eq, bne_iff_ne, beq_iff_eq]
  exact ⟨⟨ha, hb⟩, hc⟩
theorem lb_ok {l : Gt} (h : lkG l = true) (hk : l.k ≠ 4 ∧ l.k ≠ 5) : lkG (lb l) = true ∧ lb (lb l) = l ∧ (l.k ≤ 3 → 0 ≤ (lb l).k ∧ (lb l).k ≤ 3) ∧ (l.k = 6 → (lb l).k = 8) ∧ (l.k = 8 → (lb l).k = 6) ∧ (l.k = 7 → lb l = l) := by
  rcases lk_cases h with ⟨h1, h2, h3, h4, h5⟩ | ⟨h1, h2, h3, h4⟩ | ⟨h1, _⟩ | ⟨h1, h2, h3, h4⟩
  · obtain ⟨k, a, b, c⟩ := l
    dsimp only at *
    rcases h1 with rfl | rfl | rfl
    · exact ⟨lkG_A (.inr (.inl rfl)) h2 h3 h4 h5, rfl, fun _ => ⟨(by decide : (0 : Int) ≤ 1), (by decide : (1 : Int) ≤ 3)⟩, fun e => by omega, fun e => by omega, fun e => by omega⟩
    · exact ⟨lkG_A (.inl rfl) h2 h3 h4 h5, rfl, fun _ => ⟨(by decide : (0 : Int) ≤ 0), (by decide : (0 : Int) ≤ 3)⟩, fun e => by omega, fun e => by omega, fun e => by omega⟩
    · exact ⟨lkG_A (.inr (.inr rfl)) h2 h3 h4 h5, rfl, fun _ => ⟨(by decide : (0 : Int) ≤ 3), (by decide : (3 : Int) ≤ 3)⟩, fun e => by omega, fun e => by omega, fun e => by omega⟩
  · obtain ⟨k, a, b, c⟩ := l
    dsimp only at *
    rcases h1 with rfl | rfl | rfl
    · refine ⟨lkG_B (.inl rfl) h2 h3 (by dsimp only; omega), ?_, fun _ => ⟨(by decide : (0 : Int) ≤ 2), (by decide : (2 : Int) ≤ 3)⟩, fun e => by omega, fun e => by omega, fun e => by omega⟩
      show (⟨2, a, b, (64 - (64 - c) % 64) % 64⟩ : Gt) = ⟨2, a, b, c⟩
      rw [show (64 - (64 - c) % 64) % 64 = c by omega]
    · exact ⟨lkG_B (.inr (.inr rfl)) h2 h3 h4, rfl, fun e => by omega, fun _ => rfl, fun e => by omega, fun e => by omega⟩
    · exact ⟨lkG_B (.inr (.inl rfl)) h2 h3 h4, rfl, fun e => by omega, fun e => by omega, fun _ => rfl, fun e => by omega⟩
  · exact absurd h1 hk.1
  · rcases h1 with h1 | h1
    · exact absurd h1 hk.2
    · obtain ⟨k, a, b, c⟩ := l
      dsimp only at *
      subst h1
      exact ⟨h, rfl, fun e => by omega, fun e => by omega, fun e => by omega, fun _ => rfl⟩
theorem four (i : Int) (h : 0 ≤ i ∧ i ≤ 3) : i = 0 ∨ i = 1 ∨ i = 2 ∨ i = 3 := by omega
theorem do1_back {l : Gt} {r : List Int} (h : lkG l = true) (hk : 0 ≤ l.k ∧ l.k ≤ 3) (hr : rok r) : rok (do1 l r) ∧ do1 (lb l) (do1 l r) = r := by
  obtain ⟨h1, h2⟩ := hr
  obtain ⟨x0, x1, x2, x3, rfl⟩ : ∃ x0 x1 x2 x3, r = [x0, x1, x2, x3] := by
    rcases r with _ | ⟨x0, _ | ⟨x1, _ | ⟨x2, _ | ⟨x3, _ | ⟨x4, r⟩⟩⟩⟩⟩
    · cases h1
    · cases h1
    · cases h1
    · cases h1
    · exact ⟨x0, x1, x2, x3, rfl⟩
    · simp at h1
  have y0 := h2 0 (by omega)
  have y1 := h2 1 (by omega)
  have y2 := h2 2 (by omega)
  have y3 := h2 3 (by omega)
  simp only [List.getD_cons_zero, List.getD_cons_succ] at y0 y1 y2 y3
  clear h1 h2
  have fin : ∀ z0 z1 z2 z3 : Int, (0 ≤ z0 ∧ z0 < 64) → (0 ≤ z1 ∧ z1 < 64) → (0 ≤ z2 ∧ z2 < 64) → (0 ≤ z3 ∧ z3 < 64) → rok [z0, z1, z2, z3] := fun z0 z1 z2 z3 a b c d => ⟨rfl, fun i hi => by
    have : i = 0 ∨ i = 1 ∨ i = 2 ∨ i = 3 := by omega
    rcases this with rfl | rfl | rfl | rfl
    · exact a
    · exact b
    · exact c
    · exact d⟩
  obtain ⟨k, a, b, c⟩ := l
  dsimp only at hk
  rcases lk_cases h with ⟨h1, h2, h3, h4, h5⟩ | ⟨h1, h2, h3, h4⟩ | ⟨h1, _⟩ | ⟨h1, _⟩
  · dsimp only at h1 h2 h3 h4 h5
    subst h5
    rcases four a h2 with rfl | rfl | rfl | rfl <;> rcases four b h3 with rfl | rfl | rfl | rfl <;> first | exact absurd rfl h4 | skip
    all_goals rcases h1 with rfl | rfl | rfl
    all_goals refine ⟨?_, ?_⟩
    all_goals simp only [do1, lb, rg, Int.toNat_zero, Int.toNat_one, show (2 : Int).toNat = 2 from rfl, show (3 : Int).toNat = 3 from rfl, List.set_cons_zero, List.set_cons_succ, List.getD_cons_zero, List.getD_cons_succ, if_true, if_false, reduceIte, Int.reduceEq]
    all_goals first | (refine fin _ _ _ _ ?_ ?_ ?_ ?_ <;> omega) | (simp only [List.cons.injEq, and_true, true_and]; omega) | rfl
  · dsimp only at h1 h2 h3 h4
    subst h3
    obtain rfl : k = 2 := by omega
    rcases four a h2 with rfl | rfl | rfl | rfl
    all_goals refine ⟨?_, ?_⟩
    all_goals simp only [do1, lb, rg, Int.toNat_zero, Int.toNat_one, show (2 : Int).toNat = 2 from rfl, show (3 : Int).toNat = 3 from rfl, List.set_cons_zero, List.set_cons_succ, List.getD_cons_zero, List.getD_cons_succ, if_true, if_false, reduceIte, Int.reduceEq]
    all_goals first | (refine fin _ _ _ _ ?_ ?_ ?_ ?_ <;> omega) | (simp only [List.cons.injEq, and_true, true_and]; omega) | rfl
  · dsimp only at h1; omega
  · dsimp only at h1; omega
def bk : PS → PS
  | .nil => .nil
  | .one l t => app (bk t) (.one (lb l) .nil)
  | .rep l e p t => app (bk t) (.rep l e (bk p) .nil)
  | .iff l m e p q t => app (bk t) (.iff (lb e) m (lb l) (bk q) (bk p) .nil)
theorem bk_app (b : PS) : ∀ a, bk (app a b) = app (bk b) (bk a)
  | .nil => (app_nil _).symm
  | .one l t => by rw [app, bk, bk, bk_app b t, app_assoc]
  | .rep l e p t => by rw [app, bk, bk, bk_app b t, app_assoc]
  | .iff l m e p q t => by rw [app, bk, bk, bk_app b t, app_assoc]
def lkA (t : PS) : Prop := (fl t).all lkG = true
theorem lkA_one {l : Gt} {t : PS} (h : lkA (.one l t)) : lkG l = true ∧ lkA t := by
  unfold lkA at *; rw [fl, List.all_cons, Bool.and_eq_true] at h; exact h
theorem lkA_rep {l e : Gt} {p t : PS} (h : lkA (.rep l e p t)) : lkG l = true ∧ lkA p ∧ lkG e = true ∧ lkA t := by
  unfold lkA at *; rw [fl, List.all_cons, List.all_append, List.all_cons, Bool.and_eq_true, Bool.and_eq_true, Bool.and_eq_true] at h; exact h
theorem lkA_iff {l m e : Gt} {p q t : PS} (h : lkA (.iff l m e p q t)) : lkG l = true ∧ lkA p ∧ lkG m = true ∧ lkA q ∧ lkG e = true ∧ lkA t := by
  unfold lkA at *; rw [fl, List.all_cons, List.all_append, List.all_cons, List.all_append, List.all_cons, Bool.and_eq_true, Bool.and_eq_true, Bool.and_eq_true, Bool.and_eq_true, Bool.and_eq_true] at h; exact h
theorem lkA_app {a b : PS} (ha : lkA a) (hb : lkA b) : lkA (app a b) := by
  unfold lkA at *; rw [fl_app, List.all_append, ha, hb]; rfl
theorem bk_ok : ∀ {t : PS}, wf t → lkA t → wf (bk t) ∧ lkA (bk t) ∧ (fl (bk t)).length = (fl t).length ∧ dp (bk t) = dp t ∧ bk (bk t) = t
  | .nil, _, _ => ⟨trivial, rfl, rfl, rfl, rfl⟩
  | .one l t, hw, hl => by
    obtain ⟨l1, l2⟩ := lkA_one hl
    obtain ⟨a1, a2, a3, a4, a5⟩ := bk_ok hw.2 l2
    have hk := hw.1
    obtain ⟨b1, b2, b3, _⟩ := lb_ok l1 ⟨by omega, by omega⟩
    refine ⟨wf_app (b := .one (lb l) .nil) ⟨b3 hk.2, trivial⟩ a1, lkA_app a2 (by unfold lkA; rw [fl, fl, List.all_cons, b1]; rfl), ?_, ?_, ?_⟩
    · rw [bk, fl_app, List.length_append, a3]; rfl
    · rw [bk, dp_app, a4]; simp [dp]
    · rw [bk, bk_app, a5, bk, b2]; rfl
  | .rep l e p t, hw, hl => by
    obtain ⟨l1, l2, l3, l4⟩ := lkA_rep hl
    obtain ⟨a1, a2, a3, a4, a5⟩ := bk_ok hw.2.2 l4
    obtain ⟨c1, c2, c3, c4, c5⟩ := bk_ok hw.2.1 l2
    refine ⟨wf_app (b := .rep l e (bk p) .nil) ⟨hw.1, c1, trivial⟩ a1, lkA_app a2 ?_, ?_, ?_, ?_⟩
    · unfold lkA at *
      rw [fl, List.all_cons, List.all_append, List.all_cons, l1, c2, l3]; rfl
    · rw [bk, fl_app, List.length_append, a3, fl, fl]; simp [fl, c3]; omega
    · rw [bk, dp_app, a4, dp, dp, c4, dp]; omega
    · rw [bk, bk_app, a5, bk, c5]; rfl
  | .iff l m e p q t, hw, hl => by
    obtain ⟨l1, l2, l3, l4, l5, l6⟩ := lkA_iff hl
    obtain ⟨a1, a2, a3, a4, a5⟩ := bk_ok hw.2.2.2 l6
    obtain ⟨c1, c2, c3, c4, c5⟩ := bk_ok hw.2.1 l2
    obtain ⟨d1, d2, d3, d4, d5⟩ := bk_ok hw.2.2.1 l4
    have hk := hw.1
    obtain ⟨b1, b2, _, b4, _⟩ := lb_ok l1 ⟨by omega, by omega⟩
    obtain ⟨e1, e2, _, _, e5, _⟩ := lb_ok l5 ⟨by omega, by omega⟩
    refine ⟨wf_app (b := .iff (lb e) m (lb l) (bk q) (bk p) .nil) ⟨⟨e5 hk.2.2, hk.2.1, b4 hk.1⟩, d1, c1, trivial⟩ a1, lkA_app a2 ?_, ?_, ?_, ?_⟩
    · unfold lkA at *
      rw [fl, List.all_cons, List.all_append, List.all_cons, List.all_append, List.all_cons, e1, d2, l3, c2, b1]; rfl
    · rw [bk, fl_app, List.length_append, a3, fl, fl]; simp [fl, c3, d3]; omega
    · rw [bk, dp_app, a4, dp, dp, c4, d4, dp]; omega
    · rw [bk, bk_app, a5, bk, c5, d5, b2, e2]; rfl
def Bck (f g : RS → Option RS) : Prop := ∀ x y, rok x.1 → f x = some y → rok y.1 ∧ x.2 ≤ y.2 ∧ ∀ n, g (y.1, n) = some (x.1, n + (y.2 - x.2))
theorem bck_it {f g : RS → Option RS} (h : Bck f g) : ∀ N, Bck (itO f N) (itO g N)
  | 0, x, y, hr, e => by
    cases e
    exact ⟨hr, Nat.le_refl _, fun n => by rw [itO, Nat.sub_self, Nat.add_zero]⟩
  | N + 1, x, y, hr, e => by
    rw [itO] at e
    rcases hf : f x with _ | z
    · rw [hf] at e; cases e
    rw [hf] at e
    have e' : itO f N z = some y := e
    obtain ⟨a1, a2, a3⟩ := h x z hr hf
    obtain ⟨b1, b2, b3⟩ := bck_it h N z y a1 e'
    refine ⟨b1, by omega, fun n => ?_⟩
    rw [itO_last, b3 n]
    show g (z.1, n + (y.2 - z.2)) = _
    rw [a3, show n + (y.2 - z.2) + (z.2 - x.2) = n + (y.2 - x.2) by omega]
theorem bck : ∀ {t : PS}, wf t → lkA t → Bck (rs t) (rs (bk t))
  | .nil, _, _, x, y, hr, e => by
    cases e
    exact ⟨hr, Nat.le_refl _, fun n => by rw [bk, rs, Nat.sub_self, Nat.add_zero]⟩
  | .one l t, hw, hl, x, y, hr, e => by
    obtain ⟨l1, l2⟩ := lkA_one hl
    obtain ⟨d1, d2⟩ := do1_back l1 hw.1 hr
    rw [rs] at e
    obtain ⟨a1, a2, a3⟩ := bck hw.2 l2 _ y d1 e
    dsimp only at a2 a3
    refine ⟨a1, by omega, fun n => ?_⟩
    rw [bk, rs_app, a3 n]
    show rs (.one (lb l) .nil) (do1 l x.1, _) = _
    rw [rs, rs]
    dsimp only
    rw [d2, show n + (y.2 - (x.2 + 1)) + 1 = n + (y.2 - x.2) by omega]
  | .rep l e p t, hw, hl, x, y, hr, h => by
    obtain ⟨l1, l2, l3, l4⟩ := lkA_rep hl
    rw [rs] at h
    rcases hf : itO (rs p) l.c.toNat x with _ | z
    · rw [hf] at h; cases h
    rw [hf] at h
    have h' : rs t z = some y := h
    obtain ⟨a1, a2, a3⟩ := bck_it (bck hw.2.1 l2) _ x z hr hf
    obtain ⟨b1, b2, b3⟩ := bck hw.2.2 l4 z y a1 h'
    refine ⟨b1, by omega, fun n => ?_⟩
    rw [bk, rs_app, b3 n]
    show rs (.rep l e (bk p) .nil) (z.1, _) = _
    rw [rs, a3]
    show some _ = _
    rw [show n + (y.2 - z.2) + (z.2 - x.2) = n + (y.2 - x.2) by omega]
  | .iff l m e p q t, hw, hl, x, y, hr, h => by
    obtain ⟨l1, l2, l3, l4, l5, l6⟩ := lkA_iff hl
    have hk := hw.1
    have hle : (lb e).a = e.a ∧ (lb e).c = e.c := by unfold lb; rw [if_neg (by omega), if_neg (by omega), if_neg (by omega), if_neg (by omega), if_pos hk.2.2]; exact ⟨rfl, rfl⟩
    have hll : (lb l).a = l.a ∧ (lb l).c = l.c := by unfold lb; rw [if_neg (by omega), if_neg (by omega), if_neg (by omega), if_pos hk.1]; exact ⟨rfl, rfl⟩
    rw [rs] at h
    cases hf : (rg x.1 l.a == l.c) with
    | true =>
      rw [hf, if_pos rfl] at h
      rcases hp : rs p x with _ | z
      · rw [hp] at h; cases h
      rw [hp] at h
      simp only [Option.bind_some] at h
      cases hc : (rg z.1 e.a == e.c) with
      | true => rw [hc, if_pos (by rfl)] at h; cases h
      | false =>
        rw [hc, if_neg (by decide)] at h
        obtain ⟨a1, a2, a3⟩ := bck hw.2.1 l2 x z hr hp
        obtain ⟨b1, b2, b3⟩ := bck hw.2.2.2 l6 z y a1 h
        refine ⟨b1, by omega, fun n => ?_⟩
        rw [bk, rs_app, b3 n]
        show rs (.iff (lb e) m (lb l) (bk q) (bk p) .nil) (z.1, _) = _
        rw [rs]
        dsimp only
        rw [hle.1, hle.2, hc, if_neg (by decide), a3]
        simp only [Option.bind_some]
        rw [hll.1, hll.2, hf, if_neg (by decide), rs, show n + (y.2 - z.2) + (z.2 - x.2) = n + (y.2 - x.2) by omega]
    | false =>
      rw [hf, if_neg (by decide)] at h
      rcases hp : rs q x with _ | z
      · rw [hp] at h; cases h
      rw [hp] at h
      simp only [Option.bind_some] at h
      cases hc : (rg z.1 e.a == e.c) with
      | false => rw [hc, if_pos (by rfl)] at h; cases h
      | true =>
        rw [hc, if_neg (by decide)] at h
        obtain ⟨a1, a2, a3⟩ := bck hw.2.2.1 l4 x z hr hp
        obtain ⟨b1, b2, b3⟩ := bck hw.2.2.2 l6 z y a1 h
        refine ⟨b1, by omega, fun n => ?_⟩
        rw [bk, rs_app, b3 n]
        show rs (.iff (lb e) m (lb l) (bk q) (bk p) .nil) (z.1, _) = _
        rw [rs]
        dsimp only
        rw [hle.1, hle.2, hc, if_pos rfl, a3]
        simp only [Option.bind_some]
        rw [hll.1, hll.2, hf, if_neg (by decide), rs, show n + (y.2 - z.2) + (z.2 - x.2) = n + (y.2 - x.2) by omega]
def clo : List Gt → Nat → Nat
  | [], _ => 0
  | l :: r, d =>
    if l.k = 4 ∨ l.k = 6 then 1 + clo r (d + 1)
    else if l.k = 5 ∨ l.k = 8 then (if d = 0 then 0 else 1 + clo r (d - 1))
    else if l.k = 7 then (if d = 0 then 0 else 1 + clo r d)
    else 1 + clo r d
theorem clo_fl : ∀ (t : PS) (r : List Gt) (d : Nat), wf t → clo (fl t ++ r) d = (fl t).length + clo r d
  | .nil, r, d, _ => (Nat.zero_add _).symm
  | .one l t, r, d, h => by
    have hk := h.1
    rw [fl, List.cons_append, clo, if_neg (by omega), if_neg (by omega), if_neg (by omega), clo_fl t r d h.2, List.length_cons]; omega
  | .rep l e p t, r, d, h => by
    have hk := h.1
    rw [fl, List.cons_append, List.append_assoc, clo, if_pos (.inl hk.1), clo_fl p _ (d + 1) h.2.1, List.cons_append, clo, if_neg (by omega), if_pos (.inl hk.2), if_neg (by omega), Nat.add_sub_cancel, clo_fl t r d h.2.2, List.length_cons, List.length_append, List.length_cons]; omega
  | .iff l m e p q t, r, d, h => by
    have hk := h.1
    rw [fl, List.cons_append, List.append_assoc, clo, if_pos (.inr hk.1), clo_fl p _ (d + 1) h.2.1, List.cons_append, clo, if_neg (by omega), if_neg (by omega), if_pos hk.2.1, if_neg (by omega), List.append_assoc, clo_fl q _ (d + 1) h.2.2.1, List.cons_append, clo, if_neg (by omega), if_pos (.inr hk.2.2), if_neg (by omega), Nat.add_sub_cancel, clo_fl t r d h.2.2.2, List.length_cons, List.length_append, List.length_cons, List.length_append, List.length_cons]; omega
abbrev gz : Gt := ⟨0, 0, 0, 0⟩
def cls (P : List Gt) (j : Nat) : Nat := j + 1 + clo (P.drop (j + 1)) 0
def sbN (P : List Gt) (k : Nat) : Nat → Int
  | 0 => 0
  | j + 1 => if (P.getD j gz).k = 4 ∧ cls P j = k then (P.getD j gz).c else sbN P k j
def sb (P : List Gt) (k : Nat) : Gt := if (P.getD k gz).k = 5 then ⟨(lb (P.getD k gz)).k, (lb (P.getD k gz)).a, (lb (P.getD k gz)).b, sbN P k k⟩ else lb (P.getD k gz)
theorem getD_mid (a b : List Gt) (x : Gt) : (a ++ x :: b).getD a.length gz = x := by
  simp [List.getD_eq_getElem?_getD]
end Go.Proofs.Ytgjnnlgeggamjaa
namespace Go.Proofs.Ytgjnnlgeggamjaa
set_option linter.unusedVariables false
set_option linter.unusedSimpArgs false
set_option maxRecDepth 20000
open Go.RowKit
attribute [local irreducible] runA runX AW
theorem gq_PKB {H G : Prop} (k : H) (h : Hid H → G := by (intro hh; repeat1' (first | (first | (refine nxA ?_; (first | fail | ((first | (refine z_op (by rfl) ?_; first | refine z_ok ?_ ?_ | refine z_ex ?_ (by first | exact zL1 | ((first | fail); exact zWW) | exact zL2 | (first | exact rw_c Int rfl | exact rw_c Gt rfl) | exact zL3 | exact ct_t (l := R) rfl rfl rfl (by omega) (by simp; omega)) ?_) | ((first | refine q_callE wsT wsZ (by rfl) ?_ | refine q_callVE wsT (by rfl) (by rfl) ?_); refine ⟨_, _, _, (by first | assumption | exact k_lvS _ _ _ _), _, by rfl, ?_, ?_⟩)); focus (first | exact trivial | fail | exact zQZ)) | fail)) | refine swA ?_) | refine awA ?_); exact hh.out)) : G := h ⟨k⟩
abbrev intRow (l : List Int) : Ent := rwE 3 l
theorem dropG {l : List Gt} {k : Nat} (h : k < l.length) : l.drop k = l.getD (k : Int).toNat Cel.no :: l.drop (k + 1) := by
  rw [List.drop_eq_getElem_cons h]
  simp [List.getD_eq_getElem?_getD, h]
set_option maxHeartbeats 4000000 in
theorem k_opS (P : List Gt) (h : P.length ≤ 2000000) : Kon Try.prog 43 [roA P] [] (.tup [.one (.sl 0 0 (opm P [] 0).1.2), .one (.v (.bool (opm P [] 0).2))]) [intRow (opm P [] 0).1.1] [] := by
  (refine kM Try.func43 rfl ?_; intro hfit hfe)
  (repeat (first | refine gq_PKB ?_ | (refine ga0A ?_; intro _hq)))
  (refine aw_rd [0] [] (fun g : Nat × Nat × List Int × Nat => [(4, .g (.one (.sl 112 g.2.1 g.2.2.2))), (5, vI g.1)]) (fun g => [(112, (g.2.1, intRow g.2.2.1))]) (fun g => g.1 ≤ P.length ∧ g.2.2.2 ≤ g.2.2.1.length ∧ g.2.2.1.length ≤ 4 ∧ g.2.2.2 ≤ 3 ∧ opm (P.drop g.1) g.2.2.1 g.2.2.2 = opm P [] 0) (fun g => P.length - g.1) (0, 0, [], 0) (by rfl) (by rfl) ?_ (by rfl) zHE zHE ?_)
  · exact ⟨Nat.zero_le _, Nat.le_refl _, Nat.zero_le _, Nat.zero_le _, rfl⟩
  rintro ⟨k, u, R, n⟩ ⟨h1, hn, hR4, h2, hz⟩
  dsimp only at h1 hn hR4 h2 hz ⊢
  rcases Nat.lt_or_ge k P.length with h5 | h5
  · have hd : decide ((k : Int) < (P.length : Int)) = true := by simpa using h5
    rw [dropG h5, opm, o2] at hz
    have hg0 : decide ((n : Int) > 3) = false := decide_eq_false (by omega)
    have hgt : decide ((((n : Int) - 1).toNat : Int) > 3) = false := decide_eq_false (by omega)
    have hsl : n ≤ (R.set ((n : Int) - 1).toNat 7).length := by rw [List.length_set]; exact hn
    have hcl : n * 1 ≤ (cV R).length := by rw [cV_len]; show n * 1 ≤ R.length * 1; omega
    by_cases hA : (P.getD (k : Int).toNat Cel.no).k = 4 ∨ (P.getD (k : Int).toNat Cel.no).k = 6
    · rw [if_pos hA] at hz
      have hl : (R.take n ++ [(P.getD (k : Int).toNat Cel.no).k]).length = n + 1 := by simp; omega
      by_cases h3 : n + 1 ≤ 3
      · have hg : decide (((R.take n ++ [(P.getD (k : Int).toNat Cel.no).k]).length : Int) > 3) = false := decide_eq_false (by rw [hl]; omega)
        rw [if_pos (decide_eq_true h3)] at hz
        have hinv : k + 1 ≤ P.length ∧ (R.take n ++ [(P.getD (k : Int).toNat Cel.no).k]).length ≤ (R.take n ++ [(P.getD (k : Int).toNat Cel.no).k]).length ∧ (R.take n ++ [(P.getD (k : Int).toNat Cel.no).k]).length ≤ 4 ∧ (R.take n ++ [(P.getD (k : Int).toNat Cel.no).k]).length ≤ 3 ∧ opm (P.drop (k + 1)) (R.take n ++ [(P.getD (k : Int).toNat Cel.no).k]) (R.take n ++ [(P.getD (k : Int).toNat Cel.no).k]).length = opm P [] 0 := ⟨h5, Nat.le_refl _, by omega, by omega, hz⟩
        clear hz
        rcases hA with hK | hK
        · skip
          have e4 : ((P.getD (k : Int).toNat Cel.no).k == 4) = true := beq_iff_eq.2 hK
          rcases Nat.eq_zero_or_pos n with hp | hp
          · have hN : decide ((n : Int) > 0) = false := decide_eq_false (by omega)
            (repeat (first | refine gq_PKB ?_ | (refine ga0A ?_; intro _hq)))
            exact ⟨(k + 1, u + 1, R.take n ++ [(P.getD (k : Int).toNat Cel.no).k], (R.take n ++ [(P.getD (k : Int).toNat Cel.no).k]).length), hinv, ⟨by rfl, zHE, zHE⟩, (by first | omega | (dsimp only; omega))⟩
          · have hN : decide ((n : Int) > 0) = true := decide_eq_true (by omega)
            (repeat (first | refine gq_PKB ?_ | (refine ga0A ?_; intro _hq)))
            exact ⟨(k + 1, u + 1, R.take n ++ [(P.getD (k : Int).toNat Cel.no).k], (R.take n ++ [(P.getD (k : Int).toNat Cel.no).k]).length), hinv, ⟨by rfl, zHE, zHE⟩, (by first | omega | (dsimp only; omega))⟩
        · skip
          have e4 : ((P.getD (k : Int).toNat Cel.no).k == 4) = false := beq_eq_false_iff_ne.2 (by omega)
          have e6 : ((P.getD (k : Int).toNat Cel.no).k == 6) = true := beq_iff_eq.2 hK
          rcases Nat.eq_zero_or_pos n with hp | hp
          · have hN : decide ((n : Int) > 0) = false := decide_eq_false (by omega)
            (repeat (first | refine gq_PKB ?_ | (refine ga0A ?_; intro _hq)))
            exact ⟨(k + 1, u + 1, R.take n ++ [(P.getD (k : Int).toNat Cel.no).k], (R.take n ++ [(P.getD (k : Int).toNat Cel.no).k]).length), hinv, ⟨by rfl, zHE, zHE⟩, (by first | omega | (dsimp only; omega))⟩
          · have hN : decide ((n : Int) > 0) = true := decide_eq_true (by omega)
            (repeat (first | refine gq_PKB ?_ | (refine ga0A ?_; intro _hq)))
            exact ⟨(k + 1, u + 1, R.take n ++ [(P.getD (k : Int).toNat Cel.no).k], (R.take n ++ [(P.getD (k : Int).toNat Cel.no).k]).length), hinv, ⟨by rfl, zHE, zHE⟩, (by first | omega | (dsimp only; omega))⟩
      · have hg : decide (((R.take n ++ [(P.getD (k : Int).toNat Cel.no).k]).length : Int) > 3) = true := decide_eq_true (by rw [hl]; omega)
        rw [if_neg (show ¬ decide (n + 1 ≤ 3) = true by simp; omega)] at hz
        rw [← hz]
        clear hz
        rcases hA with hK | hK
        · skip
          have e4 : ((P.getD (k : Int).toNat Cel.no).k == 4) = true := beq_iff_eq.2 hK
          rcases Nat.eq_zero_or_pos n with hp | hp
          · exact absurd hp (by omega)
          · have hN : decide ((n : Int) > 0) = true := decide_eq_true (by omega)
            (repeat (first | refine gq_PKB ?_ | (refine ga0A ?_; intro _hq)))
            (refine rtA ?_; try rfl)
        · skip
          have e4 : ((P.getD (k : Int).toNat Cel.no).k == 4) = false := beq_eq_false_iff_ne.2 (by omega)
          have e6 : ((P.getD (k : Int).toNat Cel.no).k == 6) = true := beq_iff_eq.2 hK
          rcases Nat.eq_zero_or_pos n with hp | hp
          · exact absurd hp (by omega)
          · have hN : decide ((n : Int) > 0) = true := decide_eq_true (by omega)
            (repeat (first | refine gq_PKB ?_ | (refine ga0A ?_; intro _hq)))
            (refine rtA ?_; try rfl)
    rw [if_neg hA] at hz
    by_cases hK : (P.getD (k : Int).toNat Cel.no).k = 5
    · rw [if_pos hK] at hz
      have e4 : ((P.getD (k : Int).toNat Cel.no).k == 4) = false := beq_eq_false_iff_ne.2 (by omega)
      have e6 : ((P.getD (k : Int).toNat Cel.no).k == 6) = false := beq_eq_false_iff_ne.2 (by omega)
      have e5 : ((P.getD (k : Int).toNat Cel.no).k == 5) = true := beq_iff_eq.2 hK
      rcases Nat.eq_zero_or_pos n with hp | hp
      · have hN : decide ((n : Int) > 0) = false := decide_eq_false (by omega)
        rw [if_neg (show ¬ (0 < n ∧ (R.getD ((n : Int) - 1).toNat Cel.no) = 4) by omega)] at hz
        rw [← show _ = opm P [] 0 from hz]
        clear hz
        (repeat (first | refine gq_PKB ?_ | (refine ga0A ?_; intro _hq)))
        (refine rtA ?_; try rfl)
      · have hN : decide ((n : Int) > 0) = true := decide_eq_true (by omega)
        by_cases hx : (R.getD ((n : Int) - 1).toNat Cel.no) = 4
        · have hx2 : ((R.getD ((n : Int) - 1).toNat Cel.no) != 4) = false := by rw [hx]; rfl
          rw [if_pos (show 0 < n ∧ (R.getD ((n : Int) - 1).toNat Cel.no) = 4 from ⟨hp, hx⟩), if_pos rfl] at hz
          have hinv : k + 1 ≤ P.length ∧ ((n : Int) - 1).toNat ≤ R.length ∧ R.length ≤ 4 ∧ ((n : Int) - 1).toNat ≤ 3 ∧ opm (P.drop (k + 1)) R ((n : Int) - 1).toNat = opm P [] 0 := ⟨h5, by omega, hR4, by omega, hz⟩
          clear hz
          (repeat (first | refine gq_PKB ?_ | (refine ga0A ?_; intro _hq)))
          exact ⟨(k + 1, u, R, ((n : Int) - 1).toNat), hinv, ⟨by rfl, zHE, zHE⟩, (by first | omega | (dsimp only; omega))⟩
        · have hx2 : ((R.getD ((n : Int) - 1).toNat Cel.no) != 4) = true := bne_iff_ne.2 hx
          rw [if_neg (show ¬ (0 < n ∧ (R.getD ((n : Int) - 1).toNat Cel.no) = 4) from fun h => hx h.2)] at hz
          rw [← show _ = opm P [] 0 from hz]
          clear hz
          (repeat (first | refine gq_PKB ?_ | (refine ga0A ?_; intro _hq)))
          (refine rtA ?_; try rfl)
    rw [if_neg hK] at hz
    by_cases hK : (P.getD (k : Int).toNat Cel.no).k = 7
    · rw [if_pos hK] at hz
      have e4 : ((P.getD (k : Int).toNat Cel.no).k == 4) = false := beq_eq_false_iff_ne.2 (by omega)
      have e6 : ((P.getD (k : Int).toNat Cel.no).k == 6) = false := beq_eq_false_iff_ne.2 (by omega)
      have e5 : ((P.getD (k : Int).toNat Cel.no).k == 5) = false := beq_eq_false_iff_ne.2 (by omega)
      have e7 : ((P.getD (k : Int).toNat Cel.no).k == 7) = true := beq_iff_eq.2 hK
      rcases Nat.eq_zero_or_pos n with hp | hp
      · have hN : decide ((n : Int) > 0) = false := decide_eq_false (by omega)
        rw [if_neg (show ¬ (0 < n ∧ (R.getD ((n : Int) - 1).toNat Cel.no) = 6) by omega)] at hz
        rw [← show _ = opm P [] 0 from hz]
        clear hz
        (repeat (first | refine gq_PKB ?_ | (refine ga0A ?_; intro _hq)))
        (refine rtA ?_; try rfl)
      · have hN : decide ((n : Int) > 0) = true := decide_eq_true (by omega)
        by_cases hx : (R.getD ((n : Int) - 1).toNat Cel.no) = 6
        · have hx2 : ((R.getD ((n : Int) - 1).toNat Cel.no) != 6) = false := by rw [hx]; rfl
          rw [if_pos (show 0 < n ∧ (R.getD ((n : Int) - 1).toNat Cel.no) = 6 from ⟨hp, hx⟩), if_pos rfl] at hz
          have hinv : k + 1 ≤ P.length ∧ n ≤ (R.set ((n : Int) - 1).toNat 7).length ∧ (R.set ((n : Int) - 1).toNat 7).length ≤ 4 ∧ n ≤ 3 ∧ opm (P.drop (k + 1)) (R.set ((n : Int) - 1).toNat 7) n = opm P [] 0 := ⟨h5, hsl, by rw [List.length_set]; exact hR4, h2, hz⟩
          clear hz
          (repeat (first | refine gq_PKB ?_ | (refine ga0A ?_; intro _hq)))
          exact ⟨(k + 1, u, R.set ((n : Int) - 1).toNat 7, n), hinv, ⟨by rfl, zHE, zHE⟩, (by first | omega | (dsimp only; omega))⟩
        · have hx2 : ((R.getD ((n : Int) - 1).toNat Cel.no) != 6) = true := bne_iff_ne.2 hx
          rw [if_neg (show ¬ (0 < n ∧ (R.getD ((n : Int) - 1).toNat Cel.no) = 6) from fun h => hx h.2)] at hz
          rw [← show _ = opm P [] 0 from hz]
          clear hz
          (repeat (first | refine gq_PKB ?_ | (refine ga0A ?_; intro _hq)))
          (refine rtA ?_; try rfl)
    rw [if_neg hK] at hz
    by_cases hK : (P.getD (k : Int).toNat Cel.no).k = 8
    · rw [if_pos hK] at hz
      have e4 : ((P.getD (k : Int).toNat Cel.no).k == 4) = false := beq_eq_false_iff_ne.2 (by omega)
      have e6 : ((P.getD (k : Int).toNat Cel.no).k == 6) = false := beq_eq_false_iff_ne.2 (by omega)
      have e5 : ((P.getD (k : Int).toNat Cel.no).k == 5) = false := beq_eq_false_iff_ne.2 (by omega)
      have e7 : ((P.getD (k : Int).toNat Cel.no).k == 7) = false := beq_eq_false_iff_ne.2 (by omega)
      have e8 : ((P.getD (k : Int).toNat Cel.no).k == 8) = true := beq_iff_eq.2 hK
      rcases Nat.eq_zero_or_pos n with hp | hp
      · have hN : decide ((n : Int) > 0) = false := decide_eq_false (by omega)
        rw [if_neg (show ¬ (0 < n ∧ (R.getD ((n : Int) - 1).toNat Cel.no) = 7) by omega)] at hz
        rw [← show _ = opm P [] 0 from hz]
        clear hz
        (repeat (first | refine gq_PKB ?_ | (refine ga0A ?_; intro _hq)))
        (refine rtA ?_; try rfl)
      · have hN : decide ((n : Int) > 0) = true := decide_eq_true (by omega)
        by_cases hx : (R.getD ((n : Int) - 1).toNat Cel.no) = 7
        · have hx2 : ((R.getD ((n : Int) - 1).toNat Cel.no) != 7) = false := by rw [hx]; rfl
          rw [if_pos (show 0 < n ∧ (R.getD ((n : Int) - 1).toNat Cel.no) = 7 from ⟨hp, hx⟩), if_pos rfl] at hz
          have hinv : k + 1 ≤ P.length ∧ ((n : Int) - 1).toNat ≤ R.length ∧ R.length ≤ 4 ∧ ((n : Int) - 1).toNat ≤ 3 ∧ opm (P.drop (k + 1)) R ((n : Int) - 1).toNat = opm P [] 0 := ⟨h5, by omega, hR4, by omega, hz⟩
          clear hz
          (repeat (first | refine gq_PKB ?_ | (refine ga0A ?_; intro _hq)))
          exact ⟨(k + 1, u, R, ((n : Int) - 1).toNat), hinv, ⟨by rfl, zHE, zHE⟩, (by first | omega | (dsimp only; omega))⟩
        · have hx2 : ((R.getD ((n : Int) - 1).toNat Cel.no) != 7) = true := bne_iff_ne.2 hx
          rw [if_neg (show ¬ (0 < n ∧ (R.getD ((n : Int) - 1).toNat Cel.no) = 7) from fun h => hx h.2)] at hz
          rw [← show _ = opm P [] 0 from hz]
          clear hz
          (repeat (first | refine gq_PKB ?_ | (refine ga0A ?_; intro _hq)))
          (refine rtA ?_; try rfl)
    rw [if_neg hK] at hz
    have e4 : ((P.getD (k : Int).toNat Cel.no).k == 4) = false := beq_eq_false_iff_ne.2 (by omega)
    have e6 : ((P.getD (k : Int).toNat Cel.no).k == 6) = false := beq_eq_false_iff_ne.2 (by omega)
    have e5 : ((P.getD (k : Int).toNat Cel.no).k == 5) = false := beq_eq_false_iff_ne.2 (by omega)
    have e7 : ((P.getD (k : Int).toNat Cel.no).k == 7) = false := beq_eq_false_iff_ne.2 (by omega)
    have e8 : ((P.getD (k : Int).toNat Cel.no).k == 8) = false := beq_eq_false_iff_ne.2 (by omega)
    have hinv : k + 1 ≤ P.length ∧ n ≤ R.length ∧ R.length ≤ 4 ∧ n ≤ 3 ∧ opm (P.drop (k + 1)) R n = opm P [] 0 := ⟨h5, hn, hR4, h2, hz⟩
    clear hz
    rcases Nat.eq_zero_or_pos n with hp | hp
    · have hN : decide ((n : Int) > 0) = false := decide_eq_false (by omega)
      (repeat (first | refine gq_PKB ?_ | (refine ga0A ?_; intro _hq)))
      exact ⟨(k + 1, u, R, n), hinv, ⟨by rfl, zHE, zHE⟩, (by first | omega | (dsimp only; omega))⟩
    · have hN : decide ((n : Int) > 0) = true := decide_eq_true (by omega)
      (repeat (first | refine gq_PKB ?_ | (refine ga0A ?_; intro _hq)))
      exact ⟨(k + 1, u, R, n), hinv, ⟨by rfl, zHE, zHE⟩, (by first | omega | (dsimp only; omega))⟩
  · have hd : decide ((k : Int) < (P.length : Int)) = false := by simp; omega
    rw [List.drop_of_length_le h5, opm] at hz
    rw [← hz]
    clear hz
    (repeat (first | refine gq_PKB ?_ | (refine ga0A ?_; intro _hq)))
    (refine rtA ?_; try rfl)
end Go.Proofs.Ytgjnnlgeggamjaa
