/- Tab, ZA, PLK, PPA, PPB, PPC, PPD, TRA, TRS, TRT: laid into one text. -/
import Derived.Test.YtgjnnlgeggamjaaQXBA
import Derived.Test.YtgjnnlgeggamjaaQXBD
import Derived.Test.YtgjnnlgeggamjaaQXBE
import Derived.Test.YtgjnnlgeggamjaaRows
import Derived.RangeFuncNested
import Derived.RangeFuncBox
import Derived.RangeFuncLeaves
import Derived.Shelf.Abstract
import Derived.WalkKit
import Derived.OwnWalkIn
import Derived.TacticsInMore
import Derived.LoopNIn
import Derived.LoopIn

namespace Go.Proofs.Ytgjnnlgeggamjaa
set_option maxRecDepth 10000
theorem allN {α : Type} {Q : α → Prop} : ∀ p ∈ ([] : List α), Q p := fun p hp => by cases hp
theorem allC {α : Type} {Q : α → Prop} {x : α} {l : List α} (h : Q x) (h' : ∀ p ∈ l, Q p) : ∀ p ∈ x :: l, Q p := fun p hp => by
  rcases List.mem_cons.1 hp with rfl | hp
  · exact h
  · exact h' p hp
def T0 : Tab := ⟨[(2, (false, 1)), (3, (false, 1)), (4, (false, 1)), (5, (false, 1)), (9, (false, 1)), (12, (false, 1)), (13, (true, 2)), (19, (true, 1)), (21, (false, 1)), (22, (false, 1)), (24, (false, 1)), (30, (false, 1)), (35, (false, 1)), (46, (true, 4)), (47, (true, 4)), (50, (true, 4)), (51, (false, 1)), (57, (false, 1)), (62, (false, 1)), (65, (true, 4)), (66, (true, 5)), (67, (true, 5)), (75, (false, 1)), (76, (true, 3)), (77, (true, 3)), (80, (false, 1)), (82, (true, 10)), (83, (true, 10)), (85, (true, 2)), (86, (true, 2)), (90, (true, 5)), (91, (true, 5)), (92, (true, 45)), (99, (false, 1)), (107, (false, 1)), (111, (false, 1))],
  [(13000, (0, false, 1)), (13001, (1, false, 1)), (19000, (0, false, 1)), (46000, (0, false, 1)), (46001, (1, false, 1)), (46002, (2, false, 1)), (46003, (3, false, 1)), (47000, (0, false, 1)), (47001, (1, false, 1)), (47002, (2, false, 1)), (47003, (3, false, 1)), (50000, (0, false, 1)), (50001, (1, false, 1)), (50002, (2, false, 1)), (50003, (3, false, 1)), (66000, (0, true, 4)), (66001, (4, false, 1)), (67000, (0, true, 4)), (67001, (4, false, 1)), (76000, (0, false, 1)), (76001, (1, false, 1)), (76002, (2, false, 1)), (77000, (0, false, 1)), (77001, (1, false, 1)), (77002, (2, false, 1)), (82000, (0, true, 4)), (82001, (4, false, 1)), (82002, (5, false, 1)), (82003, (6, true, 4)), (83000, (0, true, 4)), (83001, (4, false, 1)), (83002, (5, false, 1)), (83003, (6, true, 4)), (85000, (0, false, 1)), (85001, (1, false, 1)), (86000, (0, false, 1)), (86001, (1, false, 1)), (90000, (0, false, 1)), (90001, (1, false, 1)), (90002, (2, false, 1)), (90003, (3, false, 1)), (90004, (4, false, 1)), (91000, (0, false, 1)), (91001, (1, false, 1)), (91002, (2, false, 1)), (91003, (3, false, 1)), (91004, (4, false, 1))],
  [(22, (none, 50, true, 4, 32)), (24, (none, 47, true, 4, 32)), (30, (none, 5, false, 1, 1)), (35, (none, 3, false, 1, 8)), (51, (none, 83, true, 10, 112)), (65, (some 4, 3, false, 1, 8)), (92, (some 9, 91, true, 5, 32))],
  [(2, [.int .i64 0]), (3, [.int .i64 0]), (4, [.bool false]), (5, [.int .u8 0]), (9, [.string ByteArray.empty]), (12, [.int .u64 0]), (13, [.string ByteArray.empty, .int .u64 0]), (19, [.pointer none]), (21, [.int .i32 0]), (22, [.slice none 0 0]), (24, [.slice none 0 0]), (30, [.slice none 0 0]), (35, [.slice none 0 0]), (46, [.int .i64 0, .int .i64 0, .int .i64 0, .int .i64 0]), (47, [.int .i64 0, .int .i64 0, .int .i64 0, .int .i64 0]), (50, [.int .i64 0, .int .i64 0, .int .i64 0, .int .i64 0]), (51, [.slice none 0 0]), (57, [.pointer none]), (62, [.pointer none]), (65, [.int .i64 0, .int .i64 0, .int .i64 0, .int .i64 0]), (66, [.int .i64 0, .int .i64 0, .int .i64 0, .int .i64 0, .int .i64 0]), (67, [.int .i64 0, .int .i64 0, .int .i64 0, .int .i64 0, .int .i64 0]), (75, [.pointer none]), (76, [.slice none 0 0, .int .i64 0, .int .i64 0]), (77, [.slice none 0 0, .int .i64 0, .int .i64 0]), (80, [.nilFunc]), (82, [.int .i64 0, .int .i64 0, .int .i64 0, .int .i64 0, .slice none 0 0, .slice none 0 0, .int .i64 0, .int .i64 0, .int .i64 0, .int .i64 0]), (83, [.int .i64 0, .int .i64 0, .int .i64 0, .int .i64 0, .slice none 0 0, .slice none 0 0, .int .i64 0, .int .i64 0, .int .i64 0, .int .i64 0]), (85, [.slice none 0 0, .int .i64 0]), (86, [.slice none 0 0, .int .i64 0]), (90, [.string ByteArray.empty, .bool false, .bool false, .bool false, .int .i64 0]), (91, [.string ByteArray.empty, .bool false, .bool false, .bool false, .int .i64 0]), (92, [.string ByteArray.empty, .bool false, .bool false, .bool false, .int .i64 0, .string ByteArray.empty, .bool false, .bool false, .bool false, .int .i64 0, .string ByteArray.empty, .bool false, .bool false, .bool false, .int .i64 0, .string ByteArray.empty, .bool false, .bool false, .bool false, .int .i64 0, .string ByteArray.empty, .bool false, .bool false, .bool false, .int .i64 0, .string ByteArray.empty, .bool false, .bool false, .bool false, .int .i64 0, .string ByteArray.empty, .bool false, .bool false, .bool false, .int .i64 0, .string ByteArray.empty, .bool false, .bool false, .bool false, .int .i64 0, .string ByteArray.empty, .bool false, .bool false, .bool false, .int .i64 0]), (99, [.pointer none]), (107, [.int .u32 0]), (111, [.pointer none])],
  [(13, ([.string ByteArray.empty, .int .u64 0], some [(0, 1), (1, 1)], 0)), (19, ([.pointer none], some [(0, 1)], 0)), (46, ([.int .i64 0, .int .i64 0, .int .i64 0, .int .i64 0], some [(0, 1), (1, 1), (2, 1), (3, 1)], 0)), (47, ([.int .i64 0, .int .i64 0, .int .i64 0, .int .i64 0], some [(0, 1), (1, 1), (2, 1), (3, 1)], 0)), (50, ([.int .i64 0, .int .i64 0, .int .i64 0, .int .i64 0], some [(0, 1), (1, 1), (2, 1), (3, 1)], 0)), (65, ([.int .i64 0, .int .i64 0, .int .i64 0, .int .i64 0], none, 1)), (66, ([.int .i64 0, .int .i64 0, .int .i64 0, .int .i64 0, .int .i64 0], some [(0, 4), (4, 1)], 0)), (67, ([.int .i64 0, .int .i64 0, .int .i64 0, .int .i64 0, .int .i64 0], some [(0, 4), (4, 1)], 0)), (76, ([.slice none 0 0, .int .i64 0, .int .i64 0], some [(0, 1), (1, 1), (2, 1)], 0)), (77, ([.slice none 0 0, .int .i64 0, .int .i64 0], some [(0, 1), (1, 1), (2, 1)], 0)), (82, ([.int .i64 0, .int .i64 0, .int .i64 0, .int .i64 0, .slice none 0 0, .slice none 0 0, .int .i64 0, .int .i64 0, .int .i64 0, .int .i64 0], some [(0, 4), (4, 1), (5, 1), (6, 4)], 0)), (83, ([.int .i64 0, .int .i64 0, .int .i64 0, .int .i64 0, .slice none 0 0, .slice none 0 0, .int .i64 0, .int .i64 0, .int .i64 0, .int .i64 0], some [(0, 4), (4, 1), (5, 1), (6, 4)], 0)), (85, ([.slice none 0 0, .int .i64 0], some [(0, 1), (1, 1)], 0)), (86, ([.slice none 0 0, .int .i64 0], some [(0, 1), (1, 1)], 0)), (90, ([.string ByteArray.empty, .bool false, .bool false, .bool false, .int .i64 0], some [(0, 1), (1, 1), (2, 1), (3, 1), (4, 1)], 0)), (91, ([.string ByteArray.empty, .bool false, .bool false, .bool false, .int .i64 0], some [(0, 1), (1, 1), (2, 1), (3, 1), (4, 1)], 0)), (92, ([.string ByteArray.empty, .bool false, .bool false, .bool false, .int .i64 0, .string ByteArray.empty, .bool false, .bool false, .bool false, .int .i64 0, .string ByteArray.empty, .bool false, .bool false, .bool false, .int .i64 0, .string ByteArray.empty, .bool false, .bool false, .bool false, .int .i64 0, .string ByteArray.empty, .bool false, .bool false, .bool false, .int .i64 0, .string ByteArray.empty, .bool false, .bool false, .bool false, .int .i64 0, .string ByteArray.empty, .bool false, .bool false, .bool false, .int .i64 0, .string ByteArray.empty, .bool false, .bool false, .bool false, .int .i64 0, .string ByteArray.empty, .bool false, .bool false, .bool false, .int .i64 0], none, 5))]⟩
theorem T0ok : TabOk Try.prog T0 :=
  ⟨(allC (by kernel_rfl) (allC (by kernel_rfl) (allC (by kernel_rfl) (allC (by kernel_rfl) (allC (by kernel_rfl) (allC (by kernel_rfl) (allC (by kernel_rfl) (allC (by kernel_rfl) (allC (by kernel_rfl) (allC (by kernel_rfl) (allC (by kernel_rfl) (allC (by kernel_rfl) (allC (by kernel_rfl) (allC (by kernel_rfl) (allC (by kernel_rfl) (allC (by kernel_rfl) (allC (by kernel_rfl) (allC (by kernel_rfl) (allC (by kernel_rfl) (allC (by kernel_rfl) (allC (by kernel_rfl) (allC (by kernel_rfl) (allC (by kernel_rfl) (allC (by kernel_rfl) (allC (by kernel_rfl) (allC (by kernel_rfl) (allC (by kernel_rfl) (allC (by kernel_rfl) (allC (by kernel_rfl) (allC (by kernel_rfl) (allC (by kernel_rfl) (allC (by kernel_rfl) (allC (by kernel_rfl) (allC (by kernel_rfl) (allC (by kernel_rfl) (allC (by kernel_rfl) allN)))))))))))))))))))))))))))))))))))),
   (allC ⟨by kernel_rfl, by decide⟩ (allC ⟨by kernel_rfl, by decide⟩ (allC ⟨by kernel_rfl, by decide⟩ (allC ⟨by kernel_rfl, by decide⟩ (allC ⟨by kernel_rfl, by decide⟩ (allC ⟨by kernel_rfl, by decide⟩ (allC ⟨by kernel_rfl, by decide⟩ (allC ⟨by kernel_rfl, by decide⟩ (allC ⟨by kernel_rfl, by decide⟩ (allC ⟨by kernel_rfl, by decide⟩ (allC ⟨by kernel_rfl, by decide⟩ (allC ⟨by kernel_rfl, by decide⟩ (allC ⟨by kernel_rfl, by decide⟩ (allC ⟨by kernel_rfl, by decide⟩ (allC ⟨by kernel_rfl, by decide⟩ (allC ⟨by kernel_rfl, by decide⟩ (allC ⟨by kernel_rfl, by decide⟩ (allC ⟨by kernel_rfl, by decide⟩ (allC ⟨by kernel_rfl, by decide⟩ (allC ⟨by kernel_rfl, by decide⟩ (allC ⟨by kernel_rfl, by decide⟩ (allC ⟨by kernel_rfl, by decide⟩ (allC ⟨by kernel_rfl, by decide⟩ (allC ⟨by kernel_rfl, by decide⟩ (allC ⟨by kernel_rfl, by decide⟩ (allC ⟨by kernel_rfl, by decide⟩ (allC ⟨by kernel_rfl, by decide⟩ (allC ⟨by kernel_rfl, by decide⟩ (allC ⟨by kernel_rfl, by decide⟩ (allC ⟨by kernel_rfl, by decide⟩ (allC ⟨by kernel_rfl, by decide⟩ (allC ⟨by kernel_rfl, by decide⟩ (allC ⟨by kernel_rfl, by decide⟩ (allC ⟨by kernel_rfl, by decide⟩ (allC ⟨by kernel_rfl, by decide⟩ (allC ⟨by kernel_rfl, by decide⟩ (allC ⟨by kernel_rfl, by decide⟩ (allC ⟨by kernel_rfl, by decide⟩ (allC ⟨by kernel_rfl, by decide⟩ (allC ⟨by kernel_rfl, by decide⟩ (allC ⟨by kernel_rfl, by decide⟩ (allC ⟨by kernel_rfl, by decide⟩ (allC ⟨by kernel_rfl, by decide⟩ (allC ⟨by kernel_rfl, by decide⟩ (allC ⟨by kernel_rfl, by decide⟩ (allC ⟨by kernel_rfl, by decide⟩ (allC ⟨by kernel_rfl, by decide⟩ allN))))))))))))))))))))))))))))))))))))))))))))))),
   (allC ⟨by kernel_rfl, by decide⟩ (allC ⟨by kernel_rfl, by decide⟩ (allC ⟨by kernel_rfl, by decide⟩ (allC ⟨by kernel_rfl, by decide⟩ (allC ⟨by kernel_rfl, by decide⟩ (allC ⟨by kernel_rfl, by decide⟩ (allC ⟨by kernel_rfl, by decide⟩ allN))))))),
   (allC ⟨by kernel_rfl, rfl⟩ (allC ⟨by kernel_rfl, rfl⟩ (allC ⟨by kernel_rfl, rfl⟩ (allC ⟨by kernel_rfl, rfl⟩ (allC ⟨by kernel_rfl, rfl⟩ (allC ⟨by kernel_rfl, rfl⟩ (allC ⟨by kernel_rfl, rfl⟩ (allC ⟨by kernel_rfl, rfl⟩ (allC ⟨by kernel_rfl, rfl⟩ (allC ⟨by kernel_rfl, rfl⟩ (allC ⟨by kernel_rfl, rfl⟩ (allC ⟨by kernel_rfl, rfl⟩ (allC ⟨by kernel_rfl, rfl⟩ (allC ⟨by kernel_rfl, rfl⟩ (allC ⟨by kernel_rfl, rfl⟩ (allC ⟨by kernel_rfl, rfl⟩ (allC ⟨by kernel_rfl, rfl⟩ (allC ⟨by kernel_rfl, rfl⟩ (allC ⟨by kernel_rfl, rfl⟩ (allC ⟨by kernel_rfl, rfl⟩ (allC ⟨by kernel_rfl, rfl⟩ (allC ⟨by kernel_rfl, rfl⟩ (allC ⟨by kernel_rfl, rfl⟩ (allC ⟨by kernel_rfl, rfl⟩ (allC ⟨by kernel_rfl, rfl⟩ (allC ⟨by kernel_rfl, rfl⟩ (allC ⟨by kernel_rfl, rfl⟩ (allC ⟨by kernel_rfl, rfl⟩ (allC ⟨by kernel_rfl, rfl⟩ (allC ⟨by kernel_rfl, rfl⟩ (allC ⟨by kernel_rfl, rfl⟩ (allC ⟨by kernel_rfl, rfl⟩ (allC ⟨by kernel_rfl, rfl⟩ (allC ⟨by kernel_rfl, rfl⟩ (allC ⟨by kernel_rfl, rfl⟩ (allC ⟨by kernel_rfl, rfl⟩ allN)))))))))))))))))))))))))))))))))))),
   (allC ⟨by kernel_rfl, rfl⟩ (allC ⟨by kernel_rfl, rfl⟩ (allC ⟨by kernel_rfl, rfl⟩ (allC ⟨by kernel_rfl, rfl⟩ (allC ⟨by kernel_rfl, rfl⟩ (allC ⟨by kernel_rfl, rfl⟩ (allC ⟨by kernel_rfl, rfl⟩ (allC ⟨by kernel_rfl, rfl⟩ (allC ⟨by kernel_rfl, rfl⟩ (allC ⟨by kernel_rfl, rfl⟩ (allC ⟨by kernel_rfl, rfl⟩ (allC ⟨by kernel_rfl, rfl⟩ (allC ⟨by kernel_rfl, rfl⟩ (allC ⟨by kernel_rfl, rfl⟩ (allC ⟨by kernel_rfl, rfl⟩ (allC ⟨by kernel_rfl, rfl⟩ (allC ⟨by kernel_rfl, rfl⟩ allN)))))))))))))))))⟩
theorem mixed : Try.prog.follows .mixedOrders = true := by kernel_rfl
end Go.Proofs.Ytgjnnlgeggamjaa
namespace Go.Proofs.Ytgjnnlgeggamjaa
set_option linter.unusedVariables false
set_option linter.unusedSimpArgs false
set_option maxRecDepth 20000
open Go.RowKit
attribute [local irreducible] runA runX AW
theorem kM {f : FuncId} {fn : Func} {aa : List AV} {es : List Ent} {out : AV} {news es' : List Ent} (hf : Try.prog.funcs[f]? = some fn) (hs : fn.body.isSome = true)
    (h : (∀ a ∈ aa, a.fit) → (∀ e ∈ es, e.fit) → AW Try.prog fn.ntmps (fn.body.get hs) (retK T0 fn.results out news es') ⟨argsE aa, Gin es⟩) (hn : (fn.name == "runtime.NumGoroutine") = false := by rfl) (hl : Nat.ble aa.length fn.ntmps = true := by rfl) (hes : es'.length = es.length := by rfl) : Kon Try.prog f aa es out news es' :=
  kon_mk T0ok hf (Option.some_get hs).symm hn hl hes h
theorem nxA {H G : Prop} (k : H) (h : Hid H → G := by (intro hh; (first | refine r_none ?_ | refine r_gt (by rfl) (by rfl) zDD (by rfl) ?_ | refine r_gf (by rfl) (by rfl) zDD (by rfl) ?_); exact hh.out)) : G := h ⟨k⟩
theorem swA {H G : Prop} (k : H) (h : Hid H → G := by (intro hh; (first | refine r_nt (by rfl) (by rfl) zDD (by rfl) ?_ | refine r_nf (by rfl) (by rfl) zDD (by rfl) ?_ | refine r_gu (by rfl) (by rfl) (by rfl) ?_ | refine r_nil ?_); exact hh.out)) : G := h ⟨k⟩
theorem awA {H G : Prop} (k : H) (h : Hid H → G := by (intro hh; (first | refine aw_seq ?_ | refine aw_ct (by rfl) zDD ?_ | refine aw_cf (by rfl) zDD ?_ | refine aw_block ?_ | refine aw_region T0ok cfU_ok (by rfl) ?_ | refine aw_skip ?_ | refine aw_exit ?_ | refine ra_step ?_); exact hh.out)) : G := h ⟨k⟩
theorem ga0A {H G : Prop} (k : H) (h : Hid H → G := by (intro hh; (first | refine r_none ?_ | refine r_gt (by rfl) (by rfl) zDD (by rfl) ?_ | refine r_gf (by rfl) (by rfl) zDD (by rfl) ?_); refine z_op (by rfl) ?_; refine z_alV ?_ hh.out; focus (first | exact trivial | fail | exact zQZ))) : G := h ⟨k⟩
theorem ga1A {H G : Prop} (k : H) (h : Hid H → G := by (intro hh; (first | refine r_none ?_ | refine r_gt (by rfl) (by rfl) zDD (by rfl) ?_ | refine r_gf (by rfl) (by rfl) zDD (by rfl) ?_); refine z_op (by rfl) ?_; refine z_al ?_ hh.out; focus (first | exact trivial | fail | exact zQZ))) : G := h ⟨k⟩
theorem gdA {H G : Prop} (k : H) (h : Hid H → G := by (intro hh; (refine aw_draw mixed T0ok cfU_ok [] (by rfl) (by kernel_rfl) ?_); exact hh.out)) : G := h ⟨k⟩
theorem rtA {H G : Prop} (k : H) (h : Hid H → G := by (intro hh; (try refine aw_ret ?_); refine ret_auto2 (by rfl) (by rfl) (by rfl) zHQ hh.out zHN zHN)) : G := h ⟨k⟩
theorem gq_ZA {H G : Prop} (k : H) (h : Hid H → G := by (intro hh; repeat1' (first | (first | (refine nxA ?_; (first | fail | ((first | (refine z_op (by rfl) ?_; first | refine z_ok ?_ ?_ | refine z_ex ?_ (by first | exact zL1 | ((first | refine mk_0 Int rfl rfl ?_ | refine mk_c Int rfl rfl rfl ?_ | refine mk_c Bool rfl rfl rfl ?_); exact zWW) | exact zL2 | exact rw_c Int rfl | exact rw_c Bool rfl | exact zL3 | fail) ?_) | ((first | refine q_callE wsT wsZ (by rfl) ?_ | refine q_callVE wsT (by rfl) (by rfl) ?_); refine ⟨_, _, _, (by first | exact k_within _ _ _ | exact k_l1In _ _ _ | exact k_okL _ | exact k_wv _ _ | assumption), _, by rfl, ?_, ?_⟩)); focus (first | exact trivial | fail | exact zQZ)) | fail)) | refine swA ?_) | refine awA ?_); exact hh.out)) : G := h ⟨k⟩
def wsT : WsT := [
  (63, ([0], true)),
  (62, ([0], true)),
  (41, ([], true)),
  (999999, ([], false))]
def wsZ : List (Nat × Nat) := [
  (999999, 0)]
def btw (n a b : Int) : Bool := decide (n ≥ a) && decide (n ≤ b)
theorem btw_t {n a b : Int} (h : btw n a b = true) : a ≤ n ∧ n ≤ b := by simpa [btw] using h
theorem k_within (n a b : Int) : Kon Try.prog 52 [vI n, vI a, vI b] [] (vB (btw n a b)) [] [] := by
  (refine kM Try.func52 rfl ?_; intro hfit hfe)
  unfold btw
  cases h1 : decide (n ≥ a)
  all_goals ((repeat (first | refine gq_ZA ?_ | (refine ga1A ?_; intro _q ⟨_he, _hq⟩))); (refine rtA ?_; try rfl))
theorem k_l1In (n a b : Int) : Kon Try.prog 64 [vI n, vI a, vI b] [] (vB (btw n a b)) [] [] := by
  (refine kM Try.func64 rfl ?_; intro hfit hfe)
  unfold btw
  cases h1 : decide (n ≥ a)
  all_goals ((repeat (first | refine gq_ZA ?_ | (refine ga1A ?_; intro _q ⟨_he, _hq⟩))); (refine rtA ?_; try rfl))
theorem k_okL (n : Int) : Kon Try.prog 65 [vI n] [] (vB (btw n 1 8)) [] [] := by
  (refine kM Try.func65 rfl ?_; intro hfit hfe)
  (repeat (first | refine gq_ZA ?_ | (refine ga1A ?_; intro _q ⟨_he, _hq⟩)))
  (refine rtA ?_; try rfl)
abbrev p0 : AV := .g (.one (.ptr 100000 0 0))
def wvB (n w : Int) : Bool := btw n 1 8 && btw w 0 (2 ^ n.toNat - 1)
theorem k_wv (n w : Int) : Kon Try.prog 44 [vI n, vI w] [] (vB (wvB n w)) [] [] := by
  (refine kM Try.func44 rfl ?_; intro hfit hfe)
  unfold wvB
  cases h1 : btw n 1 8 with
  | false => (repeat (first | refine gq_ZA ?_ | (refine ga1A ?_; intro _q ⟨_he, _hq⟩))); (refine rtA ?_; try rfl)
  | true =>
    have h1' := btw_t h1
    (repeat (first | refine gq_ZA ?_ | (refine ga1A ?_; intro _q ⟨_he, _hq⟩)))
    (subst_vars; (refine rtA ?_; try rfl))
    rw [Int.one_mul]; rfl
end Go.Proofs.Ytgjnnlgeggamjaa
namespace Go.Proofs.Ytgjnnlgeggamjaa
set_option linter.unusedVariables false
set_option linter.unusedSimpArgs false
open Go.RowKit
def lok (k v w n : Int) : Bool :=
  if k = 0 ∨ k = 1 ∨ k = 3 then btw v 0 3 && btw w 0 3 && (v != w) && (n == 0)
  else if k = 2 ∨ k = 6 ∨ k = 8 then btw v 0 3 && (w == 0) && btw n 0 63
  else if k = 4 then (v == 0) && (w == 0) && btw n 0 3
  else if k = 5 ∨ k = 7 then (v == 0) && (w == 0) && (n == 0) else false
theorem lok_out {k v w n : Int} (h : k < 0 ∨ 8 < k) : lok k v w n = false := by
  unfold lok
  rw [if_neg (by omega), if_neg (by omega), if_neg (by omega), if_neg (by omega)]
theorem lok_A {k v w n : Int} (h : k = 0 ∨ k = 1 ∨ k = 3) : lok k v w n = (btw v 0 3 && btw w 0 3 && (v != w) && (n == 0)) := by unfold lok; rw [if_pos h]
theorem lok_B {k v w n : Int} (h : k = 2 ∨ k = 6 ∨ k = 8) : lok k v w n = (btw v 0 3 && (w == 0) && btw n 0 63) := by unfold lok; rw [if_neg (by omega), if_pos h]
theorem lok_C {v w n : Int} : lok 4 v w n = ((v == 0) && (w == 0) && btw n 0 3) := by unfold lok; rw [if_neg (by omega), if_neg (by omega), if_pos rfl]
theorem lok_D {k v w n : Int} (h : k = 5 ∨ k = 7) : lok k v w n = ((v == 0) && (w == 0) && (n == 0)) := by unfold lok; rw [if_neg (by omega), if_neg (by omega), if_neg (by omega), if_pos h]
end Go.Proofs.Ytgjnnlgeggamjaa
namespace Go.Proofs.Ytgjnnlgeggamjaa
set_option linter.unusedVariables false
set_option linter.unusedSimpArgs false
abbrev lkG (g : Gt) : Bool := lok g.k g.a g.b g.c
inductive PS where
  | nil : PS
  | one (l : Gt) (t : PS) : PS
  | rep (l e : Gt) (p t : PS) : PS
  | iff (l m e : Gt) (p q t : PS) : PS
def fl : PS → List Gt
  | .nil => []
  | .one l t => l :: fl t
  | .rep l e p t => l :: (fl p ++ e :: fl t)
  | .iff l m e p q t => l :: (fl p ++ m :: (fl q ++ e :: fl t))
def dp : PS → Nat
  | .nil => 0
  | .one _ t => dp t
  | .rep _ _ p t => max (dp p + 1) (dp t)
  | .iff _ _ _ p q t => max (max (dp p) (dp q) + 1) (dp t)
def wf : PS → Prop
  | .nil => True
  | .one l t => (0 ≤ l.k ∧ l.k ≤ 3) ∧ wf t
  | .rep l e p t => (l.k = 4 ∧ e.k = 5) ∧ wf p ∧ wf t
  | .iff l m e p q t => (l.k = 6 ∧ m.k = 7 ∧ e.k = 8) ∧ wf p ∧ wf q ∧ wf t
def app : PS → PS → PS
  | .nil, b => b
  | .one l t, b => .one l (app t b)
  | .rep l e p t, b => .rep l e p (app t b)
  | .iff l m e p q t, b => .iff l m e p q (app t b)
theorem app_nil : ∀ a, app a .nil = a
  | .nil => rfl
  | .one l t => by rw [app, app_nil t]
  | .rep l e p t => by rw [app, app_nil t]
  | .iff l m e p q t => by rw [app, app_nil t]
theorem app_assoc (b c : PS) : ∀ a, app (app a b) c = app a (app b c)
  | .nil => rfl
  | .one l t => by rw [app, app, app_assoc b c t]; rfl
  | .rep l e p t => by rw [app, app, app_assoc b c t]; rfl
  | .iff l m e p q t => by rw [app, app, app_assoc b c t]; rfl
theorem fl_app (b : PS) : ∀ a, fl (app a b) = fl a ++ fl b
  | .nil => rfl
  | .one l t => by simp [app, fl, fl_app b t]
  | .rep l e p t => by simp [app, fl, fl_app b t]
  | .iff l m e p q t => by simp [app, fl, fl_app b t]
theorem dp_app (b : PS) : ∀ a, dp (app a b) = max (dp a) (dp b)
  | .nil => by simp [app, dp]
  | .one l t => by simp [app, dp, dp_app b t]
  | .rep l e p t => by rw [app, dp, dp, dp_app b t]; omega
  | .iff l m e p q t => by rw [app, dp, dp, dp_app b t]; omega
theorem wf_app {b : PS} (hb : wf b) : ∀ {a}, wf a → wf (app a b)
  | .nil, _ => hb
  | .one l t, h => ⟨h.1, wf_app hb h.2⟩
  | .rep l e p t, h => ⟨h.1, h.2.1, wf_app hb h.2.2⟩
  | .iff l m e p q t, h => ⟨h.1, h.2.1, h.2.2.1, wf_app hb h.2.2.2⟩
def op1 (st : List Int) (k : Int) : Option (List Int) :=
  if k = 4 ∨ k = 6 then (if 3 < st.length + 1 then none else some (k :: st))
  else if k = 5 then (if st.head? = some 4 then some st.tail else none)
  else if k = 7 then (if st.head? = some 6 then some (7 :: st.tail) else none)
  else if k = 8 then (if st.head? = some 7 then some st.tail else none)
  else some st
def scan : List Gt → List Int → Option (List Int)
  | [], st => some st
  | l :: p, st => match op1 st l.k with
    | none => none
    | some st' => scan p st'
theorem scan_fl : ∀ (t : PS) (r : List Gt) (st : List Int), wf t → dp t + st.length ≤ 3 → scan (fl t ++ r) st = scan r st
  | .nil, r, st, _, _ => rfl
  | .one l t, r, st, h, hd => by
    have e : op1 st l.k = some st := by
      have := h.1
      unfold op1; rw [if_neg (by omega), if_neg (by omega), if_neg (by omega), if_neg (by omega)]
    rw [fl, List.cons_append, scan, e]
    exact scan_fl t r st h.2 hd
  | .rep l e p t, r, st, h, hd => by
    rw [dp] at hd
    have hk := h.1
    have e1 : op1 st l.k = some (4 :: st) := by
      unfold op1; rw [if_pos (by omega), if_neg (by omega), h.1.1]
    have e2 : op1 (4 :: st) e.k = some st := by
      unfold op1; rw [h.1.2, if_neg (by omega), if_pos rfl]; rfl
    rw [fl, List.cons_append, List.append_assoc, scan, e1]
    show scan (fl p ++ (e :: fl t ++ r)) (4 :: st) = _
    rw [scan_fl p _ (4 :: st) h.2.1 (by rw [List.length_cons]; omega), List.cons_append, scan, e2]
    exact scan_fl t r st h.2.2 (by omega)
  | .iff l m e p q t, r, st, h, hd => by
    rw [dp] at hd
    have hk := h.1
    have e1 : op1 st l.k = some (6 :: st) := by
      unfold op1; rw [if_pos (by omega), if_neg (by omega), h.1.1]
    have e2 : op1 (6 :: st) m.k = some (7 :: st) := by
      unfold op1; rw [h.1.2.1, if_neg (by omega), if_neg (by omega), if_pos rfl]; rfl
    have e3 : op1 (7 :: st) e.k = some st := by
      unfold op1; rw [h.1.2.2, if_neg (by omega), if_neg (by omega), if_neg (by omega), if_pos rfl]; rfl
    rw [fl, List.cons_append, List.append_assoc, scan, e1]
    show scan (fl p ++ (m :: (fl q ++ e :: fl t) ++ r)) (6 :: st) = _
    rw [scan_fl p _ (6 :: st) h.2.1 (by rw [List.length_cons]; omega), List.cons_append, scan, e2]
    show scan (fl q ++ e :: fl t ++ r) (7 :: st) = _
    rw [List.append_assoc, scan_fl q _ (7 :: st) h.2.2.1 (by rw [List.length_cons]; omega), List.cons_append, scan, e3]
    exact scan_fl t r st h.2.2.2 (by omega)
def cl (k e : Int) : Prop := (k = 4 ∧ e = 5) ∨ (k = 6 ∧ e = 7) ∨ (k = 7 ∧ e = 8)
def aft (k : Int) (st : List Int) : List Int := if k = 6 then 7 :: st else st
theorem tree_of : ∀ (n : Nat) (p : List Gt) (st : List Int), p.length ≤ n → (∀ x ∈ p, 0 ≤ x.k ∧ x.k ≤ 8) → st.length ≤ 3 → scan p st = some [] →
    (st = [] → ∃ t, wf t ∧ fl t = p ∧ dp t ≤ 3) ∧
    (∀ k st', st = k :: st' → ∃ t e r, p = fl t ++ e :: r ∧ wf t ∧ dp t + st.length ≤ 3 ∧ cl k e.k ∧ scan r (aft k st') = some []) := by
  intro n
  induction n with
  | zero =>
    intro p st hp _ _ hs
    obtain rfl : p = [] := List.length_eq_zero_iff.1 (by omega)
    have e : some st = some [] := hs
    cases e
    exact ⟨fun _ => ⟨.nil, trivial, rfl, Nat.zero_le _⟩, fun k st' h => by cases h⟩
  | succ n ih =>
    intro p st hp hk hd hs
    rcases p with _ | ⟨l, p⟩
    · have e : some st = some [] := hs
      cases e
      exact ⟨fun _ => ⟨.nil, trivial, rfl, Nat.zero_le _⟩, fun k st' h => by cases h⟩
    have hp' : p.length ≤ n := by rw [List.length_cons] at hp; omega
    have hlk := hk l List.mem_cons_self
    have hk' : ∀ x ∈ p, 0 ≤ x.k ∧ x.k ≤ 8 := fun x hx => hk x (List.mem_cons_of_mem _ hx)
    rw [scan] at hs
    -- what a suffix has
    have sub : ∀ {a b : List Gt} {e : Gt}, p = a ++ e :: b → b.length ≤ n ∧ ∀ x ∈ b, 0 ≤ x.k ∧ x.k ≤ 8 := fun {a b e} h => by
      refine ⟨?_, fun x hx => hk' x (by rw [h]; exact List.mem_append_right _ (List.mem_cons_of_mem _ hx))⟩
      rw [h, List.length_append, List.length_cons] at hp'; omega
    -- a part put ahead of what follows
    have put : ∀ (f : PS → PS) (g : List Gt) (dm : Nat), (∀ t, wf t → wf (f t)) → (∀ t, fl (f t) = g ++ fl t) → (∀ t, dp (f t) = max dm (dp t)) → dm + st.length ≤ 3 → ∀ q : List Gt, l :: p = g ++ q →
        ((st = [] → ∃ t, wf t ∧ fl t = q ∧ dp t ≤ 3) ∧ (∀ k st', st = k :: st' → ∃ t e r, q = fl t ++ e :: r ∧ wf t ∧ dp t + st.length ≤ 3 ∧ cl k e.k ∧ scan r (aft k st') = some [])) →
        ((st = [] → ∃ t, wf t ∧ fl t = l :: p ∧ dp t ≤ 3) ∧ (∀ k st', st = k :: st' → ∃ t e r, l :: p = fl t ++ e :: r ∧ wf t ∧ dp t + st.length ≤ 3 ∧ cl k e.k ∧ scan r (aft k st') = some [])) := by
      intro f g dm hw hf hdp hdm q hq ⟨h1, h2⟩
      refine ⟨fun h => ?_, fun k st' h => ?_⟩
      · obtain ⟨t, t1, t2, t3⟩ := h1 h
        exact ⟨f t, hw t t1, by rw [hf, t2, hq], by rw [hdp]; omega⟩
      · obtain ⟨t, e, r, t1, t2, t3, t4, t5⟩ := h2 k st' h
        exact ⟨f t, e, r, by rw [hf, List.append_assoc, ← t1, hq], hw t t2, by rw [hdp]; omega, t4, t5⟩
    have hcase : l.k = 4 ∨ l.k = 6 ∨ l.k = 5 ∨ l.k = 7 ∨ l.k = 8 ∨ (0 ≤ l.k ∧ l.k ≤ 3) := by omega
    rcases hcase with h4 | h6 | h5 | h7 | h8 | h0
    · have e1 : op1 st l.k = if 3 < st.length + 1 then none else some (4 :: st) := by unfold op1; rw [h4, if_pos (by omega)]
      rw [e1] at hs
      by_cases hlen : 3 < st.length + 1
      · rw [if_pos hlen] at hs; cases hs
      rw [if_neg hlen] at hs
      obtain ⟨_, h2⟩ := ih p (4 :: st) hp' hk' (by rw [List.length_cons]; omega) hs
      obtain ⟨t1, e, r, q1, q2, q3, q4, q5⟩ := h2 4 st rfl
      have he : e.k = 5 := by unfold cl at q4; omega
      have q5' : scan r st = some [] := q5
      obtain ⟨s1, s2⟩ := sub q1
      rw [List.length_cons] at q3
      refine put (fun t => .rep l e t1 t) (l :: (fl t1 ++ [e])) (dp t1 + 1) (fun t ht => ⟨⟨h4, he⟩, q2, ht⟩) (fun t => by simp [fl]) (fun t => rfl) (by omega) r (by rw [q1]; simp) (ih r st s1 s2 hd q5')
    · have e1 : op1 st l.k = if 3 < st.length + 1 then none else some (6 :: st) := by unfold op1; rw [h6, if_pos (by omega)]
      rw [e1] at hs
      by_cases hlen : 3 < st.length + 1
      · rw [if_pos hlen] at hs; cases hs
      rw [if_neg hlen] at hs
      obtain ⟨_, h2⟩ := ih p (6 :: st) hp' hk' (by rw [List.length_cons]; omega) hs
      obtain ⟨t1, m, r1, q1, q2, q3, q4, q5⟩ := h2 6 st rfl
      have hm : m.k = 7 := by unfold cl at q4; omega
      have q5' : scan r1 (7 :: st) = some [] := q5
      obtain ⟨s1, s2⟩ := sub q1
      obtain ⟨_, h3⟩ := ih r1 (7 :: st) s1 s2 (by rw [List.length_cons]; omega) q5'
      obtain ⟨t2, e, r2, u1, u2, u3, u4, u5⟩ := h3 7 st rfl
      have he : e.k = 8 := by unfold cl at u4; omega
      have u5' : scan r2 st = some [] := u5
      rw [List.length_cons] at q3 u3
      have q1' : p = (fl t1 ++ m :: fl t2) ++ e :: r2 := by rw [q1, u1]; simp
      obtain ⟨v1, v2⟩ := sub q1'
      refine put (fun t => .iff l m e t1 t2 t) (l :: (fl t1 ++ m :: (fl t2 ++ [e]))) (max (dp t1) (dp t2) + 1) (fun t ht => ⟨⟨h6, hm, he⟩, q2, u2, ht⟩) (fun t => by simp [fl]) (fun t => rfl) (by omega) r2 (by rw [q1']; simp) (ih r2 st v1 v2 hd u5')
    · have e1 : op1 st l.k = if st.head? = some 4 then some st.tail else none := by unfold op1; rw [h5, if_neg (by omega), if_pos rfl]
      rw [e1] at hs
      by_cases hh : st.head? = some 4
      · rw [if_pos hh] at hs
        refine ⟨fun h => (by rw [h] at hh; cases hh), fun k st' h => ?_⟩
        subst h
        obtain rfl : k = 4 := by cases hh; rfl
        exact ⟨.nil, l, p, rfl, trivial, by rw [dp]; omega, .inl ⟨rfl, h5⟩, hs⟩
      · rw [if_neg hh] at hs; cases hs
    · have e1 : op1 st l.k = if st.head? = some 6 then some (7 :: st.tail) else none := by unfold op1; rw [h7, if_neg (by omega), if_neg (by omega), if_pos rfl]
      rw [e1] at hs
      by_cases hh : st.head? = some 6
      · rw [if_pos hh] at hs
        refine ⟨fun h => (by rw [h] at hh; cases hh), fun k st' h => ?_⟩
        subst h
        obtain rfl : k = 6 := by cases hh; rfl
        exact ⟨.nil, l, p, rfl, trivial, by rw [dp]; omega, .inr (.inl ⟨rfl, h7⟩), hs⟩
      · rw [if_neg hh] at hs; cases hs
    · have e1 : op1 st l.k = if st.head? = some 7 then some st.tail else none := by unfold op1; rw [h8, if_neg (by omega), if_neg (by omega), if_neg (by omega), if_pos rfl]
      rw [e1] at hs
      by_cases hh : st.head? = some 7
      · rw [if_pos hh] at hs
        refine ⟨fun h => (by rw [h] at hh; cases hh), fun k st' h => ?_⟩
        subst h
        obtain rfl : k = 7 := by cases hh; rfl
        exact ⟨.nil, l, p, rfl, trivial, by rw [dp]; omega, .inr (.inr ⟨rfl, h8⟩), hs⟩
      · rw [if_neg hh] at hs; cases hs
    · have e1 : op1 st l.k = some st := by unfold op1; rw [if_neg (by omega), if_neg (by omega), if_neg (by omega), if_neg (by omega)]
      rw [e1] at hs
      exact put (fun t => .one l t) [l] 0 (fun t ht => ⟨h0, ht⟩) (fun t => rfl) (fun t => by rw [dp]; omega) (by omega) p rfl (ih p st hp' hk' hd hs)
def pr : Nat → Nat → Int → List Gt → Option (PS × Gt × List Gt)
  | 0, _, _, _ => none
  | f + 1, d, k, [] => none
  | f + 1, d, k, l :: r =>
    if l.k = k then some (.nil, l, r)
    else if l.k = 5 ∨ l.k = 7 ∨ l.k = 8 then none
    else if l.k = 4 then
      if 3 < d + 1 then none else
      match pr f (d + 1) 5 r with
      | none => none
      | some (p, e, r1) => match pr f d k r1 with
        | none => none
        | some (t, x, r2) => some (.rep l e p t, x, r2)
    else if l.k = 6 then
      if 3 < d + 1 then none else
      match pr f (d + 1) 7 r with
      | none => none
      | some (p, m, r1) => match pr f (d + 1) 8 r1 with
        | none => none
        | some (q, e, r2) => match pr f d k r2 with
          | none => none
          | some (t, x, r3) => some (.iff l m e p q t, x, r3)
    else match pr f d k r with
      | none => none
      | some (t, x, r1) => some (.one l t, x, r1)
def ini (r : List Gt) : Prop := ∀ x ∈ r.dropLast, 0 ≤ x.k ∧ x.k ≤ 8
theorem ini_app {a : List Gt} {e : Gt} {b : List Gt} (h : ini (a ++ e :: b)) : ini b := fun x hx => h x (by
  rcases b with _ | ⟨y, b⟩
  · cases hx
  · rw [List.dropLast_append_of_ne_nil (by simp)]
    exact List.mem_append_right _ (by rw [List.dropLast_cons_cons]; exact List.mem_cons_of_mem _ hx))
theorem pr_some : ∀ (f : Nat) (d : Nat) (k : Int) (r : List Gt) (t : PS) (e : Gt) (r' : List Gt), ini r → d ≤ 3 → pr f d k r = some (t, e, r') → wf t ∧ r = fl t ++ e :: r' ∧ e.k = k ∧ dp t + d ≤ 3
  | 0, d, k, r, t, e, r', _, _, h => by cases h
  | f + 1, d, k, [], t, e, r', _, _, h => by cases h
  | f + 1, d, k, l :: r, t, e, r', hi, hd, h => by
    rw [pr] at h
    have hi1 : ini r := ini_app (a := []) (e := l) (b := r) hi
    split at h
    · rename_i hk; cases h; exact ⟨trivial, rfl, hk, by rw [dp]; omega⟩
    split at h
    · cases h
    split at h
    · rename_i h1 h2 h4
      split at h
      · cases h
      rename_i hlen
      rcases hp : pr f (d + 1) 5 r with _ | ⟨p, x, r1⟩
      · rw [hp] at h; cases h
      obtain ⟨a1, a2, a3, a4⟩ := pr_some f (d + 1) 5 r p x r1 hi1 (by omega) hp
      rw [hp] at h
      dsimp only at h
      have hi2 : ini r1 := ini_app (a := fl p) (e := x) (b := r1) (by rw [← a2]; exact hi1)
      rcases hq : pr f d k r1 with _ | ⟨t2, x2, r2⟩
      · rw [hq] at h; cases h
      obtain ⟨b1, b2, b3, b4⟩ := pr_some f d k r1 t2 x2 r2 hi2 hd hq
      rw [hq] at h
      cases h
      refine ⟨⟨⟨h4, a3⟩, a1, b1⟩, ?_, b3, by rw [dp]; omega⟩
      rw [a2, b2]; simp [fl]
    split at h
    · rename_i h1 h2 h4 h6
      split at h
      · cases h
      rename_i hlen
      rcases hp : pr f (d + 1) 7 r with _ | ⟨p, x, r1⟩
      · rw [hp] at h; cases h
      obtain ⟨a1, a2, a3, a4⟩ := pr_some f (d + 1) 7 r p x r1 hi1 (by omega) hp
      rw [hp] at h
      dsimp only at h
      have hi2 : ini r1 := ini_app (a := fl p) (e := x) (b := r1) (by rw [← a2]; exact hi1)
      rcases hq : pr f (d + 1) 8 r1 with _ | ⟨q, y, r2⟩
      · rw [hq] at h; cases h
      obtain ⟨b1, b2, b3, b4⟩ := pr_some f (d + 1) 8 r1 q y r2 hi2 (by omega) hq
      rw [hq] at h
      dsimp only at h
      have hi3 : ini r2 := ini_app (a := fl q) (e := y) (b := r2) (by rw [← b2]; exact hi2)
      rcases hs : pr f d k r2 with _ | ⟨t3, z, r3⟩
      · rw [hs] at h; cases h
      obtain ⟨c1, c2, c3, c4⟩ := pr_some f d k r2 t3 z r3 hi3 hd hs
      rw [hs] at h
      cases h
      refine ⟨⟨⟨h6, a3, b3⟩, a1, b1, c1⟩, ?_, c3, by rw [dp]; omega⟩
      rw [a2, b2, c2]; simp [fl]
    · rename_i h1 h2 h4 h6
      rcases hq : pr f d k r with _ | ⟨t2, x2, r2⟩
      · rw [hq] at h; cases h
      obtain ⟨b1, b2, b3, b4⟩ := pr_some f d k r t2 x2 r2 hi1 hd hq
      rw [hq] at h
      cases h
      have hlk : 0 ≤ l.k ∧ l.k ≤ 8 := hi l (by
        rcases r with _ | ⟨y, r⟩
        · rcases f with _ | f <;> cases hq
        · rw [List.dropLast_cons_cons]; exact List.mem_cons_self)
      refine ⟨⟨by omega, b1⟩, ?_, b3, by rw [dp]; omega⟩
      rw [b2]; simp [fl]
theorem pr_ok : ∀ (f : Nat) (t : PS) (d : Nat) (k : Int) (e : Gt) (r : List Gt), (fl t).length < f → wf t → dp t + d ≤ 3 → e.k = k → (k = -1 ∨ k = 5 ∨ k = 7 ∨ k = 8) → pr f d k (fl t ++ e :: r) = some (t, e, r)
  | 0, t, _, _, _, _, h, _, _, _, _ => by omega
  | f + 1, .nil, d, k, e, r, h, hw, hd, he, hk => by
    show pr (f + 1) d k (e :: r) = _
    rw [pr, if_pos he]
  | f + 1, .one l t, d, k, e, r, h, hw, hd, he, hk => by
    show pr (f + 1) d k (l :: (fl t ++ e :: r)) = _
    rw [fl, List.length_cons] at h
    rw [dp] at hd
    have := hw.1
    rw [pr, if_neg (by omega), if_neg (by omega), if_neg (by omega), if_neg (by omega), pr_ok f t d k e r (by omega) hw.2 hd he hk]
  | f + 1, .rep l x p t, d, k, e, r, h, hw, hd, he, hk => by
    rw [fl, List.length_cons, List.length_append, List.length_cons] at h
    rw [dp] at hd
    have e1 : fl (.rep l x p t) ++ e :: r = l :: (fl p ++ x :: (fl t ++ e :: r)) := by simp [fl]
    have h4 := hw.1.1
    rw [e1, pr, if_neg (by omega), if_neg (by omega), if_pos h4, if_neg (by omega), pr_ok f p (d + 1) 5 x _ (by omega) hw.2.1 (by omega) hw.1.2 (by omega)]
    dsimp only
    rw [pr_ok f t d k e r (by omega) hw.2.2 (by omega) he hk]
  | f + 1, .iff l m x p q t, d, k, e, r, h, hw, hd, he, hk => by
    rw [fl, List.length_cons, List.length_append, List.length_cons, List.length_append, List.length_cons] at h
    rw [dp] at hd
    have e1 : fl (.iff l m x p q t) ++ e :: r = l :: (fl p ++ m :: (fl q ++ x :: (fl t ++ e :: r))) := by simp [fl]
    have h6 := hw.1.1
    rw [e1, pr, if_neg (by omega), if_neg (by omega), if_neg (by omega), if_pos h6, if_neg (by omega), pr_ok f p (d + 1) 7 m _ (by omega) hw.2.1 (by omega) hw.1.2.1 (by omega)]
    dsimp only
    rw [pr_ok f q (d + 1) 8 x _ (by omega) hw.2.2.1 (by omega) hw.1.2.2 (by omega)]
    dsimp only
    rw [pr_ok f t d k e r (by omega) hw.2.2.2 (by omega) he hk]
abbrev gStop : Gt := ⟨-1, 0, 0, 0⟩
def prs (p : List Gt) : Option PS := if p.length ≤ 16 ∧ p.all lkG = true then (pr 18 0 (-1) (p ++ [gStop])).map (·.1) else none
def pvS (p : List Gt) : Bool := p.all lkG && (scan p [] == some []) && decide (p.length ≤ 16)
theorem lk_kind {g : Gt} (h : lkG g = true) : 0 ≤ g.k ∧ g.k ≤ 8 := by
  refine Decidable.byContradiction fun hn => ?_
  have : lkG g = false := lok_out (by omega)
  rw [this] at h; cases h
theorem lk_all {p : List Gt} (h : p.all lkG = true) : ∀ x ∈ p, 0 ≤ x.k ∧ x.k ≤ 8 := fun x hx => lk_kind (List.all_eq_true.1 h x hx)
theorem prs_t {p : List Gt} {t : PS} (h : prs p = some t) : p.length ≤ 16 ∧ p.all lkG = true ∧ fl t = p ∧ wf t ∧ dp t ≤ 3 ∧ pr 18 0 (-1) (p ++ [gStop]) = some (t, gStop, []) := by
  unfold prs at h
  split at h
  · rename_i hc
    rcases hq : pr 18 0 (-1) (p ++ [gStop]) with _ | ⟨t2, x, r⟩
    · rw [hq] at h; cases h
    rw [hq] at h
    cases h
    have hi : ini (p ++ [gStop]) := fun x hx => by
      rw [List.dropLast_concat] at hx
      exact lk_all hc.2 x hx
    obtain ⟨a1, a2, a3, a4⟩ := pr_some 18 0 (-1) _ t2 x r hi (by omega) hq
    -- the statement that ends it is the last one
    have hx : r = [] ∧ x = gStop ∧ p = fl t2 := by
      rcases List.eq_nil_or_concat r with rfl | ⟨r1, y, rfl⟩
      · have e := List.append_inj' a2 rfl
        cases e.2
        exact ⟨rfl, rfl, e.1⟩
      · rw [List.concat_eq_append, show fl t2 ++ x :: (r1 ++ [y]) = (fl t2 ++ x :: r1) ++ [y] by simp] at a2
        have e := List.append_inj' a2 rfl
        have := lk_all hc.2 x (by rw [e.1]; simp)
        omega
    obtain ⟨rfl, rfl, rfl⟩ := hx
    exact ⟨hc.1, hc.2, rfl, a1, by omega, rfl⟩
  · cases h
theorem prs_of {t : PS} (hw : wf t) (hd : dp t ≤ 3) (hl : (fl t).length ≤ 16) (hk : (fl t).all lkG = true) : prs (fl t) = some t := by
  unfold prs
  rw [if_pos ⟨hl, hk⟩, pr_ok 18 t 0 (-1) gStop [] (by omega) hw (by omega) rfl (.inl rfl)]
  rfl
theorem pvS_prs (p : List Gt) : pvS p = (prs p).isSome := by
  cases h : prs p with
  | some t =>
    obtain ⟨a1, a2, a3, a4, a5, _⟩ := prs_t h
    have := scan_fl t [] [] a4 (by rw [List.length_nil]; omega)
    rw [List.append_nil, a3] at this
    unfold pvS
    rw [a2, this, decide_eq_true a1]; rfl
  | none =>
    cases hv : pvS p with
    | false => rfl
    | true =>
      unfold pvS at hv
      rw [Bool.and_eq_true, Bool.and_eq_true, beq_iff_eq, decide_eq_true_eq] at hv
      obtain ⟨⟨h1, h2⟩, h3⟩ := hv
      obtain ⟨t, t1, t2, t3⟩ := (tree_of p.length p [] (Nat.le_refl _) (lk_all h1) (by simp) h2).1 rfl
      have := prs_of t1 t3 (by rw [t2]; exact h3) (by rw [t2]; exact h1)
      rw [t2, h] at this
      cases this
abbrev RS := List Int × Nat
def rg (r : List Int) (i : Int) : Int := r.getD i.toNat 0
def do1 (l : Gt) (r : List Int) : List Int :=
  if l.k = 0 then r.set l.a.toNat ((rg r l.a + rg r l.b) % 64)
  else if l.k = 1 then r.set l.a.toNat ((rg r l.a + 64 - rg r l.b) % 64)
  else if l.k = 2 then r.set l.a.toNat ((rg r l.a + l.c) % 64)
  else if l.k = 3 then (r.set l.a.toNat (rg r l.b)).set l.b.toNat (rg r l.a)
  else r
def itO {α : Type} (f : α → Option α) : Nat → α → Option α
  | 0, x => some x
  | n + 1, x => (f x).bind (itO f n)
def rs : PS → RS → Option RS
  | .nil, x => some x
  | .one l t, x => rs t (do1 l x.1, x.2 + 1)
  | .rep l e p t, x => (itO (rs p) l.c.toNat x).bind (rs t)
  | .iff l m e p q t, x => (if (rg x.1 l.a == l.c) = true then rs p x else rs q x).bind fun y => if ((rg y.1 e.a == e.c) == (rg x.1 l.a == l.c)) = true then none else rs t y
def lb (l : Gt) : Gt :=
  if l.k = 0 then ⟨1, l.a, l.b, l.c⟩ else if l.k = 1 then ⟨0, l.a, l.b, l.c⟩ else if l.k = 2 then ⟨2, l.a, l.b, (64 - l.c) % 64⟩
  else if l.k = 6 then ⟨8, l.a, l.b, l.c⟩ else if l.k = 8 then ⟨6, l.a, l.b, l.c⟩ else if l.k = 5 then ⟨4, l.a, l.b, l.c⟩ else if l.k = 4 then ⟨5, 0, 0, 0⟩ else l
theorem lk_cases {l : Gt} (h : lkG l = true) : ((l.k = 0 ∨ l.k = 1 ∨ l.k = 3) ∧ (0 ≤ l.a ∧ l.a ≤ 3) ∧ (0 ≤ l.b ∧ l.b ≤ 3) ∧ l.a ≠ l.b ∧ l.c = 0) ∨ ((l.k = 2 ∨ l.k = 6 ∨ l.k = 8) ∧ (0 ≤ l.a ∧ l.a ≤ 3) ∧ l.b = 0 ∧ (0 ≤ l.c ∧ l.c ≤ 63)) ∨ (l.k = 4 ∧ l.a = 0 ∧ l.b = 0 ∧ (0 ≤ l.c ∧ l.c ≤ 3)) ∨ ((l.k = 5 ∨ l.k = 7) ∧ l.a = 0 ∧ l.b = 0 ∧ l.c = 0) := by
  have hk := lk_kind h
  obtain ⟨k, a, b, c⟩ := l
  have h' : lok k a b c = true := h
  dsimp only at hk ⊢
  have hcase : (k = 0 ∨ k = 1 ∨ k = 3) ∨ (k = 2 ∨ k = 6 ∨ k = 8) ∨ k = 4 ∨ (k = 5 ∨ k = 7) := by omega
  rcases hcase with hc | hc | rfl | hc
  · rw [lok_A hc] at h'
    simp only [Bool.and_eq_true, btw, decide_eq_true_eq, bne_iff_ne, beq_iff_eq] at h'
    exact .inl ⟨hc, h'.1.1.1, h'.1.1.2, h'.1.2, h'.2⟩
  · rw [lok_B hc] at h'
    simp only [Bool.and_eq_true, btw, decide_eq_true_eq, bne_iff_ne, beq_iff_eq] at h'
    exact .inr (.inl ⟨hc, h'.1.1, h'.1.2, h'.2⟩)
  · rw [lok_C] at h'
    simp only [Bool.and_eq_true, btw, decide_eq_true_eq, bne_iff_ne, beq_iff_eq] at h'
    exact .inr (.inr (.inl ⟨rfl, h'.1.1, h'.1.2, h'.2⟩))
  · rw [lok_D hc] at h'
    simp only [Bool.and_eq_true, btw, decide_eq_true_eq, bne_iff_ne, beq_iff_eq] at h'
    exact .inr (.inr (.inr ⟨hc, h'.1.1, h'.1.2, h'.2⟩))
theorem lkG_A {k a b c : Int} (hk : k = 0 ∨ k = 1 ∨ k = 3) (ha : 0 ≤ a ∧ a ≤ 3) (hb : 0 ≤ b ∧ b ≤ 3) (hn : a ≠ b) (hc : c = 0) : lkG ⟨k, a, b, c⟩ = true := by
  show lok k a b c = true
  rw [lok_A hk]
  simp only [Bool.and_eq_true, btw, decide_eq_true_eq, bne_iff_ne, beq_iff_eq]
  exact ⟨⟨⟨ha, hb⟩, hn⟩, hc⟩
theorem lkG_B {k a b c : Int} (hk : k = 2 ∨ k = 6 ∨ k = 8) (ha : 0 ≤ a ∧ a ≤ 3) (hb : b = 0) (hc : 0 ≤ c ∧ c ≤ 63) : lkG ⟨k, a, b, c⟩ = true := by
  show lok k a b c = true
  rw [lok_B hk]
  simp only [Bool.and_eq_true, btw, decide_eq_true_eq, bne_iff_ne, beq_iff_eq]
  exact ⟨⟨ha, hb⟩, hc⟩
theorem lb_ok {l : Gt} (h : lkG l = true) (hk : l.k ≠ 4 ∧ l.k ≠ 5) : lkG (lb l) = true ∧ lb (lb l) = l ∧ (l.k ≤ 3 → 0 ≤ (lb l).k ∧ (lb l).k ≤ 3) ∧ (l.k = 6 → (lb l).k = 8) ∧ (l.k = 8 → (lb l).k = 6) ∧ (l.k = 7 → lb l = l) := by
  rcases lk_cases h with ⟨h1, h2, h3, h4, h5⟩ | ⟨h1, h2, h3, h4⟩ | ⟨h1, _⟩ | ⟨h1, h2, h3, h4⟩
  · obtain ⟨k, a, b, c⟩ := l
    dsimp only at *
    rcases h1 with rfl | rfl | rfl
    · exact ⟨lkG_A (.inr (.inl rfl)) h2 h3 h4 h5, rfl, fun _ => ⟨(by decide : (0 : Int) ≤ 1), (by decide : (1 : Int) ≤ 3)⟩, fun e => by omega, fun e => by omega, fun e => by omega⟩
    · exact ⟨lkG_A (.inl rfl) h2 h3 h4 h5, rfl, fun _ => ⟨(by decide : (0 : Int) ≤ 0), (by decide : (0 : Int) ≤ 3)⟩, fun e => by omega, fun e => by omega, fun e => by omega⟩
    · exact ⟨lkG_A (.inr (.inr rfl)) h2 h3 h4 h5, rfl, fun _ => ⟨(by decide : (0 : Int) ≤ 3), (by decide : (3 : Int) ≤ 3)⟩, fun e => by omega, fun e => by omega, fun e => by omega⟩
  · obtain ⟨k, a, b, c⟩ := l
    dsimp only at *
    rcases h1 with rfl | rfl | rfl
    · refine ⟨lkG_B (.inl rfl) h2 h3 (by dsimp only; omega), ?_, fun _ => ⟨(by decide : (0 : Int) ≤ 2), (by decide : (2 : Int) ≤ 3)⟩, fun e => by omega, fun e => by omega, fun e => by omega⟩
      show (⟨2, a, b, (64 - (64 - c) % 64) % 64⟩ : Gt) = ⟨2, a, b, c⟩
      rw [show (64 - (64 - c) % 64) % 64 = c by omega]
    · exact ⟨lkG_B (.inr (.inr rfl)) h2 h3 h4, rfl, fun e => by omega, fun _ => rfl, fun e => by omega, fun e => by omega⟩
    · exact ⟨lkG_B (.inr (.inl rfl)) h2 h3 h4, rfl, fun e => by omega, fun e => by omega, fun _ => rfl, fun e => by omega⟩
  · exact absurd h1 hk.1
  · rcases h1 with h1 | h1
    · exact absurd h1 hk.2
    · obtain ⟨k, a, b, c⟩ := l
      dsimp only at *
      subst h1
      exact ⟨h, rfl, fun e => by omega, fun e => by omega, fun e => by omega, fun _ => rfl⟩
def bk : PS → PS
  | .nil => .nil
  | .one l t => app (bk t) (.one (lb l) .nil)
  | .rep l e p t => app (bk t) (.rep l e (bk p) .nil)
  | .iff l m e p q t => app (bk t) (.iff (lb e) m (lb l) (bk q) (bk p) .nil)
theorem bk_app (b : PS) : ∀ a, bk (app a b) = app (bk b) (bk a)
  | .nil => (app_nil _).symm
  | .one l t => by rw [app, bk, bk, bk_app b t, app_assoc]
  | .rep l e p t => by rw [app, bk, bk, bk_app b t, app_assoc]
  | .iff l m e p q t => by rw [app, bk, bk, bk_app b t, app_assoc]
def lkA (t : PS) : Prop := (fl t).all lkG = true
theorem lkA_one {l : Gt} {t : PS} (h : lkA (.one l t)) : lkG l = true ∧ lkA t := by
  unfold lkA at *; rw [fl, List.all_cons, Bool.and_eq_true] at h; exact h
theorem lkA_rep {l e : Gt} {p t : PS} (h : lkA (.rep l e p t)) : lkG l = true ∧ lkA p ∧ lkG e = true ∧ lkA t := by
  unfold lkA at *; rw [fl, List.all_cons, List.all_append, List.all_cons, Bool.and_eq_true, Bool.and_eq_true, Bool.and_eq_true] at h; exact h
theorem lkA_iff {l m e : Gt} {p q t : PS} (h : lkA (.iff l m e p q t)) : lkG l = true ∧ lkA p ∧ lkG m = true ∧ lkA q ∧ lkG e = true ∧ lkA t := by
  unfold lkA at *; rw [fl, List.all_cons, List.all_append, List.all_cons, List.all_append, List.all_cons, Bool.and_eq_true, Bool.and_eq_true, Bool.and_eq_true, Bool.and_eq_true, Bool.and_eq_true] at h; exact h
theorem lkA_app {a b : PS} (ha : lkA a) (hb : lkA b) : lkA (app a b) := by
  unfold lkA at *; rw [fl_app, List.all_append, ha, hb]; rfl
theorem bk_ok : ∀ {t : PS}, wf t → lkA t → wf (bk t) ∧ lkA (bk t) ∧ (fl (bk t)).length = (fl t).length ∧ dp (bk t) = dp t ∧ bk (bk t) = t
  | .nil, _, _ => ⟨trivial, rfl, rfl, rfl, rfl⟩
  | .one l t, hw, hl => by
    obtain ⟨l1, l2⟩ := lkA_one hl
    obtain ⟨a1, a2, a3, a4, a5⟩ := bk_ok hw.2 l2
    have hk := hw.1
    obtain ⟨b1, b2, b3, _⟩ := lb_ok l1 ⟨by omega, by omega⟩
    refine ⟨wf_app (b := .one (lb l) .nil) ⟨b3 hk.2, trivial⟩ a1, lkA_app a2 (by unfold lkA; rw [fl, fl, List.all_cons, b1]; rfl), ?_, ?_, ?_⟩
    · rw [bk, fl_app, List.length_append, a3]; rfl
    · rw [bk, dp_app, a4]; simp [dp]
    · rw [bk, bk_app, a5, bk, b2]; rfl
  | .rep l e p t, hw, hl => by
    obtain ⟨l1, l2, l3, l4⟩ := lkA_rep hl
    obtain ⟨a1, a2, a3, a4, a5⟩ := bk_ok hw.2.2 l4
    obtain ⟨c1, c2, c3, c4, c5⟩ := bk_ok hw.2.1 l2
    refine ⟨wf_app (b := .rep l e (bk p) .nil) ⟨hw.1, c1, trivial⟩ a1, lkA_app a2 ?_, ?_, ?_, ?_⟩
    · unfold lkA at *
      rw [fl, List.all_cons, List.all_append, List.all_cons, l1, c2, l3]; rfl
    · rw [bk, fl_app, List.length_append, a3, fl, fl]; simp [fl, c3]; omega
    · rw [bk, dp_app, a4, dp, dp, c4, dp]; omega
    · rw [bk, bk_app, a5, bk, c5]; rfl
  | .iff l m e p q t, hw, hl => by
    obtain ⟨l1, l2, l3, l4, l5, l6⟩ := lkA_iff hl
    obtain ⟨a1, a2, a3, a4, a5⟩ := bk_ok hw.2.2.2 l6
    obtain ⟨c1, c2, c3, c4, c5⟩ := bk_ok hw.2.1 l2
    obtain ⟨d1, d2, d3, d4, d5⟩ := bk_ok hw.2.2.1 l4
    have hk := hw.1
    obtain ⟨b1, b2, _, b4, _⟩ := lb_ok l1 ⟨by omega, by omega⟩
    obtain ⟨e1, e2, _, _, e5, _⟩ := lb_ok l5 ⟨by omega, by omega⟩
    refine ⟨wf_app (b := .iff (lb e) m (lb l) (bk q) (bk p) .nil) ⟨⟨e5 hk.2.2, hk.2.1, b4 hk.1⟩, d1, c1, trivial⟩ a1, lkA_app a2 ?_, ?_, ?_, ?_⟩
    · unfold lkA at *
      rw [fl, List.all_cons, List.all_append, List.all_cons, List.all_append, List.all_cons, e1, d2, l3, c2, b1]; rfl
    · rw [bk, fl_app, List.length_append, a3, fl, fl]; simp [fl, c3, d3]; omega
    · rw [bk, dp_app, a4, dp, dp, c4, d4, dp]; omega
    · rw [bk, bk_app, a5, bk, c5, d5, b2, e2]; rfl
def clo : List Gt → Nat → Nat
  | [], _ => 0
  | l :: r, d =>
    if l.k = 4 ∨ l.k = 6 then 1 + clo r (d + 1)
    else if l.k = 5 ∨ l.k = 8 then (if d = 0 then 0 else 1 + clo r (d - 1))
    else if l.k = 7 then (if d = 0 then 0 else 1 + clo r d)
    else 1 + clo r d
theorem clo_fl : ∀ (t : PS) (r : List Gt) (d : Nat), wf t → clo (fl t ++ r) d = (fl t).length + clo r d
  | .nil, r, d, _ => (Nat.zero_add _).symm
  | .one l t, r, d, h => by
    have hk := h.1
    rw [fl, List.cons_append, clo, if_neg (by omega), if_neg (by omega), if_neg (by omega), clo_fl t r d h.2, List.length_cons]; omega
  | .rep l e p t, r, d, h => by
    have hk := h.1
    rw [fl, List.cons_append, List.append_assoc, clo, if_pos (.inl hk.1), clo_fl p _ (d + 1) h.2.1, List.cons_append, clo, if_neg (by omega), if_pos (.inl hk.2), if_neg (by omega), Nat.add_sub_cancel, clo_fl t r d h.2.2, List.length_cons, List.length_append, List.length_cons]; omega
  | .iff l m e p q t, r, d, h => by
    have hk := h.1
    rw [fl, List.cons_append, List.append_assoc, clo, if_pos (.inr hk.1), clo_fl p _ (d + 1) h.2.1, List.cons_append, clo, if_neg (by omega), if_neg (by omega), if_pos hk.2.1, if_neg (by omega), List.append_assoc, clo_fl q _ (d + 1) h.2.2.1, List.cons_append, clo, if_neg (by omega), if_pos (.inr hk.2.2), if_neg (by omega), Nat.add_sub_cancel, clo_fl t r d h.2.2.2, List.length_cons, List.length_append, List.length_cons, List.length_append, List.length_cons]; omega
theorem clo_gt : ∀ (r : List Gt) (d e : Nat), d < e → clo r d < r.length → clo r d < clo r e
  | [], d, e, _, h => by cases h
  | l :: r, d, e, hd, h => by
    rw [clo, List.length_cons] at h
    rw [clo, clo]
    by_cases h1 : l.k = 4 ∨ l.k = 6
    · rw [if_pos h1] at h ⊢
      rw [if_pos h1]
      have := clo_gt r (d + 1) (e + 1) (by omega) (by omega); omega
    rw [if_neg h1] at h ⊢
    rw [if_neg h1]
    by_cases h2 : l.k = 5 ∨ l.k = 8
    · rw [if_pos h2] at h ⊢
      rw [if_pos h2, if_neg (show ¬ e = 0 by omega)]
      by_cases h3 : d = 0
      · rw [if_pos h3]; omega
      · rw [if_neg h3] at h ⊢
        have := clo_gt r (d - 1) (e - 1) (by omega) (by omega); omega
    rw [if_neg h2] at h ⊢
    rw [if_neg h2]
    by_cases h4 : l.k = 7
    · rw [if_pos h4] at h ⊢
      rw [if_pos h4, if_neg (show ¬ e = 0 by omega)]
      by_cases h3 : d = 0
      · rw [if_pos h3]; omega
      · rw [if_neg h3] at h ⊢
        have := clo_gt r d e hd (by omega); omega
    · rw [if_neg h4] at h ⊢
      rw [if_neg h4]
      have := clo_gt r d e hd (by omega); omega
theorem clo_pass (x : List Gt) : ∀ (a : List Gt) (d : Nat), clo (a ++ x) d < a.length ∨ ∃ d', clo (a ++ x) d = a.length + clo x d'
  | [], d => .inr ⟨d, by simp⟩
  | l :: a, d => by
    have key : ∀ d', (1 + clo (a ++ x) d' < (l :: a).length ∨ ∃ d'', 1 + clo (a ++ x) d' = (l :: a).length + clo x d'') := fun d' => by
      rw [List.length_cons]
      rcases clo_pass x a d' with h | ⟨d'', h⟩
      · exact .inl (by omega)
      · exact .inr ⟨d'', by omega⟩
    have zero : (0 < (l :: a).length ∨ ∃ d'', 0 = (l :: a).length + clo x d'') := .inl (by rw [List.length_cons]; omega)
    rw [List.cons_append, clo]
    split
    · exact key _
    split
    · split
      · exact zero
      · exact key _
    split
    · split
      · exact zero
      · exact key _
    · exact key _
abbrev gz : Gt := ⟨0, 0, 0, 0⟩
def cls (P : List Gt) (j : Nat) : Nat := j + 1 + clo (P.drop (j + 1)) 0
theorem cls_uniq {P : List Gt} {j j' k : Nat} (hj : j < j') (h4 : (P.getD j' gz).k = 4) (h1 : cls P j = k) (h2 : cls P j' = k) (hk : k < P.length) : False := by
  unfold cls at h1 h2
  have hj' : j' < P.length := by omega
  have e : P.drop (j + 1) = (P.drop (j + 1)).take (j' - (j + 1)) ++ P.getD j' gz :: P.drop (j' + 1) := by
    have e1 : P.drop j' = P.getD j' gz :: P.drop (j' + 1) := by
      rw [List.drop_eq_getElem_cons hj']
      simp [List.getD_eq_getElem?_getD, hj']
    rw [← e1]
    have e2 := (List.take_append_drop (j' - (j + 1)) (P.drop (j + 1))).symm
    rw [List.drop_drop, show j + 1 + (j' - (j + 1)) = j' by omega] at e2
    exact e2
  have hl : ((P.drop (j + 1)).take (j' - (j + 1))).length = j' - (j + 1) := by rw [List.length_take, List.length_drop]; omega
  rw [e] at h1
  have hB : clo (P.drop (j' + 1)) 0 < (P.drop (j' + 1)).length := by rw [List.length_drop]; omega
  rcases clo_pass (P.getD j' gz :: P.drop (j' + 1)) ((P.drop (j + 1)).take (j' - (j + 1))) 0 with h | ⟨d, h⟩
  · rw [hl] at h; omega
  · rw [hl, clo, if_pos (.inl h4)] at h
    have := clo_gt (P.drop (j' + 1)) 0 (d + 1) (by omega) hB
    omega
def sbN (P : List Gt) (k : Nat) : Nat → Int
  | 0 => 0
  | j + 1 => if (P.getD j gz).k = 4 ∧ cls P j = k then (P.getD j gz).c else sbN P k j
theorem sbN_at {P : List Gt} {j k : Nat} (h4 : (P.getD j gz).k = 4) (h1 : cls P j = k) (hk : k < P.length) : ∀ i, j < i → sbN P k i = (P.getD j gz).c
  | 0, h => by omega
  | i + 1, h => by
    rw [sbN]
    rcases Nat.lt_or_ge j i with h2 | h2
    · rw [if_neg (fun hc => cls_uniq h2 hc.1 h1 hc.2 hk)]
      exact sbN_at h4 h1 hk i h2
    · obtain rfl : j = i := by omega
      rw [if_pos ⟨h4, h1⟩]
def sb (P : List Gt) (k : Nat) : Gt := if (P.getD k gz).k = 5 then ⟨(lb (P.getD k gz)).k, (lb (P.getD k gz)).a, (lb (P.getD k gz)).b, sbN P k k⟩ else lb (P.getD k gz)
def sbS (P : List Gt) (a : Nat) : Nat → List Gt
  | 0 => []
  | n + 1 => sb P (a + n) :: sbS P a n
theorem sbS_add (P : List Gt) (a n : Nat) : ∀ m, sbS P a (n + m) = sbS P (a + n) m ++ sbS P a n
  | 0 => rfl
  | m + 1 => by
    rw [← Nat.add_assoc, sbS, sbS, sbS_add P a n m, List.cons_append, Nat.add_assoc]
theorem sbS_len (P : List Gt) (a : Nat) : ∀ n, (sbS P a n).length = n
  | 0 => rfl
  | n + 1 => by rw [sbS, List.length_cons, sbS_len P a n]
theorem getD_mid (a b : List Gt) (x : Gt) : (a ++ x :: b).getD a.length gz = x := by
  simp [List.getD_eq_getElem?_getD]
theorem sbS_bk : ∀ (t : PS) (pre post : List Gt), wf t → lkA t → sbS (pre ++ (fl t ++ post)) pre.length (fl t).length = fl (bk t)
  | .nil, pre, post, _, _ => rfl
  | .one l t, pre, post, h, hl => by
    obtain ⟨l1, l2⟩ := lkA_one hl
    have hk := h.1
    have e : pre ++ (fl (.one l t) ++ post) = (pre ++ [l]) ++ (fl t ++ post) := by simp [fl]
    have ih := sbS_bk t (pre ++ [l]) post h.2 l2
    rw [← e, List.length_append, List.length_singleton] at ih
    have h0 : sbS (pre ++ (fl (.one l t) ++ post)) pre.length 1 = [lb l] := by
      have e2 : (pre ++ (fl (.one l t) ++ post)).getD pre.length gz = l := by rw [fl, List.cons_append]; exact getD_mid _ _ _
      rw [sbS, sbS, Nat.add_zero, sb, e2, if_neg (by omega)]
    rw [show (fl (.one l t)).length = 1 + (fl t).length by rw [fl, List.length_cons]; omega, sbS_add, ih, h0, bk, fl_app]; rfl
  | .rep l e p t, pre, post, h, hl => by
    obtain ⟨l1, l2, l3, l4⟩ := lkA_rep hl
    have hk := h.1
    obtain ⟨P, hP⟩ : ∃ P, pre ++ (fl (.rep l e p t) ++ post) = P := ⟨_, rfl⟩
    have eP1 : (pre ++ [l]) ++ (fl p ++ (e :: (fl t ++ post))) = P := by rw [← hP]; simp [fl]
    have eP2 : (pre ++ l :: fl p) ++ e :: (fl t ++ post) = P := by rw [← hP]; simp [fl]
    have eP3 : (pre ++ (l :: fl p) ++ [e]) ++ (fl t ++ post) = P := by rw [← hP]; simp [fl]
    have eP0 : pre ++ l :: (fl p ++ e :: (fl t ++ post)) = P := by rw [← hP]; simp [fl]
    have i1 := sbS_bk p (pre ++ [l]) (e :: (fl t ++ post)) h.2.1 l2
    have i2 := sbS_bk t (pre ++ (l :: fl p) ++ [e]) post h.2.2 l4
    rw [eP1, List.length_append, List.length_singleton] at i1
    rw [eP3] at i2
    have g0 : P.getD pre.length gz = l := by rw [← eP0]; exact getD_mid _ _ _
    have g1 : P.getD (pre.length + (1 + (fl p).length)) gz = e := by
      have := getD_mid (pre ++ l :: fl p) (fl t ++ post) e
      rw [eP2, List.length_append, List.length_cons] at this
      rw [← this]; congr 1; omega
    have hcl : cls P pre.length = pre.length + (1 + (fl p).length) := by
      unfold cls
      have e3 : P.drop (pre.length + 1) = fl p ++ (e :: (fl t ++ post)) := by
        rw [← eP1, List.drop_left' (by simp)]
      rw [e3, clo_fl p _ 0 h.2.1, clo, if_neg (by omega), if_pos (.inl hk.2), if_pos rfl]; omega
    have hlen : pre.length + (1 + (fl p).length) < P.length := by
      rw [← eP2]; simp only [List.length_append, List.length_cons]; omega
    have hN := sbN_at (by rw [g0]; exact hk.1) hcl hlen _ (show pre.length < pre.length + (1 + (fl p).length) by omega)
    rw [g0] at hN
    have hlz : l = ⟨4, 0, 0, l.c⟩ := by
      rcases lk_cases l1 with ⟨h1, _⟩ | ⟨h1, _⟩ | ⟨h1, h2, h3, h4⟩ | ⟨h1, _⟩
      · omega
      · omega
      · obtain ⟨k, a, b, c⟩ := l; dsimp only at *; rw [h1, h2, h3]
      · omega
    have hez : e = ⟨5, 0, 0, 0⟩ := by
      rcases lk_cases l3 with ⟨h1, _⟩ | ⟨h1, _⟩ | ⟨h1, _⟩ | ⟨h1, h2, h3, h4⟩
      · omega
      · omega
      · omega
      · obtain ⟨k, a, b, c⟩ := e; dsimp only at *; rw [hk.2, h2, h3, h4]
    have s0 : sbS P pre.length 1 = [e] := by
      rw [sbS, sbS, Nat.add_zero, sb, g0, if_neg (by omega), hez, hlz]; rfl
    have s1 : sbS P (pre.length + (1 + (fl p).length)) 1 = [l] := by
      rw [sbS, sbS, Nat.add_zero, sb, g1, if_pos hk.2, hN, hez]
      show [(⟨4, 0, 0, l.c⟩ : Gt)] = [l]
      rw [← hlz]
    rw [hP, show (fl (.rep l e p t)).length = (1 + (fl p).length) + 1 + (fl t).length by simp [fl]; omega, sbS_add, sbS_add, sbS_add P pre.length 1]
    rw [s0, s1, i1]
    rw [show pre.length + (1 + (fl p).length + 1) = (pre ++ (l :: fl p) ++ [e]).length by simp; omega, i2, bk, fl_app, fl, fl]
    simp
  | .iff l m e p q t, pre, post, h, hl => by
    obtain ⟨l1, l2, l3, l4, l5, l6⟩ := lkA_iff hl
    have hk := h.1
    obtain ⟨P, hP⟩ : ∃ P, pre ++ (fl (.iff l m e p q t) ++ post) = P := ⟨_, rfl⟩
    have eP0 : pre ++ l :: (fl p ++ m :: (fl q ++ e :: (fl t ++ post))) = P := by rw [← hP]; simp [fl]
    have eP1 : (pre ++ [l]) ++ (fl p ++ (m :: (fl q ++ e :: (fl t ++ post)))) = P := by rw [← hP]; simp [fl]
    have eP2 : (pre ++ l :: fl p) ++ m :: (fl q ++ e :: (fl t ++ post)) = P := by rw [← hP]; simp [fl]
    have eP3 : (pre ++ (l :: fl p) ++ [m]) ++ (fl q ++ (e :: (fl t ++ post))) = P := by rw [← hP]; simp [fl]
    have eP4 : (pre ++ (l :: fl p) ++ (m :: fl q)) ++ e :: (fl t ++ post) = P := by rw [← hP]; simp [fl]
    have eP5 : (pre ++ (l :: fl p) ++ (m :: fl q) ++ [e]) ++ (fl t ++ post) = P := by rw [← hP]; simp [fl]
    have i1 := sbS_bk p (pre ++ [l]) (m :: (fl q ++ e :: (fl t ++ post))) h.2.1 l2
    have i2 := sbS_bk q (pre ++ (l :: fl p) ++ [m]) (e :: (fl t ++ post)) h.2.2.1 l4
    have i3 := sbS_bk t (pre ++ (l :: fl p) ++ (m :: fl q) ++ [e]) post h.2.2.2 l6
    rw [eP1, List.length_append, List.length_singleton] at i1
    rw [eP3] at i2
    rw [eP5] at i3
    have g0 : P.getD pre.length gz = l := by rw [← eP0]; exact getD_mid _ _ _
    have g1 : P.getD (pre.length + (1 + (fl p).length)) gz = m := by
      have := getD_mid (pre ++ l :: fl p) (fl q ++ e :: (fl t ++ post)) m
      rw [eP2, List.length_append, List.length_cons] at this
      rw [← this]; congr 1; omega
    have g2 : P.getD (pre.length + (1 + (fl p).length + 1 + (fl q).length)) gz = e := by
      have := getD_mid (pre ++ (l :: fl p) ++ (m :: fl q)) (fl t ++ post) e
      rw [eP4] at this
      rw [← this]; congr 1; simp; omega
    have hmz := (lb_ok l3 ⟨by omega, by omega⟩).2.2.2.2.2 hk.2.1
    have s0 : sbS P pre.length 1 = [lb l] := by
      rw [sbS, sbS, Nat.add_zero, sb, g0, if_neg (by omega)]
    have s1 : sbS P (pre.length + (1 + (fl p).length)) 1 = [m] := by
      rw [sbS, sbS, Nat.add_zero, sb, g1, if_neg (by omega), hmz]
    have s2 : sbS P (pre.length + (1 + (fl p).length + 1 + (fl q).length)) 1 = [lb e] := by
      rw [sbS, sbS, Nat.add_zero, sb, g2, if_neg (by omega)]
    rw [hP, show (fl (.iff l m e p q t)).length = (1 + (fl p).length + 1 + (fl q).length) + 1 + (fl t).length by simp [fl]; omega, sbS_add, sbS_add, sbS_add P pre.length (1 + (fl p).length + 1), sbS_add P pre.length (1 + (fl p).length), sbS_add P pre.length 1]
    rw [s0, s1, s2, i1]
    rw [show pre.length + (1 + (fl p).length + 1) = (pre ++ (l :: fl p) ++ [m]).length by simp; omega, i2]
    rw [show pre.length + (1 + (fl p).length + 1 + (fl q).length + 1) = (pre ++ (l :: fl p) ++ (m :: fl q) ++ [e]).length by simp; omega, i3, bk, fl_app, fl, fl]
    simp
end Go.Proofs.Ytgjnnlgeggamjaa
namespace Go.Proofs.Ytgjnnlgeggamjaa
set_option linter.unusedVariables false
set_option linter.unusedSimpArgs false
open Go.RowKit
def pl : PS → Nat
  | .nil => 0
  | .one _ t => pl t + 1
  | .rep _ _ _ t => pl t + 1
  | .iff _ _ _ _ _ t => pl t + 1
theorem pl_app (b : PS) : ∀ a, pl (app a b) = pl a + pl b
  | .nil => (Nat.zero_add _).symm
  | .one l t => by rw [app, pl, pl, pl_app b t]; omega
  | .rep l e p t => by rw [app, pl, pl, pl_app b t]; omega
  | .iff l m e p q t => by rw [app, pl, pl, pl_app b t]; omega
theorem pl_fl : ∀ t, pl t ≤ (fl t).length
  | .nil => Nat.le_refl _
  | .one l t => by have := pl_fl t; rw [pl, fl, List.length_cons]; omega
  | .rep l e p t => by have := pl_fl t; rw [pl, fl, List.length_cons, List.length_append, List.length_cons]; omega
  | .iff l m e p q t => by have := pl_fl t; rw [pl, fl, List.length_cons, List.length_append, List.length_cons, List.length_append, List.length_cons]; omega
abbrev lC (g : Gt) : List Value := [.int .i64 g.k, .int .i64 g.a, .int .i64 g.b, .int .i64 g.c]
abbrev vNil : Value := .slice none 0 0
def RC (w : World) (D : Nat → Prop) : PS → List Value → Prop
  | .nil, cs => cs = []
  | .one l t, cs => ∃ cs', cs = lC l ++ (vNil :: vNil :: (lC gz ++ cs')) ∧ RC w D t cs'
  | .rep l e p t, cs => ∃ A c ps cs', cs = lC l ++ (.slice A (pl p) c :: vNil :: (lC e ++ cs')) ∧ RC w D p ps ∧ (0 < pl p → ∃ b off, A = some ⟨b, off, none⟩ ∧ D b ∧ Cells w b off ps) ∧ RC w D t cs'
  | .iff l m e p q t, cs => ∃ A c ps A2 c2 qs cs', cs = lC l ++ (.slice A (pl p) c :: .slice A2 (pl q) c2 :: (lC e ++ cs')) ∧ (RC w D p ps ∧ (0 < pl p → ∃ b off, A = some ⟨b, off, none⟩ ∧ D b ∧ Cells w b off ps)) ∧ (RC w D q qs ∧ (0 < pl q → ∃ b off, A2 = some ⟨b, off, none⟩ ∧ D b ∧ Cells w b off qs)) ∧ RC w D t cs'
def TV (w : World) (D : Nat → Prop) (t : PS) (v : Value) : Prop := ∃ A c ps, v = .slice A (pl t) c ∧ RC w D t ps ∧ (0 < pl t → ∃ b off, A = some ⟨b, off, none⟩ ∧ D b ∧ Cells w b off ps)
theorem RC.keep {w w' : World} {D D' : Nat → Prop} (h : ∀ b, D b → D' b ∧ w'.heap[b]? = w.heap[b]?) : ∀ {t : PS} {cs : List Value}, RC w D t cs → RC w' D' t cs
  | .nil, cs, hr => hr
  | .one l t, cs, ⟨cs', e, hr⟩ => ⟨cs', e, RC.keep h hr⟩
  | .rep l e p t, cs, ⟨A, c, ps, cs', q, h1, h2, h3⟩ => ⟨A, c, ps, cs', q, RC.keep h h1, fun h0 => by
      obtain ⟨b, off, e1, e2, e3⟩ := h2 h0
      exact ⟨b, off, e1, (h b e2).1, e3.keep (h b e2).2⟩, RC.keep h h3⟩
  | .iff l m e p q t, cs, ⟨A, c, ps, A2, c2, qs, cs', qq, ⟨h1, h2⟩, ⟨h4, h5⟩, h3⟩ => ⟨A, c, ps, A2, c2, qs, cs', qq, ⟨RC.keep h h1, fun h0 => by
      obtain ⟨b, off, e1, e2, e3⟩ := h2 h0
      exact ⟨b, off, e1, (h b e2).1, e3.keep (h b e2).2⟩⟩, ⟨RC.keep h h4, fun h0 => by
      obtain ⟨b, off, e1, e2, e3⟩ := h5 h0
      exact ⟨b, off, e1, (h b e2).1, e3.keep (h b e2).2⟩⟩, RC.keep h h3⟩
theorem TV.keep {w w' : World} {D D' : Nat → Prop} (h : ∀ b, D b → D' b ∧ w'.heap[b]? = w.heap[b]?) {t : PS} {v : Value} : TV w D t v → TV w' D' t v
  | ⟨A, c, ps, e, h1, h2⟩ => ⟨A, c, ps, e, RC.keep h h1, fun h0 => by
      obtain ⟨b, off, e1, e2, e3⟩ := h2 h0
      exact ⟨b, off, e1, (h b e2).1, e3.keep (h b e2).2⟩⟩
theorem RC.len {w : World} {D : Nat → Prop} : ∀ {t : PS} {cs : List Value}, RC w D t cs → cs.length = pl t * 10
  | .nil, cs, hr => by rw [show cs = [] from hr]; rfl
  | .one l t, cs, ⟨cs', e, hr⟩ => by
    have := RC.len hr
    rw [e, pl]; simp; omega
  | .rep l e p t, cs, ⟨A, c, ps, cs', q, h1, h2, h3⟩ => by
    have := RC.len h3
    rw [q, pl]; simp; omega
  | .iff l m e p q t, cs, ⟨A, c, ps, A2, c2, qs, cs', qq, ⟨h1, h2⟩, ⟨h4, h5⟩, h3⟩ => by
    have := RC.len h3
    rw [qq, pl]; simp; omega
theorem RC.app {w : World} {D : Nat → Prop} {b : PS} {ys : List Value} (hb : RC w D b ys) : ∀ {a : PS} {xs : List Value}, RC w D a xs → RC w D (app a b) (xs ++ ys)
  | .nil, xs, hr => by rw [show xs = [] from hr]; exact hb
  | .one l t, xs, ⟨cs', e, hr⟩ => ⟨cs' ++ ys, by rw [e]; simp, RC.app hb hr⟩
  | .rep l e p t, xs, ⟨A, c, ps, cs', q, h1, h2, h3⟩ => ⟨A, c, ps, cs' ++ ys, by rw [q]; simp, h1, h2, RC.app hb h3⟩
  | .iff l m e p q t, xs, ⟨A, c, ps, A2, c2, qs, cs', qq, h1, h2, h3⟩ => ⟨A, c, ps, A2, c2, qs, cs' ++ ys, by rw [qq]; simp, h1, h2, RC.app hb h3⟩
structure Oth (p : Nat) (w w' : World) : Prop where
  os : w'.os = w.os
  tape : w'.tape = w.tape
  output : w'.output = w.output
  size : w.heap.size ≤ w'.heap.size
  block : ∀ k, k < w.heap.size → k ≠ p → w'.heap[k]? = w.heap[k]?
section
variable {p : Nat} {a w w' : World}
theorem Oth.refl (p : Nat) (w : World) : Oth p w w := ⟨rfl, rfl, rfl, Nat.le_refl _, fun _ _ _ => rfl⟩
theorem Oth.trans (h : Oth p a w) (k : Oth p w w') : Oth p a w' := ⟨k.os.trans h.os, k.tape.trans h.tape, k.output.trans h.output, Nat.le_trans h.size k.size, fun i hi hp => (k.block i (Nat.lt_of_lt_of_le hi h.size) hp).trans (h.block i hi hp)⟩
theorem Oth.setCell (h : Oth p a w) {q : Addr} (hq : q.block = p) (u : Value) : Oth p a (w.setCell q u) :=
  ⟨h.os, h.tape, h.output, Nat.le_trans h.size (by simp [World.setCell]), fun k hk hp => (Below.heap_setCell w q u k (by rw [hq]; exact hp)).trans (h.block k hk hp)⟩
theorem Oth.setNew (h : Oth p a w) {q : Addr} (hq : a.heap.size ≤ q.block) (u : Value) : Oth p a (w.setCell q u) :=
  ⟨h.os, h.tape, h.output, Nat.le_trans h.size (by simp [World.setCell]), fun k hk hp => (Below.heap_setCell w q u k (by omega)).trans (h.block k hk hp)⟩
theorem Oth.alloc (h : Oth p a w) (o : Obj) : Oth p a (w.alloc o) :=
  ⟨h.os, h.tape, h.output, Nat.le_trans h.size (by simp), fun k hk hp => (Below.heap_alloc w o k (Nat.lt_of_lt_of_le hk h.size)).trans (h.block k hk hp)⟩
theorem Oth.drew (h : Oth p a w) : Oth p a w.drew := ⟨h.os, h.tape, h.output, h.size, h.block⟩
theorem Oth.grown (h : Oth p a w) {row : Option Nat} (hg : w.grownBy w' row) (hr : ∀ r, row = some r → a.heap.size ≤ r) : Oth p a w' :=
  ⟨hg.os.trans h.os, hg.tape.trans h.tape, hg.output.trans h.output, Nat.le_trans h.size hg.size, fun k hk hp => (hg.block k (Nat.lt_of_lt_of_le hk h.size) (fun e => by have := hr k e.symm; omega)).trans (h.block k hk hp)⟩
theorem Bk.oth {g : Nat} {cs : Array Value} (h : Bk w g cs) (hb : Oth p w w') (hg : g ≠ p) : Bk w' g cs := h.keep hb.size (hb.block g h.lt hg)
theorem Oth.below {B : Nat} (h : Oth p w w') (hB : B ≤ w.heap.size) (hp : B ≤ p) : Below B w w' := ⟨h.os, h.tape, h.output, h.size, fun k hk => h.block k (by omega) (by omega)⟩
end
def LnC (w : World) (lb : Nat) (Ls : List Gt) : Prop := ∀ j, j < Ls.length → w.cell? ⟨lb, j * 4, none⟩ = some (.int .i64 (Ls.getD j gz).k) ∧ w.cell? ⟨lb, j * 4 + 1, none⟩ = some (.int .i64 (Ls.getD j gz).a) ∧ w.cell? ⟨lb, j * 4 + 2, none⟩ = some (.int .i64 (Ls.getD j gz).b) ∧ w.cell? ⟨lb, j * 4 + 3, none⟩ = some (.int .i64 (Ls.getD j gz).c)
theorem LnC.keep {w w' : World} {lb : Nat} {Ls : List Gt} (h : LnC w lb Ls) (hk : w'.heap[lb]? = w.heap[lb]?) : LnC w' lb Ls := fun j hj => by
  obtain ⟨h1, h2, h3, h4⟩ := h j hj
  exact ⟨(World.cell?_of_block (a := ⟨lb, j * 4, none⟩) hk).trans h1, (World.cell?_of_block (a := ⟨lb, j * 4 + 1, none⟩) hk).trans h2, (World.cell?_of_block (a := ⟨lb, j * 4 + 2, none⟩) hk).trans h3, (World.cell?_of_block (a := ⟨lb, j * 4 + 3, none⟩) hk).trans h4⟩
theorem drop_g {l : List Gt} {k : Nat} (h : k < l.length) : l.drop k = l.getD k gz :: l.drop (k + 1) := by
  rw [List.drop_eq_getElem_cons h]
  simp [List.getD_eq_getElem?_getD, h]
structure Pts (w : World) (B : Nat) (e : TypeId) (t : PS) (v : Value) (cs : List Value) : Prop where
  own : w.ownsRow B e 10 v (pl t) cs
  rc : RC w (fun b => B ≤ b ∧ b < w.heap.size ∧ v.ownBlock ≠ some b) t cs
theorem own_lt {w : World} {B : Nat} {e : TypeId} {n sz : Nat} {v : Value} {xs : List Value} (h : w.ownsRow B e sz v n xs) {g : Nat} (hg : v.ownBlock = some g) : B ≤ g ∧ g < w.heap.size := by
  rcases h.2 with ⟨rfl, _⟩ | ⟨g', cap, cur, rfl, h1, h2, _⟩
  · cases hg
  · cases hg; exact ⟨h1, (Array.getElem?_eq_some_iff.1 h2).1⟩
theorem own_keep {w w' : World} {B : Nat} {e : TypeId} {n sz : Nat} {v : Value} {xs : List Value} (h : w.ownsRow B e sz v n xs) (hk : ∀ g, v.ownBlock = some g → w'.heap[g]? = w.heap[g]?) : w'.ownsRow B e sz v n xs := by
  refine ⟨h.1, ?_⟩
  rcases h.2 with h2 | ⟨g, cap, cur, rfl, hg, hh, r⟩
  · exact .inl h2
  · exact .inr ⟨g, cap, cur, rfl, hg, (hk g rfl).trans hh, r⟩
theorem Pts.oth {p : Nat} {w w' : World} {B : Nat} {e : TypeId} {t : PS} {v : Value} {cs : List Value} (h : Pts w B e t v cs) (ho : Oth p w w') (hp : p < B) : Pts w' B e t v cs :=
  ⟨own_keep h.own fun g hg => by
    obtain ⟨h1, h2⟩ := own_lt h.own hg
    exact ho.block g h2 (by omega), h.rc.keep fun b hb => ⟨⟨hb.1, Nat.lt_of_lt_of_le hb.2.1 ho.size, hb.2.2⟩, ho.block b hb.2.1 (by omega)⟩⟩
theorem Pts.nil (w : World) (e : TypeId) {B : Nat} (hB : B ≤ w.heap.size) : Pts (w.alloc (.cells #[] e)) B e .nil (.slice (some ⟨w.heap.size, 0, none⟩) 0 0) [] :=
  ⟨by exact World.ownsRow_made w #[] 0 hB (Nat.zero_le _) (by simp), rfl⟩
theorem Pts.snoc {w w0 w' : World} {B : Nat} {e : TypeId} {t u : PS} {v v' : Value} {cs us : List Value} (h : Pts w B e t v cs) (hu : RC w0 (fun b => w.heap.size ≤ b ∧ b < w0.heap.size) u us)
    (hk : ∀ k, B ≤ k → k < w.heap.size → w0.heap[k]? = w.heap[k]?) (hs : w.heap.size ≤ w0.heap.size) (hB : B ≤ w.heap.size)
    (hown : w'.ownsRow B e 10 v' (pl (app t u)) (cs ++ us)) (hg : w0.grownBy w' v.ownBlock) (hat : v'.ownBlock = v.ownBlock ∨ v'.ownBlock = some w0.heap.size) : Pts w' B e (app t u) v' (cs ++ us) := by
  have key : ∀ b, v'.ownBlock = some b → v.ownBlock = some b ∨ b = w0.heap.size := fun b hb => by
    rcases hat with hat | hat
    · exact .inl (hat ▸ hb)
    · rw [hat] at hb; cases hb; exact .inr rfl
  have hgs := hg.size
  refine ⟨hown, RC.app (hu.keep fun b hb => ?_) (h.rc.keep fun b hb => ?_)⟩
  · have hvb : v.ownBlock ≠ some b := fun hv => by have := own_lt h.own hv; omega
    refine ⟨⟨by omega, by omega, fun hv => ?_⟩, hg.block b hb.2 (fun e => hvb e.symm)⟩
    rcases key b hv with h1 | h1
    · exact hvb h1
    · omega
  · refine ⟨⟨hb.1, by omega, fun hv => ?_⟩, (hg.block b (by omega) (fun e => hb.2.2 e.symm)).trans (hk b hb.1 hb.2.1)⟩
    rcases key b hv with h1 | h1
    · exact hb.2.2 h1
    · omega
theorem Pts.tv {w : World} {B : Nat} {e : TypeId} {t : PS} {v : Value} {cs : List Value} (h : Pts w B e t v cs) : TV w (fun b => B ≤ b ∧ b < w.heap.size) t v := by
  obtain ⟨h1, h2⟩ := h
  have h2' := h2.keep (D' := fun b => B ≤ b ∧ b < w.heap.size) (w' := w) fun b hb => ⟨⟨hb.1, hb.2.1⟩, rfl⟩
  rcases h1.2 with ⟨rfl, h0⟩ | ⟨g, cap, cur, rfl, q1, q2, q3, q4, q5, q6⟩
  · exact ⟨none, 0, cs, by rw [h0], h2', fun hp => by omega⟩
  · refine ⟨some ⟨g, 0, none⟩, cap, cs, rfl, h2', fun _ => ⟨g, 0, rfl, ⟨q1, (Array.getElem?_eq_some_iff.1 q2).1⟩, fun j x hj => ?_⟩⟩
    rw [Nat.zero_add, cell_of_row w g j cur e (0, 0) q2]
    rw [← q6, List.getElem?_take] at hj
    split at hj
    · rw [← hj]; simp
    · cases hj
def elt : PS → Nat → PS
  | .nil, _ => .nil
  | .one l t, 0 => .one l .nil
  | .one l t, i + 1 => elt t i
  | .rep l e p t, 0 => .rep l e p .nil
  | .rep l e p t, i + 1 => elt t i
  | .iff l m e p q t, 0 => .iff l m e p q .nil
  | .iff l m e p q t, i + 1 => elt t i
def sfx : PS → Nat → PS
  | t, 0 => t
  | .nil, _ + 1 => .nil
  | .one l t, i + 1 => sfx t i
  | .rep l e p t, i + 1 => sfx t i
  | .iff l m e p q t, i + 1 => sfx t i
theorem sfx_zero (t : PS) : sfx t 0 = t := by cases t <;> rfl
theorem sfx_all : ∀ (t : PS), sfx t (pl t) = .nil
  | .nil => rfl
  | .one l t => sfx_all t
  | .rep l e p t => sfx_all t
  | .iff l m e p q t => sfx_all t
theorem sfx_elt : ∀ (t : PS) (i : Nat), i < pl t → sfx t i = app (elt t i) (sfx t (i + 1))
  | .nil, i, h => by cases h
  | .one l t, 0, h => by show PS.one l t = .one l (app .nil (sfx t 0)); rw [sfx_zero]; rfl
  | .one l t, i + 1, h => sfx_elt t i (by rw [pl] at h; omega)
  | .rep l e p t, 0, h => by show PS.rep l e p t = .rep l e p (app .nil (sfx t 0)); rw [sfx_zero]; rfl
  | .rep l e p t, i + 1, h => sfx_elt t i (by rw [pl] at h; omega)
  | .iff l m e p q t, 0, h => by show PS.iff l m e p q t = .iff l m e p q (app .nil (sfx t 0)); rw [sfx_zero]; rfl
  | .iff l m e p q t, i + 1, h => sfx_elt t i (by rw [pl] at h; omega)
theorem elt_wf : ∀ (t : PS) (i : Nat), wf t → wf (elt t i)
  | .nil, i, h => trivial
  | .one l t, 0, h => ⟨h.1, trivial⟩
  | .one l t, i + 1, h => elt_wf t i h.2
  | .rep l e p t, 0, h => ⟨h.1, h.2.1, trivial⟩
  | .rep l e p t, i + 1, h => elt_wf t i h.2.2
  | .iff l m e p q t, 0, h => ⟨h.1, h.2.1, h.2.2.1, trivial⟩
  | .iff l m e p q t, i + 1, h => elt_wf t i h.2.2.2
theorem elt_sub : ∀ (t : PS) (i : Nat), ∃ a b, fl t = a ++ (fl (elt t i) ++ b)
  | .nil, i => ⟨[], [], rfl⟩
  | .one l t, 0 => ⟨[], fl t, rfl⟩
  | .one l t, i + 1 => by obtain ⟨a, b, h⟩ := elt_sub t i; exact ⟨l :: a, b, by show l :: fl t = _; rw [h]; rfl⟩
  | .rep l e p t, 0 => ⟨[], fl t, by simp [fl, elt]⟩
  | .rep l e p t, i + 1 => by obtain ⟨a, b, h⟩ := elt_sub t i; exact ⟨l :: (fl p ++ e :: a), b, by show l :: (fl p ++ e :: fl t) = _; rw [h]; simp [elt]⟩
  | .iff l m e p q t, 0 => ⟨[], fl t, by simp [fl, elt]⟩
  | .iff l m e p q t, i + 1 => by obtain ⟨a, b, h⟩ := elt_sub t i; exact ⟨l :: (fl p ++ m :: (fl q ++ e :: a)), b, by show l :: (fl p ++ m :: (fl q ++ e :: fl t)) = _; rw [h]; simp [elt]⟩
theorem elt_len (t : PS) (i : Nat) : (fl (elt t i)).length ≤ (fl t).length := by
  obtain ⟨a, b, h⟩ := elt_sub t i
  rw [h]; simp; omega
theorem elt_lk {t : PS} (i : Nat) (h : lkA t) : lkA (elt t i) := by
  obtain ⟨a, b, he⟩ := elt_sub t i
  unfold lkA at *
  rw [he, List.all_append, List.all_append, Bool.and_eq_true, Bool.and_eq_true] at h
  exact h.2.1
theorem elt_rc {w : World} {D : Nat → Prop} : ∀ {t : PS} {cs : List Value} (i : Nat), RC w D t cs → i < pl t → RC w D (elt t i) ((cs.drop (i * 10)).take 10)
  | .nil, cs, i, _, h => by cases h
  | .one l t, cs, 0, ⟨cs', e, hr⟩, h => ⟨[], by rw [e]; simp, rfl⟩
  | .one l t, cs, i + 1, ⟨cs', e, hr⟩, h => by
    have h2 := elt_rc i hr (by rw [pl] at h; omega)
    rw [e, show (i + 1) * 10 = 10 + i * 10 by omega, ← List.drop_drop]
    exact h2
  | .rep l e p t, cs, 0, ⟨A, c, ps, cs', q, h1, h2, h3⟩, h => ⟨A, c, ps, [], by rw [q]; simp, h1, h2, rfl⟩
  | .rep l e p t, cs, i + 1, ⟨A, c, ps, cs', q, h1, h2, h3⟩, h => by
    have h4 := elt_rc i h3 (by rw [pl] at h; omega)
    rw [q, show (i + 1) * 10 = 10 + i * 10 by omega, ← List.drop_drop]
    exact h4
  | .iff l m e p q t, cs, 0, ⟨A, c, ps, A2, c2, qs, cs', qq, h1, h2, h3⟩, h => ⟨A, c, ps, A2, c2, qs, [], by rw [qq]; simp, h1, h2, rfl⟩
  | .iff l m e p q t, cs, i + 1, ⟨A, c, ps, A2, c2, qs, cs', qq, h1, h2, h3⟩, h => by
    have h4 := elt_rc i h3 (by rw [pl] at h; omega)
    rw [qq, show (i + 1) * 10 = 10 + i * 10 by omega, ← List.drop_drop]
    exact h4
theorem elt_cases : ∀ (t : PS) (i : Nat), i < pl t → (∃ l, elt t i = .one l .nil) ∨ (∃ l e p, elt t i = .rep l e p .nil) ∨ (∃ l m e p q, elt t i = .iff l m e p q .nil)
  | .nil, i, h => by cases h
  | .one l t, 0, h => .inl ⟨l, rfl⟩
  | .one l t, i + 1, h => elt_cases t i (by rw [pl] at h; omega)
  | .rep l e p t, 0, h => .inr (.inl ⟨l, e, p, rfl⟩)
  | .rep l e p t, i + 1, h => elt_cases t i (by rw [pl] at h; omega)
  | .iff l m e p q t, 0, h => .inr (.inr ⟨l, m, e, p, q, rfl⟩)
  | .iff l m e p q t, i + 1, h => elt_cases t i (by rw [pl] at h; omega)
def bl (m : Nat) : (k : Nat) → k ≤ m → List (Fin m)
  | 0, _ => []
  | k + 1, h => bl m k (Nat.le_of_succ_le h) ++ [⟨m - 1 - k, by omega⟩]
theorem bl_len (m : Nat) : ∀ (k : Nat) (h : k ≤ m), (bl m k h).length = k
  | 0, _ => rfl
  | k + 1, h => by rw [bl, List.length_append, bl_len m k]; rfl
def bkS (t : PS) {m : Nat} (l : List (Fin m)) : List Gt := (l.map fun x => fl (bk (elt t x.val))).flatten
theorem bkS_snoc (t : PS) {m : Nat} (l : List (Fin m)) (x : Fin m) : bkS t (l ++ [x]) = bkS t l ++ fl (bk (elt t x.val)) := by
  unfold bkS; simp
theorem bkS_bl (t : PS) : ∀ (k : Nat) (h : k ≤ pl t), bkS t (bl (pl t) k h) = fl (bk (sfx t (pl t - k)))
  | 0, h => by rw [Nat.sub_zero, sfx_all]; rfl
  | k + 1, h => by
    rw [bl, bkS_snoc, bkS_bl t k, sfx_elt t (pl t - (k + 1)) (by omega), bk_app, fl_app, show pl t - (k + 1) + 1 = pl t - k by omega]
    show _ ++ fl (bk (elt t (pl t - 1 - k))) = _
    rw [show pl t - 1 - k = pl t - (k + 1) by omega]
theorem bkS_all (t : PS) : bkS t (bl (pl t) (pl t) (Nat.le_refl _)) = fl (bk t) := by
  rw [bkS_bl, Nat.sub_self, sfx_zero]
theorem bkS_len {t : PS} (hw : wf t) (hl : lkA t) {m : Nat} : ∀ (l : List (Fin m)), (bkS t l).length ≤ l.length * (fl t).length
  | [] => Nat.zero_le _
  | x :: l => by
    have h1 := bkS_len hw hl l
    have h2 := (bk_ok (elt_wf t x.val hw) (elt_lk x.val hl)).2.2.1
    have h3 := elt_len t x.val
    have e : bkS t (x :: l) = fl (bk (elt t x.val)) ++ bkS t l := rfl
    rw [e, List.length_append, List.length_cons, Nat.add_mul]
    omega
abbrev cx (cs : List Value) (j o : Nat) : Value := cs.getD (j * 10 + o) undef
theorem cx_of {cs : List Value} {j : Nat} {y0 y1 y2 y3 y4 y5 y6 y7 y8 y9 : Value} (h : (cs.drop (j * 10)).take 10 = [y0, y1, y2, y3, y4, y5, y6, y7, y8, y9]) : cx cs j 0 = y0 ∧ cx cs j 1 = y1 ∧ cx cs j 2 = y2 ∧ cx cs j 3 = y3 ∧ cx cs j 4 = y4 ∧ cx cs j 5 = y5 ∧ cx cs j 6 = y6 ∧ cx cs j 7 = y7 ∧ cx cs j 8 = y8 ∧ cx cs j 9 = y9 := by
  have key : ∀ o, o < 10 → cx cs j o = [y0, y1, y2, y3, y4, y5, y6, y7, y8, y9].getD o undef := fun o ho => by
    show cs.getD (j * 10 + o) undef = _
    rw [← h, List.getD_eq_getElem?_getD, List.getD_eq_getElem?_getD, List.getElem?_take_of_lt ho, List.getElem?_drop]
  exact ⟨key 0 (by omega), key 1 (by omega), key 2 (by omega), key 3 (by omega), key 4 (by omega), key 5 (by omega), key 6 (by omega), key 7 (by omega), key 8 (by omega), key 9 (by omega)⟩
theorem elt_one {w : World} {D : Nat → Prop} {t : PS} {cs : List Value} {i : Nat} {l : Gt} (h : RC w D t cs) (hi : i < pl t) (he : elt t i = .one l .nil) : (cs.drop (i * 10)).take 10 = [.int .i64 l.k, .int .i64 l.a, .int .i64 l.b, .int .i64 l.c, vNil, vNil, .int .i64 0, .int .i64 0, .int .i64 0, .int .i64 0] := by
  have := elt_rc i h hi
  rw [he] at this
  obtain ⟨cs', e, hr⟩ := this
  rw [e, show cs' = [] from hr]; rfl
theorem elt_rep {w : World} {D : Nat → Prop} {t p : PS} {cs : List Value} {i : Nat} {l e : Gt} (h : RC w D t cs) (hi : i < pl t) (he : elt t i = .rep l e p .nil) : ∃ A c, (cs.drop (i * 10)).take 10 = [.int .i64 l.k, .int .i64 l.a, .int .i64 l.b, .int .i64 l.c, .slice A (pl p) c, vNil, .int .i64 e.k, .int .i64 e.a, .int .i64 e.b, .int .i64 e.c] ∧ TV w D p (.slice A (pl p) c) := by
  have := elt_rc i h hi
  rw [he] at this
  obtain ⟨A, c, ps, cs', q, h1, h2, h3⟩ := this
  exact ⟨A, c, by rw [q, show cs' = [] from h3]; rfl, A, c, ps, rfl, h1, h2⟩
theorem elt_iff {w : World} {D : Nat → Prop} {t p q : PS} {cs : List Value} {i : Nat} {l m e : Gt} (h : RC w D t cs) (hi : i < pl t) (he : elt t i = .iff l m e p q .nil) : ∃ A c A2 c2, (cs.drop (i * 10)).take 10 = [.int .i64 l.k, .int .i64 l.a, .int .i64 l.b, .int .i64 l.c, .slice A (pl p) c, .slice A2 (pl q) c2, .int .i64 e.k, .int .i64 e.a, .int .i64 e.b, .int .i64 e.c] ∧ TV w D p (.slice A (pl p) c) ∧ TV w D q (.slice A2 (pl q) c2) := by
  have := elt_rc i h hi
  rw [he] at this
  obtain ⟨A, c, ps, A2, c2, qs, cs', qq, h1, h2, h3⟩ := this
  exact ⟨A, c, A2, c2, by rw [qq, show cs' = [] from h3]; rfl, ⟨A, c, ps, rfl, h1.1, h1.2⟩, ⟨A2, c2, qs, rfl, h2.1, h2.2⟩⟩
theorem cx_shape {w : World} {D : Nat → Prop} {t : PS} {cs : List Value} {i : Nat} (h : RC w D t cs) (hi : i < pl t) : ∃ (l e : Gt) (A1 : Option Addr) (n1 c1 : Nat) (A2 : Option Addr) (n2 c2 : Nat), cx cs i 0 = .int .i64 l.k ∧ cx cs i 1 = .int .i64 l.a ∧ cx cs i 2 = .int .i64 l.b ∧ cx cs i 3 = .int .i64 l.c ∧ cx cs i 4 = .slice A1 n1 c1 ∧ cx cs i 5 = .slice A2 n2 c2 ∧ cx cs i 6 = .int .i64 e.k ∧ cx cs i 7 = .int .i64 e.a ∧ cx cs i 8 = .int .i64 e.b ∧ cx cs i 9 = .int .i64 e.c := by
  rcases elt_cases t i hi with ⟨l, he⟩ | ⟨l, e, p, he⟩ | ⟨l, m, e, p, q, he⟩
  · exact ⟨l, gz, _, _, _, _, _, _, cx_of (elt_one h hi he)⟩
  · obtain ⟨A, c, h1, _⟩ := elt_rep h hi he
    exact ⟨l, e, _, _, _, _, _, _, cx_of h1⟩
  · obtain ⟨A, c, A2, c2, h1, _⟩ := elt_iff h hi he
    exact ⟨l, e, _, _, _, _, _, _, cx_of h1⟩
end Go.Proofs.Ytgjnnlgeggamjaa
namespace Go.Proofs.Ytgjnnlgeggamjaa
set_option linter.unusedVariables false
set_option linter.unusedSimpArgs false
open Go.RowKit Go.Shelf
attribute [local go_sem] Oper.semAt_some
abbrev elv (cs : List Value) (j : Nat) : Value := .agg #[cx cs j 0, cx cs j 1, cx cs j 2, cx cs j 3, cx cs j 4, cx cs j 5, cx cs j 6, cx cs j 7, cx cs j 8, cx cs j 9]
def KD (D : Nat → Prop) (Bs : Nat) (W W' : World) : Prop := (∀ b, D b → W'.heap[b]? = W.heap[b]?) ∧ ∀ v, Boxed W Bs 51 v → Boxed W' Bs 51 v
theorem KD.refl (D : Nat → Prop) (Bs : Nat) (W : World) : KD D Bs W W := ⟨fun _ _ => rfl, fun _ h => h⟩
theorem KD.trans {D : Nat → Prop} {Bs : Nat} {A B C : World} (h : KD D Bs A B) (k : KD D Bs B C) : KD D Bs A C := ⟨fun b hb => (k.1 b hb).trans (h.1 b hb), fun v b => k.2 v (h.2 v b)⟩
set_option maxRecDepth 100000 in
set_option maxHeartbeats 4000000 in
theorem bwb_in (F : Fence) (n : Nat) (h7 : F.fn 72) (hro : F.round = none) (hn : 1 ≤ n) (l Bs b off m cap : Nat) (D : Nat → Prop) (cs : List Value) (hm : m ≤ 1000) (hb : D b) (hlen : cs.length = m * 10) (J Jx : List (Fin m) → World → Prop)
    (hY : ∀ pre x W, J pre W → pre.length < m → YieldAt F (n - 1) Try.prog l #[.int .i64 (x.val : Int), elv cs x.val] W fun e W' =>
      (e = .returned (.bool true) ∧ J (pre ++ [x]) W' ∧ KD D Bs W W') ∨ (e = .returned (.bool false) ∧ Jx (pre ++ [x]) W'))
    (W : World) (hBs : Boxed W Bs 51 (.slice (some ⟨b, off, none⟩) m cap)) (hc : Cells W b off cs) (h0 : J [] W) :
    CallsIn F n Try.prog 72 #[.func (.yield l) #[] #[], .pointer (some ⟨Bs, 0, none⟩)] W fun e W' => (∃ v, e = .returned v) ∧
      ((∃ ys, ys = bl m m (Nat.le_refl _) ∧ J ys W') ∨ (∃ pre, (∃ k, ∃ h : k ≤ m, pre = bl m k h) ∧ Jx pre W')) := by
  refine callsIn_of_wp Try.func72 rfl h7 ?_ hro
  simp only [Try.ntmps72, List.size_toArray, List.length_cons, List.length_nil, Nat.reduceAdd, Nat.reduceSub, Array.replicate_succ, Array.replicate_zero, List.push_toArray, List.append_toArray, List.nil_append, List.cons_append]
  have hBs0 := hBs.cell
  gi_wp2
  gi_loopw [3] (fun i wr => ∃ k : Nat, ∃ hk : k ≤ m, i = .int .i64 ((m : Int) - 1 - k) ∧ J (bl m k hk) wr ∧ KD D Bs W wr)
    (fun i _ => (intOf i + 1).toNat)
  case atStart => exact ⟨0, Nat.zero_le _, by simp, h0, KD.refl _ _ _⟩
  case round =>
    obtain ⟨k, hk, rfl, hJs, hnx⟩ := hrel
    have hBs' := (hnx.2 _ hBs).cell
    by_cases hlt : k < m
    · have hyY := hY _ ⟨m - 1 - k, by omega⟩ wr hJs (by rw [bl_len]; exact hlt)
      obtain ⟨q, hq⟩ : ∃ q : Nat, m - 1 - k = q := ⟨_, rfl⟩
      have hq2 : (m : Int) - 1 - k = (q : Int) := by omega
      have hcw : ∀ o, o < 10 → wr.cell? ⟨b, off + q * 10 + o, none⟩ = some (cx cs q o) := fun o ho => by
        have hj : q * 10 + o < cs.length := by rw [hlen]; omega
        have h2 := hc (q * 10 + o) (cs.getD (q * 10 + o) undef) (by simp [List.getD_eq_getElem?_getD, hj])
        rw [show off + q * 10 + o = off + (q * 10 + o) by omega]
        exact (World.cell?_of_block (a := ⟨b, off + (q * 10 + o), none⟩) (hnx.1 b hb)).trans h2
      obtain ⟨fn, tmps, assign, body, hy, hR⟩ := hyY
      dsimp only at hy
      rw [hq] at hy
      have c0 := hcw 0 (by omega)
      have c1 := hcw 1 (by omega)
      have c2 := hcw 2 (by omega)
      have c3 := hcw 3 (by omega)
      have c4 := hcw 4 (by omega)
      have c5 := hcw 5 (by omega)
      have c6 := hcw 6 (by omega)
      have c7 := hcw 7 (by omega)
      have c8 := hcw 8 (by omega)
      have c9 := hcw 9 (by omega)
      rw [Nat.add_zero] at c0
      unfold elv at hy
      generalize cx cs q 0 = x0 at *
      generalize cx cs q 1 = x1 at *
      generalize cx cs q 2 = x2 at *
      generalize cx cs q 3 = x3 at *
      generalize cx cs q 4 = x4 at *
      generalize cx cs q 5 = x5 at *
      generalize cx cs q 6 = x6 at *
      generalize cx cs q 7 = x7 at *
      generalize cx cs q 8 = x8 at *
      generalize cx cs q 9 = x9 at *
      clear hcw hlen hc
      rw [hq2]
      gi_wp2
      refine hR.mono ?_
      rintro e W3 (⟨rfl, hJ3, hk3⟩ | ⟨rfl, hJx3⟩)
      · gi_wp2
        go_roundw
        case rel => exact ⟨k + 1, hlt, by simp; omega, hJ3, hnx.trans hk3⟩
        case measure => simp [intOf]
      · gi_wp2
        refine bodyPost_ret (results_none rfl _ _ _) rfl ?_
        exact ⟨⟨_, rfl⟩, .inr ⟨_, ⟨k + 1, hlt, rfl⟩, hJx3⟩⟩
    · obtain rfl : k = m := by omega
      rw [show (k : Int) - 1 - k = -1 by omega]
      gi_wp2
      go_end0
      exact ⟨⟨_, rfl⟩, .inl ⟨_, rfl, hJs⟩⟩
set_option maxRecDepth 100000 in
set_option maxHeartbeats 1000000 in
theorem bwb_nil (F : Fence) (n : Nat) (h7 : F.fn 72) (hro : F.round = none) (l Bs cap : Nat) (A : Option Addr) (J : List (Fin 0) → World → Prop) (W : World) (hBs : W.cell? ⟨Bs, 0, none⟩ = some (.slice A 0 cap)) (h0 : J [] W) :
    CallsIn F n Try.prog 72 #[.func (.yield l) #[] #[], .pointer (some ⟨Bs, 0, none⟩)] W fun e W' => (∃ v, e = .returned v) ∧ J [] W' := by
  refine callsIn_of_wp Try.func72 rfl h7 ?_ hro
  simp only [Try.ntmps72, List.size_toArray, List.length_cons, List.length_nil, Nat.reduceAdd, Nat.reduceSub, Array.replicate_succ, Array.replicate_zero, List.push_toArray, List.append_toArray, List.nil_append, List.cons_append]
  gi_wp2
  gi_loopw [3] (fun i wr => i = .int .i64 (-1) ∧ J [] wr) (fun _ _ => 0)
  case atStart => exact ⟨rfl, h0⟩
  case round =>
    obtain ⟨rfl, hJs⟩ := hrel
    gi_wp2
    go_end0
    exact ⟨⟨_, rfl⟩, hJs⟩
set_option maxHeartbeats 1000000 in
theorem bwb_fn (F : Fence) (n : Nat) (h5 : F.fn 59) (hro : F.round = none) (a : Option Addr) (len cap : Nat) (w : World) :
    CallsIn F n Try.prog 59 #[.slice a len cap] w fun e w' => e = .returned (.func (.func 72) #[] #[.pointer (some ⟨w.heap.size, 0, none⟩)]) ∧ w' = w.alloc (.cells #[.slice a len cap] 51) := by
  refine callsIn_of_wp Try.func59 rfl h5 ?_ hro
  simp only [Try.ntmps59, List.size_toArray, List.length_cons, List.length_nil, Nat.reduceAdd, Nat.reduceSub, Array.replicate_succ, Array.replicate_zero, List.push_toArray, List.append_toArray, List.nil_append, List.cons_append]
  gi_wp2
  go_ret
  exact ⟨rfl, rfl⟩
theorem bwb_stops (F : Fence) (n : Nat) (h7 : F.fn 72) (hro : F.round = none) (hn : 1 ≤ n) (Bs : Nat) (D : Nat → Prop) (A : Option Addr) (m cap : Nat) (cs : List Value) (hm : m ≤ 1000) (hlen : cs.length = m * 10) (w : World) (hBs : Boxed w Bs 51 (.slice A m cap)) (hD : ∀ b, D b → b < w.heap.size) (hc : 0 < m → ∃ b off, A = some ⟨b, off, none⟩ ∧ D b ∧ Cells w b off cs) :
    SeqStopsK F n Try.prog 72 #[.pointer (some ⟨Bs, 0, none⟩)] (fun x : Fin m => #[.int .i64 (x.val : Int), elv cs x.val]) (KD D Bs) (fun ys => ys = bl m m (Nat.le_refl _)) (fun pre => ∃ k, ∃ h : k ≤ m, pre = bl m k h) m w := fun l J Jx W hW _ _ hY h0 => by
  have hb : Boxed W Bs _ _ := (hW.block Bs hBs.lt).trans hBs
  rcases Nat.eq_zero_or_pos m with h | h
  · subst h
    exact (bwb_nil F n h7 hro l Bs cap A J W hb.cell h0).mono fun e W' ⟨he, hj⟩ => ⟨he, .inl ⟨_, rfl, hj⟩⟩
  · obtain ⟨b, off, rfl, hDb, hcs⟩ := hc h
    exact bwb_in F n h7 hro hn l Bs b off m cap D cs hm hDb hlen J Jx hY W hb (hcs.keep (hW.block b (hD b hDb))) h0
end Go.Proofs.Ytgjnnlgeggamjaa
