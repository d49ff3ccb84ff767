/- Tab, ZA, PLK, PPA, PPB, PPC, PPD, TRA: laid into one text. -/
import Derived.Test.YtgjnnlgeggamjaaQXDA
import Derived.Test.YtgjnnlgeggamjaaQXDD
import Derived.Test.YtgjnnlgeggamjaaQXDE
import Derived.Test.YtgjnnlgeggamjaaRows

namespace Go.Proofs.Ytgjnnlgeggamjaa
set_option maxRecDepth 10000
theorem allN {α : Type} {Q : α → Prop} : ∀ p ∈ ([] : List α), Q p := fun p hp => by cases hp
theorem allC {α : Type} {Q : α → Prop} {x : α} {l : List α} (h : Q x) (h' : ∀ p ∈ l, Q p) : ∀ p ∈ x :: l, Q p := fun p hp => by
  rcases List.mem_cons.1 hp with rfl | hp
  · exact h
  · exact h' p hp
def T0 : Tab := ⟨[(2, (false, 1)), (3, (false, 1)), (4, (false, 1)), (5, (false, 1)), (9, (false, 1)), (12, (false, 1)), (13, (true, 2)), (19, (true, 1)), (21, (false, 1)), (22, (false, 1)), (24, (false, 1)), (30, (false, 1)), (35, (false, 1)), (46, (true, 4)), (47, (true, 4)), (50, (true, 4)), (51, (false, 1)), (57, (false, 1)), (62, (false, 1)), (65, (true, 4)), (66, (true, 5)), (67, (true, 5)), (75, (false, 1)), (76, (true, 3)), (77, (true, 3)), (80, (false, 1)), (82, (true, 10)), (83, (true, 10)), (85, (true, 2)), (86, (true, 2)), (90, (true, 5)), (91, (true, 5)), (92, (true, 45)), (99, (false, 1)), (107, (false, 1)), (111, (false, 1))],
  [(13000, (0, false, 1)), (13001, (1, false, 1)), (19000, (0, false, 1)), (46000, (0, false, 1)), (46001, (1, false, 1)), (46002, (2, false, 1)), (46003, (3, false, 1)), (47000, (0, false, 1)), (47001, (1, false, 1)), (47002, (2, false, 1)), (47003, (3, false, 1)), (50000, (0, false, 1)), (50001, (1, false, 1)), (50002, (2, false, 1)), (50003, (3, false, 1)), (66000, (0, true, 4)), (66001, (4, false, 1)), (67000, (0, true, 4)), (67001, (4, false, 1)), (76000, (0, false, 1)), (76001, (1, false, 1)), (76002, (2, false, 1)), (77000, (0, false, 1)), (77001, (1, false, 1)), (77002, (2, false, 1)), (82000, (0, true, 4)), (82001, (4, false, 1)), (82002, (5, false, 1)), (82003, (6, true, 4)), (83000, (0, true, 4)), (83001, (4, false, 1)), (83002, (5, false, 1)), (83003, (6, true, 4)), (85000, (0, false, 1)), (85001, (1, false, 1)), (86000, (0, false, 1)), (86001, (1, false, 1)), (90000, (0, false, 1)), (90001, (1, false, 1)), (90002, (2, false, 1)), (90003, (3, false, 1)), (90004, (4, false, 1)), (91000, (0, false, 1)), (91001, (1, false, 1)), (91002, (2, false, 1)), (91003, (3, false, 1)), (91004, (4, false, 1))],
  [(22, (none, 50, true, 4, 32)), (24, (none, 47, true, 4, 32)), (30, (none, 5, false, 1, 1)), (35, (none, 3, false, 1, 8)), (51, (none, 83, true, 10, 112)), (65, (some 4, 3, false, 1, 8)), (92, (some 9, 91, true, 5, 32))],
  [(2, [.int .i64 0]), (3, [.int .i64 0]), (4, [.bool false]), (5, [.int .u8 0]), (9, [.string ByteArray.empty]), (12, [.int .u64 0]), (13, [.string ByteArray.empty, .int .u64 0]), (19, [.pointer none]), (21, [.int .i32 0]), (22, [.slice none 0 0]), (24, [.slice none 0 0]), (30, [.slice none 0 0]), (35, [.slice none 0 0]), (46, [.int .i64 0, .int .i64 0, .int .i64 0, .int .i64 0]), (47, [.int .i64 0, .int .i64 0, .int .i64 0, .int .i64 0]), (50, [.int .i64 0, .int .i64 0, .int .i64 0, .int .i64 0]), (51, [.slice none 0 0]), (57, [.pointer none]), (62, [.pointer none]), (65, [.int .i64 0, .int .i64 0, .int .i64 0, .int .i64 0]), (66, [.int .i64 0, .int .i64 0, .int .i64 0, .int .i64 0, .int .i64 0]), (67, [.int .i64 0, .int .i64 0, .int .i64 0, .int .i64 0, .int .i64 0]), (75, [.pointer none]), (76, [.slice none 0 0, .int .i64 0, .int .i64 0]), (77, [.slice none 0 0, .int .i64 0, .int .i64 0]), (80, [.nilFunc]), (82, [.int .i64 0, .int .i64 0, .int .i64 0, .int .i64 0, .slice none 0 0, .slice none 0 0, .int .i64 0, .int .i64 0, .int .i64 0, .int .i64 0]), (83, [.int .i64 0, .int .i64 0, .int .i64 0, .int .i64 0, .slice none 0 0, .slice none 0 0, .int .i64 0, .int .i64 0, .int .i64 0, .int .i64 0]), (85, [.slice none 0 0, .int .i64 0]), (86, [.slice none 0 0, .int .i64 0]), (90, [.string ByteArray.empty, .bool false, .bool false, .bool false, .int .i64 0]), (91, [.string ByteArray.empty, .bool false, .bool false, .bool false, .int .i64 0]), (92, [.string ByteArray.empty, .bool false, .bool false, .bool false, .int .i64 0, .string ByteArray.empty, .bool false, .bool false, .bool false, .int .i64 0, .string ByteArray.empty, .bool false, .bool false, .bool false, .int .i64 0, .string ByteArray.empty, .bool false, .bool false, .bool false, .int .i64 0, .string ByteArray.empty, .bool false, .bool false, .bool false, .int .i64 0, .string ByteArray.empty, .bool false, .bool false, .bool false, .int .i64 0, .string ByteArray.empty, .bool false, .bool false, .bool false, .int .i64 0, .string ByteArray.empty, .bool false, .bool false, .bool false, .int .i64 0, .string ByteArray.empty, .bool false, .bool false, .bool false, .int .i64 0]), (99, [.pointer none]), (107, [.int .u32 0]), (111, [.pointer none])],
  [(13, ([.string ByteArray.empty, .int .u64 0], some [(0, 1), (1, 1)], 0)), (19, ([.pointer none], some [(0, 1)], 0)), (46, ([.int .i64 0, .int .i64 0, .int .i64 0, .int .i64 0], some [(0, 1), (1, 1), (2, 1), (3, 1)], 0)), (47, ([.int .i64 0, .int .i64 0, .int .i64 0, .int .i64 0], some [(0, 1), (1, 1), (2, 1), (3, 1)], 0)), (50, ([.int .i64 0, .int .i64 0, .int .i64 0, .int .i64 0], some [(0, 1), (1, 1), (2, 1), (3, 1)], 0)), (65, ([.int .i64 0, .int .i64 0, .int .i64 0, .int .i64 0], none, 1)), (66, ([.int .i64 0, .int .i64 0, .int .i64 0, .int .i64 0, .int .i64 0], some [(0, 4), (4, 1)], 0)), (67, ([.int .i64 0, .int .i64 0, .int .i64 0, .int .i64 0, .int .i64 0], some [(0, 4), (4, 1)], 0)), (76, ([.slice none 0 0, .int .i64 0, .int .i64 0], some [(0, 1), (1, 1), (2, 1)], 0)), (77, ([.slice none 0 0, .int .i64 0, .int .i64 0], some [(0, 1), (1, 1), (2, 1)], 0)), (82, ([.int .i64 0, .int .i64 0, .int .i64 0, .int .i64 0, .slice none 0 0, .slice none 0 0, .int .i64 0, .int .i64 0, .int .i64 0, .int .i64 0], some [(0, 4), (4, 1), (5, 1), (6, 4)], 0)), (83, ([.int .i64 0, .int .i64 0, .int .i64 0, .int .i64 0, .slice none 0 0, .slice none 0 0, .int .i64 0, .int .i64 0, .int .i64 0, .int .i64 0], some [(0, 4), (4, 1), (5, 1), (6, 4)], 0)), (85, ([.slice none 0 0, .int .i64 0], some [(0, 1), (1, 1)], 0)), (86, ([.slice none 0 0, .int .i64 0], some [(0, 1), (1, 1)], 0)), (90, ([.string ByteArray.empty, .bool false, .bool false, .bool false, .int .i64 0], some [(0, 1), (1, 1), (2, 1), (3, 1), (4, 1)], 0)), (91, ([.string ByteArray.empty, .bool false, .bool false, .bool false, .int .i64 0], some [(0, 1), (1, 1), (2, 1), (3, 1), (4, 1)], 0)), (92, ([.string ByteArray.empty, .bool false, .bool false, .bool false, .int .i64 0, .string ByteArray.empty, .bool false, .bool false, .bool false, .int .i64 0, .string ByteArray.empty, .bool false, .bool false, .bool false, .int .i64 0, .string ByteArray.empty, .bool false, .bool false, .bool false, .int .i64 0, .string ByteArray.empty, .bool false, .bool false, .bool false, .int .i64 0, .string ByteArray.empty, .bool false, .bool false, .bool false, .int .i64 0, .string ByteArray.empty, .bool false, .bool false, .bool false, .int .i64 0, .string ByteArray.empty, .bool false, .bool false, .bool false, .int .i64 0, .string ByteArray.empty, .bool false, .bool false, .bool false, .int .i64 0], none, 5))]⟩
theorem T0ok : TabOk Try.prog T0 :=
  ⟨(allC (by kernel_rfl) (allC (by kernel_rfl) (allC (by kernel_rfl) (allC (by kernel_rfl) (allC (by kernel_rfl) (allC (by kernel_rfl) (allC (by kernel_rfl) (allC (by kernel_rfl) (allC (by kernel_rfl) (allC (by kernel_rfl) (allC (by kernel_rfl) (allC (by kernel_rfl) (allC (by kernel_rfl) (allC (by kernel_rfl) (allC (by kernel_rfl) (allC (by kernel_rfl) (allC (by kernel_rfl) (allC (by kernel_rfl) (allC (by kernel_rfl) (allC (by kernel_rfl) (allC (by kernel_rfl) (allC (by kernel_rfl) (allC (by kernel_rfl) (allC (by kernel_rfl) (allC (by kernel_rfl) (allC (by kernel_rfl) (allC (by kernel_rfl) (allC (by kernel_rfl) (allC (by kernel_rfl) (allC (by kernel_rfl) (allC (by kernel_rfl) (allC (by kernel_rfl) (allC (by kernel_rfl) (allC (by kernel_rfl) (allC (by kernel_rfl) (allC (by kernel_rfl) allN)))))))))))))))))))))))))))))))))))),
   (allC ⟨by kernel_rfl, by decide⟩ (allC ⟨by kernel_rfl, by decide⟩ (allC ⟨by kernel_rfl, by decide⟩ (allC ⟨by kernel_rfl, by decide⟩ (allC ⟨by kernel_rfl, by decide⟩ (allC ⟨by kernel_rfl, by decide⟩ (allC ⟨by kernel_rfl, by decide⟩ (allC ⟨by kernel_rfl, by decide⟩ (allC ⟨by kernel_rfl, by decide⟩ (allC ⟨by kernel_rfl, by decide⟩ (allC ⟨by kernel_rfl, by decide⟩ (allC ⟨by kernel_rfl, by decide⟩ (allC ⟨by kernel_rfl, by decide⟩ (allC ⟨by kernel_rfl, by decide⟩ (allC ⟨by kernel_rfl, by decide⟩ (allC ⟨by kernel_rfl, by decide⟩ (allC ⟨by kernel_rfl, by decide⟩ (allC ⟨by kernel_rfl, by decide⟩ (allC ⟨by kernel_rfl, by decide⟩ (allC ⟨by kernel_rfl, by decide⟩ (allC ⟨by kernel_rfl, by decide⟩ (allC ⟨by kernel_rfl, by decide⟩ (allC ⟨by kernel_rfl, by decide⟩ (allC ⟨by kernel_rfl, by decide⟩ (allC ⟨by kernel_rfl, by decide⟩ (allC ⟨by kernel_rfl, by decide⟩ (allC ⟨by kernel_rfl, by decide⟩ (allC ⟨by kernel_rfl, by decide⟩ (allC ⟨by kernel_rfl, by decide⟩ (allC ⟨by kernel_rfl, by decide⟩ (allC ⟨by kernel_rfl, by decide⟩ (allC ⟨by kernel_rfl, by decide⟩ (allC ⟨by kernel_rfl, by decide⟩ (allC ⟨by kernel_rfl, by decide⟩ (allC ⟨by kernel_rfl, by decide⟩ (allC ⟨by kernel_rfl, by decide⟩ (allC ⟨by kernel_rfl, by decide⟩ (allC ⟨by kernel_rfl, by decide⟩ (allC ⟨by kernel_rfl, by decide⟩ (allC ⟨by kernel_rfl, by decide⟩ (allC ⟨by kernel_rfl, by decide⟩ (allC ⟨by kernel_rfl, by decide⟩ (allC ⟨by kernel_rfl, by decide⟩ (allC ⟨by kernel_rfl, by decide⟩ (allC ⟨by kernel_rfl, by decide⟩ (allC ⟨by kernel_rfl, by decide⟩ (allC ⟨by kernel_rfl, by decide⟩ allN))))))))))))))))))))))))))))))))))))))))))))))),
   (allC ⟨by kernel_rfl, by decide⟩ (allC ⟨by kernel_rfl, by decide⟩ (allC ⟨by kernel_rfl, by decide⟩ (allC ⟨by kernel_rfl, by decide⟩ (allC ⟨by kernel_rfl, by decide⟩ (allC ⟨by kernel_rfl, by decide⟩ (allC ⟨by kernel_rfl, by decide⟩ allN))))))),
   (allC ⟨by kernel_rfl, rfl⟩ (allC ⟨by kernel_rfl, rfl⟩ (allC ⟨by kernel_rfl, rfl⟩ (allC ⟨by kernel_rfl, rfl⟩ (allC ⟨by kernel_rfl, rfl⟩ (allC ⟨by kernel_rfl, rfl⟩ (allC ⟨by kernel_rfl, rfl⟩ (allC ⟨by kernel_rfl, rfl⟩ (allC ⟨by kernel_rfl, rfl⟩ (allC ⟨by kernel_rfl, rfl⟩ (allC ⟨by kernel_rfl, rfl⟩ (allC ⟨by kernel_rfl, rfl⟩ (allC ⟨by kernel_rfl, rfl⟩ (allC ⟨by kernel_rfl, rfl⟩ (allC ⟨by kernel_rfl, rfl⟩ (allC ⟨by kernel_rfl, rfl⟩ (allC ⟨by kernel_rfl, rfl⟩ (allC ⟨by kernel_rfl, rfl⟩ (allC ⟨by kernel_rfl, rfl⟩ (allC ⟨by kernel_rfl, rfl⟩ (allC ⟨by kernel_rfl, rfl⟩ (allC ⟨by kernel_rfl, rfl⟩ (allC ⟨by kernel_rfl, rfl⟩ (allC ⟨by kernel_rfl, rfl⟩ (allC ⟨by kernel_rfl, rfl⟩ (allC ⟨by kernel_rfl, rfl⟩ (allC ⟨by kernel_rfl, rfl⟩ (allC ⟨by kernel_rfl, rfl⟩ (allC ⟨by kernel_rfl, rfl⟩ (allC ⟨by kernel_rfl, rfl⟩ (allC ⟨by kernel_rfl, rfl⟩ (allC ⟨by kernel_rfl, rfl⟩ (allC ⟨by kernel_rfl, rfl⟩ (allC ⟨by kernel_rfl, rfl⟩ (allC ⟨by kernel_rfl, rfl⟩ (allC ⟨by kernel_rfl, rfl⟩ allN)))))))))))))))))))))))))))))))))))),
   (allC ⟨by kernel_rfl, rfl⟩ (allC ⟨by kernel_rfl, rfl⟩ (allC ⟨by kernel_rfl, rfl⟩ (allC ⟨by kernel_rfl, rfl⟩ (allC ⟨by kernel_rfl, rfl⟩ (allC ⟨by kernel_rfl, rfl⟩ (allC ⟨by kernel_rfl, rfl⟩ (allC ⟨by kernel_rfl, rfl⟩ (allC ⟨by kernel_rfl, rfl⟩ (allC ⟨by kernel_rfl, rfl⟩ (allC ⟨by kernel_rfl, rfl⟩ (allC ⟨by kernel_rfl, rfl⟩ (allC ⟨by kernel_rfl, rfl⟩ (allC ⟨by kernel_rfl, rfl⟩ (allC ⟨by kernel_rfl, rfl⟩ (allC ⟨by kernel_rfl, rfl⟩ (allC ⟨by kernel_rfl, rfl⟩ allN)))))))))))))))))⟩
theorem mixed : Try.prog.follows .mixedOrders = true := by kernel_rfl
end Go.Proofs.Ytgjnnlgeggamjaa
namespace Go.Proofs.Ytgjnnlgeggamjaa
set_option linter.unusedVariables false
set_option linter.unusedSimpArgs false
set_option maxRecDepth 20000
open Go.RowKit
attribute [local irreducible] runA runX AW
theorem kM {f : FuncId} {fn : Func} {aa : List AV} {es : List Ent} {out : AV} {news es' : List Ent} (hf : Try.prog.funcs[f]? = some fn) (hs : fn.body.isSome = true)
    (h : (∀ a ∈ aa, a.fit) → (∀ e ∈ es, e.fit) → AW Try.prog fn.ntmps (fn.body.get hs) (retK T0 fn.results out news es') ⟨argsE aa, Gin es⟩) (hn : (fn.name == "runtime.NumGoroutine") = false := by rfl) (hl : Nat.ble aa.length fn.ntmps = true := by rfl) (hes : es'.length = es.length := by rfl) : Kon Try.prog f aa es out news es' :=
  kon_mk T0ok hf (Option.some_get hs).symm hn hl hes h
theorem nxA {H G : Prop} (k : H) (h : Hid H → G := by (intro hh; (first | refine r_none ?_ | refine r_gt (by rfl) (by rfl) zDD (by rfl) ?_ | refine r_gf (by rfl) (by rfl) zDD (by rfl) ?_); exact hh.out)) : G := h ⟨k⟩
theorem swA {H G : Prop} (k : H) (h : Hid H → G := by (intro hh; (first | refine r_nt (by rfl) (by rfl) zDD (by rfl) ?_ | refine r_nf (by rfl) (by rfl) zDD (by rfl) ?_ | refine r_gu (by rfl) (by rfl) (by rfl) ?_ | refine r_nil ?_); exact hh.out)) : G := h ⟨k⟩
theorem awA {H G : Prop} (k : H) (h : Hid H → G := by (intro hh; (first | refine aw_seq ?_ | refine aw_ct (by rfl) zDD ?_ | refine aw_cf (by rfl) zDD ?_ | refine aw_block ?_ | refine aw_region T0ok cfU_ok (by rfl) ?_ | refine aw_skip ?_ | refine aw_exit ?_ | refine ra_step ?_); exact hh.out)) : G := h ⟨k⟩
theorem ga0A {H G : Prop} (k : H) (h : Hid H → G := by (intro hh; (first | refine r_none ?_ | refine r_gt (by rfl) (by rfl) zDD (by rfl) ?_ | refine r_gf (by rfl) (by rfl) zDD (by rfl) ?_); refine z_op (by rfl) ?_; refine z_alV ?_ hh.out; focus (first | exact trivial | fail | exact zQZ))) : G := h ⟨k⟩
theorem ga1A {H G : Prop} (k : H) (h : Hid H → G := by (intro hh; (first | refine r_none ?_ | refine r_gt (by rfl) (by rfl) zDD (by rfl) ?_ | refine r_gf (by rfl) (by rfl) zDD (by rfl) ?_); refine z_op (by rfl) ?_; refine z_al ?_ hh.out; focus (first | exact trivial | fail | exact zQZ))) : G := h ⟨k⟩
theorem gdA {H G : Prop} (k : H) (h : Hid H → G := by (intro hh; (refine aw_draw mixed T0ok cfU_ok [] (by rfl) (by kernel_rfl) ?_); exact hh.out)) : G := h ⟨k⟩
theorem rtA {H G : Prop} (k : H) (h : Hid H → G := by (intro hh; (try refine aw_ret ?_); refine ret_auto2 (by rfl) (by rfl) (by rfl) zHQ hh.out zHN zHN)) : G := h ⟨k⟩
theorem gq_ZA {H G : Prop} (k : H) (h : Hid H → G := by (intro hh; repeat1' (first | (first | (refine nxA ?_; (first | fail | ((first | (refine z_op (by rfl) ?_; first | refine z_ok ?_ ?_ | refine z_ex ?_ (by first | exact zL1 | ((first | refine mk_0 Int rfl rfl ?_ | refine mk_c Int rfl rfl rfl ?_ | refine mk_c Bool rfl rfl rfl ?_); exact zWW) | exact zL2 | exact rw_c Int rfl | exact rw_c Bool rfl | exact zL3 | fail) ?_) | ((first | refine q_callE wsT wsZ (by rfl) ?_ | refine q_callVE wsT (by rfl) (by rfl) ?_); refine ⟨_, _, _, (by first | exact k_within _ _ _ | exact k_l1In _ _ _ | exact k_okL _ | exact k_wv _ _ | assumption), _, by rfl, ?_, ?_⟩)); focus (first | exact trivial | fail | exact zQZ)) | fail)) | refine swA ?_) | refine awA ?_); exact hh.out)) : G := h ⟨k⟩
def wsT : WsT := [
  (63, ([0], true)),
  (62, ([0], true)),
  (41, ([], true)),
  (999999, ([], false))]
def wsZ : List (Nat × Nat) := [
  (999999, 0)]
def btw (n a b : Int) : Bool := decide (n ≥ a) && decide (n ≤ b)
theorem btw_t {n a b : Int} (h : btw n a b = true) : a ≤ n ∧ n ≤ b := by simpa [btw] using h
theorem k_within (n a b : Int) : Kon Try.prog 52 [vI n, vI a, vI b] [] (vB (btw n a b)) [] [] := by
  (refine kM Try.func52 rfl ?_; intro hfit hfe)
  unfold btw
  cases h1 : decide (n ≥ a)
  all_goals ((repeat (first | refine gq_ZA ?_ | (refine ga1A ?_; intro _q ⟨_he, _hq⟩))); (refine rtA ?_; try rfl))
theorem k_l1In (n a b : Int) : Kon Try.prog 64 [vI n, vI a, vI b] [] (vB (btw n a b)) [] [] := by
  (refine kM Try.func64 rfl ?_; intro hfit hfe)
  unfold btw
  cases h1 : decide (n ≥ a)
  all_goals ((repeat (first | refine gq_ZA ?_ | (refine ga1A ?_; intro _q ⟨_he, _hq⟩))); (refine rtA ?_; try rfl))
theorem k_okL (n : Int) : Kon Try.prog 65 [vI n] [] (vB (btw n 1 8)) [] [] := by
  (refine kM Try.func65 rfl ?_; intro hfit hfe)
  (repeat (first | refine gq_ZA ?_ | (refine ga1A ?_; intro _q ⟨_he, _hq⟩)))
  (refine rtA ?_; try rfl)
abbrev p0 : AV := .g (.one (.ptr 100000 0 0))
def wvB (n w : Int) : Bool := btw n 1 8 && btw w 0 (2 ^ n.toNat - 1)
theorem k_wv (n w : Int) : Kon Try.prog 44 [vI n, vI w] [] (vB (wvB n w)) [] [] := by
  (refine kM Try.func44 rfl ?_; intro hfit hfe)
  unfold wvB
  cases h1 : btw n 1 8 with
  | false => (repeat (first | refine gq_ZA ?_ | (refine ga1A ?_; intro _q ⟨_he, _hq⟩))); (refine rtA ?_; try rfl)
  | true =>
    have h1' := btw_t h1
    (repeat (first | refine gq_ZA ?_ | (refine ga1A ?_; intro _q ⟨_he, _hq⟩)))
    (subst_vars; (refine rtA ?_; try rfl))
    rw [Int.one_mul]; rfl
end Go.Proofs.Ytgjnnlgeggamjaa
namespace Go.Proofs.Ytgjnnlgeggamjaa
set_option linter.unusedVariables false
set_option linter.unusedSimpArgs false
open Go.RowKit
def lok (k v w n : Int) : Bool :=
  if k = 0 ∨ k = 1 ∨ k = 3 then btw v 0 3 && btw w 0 3 && (v != w) && (n == 0)
  else if k = 2 ∨ k = 6 ∨ k = 8 then btw v 0 3 && (w == 0) && btw n 0 63
  else if k = 4 then (v == 0) && (w == 0) && btw n 0 3
  else if k = 5 ∨ k = 7 then (v == 0) && (w == 0) && (n == 0) else false
theorem lok_out {k v w n : Int} (h : k < 0 ∨ 8 < k) : lok k v w n = false := by
  unfold lok
  rw [if_neg (by omega), if_neg (by omega), if_neg (by omega), if_neg (by omega)]
theorem lok_A {k v w n : Int} (h : k = 0 ∨ k = 1 ∨ k = 3) : lok k v w n = (btw v 0 3 && btw w 0 3 && (v != w) && (n == 0)) := by unfold lok; rw [if_pos h]
theorem lok_B {k v w n : Int} (h : k = 2 ∨ k = 6 ∨ k = 8) : lok k v w n = (btw v 0 3 && (w == 0) && btw n 0 63) := by unfold lok; rw [if_neg (by omega), if_pos h]
theorem lok_C {v w n : Int} : lok 4 v w n = ((v == 0) && (w == 0) && btw n 0 3) := by unfold lok; rw [if_neg (by omega), if_neg (by omega), if_pos rfl]
theorem lok_D {k v w n : Int} (h : k = 5 ∨ k = 7) : lok k v w n = ((v == 0) && (w == 0) && (n == 0)) := by unfold lok; rw [if_neg (by omega), if_neg (by omega), if_neg (by omega), if_pos h]
end Go.Proofs.Ytgjnnlgeggamjaa
namespace Go.Proofs.Ytgjnnlgeggamjaa
set_option linter.unusedVariables false
set_option linter.unusedSimpArgs false
abbrev lkG (g : Gt) : Bool := lok g.k g.a g.b g.c
inductive PS where
  | nil : PS
  | one (l : Gt) (t : PS) : PS
  | rep (l e : Gt) (p t : PS) : PS
  | iff (l m e : Gt) (p q t : PS) : PS
def fl : PS → List Gt
  | .nil => []
  | .one l t => l :: fl t
  | .rep l e p t => l :: (fl p ++ e :: fl t)
  | .iff l m e p q t => l :: (fl p ++ m :: (fl q ++ e :: fl t))
def dp : PS → Nat
  | .nil => 0
  | .one _ t => dp t
  | .rep _ _ p t => max (dp p + 1) (dp t)
  | .iff _ _ _ p q t => max (max (dp p) (dp q) + 1) (dp t)
def wf : PS → Prop
  | .nil => True
  | .one l t => (0 ≤ l.k ∧ l.k ≤ 3) ∧ wf t
  | .rep l e p t => (l.k = 4 ∧ e.k = 5) ∧ wf p ∧ wf t
  | .iff l m e p q t => (l.k = 6 ∧ m.k = 7 ∧ e.k = 8) ∧ wf p ∧ wf q ∧ wf t
def app : PS → PS → PS
  | .nil, b => b
  | .one l t, b => .one l (app t b)
  | .rep l e p t, b => .rep l e p (app t b)
  | .iff l m e p q t, b => .iff l m e p q (app t b)
theorem app_nil : ∀ a, app a .nil = a
  | .nil => rfl
  | .one l t => by rw [app, app_nil t]
  | .rep l e p t => by rw [app, app_nil t]
  | .iff l m e p q t => by rw [app, app_nil t]
theorem app_assoc (b c : PS) : ∀ a, app (app a b) c = app a (app b c)
  | .nil => rfl
  | .one l t => by rw [app, app, app_assoc b c t]; rfl
  | .rep l e p t => by rw [app, app, app_assoc b c t]; rfl
  | .iff l m e p q t => by rw [app, app, app_assoc b c t]; rfl
def op1 (st : List Int) (k : Int) : Option (List Int) :=
  if k = 4 ∨ k = 6 then (if 3 < st.length + 1 then none else some (k :: st))
  else if k = 5 then (if st.head? = some 4 then some st.tail else none)
  else if k = 7 then (if st.head? = some 6 then some (7 :: st.tail) else none)
  else if k = 8 then (if st.head? = some 7 then some st.tail else none)
  else some st
def scan : List Gt → List Int → Option (List Int)
  | [], st => some st
  | l :: p, st => match op1 st l.k with
    | none => none
    | some st' => scan p st'
theorem scan_fl : ∀ (t : PS) (r : List Gt) (st : List Int), wf t → dp t + st.length ≤ 3 → scan (fl t ++ r) st = scan r st
  | .nil, r, st, _, _ => rfl
  | .one l t, r, st, h, hd => by
    have e : op1 st l.k = some st := by
      have := h.1
      unfold op1; rw [if_neg (by omega), if_neg (by omega), if_neg (by omega), if_neg (by omega)]
    rw [fl, List.cons_append, scan, e]
    exact scan_fl t r st h.2 hd
  | .rep l e p t, r, st, h, hd => by
    rw [dp] at hd
    have hk := h.1
    have e1 : op1 st l.k = some (4 :: st) := by
      unfold op1; rw [if_pos (by omega), if_neg (by omega), h.1.1]
    have e2 : op1 (4 :: st) e.k = some st := by
      unfold op1; rw [h.1.2, if_neg (by omega), if_pos rfl]; rfl
    rw [fl, List.cons_append, List.append_assoc, scan, e1]
    show scan (fl p ++ (e :: fl t ++ r)) (4 :: st) = _
    rw [scan_fl p _ (4 :: st) h.2.1 (by rw [List.length_cons]; omega), List.cons_append, scan, e2]
    exact scan_fl t r st h.2.2 (by omega)
  | .iff l m e p q t, r, st, h, hd => by
    rw [dp] at hd
    have hk := h.1
    have e1 : op1 st l.k = some (6 :: st) := by
      unfold op1; rw [if_pos (by omega), if_neg (by omega), h.1.1]
    have e2 : op1 (6 :: st) m.k = some (7 :: st) := by
      unfold op1; rw [h.1.2.1, if_neg (by omega), if_neg (by omega), if_pos rfl]; rfl
    have e3 : op1 (7 :: st) e.k = some st := by
      unfold op1; rw [h.1.2.2, if_neg (by omega), if_neg (by omega), if_neg (by omega), if_pos rfl]; rfl
    rw [fl, List.cons_append, List.append_assoc, scan, e1]
    show scan (fl p ++ (m :: (fl q ++ e :: fl t) ++ r)) (6 :: st) = _
    rw [scan_fl p _ (6 :: st) h.2.1 (by rw [List.length_cons]; omega), List.cons_append, scan, e2]
    show scan (fl q ++ e :: fl t ++ r) (7 :: st) = _
    rw [List.append_assoc, scan_fl q _ (7 :: st) h.2.2.1 (by rw [List.length_cons]; omega), List.cons_append, scan, e3]
    exact scan_fl t r st h.2.2.2 (by omega)
def cl (k e : Int) : Prop := (k = 4 ∧ e = 5) ∨ (k = 6 ∧ e = 7) ∨ (k = 7 ∧ e = 8)
def aft (k : Int) (st : List Int) : List Int := if k = 6 then 7 :: st else st
theorem tree_of : ∀ (n : Nat) (p : List Gt) (st : List Int), p.length ≤ n → (∀ x ∈ p, 0 ≤ x.k ∧ x.k ≤ 8) → st.length ≤ 3 → scan p st = some [] →
    (st = [] → ∃ t, wf t ∧ fl t = p ∧ dp t ≤ 3) ∧
    (∀ k st', st = k :: st' → ∃ t e r, p = fl t ++ e :: r ∧ wf t ∧ dp t + st.length ≤ 3 ∧ cl k e.k ∧ scan r (aft k st') = some []) := by
  intro n
  induction n with
  | zero =>
    intro p st hp _ _ hs
    obtain rfl : p = [] := List.length_eq_zero_iff.1 (by omega)
    have e : some st = some [] := hs
    cases e
    exact ⟨fun _ => ⟨.nil, trivial, rfl, Nat.zero_le _⟩, fun k st' h => by cases h⟩
  | succ n ih =>
    intro p st hp hk hd hs
    rcases p with _ | ⟨l, p⟩
    · have e : some st = some [] := hs
      cases e
      exact ⟨fun _ => ⟨.nil, trivial, rfl, Nat.zero_le _⟩, fun k st' h => by cases h⟩
    have hp' : p.length ≤ n := by rw [List.length_cons] at hp; omega
    have hlk := hk l List.mem_cons_self
    have hk' : ∀ x ∈ p, 0 ≤ x.k ∧ x.k ≤ 8 := fun x hx => hk x (List.mem_cons_of_mem _ hx)
    rw [scan] at hs
    -- what a suffix has
    have sub : ∀ {a b : List Gt} {e : Gt}, p = a ++ e :: b → b.length ≤ n ∧ ∀ x ∈ b, 0 ≤ x.k ∧ x.k ≤ 8 := fun {a b e} h => by
      refine ⟨?_, fun x hx => hk' x (by rw [h]; exact List.mem_append_right _ (List.mem_cons_of_mem _ hx))⟩
      rw [h, List.length_append, List.length_cons] at hp'; omega
    -- a part put ahead of what follows
    have put : ∀ (f : PS → PS) (g : List Gt) (dm : Nat), (∀ t, wf t → wf (f t)) → (∀ t, fl (f t) = g ++ fl t) → (∀ t, dp (f t) = max dm (dp t)) → dm + st.length ≤ 3 → ∀ q : List Gt, l :: p = g ++ q →
        ((st = [] → ∃ t, wf t ∧ fl t = q ∧ dp t ≤ 3) ∧ (∀ k st', st = k :: st' → ∃ t e r, q = fl t ++ e :: r ∧ wf t ∧ dp t + st.length ≤ 3 ∧ cl k e.k ∧ scan r (aft k st') = some [])) →
        ((st = [] → ∃ t, wf t ∧ fl t = l :: p ∧ dp t ≤ 3) ∧ (∀ k st', st = k :: st' → ∃ t e r, l :: p = fl t ++ e :: r ∧ wf t ∧ dp t + st.length ≤ 3 ∧ cl k e.k ∧ scan r (aft k st') = some [])) := by
      intro f g dm hw hf hdp hdm q hq ⟨h1, h2⟩
      refine ⟨fun h => ?_, fun k st' h => ?_⟩
      · obtain ⟨t, t1, t2, t3⟩ := h1 h
        exact ⟨f t, hw t t1, by rw [hf, t2, hq], by rw [hdp]; omega⟩
      · obtain ⟨t, e, r, t1, t2, t3, t4, t5⟩ := h2 k st' h
        exact ⟨f t, e, r, by rw [hf, List.append_assoc, ← t1, hq], hw t t2, by rw [hdp]; omega, t4, t5⟩
    have hcase : l.k = 4 ∨ l.k = 6 ∨ l.k = 5 ∨ l.k = 7 ∨ l.k = 8 ∨ (0 ≤ l.k ∧ l.k ≤ 3) := by omega
    rcases hcase with h4 | h6 | h5 | h7 | h8 | h0
    · have e1 : op1 st l.k = if 3 < st.length + 1 then none else some (4 :: st) := by unfold op1; rw [h4, if_pos (by omega)]
      rw [e1] at hs
      by_cases hlen : 3 < st.length + 1
      · rw [if_pos hlen] at hs; cases hs
      rw [if_neg hlen] at hs
      obtain ⟨_, h2⟩ := ih p (4 :: st) hp' hk' (by rw [List.length_cons]; omega) hs
      obtain ⟨t1, e, r, q1, q2, q3, q4, q5⟩ := h2 4 st rfl
      have he : e.k = 5 := by unfold cl at q4; omega
      have q5' : scan r st = some [] := q5
      obtain ⟨s1, s2⟩ := sub q1
      rw [List.length_cons] at q3
      refine put (fun t => .rep l e t1 t) (l :: (fl t1 ++ [e])) (dp t1 + 1) (fun t ht => ⟨⟨h4, he⟩, q2, ht⟩) (fun t => by simp [fl]) (fun t => rfl) (by omega) r (by rw [q1]; simp) (ih r st s1 s2 hd q5')
    · have e1 : op1 st l.k = if 3 < st.length + 1 then none else some (6 :: st) := by unfold op1; rw [h6, if_pos (by omega)]
      rw [e1] at hs
      by_cases hlen : 3 < st.length + 1
      · rw [if_pos hlen] at hs; cases hs
      rw [if_neg hlen] at hs
      obtain ⟨_, h2⟩ := ih p (6 :: st) hp' hk' (by rw [List.length_cons]; omega) hs
      obtain ⟨t1, m, r1, q1, q2, q3, q4, q5⟩ := h2 6 st rfl
      have hm : m.k = 7 := by unfold cl at q4; omega
      have q5' : scan r1 (7 :: st) = some [] := q5
      obtain ⟨s1, s2⟩ := sub q1
      obtain ⟨_, h3⟩ := ih r1 (7 :: st) s1 s2 (by rw [List.length_cons]; omega) q5'
      obtain ⟨t2, e, r2, u1, u2, u3, u4, u5⟩ := h3 7 st rfl
      have he : e.k = 8 := by unfold cl at u4; omega
      have u5' : scan r2 st = some [] := u5
      rw [List.length_cons] at q3 u3
      have q1' : p = (fl t1 ++ m :: fl t2) ++ e :: r2 := by rw [q1, u1]; simp
      obtain ⟨v1, v2⟩ := sub q1'
      refine put (fun t => .iff l m e t1 t2 t) (l :: (fl t1 ++ m :: (fl t2 ++ [e]))) (max (dp t1) (dp t2) + 1) (fun t ht => ⟨⟨h6, hm, he⟩, q2, u2, ht⟩) (fun t => by simp [fl]) (fun t => rfl) (by omega) r2 (by rw [q1']; simp) (ih r2 st v1 v2 hd u5')
    · have e1 : op1 st l.k = if st.head? = some 4 then some st.tail else none := by unfold op1; rw [h5, if_neg (by omega), if_pos rfl]
      rw [e1] at hs
      by_cases hh : st.head? = some 4
      · rw [if_pos hh] at hs
        refine ⟨fun h => (by rw [h] at hh; cases hh), fun k st' h => ?_⟩
        subst h
        obtain rfl : k = 4 := by cases hh; rfl
        exact ⟨.nil, l, p, rfl, trivial, by rw [dp]; omega, .inl ⟨rfl, h5⟩, hs⟩
      · rw [if_neg hh] at hs; cases hs
    · have e1 : op1 st l.k = if st.head? = some 6 then some (7 :: st.tail) else none := by unfold op1; rw [h7, if_neg (by omega), if_neg (by omega), if_pos rfl]
      rw [e1] at hs
      by_cases hh : st.head? = some 6
      · rw [if_pos hh] at hs
        refine ⟨fun h => (by rw [h] at hh; cases hh), fun k st' h => ?_⟩
        subst h
        obtain rfl : k = 6 := by cases hh; rfl
        exact ⟨.nil, l, p, rfl, trivial, by rw [dp]; omega, .inr (.inl ⟨rfl, h7⟩), hs⟩
      · rw [if_neg hh] at hs; cases hs
    · have e1 : op1 st l.k = if st.head? = some 7 then some st.tail else none := by unfold op1; rw [h8, if_neg (by omega), if_neg (by omega), if_neg (by omega), if_pos rfl]
      rw [e1] at hs
      by_cases hh : st.head? = some 7
      · rw [if_pos hh] at hs
        refine ⟨fun h => (by rw [h] at hh; cases hh), fun k st' h => ?_⟩
        subst h
        obtain rfl : k = 7 := by cases hh; rfl
        exact ⟨.nil, l, p, rfl, trivial, by rw [dp]; omega, .inr (.inr ⟨rfl, h8⟩), hs⟩
      · rw [if_neg hh] at hs; cases hs
    · have e1 : op1 st l.k = some st := by unfold op1; rw [if_neg (by omega), if_neg (by omega), if_neg (by omega), if_neg (by omega)]
      rw [e1] at hs
      exact put (fun t => .one l t) [l] 0 (fun t ht => ⟨h0, ht⟩) (fun t => rfl) (fun t => by rw [dp]; omega) (by omega) p rfl (ih p st hp' hk' hd hs)
def pr : Nat → Nat → Int → List Gt → Option (PS × Gt × List Gt)
  | 0, _, _, _ => none
  | f + 1, d, k, [] => none
  | f + 1, d, k, l :: r =>
    if l.k = k then some (.nil, l, r)
    else if l.k = 5 ∨ l.k = 7 ∨ l.k = 8 then none
    else if l.k = 4 then
      if 3 < d + 1 then none else
      match pr f (d + 1) 5 r with
      | none => none
      | some (p, e, r1) => match pr f d k r1 with
        | none => none
        | some (t, x, r2) => some (.rep l e p t, x, r2)
    else if l.k = 6 then
      if 3 < d + 1 then none else
      match pr f (d + 1) 7 r with
      | none => none
      | some (p, m, r1) => match pr f (d + 1) 8 r1 with
        | none => none
        | some (q, e, r2) => match pr f d k r2 with
          | none => none
          | some (t, x, r3) => some (.iff l m e p q t, x, r3)
    else match pr f d k r with
      | none => none
      | some (t, x, r1) => some (.one l t, x, r1)
def ini (r : List Gt) : Prop := ∀ x ∈ r.dropLast, 0 ≤ x.k ∧ x.k ≤ 8
theorem ini_app {a : List Gt} {e : Gt} {b : List Gt} (h : ini (a ++ e :: b)) : ini b := fun x hx => h x (by
  rcases b with _ | ⟨y, b⟩
  · cases hx
  · rw [List.dropLast_append_of_ne_nil (by simp)]
    exact List.mem_append_right _ (by rw [List.dropLast_cons_cons]; exact List.mem_cons_of_mem _ hx))
theorem pr_some : ∀ (f : Nat) (d : Nat) (k : Int) (r : List Gt) (t : PS) (e : Gt) (r' : List Gt), ini r → d ≤ 3 → pr f d k r = some (t, e, r') → wf t ∧ r = fl t ++ e :: r' ∧ e.k = k ∧ dp t + d ≤ 3
  | 0, d, k, r, t, e, r', _, _, h => by cases h
  | f + 1, d, k, [], t, e, r', _, _, h => by cases h
  | f + 1, d, k, l :: r, t, e, r', hi, hd, h => by
    rw [pr] at h
    have hi1 : ini r := ini_app (a := []) (e := l) (b := r) hi
    split at h
    · rename_i hk; cases h; exact ⟨trivial, rfl, hk, by rw [dp]; omega⟩
    split at h
    · cases h
    split at h
    · rename_i h1 h2 h4
      split at h
      · cases h
      rename_i hlen
      rcases hp : pr f (d + 1) 5 r with _ | ⟨p, x, r1⟩
      · rw [hp] at h; cases h
      obtain ⟨a1, a2, a3, a4⟩ := pr_some f (d + 1) 5 r p x r1 hi1 (by omega) hp
      rw [hp] at h
      dsimp only at h
      have hi2 : ini r1 := ini_app (a := fl p) (e := x) (b := r1) (by rw [← a2]; exact hi1)
      rcases hq : pr f d k r1 with _ | ⟨t2, x2, r2⟩
      · rw [hq] at h; cases h
      obtain ⟨b1, b2, b3, b4⟩ := pr_some f d k r1 t2 x2 r2 hi2 hd hq
      rw [hq] at h
      cases h
      refine ⟨⟨⟨h4, a3⟩, a1, b1⟩, ?_, b3, by rw [dp]; omega⟩
      rw [a2, b2]; simp [fl]
    split at h
    · rename_i h1 h2 h4 h6
      split at h
      · cases h
      rename_i hlen
      rcases hp : pr f (d + 1) 7 r with _ | ⟨p, x, r1⟩
      · rw [hp] at h; cases h
      obtain ⟨a1, a2, a3, a4⟩ := pr_some f (d + 1) 7 r p x r1 hi1 (by omega) hp
      rw [hp] at h
      dsimp only at h
      have hi2 : ini r1 := ini_app (a := fl p) (e := x) (b := r1) (by rw [← a2]; exact hi1)
      rcases hq : pr f (d + 1) 8 r1 with _ | ⟨q, y, r2⟩
      · rw [hq] at h; cases h
      obtain ⟨b1, b2, b3, b4⟩ := pr_some f (d + 1) 8 r1 q y r2 hi2 (by omega) hq
      rw [hq] at h
      dsimp only at h
      have hi3 : ini r2 := ini_app (a := fl q) (e := y) (b := r2) (by rw [← b2]; exact hi2)
      rcases hs : pr f d k r2 with _ | ⟨t3, z, r3⟩
      · rw [hs] at h; cases h
      obtain ⟨c1, c2, c3, c4⟩ := pr_some f d k r2 t3 z r3 hi3 hd hs
      rw [hs] at h
      cases h
      refine ⟨⟨⟨h6, a3, b3⟩, a1, b1, c1⟩, ?_, c3, by rw [dp]; omega⟩
      rw [a2, b2, c2]; simp [fl]
    · rename_i h1 h2 h4 h6
      rcases hq : pr f d k r with _ | ⟨t2, x2, r2⟩
      · rw [hq] at h; cases h
      obtain ⟨b1, b2, b3, b4⟩ := pr_some f d k r t2 x2 r2 hi1 hd hq
      rw [hq] at h
      cases h
      have hlk : 0 ≤ l.k ∧ l.k ≤ 8 := hi l (by
        rcases r with _ | ⟨y, r⟩
        · rcases f with _ | f <;> cases hq
        · rw [List.dropLast_cons_cons]; exact List.mem_cons_self)
      refine ⟨⟨by omega, b1⟩, ?_, b3, by rw [dp]; omega⟩
      rw [b2]; simp [fl]
theorem pr_ok : ∀ (f : Nat) (t : PS) (d : Nat) (k : Int) (e : Gt) (r : List Gt), (fl t).length < f → wf t → dp t + d ≤ 3 → e.k = k → (k = -1 ∨ k = 5 ∨ k = 7 ∨ k = 8) → pr f d k (fl t ++ e :: r) = some (t, e, r)
  | 0, t, _, _, _, _, h, _, _, _, _ => by omega
  | f + 1, .nil, d, k, e, r, h, hw, hd, he, hk => by
    show pr (f + 1) d k (e :: r) = _
    rw [pr, if_pos he]
  | f + 1, .one l t, d, k, e, r, h, hw, hd, he, hk => by
    show pr (f + 1) d k (l :: (fl t ++ e :: r)) = _
    rw [fl, List.length_cons] at h
    rw [dp] at hd
    have := hw.1
    rw [pr, if_neg (by omega), if_neg (by omega), if_neg (by omega), if_neg (by omega), pr_ok f t d k e r (by omega) hw.2 hd he hk]
  | f + 1, .rep l x p t, d, k, e, r, h, hw, hd, he, hk => by
    rw [fl, List.length_cons, List.length_append, List.length_cons] at h
    rw [dp] at hd
    have e1 : fl (.rep l x p t) ++ e :: r = l :: (fl p ++ x :: (fl t ++ e :: r)) := by simp [fl]
    have h4 := hw.1.1
    rw [e1, pr, if_neg (by omega), if_neg (by omega), if_pos h4, if_neg (by omega), pr_ok f p (d + 1) 5 x _ (by omega) hw.2.1 (by omega) hw.1.2 (by omega)]
    dsimp only
    rw [pr_ok f t d k e r (by omega) hw.2.2 (by omega) he hk]
  | f + 1, .iff l m x p q t, d, k, e, r, h, hw, hd, he, hk => by
    rw [fl, List.length_cons, List.length_append, List.length_cons, List.length_append, List.length_cons] at h
    rw [dp] at hd
    have e1 : fl (.iff l m x p q t) ++ e :: r = l :: (fl p ++ m :: (fl q ++ x :: (fl t ++ e :: r))) := by simp [fl]
    have h6 := hw.1.1
    rw [e1, pr, if_neg (by omega), if_neg (by omega), if_neg (by omega), if_pos h6, if_neg (by omega), pr_ok f p (d + 1) 7 m _ (by omega) hw.2.1 (by omega) hw.1.2.1 (by omega)]
    dsimp only
    rw [pr_ok f q (d + 1) 8 x _ (by omega) hw.2.2.1 (by omega) hw.1.2.2 (by omega)]
    dsimp only
    rw [pr_ok f t d k e r (by omega) hw.2.2.2 (by omega) he hk]
abbrev gStop : Gt := ⟨-1, 0, 0, 0⟩
def prs (p : List Gt) : Option PS := if p.length ≤ 16 ∧ p.all lkG = true then (pr 18 0 (-1) (p ++ [gStop])).map (·.1) else none
def pvS (p : List Gt) : Bool := p.all lkG && (scan p [] == some []) && decide (p.length ≤ 16)
theorem lk_kind {g : Gt} (h : lkG g = true) : 0 ≤ g.k ∧ g.k ≤ 8 := by
  refine Decidable.byContradiction fun hn => ?_
  have : lkG g = false := lok_out (by omega)
  rw [this] at h; cases h
theorem lk_all {p : List Gt} (h : p.all lkG = true) : ∀ x ∈ p, 0 ≤ x.k ∧ x.k ≤ 8 := fun x hx => lk_kind (List.all_eq_true.1 h x hx)
theorem prs_t {p : List Gt} {t : PS} (h : prs p = some t) : p.length ≤ 16 ∧ p.all lkG = true ∧ fl t = p ∧ wf t ∧ dp t ≤ 3 ∧ pr 18 0 (-1) (p ++ [gStop]) = some (t, gStop, []) := by
  unfold prs at h
  split at h
  · rename_i hc
    rcases hq : pr 18 0 (-1) (p ++ [gStop]) with _ | ⟨t2, x, r⟩
    · rw [hq] at h; cases h
    rw [hq] at h
    cases h
    have hi : ini (p ++ [gStop]) := fun x hx => by
      rw [List.dropLast_concat] at hx
      exact lk_all hc.2 x hx
    obtain ⟨a1, a2, a3, a4⟩ := pr_some 18 0 (-1) _ t2 x r hi (by omega) hq
    -- the statement that ends it is the last one
    have hx : r = [] ∧ x = gStop ∧ p = fl t2 := by
      rcases List.eq_nil_or_concat r with rfl | ⟨r1, y, rfl⟩
      · have e := List.append_inj' a2 rfl
        cases e.2
        exact ⟨rfl, rfl, e.1⟩
      · rw [List.concat_eq_append, show fl t2 ++ x :: (r1 ++ [y]) = (fl t2 ++ x :: r1) ++ [y] by simp] at a2
        have e := List.append_inj' a2 rfl
        have := lk_all hc.2 x (by rw [e.1]; simp)
        omega
    obtain ⟨rfl, rfl, rfl⟩ := hx
    exact ⟨hc.1, hc.2, rfl, a1, by omega, rfl⟩
  · cases h
theorem prs_of {t : PS} (hw : wf t) (hd : dp t ≤ 3) (hl : (fl t).length ≤ 16) (hk : (fl t).all lkG = true) : prs (fl t) = some t := by
  unfold prs
  rw [if_pos ⟨hl, hk⟩, pr_ok 18 t 0 (-1) gStop [] (by omega) hw (by omega) rfl (.inl rfl)]
  rfl
theorem pvS_prs (p : List Gt) : pvS p = (prs p).isSome := by
  cases h : prs p with
  | some t =>
    obtain ⟨a1, a2, a3, a4, a5, _⟩ := prs_t h
    have := scan_fl t [] [] a4 (by rw [List.length_nil]; omega)
    rw [List.append_nil, a3] at this
    unfold pvS
    rw [a2, this, decide_eq_true a1]; rfl
  | none =>
    cases hv : pvS p with
    | false => rfl
    | true =>
      unfold pvS at hv
      rw [Bool.and_eq_true, Bool.and_eq_true, beq_iff_eq, decide_eq_true_eq] at hv
      obtain ⟨⟨h1, h2⟩, h3⟩ := hv
      obtain ⟨t, t1, t2, t3⟩ := (tree_of p.length p [] (Nat.le_refl _) (lk_all h1) (by simp) h2).1 rfl
      have := prs_of t1 t3 (by rw [t2]; exact h3) (by rw [t2]; exact h1)
      rw [t2, h] at this
      cases this
abbrev RS := List Int × Nat
def rg (r : List Int) (i : Int) : Int := r.getD i.toNat 0
def do1 (l : Gt) (r : List Int) : List Int :=
  if l.k = 0 then r.set l.a.toNat ((rg r l.a + rg r l.b) % 64)
  else if l.k = 1 then r.set l.a.toNat ((rg r l.a + 64 - rg r l.b) % 64)
  else if l.k = 2 then r.set l.a.toNat ((rg r l.a + l.c) % 64)
  else if l.k = 3 then (r.set l.a.toNat (rg r l.b)).set l.b.toNat (rg r l.a)
  else r
def itO {α : Type} (f : α → Option α) : Nat → α → Option α
  | 0, x => some x
  | n + 1, x => (f x).bind (itO f n)
theorem itO_last {α : Type} (f : α → Option α) : ∀ (n : Nat) (x : α), itO f (n + 1) x = (itO f n x).bind f
  | 0, x => by
    show (f x).bind (itO f 0) = f x
    cases f x <;> rfl
  | n + 1, x => by
    rw [itO]
    cases h : f x with
    | none => rw [itO, h]; rfl
    | some y => rw [itO, h]; exact itO_last f n y
def rs : PS → RS → Option RS
  | .nil, x => some x
  | .one l t, x => rs t (do1 l x.1, x.2 + 1)
  | .rep l e p t, x => (itO (rs p) l.c.toNat x).bind (rs t)
  | .iff l m e p q t, x => (if (rg x.1 l.a == l.c) = true then rs p x else rs q x).bind fun y => if ((rg y.1 e.a == e.c) == (rg x.1 l.a == l.c)) = true then none else rs t y
theorem rs_app (b : PS) : ∀ (a : PS) (x : RS), rs (app a b) x = (rs a x).bind (rs b)
  | .nil, x => rfl
  | .one l t, x => by rw [app, rs, rs]; exact rs_app b t _
  | .rep l e p t, x => by
    rw [app, rs, rs]
    cases itO (rs p) l.c.toNat x with
    | none => rfl
    | some y => exact rs_app b t y
  | .iff l m e p q t, x => by
    rw [app, rs, rs]
    cases (if (rg x.1 l.a == l.c) = true then rs p x else rs q x) with
    | none => rfl
    | some y =>
      simp only [Option.bind_some]
      split
      · rfl
      · exact rs_app b t y
def rok (r : List Int) : Prop := r.length = 4 ∧ ∀ i, i < 4 → 0 ≤ r.getD i 0 ∧ r.getD i 0 < 64
def lb (l : Gt) : Gt :=
  if l.k = 0 then ⟨1, l.a, l.b, l.c⟩ else if l.k = 1 then ⟨0, l.a, l.b, l.c⟩ else if l.k = 2 then ⟨2, l.a, l.b, (64 - l.c) % 64⟩
  else if l.k = 6 then ⟨8, l.a, l.b, l.c⟩ else if l.k = 8 then ⟨6, l.a, l.b, l.c⟩ else if l.k = 5 then ⟨4, l.a, l.b, l.c⟩ else if l.k = 4 then ⟨5, 0, 0, 0⟩ else l
theorem lk_cases {l : Gt} (h : lkG l = true) : ((l.k = 0 ∨ l.k = 1 ∨ l.k = 3) ∧ (0 ≤ l.a ∧ l.a ≤ 3) ∧ (0 ≤ l.b ∧ l.b ≤ 3) ∧ l.a ≠ l.b ∧ l.c = 0) ∨ ((l.k = 2 ∨ l.k = 6 ∨ l.k = 8) ∧ (0 ≤ l.a ∧ l.a ≤ 3) ∧ l.b = 0 ∧ (0 ≤ l.c ∧ l.c ≤ 63)) ∨ (l.k = 4 ∧ l.a = 0 ∧ l.b = 0 ∧ (0 ≤ l.c ∧ l.c ≤ 3)) ∨ ((l.k = 5 ∨ l.k = 7) ∧ l.a = 0 ∧ l.b = 0 ∧ l.c = 0) := by
  have hk := lk_kind h
  obtain ⟨k, a, b, c⟩ := l
  have h' : lok k a b c = true := h
  dsimp only at hk ⊢
  have hcase : (k = 0 ∨ k = 1 ∨ k = 3) ∨ (k = 2 ∨ k = 6 ∨ k = 8) ∨ k = 4 ∨ (k = 5 ∨ k = 7) := by omega
  rcases hcase with hc | hc | rfl | hc
  · rw [lok_A hc] at h'
    simp only [Bool.and_eq_true, btw, decide_eq_true_eq, bne_iff_ne, beq_iff_eq] at h'
    exact .inl ⟨hc, h'.1.1.1, h'.1.1.2, h'.1.2, h'.2⟩
  · rw [lok_B hc] at h'
    simp only [Bool.and_eq_true, btw, decide_eq_true_eq, bne_iff_ne, beq_iff_eq] at h'
    exact .inr (.inl ⟨hc, h'.1.1, h'.1.2, h'.2⟩)
  · rw [lok_C] at h'
    simp only [Bool.and_eq_true, btw, decide_eq_true_eq, bne_iff_ne, beq_iff_eq] at h'
    exact .inr (.inr (.inl ⟨rfl, h'.1.1, h'.1.2, h'.2⟩))
  · rw [lok_D hc] at h'
    simp only [Bool.and_eq_true, btw, decide_eq_true_eq, bne_iff_ne, beq_iff_eq] at h'
    exact .inr (.inr (.inr ⟨hc, h'.1.1, h'.1.2, h'.2⟩))
theorem four (i : Int) (h : 0 ≤ i ∧ i ≤ 3) : i = 0 ∨ i = 1 ∨ i = 2 ∨ i = 3 := by omega
theorem do1_back {l : Gt} {r : List Int} (h : lkG l = true) (hk : 0 ≤ l.k ∧ l.k ≤ 3) (hr : rok r) : rok (do1 l r) ∧ do1 (lb l) (do1 l r) = r := by
  obtain ⟨h1, h2⟩ := hr
  obtain ⟨x0, x1, x2, x3, rfl⟩ : ∃ x0 x1 x2 x3, r = [x0, x1, x2, x3] := by
    rcases r with _ | ⟨x0, _ | ⟨x1, _ | ⟨x2, _ | ⟨x3, _ | ⟨x4, r⟩⟩⟩⟩⟩
    · cases h1
    · cases h1
    · cases h1
    · cases h1
    · exact ⟨x0, x1, x2, x3, rfl⟩
    · simp at h1
  have y0 := h2 0 (by omega)
  have y1 := h2 1 (by omega)
  have y2 := h2 2 (by omega)
  have y3 := h2 3 (by omega)
  simp only [List.getD_cons_zero, List.getD_cons_succ] at y0 y1 y2 y3
  clear h1 h2
  have fin : ∀ z0 z1 z2 z3 : Int, (0 ≤ z0 ∧ z0 < 64) → (0 ≤ z1 ∧ z1 < 64) → (0 ≤ z2 ∧ z2 < 64) → (0 ≤ z3 ∧ z3 < 64) → rok [z0, z1, z2, z3] := fun z0 z1 z2 z3 a b c d => ⟨rfl, fun i hi => by
    have : i = 0 ∨ i = 1 ∨ i = 2 ∨ i = 3 := by omega
    rcases this with rfl | rfl | rfl | rfl
    · exact a
    · exact b
    · exact c
    · exact d⟩
  obtain ⟨k, a, b, c⟩ := l
  dsimp only at hk
  rcases lk_cases h with ⟨h1, h2, h3, h4, h5⟩ | ⟨h1, h2, h3, h4⟩ | ⟨h1, _⟩ | ⟨h1, _⟩
  · dsimp only at h1 h2 h3 h4 h5
    subst h5
    rcases four a h2 with rfl | rfl | rfl | rfl <;> rcases four b h3 with rfl | rfl | rfl | rfl <;> first | exact absurd rfl h4 | skip
    all_goals rcases h1 with rfl | rfl | rfl
    all_goals refine ⟨?_, ?_⟩
    all_goals simp only [do1, lb, rg, Int.toNat_zero, Int.toNat_one, show (2 : Int).toNat = 2 from rfl, show (3 : Int).toNat = 3 from rfl, List.set_cons_zero, List.set_cons_succ, List.getD_cons_zero, List.getD_cons_succ, if_true, if_false, reduceIte, Int.reduceEq]
    all_goals first | (refine fin _ _ _ _ ?_ ?_ ?_ ?_ <;> omega) | (simp only [List.cons.injEq, and_true, true_and]; omega) | rfl
  · dsimp only at h1 h2 h3 h4
    subst h3
    obtain rfl : k = 2 := by omega
    rcases four a h2 with rfl | rfl | rfl | rfl
    all_goals refine ⟨?_, ?_⟩
    all_goals simp only [do1, lb, rg, Int.toNat_zero, Int.toNat_one, show (2 : Int).toNat = 2 from rfl, show (3 : Int).toNat = 3 from rfl, List.set_cons_zero, List.set_cons_succ, List.getD_cons_zero, List.getD_cons_succ, if_true, if_false, reduceIte, Int.reduceEq]
    all_goals first | (refine fin _ _ _ _ ?_ ?_ ?_ ?_ <;> omega) | (simp only [List.cons.injEq, and_true, true_and]; omega) | rfl
  · dsimp only at h1; omega
  · dsimp only at h1; omega
def bk : PS → PS
  | .nil => .nil
  | .one l t => app (bk t) (.one (lb l) .nil)
  | .rep l e p t => app (bk t) (.rep l e (bk p) .nil)
  | .iff l m e p q t => app (bk t) (.iff (lb e) m (lb l) (bk q) (bk p) .nil)
def lkA (t : PS) : Prop := (fl t).all lkG = true
theorem lkA_one {l : Gt} {t : PS} (h : lkA (.one l t)) : lkG l = true ∧ lkA t := by
  unfold lkA at *; rw [fl, List.all_cons, Bool.and_eq_true] at h; exact h
theorem lkA_rep {l e : Gt} {p t : PS} (h : lkA (.rep l e p t)) : lkG l = true ∧ lkA p ∧ lkG e = true ∧ lkA t := by
  unfold lkA at *; rw [fl, List.all_cons, List.all_append, List.all_cons, Bool.and_eq_true, Bool.and_eq_true, Bool.and_eq_true] at h; exact h
theorem lkA_iff {l m e : Gt} {p q t : PS} (h : lkA (.iff l m e p q t)) : lkG l = true ∧ lkA p ∧ lkG m = true ∧ lkA q ∧ lkG e = true ∧ lkA t := by
  unfold lkA at *; rw [fl, List.all_cons, List.all_append, List.all_cons, List.all_append, List.all_cons, Bool.and_eq_true, Bool.and_eq_true, Bool.and_eq_true, Bool.and_eq_true, Bool.and_eq_true] at h; exact h
def Bck (f g : RS → Option RS) : Prop := ∀ x y, rok x.1 → f x = some y → rok y.1 ∧ x.2 ≤ y.2 ∧ ∀ n, g (y.1, n) = some (x.1, n + (y.2 - x.2))
theorem bck_it {f g : RS → Option RS} (h : Bck f g) : ∀ N, Bck (itO f N) (itO g N)
  | 0, x, y, hr, e => by
    cases e
    exact ⟨hr, Nat.le_refl _, fun n => by rw [itO, Nat.sub_self, Nat.add_zero]⟩
  | N + 1, x, y, hr, e => by
    rw [itO] at e
    rcases hf : f x with _ | z
    · rw [hf] at e; cases e
    rw [hf] at e
    have e' : itO f N z = some y := e
    obtain ⟨a1, a2, a3⟩ := h x z hr hf
    obtain ⟨b1, b2, b3⟩ := bck_it h N z y a1 e'
    refine ⟨b1, by omega, fun n => ?_⟩
    rw [itO_last, b3 n]
    show g (z.1, n + (y.2 - z.2)) = _
    rw [a3, show n + (y.2 - z.2) + (z.2 - x.2) = n + (y.2 - x.2) by omega]
theorem bck : ∀ {t : PS}, wf t → lkA t → Bck (rs t) (rs (bk t))
  | .nil, _, _, x, y, hr, e => by
    cases e
    exact ⟨hr, Nat.le_refl _, fun n => by rw [bk, rs, Nat.sub_self, Nat.add_zero]⟩
  | .one l t, hw, hl, x, y, hr, e => by
    obtain ⟨l1, l2⟩ := lkA_one hl
    obtain ⟨d1, d2⟩ := do1_back l1 hw.1 hr
    rw [rs] at e
    obtain ⟨a1, a2, a3⟩ := bck hw.2 l2 _ y d1 e
    dsimp only at a2 a3
    refine ⟨a1, by omega, fun n => ?_⟩
    rw [bk, rs_app, a3 n]
    show rs (.one (lb l) .nil) (do1 l x.1, _) = _
    rw [rs, rs]
    dsimp only
    rw [d2, show n + (y.2 - (x.2 + 1)) + 1 = n + (y.2 - x.2) by omega]
  | .rep l e p t, hw, hl, x, y, hr, h => by
    obtain ⟨l1, l2, l3, l4⟩ := lkA_rep hl
    rw [rs] at h
    rcases hf : itO (rs p) l.c.toNat x with _ | z
    · rw [hf] at h; cases h
    rw [hf] at h
    have h' : rs t z = some y := h
    obtain ⟨a1, a2, a3⟩ := bck_it (bck hw.2.1 l2) _ x z hr hf
    obtain ⟨b1, b2, b3⟩ := bck hw.2.2 l4 z y a1 h'
    refine ⟨b1, by omega, fun n => ?_⟩
    rw [bk, rs_app, b3 n]
    show rs (.rep l e (bk p) .nil) (z.1, _) = _
    rw [rs, a3]
    show some _ = _
    rw [show n + (y.2 - z.2) + (z.2 - x.2) = n + (y.2 - x.2) by omega]
  | .iff l m e p q t, hw, hl, x, y, hr, h => by
    obtain ⟨l1, l2, l3, l4, l5, l6⟩ := lkA_iff hl
    have hk := hw.1
    have hle : (lb e).a = e.a ∧ (lb e).c = e.c := by unfold lb; rw [if_neg (by omega), if_neg (by omega), if_neg (by omega), if_neg (by omega), if_pos hk.2.2]; exact ⟨rfl, rfl⟩
    have hll : (lb l).a = l.a ∧ (lb l).c = l.c := by unfold lb; rw [if_neg (by omega), if_neg (by omega), if_neg (by omega), if_pos hk.1]; exact ⟨rfl, rfl⟩
    rw [rs] at h
    cases hf : (rg x.1 l.a == l.c) with
    | true =>
      rw [hf, if_pos rfl] at h
      rcases hp : rs p x with _ | z
      · rw [hp] at h; cases h
      rw [hp] at h
      simp only [Option.bind_some] at h
      cases hc : (rg z.1 e.a == e.c) with
      | true => rw [hc, if_pos (by rfl)] at h; cases h
      | false =>
        rw [hc, if_neg (by decide)] at h
        obtain ⟨a1, a2, a3⟩ := bck hw.2.1 l2 x z hr hp
        obtain ⟨b1, b2, b3⟩ := bck hw.2.2.2 l6 z y a1 h
        refine ⟨b1, by omega, fun n => ?_⟩
        rw [bk, rs_app, b3 n]
        show rs (.iff (lb e) m (lb l) (bk q) (bk p) .nil) (z.1, _) = _
        rw [rs]
        dsimp only
        rw [hle.1, hle.2, hc, if_neg (by decide), a3]
        simp only [Option.bind_some]
        rw [hll.1, hll.2, hf, if_neg (by decide), rs, show n + (y.2 - z.2) + (z.2 - x.2) = n + (y.2 - x.2) by omega]
    | false =>
      rw [hf, if_neg (by decide)] at h
      rcases hp : rs q x with _ | z
      · rw [hp] at h; cases h
      rw [hp] at h
      simp only [Option.bind_some] at h
      cases hc : (rg z.1 e.a == e.c) with
      | false => rw [hc, if_pos (by rfl)] at h; cases h
      | true =>
        rw [hc, if_neg (by decide)] at h
        obtain ⟨a1, a2, a3⟩ := bck hw.2.2.1 l4 x z hr hp
        obtain ⟨b1, b2, b3⟩ := bck hw.2.2.2 l6 z y a1 h
        refine ⟨b1, by omega, fun n => ?_⟩
        rw [bk, rs_app, b3 n]
        show rs (.iff (lb e) m (lb l) (bk q) (bk p) .nil) (z.1, _) = _
        rw [rs]
        dsimp only
        rw [hle.1, hle.2, hc, if_pos rfl, a3]
        simp only [Option.bind_some]
        rw [hll.1, hll.2, hf, if_neg (by decide), rs, show n + (y.2 - z.2) + (z.2 - x.2) = n + (y.2 - x.2) by omega]
def clo : List Gt → Nat → Nat
  | [], _ => 0
  | l :: r, d =>
    if l.k = 4 ∨ l.k = 6 then 1 + clo r (d + 1)
    else if l.k = 5 ∨ l.k = 8 then (if d = 0 then 0 else 1 + clo r (d - 1))
    else if l.k = 7 then (if d = 0 then 0 else 1 + clo r d)
    else 1 + clo r d
theorem clo_fl : ∀ (t : PS) (r : List Gt) (d : Nat), wf t → clo (fl t ++ r) d = (fl t).length + clo r d
  | .nil, r, d, _ => (Nat.zero_add _).symm
  | .one l t, r, d, h => by
    have hk := h.1
    rw [fl, List.cons_append, clo, if_neg (by omega), if_neg (by omega), if_neg (by omega), clo_fl t r d h.2, List.length_cons]; omega
  | .rep l e p t, r, d, h => by
    have hk := h.1
    rw [fl, List.cons_append, List.append_assoc, clo, if_pos (.inl hk.1), clo_fl p _ (d + 1) h.2.1, List.cons_append, clo, if_neg (by omega), if_pos (.inl hk.2), if_neg (by omega), Nat.add_sub_cancel, clo_fl t r d h.2.2, List.length_cons, List.length_append, List.length_cons]; omega
  | .iff l m e p q t, r, d, h => by
    have hk := h.1
    rw [fl, List.cons_append, List.append_assoc, clo, if_pos (.inr hk.1), clo_fl p _ (d + 1) h.2.1, List.cons_append, clo, if_neg (by omega), if_neg (by omega), if_pos hk.2.1, if_neg (by omega), List.append_assoc, clo_fl q _ (d + 1) h.2.2.1, List.cons_append, clo, if_neg (by omega), if_pos (.inr hk.2.2), if_neg (by omega), Nat.add_sub_cancel, clo_fl t r d h.2.2.2, List.length_cons, List.length_append, List.length_cons, List.length_append, List.length_cons]; omega
abbrev gz : Gt := ⟨0, 0, 0, 0⟩
def cls (P : List Gt) (j : Nat) : Nat := j + 1 + clo (P.drop (j + 1)) 0
def sbN (P : List Gt) (k : Nat) : Nat → Int
  | 0 => 0
  | j + 1 => if (P.getD j gz).k = 4 ∧ cls P j = k then (P.getD j gz).c else sbN P k j
def sb (P : List Gt) (k : Nat) : Gt := if (P.getD k gz).k = 5 then ⟨(lb (P.getD k gz)).k, (lb (P.getD k gz)).a, (lb (P.getD k gz)).b, sbN P k k⟩ else lb (P.getD k gz)
theorem getD_mid (a b : List Gt) (x : Gt) : (a ++ x :: b).getD a.length gz = x := by
  simp [List.getD_eq_getElem?_getD]
end Go.Proofs.Ytgjnnlgeggamjaa
namespace Go.Proofs.Ytgjnnlgeggamjaa
set_option linter.unusedVariables false
set_option linter.unusedSimpArgs false
open Go.RowKit
def pl : PS → Nat
  | .nil => 0
  | .one _ t => pl t + 1
  | .rep _ _ _ t => pl t + 1
  | .iff _ _ _ _ _ t => pl t + 1
theorem pl_app (b : PS) : ∀ a, pl (app a b) = pl a + pl b
  | .nil => (Nat.zero_add _).symm
  | .one l t => by rw [app, pl, pl, pl_app b t]; omega
  | .rep l e p t => by rw [app, pl, pl, pl_app b t]; omega
  | .iff l m e p q t => by rw [app, pl, pl, pl_app b t]; omega
theorem pl_fl : ∀ t, pl t ≤ (fl t).length
  | .nil => Nat.le_refl _
  | .one l t => by have := pl_fl t; rw [pl, fl, List.length_cons]; omega
  | .rep l e p t => by have := pl_fl t; rw [pl, fl, List.length_cons, List.length_append, List.length_cons]; omega
  | .iff l m e p q t => by have := pl_fl t; rw [pl, fl, List.length_cons, List.length_append, List.length_cons, List.length_append, List.length_cons]; omega
abbrev lC (g : Gt) : List Value := [.int .i64 g.k, .int .i64 g.a, .int .i64 g.b, .int .i64 g.c]
abbrev vNil : Value := .slice none 0 0
def RC (w : World) (D : Nat → Prop) : PS → List Value → Prop
  | .nil, cs => cs = []
  | .one l t, cs => ∃ cs', cs = lC l ++ (vNil :: vNil :: (lC gz ++ cs')) ∧ RC w D t cs'
  | .rep l e p t, cs => ∃ A c ps cs', cs = lC l ++ (.slice A (pl p) c :: vNil :: (lC e ++ cs')) ∧ RC w D p ps ∧ (0 < pl p → ∃ b off, A = some ⟨b, off, none⟩ ∧ D b ∧ Cells w b off ps) ∧ RC w D t cs'
  | .iff l m e p q t, cs => ∃ A c ps A2 c2 qs cs', cs = lC l ++ (.slice A (pl p) c :: .slice A2 (pl q) c2 :: (lC e ++ cs')) ∧ (RC w D p ps ∧ (0 < pl p → ∃ b off, A = some ⟨b, off, none⟩ ∧ D b ∧ Cells w b off ps)) ∧ (RC w D q qs ∧ (0 < pl q → ∃ b off, A2 = some ⟨b, off, none⟩ ∧ D b ∧ Cells w b off qs)) ∧ RC w D t cs'
def TV (w : World) (D : Nat → Prop) (t : PS) (v : Value) : Prop := ∃ A c ps, v = .slice A (pl t) c ∧ RC w D t ps ∧ (0 < pl t → ∃ b off, A = some ⟨b, off, none⟩ ∧ D b ∧ Cells w b off ps)
theorem RC.keep {w w' : World} {D D' : Nat → Prop} (h : ∀ b, D b → D' b ∧ w'.heap[b]? = w.heap[b]?) : ∀ {t : PS} {cs : List Value}, RC w D t cs → RC w' D' t cs
  | .nil, cs, hr => hr
  | .one l t, cs, ⟨cs', e, hr⟩ => ⟨cs', e, RC.keep h hr⟩
  | .rep l e p t, cs, ⟨A, c, ps, cs', q, h1, h2, h3⟩ => ⟨A, c, ps, cs', q, RC.keep h h1, fun h0 => by
      obtain ⟨b, off, e1, e2, e3⟩ := h2 h0
      exact ⟨b, off, e1, (h b e2).1, e3.keep (h b e2).2⟩, RC.keep h h3⟩
  | .iff l m e p q t, cs, ⟨A, c, ps, A2, c2, qs, cs', qq, ⟨h1, h2⟩, ⟨h4, h5⟩, h3⟩ => ⟨A, c, ps, A2, c2, qs, cs', qq, ⟨RC.keep h h1, fun h0 => by
      obtain ⟨b, off, e1, e2, e3⟩ := h2 h0
      exact ⟨b, off, e1, (h b e2).1, e3.keep (h b e2).2⟩⟩, ⟨RC.keep h h4, fun h0 => by
      obtain ⟨b, off, e1, e2, e3⟩ := h5 h0
      exact ⟨b, off, e1, (h b e2).1, e3.keep (h b e2).2⟩⟩, RC.keep h h3⟩
theorem TV.keep {w w' : World} {D D' : Nat → Prop} (h : ∀ b, D b → D' b ∧ w'.heap[b]? = w.heap[b]?) {t : PS} {v : Value} : TV w D t v → TV w' D' t v
  | ⟨A, c, ps, e, h1, h2⟩ => ⟨A, c, ps, e, RC.keep h h1, fun h0 => by
      obtain ⟨b, off, e1, e2, e3⟩ := h2 h0
      exact ⟨b, off, e1, (h b e2).1, e3.keep (h b e2).2⟩⟩
theorem RC.len {w : World} {D : Nat → Prop} : ∀ {t : PS} {cs : List Value}, RC w D t cs → cs.length = pl t * 10
  | .nil, cs, hr => by rw [show cs = [] from hr]; rfl
  | .one l t, cs, ⟨cs', e, hr⟩ => by
    have := RC.len hr
    rw [e, pl]; simp; omega
  | .rep l e p t, cs, ⟨A, c, ps, cs', q, h1, h2, h3⟩ => by
    have := RC.len h3
    rw [q, pl]; simp; omega
  | .iff l m e p q t, cs, ⟨A, c, ps, A2, c2, qs, cs', qq, ⟨h1, h2⟩, ⟨h4, h5⟩, h3⟩ => by
    have := RC.len h3
    rw [qq, pl]; simp; omega
theorem RC.app {w : World} {D : Nat → Prop} {b : PS} {ys : List Value} (hb : RC w D b ys) : ∀ {a : PS} {xs : List Value}, RC w D a xs → RC w D (app a b) (xs ++ ys)
  | .nil, xs, hr => by rw [show xs = [] from hr]; exact hb
  | .one l t, xs, ⟨cs', e, hr⟩ => ⟨cs' ++ ys, by rw [e]; simp, RC.app hb hr⟩
  | .rep l e p t, xs, ⟨A, c, ps, cs', q, h1, h2, h3⟩ => ⟨A, c, ps, cs' ++ ys, by rw [q]; simp, h1, h2, RC.app hb h3⟩
  | .iff l m e p q t, xs, ⟨A, c, ps, A2, c2, qs, cs', qq, h1, h2, h3⟩ => ⟨A, c, ps, A2, c2, qs, cs' ++ ys, by rw [qq]; simp, h1, h2, RC.app hb h3⟩
structure Oth (p : Nat) (w w' : World) : Prop where
  os : w'.os = w.os
  tape : w'.tape = w.tape
  output : w'.output = w.output
  size : w.heap.size ≤ w'.heap.size
  block : ∀ k, k < w.heap.size → k ≠ p → w'.heap[k]? = w.heap[k]?
section
variable {p : Nat} {a w w' : World}
theorem Oth.refl (p : Nat) (w : World) : Oth p w w := ⟨rfl, rfl, rfl, Nat.le_refl _, fun _ _ _ => rfl⟩
theorem Oth.trans (h : Oth p a w) (k : Oth p w w') : Oth p a w' := ⟨k.os.trans h.os, k.tape.trans h.tape, k.output.trans h.output, Nat.le_trans h.size k.size, fun i hi hp => (k.block i (Nat.lt_of_lt_of_le hi h.size) hp).trans (h.block i hi hp)⟩
theorem Oth.setCell (h : Oth p a w) {q : Addr} (hq : q.block = p) (u : Value) : Oth p a (w.setCell q u) :=
  ⟨h.os, h.tape, h.output, Nat.le_trans h.size (by simp [World.setCell]), fun k hk hp => (Below.heap_setCell w q u k (by rw [hq]; exact hp)).trans (h.block k hk hp)⟩
theorem Oth.setNew (h : Oth p a w) {q : Addr} (hq : a.heap.size ≤ q.block) (u : Value) : Oth p a (w.setCell q u) :=
  ⟨h.os, h.tape, h.output, Nat.le_trans h.size (by simp [World.setCell]), fun k hk hp => (Below.heap_setCell w q u k (by omega)).trans (h.block k hk hp)⟩
theorem Oth.alloc (h : Oth p a w) (o : Obj) : Oth p a (w.alloc o) :=
  ⟨h.os, h.tape, h.output, Nat.le_trans h.size (by simp), fun k hk hp => (Below.heap_alloc w o k (Nat.lt_of_lt_of_le hk h.size)).trans (h.block k hk hp)⟩
theorem Oth.drew (h : Oth p a w) : Oth p a w.drew := ⟨h.os, h.tape, h.output, h.size, h.block⟩
theorem Oth.grown (h : Oth p a w) {row : Option Nat} (hg : w.grownBy w' row) (hr : ∀ r, row = some r → a.heap.size ≤ r) : Oth p a w' :=
  ⟨hg.os.trans h.os, hg.tape.trans h.tape, hg.output.trans h.output, Nat.le_trans h.size hg.size, fun k hk hp => (hg.block k (Nat.lt_of_lt_of_le hk h.size) (fun e => by have := hr k e.symm; omega)).trans (h.block k hk hp)⟩
theorem Bk.oth {g : Nat} {cs : Array Value} (h : Bk w g cs) (hb : Oth p w w') (hg : g ≠ p) : Bk w' g cs := h.keep hb.size (hb.block g h.lt hg)
theorem Oth.below {B : Nat} (h : Oth p w w') (hB : B ≤ w.heap.size) (hp : B ≤ p) : Below B w w' := ⟨h.os, h.tape, h.output, h.size, fun k hk => h.block k (by omega) (by omega)⟩
end
def LnC (w : World) (lb : Nat) (Ls : List Gt) : Prop := ∀ j, j < Ls.length → w.cell? ⟨lb, j * 4, none⟩ = some (.int .i64 (Ls.getD j gz).k) ∧ w.cell? ⟨lb, j * 4 + 1, none⟩ = some (.int .i64 (Ls.getD j gz).a) ∧ w.cell? ⟨lb, j * 4 + 2, none⟩ = some (.int .i64 (Ls.getD j gz).b) ∧ w.cell? ⟨lb, j * 4 + 3, none⟩ = some (.int .i64 (Ls.getD j gz).c)
theorem LnC.keep {w w' : World} {lb : Nat} {Ls : List Gt} (h : LnC w lb Ls) (hk : w'.heap[lb]? = w.heap[lb]?) : LnC w' lb Ls := fun j hj => by
  obtain ⟨h1, h2, h3, h4⟩ := h j hj
  exact ⟨(World.cell?_of_block (a := ⟨lb, j * 4, none⟩) hk).trans h1, (World.cell?_of_block (a := ⟨lb, j * 4 + 1, none⟩) hk).trans h2, (World.cell?_of_block (a := ⟨lb, j * 4 + 2, none⟩) hk).trans h3, (World.cell?_of_block (a := ⟨lb, j * 4 + 3, none⟩) hk).trans h4⟩
theorem drop_g {l : List Gt} {k : Nat} (h : k < l.length) : l.drop k = l.getD k gz :: l.drop (k + 1) := by
  rw [List.drop_eq_getElem_cons h]
  simp [List.getD_eq_getElem?_getD, h]
structure Pts (w : World) (B : Nat) (e : TypeId) (t : PS) (v : Value) (cs : List Value) : Prop where
  own : w.ownsRow B e 10 v (pl t) cs
  rc : RC w (fun b => B ≤ b ∧ b < w.heap.size ∧ v.ownBlock ≠ some b) t cs
theorem own_lt {w : World} {B : Nat} {e : TypeId} {n sz : Nat} {v : Value} {xs : List Value} (h : w.ownsRow B e sz v n xs) {g : Nat} (hg : v.ownBlock = some g) : B ≤ g ∧ g < w.heap.size := by
  rcases h.2 with ⟨rfl, _⟩ | ⟨g', cap, cur, rfl, h1, h2, _⟩
  · cases hg
  · cases hg; exact ⟨h1, (Array.getElem?_eq_some_iff.1 h2).1⟩
theorem own_keep {w w' : World} {B : Nat} {e : TypeId} {n sz : Nat} {v : Value} {xs : List Value} (h : w.ownsRow B e sz v n xs) (hk : ∀ g, v.ownBlock = some g → w'.heap[g]? = w.heap[g]?) : w'.ownsRow B e sz v n xs := by
  refine ⟨h.1, ?_⟩
  rcases h.2 with h2 | ⟨g, cap, cur, rfl, hg, hh, r⟩
  · exact .inl h2
  · exact .inr ⟨g, cap, cur, rfl, hg, (hk g rfl).trans hh, r⟩
theorem Pts.oth {p : Nat} {w w' : World} {B : Nat} {e : TypeId} {t : PS} {v : Value} {cs : List Value} (h : Pts w B e t v cs) (ho : Oth p w w') (hp : p < B) : Pts w' B e t v cs :=
  ⟨own_keep h.own fun g hg => by
    obtain ⟨h1, h2⟩ := own_lt h.own hg
    exact ho.block g h2 (by omega), h.rc.keep fun b hb => ⟨⟨hb.1, Nat.lt_of_lt_of_le hb.2.1 ho.size, hb.2.2⟩, ho.block b hb.2.1 (by omega)⟩⟩
theorem Pts.nil (w : World) (e : TypeId) {B : Nat} (hB : B ≤ w.heap.size) : Pts (w.alloc (.cells #[] e)) B e .nil (.slice (some ⟨w.heap.size, 0, none⟩) 0 0) [] :=
  ⟨by exact World.ownsRow_made w #[] 0 hB (Nat.zero_le _) (by simp), rfl⟩
theorem Pts.snoc {w w0 w' : World} {B : Nat} {e : TypeId} {t u : PS} {v v' : Value} {cs us : List Value} (h : Pts w B e t v cs) (hu : RC w0 (fun b => w.heap.size ≤ b ∧ b < w0.heap.size) u us)
    (hk : ∀ k, B ≤ k → k < w.heap.size → w0.heap[k]? = w.heap[k]?) (hs : w.heap.size ≤ w0.heap.size) (hB : B ≤ w.heap.size)
    (hown : w'.ownsRow B e 10 v' (pl (app t u)) (cs ++ us)) (hg : w0.grownBy w' v.ownBlock) (hat : v'.ownBlock = v.ownBlock ∨ v'.ownBlock = some w0.heap.size) : Pts w' B e (app t u) v' (cs ++ us) := by
  have key : ∀ b, v'.ownBlock = some b → v.ownBlock = some b ∨ b = w0.heap.size := fun b hb => by
    rcases hat with hat | hat
    · exact .inl (hat ▸ hb)
    · rw [hat] at hb; cases hb; exact .inr rfl
  have hgs := hg.size
  refine ⟨hown, RC.app (hu.keep fun b hb => ?_) (h.rc.keep fun b hb => ?_)⟩
  · have hvb : v.ownBlock ≠ some b := fun hv => by have := own_lt h.own hv; omega
    refine ⟨⟨by omega, by omega, fun hv => ?_⟩, hg.block b hb.2 (fun e => hvb e.symm)⟩
    rcases key b hv with h1 | h1
    · exact hvb h1
    · omega
  · refine ⟨⟨hb.1, by omega, fun hv => ?_⟩, (hg.block b (by omega) (fun e => hb.2.2 e.symm)).trans (hk b hb.1 hb.2.1)⟩
    rcases key b hv with h1 | h1
    · exact hb.2.2 h1
    · omega
theorem Pts.tv {w : World} {B : Nat} {e : TypeId} {t : PS} {v : Value} {cs : List Value} (h : Pts w B e t v cs) : TV w (fun b => B ≤ b ∧ b < w.heap.size) t v := by
  obtain ⟨h1, h2⟩ := h
  have h2' := h2.keep (D' := fun b => B ≤ b ∧ b < w.heap.size) (w' := w) fun b hb => ⟨⟨hb.1, hb.2.1⟩, rfl⟩
  rcases h1.2 with ⟨rfl, h0⟩ | ⟨g, cap, cur, rfl, q1, q2, q3, q4, q5, q6⟩
  · exact ⟨none, 0, cs, by rw [h0], h2', fun hp => by omega⟩
  · refine ⟨some ⟨g, 0, none⟩, cap, cs, rfl, h2', fun _ => ⟨g, 0, rfl, ⟨q1, (Array.getElem?_eq_some_iff.1 q2).1⟩, fun j x hj => ?_⟩⟩
    rw [Nat.zero_add, cell_of_row w g j cur e (0, 0) q2]
    rw [← q6, List.getElem?_take] at hj
    split at hj
    · rw [← hj]; simp
    · cases hj
end Go.Proofs.Ytgjnnlgeggamjaa
