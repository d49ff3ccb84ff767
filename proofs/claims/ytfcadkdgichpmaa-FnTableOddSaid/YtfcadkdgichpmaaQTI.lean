/- Tab, ZA, KGA, KGP, KDL, KGQ, PH, KGE: laid into one text. -/
import Derived.Test.YtfcadkdgichpmaaQTD
import Derived.Test.YtfcadkdgichpmaaQTE
import Derived.Test.YtfcadkdgichpmaaRows

/- The table of this program's types. -/
namespace Go.Proofs.Ytfcadkdgichpmaa
set_option maxRecDepth 10000
theorem allN {α : Type} {Q : α → Prop} : ∀ p ∈ ([] : List α), Q p := fun p hp => by cases hp
theorem allC {α : Type} {Q : α → Prop} {x : α} {l : List α} (h : Q x) (h' : ∀ p ∈ l, Q p) : ∀ p ∈ x :: l, Q p := fun p hp => by
  rcases List.mem_cons.1 hp with rfl | hp
  · exact h
  · exact h' p hp
def T0 : Tab := ⟨[(2, (false, 1)), (3, (false, 1)), (4, (false, 1)), (5, (false, 1)), (9, (false, 1)), (12, (false, 1)), (13, (true, 2)), (19, (true, 1)), (21, (false, 1)), (22, (false, 1)), (23, (false, 1)), (27, (false, 1)), (35, (false, 1)), (41, (true, 4)), (42, (true, 4)), (48, (true, 2)), (49, (true, 2)), (50, (false, 1)), (61, (true, 4)), (62, (true, 4)), (67, (true, 20)), (69, (true, 3)), (78, (false, 1)), (82, (false, 1))],
  [(13000, (0, false, 1)), (13001, (1, false, 1)), (19000, (0, false, 1)), (41000, (0, false, 1)), (41001, (1, false, 1)), (41002, (2, false, 1)), (41003, (3, false, 1)), (42000, (0, false, 1)), (42001, (1, false, 1)), (42002, (2, false, 1)), (42003, (3, false, 1)), (48000, (0, false, 1)), (48001, (1, false, 1)), (49000, (0, false, 1)), (49001, (1, false, 1)), (61000, (0, false, 1)), (61001, (1, false, 1)), (61002, (2, false, 1)), (61003, (3, false, 1)), (62000, (0, false, 1)), (62001, (1, false, 1)), (62002, (2, false, 1)), (62003, (3, false, 1))],
  [(22, (none, 5, false, 1, 1)), (23, (none, 3, false, 1, 8)), (27, (none, 42, true, 4, 32)), (50, (none, 4, false, 1, 1)), (67, (some 5, 62, true, 4, 40)), (69, (some 3, 3, false, 1, 8))],
  [(2, [.int .i64 0]), (3, [.int .i64 0]), (4, [.bool false]), (5, [.int .u8 0]), (9, [.string ByteArray.empty]), (12, [.int .u64 0]), (13, [.string ByteArray.empty, .int .u64 0]), (19, [.pointer none]), (21, [.int .i32 0]), (22, [.slice none 0 0]), (23, [.slice none 0 0]), (27, [.slice none 0 0]), (35, [.pointer none]), (41, [.int .i64 0, .int .i64 0, .int .i64 0, .int .i64 0]), (42, [.int .i64 0, .int .i64 0, .int .i64 0, .int .i64 0]), (48, [.slice none 0 0, .int .i64 0]), (49, [.slice none 0 0, .int .i64 0]), (50, [.slice none 0 0]), (61, [.string ByteArray.empty, .int .i64 0, .int .i64 0, .int .i64 0]), (62, [.string ByteArray.empty, .int .i64 0, .int .i64 0, .int .i64 0]), (67, [.string ByteArray.empty, .int .i64 0, .int .i64 0, .int .i64 0, .string ByteArray.empty, .int .i64 0, .int .i64 0, .int .i64 0, .string ByteArray.empty, .int .i64 0, .int .i64 0, .int .i64 0, .string ByteArray.empty, .int .i64 0, .int .i64 0, .int .i64 0, .string ByteArray.empty, .int .i64 0, .int .i64 0, .int .i64 0]), (69, [.int .i64 0, .int .i64 0, .int .i64 0]), (78, [.int .u32 0]), (82, [.pointer none])],
  [(13, ([.string ByteArray.empty, .int .u64 0], some [(0, 1), (1, 1)], 0)), (19, ([.pointer none], some [(0, 1)], 0)), (41, ([.int .i64 0, .int .i64 0, .int .i64 0, .int .i64 0], some [(0, 1), (1, 1), (2, 1), (3, 1)], 0)), (42, ([.int .i64 0, .int .i64 0, .int .i64 0, .int .i64 0], some [(0, 1), (1, 1), (2, 1), (3, 1)], 0)), (48, ([.slice none 0 0, .int .i64 0], some [(0, 1), (1, 1)], 0)), (49, ([.slice none 0 0, .int .i64 0], some [(0, 1), (1, 1)], 0)), (61, ([.string ByteArray.empty, .int .i64 0, .int .i64 0, .int .i64 0], some [(0, 1), (1, 1), (2, 1), (3, 1)], 0)), (62, ([.string ByteArray.empty, .int .i64 0, .int .i64 0, .int .i64 0], some [(0, 1), (1, 1), (2, 1), (3, 1)], 0)), (67, ([.string ByteArray.empty, .int .i64 0, .int .i64 0, .int .i64 0, .string ByteArray.empty, .int .i64 0, .int .i64 0, .int .i64 0, .string ByteArray.empty, .int .i64 0, .int .i64 0, .int .i64 0, .string ByteArray.empty, .int .i64 0, .int .i64 0, .int .i64 0, .string ByteArray.empty, .int .i64 0, .int .i64 0, .int .i64 0], none, 4)), (69, ([.int .i64 0, .int .i64 0, .int .i64 0], none, 1))]⟩
theorem T0ok : TabOk Try.prog T0 :=
  ⟨(allC (by kernel_rfl) (allC (by kernel_rfl) (allC (by kernel_rfl) (allC (by kernel_rfl) (allC (by kernel_rfl) (allC (by kernel_rfl) (allC (by kernel_rfl) (allC (by kernel_rfl) (allC (by kernel_rfl) (allC (by kernel_rfl) (allC (by kernel_rfl) (allC (by kernel_rfl) (allC (by kernel_rfl) (allC (by kernel_rfl) (allC (by kernel_rfl) (allC (by kernel_rfl) (allC (by kernel_rfl) (allC (by kernel_rfl) (allC (by kernel_rfl) (allC (by kernel_rfl) (allC (by kernel_rfl) (allC (by kernel_rfl) (allC (by kernel_rfl) (allC (by kernel_rfl) allN)))))))))))))))))))))))),
   (allC ⟨by kernel_rfl, by decide⟩ (allC ⟨by kernel_rfl, by decide⟩ (allC ⟨by kernel_rfl, by decide⟩ (allC ⟨by kernel_rfl, by decide⟩ (allC ⟨by kernel_rfl, by decide⟩ (allC ⟨by kernel_rfl, by decide⟩ (allC ⟨by kernel_rfl, by decide⟩ (allC ⟨by kernel_rfl, by decide⟩ (allC ⟨by kernel_rfl, by decide⟩ (allC ⟨by kernel_rfl, by decide⟩ (allC ⟨by kernel_rfl, by decide⟩ (allC ⟨by kernel_rfl, by decide⟩ (allC ⟨by kernel_rfl, by decide⟩ (allC ⟨by kernel_rfl, by decide⟩ (allC ⟨by kernel_rfl, by decide⟩ (allC ⟨by kernel_rfl, by decide⟩ (allC ⟨by kernel_rfl, by decide⟩ (allC ⟨by kernel_rfl, by decide⟩ (allC ⟨by kernel_rfl, by decide⟩ (allC ⟨by kernel_rfl, by decide⟩ (allC ⟨by kernel_rfl, by decide⟩ (allC ⟨by kernel_rfl, by decide⟩ (allC ⟨by kernel_rfl, by decide⟩ allN))))))))))))))))))))))),
   (allC ⟨by kernel_rfl, by decide⟩ (allC ⟨by kernel_rfl, by decide⟩ (allC ⟨by kernel_rfl, by decide⟩ (allC ⟨by kernel_rfl, by decide⟩ (allC ⟨by kernel_rfl, by decide⟩ (allC ⟨by kernel_rfl, by decide⟩ allN)))))),
   (allC ⟨by kernel_rfl, rfl⟩ (allC ⟨by kernel_rfl, rfl⟩ (allC ⟨by kernel_rfl, rfl⟩ (allC ⟨by kernel_rfl, rfl⟩ (allC ⟨by kernel_rfl, rfl⟩ (allC ⟨by kernel_rfl, rfl⟩ (allC ⟨by kernel_rfl, rfl⟩ (allC ⟨by kernel_rfl, rfl⟩ (allC ⟨by kernel_rfl, rfl⟩ (allC ⟨by kernel_rfl, rfl⟩ (allC ⟨by kernel_rfl, rfl⟩ (allC ⟨by kernel_rfl, rfl⟩ (allC ⟨by kernel_rfl, rfl⟩ (allC ⟨by kernel_rfl, rfl⟩ (allC ⟨by kernel_rfl, rfl⟩ (allC ⟨by kernel_rfl, rfl⟩ (allC ⟨by kernel_rfl, rfl⟩ (allC ⟨by kernel_rfl, rfl⟩ (allC ⟨by kernel_rfl, rfl⟩ (allC ⟨by kernel_rfl, rfl⟩ (allC ⟨by kernel_rfl, rfl⟩ (allC ⟨by kernel_rfl, rfl⟩ (allC ⟨by kernel_rfl, rfl⟩ (allC ⟨by kernel_rfl, rfl⟩ allN)))))))))))))))))))))))),
   (allC ⟨by kernel_rfl, rfl⟩ (allC ⟨by kernel_rfl, rfl⟩ (allC ⟨by kernel_rfl, rfl⟩ (allC ⟨by kernel_rfl, rfl⟩ (allC ⟨by kernel_rfl, rfl⟩ (allC ⟨by kernel_rfl, rfl⟩ (allC ⟨by kernel_rfl, rfl⟩ (allC ⟨by kernel_rfl, rfl⟩ (allC ⟨by kernel_rfl, rfl⟩ (allC ⟨by kernel_rfl, rfl⟩ allN))))))))))⟩
theorem mixed : Try.prog.follows .mixedOrders = true := by kernel_rfl
end Go.Proofs.Ytfcadkdgichpmaa

/- The beginnings: bounds, readers of drawn numbers. -/
namespace Go.Proofs.Ytfcadkdgichpmaa
set_option linter.unusedVariables false
set_option linter.unusedSimpArgs false
set_option maxRecDepth 20000
open Go.RowKit
attribute [local irreducible] runA runX AW
theorem gcA {H G : Prop} (k : H) (h : Hid H → G := by (intro hh; repeat1' (first | refine aw_seq ?_ | refine aw_ct (by rfl) zDD ?_ | refine aw_cf (by rfl) zDD ?_ | refine aw_block ?_ | refine aw_region T0ok cfU_ok (by rfl) ?_ | refine aw_skip ?_ | refine aw_exit ?_ | refine ra_step ?_); exact hh.out)) : G := h ⟨k⟩
theorem gdA {H G : Prop} (k : H) (h : Hid H → G := by (intro hh; (refine aw_draw mixed T0ok cfU_ok [] (by rfl) (by kernel_rfl) ?_); exact hh.out)) : G := h ⟨k⟩
theorem rtA {H G : Prop} (k : H) (h : Hid H → G := by (intro hh; (try refine aw_ret ?_); refine ret_auto2 (by rfl) (by rfl) (by rfl) zHQ hh.out zHN zHN)) : G := h ⟨k⟩
theorem gq_ZA {H G : Prop} (k : H) (h : Hid H → G := by (intro hh; repeat1' (first | (first | ((first | refine r_none ?_ | refine r_gt (by rfl) (by rfl) zDD (by rfl) ?_ | refine r_gf (by rfl) (by rfl) zDD (by rfl) ?_); (first | fail | ((first | (refine z_op (by rfl) ?_; first | refine z_ok ?_ ?_ | refine z_ex ?_ (by first | exact zL1 | ((first | refine mk_0 Int rfl rfl ?_ | refine mk_c Int rfl rfl rfl ?_ | refine mk_c Bool rfl rfl rfl ?_); exact zWW) | exact zL2 | exact rw_c Int rfl | exact rw_c Bool rfl | exact zL3 | fail) ?_) | ((first | refine q_callE wsT wsZ (by rfl) ?_ | refine q_callVE wsT (by rfl) (by rfl) ?_); refine ⟨_, _, _, (by first | exact k_within _ _ _ | exact k_l1In _ _ _ | exact k_okL _ | exact k_wv _ _ | assumption), _, by rfl, ?_, ?_⟩)); focus (first | exact trivial | fail | exact zQZ)) | fail)) | refine r_nt (by rfl) (by rfl) zDD (by rfl) ?_ | refine r_nf (by rfl) (by rfl) zDD (by rfl) ?_ | refine r_gu (by rfl) (by rfl) (by rfl) ?_ | refine r_nil ?_) | (first | refine aw_seq ?_ | refine aw_ct (by rfl) zDD ?_ | refine aw_cf (by rfl) zDD ?_ | refine aw_block ?_ | refine aw_region T0ok cfU_ok (by rfl) ?_ | refine aw_skip ?_ | refine aw_exit ?_ | refine ra_step ?_)); exact hh.out)) : G := h ⟨k⟩
theorem ga_ZA {H G : Prop} (k : H) (h : Hid H → G := by (intro hh; (first | refine r_none ?_ | refine r_gt (by rfl) (by rfl) zDD (by rfl) ?_ | refine r_gf (by rfl) (by rfl) zDD (by rfl) ?_); refine z_op (by rfl) ?_; refine z_al ?_ hh.out; focus (first | exact trivial | fail | exact zQZ))) : G := h ⟨k⟩
def wsT : WsT := [

  (23, ([0], true)),


  (26, ([0], true)),





  (32, ([0], true)),





  (39, ([0], true)),


  (25, ([0], true)),


  (17, ([0], true)),


  (11, ([0], true)),

















  (12, ([], true)),
















  (999999, ([], false))]
def wsZ : List (Nat × Nat) := [

























































  (999999, 0)]
def btw (n a b : Int) : Bool := decide (n ≥ a) && decide (n ≤ b)
theorem btw_t {n a b : Int} (h : btw n a b = true) : a ≤ n ∧ n ≤ b := by simpa [btw] using h
theorem btw_f {n a b : Int} (h : btw n a b = false) : ¬ (a ≤ n ∧ n ≤ b) := by intro ⟨h1, h2⟩; simp [btw, h1, h2] at h
theorem k_within (n a b : Int) : Kon Try.prog 28 [vI n, vI a, vI b] [] (vB (btw n a b)) [] [] := by
  (refine kon_mk T0ok (fn := Try.f28) (c := Try.f28.body.get rfl) Try.func28 rfl (by rfl) (by rfl) (by rfl) ?_; intro hfit hfe)
  unfold btw
  cases h1 : decide (n ≥ a)
  all_goals ((repeat (first | refine gq_ZA ?_ | (refine ga_ZA ?_; intro _q ⟨_he, _hq⟩))); (refine rtA ?_; try rfl))

theorem k_l1In (n a b : Int) : Kon Try.prog 19 [vI n, vI a, vI b] [] (vB (btw n a b)) [] [] := by
  (refine kon_mk T0ok (fn := Try.f19) (c := Try.f19.body.get rfl) Try.func19 rfl (by rfl) (by rfl) (by rfl) ?_; intro hfit hfe)
  unfold btw
  cases h1 : decide (n ≥ a)
  all_goals ((repeat (first | refine gq_ZA ?_ | (refine ga_ZA ?_; intro _q ⟨_he, _hq⟩))); (refine rtA ?_; try rfl))


theorem k_okL (n : Int) : Kon Try.prog 27 [vI n] [] (vB (btw n 1 8)) [] [] := by
  (refine kon_mk T0ok (fn := Try.f27) (c := Try.f27.body.get rfl) Try.func27 rfl (by rfl) (by rfl) (by rfl) ?_; intro hfit hfe)
  (repeat (first | refine gq_ZA ?_ | (refine ga_ZA ?_; intro _q ⟨_he, _hq⟩)))
  (refine rtA ?_; try rfl)


abbrev rdE (l : List UInt8) (c : Int) : Ent := .box [roC l, .v (.int .i64 c)]
abbrev p0 : AV := .g (.one (.ptr 100000 0 0))
def byI (l : List UInt8) (i : Int) : Int := (l.getD i.toNat 0).toNat
def pickW (l : List UInt8) (c : Int) : Int := byI l (c % l.length) * 131 + byI l ((c * 7 + 3) % l.length) * 1117 + c * 29 + c / l.length * 53
def pickI (l : List UInt8) (c n : Int) : Int :=
  if n < 1 ∨ l.length = 0 then 0 else if c < l.length then byI l c % n else (((pickW l c).toNat ^^^ (pickW l c / 64).toNat : Nat) : Int) % n
theorem pickI_lt {l : List UInt8} {c n : Int} (h : 1 ≤ n) : 0 ≤ pickI l c n ∧ pickI l c n < n := by
  unfold pickI
  split
  · omega
  · split <;> exact ⟨Int.emod_nonneg _ (by omega), Int.emod_lt_of_pos _ (by omega)⟩
theorem k_pick (l : List UInt8) (c n : Int) (h : 0 ≤ c ∧ c ≤ 1000000 ∧ l.length ≤ 2000) : Kon Try.prog 23 [p0, vI n] [rdE l c] (vI (pickI l c n)) [] [rdE l (c + 1)] := by
  (refine kon_mk T0ok (fn := Try.f23) (c := Try.f23.body.get rfl) Try.func23 rfl (by rfl) (by rfl) (by rfl) ?_; intro hfit hfe)
  have e1 : c + 1 - 1 = c := by omega
  unfold pickI
  cases h3 : decide (n < 1) with
  | true => rw [if_pos (.inl (of_decide_eq_true h3))]; (repeat (first | refine gq_ZA ?_ | (refine ga_ZA ?_; intro _q ⟨_he, _hq⟩))); (refine rtA ?_; try rfl)
  | false =>
    have h3' := of_decide_eq_false h3
    cases h4 : ((l.length : Int) == 0) with
    | true => rw [if_pos (.inr (by simpa using h4))]; (repeat (first | refine gq_ZA ?_ | (refine ga_ZA ?_; intro _q ⟨_he, _hq⟩))); (refine rtA ?_; try rfl)
    | false =>
      have h4' : ¬ l.length = 0 := by simpa using h4
      rw [if_neg (by omega)]
      cases h5 : decide (c + 1 - 1 < (l.length : Int)) with
      | true =>
        have h5' := of_decide_eq_true h5
        rw [if_pos (by omega)]
        (repeat (first | refine gq_ZA ?_ | (refine ga_ZA ?_; intro _q ⟨_he, _hq⟩)))
        (subst_vars; (refine rtA ?_; try rfl))
        rw [e1]; rfl
      | false =>
        rw [if_neg (by simpa using h5)]
        (repeat (first | refine gq_ZA ?_ | (refine ga_ZA ?_; intro _q ⟨_he, _hq⟩)))
        (refine aw_draw mixed T0ok cfU_ok [] (by rfl) (by kernel_rfl) ?_)
        (repeat (first | refine gq_ZA ?_ | (refine ga_ZA ?_; intro _q ⟨_he, _hq⟩)))
        (subst_vars; (refine rtA ?_; try rfl))
        rw [e1]; rfl
theorem k_odd (l : List UInt8) (c n : Int) (h : 0 ≤ c ∧ c ≤ 1000000 ∧ l.length ≤ 2000 ∧ 0 < n ∧ n ≤ 1000000) : Kon Try.prog 26 [p0, vI n] [rdE l c] (vB (pickI l c n == n - 1)) [] [rdE l (c + 1)] := by
  (refine kon_mk T0ok (fn := Try.f26) (c := Try.f26.body.get rfl) Try.func26 rfl (by rfl) (by rfl) (by rfl) ?_; intro hfit hfe)
  have hp := pickI_lt (l := l) (c := c) (n := n) (by omega)
  have h3 : decide (n > 0) = true := by simp; omega
  have hK := k_pick l c n ⟨h.1, h.2.1, h.2.2.1⟩
  (repeat (first | refine gq_ZA ?_ | (refine ga_ZA ?_; intro _q ⟨_he, _hq⟩)))
  (refine rtA ?_; try rfl)
theorem k_open (l : List UInt8) (h : l.length ≤ 100000000) : Kon Try.prog 12 [roA l] [] (.g (.one (.ptr 0 0 0))) [rdE (l.take 2000) 0] [] := by
  (refine kon_mk T0ok (fn := Try.f12) (c := Try.f12.body.get rfl) Try.func12 rfl (by rfl) (by rfl) (by rfl) ?_; intro hfit hfe)
  cases h1 : decide ((l.length : Int) > 2000) with
  | true =>
    have h1' := of_decide_eq_true h1
    (repeat (first | refine gq_ZA ?_ | (refine ga_ZA ?_; intro _q ⟨_he, _hq⟩)))
    (refine rtA ?_; try rfl)
  | false =>
    have e : l.take 2000 = l := List.take_of_length_le (by have := of_decide_eq_false h1; omega)
    rw [e]
    (repeat (first | refine gq_ZA ?_ | (refine ga_ZA ?_; intro _q ⟨_he, _hq⟩)))
    (refine rtA ?_; try rfl)
/-- What is drawn. -/
theorem ex_pick (l : List UInt8) (c n : Int) (h : 0 ≤ c ∧ c ≤ 1000000 ∧ l.length ≤ 2000) : ∃ v : Int, (n < 1 → v = 0) ∧ (1 ≤ n → 0 ≤ v ∧ v < n) ∧ Kon Try.prog 23 [p0, vI n] [rdE l c] (vI v) [] [rdE l (c + 1)] :=
  ⟨pickI l c n, fun h => by unfold pickI; rw [if_pos (.inl h)], pickI_lt, k_pick l c n h⟩
theorem ex_odd (l : List UInt8) (c n : Int) (h : 0 ≤ c ∧ c ≤ 1000000 ∧ l.length ≤ 2000 ∧ 0 < n ∧ n ≤ 1000000) : ∃ v : Bool, Kon Try.prog 26 [p0, vI n] [rdE l c] (vB v) [] [rdE l (c + 1)] := ⟨_, k_odd l c n h⟩


def wvB (n w : Int) : Bool := btw n 1 8 && btw w 0 (2 ^ n.toNat - 1)
theorem k_wv (n w : Int) : Kon Try.prog 20 [vI n, vI w] [] (vB (wvB n w)) [] [] := by
  (refine kon_mk T0ok (fn := Try.f20) (c := Try.f20.body.get rfl) Try.func20 rfl (by rfl) (by rfl) (by rfl) ?_; intro hfit hfe)
  unfold wvB
  cases h1 : btw n 1 8 with
  | false => (repeat (first | refine gq_ZA ?_ | (refine ga_ZA ?_; intro _q ⟨_he, _hq⟩))); (refine rtA ?_; try rfl)
  | true =>
    have h1' := btw_t h1
    (repeat (first | refine gq_ZA ?_ | (refine ga_ZA ?_; intro _q ⟨_he, _hq⟩)))
    (subst_vars; (refine rtA ?_; try rfl))
    rw [Int.one_mul]; rfl


theorem k_alive : Kon Try.prog 9 [] [] (vB true) [] [] := by
  (refine kon_mk T0ok (fn := Try.f9) (c := Try.f9.body.get rfl) Try.func9 rfl (by rfl) (by rfl) (by rfl) ?_; intro hfit hfe)
  (repeat (first | refine gq_ZA ?_ | (refine ga_ZA ?_; intro _q ⟨_he, _hq⟩)))
  (refine rtA ?_; try rfl)

end Go.Proofs.Ytfcadkdgichpmaa

/- Gates: their lines, their kinds. -/
namespace Go.Proofs.Ytfcadkdgichpmaa
set_option linter.unusedVariables false
set_option linter.unusedSimpArgs false
set_option maxRecDepth 20000
open Go.RowKit
attribute [local irreducible] runA runX AW
theorem gq_KGA {H G : Prop} (k : H) (h : Hid H → G := by (intro hh; repeat1' (first | (first | ((first | refine r_none ?_ | refine r_gt (by rfl) (by rfl) zDD (by rfl) ?_ | refine r_gf (by rfl) (by rfl) zDD (by rfl) ?_); (first | refine r_pure2 (by rfl) (by rfl) (fun w => rfl) (by rfl) (by rfl) ?_ | ((first | (refine z_op (by rfl) ?_; first | refine z_ok ?_ ?_ | refine z_ex ?_ (by first | exact zL1 | ((first | refine mk_0 Int rfl rfl ?_); exact zWW) | exact zL2 | exact rw_c Int rfl | exact zL3 | fail) ?_) | ((first | refine q_callE wsT wsZ (by rfl) ?_ | refine q_callVE wsT (by rfl) (by rfl) ?_); refine ⟨_, _, _, (by first | assumption | exact k_within _ _ _ | exact k_okL _ | exact k_natures | exact k_nat1 _ (by assumption) | exact k_nat0 _ (by assumption) | exact k_some _ _ (by first | assumption | decide)), _, by rfl, ?_, ?_⟩)); focus (first | exact trivial | fail | exact zQZ)) | fail)) | refine r_nt (by rfl) (by rfl) zDD (by rfl) ?_ | refine r_nf (by rfl) (by rfl) zDD (by rfl) ?_ | refine r_gu (by rfl) (by rfl) (by rfl) ?_ | refine r_nil ?_) | (first | refine aw_seq ?_ | refine aw_ct (by rfl) zDD ?_ | refine aw_cf (by rfl) zDD ?_ | refine aw_block ?_ | refine aw_region T0ok cfU_ok (by rfl) ?_ | refine aw_skip ?_ | refine aw_exit ?_ | refine ra_step ?_)); exact hh.out)) : G := h ⟨k⟩
theorem ga_KGA {H G : Prop} (k : H) (h : Hid H → G := by (intro hh; (first | refine r_none ?_ | refine r_gt (by rfl) (by rfl) zDD (by rfl) ?_ | refine r_gf (by rfl) (by rfl) zDD (by rfl) ?_); refine z_op (by rfl) ?_; refine z_al ?_ hh.out; focus (first | exact trivial | fail | exact zQZ))) : G := h ⟨k⟩
abbrev gCs (g : Gt) : List AC := [.v (.int .i64 g.k), .v (.int .i64 g.a), .v (.int .i64 g.b), .v (.int .i64 g.c)]
abbrev gV (g : Gt) : AV := .g (.agg (gCs g))
abbrev iRow (l : List Int) : Ent := rwE 3 l
abbrev gRow (l : List Gt) : Ent := rwE 42 l
/-- What is known of a kind: the name's bytes, lines, changes, cost. -/
def ntC (k : Int) : List AC := if k = 0 then [.v (.string ⟨#[110, 111, 116]⟩), .v (.int .i64 1), .v (.int .i64 1), .v (.int .i64 1)] else if k = 1 then [.v (.string ⟨#[99, 111, 112, 121]⟩), .v (.int .i64 3), .v (.int .i64 2), .v (.int .i64 1)] else if k = 2 then [.v (.string ⟨#[98, 111, 116, 104]⟩), .v (.int .i64 7), .v (.int .i64 4), .v (.int .i64 5)] else if k = 3 then [.v (.string ⟨#[115, 119, 97, 112]⟩), .v (.int .i64 3), .v (.int .i64 3), .v (.int .i64 3)] else [.v (.string ⟨#[105, 102]⟩), .v (.int .i64 7), .v (.int .i64 6), .v (.int .i64 7)]
theorem k_natures : Kon Try.prog 45 [] [] (.g (.agg (ntC 0 ++ ntC 1 ++ ntC 2 ++ ntC 3 ++ ntC 4))) [] [] := by
  (refine kon_mk T0ok (fn := Try.f45) (c := Try.f45.body.get rfl) Try.func45 rfl (by rfl) (by rfl) (by rfl) ?_; intro hfit hfe)
  (repeat (first | refine gq_KGA ?_ | (refine ga_KGA ?_; intro _q ⟨_he, _hq⟩)))
  (refine rtA ?_; try rfl)
def ntV (k : Int) : Value := if k = 0 then .agg #[.string ⟨#[110, 111, 116]⟩, .int .i64 1, .int .i64 1, .int .i64 1] else if k = 1 then .agg #[.string ⟨#[99, 111, 112, 121]⟩, .int .i64 3, .int .i64 2, .int .i64 1] else if k = 2 then .agg #[.string ⟨#[98, 111, 116, 104]⟩, .int .i64 7, .int .i64 4, .int .i64 5] else if k = 3 then .agg #[.string ⟨#[115, 119, 97, 112]⟩, .int .i64 3, .int .i64 3, .int .i64 3] else .agg #[.string ⟨#[105, 102]⟩, .int .i64 7, .int .i64 6, .int .i64 7]
theorem k_nat1 (g : Gt) (h : 0 ≤ g.k ∧ g.k ≤ 4) : Kon Try.prog 41 [gV g] [] (.tup [.agg (ntC g.k), .one (.v (.bool true))]) [] [] := by
  obtain ⟨k, a, b, c⟩ := g
  dsimp only at h ⊢
  have h' : k = 0 ∨ k = 1 ∨ k = 2 ∨ k = 3 ∨ k = 4 := by omega
  (refine kon_mk T0ok (fn := Try.f41) (c := Try.f41.body.get rfl) Try.func41 rfl (by rfl) (by rfl) (by rfl) ?_; intro hfit hfe)
  rcases h' with rfl | rfl | rfl | rfl | rfl
  · (repeat (first | refine gq_KGA ?_ | (refine ga_KGA ?_; intro _q ⟨_he, _hq⟩)))
    (refine aw_draw mixed T0ok cfU_ok [(32, [4])] (by rfl) (by kernel_rfl) ?_)
    (first | ((first | refine r_none ?_ | refine r_gt (by rfl) (by rfl) zDD (by rfl) ?_ | refine r_gf (by rfl) (by rfl) zDD (by rfl) ?_); (first | refine r_pure2 (by rfl) (by rfl) (fun w => rfl) (by rfl) (by rfl) ?_ | ((first | (refine z_op (by rfl) ?_; first | refine z_ok ?_ ?_ | refine z_ex ?_ (by first | exact zL1 | ((first | refine mk_0 Int rfl rfl ?_); exact zWW) | exact zL2 | exact rw_c Int rfl | exact zL3 | fail) ?_ | refine z_al ?_ (fun _q ⟨_he, _hq⟩ => ?_)) | ((first | refine q_callE wsT wsZ (by rfl) ?_ | refine q_callVE wsT (by rfl) (by rfl) ?_); refine ⟨_, _, _, (by first | assumption | exact k_within _ _ _ | exact k_okL _ | exact k_natures | exact k_nat1 _ (by assumption) | exact k_nat0 _ (by assumption) | exact k_some _ _ (by first | assumption | decide)), _, by rfl, ?_, ?_⟩)); focus (first | exact trivial | fail | exact zQZ)) | fail)) | refine r_nt (by rfl) (by rfl) zDD (by rfl) ?_ | refine r_nf (by rfl) (by rfl) zDD (by rfl) ?_ | refine r_gu (by rfl) (by rfl) (by rfl) ?_ | refine r_nil ?_)
    (first | ((first | refine r_none ?_ | refine r_gt (by rfl) (by rfl) zDD (by rfl) ?_ | refine r_gf (by rfl) (by rfl) zDD (by rfl) ?_); (first | refine r_pure2 (by rfl) (by rfl) (fun w => rfl) (by rfl) (by rfl) ?_ | ((first | (refine z_op (by rfl) ?_; first | refine z_ok ?_ ?_ | refine z_ex ?_ (by first | exact zL1 | ((first | refine mk_0 Int rfl rfl ?_); exact zWW) | exact zL2 | exact rw_c Int rfl | exact zL3 | fail) ?_ | refine z_al ?_ (fun _q ⟨_he, _hq⟩ => ?_)) | ((first | refine q_callE wsT wsZ (by rfl) ?_ | refine q_callVE wsT (by rfl) (by rfl) ?_); refine ⟨_, _, _, (by first | assumption | exact k_within _ _ _ | exact k_okL _ | exact k_natures | exact k_nat1 _ (by assumption) | exact k_nat0 _ (by assumption) | exact k_some _ _ (by first | assumption | decide)), _, by rfl, ?_, ?_⟩)); focus (first | exact trivial | fail | exact zQZ)) | fail)) | refine r_nt (by rfl) (by rfl) zDD (by rfl) ?_ | refine r_nf (by rfl) (by rfl) zDD (by rfl) ?_ | refine r_gu (by rfl) (by rfl) (by rfl) ?_ | refine r_nil ?_)
    (first | ((first | refine r_none ?_ | refine r_gt (by rfl) (by rfl) zDD (by rfl) ?_ | refine r_gf (by rfl) (by rfl) zDD (by rfl) ?_); (first | refine r_pure2 (by rfl) (by rfl) (fun w => rfl) (by rfl) (by rfl) ?_ | ((first | (refine z_op (by rfl) ?_; first | refine z_ok ?_ ?_ | refine z_ex ?_ (by first | exact zL1 | ((first | refine mk_0 Int rfl rfl ?_); exact zWW) | exact zL2 | exact rw_c Int rfl | exact zL3 | fail) ?_ | refine z_al ?_ (fun _q ⟨_he, _hq⟩ => ?_)) | ((first | refine q_callE wsT wsZ (by rfl) ?_ | refine q_callVE wsT (by rfl) (by rfl) ?_); refine ⟨_, _, _, (by first | assumption | exact k_within _ _ _ | exact k_okL _ | exact k_natures | exact k_nat1 _ (by assumption) | exact k_nat0 _ (by assumption) | exact k_some _ _ (by first | assumption | decide)), _, by rfl, ?_, ?_⟩)); focus (first | exact trivial | fail | exact zQZ)) | fail)) | refine r_nt (by rfl) (by rfl) zDD (by rfl) ?_ | refine r_nf (by rfl) (by rfl) zDD (by rfl) ?_ | refine r_gu (by rfl) (by rfl) (by rfl) ?_ | refine r_nil ?_)
    refine r_none ?_; refine z_op (by rfl) ?_; refine z_ex ?_ (pu_of (r := ntV 0) (fun w => by kernel_rfl) rfl) ?_; focus (first | exact trivial | fail | exact zQZ)
    (repeat (first | refine gq_KGA ?_ | (refine ga_KGA ?_; intro _q ⟨_he, _hq⟩)))
    (refine rtA ?_; try rfl)
  · (repeat (first | refine gq_KGA ?_ | (refine ga_KGA ?_; intro _q ⟨_he, _hq⟩)))
    (refine aw_draw mixed T0ok cfU_ok [(32, [4])] (by rfl) (by kernel_rfl) ?_)
    (first | ((first | refine r_none ?_ | refine r_gt (by rfl) (by rfl) zDD (by rfl) ?_ | refine r_gf (by rfl) (by rfl) zDD (by rfl) ?_); (first | refine r_pure2 (by rfl) (by rfl) (fun w => rfl) (by rfl) (by rfl) ?_ | ((first | (refine z_op (by rfl) ?_; first | refine z_ok ?_ ?_ | refine z_ex ?_ (by first | exact zL1 | ((first | refine mk_0 Int rfl rfl ?_); exact zWW) | exact zL2 | exact rw_c Int rfl | exact zL3 | fail) ?_ | refine z_al ?_ (fun _q ⟨_he, _hq⟩ => ?_)) | ((first | refine q_callE wsT wsZ (by rfl) ?_ | refine q_callVE wsT (by rfl) (by rfl) ?_); refine ⟨_, _, _, (by first | assumption | exact k_within _ _ _ | exact k_okL _ | exact k_natures | exact k_nat1 _ (by assumption) | exact k_nat0 _ (by assumption) | exact k_some _ _ (by first | assumption | decide)), _, by rfl, ?_, ?_⟩)); focus (first | exact trivial | fail | exact zQZ)) | fail)) | refine r_nt (by rfl) (by rfl) zDD (by rfl) ?_ | refine r_nf (by rfl) (by rfl) zDD (by rfl) ?_ | refine r_gu (by rfl) (by rfl) (by rfl) ?_ | refine r_nil ?_)
    (first | ((first | refine r_none ?_ | refine r_gt (by rfl) (by rfl) zDD (by rfl) ?_ | refine r_gf (by rfl) (by rfl) zDD (by rfl) ?_); (first | refine r_pure2 (by rfl) (by rfl) (fun w => rfl) (by rfl) (by rfl) ?_ | ((first | (refine z_op (by rfl) ?_; first | refine z_ok ?_ ?_ | refine z_ex ?_ (by first | exact zL1 | ((first | refine mk_0 Int rfl rfl ?_); exact zWW) | exact zL2 | exact rw_c Int rfl | exact zL3 | fail) ?_ | refine z_al ?_ (fun _q ⟨_he, _hq⟩ => ?_)) | ((first | refine q_callE wsT wsZ (by rfl) ?_ | refine q_callVE wsT (by rfl) (by rfl) ?_); refine ⟨_, _, _, (by first | assumption | exact k_within _ _ _ | exact k_okL _ | exact k_natures | exact k_nat1 _ (by assumption) | exact k_nat0 _ (by assumption) | exact k_some _ _ (by first | assumption | decide)), _, by rfl, ?_, ?_⟩)); focus (first | exact trivial | fail | exact zQZ)) | fail)) | refine r_nt (by rfl) (by rfl) zDD (by rfl) ?_ | refine r_nf (by rfl) (by rfl) zDD (by rfl) ?_ | refine r_gu (by rfl) (by rfl) (by rfl) ?_ | refine r_nil ?_)
    (first | ((first | refine r_none ?_ | refine r_gt (by rfl) (by rfl) zDD (by rfl) ?_ | refine r_gf (by rfl) (by rfl) zDD (by rfl) ?_); (first | refine r_pure2 (by rfl) (by rfl) (fun w => rfl) (by rfl) (by rfl) ?_ | ((first | (refine z_op (by rfl) ?_; first | refine z_ok ?_ ?_ | refine z_ex ?_ (by first | exact zL1 | ((first | refine mk_0 Int rfl rfl ?_); exact zWW) | exact zL2 | exact rw_c Int rfl | exact zL3 | fail) ?_ | refine z_al ?_ (fun _q ⟨_he, _hq⟩ => ?_)) | ((first | refine q_callE wsT wsZ (by rfl) ?_ | refine q_callVE wsT (by rfl) (by rfl) ?_); refine ⟨_, _, _, (by first | assumption | exact k_within _ _ _ | exact k_okL _ | exact k_natures | exact k_nat1 _ (by assumption) | exact k_nat0 _ (by assumption) | exact k_some _ _ (by first | assumption | decide)), _, by rfl, ?_, ?_⟩)); focus (first | exact trivial | fail | exact zQZ)) | fail)) | refine r_nt (by rfl) (by rfl) zDD (by rfl) ?_ | refine r_nf (by rfl) (by rfl) zDD (by rfl) ?_ | refine r_gu (by rfl) (by rfl) (by rfl) ?_ | refine r_nil ?_)
    refine r_none ?_; refine z_op (by rfl) ?_; refine z_ex ?_ (pu_of (r := ntV 1) (fun w => by kernel_rfl) rfl) ?_; focus (first | exact trivial | fail | exact zQZ)
    (repeat (first | refine gq_KGA ?_ | (refine ga_KGA ?_; intro _q ⟨_he, _hq⟩)))
    (refine rtA ?_; try rfl)
  · (repeat (first | refine gq_KGA ?_ | (refine ga_KGA ?_; intro _q ⟨_he, _hq⟩)))
    (refine aw_draw mixed T0ok cfU_ok [(32, [4])] (by rfl) (by kernel_rfl) ?_)
    (first | ((first | refine r_none ?_ | refine r_gt (by rfl) (by rfl) zDD (by rfl) ?_ | refine r_gf (by rfl) (by rfl) zDD (by rfl) ?_); (first | refine r_pure2 (by rfl) (by rfl) (fun w => rfl) (by rfl) (by rfl) ?_ | ((first | (refine z_op (by rfl) ?_; first | refine z_ok ?_ ?_ | refine z_ex ?_ (by first | exact zL1 | ((first | refine mk_0 Int rfl rfl ?_); exact zWW) | exact zL2 | exact rw_c Int rfl | exact zL3 | fail) ?_ | refine z_al ?_ (fun _q ⟨_he, _hq⟩ => ?_)) | ((first | refine q_callE wsT wsZ (by rfl) ?_ | refine q_callVE wsT (by rfl) (by rfl) ?_); refine ⟨_, _, _, (by first | assumption | exact k_within _ _ _ | exact k_okL _ | exact k_natures | exact k_nat1 _ (by assumption) | exact k_nat0 _ (by assumption) | exact k_some _ _ (by first | assumption | decide)), _, by rfl, ?_, ?_⟩)); focus (first | exact trivial | fail | exact zQZ)) | fail)) | refine r_nt (by rfl) (by rfl) zDD (by rfl) ?_ | refine r_nf (by rfl) (by rfl) zDD (by rfl) ?_ | refine r_gu (by rfl) (by rfl) (by rfl) ?_ | refine r_nil ?_)
    (first | ((first | refine r_none ?_ | refine r_gt (by rfl) (by rfl) zDD (by rfl) ?_ | refine r_gf (by rfl) (by rfl) zDD (by rfl) ?_); (first | refine r_pure2 (by rfl) (by rfl) (fun w => rfl) (by rfl) (by rfl) ?_ | ((first | (refine z_op (by rfl) ?_; first | refine z_ok ?_ ?_ | refine z_ex ?_ (by first | exact zL1 | ((first | refine mk_0 Int rfl rfl ?_); exact zWW) | exact zL2 | exact rw_c Int rfl | exact zL3 | fail) ?_ | refine z_al ?_ (fun _q ⟨_he, _hq⟩ => ?_)) | ((first | refine q_callE wsT wsZ (by rfl) ?_ | refine q_callVE wsT (by rfl) (by rfl) ?_); refine ⟨_, _, _, (by first | assumption | exact k_within _ _ _ | exact k_okL _ | exact k_natures | exact k_nat1 _ (by assumption) | exact k_nat0 _ (by assumption) | exact k_some _ _ (by first | assumption | decide)), _, by rfl, ?_, ?_⟩)); focus (first | exact trivial | fail | exact zQZ)) | fail)) | refine r_nt (by rfl) (by rfl) zDD (by rfl) ?_ | refine r_nf (by rfl) (by rfl) zDD (by rfl) ?_ | refine r_gu (by rfl) (by rfl) (by rfl) ?_ | refine r_nil ?_)
    (first | ((first | refine r_none ?_ | refine r_gt (by rfl) (by rfl) zDD (by rfl) ?_ | refine r_gf (by rfl) (by rfl) zDD (by rfl) ?_); (first | refine r_pure2 (by rfl) (by rfl) (fun w => rfl) (by rfl) (by rfl) ?_ | ((first | (refine z_op (by rfl) ?_; first | refine z_ok ?_ ?_ | refine z_ex ?_ (by first | exact zL1 | ((first | refine mk_0 Int rfl rfl ?_); exact zWW) | exact zL2 | exact rw_c Int rfl | exact zL3 | fail) ?_ | refine z_al ?_ (fun _q ⟨_he, _hq⟩ => ?_)) | ((first | refine q_callE wsT wsZ (by rfl) ?_ | refine q_callVE wsT (by rfl) (by rfl) ?_); refine ⟨_, _, _, (by first | assumption | exact k_within _ _ _ | exact k_okL _ | exact k_natures | exact k_nat1 _ (by assumption) | exact k_nat0 _ (by assumption) | exact k_some _ _ (by first | assumption | decide)), _, by rfl, ?_, ?_⟩)); focus (first | exact trivial | fail | exact zQZ)) | fail)) | refine r_nt (by rfl) (by rfl) zDD (by rfl) ?_ | refine r_nf (by rfl) (by rfl) zDD (by rfl) ?_ | refine r_gu (by rfl) (by rfl) (by rfl) ?_ | refine r_nil ?_)
    refine r_none ?_; refine z_op (by rfl) ?_; refine z_ex ?_ (pu_of (r := ntV 2) (fun w => by kernel_rfl) rfl) ?_; focus (first | exact trivial | fail | exact zQZ)
    (repeat (first | refine gq_KGA ?_ | (refine ga_KGA ?_; intro _q ⟨_he, _hq⟩)))
    (refine rtA ?_; try rfl)
  · (repeat (first | refine gq_KGA ?_ | (refine ga_KGA ?_; intro _q ⟨_he, _hq⟩)))
    (refine aw_draw mixed T0ok cfU_ok [(32, [4])] (by rfl) (by kernel_rfl) ?_)
    (first | ((first | refine r_none ?_ | refine r_gt (by rfl) (by rfl) zDD (by rfl) ?_ | refine r_gf (by rfl) (by rfl) zDD (by rfl) ?_); (first | refine r_pure2 (by rfl) (by rfl) (fun w => rfl) (by rfl) (by rfl) ?_ | ((first | (refine z_op (by rfl) ?_; first | refine z_ok ?_ ?_ | refine z_ex ?_ (by first | exact zL1 | ((first | refine mk_0 Int rfl rfl ?_); exact zWW) | exact zL2 | exact rw_c Int rfl | exact zL3 | fail) ?_ | refine z_al ?_ (fun _q ⟨_he, _hq⟩ => ?_)) | ((first | refine q_callE wsT wsZ (by rfl) ?_ | refine q_callVE wsT (by rfl) (by rfl) ?_); refine ⟨_, _, _, (by first | assumption | exact k_within _ _ _ | exact k_okL _ | exact k_natures | exact k_nat1 _ (by assumption) | exact k_nat0 _ (by assumption) | exact k_some _ _ (by first | assumption | decide)), _, by rfl, ?_, ?_⟩)); focus (first | exact trivial | fail | exact zQZ)) | fail)) | refine r_nt (by rfl) (by rfl) zDD (by rfl) ?_ | refine r_nf (by rfl) (by rfl) zDD (by rfl) ?_ | refine r_gu (by rfl) (by rfl) (by rfl) ?_ | refine r_nil ?_)
    (first | ((first | refine r_none ?_ | refine r_gt (by rfl) (by rfl) zDD (by rfl) ?_ | refine r_gf (by rfl) (by rfl) zDD (by rfl) ?_); (first | refine r_pure2 (by rfl) (by rfl) (fun w => rfl) (by rfl) (by rfl) ?_ | ((first | (refine z_op (by rfl) ?_; first | refine z_ok ?_ ?_ | refine z_ex ?_ (by first | exact zL1 | ((first | refine mk_0 Int rfl rfl ?_); exact zWW) | exact zL2 | exact rw_c Int rfl | exact zL3 | fail) ?_ | refine z_al ?_ (fun _q ⟨_he, _hq⟩ => ?_)) | ((first | refine q_callE wsT wsZ (by rfl) ?_ | refine q_callVE wsT (by rfl) (by rfl) ?_); refine ⟨_, _, _, (by first | assumption | exact k_within _ _ _ | exact k_okL _ | exact k_natures | exact k_nat1 _ (by assumption) | exact k_nat0 _ (by assumption) | exact k_some _ _ (by first | assumption | decide)), _, by rfl, ?_, ?_⟩)); focus (first | exact trivial | fail | exact zQZ)) | fail)) | refine r_nt (by rfl) (by rfl) zDD (by rfl) ?_ | refine r_nf (by rfl) (by rfl) zDD (by rfl) ?_ | refine r_gu (by rfl) (by rfl) (by rfl) ?_ | refine r_nil ?_)
    (first | ((first | refine r_none ?_ | refine r_gt (by rfl) (by rfl) zDD (by rfl) ?_ | refine r_gf (by rfl) (by rfl) zDD (by rfl) ?_); (first | refine r_pure2 (by rfl) (by rfl) (fun w => rfl) (by rfl) (by rfl) ?_ | ((first | (refine z_op (by rfl) ?_; first | refine z_ok ?_ ?_ | refine z_ex ?_ (by first | exact zL1 | ((first | refine mk_0 Int rfl rfl ?_); exact zWW) | exact zL2 | exact rw_c Int rfl | exact zL3 | fail) ?_ | refine z_al ?_ (fun _q ⟨_he, _hq⟩ => ?_)) | ((first | refine q_callE wsT wsZ (by rfl) ?_ | refine q_callVE wsT (by rfl) (by rfl) ?_); refine ⟨_, _, _, (by first | assumption | exact k_within _ _ _ | exact k_okL _ | exact k_natures | exact k_nat1 _ (by assumption) | exact k_nat0 _ (by assumption) | exact k_some _ _ (by first | assumption | decide)), _, by rfl, ?_, ?_⟩)); focus (first | exact trivial | fail | exact zQZ)) | fail)) | refine r_nt (by rfl) (by rfl) zDD (by rfl) ?_ | refine r_nf (by rfl) (by rfl) zDD (by rfl) ?_ | refine r_gu (by rfl) (by rfl) (by rfl) ?_ | refine r_nil ?_)
    refine r_none ?_; refine z_op (by rfl) ?_; refine z_ex ?_ (pu_of (r := ntV 3) (fun w => by kernel_rfl) rfl) ?_; focus (first | exact trivial | fail | exact zQZ)
    (repeat (first | refine gq_KGA ?_ | (refine ga_KGA ?_; intro _q ⟨_he, _hq⟩)))
    (refine rtA ?_; try rfl)
  · (repeat (first | refine gq_KGA ?_ | (refine ga_KGA ?_; intro _q ⟨_he, _hq⟩)))
    (refine aw_draw mixed T0ok cfU_ok [(32, [4])] (by rfl) (by kernel_rfl) ?_)
    (first | ((first | refine r_none ?_ | refine r_gt (by rfl) (by rfl) zDD (by rfl) ?_ | refine r_gf (by rfl) (by rfl) zDD (by rfl) ?_); (first | refine r_pure2 (by rfl) (by rfl) (fun w => rfl) (by rfl) (by rfl) ?_ | ((first | (refine z_op (by rfl) ?_; first | refine z_ok ?_ ?_ | refine z_ex ?_ (by first | exact zL1 | ((first | refine mk_0 Int rfl rfl ?_); exact zWW) | exact zL2 | exact rw_c Int rfl | exact zL3 | fail) ?_ | refine z_al ?_ (fun _q ⟨_he, _hq⟩ => ?_)) | ((first | refine q_callE wsT wsZ (by rfl) ?_ | refine q_callVE wsT (by rfl) (by rfl) ?_); refine ⟨_, _, _, (by first | assumption | exact k_within _ _ _ | exact k_okL _ | exact k_natures | exact k_nat1 _ (by assumption) | exact k_nat0 _ (by assumption) | exact k_some _ _ (by first | assumption | decide)), _, by rfl, ?_, ?_⟩)); focus (first | exact trivial | fail | exact zQZ)) | fail)) | refine r_nt (by rfl) (by rfl) zDD (by rfl) ?_ | refine r_nf (by rfl) (by rfl) zDD (by rfl) ?_ | refine r_gu (by rfl) (by rfl) (by rfl) ?_ | refine r_nil ?_)
    (first | ((first | refine r_none ?_ | refine r_gt (by rfl) (by rfl) zDD (by rfl) ?_ | refine r_gf (by rfl) (by rfl) zDD (by rfl) ?_); (first | refine r_pure2 (by rfl) (by rfl) (fun w => rfl) (by rfl) (by rfl) ?_ | ((first | (refine z_op (by rfl) ?_; first | refine z_ok ?_ ?_ | refine z_ex ?_ (by first | exact zL1 | ((first | refine mk_0 Int rfl rfl ?_); exact zWW) | exact zL2 | exact rw_c Int rfl | exact zL3 | fail) ?_ | refine z_al ?_ (fun _q ⟨_he, _hq⟩ => ?_)) | ((first | refine q_callE wsT wsZ (by rfl) ?_ | refine q_callVE wsT (by rfl) (by rfl) ?_); refine ⟨_, _, _, (by first | assumption | exact k_within _ _ _ | exact k_okL _ | exact k_natures | exact k_nat1 _ (by assumption) | exact k_nat0 _ (by assumption) | exact k_some _ _ (by first | assumption | decide)), _, by rfl, ?_, ?_⟩)); focus (first | exact trivial | fail | exact zQZ)) | fail)) | refine r_nt (by rfl) (by rfl) zDD (by rfl) ?_ | refine r_nf (by rfl) (by rfl) zDD (by rfl) ?_ | refine r_gu (by rfl) (by rfl) (by rfl) ?_ | refine r_nil ?_)
    (first | ((first | refine r_none ?_ | refine r_gt (by rfl) (by rfl) zDD (by rfl) ?_ | refine r_gf (by rfl) (by rfl) zDD (by rfl) ?_); (first | refine r_pure2 (by rfl) (by rfl) (fun w => rfl) (by rfl) (by rfl) ?_ | ((first | (refine z_op (by rfl) ?_; first | refine z_ok ?_ ?_ | refine z_ex ?_ (by first | exact zL1 | ((first | refine mk_0 Int rfl rfl ?_); exact zWW) | exact zL2 | exact rw_c Int rfl | exact zL3 | fail) ?_ | refine z_al ?_ (fun _q ⟨_he, _hq⟩ => ?_)) | ((first | refine q_callE wsT wsZ (by rfl) ?_ | refine q_callVE wsT (by rfl) (by rfl) ?_); refine ⟨_, _, _, (by first | assumption | exact k_within _ _ _ | exact k_okL _ | exact k_natures | exact k_nat1 _ (by assumption) | exact k_nat0 _ (by assumption) | exact k_some _ _ (by first | assumption | decide)), _, by rfl, ?_, ?_⟩)); focus (first | exact trivial | fail | exact zQZ)) | fail)) | refine r_nt (by rfl) (by rfl) zDD (by rfl) ?_ | refine r_nf (by rfl) (by rfl) zDD (by rfl) ?_ | refine r_gu (by rfl) (by rfl) (by rfl) ?_ | refine r_nil ?_)
    refine r_none ?_; refine z_op (by rfl) ?_; refine z_ex ?_ (pu_of (r := ntV 4) (fun w => by kernel_rfl) rfl) ?_; focus (first | exact trivial | fail | exact zQZ)
    (repeat (first | refine gq_KGA ?_ | (refine ga_KGA ?_; intro _q ⟨_he, _hq⟩)))
    (refine rtA ?_; try rfl)
theorem k_nat0 (g : Gt) (h : btw g.k 0 4 = false) : Kon Try.prog 41 [gV g] [] (.tup [.agg [.v (.string ⟨#[]⟩), .v (.int .i64 0), .v (.int .i64 0), .v (.int .i64 0)], .one (.v (.bool false))]) [] [] := by
  (refine kon_mk T0ok (fn := Try.f41) (c := Try.f41.body.get rfl) Try.func41 rfl (by rfl) (by rfl) (by rfl) ?_; intro hfit hfe)
  (repeat (first | refine gq_KGA ?_ | (refine ga_KGA ?_; intro _q ⟨_he, _hq⟩)))
  (refine rtA ?_; try rfl)
/-- Some of the lines. -/
def smL (s : Int) (g : Gt) : List Int := if s = 1 then [g.a] else if s = 2 then [g.b] else if s = 3 then [g.a, g.b] else if s = 4 then [g.c] else if s = 6 then [g.b, g.c] else if s = 7 then [g.a, g.b, g.c] else if s = -2 then [g.b, g.c] else if s = -4 then [g.c] else []
def okSet (s : Int) : Prop := s = 1 ∨ s = 2 ∨ s = 3 ∨ s = 4 ∨ s = 6 ∨ s = 7 ∨ s = -2 ∨ s = -4 ∨ s = -8
instance (s : Int) : Decidable (okSet s) := by unfold okSet; infer_instance
set_option maxHeartbeats 4000000 in
theorem k_some (g : Gt) (s : Int) (h : okSet s) : Kon Try.prog 42 [gV g, vI s] [] (slA 0 0 (smL s g)) [iRow (smL s g)] [] := by
  (refine kon_mk T0ok (fn := Try.f42) (c := Try.f42.body.get rfl) Try.func42 rfl (by rfl) (by rfl) (by rfl) ?_; intro hfit hfe)
  rcases h with rfl | rfl | rfl | rfl | rfl | rfl | rfl | rfl | rfl
  all_goals
    repeat (first | (first | refine aw_seq ?_ | refine aw_ct (by rfl) zDD ?_ | refine aw_cf (by rfl) zDD ?_ | refine aw_block ?_ | refine aw_region T0ok cfU_ok (by rfl) ?_ | refine aw_skip ?_ | refine aw_exit ?_ | refine ra_step ?_) | (first | ((first | refine r_none ?_ | refine r_gt (by rfl) (by rfl) zDD (by rfl) ?_ | refine r_gf (by rfl) (by rfl) zDD (by rfl) ?_); (first | refine r_pure2 (by rfl) (by rfl) (fun w => rfl) (by rfl) (by rfl) ?_ | ((first | (refine z_op (by rfl) ?_; first | refine z_ok ?_ ?_ | refine z_ex ?_ (by first | exact zL1 | ((first | refine mk_0 Int rfl rfl ?_); exact zWW) | exact zL2 | exact rw_c Int rfl | exact zL3 | fail) ?_ | refine z_al ?_ (fun _q ⟨_he, _hq⟩ => ?_)) | ((first | refine q_callE wsT wsZ (by rfl) ?_ | refine q_callVE wsT (by rfl) (by rfl) ?_); refine ⟨_, _, _, (by first | assumption | exact k_within _ _ _ | exact k_okL _ | exact k_natures | exact k_nat1 _ (by assumption) | exact k_nat0 _ (by assumption) | exact k_some _ _ (by first | assumption | decide)), _, by rfl, ?_, ?_⟩)); focus (first | exact trivial | fail | exact zQZ)) | fail)) | refine r_nt (by rfl) (by rfl) zDD (by rfl) ?_ | refine r_nf (by rfl) (by rfl) zDD (by rfl) ?_ | refine r_gu (by rfl) (by rfl) (by rfl) ?_ | refine r_nil ?_) | refine aw_unroll 5 ?_)
    (refine rtA ?_; try rfl)
def lns (g : Gt) : List Int := if g.k = 0 then [g.a] else if g.k = 1 ∨ g.k = 3 then [g.a, g.b] else if g.k = 2 ∨ g.k = 4 then [g.a, g.b, g.c] else []














end Go.Proofs.Ytfcadkdgichpmaa

/- Drawn gates: the order of lines, a gate. -/
namespace Go.Proofs.Ytfcadkdgichpmaa
set_option linter.unusedVariables false
set_option linter.unusedSimpArgs false
set_option maxRecDepth 20000
open Go.RowKit
attribute [local irreducible] runA runX AW
theorem gq_KGP {H G : Prop} (k : H) (h : Hid H → G := by (intro hh; repeat1' (first | (first | ((first | refine r_none ?_ | refine r_gt (by rfl) (by rfl) zDD (by rfl) ?_ | refine r_gf (by rfl) (by rfl) zDD (by rfl) ?_); (first | fail | ((first | (refine z_op (by rfl) ?_; first | refine z_ok ?_ ?_ | refine z_ex ?_ (by first | exact zL1 | ((first | fail); exact zWW) | exact zL2 | exact rw_c Int rfl | exact zL3 | exact ct_t (l := ordN l c k) rfl rfl rfl (by omega) (by rw [hl]; simp; omega)) ?_) | ((first | refine q_callE wsT wsZ (by rfl) ?_ | refine q_callVE wsT (by rfl) (by rfl) ?_); refine ⟨_, _, _, (by first | assumption | exact k_pick _ _ _ (by omega) | exact k_odd0 _ _ _ (by omega) | exact k_odd _ _ _ (by omega)), _, by rfl, ?_, ?_⟩)); focus (first | exact trivial | fail | exact zQZ)) | fail)) | refine r_nt (by rfl) (by rfl) zDD (by rfl) ?_ | refine r_nf (by rfl) (by rfl) zDD (by rfl) ?_ | refine r_gu (by rfl) (by rfl) (by rfl) ?_ | refine r_nil ?_) | (first | refine aw_seq ?_ | refine aw_ct (by rfl) zDD ?_ | refine aw_cf (by rfl) zDD ?_ | refine aw_block ?_ | refine aw_region T0ok cfU_ok (by rfl) ?_ | refine aw_skip ?_ | refine aw_exit ?_ | refine ra_step ?_)); exact hh.out)) : G := h ⟨k⟩
theorem ga_KGP {H G : Prop} (k : H) (h : Hid H → G := by (intro hh; (first | refine r_none ?_ | refine r_gt (by rfl) (by rfl) zDD (by rfl) ?_ | refine r_gf (by rfl) (by rfl) zDD (by rfl) ?_); refine z_op (by rfl) ?_; refine z_alV ?_ hh.out; focus (first | exact trivial | fail | exact zQZ))) : G := h ⟨k⟩
theorem gs_KGP {H G : Prop} (k : H) (h : Hid H → G := by (intro hh; repeat1' (first | ((first | refine r_none ?_ | refine r_gt (by rfl) (by rfl) zDD (by rfl) ?_ | refine r_gf (by rfl) (by rfl) zDD (by rfl) ?_); (first | fail | ((first | (refine z_op (by rfl) ?_; first | refine z_ok ?_ ?_ | refine z_ex ?_ (by first | exact zL1 | ((first | fail); exact zWW) | exact zL2 | exact rw_c Int rfl | exact zL3 | exact ct_t (l := ordN l c k) rfl rfl rfl (by omega) (by rw [hl]; simp; omega)) ?_) | ((first | refine q_callE wsT wsZ (by rfl) ?_ | refine q_callVE wsT (by rfl) (by rfl) ?_); refine ⟨_, _, _, (by first | assumption | exact k_pick _ _ _ (by omega) | exact k_odd0 _ _ _ (by omega) | exact k_odd _ _ _ (by omega)), _, by rfl, ?_, ?_⟩)); focus (first | exact trivial | fail | exact zQZ)) | fail)) | refine r_nt (by rfl) (by rfl) zDD (by rfl) ?_ | refine r_nf (by rfl) (by rfl) zDD (by rfl) ?_ | refine r_gu (by rfl) (by rfl) (by rfl) ?_ | refine r_nil ?_); exact hh.out)) : G := h ⟨k⟩
theorem put_far (S : St) (i : Nat) (x : Option AV) : (S.put i x).G 100000 = S.G 100000 := rfl
theorem lay_far (S : St) {i : Nat} (x : Option (Nat × Ent)) (h : Nat.blt i 100000 = true) : (S.lay i x).G 100000 = S.G 100000 := upd_ne S.G x (by have := blt_lt h; omega)
theorem gin0 (e : Ent) (es : List Ent) : Gin (e :: es) 100000 = some (0, e) := by simp [Gin]
theorem wx_pieceC {P : Program} {T : Tab} {S : St} {nt : Nat} {K : St → Prop} {α : Type} [Cel α] (hT : TabOk P T) {t e sz by' j r n i r2 n2 d1 d2 tx tl ty ty1 ty2 : Nat} {p : Int} {pos pos2 : String} {af af2 : Array Edge} {agg : Bool} {z : List Value} {l l2 : List α} {ops : Array Oper} {rest : List Oper}
    (hd : (Nat.blt d1 nt && Nat.blt d2 nt && !(Nat.beq d1 ty)) = true) (hl : find1 T.elt t = some (none, e, agg, sz, by')) (hz : find1 T.zer e = some z) (hzl : z.length = sz) (hx : S.E tx = some (.g (.one (.sl j r n)))) (hp : S.E tl = some (vI p)) (hG : S.G j = some (r, .row (some e) sz (cV l))) (hy : S.E ty = some (.g (.one (.sl i r2 n2)))) (hG2 : S.G i = some (r2, .row (some e) sz (cV l2)))
    (hb : Nat.ble by' 1000 = true) (hs : sz = Cel.sz α) (h3 : n = l.length ∧ n2 = l2.length ∧ 0 ≤ p ∧ p ≤ n ∧ n ≤ 1000000 ∧ n2 ≤ 1000000)
    (hk : WX P nt ops rest (((S.put d1 none).lay i (some (r2 + 1, .row (some e) sz (cV (l2 ++ l.drop p.toNat))))).put d2 (some (.g (.one (.sl i (r2 + 1) ((l2 ++ l.drop p.toNat).length)))))) K) :
    WX P nt ops (⟨some d1, .slice t (.tmp tx) (some (.tmp tl)) none none, ty1, pos, af, none⟩ :: ⟨some d2, .call { callee := .builtin .append, args := #[.tmp ty, .tmp d1], argTypes := #[t, t] }, ty2, pos2, af2, none⟩ :: rest) S K := by
  obtain ⟨rfl, rfl, h3⟩ := h3
  subst hs
  refine wx_piece hT hd hl hz hzl hx hp hG hy hG2 hb (cV_len l) (cV_len l2) h3 ?_
  have ec : cV l2 ++ cV (l.drop p.toNat) = cV (l2 ++ l.drop p.toNat) := cV_append _ _
  rw [cV_drop, ec]
  have e : l2.length + ((l.length : Int) - p).toNat = (l2 ++ l.drop p.toNat).length := by rw [List.length_append, List.length_drop]; omega
  rw [e]
  exact hk
/-- Lines in some order. -/
def ordN (l : List UInt8) (c : Int) : Nat → List Int
  | 0 => []
  | k + 1 => ((ordN l c k).take (pickI l (c + (k : Int)) ((k : Int) + 1)).toNat ++ [(k : Int)]) ++ (ordN l c k).drop (pickI l (c + (k : Int)) ((k : Int) + 1)).toNat
theorem ordN_len (l : List UInt8) (c : Int) : ∀ k, (ordN l c k).length = k
  | 0 => rfl
  | k + 1 => by
    have h := pickI_lt (l := l) (c := c + (k : Int)) (n := (k : Int) + 1) (by omega)
    simp only [ordN, List.length_append, List.length_take, List.length_drop, List.length_cons, List.length_nil, ordN_len l c k]
    omega
theorem ordN_bd (l : List UInt8) (c : Int) : ∀ k, ∀ x ∈ ordN l c k, 0 ≤ x ∧ x < (k : Int)
  | 0 => fun x hx => by cases hx
  | k + 1 => fun x hx => by
    simp only [ordN, List.mem_append, List.mem_cons, List.not_mem_nil, or_false] at hx
    rcases hx with (hx | hx) | hx
    · have := ordN_bd l c k x (List.mem_of_mem_take hx); omega
    · omega
    · have := ordN_bd l c k x (List.mem_of_mem_drop hx); omega
theorem ordN_at (l : List UInt8) (c : Int) (k i : Nat) (h : i < k) : 0 ≤ (ordN l c k).getD i 0 ∧ (ordN l c k).getD i 0 < (k : Int) := by
  have hi : i < (ordN l c k).length := by rw [ordN_len]; exact h
  have e : (ordN l c k).getD i 0 = (ordN l c k)[i] := by simp [List.getD_eq_getElem?_getD, hi]
  rw [e]
  exact ordN_bd l c k _ (List.getElem_mem hi)
/-- A drawn gate, step by step; with each the place of the reader. -/
def gtA (l : List UInt8) (c : Int) (M : Nat) : Gt × Int := (⟨pickI l (c + (M : Int)) 5, (ordN l c M).getD 0 0, (ordN l c M).getD 1 0, (ordN l c M).getD 2 0⟩, c + (M : Int) + 1)
def gtB (n : Int) (x : Gt × Int) : Gt × Int := bif n == 1 then (⟨0, 0, 0, 0⟩, x.2) else x
def gtC (l : List UInt8) (n : Int) (x : Gt × Int) : Gt × Int := bif n == 2 then (⟨([0, 1, 3] : List Int).getD (pickI l x.2 3).toNat 0, pickI l (x.2 + 1) 2, 1 - pickI l (x.2 + 1) 2, 0⟩, x.2 + 1 + 1) else x
def gtD (x : Gt × Int) : Gt × Int := bif x.1.k == 0 then (⟨x.1.k, x.1.a, 0, x.1.c⟩, x.2) else x
def gtE (x : Gt × Int) : Gt × Int := bif (x.1.k == 0) || ((x.1.k == 1) || (x.1.k == 3)) then (⟨x.1.k, x.1.a, x.1.b, 0⟩, x.2) else x
/-- A fault put in. -/
def gtF (l : List UInt8) (n : Int) (x : Gt × Int) : Gt × Int :=
  bif pickI l x.2 4 == 0 then (⟨([-1, 5] : List Int).getD (pickI l (x.2 + 1) 2).toNat 0, x.1.a, x.1.b, x.1.c⟩, x.2 + 1 + 1)
  else bif pickI l x.2 4 == 1 then (⟨x.1.k, n, x.1.b, x.1.c⟩, x.2 + 1)
  else bif pickI l x.2 4 == 2 then (⟨x.1.k, x.1.a, x.1.a, x.1.c⟩, x.2 + 1)
  else (⟨x.1.k, x.1.a, x.1.b, -1⟩, x.2 + 1)
def gtG (l : List UInt8) (n q : Int) (x : Gt × Int) : Gt × Int := bif decide (q > 0) then (bif pickI l x.2 q == q - 1 then gtF l n (x.1, x.2 + 1) else (x.1, x.2 + 1)) else x
def gtN (l : List UInt8) (c n q : Int) (M : Nat) : Gt × Int := gtG l n q (gtE (gtD (gtC l n (gtB n (gtA l c M)))))
theorem k_odd0 (l : List UInt8) (c n : Int) (h : n ≤ 0) : Kon Try.prog 26 [p0, vI n] [rdE l c] (vB false) [] [rdE l c] := by
  have hd : decide (n > 0) = false := decide_eq_false (by omega)
  (refine kon_mk T0ok (fn := Try.f26) (c := Try.f26.body.get rfl) Try.func26 rfl (by rfl) (by rfl) (by rfl) ?_; intro hfit hfe)
  (repeat (first | refine gq_KGP ?_ | (refine ga_KGP ?_; intro _hq)))
  (refine rtA ?_; try rfl)
set_option maxHeartbeats 4000000 in
theorem k_gate (l : List UInt8) (c n q : Int) (M : Nat) (hM : (if (3 : Int) > n then 3 else n) = (M : Int)) (hn : 1 ≤ n ∧ n ≤ 8) (h : 0 ≤ c ∧ c ≤ 100000 ∧ l.length ≤ 2000) (hq : q ≤ 1000) : Kon Try.prog 39 [p0, vI n, vI q] [rdE l c] (gV (gtN l c n q M).1) [] [rdE l (gtN l c n q M).2] := by
  (refine kon_mk T0ok (fn := Try.f39) (c := Try.f39.body.get rfl) Try.func39 rfl (by rfl) (by rfl) (by rfl) ?_; intro hfit hfe)
  (repeat (first | refine gq_KGP ?_ | (refine ga_KGP ?_; intro _hq)))
  have hc0 : c + ((0 : Nat) : Int) = c := by omega
  refine aw_rd [0, 1, 2, 6] [96] (fun k : Nat => [(7, .g (.one (.sl 192 (2 * k) k))), (8, vI k)]) (fun k => [(192, (2 * k, iRow (ordN l c k))), (100000, (0, rdE l (c + k)))]) (fun k => k ≤ M) (fun k => M - k) 0 (by rfl) (by rfl) ?_ (by rfl) zHE ⟨by rfl, by rw [hc0]; (repeat (first | rw [put_far] | rw [lay_far _ _ (by rfl)])); exact gin0 (rdE l c) [], trivial⟩ ?_
  · exact Nat.zero_le _
  rintro k hk
  rcases Nat.lt_or_ge k M with h5 | h5
  · have hd : decide ((k : Int) < if (3 : Int) > n then 3 else n) = true := decide_eq_true (by omega)
    have hM8 : M ≤ 8 := by omega
    have hp := pickI_lt (l := l) (c := c + (k : Int)) (n := (k : Int) + 1) (by omega)
    have hl := ordN_len l c k
    have hcl : (cV (ordN l c k)).length = k := by rw [cV_len, hl]; exact Nat.mul_one k
    have hz1 : k * Cel.sz Int = k := Nat.mul_one k
    repeat (first | refine aw_seq ?_ | refine aw_ct (by rfl) zDD ?_ | refine aw_cf (by rfl) zDD ?_ | refine aw_block ?_ | refine aw_region T0ok cfU_ok (by rfl) ?_ | refine aw_skip ?_ | refine aw_exit ?_ | refine ra_step ?_)
    (repeat (first | refine gs_KGP ?_ | (refine ga_KGP ?_; intro _hq)))
    repeat (first | refine aw_seq ?_ | refine aw_ct (by rfl) zDD ?_ | refine aw_cf (by rfl) zDD ?_ | refine aw_block ?_ | refine aw_region T0ok cfU_ok (by rfl) ?_ | refine aw_skip ?_ | refine aw_exit ?_ | refine ra_step ?_)
    (repeat (first | refine gs_KGP ?_ | (refine ga_KGP ?_; intro _hq)))
    refine aw_seq ?_
    refine wx_region ?_
    refine wx_run 3 T0ok cfU_ok (by rfl) ?_
    (repeat (first | refine gs_KGP ?_ | (refine ga_KGP ?_; intro _hq)))
    refine wx_pieceC (α := Int) (l := ordN l c k) (l2 := []) T0ok (by rfl) (by rfl) (by rfl) (by rfl) (by rfl) (by rfl) (by rfl) (by rfl) (by rfl) (by rfl) (by rfl) ⟨hl.symm, rfl, by omega, by omega, by omega, by simp⟩ ?_
    refine wx_end T0ok cfU_ok (i := 5) (by rfl) ?_
    (repeat (first | refine gq_KGP ?_ | (refine ga_KGP ?_; intro _hq)))
    have hc1 : c + (k : Int) + 1 = c + ((k + 1 : Nat) : Int) := by omega
    exact ⟨k + 1, h5, ⟨by rfl, ⟨Eq.trans (b := some (.g (.one (.sl 192 (2 * (k + 1)) (ordN l c (k + 1)).length)))) (by rfl) (by rw [ordN_len]), zHE⟩, ⟨by rfl, Eq.trans (b := some (0, rdE l (c + (k : Int) + 1))) (by rfl) (by rw [hc1]), zHE⟩⟩, (by first | omega | (dsimp only; omega))⟩
  · have hd : decide ((k : Int) < if (3 : Int) > n then 3 else n) = false := decide_eq_false (by omega)
    obtain rfl : k = M := by omega
    have hl := ordN_len l c k
    have hk8 : 3 ≤ k ∧ k ≤ 8 := by omega
    (repeat (first | refine gq_KGP ?_ | (refine ga_KGP ?_; intro _hq)))
    (refine aw_draw mixed T0ok cfU_ok [(100000, [1]), (176, [12, 13])] (by rfl) (by kernel_rfl) ?_)
    (repeat (first | refine gs_KGP ?_ | (refine ga_KGP ?_; intro _hq)))
    change AW _ _ (Code.seq _ _) _ _
    refine aw_cutg [0, 1, 2, 6, 11] [96] (fun g : Gt × Int => []) (fun g => [(176, (0, .box (gCs g.1))), (100000, (0, rdE l g.2))]) (fun g => g = gtB n (gtA l c k)) (by rfl) (by rfl) ?_ ?_
    · cases h1 : (n == 1)
      all_goals (repeat (first | refine gq_KGP ?_ | (refine ga_KGP ?_; intro _hq)))
      · exact ⟨gtA l c k, by rw [gtB, h1]; rfl, ⟨by rfl, zHE, zHE⟩⟩
      · exact ⟨(⟨0, 0, 0, 0⟩, (gtA l c k).2), by rw [gtB, h1]; rfl, ⟨by rfl, zHE, zHE⟩⟩
    rintro ⟨g, c1⟩ he
    have hc1 : c ≤ c1 ∧ c1 ≤ c + 9 := by
      have : c1 = c + (k : Int) + 1 := by
        have h2 := congrArg Prod.snd he
        unfold gtB at h2
        cases h1 : (n == 1) <;> rw [h1] at h2 <;> exact h2
      omega
    rw [gtN, ← he]
    clear he
    dsimp only
    refine aw_cutg [0, 1, 2, 6, 11] [96] (fun g : Gt × Int => []) (fun g => [(176, (0, .box (gCs g.1))), (100000, (0, rdE l g.2))]) (fun x => x = gtC l n (g, c1)) (by rfl) (by rfl) ?_ ?_
    · have hp3 := pickI_lt (l := l) (c := c1) (n := 3) (by omega)
      have hp2 := pickI_lt (l := l) (c := c1 + 1) (n := 2) (by omega)
      cases h1 : (n == 2)
      · (repeat (first | refine gq_KGP ?_ | (refine ga_KGP ?_; intro _hq)))
        exact ⟨(g, c1), by rw [gtC, h1]; rfl, ⟨by rfl, zHE, zHE⟩⟩
      · (repeat (first | refine gq_KGP ?_ | (refine ga_KGP ?_; intro _hq)))
        (refine aw_draw mixed T0ok cfU_ok [(100000, [2, 6]), (176, [8])] (by rfl) (by kernel_rfl) ?_)
        (repeat (first | refine gq_KGP ?_ | (refine ga_KGP ?_; intro _hq)))
        exact ⟨(⟨([0, 1, 3] : List Int).getD (pickI l c1 3).toNat 0, pickI l (c1 + 1) 2, 1 - pickI l (c1 + 1) 2, 0⟩, c1 + 1 + 1), by rw [gtC, h1]; rfl, ⟨by rfl, zHE, zHE⟩⟩
    rintro ⟨g2, c2⟩ he
    have hc2 : c ≤ c2 ∧ c2 ≤ c + 11 := by
      have h2 := congrArg Prod.snd he
      unfold gtC at h2
      cases h1 : (n == 2) <;> rw [h1] at h2 <;> (dsimp only [cond_true, cond_false] at h2; omega)
    rw [← he]
    clear he
    dsimp only
    refine aw_cutg [0, 1, 2, 6, 11] [96] (fun g : Gt × Int => []) (fun g => [(176, (0, .box (gCs g.1))), (100000, (0, rdE l g.2))]) (fun x => x = gtD (g2, c2)) (by rfl) (by rfl) ?_ ?_
    · cases h1 : (g2.k == 0)
      all_goals (repeat (first | refine gq_KGP ?_ | (refine ga_KGP ?_; intro _hq)))
      · exact ⟨(g2, c2), by rw [gtD]; dsimp only; rw [h1]; rfl, ⟨by rfl, zHE, zHE⟩⟩
      · exact ⟨(⟨g2.k, g2.a, 0, g2.c⟩, c2), by rw [gtD]; dsimp only; rw [h1]; rfl, ⟨by rfl, zHE, zHE⟩⟩
    rintro ⟨g3, c3⟩ he
    have hc3 : c3 = c2 := by
      have h2 := congrArg Prod.snd he
      unfold gtD at h2
      cases h1 : (g2.k == 0) <;> rw [h1] at h2 <;> exact h2
    subst hc3
    rw [← he]
    clear he
    dsimp only
    refine aw_cutg [0, 1, 2, 6, 11] [96] (fun g : Gt × Int => []) (fun g => [(176, (0, .box (gCs g.1))), (100000, (0, rdE l g.2))]) (fun x => x = gtE (g3, c3)) (by rfl) (by rfl) ?_ ?_
    · cases h1 : (g3.k == 0) <;> cases h2 : (g3.k == 1) <;> cases h3 : (g3.k == 3)
      all_goals (repeat (first | refine gq_KGP ?_ | (refine ga_KGP ?_; intro _hq)))
      all_goals first | exact ⟨(g3, c3), by rw [gtE]; dsimp only; rw [h1, h2, h3]; rfl, ⟨by rfl, zHE, zHE⟩⟩ | exact ⟨(⟨g3.k, g3.a, g3.b, 0⟩, c3), by rw [gtE]; dsimp only; rw [h1]; (try rw [h2]); (try rw [h3]); rfl, ⟨by rfl, zHE, zHE⟩⟩
    rintro ⟨g4, c4⟩ he
    have hc4 : c4 = c3 := by
      have h2 := congrArg Prod.snd he
      unfold gtE at h2
      dsimp only at h2
      cases h1 : ((g3.k == 0) || ((g3.k == 1) || (g3.k == 3))) <;> rw [h1] at h2 <;> exact h2
    subst hc4
    rw [← he]
    clear he
    dsimp only
    cases hq0 : decide (q > 0) with
    | false =>
      have hq1 : q ≤ 0 := by have := of_decide_eq_false hq0; omega
      have e : gtG l n q (g4, c4) = (g4, c4) := by rw [gtG, hq0]; rfl
      rw [e]
      clear e
      (repeat (first | refine gq_KGP ?_ | (refine ga_KGP ?_; intro _hq)))
      (refine rtA ?_; try rfl)
    | true =>
      have hq1 : 0 < q := of_decide_eq_true hq0
      cases hv : (pickI l c4 q == q - 1) with
      | false =>
        have e : gtG l n q (g4, c4) = (g4, c4 + 1) := by rw [gtG, hq0]; dsimp only [cond_true]; rw [hv]; rfl
        rw [e]
        clear e
        (repeat (first | refine gq_KGP ?_ | (refine ga_KGP ?_; intro _hq)))
        (refine rtA ?_; try rfl)
      | true =>
        have e : gtG l n q (g4, c4) = gtF l n (g4, c4 + 1) := by rw [gtG, hq0]; dsimp only [cond_true]; rw [hv]; rfl
        rw [e]
        clear e
        have hp4 := pickI_lt (l := l) (c := c4 + 1) (n := 4) (by omega)
        have hp2 := pickI_lt (l := l) (c := c4 + 1 + 1) (n := 2) (by omega)
        cases f0 : (pickI l (c4 + 1) 4 == 0)
        rotate_left
        · have e : gtF l n (g4, c4 + 1) = (⟨([-1, 5] : List Int).getD (pickI l (c4 + 1 + 1) 2).toNat 0, g4.a, g4.b, g4.c⟩, c4 + 1 + 1 + 1) := by rw [gtF]; dsimp only; rw [f0]; rfl
          rw [e]
          clear e
          (repeat (first | refine gq_KGP ?_ | (refine ga_KGP ?_; intro _hq)))
          (refine rtA ?_; try rfl)
        cases f1 : (pickI l (c4 + 1) 4 == 1)
        rotate_left
        · have e : gtF l n (g4, c4 + 1) = (⟨g4.k, n, g4.b, g4.c⟩, c4 + 1 + 1) := by rw [gtF]; dsimp only; rw [f0, f1]; rfl
          rw [e]
          clear e
          (repeat (first | refine gq_KGP ?_ | (refine ga_KGP ?_; intro _hq)))
          (refine rtA ?_; try rfl)
        cases f2 : (pickI l (c4 + 1) 4 == 2)
        rotate_left
        · have e : gtF l n (g4, c4 + 1) = (⟨g4.k, g4.a, g4.a, g4.c⟩, c4 + 1 + 1) := by rw [gtF]; dsimp only; rw [f0, f1, f2]; rfl
          rw [e]
          clear e
          (repeat (first | refine gq_KGP ?_ | (refine ga_KGP ?_; intro _hq)))
          (refine rtA ?_; try rfl)
        · have e : gtF l n (g4, c4 + 1) = (⟨g4.k, g4.a, g4.b, -1⟩, c4 + 1 + 1) := by rw [gtF]; dsimp only; rw [f0, f1, f2]; rfl
          rw [e]
          clear e
          (repeat (first | refine gq_KGP ?_ | (refine ga_KGP ?_; intro _hq)))
          (refine rtA ?_; try rfl)
/-- What is known of drawn gates. -/
def gbd (x : Gt × Int) (c : Int) (d : Int) : Prop := (-1 ≤ x.1.k ∧ x.1.k ≤ 5) ∧ (-1 ≤ x.1.a ∧ x.1.a ≤ 8) ∧ (-1 ≤ x.1.b ∧ x.1.b ≤ 8) ∧ (-1 ≤ x.1.c ∧ x.1.c ≤ 8) ∧ c ≤ x.2 ∧ x.2 ≤ c + d
theorem gtN_bd (l : List UInt8) (c n q : Int) (M : Nat) (hn : 1 ≤ n ∧ n ≤ 8) (hM : 3 ≤ M ∧ M ≤ 8) : gbd (gtN l c n q M) c 20 := by
  have hA : gbd (gtA l c M) c 9 := by
    have h1 := pickI_lt (l := l) (c := c + (M : Int)) (n := 5) (by omega)
    have h2 := ordN_at l c M 0 (by omega)
    have h3 := ordN_at l c M 1 (by omega)
    have h4 := ordN_at l c M 2 (by omega)
    unfold gbd gtA
    dsimp only
    omega
  have hB : gbd (gtB n (gtA l c M)) c 9 := by
    unfold gtB
    cases (n == 1)
    · exact hA
    · unfold gbd at hA ⊢
      dsimp only [cond_true]
      omega
  have hC : gbd (gtC l n (gtB n (gtA l c M))) c 11 := by
    generalize gtB n (gtA l c M) = x at hB
    unfold gtC
    cases (n == 2)
    · unfold gbd at hB ⊢
      dsimp only [cond_false]
      omega
    · have h1 := pickI_lt (l := l) (c := x.2) (n := 3) (by omega)
      have h2 := pickI_lt (l := l) (c := x.2 + 1) (n := 2) (by omega)
      have h3 : 0 ≤ ([0, 1, 3] : List Int).getD (pickI l x.2 3).toNat 0 ∧ ([0, 1, 3] : List Int).getD (pickI l x.2 3).toNat 0 ≤ 3 := by
        obtain h | h | h : (pickI l x.2 3).toNat = 0 ∨ (pickI l x.2 3).toNat = 1 ∨ (pickI l x.2 3).toNat = 2 := by omega
        all_goals (rw [h]; decide)
      unfold gbd at hB ⊢
      dsimp only [cond_true]
      omega
  have hD : gbd (gtD (gtC l n (gtB n (gtA l c M)))) c 11 := by
    generalize gtC l n (gtB n (gtA l c M)) = x at hC
    unfold gtD
    cases (x.1.k == 0)
    · exact hC
    · unfold gbd at hC ⊢
      dsimp only [cond_true]
      omega
  have hE : gbd (gtE (gtD (gtC l n (gtB n (gtA l c M))))) c 11 := by
    generalize gtD (gtC l n (gtB n (gtA l c M))) = x at hD
    unfold gtE
    cases ((x.1.k == 0) || ((x.1.k == 1) || (x.1.k == 3)))
    · exact hD
    · unfold gbd at hD ⊢
      dsimp only [cond_true]
      omega
  unfold gtN
  generalize gtE (gtD (gtC l n (gtB n (gtA l c M)))) = x at hE
  unfold gtG
  cases decide (q > 0)
  · unfold gbd at hE ⊢
    dsimp only [cond_false]
    omega
  cases (pickI l x.2 q == q - 1)
  · unfold gbd at hE ⊢
    dsimp only [cond_true, cond_false]
    omega
  have h3 : -1 ≤ ([-1, 5] : List Int).getD (pickI l (x.2 + 1 + 1) 2).toNat 0 ∧ ([-1, 5] : List Int).getD (pickI l (x.2 + 1 + 1) 2).toNat 0 ≤ 5 := by
    have h1 := pickI_lt (l := l) (c := x.2 + 1 + 1) (n := 2) (by omega)
    obtain h | h : (pickI l (x.2 + 1 + 1) 2).toNat = 0 ∨ (pickI l (x.2 + 1 + 1) 2).toNat = 1 := by omega
    all_goals (rw [h]; decide)
  dsimp only [cond_true]
  unfold gtF
  unfold gbd at hE ⊢
  dsimp only
  cases (pickI l (x.2 + 1) 4 == 0) <;> cases (pickI l (x.2 + 1) 4 == 1) <;> cases (pickI l (x.2 + 1) 4 == 2) <;> dsimp only [cond_true, cond_false] <;> omega
end Go.Proofs.Ytfcadkdgichpmaa

/- Drawn numbers of lines, drawn words. -/
namespace Go.Proofs.Ytfcadkdgichpmaa
set_option linter.unusedVariables false
set_option linter.unusedSimpArgs false
set_option maxRecDepth 20000
open Go.RowKit
attribute [local irreducible] runA runX AW
theorem gq_KDL {H G : Prop} (k : H) (h : Hid H → G := by (intro hh; repeat1' (first | (first | ((first | refine r_none ?_ | refine r_gt (by rfl) (by rfl) zDD (by rfl) ?_ | refine r_gf (by rfl) (by rfl) zDD (by rfl) ?_); (first | fail | ((first | (refine z_op (by rfl) ?_; first | refine z_ok ?_ ?_ | refine z_ex ?_ (by first | exact zL1 | ((first | fail); exact zWW) | exact zL2 | exact rw_c Int rfl | exact zL3 | fail) ?_) | ((first | refine q_callE wsT wsZ (by rfl) ?_ | refine q_callVE wsT (by rfl) (by rfl) ?_); refine ⟨_, _, _, (by first | assumption), _, by rfl, ?_, ?_⟩)); focus (first | exact trivial | fail | exact zQZ)) | fail)) | refine r_nt (by rfl) (by rfl) zDD (by rfl) ?_ | refine r_nf (by rfl) (by rfl) zDD (by rfl) ?_ | refine r_gu (by rfl) (by rfl) (by rfl) ?_ | refine r_nil ?_) | (first | refine aw_seq ?_ | refine aw_ct (by rfl) zDD ?_ | refine aw_cf (by rfl) zDD ?_ | refine aw_block ?_ | refine aw_region T0ok cfU_ok (by rfl) ?_ | refine aw_skip ?_ | refine aw_exit ?_ | refine ra_step ?_)); exact hh.out)) : G := h ⟨k⟩
theorem ga_KDL {H G : Prop} (k : H) (h : Hid H → G := by (intro hh; (first | refine r_none ?_ | refine r_gt (by rfl) (by rfl) zDD (by rfl) ?_ | refine r_gf (by rfl) (by rfl) zDD (by rfl) ?_); refine z_op (by rfl) ?_; refine z_al ?_ hh.out; focus (first | exact trivial | fail | exact zQZ))) : G := h ⟨k⟩
theorem ex_lines (l : List UInt8) (c n : Int) (h : 0 ≤ c ∧ c ≤ 100000 ∧ l.length ≤ 2000 ∧ 0 < n ∧ n ≤ 1000) : ∃ v : Int, (-1 ≤ v ∧ v ≤ 9) ∧ Kon Try.prog 32 [p0, vI n] [rdE l c] (vI v) [] [rdE l (c + 1 + 1)] := by
  obtain ⟨v, hK1⟩ := ex_odd l c n (by omega)
  cases v with
  | true =>
    obtain ⟨a, _, ha, hK2⟩ := ex_pick l (c + 1) 3 (by omega)
    replace ha := ha (by omega)
    obtain rfl | rfl | rfl : a = 0 ∨ a = 1 ∨ a = 2 := by omega
    · refine ⟨0, by omega, ?_⟩; (refine kon_mk T0ok (fn := Try.f32) (c := Try.f32.body.get rfl) Try.func32 rfl (by rfl) (by rfl) (by rfl) ?_; intro hfit hfe); (repeat (first | refine gq_KDL ?_ | (refine ga_KDL ?_; intro _q ⟨_he, _hq⟩))); (refine rtA ?_; try rfl)
    · refine ⟨-1, by omega, ?_⟩; (refine kon_mk T0ok (fn := Try.f32) (c := Try.f32.body.get rfl) Try.func32 rfl (by rfl) (by rfl) (by rfl) ?_; intro hfit hfe); (repeat (first | refine gq_KDL ?_ | (refine ga_KDL ?_; intro _q ⟨_he, _hq⟩))); (refine rtA ?_; try rfl)
    · refine ⟨9, by omega, ?_⟩; (refine kon_mk T0ok (fn := Try.f32) (c := Try.f32.body.get rfl) Try.func32 rfl (by rfl) (by rfl) (by rfl) ?_; intro hfit hfe); (repeat (first | refine gq_KDL ?_ | (refine ga_KDL ?_; intro _q ⟨_he, _hq⟩))); (refine rtA ?_; try rfl)
  | false =>
    obtain ⟨a, _, ha, hK2⟩ := ex_pick l (c + 1) 10 (by omega)
    replace ha := ha (by omega)
    obtain ⟨r, hr, hb⟩ : ∃ r : Int, r = ([1, 2, 3, 3, 4, 4, 5, 6, 7, 8] : List Int).getD a.toNat 0 ∧ (-1 ≤ r ∧ r ≤ 9) := by
      refine ⟨_, rfl, ?_⟩
      obtain rfl | rfl | rfl | rfl | rfl | rfl | rfl | rfl | rfl | rfl : a = 0 ∨ a = 1 ∨ a = 2 ∨ a = 3 ∨ a = 4 ∨ a = 5 ∨ a = 6 ∨ a = 7 ∨ a = 8 ∨ a = 9 := by omega
      all_goals decide
    refine ⟨r, hb, ?_⟩
    obtain rfl | rfl | rfl | rfl | rfl | rfl | rfl | rfl | rfl | rfl : a = 0 ∨ a = 1 ∨ a = 2 ∨ a = 3 ∨ a = 4 ∨ a = 5 ∨ a = 6 ∨ a = 7 ∨ a = 8 ∨ a = 9 := by omega
    all_goals
      subst hr
      (refine kon_mk T0ok (fn := Try.f32) (c := Try.f32.body.get rfl) Try.func32 rfl (by rfl) (by rfl) (by rfl) ?_; intro hfit hfe)
      (repeat (first | refine gq_KDL ?_ | (refine ga_KDL ?_; intro _q ⟨_he, _hq⟩)))
      (refine rtA ?_; try rfl)



































end Go.Proofs.Ytfcadkdgichpmaa

/- Drawn circuits. -/
namespace Go.Proofs.Ytfcadkdgichpmaa
set_option linter.unusedVariables false
set_option linter.unusedSimpArgs false
set_option maxRecDepth 20000
open Go.RowKit
attribute [local irreducible] runA runX AW
theorem gq_KGQ {H G : Prop} (k : H) (h : Hid H → G := by (intro hh; repeat1' (first | (first | ((first | refine r_none ?_ | refine r_gt (by rfl) (by rfl) zDD (by rfl) ?_ | refine r_gf (by rfl) (by rfl) zDD (by rfl) ?_); (first | fail | ((first | (refine z_op (by rfl) ?_; first | refine z_ok ?_ ?_ | refine z_ex ?_ (by first | exact zL1 | ((first | fail); exact zWW) | exact zL2 | exact rw_c Gt rfl | exact zL3 | fail) ?_) | ((first | refine q_callE wsT wsZ (by rfl) ?_ | refine q_callVE wsT (by rfl) (by rfl) ?_); refine ⟨_, _, _, (by first | assumption | exact k_pick _ _ _ (by omega) | exact k_odd0 _ _ _ (by omega) | exact k_odd _ _ _ (by omega)), _, by rfl, ?_, ?_⟩)); focus (first | exact trivial | fail | exact zQZ)) | fail)) | refine r_nt (by rfl) (by rfl) zDD (by rfl) ?_ | refine r_nf (by rfl) (by rfl) zDD (by rfl) ?_ | refine r_gu (by rfl) (by rfl) (by rfl) ?_ | refine r_nil ?_) | (first | refine aw_seq ?_ | refine aw_ct (by rfl) zDD ?_ | refine aw_cf (by rfl) zDD ?_ | refine aw_block ?_ | refine aw_region T0ok cfU_ok (by rfl) ?_ | refine aw_skip ?_ | refine aw_exit ?_ | refine ra_step ?_)); exact hh.out)) : G := h ⟨k⟩
theorem ga_KGQ {H G : Prop} (k : H) (h : Hid H → G := by (intro hh; (first | refine r_none ?_ | refine r_gt (by rfl) (by rfl) zDD (by rfl) ?_ | refine r_gf (by rfl) (by rfl) zDD (by rfl) ?_); refine z_op (by rfl) ?_; refine z_alV ?_ hh.out; focus (first | exact trivial | fail | exact zQZ))) : G := h ⟨k⟩
def nE (n : Int) : Int := if 8 < (if 1 > n then 1 else n) then 8 else (if 1 > n then 1 else n)
theorem nE_bd (n : Int) : 1 ≤ nE n ∧ nE n ≤ 8 := by unfold nE; omega
def gnM (n : Int) : Nat := if (3 : Int) > nE n then 3 else (nE n).toNat
theorem gnM_eq (n : Int) : (if (3 : Int) > nE n then 3 else nE n) = (gnM n : Int) := by
  have h := nE_bd n
  unfold gnM
  split <;> omega
theorem gnM_bd (n : Int) : 3 ≤ gnM n ∧ gnM n ≤ 8 := by
  have h := nE_bd n
  unfold gnM
  split <;> omega
def gNx (l : List UInt8) (n : Int) (c : Int) : Gt × Int := gtN l c (nE n) 0 (gnM n)
theorem k_gNx (l : List UInt8) (n c : Int) (h : 0 ≤ c ∧ c ≤ 100000 ∧ l.length ≤ 2000) : Kon Try.prog 39 [p0, vI (nE n), vI 0] [rdE l c] (gV (gNx l n c).1) [] [rdE l (gNx l n c).2] :=
  k_gate l c (nE n) 0 (gnM n) (gnM_eq n) (nE_bd n) h (by omega)
theorem gNx_bd (l : List UInt8) (n c : Int) : gbd (gNx l n c) c 20 := gtN_bd l c (nE n) 0 (gnM n) (nE_bd n) (gnM_bd n)
/-- One gate more. -/
def ciS (l : List UInt8) (n : Int) (x : List Gt × Int) : List Gt × Int :=
  bif decide ((x.1.length : Int) > 0) then (bif pickI l (gNx l n x.2).2 4 == 0 then (x.1 ++ [x.1.getD (pickI l ((gNx l n x.2).2 + 1) x.1.length).toNat Cel.no], (gNx l n x.2).2 + 1 + 1) else (x.1 ++ [(gNx l n x.2).1], (gNx l n x.2).2 + 1))
  else (x.1 ++ [(gNx l n x.2).1], (gNx l n x.2).2)
def ciN (l : List UInt8) (n c : Int) : Nat → List Gt × Int
  | 0 => ([], c)
  | i + 1 => ciS l n (ciN l n c i)
def gtb (g : Gt) : Prop := (-1 ≤ g.k ∧ g.k ≤ 9) ∧ (-1 ≤ g.a ∧ g.a ≤ 8) ∧ (-1 ≤ g.b ∧ g.b ≤ 8) ∧ (-1 ≤ g.c ∧ g.c ≤ 8)
theorem ciS_bd (l : List UInt8) (n : Int) (x : List Gt × Int) (h : ∀ g ∈ x.1, gtb g) : (ciS l n x).1.length = x.1.length + 1 ∧ (∀ g ∈ (ciS l n x).1, gtb g) ∧ x.2 ≤ (ciS l n x).2 ∧ (ciS l n x).2 ≤ x.2 + 22 := by
  have hg := gNx_bd l n x.2
  unfold gbd at hg
  have hgb : gtb (gNx l n x.2).1 := by unfold gtb; omega
  have one : ∀ y : Gt, gtb y → ∀ g ∈ x.1 ++ [y], gtb g := fun y hy g hm => by
    rcases List.mem_append.1 hm with hm | hm
    · exact h g hm
    · rw [List.mem_singleton.1 hm]; exact hy
  unfold ciS
  cases hd : decide ((x.1.length : Int) > 0)
  · dsimp only [cond_false]
    refine ⟨by simp, one _ hgb, by omega, by omega⟩
  · dsimp only [cond_true]
    have hl : (x.1.length : Int) > 0 := of_decide_eq_true hd
    cases hp : (pickI l (gNx l n x.2).2 4 == 0)
    · dsimp only [cond_false]
      refine ⟨by simp, one _ hgb, by omega, by omega⟩
    · dsimp only [cond_true]
      refine ⟨by simp, one _ ?_, by omega, by omega⟩
      have hq := pickI_lt (l := l) (c := (gNx l n x.2).2 + 1) (n := (x.1.length : Int)) (by omega)
      have hi : (pickI l ((gNx l n x.2).2 + 1) x.1.length).toNat < x.1.length := by omega
      have e : x.1.getD (pickI l ((gNx l n x.2).2 + 1) x.1.length).toNat Cel.no = x.1[(pickI l ((gNx l n x.2).2 + 1) x.1.length).toNat] := by simp [List.getD_eq_getElem?_getD, hi]
      rw [e]
      exact h _ (List.getElem_mem hi)
theorem ciN_bd (l : List UInt8) (n c : Int) : ∀ i, (ciN l n c i).1.length = i ∧ (∀ g ∈ (ciN l n c i).1, gtb g) ∧ c ≤ (ciN l n c i).2 ∧ (ciN l n c i).2 ≤ c + 22 * (i : Int)
  | 0 => by
    refine ⟨rfl, fun g hg => ?_, ?_, ?_⟩
    · cases hg
    · exact Int.le_refl c
    · show c ≤ c + 22 * ((0 : Nat) : Int); omega
  | i + 1 => by
    obtain ⟨h1, h2, h3, h4⟩ := ciN_bd l n c i
    obtain ⟨q1, q2, q3, q4⟩ := ciS_bd l n _ h2
    exact ⟨by rw [ciN, q1, h1], q2, by rw [ciN]; omega, by rw [ciN]; omega⟩
/-- A fault put into a circuit. -/
def coN (l : List UInt8) (q : Int) (x : List Gt × Int) : List Gt × Int :=
  bif decide (q > 0) then (bif pickI l x.2 q == q - 1 then (bif pickI l (x.2 + 1) 2 == 0 then (x.1 ++ [⟨9, 0, 0, 0⟩], x.2 + 1 + 1) else (x.1 ++ List.replicate (25 - x.1.length) ⟨0, 0, 0, 0⟩, x.2 + 1 + 1)) else (x.1, x.2 + 1)) else x
theorem coN_bd (l : List UInt8) (q : Int) (x : List Gt × Int) (hl : x.1.length ≤ 30) (h : ∀ g ∈ x.1, gtb g) : (coN l q x).1.length ≤ 31 ∧ (∀ g ∈ (coN l q x).1, gtb g) ∧ x.2 ≤ (coN l q x).2 ∧ (coN l q x).2 ≤ x.2 + 2 := by
  have more : ∀ L : List Gt, (∀ y ∈ L, gtb y) → ∀ g ∈ x.1 ++ L, gtb g := fun L hL g hm => by
    rcases List.mem_append.1 hm with hm | hm
    · exact h g hm
    · exact hL g hm
  unfold coN
  cases decide (q > 0)
  · exact ⟨by dsimp only [cond_false]; omega, h, Int.le_refl _, by dsimp only [cond_false]; omega⟩
  cases (pickI l x.2 q == q - 1)
  · exact ⟨by dsimp only [cond_true, cond_false]; omega, h, by dsimp only [cond_true, cond_false]; omega, by dsimp only [cond_true, cond_false]; omega⟩
  cases (pickI l (x.2 + 1) 2 == 0)
  · dsimp only [cond_true, cond_false]
    refine ⟨by rw [List.length_append, List.length_replicate]; omega, more _ fun y hy => ?_, by omega, by omega⟩
    rw [List.eq_of_mem_replicate hy]; unfold gtb; decide
  · dsimp only [cond_true, cond_false]
    refine ⟨by simp; omega, more _ fun y hy => ?_, by omega, by omega⟩
    rw [List.mem_singleton.1 hy]; unfold gtb; decide
theorem ordN_nd (l : List UInt8) (c : Int) : ∀ k, (ordN l c k).Nodup
  | 0 => List.nodup_nil
  | k + 1 => by
    rw [ordN, List.append_assoc]
    refine (List.perm_middle (a := (k : Int))).nodup_iff.2 ?_
    change ((k : Int) :: (List.take (pickI l (c + (k : Int)) ((k : Int) + 1)).toNat (ordN l c k) ++ List.drop (pickI l (c + (k : Int)) ((k : Int) + 1)).toNat (ordN l c k))).Nodup
    rw [List.take_append_drop]
    exact List.nodup_cons.2 ⟨fun hm => by have := ordN_bd l c k _ hm; omega, ordN_nd l c k⟩
theorem ordN_ne (l : List UInt8) (c : Int) {k i j : Nat} (hij : i < j) (hj : j < k) : (ordN l c k).getD i 0 ≠ (ordN l c k).getD j 0 := by
  have hl := ordN_len l c k
  have h := List.pairwise_iff_getElem.1 (ordN_nd l c k) i j (by omega) (by omega) hij
  simpa [List.getD_eq_getElem?_getD, hl, hj, Nat.lt_trans hij hj] using h
theorem gtN_0 (l : List UInt8) (c n : Int) (M : Nat) : gtN l c n 0 M = gtE (gtD (gtC l n (gtB n (gtA l c M)))) := rfl
/-- Gates that are drawn without a fault are valid. -/
theorem gtN_ok (l : List UInt8) (c n : Int) (M : Nat) (hn : 1 ≤ n ∧ n ≤ 8) (hM : (if (3 : Int) > n then 3 else n) = (M : Int)) : gok n (gtN l c n 0 M).1 = true := by
  rw [gtN_0]
  by_cases h1 : n = 1
  · subst h1; rfl
  by_cases h2 : n = 2
  · subst h2
    have e : gtB 2 (gtA l c M) = gtA l c M := rfl
    rw [e]
    obtain ⟨g, c1⟩ := gtA l c M
    have p3 := pickI_lt (l := l) (c := c1) (n := 3) (by omega)
    have p2 := pickI_lt (l := l) (c := c1 + 1) (n := 2) (by omega)
    have e2 : gtC l 2 (g, c1) = (⟨([0, 1, 3] : List Int).getD (pickI l c1 3).toNat 0, pickI l (c1 + 1) 2, 1 - pickI l (c1 + 1) 2, 0⟩, c1 + 1 + 1) := rfl
    rw [e2]
    generalize pickI l c1 3 = x at *
    generalize pickI l (c1 + 1) 2 = y at *
    obtain rfl | rfl | rfl : x = 0 ∨ x = 1 ∨ x = 2 := by omega
    all_goals (obtain rfl | rfl : y = 0 ∨ y = 1 := by omega)
    all_goals rfl
  have b1 : (n == 1) = false := beq_eq_false_iff_ne.2 h1
  have b2 : (n == 2) = false := beq_eq_false_iff_ne.2 h2
  have hMn : (M : Int) = n := by rw [← hM]; split <;> omega
  have eB : gtB n (gtA l c M) = gtA l c M := by unfold gtB; rw [b1]; rfl
  have eC : gtC l n (gtA l c M) = gtA l c M := by unfold gtC; rw [b2]; rfl
  rw [eB, eC]
  have p5 := pickI_lt (l := l) (c := c + (M : Int)) (n := 5) (by omega)
  have a0 := ordN_at l c M 0 (by omega)
  have a1 := ordN_at l c M 1 (by omega)
  have a2 := ordN_at l c M 2 (by omega)
  have n1 := ordN_ne l c (k := M) (i := 0) (j := 1) (by omega) (by omega)
  have n2 := ordN_ne l c (k := M) (i := 0) (j := 2) (by omega) (by omega)
  have n3 := ordN_ne l c (k := M) (i := 1) (j := 2) (by omega) (by omega)
  unfold gtA
  generalize (ordN l c M).getD 0 0 = x at *
  generalize (ordN l c M).getD 1 0 = y at *
  generalize (ordN l c M).getD 2 0 = z at *
  generalize pickI l (c + (M : Int)) 5 = k at *
  have d1 : decide (n ≥ 1) = true := decide_eq_true (by omega)
  have d2 : decide (n ≤ 8) = true := decide_eq_true (by omega)
  have i1 : in8 n x = true := by unfold in8; rw [decide_eq_true (show 0 ≤ x by omega), decide_eq_true (show x < n by omega)]; rfl
  have i2 : in8 n y = true := by unfold in8; rw [decide_eq_true (show 0 ≤ y by omega), decide_eq_true (show y < n by omega)]; rfl
  have i3 : in8 n z = true := by unfold in8; rw [decide_eq_true (show 0 ≤ z by omega), decide_eq_true (show z < n by omega)]; rfl
  have q1 : (y != x) = true := bne_iff_ne.2 (fun e => n1 e.symm)
  have q2 : (z != x) = true := bne_iff_ne.2 (fun e => n2 e.symm)
  have q3 : (z != y) = true := bne_iff_ne.2 (fun e => n3 e.symm)
  clear n1 n2 n3 eB eC b1 b2 hM
  obtain rfl | rfl | rfl | rfl | rfl : k = 0 ∨ k = 1 ∨ k = 2 ∨ k = 3 ∨ k = 4 := by omega
  · show gok n ⟨0, x, 0, 0⟩ = true
    unfold gok okLn gokL; dsimp only; rw [d1, d2, if_pos rfl, i1]; rfl
  · show gok n ⟨1, x, y, 0⟩ = true
    unfold gok okLn gokL; dsimp only; rw [d1, d2, if_neg (by decide), if_pos (by decide), i1, i2, q1]; rfl
  · show gok n ⟨2, x, y, z⟩ = true
    unfold gok okLn gokL; dsimp only; rw [d1, d2, if_neg (by decide), if_neg (by decide), if_pos (by decide), i1, i2, i3, q1, q2, q3]; rfl
  · show gok n ⟨3, x, y, 0⟩ = true
    unfold gok okLn gokL; dsimp only; rw [d1, d2, if_neg (by decide), if_pos (by decide), i1, i2, q1]; rfl
  · show gok n ⟨4, x, y, z⟩ = true
    unfold gok okLn gokL; dsimp only; rw [d1, d2, if_neg (by decide), if_neg (by decide), if_pos (by decide), i1, i2, i3, q1, q2, q3]; rfl
theorem gNx_ok (l : List UInt8) (n c : Int) (hn : 1 ≤ n ∧ n ≤ 8) : gok n (gNx l n c).1 = true := by
  have e : nE n = n := by unfold nE; split <;> split <;> omega
  have h := gtN_ok l c (nE n) (gnM n) (nE_bd n) (gnM_eq n)
  unfold gNx
  rw [e] at h ⊢
  exact h
theorem ciN_ok (l : List UInt8) (n c : Int) (hn : 1 ≤ n ∧ n ≤ 8) : ∀ i, (ciN l n c i).1.all (gok n) = true
  | 0 => rfl
  | i + 1 => by
    have ih := ciN_ok l n c hn i
    rw [ciN]
    generalize ciN l n c i = x at ih
    have hg := gNx_ok l n x.2 hn
    have one : ∀ y : Gt, gok n y = true → (x.1 ++ [y]).all (gok n) = true := fun y hy => by rw [List.all_append, ih]; simp [hy]
    unfold ciS
    cases hd : decide ((x.1.length : Int) > 0)
    · exact one _ hg
    · cases hp : (pickI l (gNx l n x.2).2 4 == 0)
      · exact one _ hg
      · refine one _ ?_
        have hl : (x.1.length : Int) > 0 := of_decide_eq_true hd
        have hq := pickI_lt (l := l) (c := (gNx l n x.2).2 + 1) (n := (x.1.length : Int)) (by omega)
        have hi : (pickI l ((gNx l n x.2).2 + 1) x.1.length).toNat < x.1.length := by omega
        have e : x.1.getD (pickI l ((gNx l n x.2).2 + 1) x.1.length).toNat Cel.no = x.1[(pickI l ((gNx l n x.2).2 + 1) x.1.length).toNat] := by simp [List.getD_eq_getElem?_getD, hi]
        rw [e]
        exact List.all_eq_true.1 ih _ (List.getElem_mem hi)
set_option maxHeartbeats 4000000 in
theorem ex_circ2 (l : List UInt8) (c n most q : Int) (h : 0 ≤ c ∧ c ≤ 90000 ∧ l.length ≤ 2000) (hm : 0 ≤ most ∧ most ≤ 30) (hq : q ≤ 1000) : ∃ (cs : List Gt) (c' : Int), cs.length ≤ 31 ∧ (∀ g ∈ cs, gtb g) ∧ (c ≤ c' ∧ c' ≤ c + 700) ∧ (q ≤ 0 → (cs.length : Int) ≤ most ∧ (1 ≤ n ∧ n ≤ 8 → cs.all (gok n) = true)) ∧ Kon Try.prog 25 [p0, vI n, vI most, vI q] [rdE l c] (slA 0 0 cs) [gRow cs] [rdE l c'] := by
  obtain ⟨m, hmm⟩ : ∃ m : Nat, pickI l c (most + 1) = (m : Int) := ⟨(pickI l c (most + 1)).toNat, by have := pickI_lt (l := l) (c := c) (n := most + 1) (by omega); omega⟩
  obtain ⟨d1, d2, d3, d4⟩ := ciN_bd l n (c + 1) m
  have hpm0 := pickI_lt (l := l) (c := c) (n := most + 1) (by omega)
  obtain ⟨cs', c', hr, x1, x2, x3⟩ : ∃ cs' c', coN l q (ciN l n (c + 1) m) = (cs', c') ∧ cs'.length ≤ 31 ∧ (∀ g ∈ cs', gtb g) ∧ (c ≤ c' ∧ c' ≤ c + 700) := by
    have := coN_bd l q (ciN l n (c + 1) m) (by omega) d2
    have t3 := this.2.2.1
    have t4 := this.2.2.2
    exact ⟨(coN l q (ciN l n (c + 1) m)).1, (coN l q (ciN l n (c + 1) m)).2, rfl, this.1, this.2.1, by omega⟩
  refine ⟨cs', c', x1, x2, x3, fun hq0 => ?_, ?_⟩
  · have e : coN l q (ciN l n (c + 1) m) = ciN l n (c + 1) m := by unfold coN; rw [decide_eq_false (show ¬ q > 0 by omega)]; rfl
    rw [e] at hr
    have e1 : cs' = (ciN l n (c + 1) m).1 := by rw [hr]
    rw [e1]
    exact ⟨by omega, fun hn => ciN_ok l n (c + 1) hn m⟩
  have hpm := pickI_lt (l := l) (c := c) (n := most + 1) (by omega)
  (refine kon_mk T0ok (fn := Try.f25) (c := Try.f25.body.get rfl) Try.func25 rfl (by rfl) (by rfl) (by rfl) ?_; intro hfit hfe)
  (repeat (first | refine gq_KGQ ?_ | (refine ga_KGQ ?_; intro _hq)))
  rw [hmm]
  have e0 : (ciN l n (c + 1) 0).2 = c + 1 := rfl
  refine aw_rd [0, 1, 2, 3] [] (fun i : Nat => [(9, .g (.one (.sl 192 i i))), (10, vI ((m : Int) - i))]) (fun i => [(192, (i, gRow (ciN l n (c + 1) i).1)), (100000, (0, rdE l (ciN l n (c + 1) i).2))]) (fun i => i ≤ m) (fun i => m - i) 0 (by rfl) (by rfl) ?_ (by rfl) ⟨by rfl, vI_of (by rfl) (by omega), zHE⟩ ⟨by rfl, by rfl, trivial⟩ ?_
  · exact Nat.zero_le _
  rintro i hi
  obtain ⟨b1, b2, b3, b4⟩ := ciN_bd l n (c + 1) i
  rcases hx : ciN l n (c + 1) i with ⟨cs, c1⟩
  rw [hx] at b1 b2 b3 b4
  dsimp only at b1 b2 b3 b4 ⊢
  rcases Nat.lt_or_ge i m with h5 | h5
  · have hd : decide ((m : Int) - (i : Int) > 0) = true := decide_eq_true (by omega)
    have hG := k_gNx l n c1 (by omega)
    subst b1
    have hpos : ∀ w : Int, (cs.length : Int) > 0 → 0 ≤ pickI l w cs.length ∧ pickI l w cs.length < cs.length := fun w hw => pickI_lt (by omega)
    have hgb := gNx_bd l n c1
    unfold gbd at hgb
    cases d0 : decide ((cs.length : Int) > 0) with
    | false =>
      have hn : ciN l n (c + 1) (cs.length + 1) = (cs ++ [(gNx l n c1).1], (gNx l n c1).2) := by rw [ciN, hx, ciS]; dsimp only; rw [d0]; rfl
      (repeat (first | refine gq_KGQ ?_ | (refine ga_KGQ ?_; intro _hq)))
      exact ⟨cs.length + 1, h5, ⟨by rfl, ⟨Eq.trans (b := some (.g (.one (.sl 192 (cs.length + 1) (cs ++ [(gNx l n c1).1]).length)))) (by rfl) (by rw [List.length_append]; rfl), vI_of (by rfl) (by omega), zHE⟩, ⟨Eq.trans (b := some (cs.length + 1, gRow (cs ++ [(gNx l n c1).1]))) (by rfl) (by rw [hn]), Eq.trans (b := some (0, rdE l (gNx l n c1).2)) (by rfl) (by rw [hn]), trivial⟩⟩, (by first | omega | (dsimp only; omega))⟩
    | true =>
      have hq4 := pickI_lt (l := l) (c := (gNx l n c1).2) (n := 4) (by omega)
      cases d1 : (pickI l (gNx l n c1).2 4 == 0) with
      | false =>
        have hn : ciN l n (c + 1) (cs.length + 1) = (cs ++ [(gNx l n c1).1], (gNx l n c1).2 + 1) := by rw [ciN, hx, ciS]; dsimp only; rw [d0]; dsimp only [cond_true]; rw [d1]; rfl
        (repeat (first | refine gq_KGQ ?_ | (refine ga_KGQ ?_; intro _hq)))
        exact ⟨cs.length + 1, h5, ⟨by rfl, ⟨Eq.trans (b := some (.g (.one (.sl 192 (cs.length + 1) (cs ++ [(gNx l n c1).1]).length)))) (by rfl) (by rw [List.length_append]; rfl), vI_of (by rfl) (by omega), zHE⟩, ⟨Eq.trans (b := some (cs.length + 1, gRow (cs ++ [(gNx l n c1).1]))) (by rfl) (by rw [hn]), Eq.trans (b := some (0, rdE l ((gNx l n c1).2 + 1))) (by rfl) (by rw [hn]), trivial⟩⟩, (by first | omega | (dsimp only; omega))⟩
      | true =>
        have hn : ciN l n (c + 1) (cs.length + 1) = (cs ++ [cs.getD (pickI l ((gNx l n c1).2 + 1) cs.length).toNat Cel.no], (gNx l n c1).2 + 1 + 1) := by rw [ciN, hx, ciS]; dsimp only; rw [d0]; dsimp only [cond_true]; rw [d1]; rfl
        have hp1 := hpos ((gNx l n c1).2 + 1) (of_decide_eq_true d0)
        (repeat (first | refine gq_KGQ ?_ | (refine ga_KGQ ?_; intro _hq)))
        exact ⟨cs.length + 1, h5, ⟨by rfl, ⟨Eq.trans (b := some (.g (.one (.sl 192 (cs.length + 1) (cs ++ [(cs.getD (pickI l ((gNx l n c1).2 + 1) cs.length).toNat Cel.no)]).length)))) (by rfl) (by rw [List.length_append]; rfl), vI_of (by rfl) (by omega), zHE⟩, ⟨Eq.trans (b := some (cs.length + 1, gRow (cs ++ [(cs.getD (pickI l ((gNx l n c1).2 + 1) cs.length).toNat Cel.no)]))) (by rfl) (by rw [hn]), Eq.trans (b := some (0, rdE l ((gNx l n c1).2 + 1 + 1))) (by rfl) (by rw [hn]), trivial⟩⟩, (by first | omega | (dsimp only; omega))⟩
  · have hd : decide ((m : Int) - (i : Int) > 0) = false := decide_eq_false (by omega)
    obtain rfl : i = m := by omega
    rw [hx] at hr
    subst b1
    have hcl : (cV cs).length = cs.length * Cel.sz Gt := cV_len cs
    cases q0 : decide (q > 0) with
    | false =>
      have hq1 : q ≤ 0 := by have := of_decide_eq_false q0; omega
      rw [coN, q0] at hr
      obtain ⟨rfl, rfl⟩ := Prod.mk.inj hr
      clear hr
      (repeat (first | refine gq_KGQ ?_ | (refine ga_KGQ ?_; intro _hq)))
      (refine rtA ?_; try rfl)
    | true =>
      have hq1 : 0 < q := of_decide_eq_true q0
      rw [coN, q0] at hr
      dsimp only [cond_true] at hr
      cases hv : (pickI l c1 q == q - 1) with
      | false =>
        rw [hv] at hr
        obtain ⟨rfl, rfl⟩ := Prod.mk.inj hr
        clear hr
        (repeat (first | refine gq_KGQ ?_ | (refine ga_KGQ ?_; intro _hq)))
        (refine rtA ?_; try rfl)
      | true =>
        rw [hv] at hr
        dsimp only [cond_true] at hr
        have hp2 := pickI_lt (l := l) (c := c1 + 1) (n := 2) (by omega)
        cases h0 : (pickI l (c1 + 1) 2 == 0) with
        | true =>
          rw [h0] at hr
          obtain ⟨rfl, rfl⟩ := Prod.mk.inj hr
          clear hr
          (repeat (first | refine gq_KGQ ?_ | (refine ga_KGQ ?_; intro _hq)))
          (refine rtA ?_; try rfl)
        | false =>
          rw [h0] at hr
          obtain ⟨rfl, rfl⟩ := Prod.mk.inj hr
          clear hr
          (repeat (first | refine gq_KGQ ?_ | (refine ga_KGQ ?_; intro _hq)))
          refine aw_rd [] [] (fun j : Nat => [(9, .g (.one (.sl 192 (cs.length + j) (cs.length + j))))]) (fun j => [(192, (cs.length + j, gRow (cs ++ List.replicate j ⟨0, 0, 0, 0⟩))), (100000, (0, rdE l (c1 + 1 + 1)))]) (fun j => j ≤ 25 - cs.length) (fun j => 25 - cs.length - j) 0 (by rfl) (by rfl) ?_ (by rfl) ⟨by rfl, trivial⟩ ⟨Eq.trans (b := some (cs.length, gRow cs)) (by rfl) (by rw [List.replicate_zero, List.append_nil]; rfl), by rfl, trivial⟩ ?_
          · exact Nat.zero_le _
          rintro j hj
          have hlj : (cs ++ List.replicate j (⟨0, 0, 0, 0⟩ : Gt)).length = cs.length + j := by rw [List.length_append, List.length_replicate]
          have hcj : (cV (cs ++ List.replicate j (⟨0, 0, 0, 0⟩ : Gt))).length = (cs.length + j) * Cel.sz Gt := by rw [cV_len, hlj]
          rcases Nat.lt_or_ge j (25 - cs.length) with h7 | h7
          · have hd7 : decide (((cs.length + j : Nat) : Int) ≤ 24) = true := decide_eq_true (by omega)
            have hn : cs ++ List.replicate j (⟨0, 0, 0, 0⟩ : Gt) ++ [(⟨0, 0, 0, 0⟩ : Gt)] = cs ++ List.replicate (j + 1) (⟨0, 0, 0, 0⟩ : Gt) := by rw [List.append_assoc, List.replicate_succ']
            (repeat (first | refine gq_KGQ ?_ | (refine ga_KGQ ?_; intro _hq)))
            exact ⟨j + 1, h7, ⟨by rfl, ⟨Eq.trans (b := some (.g (.one (.sl 192 (cs.length + j + 1) (cs ++ List.replicate j (⟨0, 0, 0, 0⟩ : Gt) ++ [(⟨0, 0, 0, 0⟩ : Gt)]).length)))) (by rfl) (by rw [List.length_append, hlj]; rfl), trivial⟩, ⟨Eq.trans (b := some (cs.length + j + 1, gRow (cs ++ List.replicate j (⟨0, 0, 0, 0⟩ : Gt) ++ [(⟨0, 0, 0, 0⟩ : Gt)]))) (by rfl) (by rw [hn]; rfl), by rfl, trivial⟩⟩, (by first | omega | (dsimp only; omega))⟩
          · obtain rfl : j = 25 - cs.length := by omega
            have hd7 : decide (((cs.length + (25 - cs.length) : Nat) : Int) ≤ 24) = false := decide_eq_false (by omega)
            (repeat (first | refine gq_KGQ ?_ | (refine ga_KGQ ?_; intro _hq)))
            (refine rtA ?_; try rfl)
            exact congrArg (fun n => AV.g (.one (.sl 0 0 n))) hlj.symm
theorem ex_circ (l : List UInt8) (c n most q : Int) (h : 0 ≤ c ∧ c ≤ 90000 ∧ l.length ≤ 2000) (hm : 0 ≤ most ∧ most ≤ 30) (hq : q ≤ 1000) : ∃ (cs : List Gt) (c' : Int), cs.length ≤ 31 ∧ (∀ g ∈ cs, gtb g) ∧ (c ≤ c' ∧ c' ≤ c + 700) ∧ Kon Try.prog 25 [p0, vI n, vI most, vI q] [rdE l c] (slA 0 0 cs) [gRow cs] [rdE l c'] := by
  obtain ⟨cs, c', x1, x2, x3, _, x4⟩ := ex_circ2 l c n most q h hm hq
  exact ⟨cs, c', x1, x2, x3, x4⟩
/-- Lines and a circuit are drawn. -/
theorem ex_lined (l : List UInt8) (c n : Int) (h : 0 ≤ c ∧ c ≤ 80000 ∧ l.length ≤ 2000) (hn : 0 < n ∧ n ≤ 400) : ∃ (L : Int) (cs : List Gt) (c' : Int), (-1 ≤ L ∧ L ≤ 9) ∧ cs.length ≤ 31 ∧ (∀ g ∈ cs, gtb g) ∧ (c ≤ c' ∧ c' ≤ c + 710) ∧ Kon Try.prog 17 [p0, vI n] [rdE l c] (.tup [.one (.v (.int .i64 L)), .one (.sl 0 0 cs.length)]) [gRow cs] [rdE l c'] := by
  obtain ⟨L, hL, hK1⟩ := ex_lines l c (2 * n) (by omega)
  obtain ⟨cs, c', h1, h2, h3, hK2⟩ := ex_circ l (c + 1 + 1) L 10 (2 * n) (by omega) (by omega) (by omega)
  refine ⟨L, cs, c', hL, h1, h2, by omega, ?_⟩
  (refine kon_mk T0ok (fn := Try.f17) (c := Try.f17.body.get rfl) Try.func17 rfl (by rfl) (by rfl) (by rfl) ?_; intro hfit hfe)
  (repeat (first | refine gq_KGQ ?_ | (refine ga_KGQ ?_; intro _hq)))
  (refine rtA ?_; try rfl)
end Go.Proofs.Ytfcadkdgichpmaa

/- Plain laws of words: bits read and turned. -/
namespace Go.Proofs.Ytfcadkdgichpmaa
set_option linter.unusedVariables false
set_option linter.unusedSimpArgs false
theorem sb_and {w a : Int} (hw : 0 ≤ w) : ((((w / 2 ^ a.toNat).toNat &&& Int.toNat 1 : Nat)) : Int) = if bt w a then 1 else 0 := by
  have e : (w / 2 ^ a.toNat).toNat = w.toNat >>> a.toNat := by
    rw [Nat.shiftRight_eq_div_pow]
    obtain ⟨m, rfl⟩ := Int.eq_ofNat_of_zero_le hw
    rw [show ((m : Int) / 2 ^ a.toNat) = ((m / 2 ^ a.toNat : Nat) : Int) by simp, Int.toNat_natCast, Int.toNat_natCast]
  rw [e]
  unfold bt
  rw [Nat.testBit, Nat.and_comm]
  show ((((1 &&& w.toNat >>> a.toNat : Nat)) : Int)) = _
  have h := Nat.mod_two_eq_zero_or_one (w.toNat >>> a.toNat)
  rw [Nat.and_comm, Nat.and_one_is_mod]
  rcases h with h | h <;> rw [h] <;> rfl
theorem sb_mod {w a : Int} (hw : 0 ≤ w) : w / 2 ^ a.toNat % 2 = if bt w a then 1 else 0 := by
  rw [← sb_and hw]
  have h0 : 0 ≤ w / 2 ^ a.toNat := Int.ediv_nonneg hw (Int.pow_nonneg (by decide))
  obtain ⟨m, hm⟩ := Int.eq_ofNat_of_zero_le h0
  rw [hm, Int.toNat_natCast]
  show _ = ((m &&& 1 : Nat) : Int)
  rw [Nat.and_one_is_mod]
  omega
theorem xor_add : ∀ w < 256, ∀ i < 8, w.testBit i = false → w ^^^ 2 ^ i = w + 2 ^ i := by decide +kernel
theorem xor_sub : ∀ w < 256, ∀ i < 8, w.testBit i = true → (w ^^^ 2 ^ i) + 2 ^ i = w := by decide +kernel
theorem turn_eq {w a : Int} (hw : 0 ≤ w ∧ w < 256) (ha : 0 ≤ a ∧ a < 8) : (if bt w a then w - 1 * 2 ^ a.toNat else w + 1 * 2 ^ a.toNat) = ((w.toNat ^^^ 2 ^ a.toNat : Nat) : Int) := by
  have h1 : w.toNat < 256 := by omega
  have h2 : a.toNat < 8 := by omega
  have e : ((2 : Int) ^ a.toNat) = ((2 ^ a.toNat : Nat) : Int) := by simp
  have e2 : ((w.toNat : Nat) : Int) = w := Int.toNat_of_nonneg hw.1
  rw [Int.one_mul, e]
  unfold bt
  cases hb : w.toNat.testBit a.toNat with
  | false =>
    have := xor_add _ h1 _ h2 hb
    rw [if_neg (by decide)]; omega
  | true =>
    have := xor_sub _ h1 _ h2 hb
    rw [if_pos rfl]; omega
theorem gr_if (g : Gt) {w : Int} (hw : 0 ≤ w) : gr g w = if gc g w then ((w.toNat ^^^ gm g : Nat) : Int) else w := by
  unfold gr
  split
  · rfl
  · exact Int.toNat_of_nonneg hw
theorem pow_nat (a : Int) : ((2 : Int) ^ a.toNat).toNat = 2 ^ a.toNat := by
  rw [show ((2 : Int) ^ a.toNat) = ((2 ^ a.toNat : Nat) : Int) by simp, Int.toNat_natCast]
theorem pow_8 {n : Int} (h : 1 ≤ n ∧ n ≤ 8) : 2 ≤ (2 : Int) ^ n.toNat ∧ (2 : Int) ^ n.toNat ≤ 256 := by
  obtain rfl | rfl | rfl | rfl | rfl | rfl | rfl | rfl : n = 1 ∨ n = 2 ∨ n = 3 ∨ n = 4 ∨ n = 5 ∨ n = 6 ∨ n = 7 ∨ n = 8 := by omega
  all_goals decide
theorem pow_7 {n : Int} (h : 0 ≤ n ∧ n ≤ 7) : 1 ≤ (2 : Int) ^ n.toNat ∧ (2 : Int) ^ n.toNat ≤ 128 := by
  obtain rfl | rfl | rfl | rfl | rfl | rfl | rfl | rfl : n = 0 ∨ n = 1 ∨ n = 2 ∨ n = 3 ∨ n = 4 ∨ n = 5 ∨ n = 6 ∨ n = 7 := by omega
  all_goals decide
/-- Lines seen. -/
def gvL (n : Int) : Nat → List Int → Bool
  | _, [] => true
  | s, x :: l => btw x 0 (n - 1) && !(s.testBit x.toNat) && gvL n (s ||| 2 ^ x.toNat) l
def z0 (l : List Int) : Bool := l.all (· == 0)
theorem or_bit (s a b : Nat) : (s ||| 2 ^ a).testBit b = (s.testBit b || decide (a = b)) := by rw [Nat.testBit_or, Nat.testBit_two_pow]
theorem btw8 (n x : Int) : btw x 0 (n - 1) = in8 n x := by
  unfold btw in8
  congr 1
  exact decide_eq_decide.2 (by omega)
theorem nat_ne {n a b : Int} (ha : in8 n a = true) (hb : in8 n b = true) : decide (a.toNat = b.toNat) = (b == a) := by
  simp only [in8, Bool.and_eq_true, decide_eq_true_eq] at ha hb
  by_cases h : a = b
  · subst h; simp
  · have : (b == a) = false := by rw [beq_eq_false_iff_ne]; exact Ne.symm h
    rw [this]; exact decide_eq_false (by omega)
theorem gvL1 (n a : Int) : gvL n 0 [a] = in8 n a := by simp [gvL, btw8]
theorem gvL2 (n a b : Int) : gvL n 0 [a, b] = (in8 n a && in8 n b && (b != a)) := by
  simp only [gvL, btw8, or_bit, Nat.zero_testBit, Bool.false_or, Bool.and_true, Bool.not_false]
  cases ha : in8 n a <;> cases hb : in8 n b <;> first | (simp; done) | (rw [nat_ne ha hb]; rfl)
theorem gvL3 (n a b c : Int) : gvL n 0 [a, b, c] = (in8 n a && in8 n b && (b != a) && in8 n c && (c != a) && (c != b)) := by
  simp only [gvL, btw8, or_bit, Nat.zero_testBit, Bool.false_or, Bool.and_true, Bool.not_false]
  cases ha : in8 n a <;> cases hb : in8 n b <;> cases hc : in8 n c <;> first | (simp; done) | (rw [nat_ne ha hb, nat_ne ha hc, nat_ne hb hc]; unfold bne; cases (b == a) <;> cases (c == a) <;> cases (c == b) <;> rfl)
def ntL (g : Gt) : List Int := if g.k = 0 then [g.a] else if g.k = 1 ∨ g.k = 3 then [g.a, g.b] else [g.a, g.b, g.c]
def ntR (g : Gt) : List Int := if g.k = 0 then [g.b, g.c] else if g.k = 1 ∨ g.k = 3 then [g.c] else []
theorem gok_nt {n : Int} {g : Gt} (h : 0 ≤ g.k ∧ g.k ≤ 4) (hn : btw n 1 8 = true) : gok n g = (gvL n 0 (ntL g) && z0 (ntR g)) := by
  have e : okLn n = true := hn
  unfold gok
  rw [e, Bool.true_and]
  unfold gokL ntL ntR
  have h' : g.k = 0 ∨ g.k = 1 ∨ g.k = 2 ∨ g.k = 3 ∨ g.k = 4 := by omega
  rcases h' with h' | h' | h' | h' | h' <;> simp [h', gvL1, gvL2, gvL3, z0, Bool.and_assoc]
theorem gok_k {n : Int} {g : Gt} (h : btw g.k 0 4 = false) : gok n g = false := by
  have := btw_f h
  unfold gok gokL
  rw [if_neg (by omega), if_neg (by omega), if_neg (by omega), Bool.and_false]
theorem gok_n {n : Int} {g : Gt} (h : btw n 1 8 = false) : gok n g = false := by
  have e : okLn n = false := h
  unfold gok; rw [e, Bool.false_and]
end Go.Proofs.Ytfcadkdgichpmaa

/- impl.GateValid is gok. -/
namespace Go.Proofs.Ytfcadkdgichpmaa
set_option linter.unusedVariables false
set_option linter.unusedSimpArgs false
set_option maxRecDepth 20000
open Go.RowKit
attribute [local irreducible] runA runX AW
theorem gq_KGE {H G : Prop} (k : H) (h : Hid H → G := by (intro hh; repeat1' (first | (first | ((first | refine r_none ?_ | refine r_gt (by rfl) (by rfl) zDD (by rfl) ?_ | refine r_gf (by rfl) (by rfl) zDD (by rfl) ?_); (first | (refine z_op (by rfl) ?_; refine z_ex ?_ (pu_of hm rfl) ?_; focus (first | exact trivial | fail | exact zQZ)) | ((first | (refine z_op (by rfl) ?_; first | refine z_ok ?_ ?_ | refine z_ex ?_ (by first | exact zL1 | ((first | fail); exact zWW) | exact zL2 | fail | exact zL3 | fail) ?_) | ((first | refine q_callE wsT wsZ (by rfl) ?_ | refine q_callVE wsT (by rfl) (by rfl) ?_); refine ⟨_, _, _, (by first | assumption | exact k_within _ _ _ | exact k_okL _ | exact k_nat0 _ (by assumption)), _, by rfl, ?_, ?_⟩)); focus (first | exact trivial | fail | exact zQZ)) | fail)) | refine r_nt (by rfl) (by rfl) zDD (by rfl) ?_ | refine r_nf (by rfl) (by rfl) zDD (by rfl) ?_ | refine r_gu (by rfl) (by rfl) (by rfl) ?_ | refine r_nil ?_) | (first | refine aw_seq ?_ | refine aw_ct (by rfl) zDD ?_ | refine aw_cf (by rfl) zDD ?_ | refine aw_block ?_ | refine aw_region T0ok cfU_ok (by rfl) ?_ | refine aw_skip ?_ | refine aw_exit ?_ | refine ra_step ?_)); exact hh.out)) : G := h ⟨k⟩
theorem ga_KGE {H G : Prop} (k : H) (h : Hid H → G := by (intro hh; (first | refine r_none ?_ | refine r_gt (by rfl) (by rfl) zDD (by rfl) ?_ | refine r_gf (by rfl) (by rfl) zDD (by rfl) ?_); refine z_op (by rfl) ?_; refine z_alV ?_ hh.out; focus (first | exact trivial | fail | exact zQZ))) : G := h ⟨k⟩
theorem hm0 : ∀ w : World, (Op.unary .not (.bool true)).run Try.prog w = .ok (.bool false) w := fun w => rfl
theorem k_gv00 (n : Int) (g : Gt) (h : btw g.k 0 4 = false) : Kon Try.prog 36 [vI n, gV g] [] (vB false) [] [] := by
  have hm := hm0
  (refine kon_mk T0ok (fn := Try.f36) (c := Try.f36.body.get rfl) Try.func36 rfl (by rfl) (by rfl) (by rfl) ?_; intro hfit hfe)
  (repeat (first | refine gq_KGE ?_ | (refine ga_KGE ?_; intro _hq)))
  (refine rtA ?_; try rfl)
theorem seen_nat (s : Nat) (x : Int) : (((((((s : Nat) : Int) / 2 ^ x.toNat).toNat &&& Int.toNat 1 : Nat) : Int)) == 1) = s.testBit x.toNat := by
  rw [sb_and (Int.natCast_nonneg s)]
  unfold bt
  rw [Int.toNat_natCast]
  cases s.testBit x.toNat <;> rfl
theorem or_lt8 {s : Nat} {x : Int} (hs : s < 256) (hx : 0 ≤ x ∧ x ≤ 7) : s ||| 2 ^ x.toNat < 256 := Nat.or_lt_two_pow (n := 8) hs (Nat.pow_lt_pow_right (by omega) (by omega))
theorem or_cast (s : Nat) (x : Int) : ((((s : Nat) : Int).toNat ||| (1 * 2 ^ x.toNat : Int).toNat : Nat) : Int) = ((s ||| 2 ^ x.toNat : Nat) : Int) := by
  rw [Int.toNat_natCast, Int.one_mul, pow_nat]
theorem gvL_drop {n : Int} {s i : Nat} {L : List Int} (hi : i < L.length) : gvL n s (L.drop i) = (btw (L.getD i 0) 0 (n - 1) && !(s.testBit (L.getD i 0).toNat) && gvL n (s ||| 2 ^ (L.getD i 0).toNat) (L.drop (i + 1))) := by
  rw [List.drop_eq_getElem_cons hi]
  simp [gvL, List.getD_eq_getElem?_getD, hi]
theorem z0_drop {i : Nat} {L : List Int} (hi : i < L.length) : z0 (L.drop i) = ((L.getD i 0 == 0) && z0 (L.drop (i + 1))) := by
  rw [List.drop_eq_getElem_cons hi]
  have e : L.getD i 0 = L[i] := by simp [List.getD_eq_getElem?_getD, hi]
  rw [e]; rfl
set_option maxHeartbeats 1000000 in
theorem gv_core (n : Int) (g : Gt) (x1 x3 x4 : Value) (m m2 : Int) (L L2 : List Int) (hK : Kon Try.prog 41 [gV g] [] (.tup [.agg [.v x1, .v (.int .i64 m), .v x3, .v x4], .one (.v (.bool true))]) [] [])
    (hS : Kon Try.prog 42 [gV g, vI m] [] (slA 0 0 L) [iRow L] []) (hS2 : Kon Try.prog 42 [gV g, vI m2] [] (slA 0 0 L2) [iRow L2] [])
    (hm : ∀ w, (Op.unary .xor (.int .i64 m)).run Try.prog w = .ok (.int .i64 m2) w) (hL : L.length ≤ 3) (hL2 : L2.length ≤ 3) : Kon Try.prog 36 [vI n, gV g] [] (vB (btw n 1 8 && (gvL n 0 L && z0 L2))) [] [] := by
  cases hn : btw n 1 8 with
  | false =>
    (refine kon_mk T0ok (fn := Try.f36) (c := Try.f36.body.get rfl) Try.func36 rfl (by rfl) (by rfl) (by rfl) ?_; intro hfit hfe)
    (repeat (first | refine gq_KGE ?_ | (refine ga_KGE ?_; intro _hq)))
    (refine rtA ?_; try rfl)
  | true =>
  have hn' := btw_t hn
  rw [Bool.true_and]
  (refine kon_mk T0ok (fn := Try.f36) (c := Try.f36.body.get rfl) Try.func36 rfl (by rfl) (by rfl) (by rfl) ?_; intro hfit hfe)
  (repeat (first | refine gq_KGE ?_ | (refine ga_KGE ?_; intro _hq)))
  (refine aw_rd [0, 3, 5, 27, 28] [48, 432, 80] (fun g : Nat × Nat => [(7, vI g.2), (29, vI g.1)]) (fun _ => []) (fun g => g.1 ≤ L.length ∧ g.2 < 256 ∧ gvL n g.2 (L.drop g.1) = gvL n 0 L) (fun g => L.length - g.1) (0, 0) (by rfl) (by rfl) ?_ (by rfl) zHE zHE ?_)
  · exact ⟨Nat.zero_le _, by decide, by rw [List.drop_zero]⟩
  rintro ⟨i, s⟩ ⟨hi, hs, hg⟩
  dsimp only at hi hs hg ⊢
  rcases Nat.lt_or_ge i L.length with h5 | h5
  · have hd : decide ((i : Int) < (L.length : Int)) = true := by simpa using h5
    obtain ⟨x, hx⟩ : ∃ x, L.getD (i : Int).toNat (Cel.no : Int) = x := ⟨_, rfl⟩
    have hx' : L.getD i 0 = x := hx
    rw [gvL_drop h5, hx'] at hg
    (repeat (first | refine gq_KGE ?_ | (refine ga_KGE ?_; intro _hq)))
    rw [hx]
    cases hb : btw x 0 (n - 1) with
    | false =>
      rw [hb, Bool.false_and, Bool.false_and] at hg
      rw [← hg, Bool.false_and]
      (repeat (first | refine gq_KGE ?_ | (refine ga_KGE ?_; intro _hq)))
      (refine rtA ?_; try rfl)
    | true =>
      have hb' := btw_t hb
      have hp := pow_7 (n := x) (by omega)
      have hn1 := seen_nat s x
      have hs2 := or_lt8 (s := s) (x := x) hs (by omega)
      rw [hb, Bool.true_and] at hg
      cases hv : s.testBit x.toNat with
      | true =>
        rw [hv, Bool.not_true, Bool.false_and] at hg
        rw [hv] at hn1
        rw [← hg, Bool.false_and]
        (repeat (first | refine gq_KGE ?_ | (refine ga_KGE ?_; intro _hq)))
        (refine rtA ?_; try rfl)
      | false =>
        rw [hv, Bool.not_false, Bool.true_and] at hg
        rw [hv] at hn1
        have hinv : i + 1 ≤ L.length ∧ s ||| 2 ^ x.toNat < 256 ∧ gvL n (s ||| 2 ^ x.toNat) (L.drop (i + 1)) = gvL n 0 L := ⟨h5, hs2, hg⟩
        have e := or_cast s x
        (repeat (first | refine gq_KGE ?_ | (refine ga_KGE ?_; intro _hq)))
        rw [e]
        exact ⟨(i + 1, s ||| 2 ^ x.toNat), hinv, ⟨by rfl, zHE, zHE⟩, (by first | omega | (dsimp only; omega))⟩
  · have hd : decide ((i : Int) < (L.length : Int)) = false := by simp; omega
    rw [List.drop_of_length_le h5] at hg
    rw [← hg]
    clear hg
    (repeat (first | refine gq_KGE ?_ | (refine ga_KGE ?_; intro _hq)))
    (refine aw_rd [54, 55] [864] (fun i : Nat => [(56, vI i)]) (fun _ => []) (fun i => i ≤ L2.length ∧ z0 (L2.drop i) = z0 L2) (fun i => L2.length - i) 0 (by rfl) (by rfl) ?_ (by rfl) zHE zHE ?_)
    · exact ⟨Nat.zero_le _, by rw [List.drop_zero]⟩
    rintro j ⟨hj, hz⟩
    rcases Nat.lt_or_ge j L2.length with h6 | h6
    · have hd : decide ((j : Int) < (L2.length : Int)) = true := by simpa using h6
      obtain ⟨x, hx⟩ : ∃ x, L2.getD (j : Int).toNat (Cel.no : Int) = x := ⟨_, rfl⟩
      have hx' : L2.getD j 0 = x := hx
      rw [z0_drop h6, hx'] at hz
      (repeat (first | refine gq_KGE ?_ | (refine ga_KGE ?_; intro _hq)))
      rw [hx]
      cases hb : (x != 0) with
      | true =>
        have e : (x == 0) = false := by rw [bne] at hb; simpa using hb
        rw [e, Bool.false_and] at hz
        rw [← hz]
        (repeat (first | refine gq_KGE ?_ | (refine ga_KGE ?_; intro _hq)))
        (refine rtA ?_; try rfl)
      | false =>
        have e : (x == 0) = true := by rw [bne] at hb; simpa using hb
        rw [e, Bool.true_and] at hz
        have hinv : j + 1 ≤ L2.length ∧ z0 (L2.drop (j + 1)) = z0 L2 := ⟨h6, hz⟩
        (repeat (first | refine gq_KGE ?_ | (refine ga_KGE ?_; intro _hq)))
        exact ⟨j + 1, hinv, ⟨by rfl, zHE, zHE⟩, (by first | omega | (dsimp only; omega))⟩
    · have hd : decide ((j : Int) < (L2.length : Int)) = false := by simp; omega
      rw [List.drop_of_length_le h6] at hz
      rw [← hz]
      (repeat (first | refine gq_KGE ?_ | (refine ga_KGE ?_; intro _hq)))
      (refine rtA ?_; try rfl)
theorem k_gv (n : Int) (g : Gt) : Kon Try.prog 36 [vI n, gV g] [] (vB (gok n g)) [] [] := by
  cases hk : btw g.k 0 4 with
  | false => rw [gok_k hk]; exact k_gv00 n g hk
  | true =>
    have hk' := btw_t hk
    have hK := k_nat1 g hk'
    cases hn : btw n 1 8 with
    | false =>
      rw [gok_n hn]
      obtain ⟨k, a, b, c⟩ := g
      dsimp only at hk' hK ⊢
      have h' : k = 0 ∨ k = 1 ∨ k = 2 ∨ k = 3 ∨ k = 4 := by omega
      have hm := hm0
      rcases h' with rfl | rfl | rfl | rfl | rfl
      all_goals
        (refine kon_mk T0ok (fn := Try.f36) (c := Try.f36.body.get rfl) Try.func36 rfl (by rfl) (by rfl) (by rfl) ?_; intro hfit hfe)
        (repeat (first | refine gq_KGE ?_ | (refine ga_KGE ?_; intro _hq)))
        (refine rtA ?_; try rfl)
    | true =>
      rw [gok_nt hk' hn]
      have hG : ∀ (x1 x3 x4 : Value) (m m2 : Int) (L L2 : List Int), _ → _ → _ → _ → _ → _ → Kon Try.prog 36 [vI n, gV g] [] (vB (btw n 1 8 && (gvL n 0 L && z0 L2))) [] [] := gv_core n g
      rw [hn] at hG
      simp only [Bool.true_and] at hG
      obtain ⟨k, a, b, c⟩ := g
      dsimp only at hk' hK ⊢
      have h' : k = 0 ∨ k = 1 ∨ k = 2 ∨ k = 3 ∨ k = 4 := by omega
      rcases h' with rfl | rfl | rfl | rfl | rfl
      · exact hG _ _ _ 1 (-2) [a] [b, c] hK (k_some _ 1 (by decide)) (k_some _ (-2) (by decide)) (fun w => rfl) (by simp) (by simp)
      · exact hG _ _ _ 3 (-4) [a, b] [c] hK (k_some _ 3 (by decide)) (k_some _ (-4) (by decide)) (fun w => rfl) (by simp) (by simp)
      · exact hG _ _ _ 7 (-8) [a, b, c] [] hK (k_some _ 7 (by decide)) (k_some _ (-8) (by decide)) (fun w => rfl) (by simp) (by simp)
      · exact hG _ _ _ 3 (-4) [a, b] [c] hK (k_some _ 3 (by decide)) (k_some _ (-4) (by decide)) (fun w => rfl) (by simp) (by simp)
      · exact hG _ _ _ 7 (-8) [a, b, c] [] hK (k_some _ 7 (by decide)) (k_some _ (-8) (by decide)) (fun w => rfl) (by simp) (by simp)
end Go.Proofs.Ytfcadkdgichpmaa
