/- KTA, KTB, LTA, LTC: laid into one text. -/
import Derived.Test.YtfbcblknahicdaaQXFG
import Derived.Test.YtfbcblknahicdaaQXFJ
import Derived.DeepKeys4

namespace Go.Proofs.Ytfbcblknahicdaa
set_option linter.unusedVariables false
set_option linter.unusedSimpArgs false
set_option maxRecDepth 20000
open Go.RowKit
attribute [local irreducible] runA runX AW
theorem gq_KTA {H G : Prop} (k : H) (h : Hid H → G := by (intro hh; repeat1' (first | (first | (refine nxA ?_; (first | fail | ((first | (refine z_op (by rfl) ?_; first | refine z_ok ?_ ?_ | refine z_ex ?_ (by first | exact zL1 | ((first | refine mk_c Bool rfl rfl rfl ?_); exact zWW) | exact zL2 | fail | exact zL3 | fail) ?_) | ((first | refine q_callE wsT wsZ (by rfl) ?_ | refine q_callVE wsT (by rfl) (by rfl) ?_); refine ⟨_, _, _, (by first | assumption | exact k_within _ _ _ | exact k_okL _), _, by rfl, ?_, ?_⟩)); focus (first | exact trivial | fail | exact zQZ)) | fail)) | refine swA ?_) | refine awA ?_); exact hh.out)) : G := h ⟨k⟩
abbrev bRow (l : List Bool) : Ent := rwE 4 l
set_option maxHeartbeats 4000000 in
theorem k_tvI (n : Int) (t : List Int) (h : t.length ≤ 1000) : Kon Try.prog 16 [vI n, roA t] [] (vB (tvB n t)) [] [] := by
  unfold tvB
  cases hn : btw n 1 8 with
  | false =>
    (refine kM Try.func16 rfl ?_; intro hfit hfe)
    (repeat (first | refine gq_KTA ?_ | (refine ga0A ?_; intro _hq)))
    (refine rtA ?_; try rfl)
  | true =>
  have hn' := btw_t hn
  have h8 := pow_8 hn'
  rw [Bool.true_and]
  cases hl : ((t.length : Int) == 2 ^ n.toNat) with
  | false =>
    have hl2 : ((t.length : Int) != 1 * 2 ^ n.toNat) = true := by rw [Int.one_mul, bne, hl]; rfl
    (refine kM Try.func16 rfl ?_; intro hfit hfe)
    (repeat (first | refine gq_KTA ?_ | (refine ga0A ?_; intro _hq)))
    (refine rtA ?_; try rfl)
  | true =>
  have hl2 : ((t.length : Int) != 1 * 2 ^ n.toNat) = false := by rw [Int.one_mul, bne, hl]; rfl
  rw [Bool.true_and]
  have hrl : (List.replicate (t.length : Int).toNat (Cel.no : Bool)).length = t.length := by rw [List.length_replicate]; omega
  have hpos : 0 < t.length := by rw [beq_iff_eq] at hl; omega
  (refine kM Try.func16 rfl ?_; intro hfit hfe)
  (repeat (first | refine gq_KTA ?_ | (refine ga0A ?_; intro _hq)))
  (refine aw_rd [0, 1, 5, 21, 22] [] (fun g : Nat × List Bool => [(23, vI g.1)]) (fun g => [(320, (0, bRow g.2))]) (fun g => g.1 ≤ t.length ∧ g.2.length = t.length ∧ tvL (t.length : Int) g.2 (t.drop g.1) = tvL (t.length : Int) (List.replicate t.length false) t) (fun g => t.length - g.1) (0, List.replicate (t.length : Int).toNat (Cel.no : Bool)) (by rfl) (by rfl) ?_ (by rfl) zHE zHE ?_)
  · exact ⟨Nat.zero_le _, hrl, rfl⟩
  rintro ⟨i, s⟩ ⟨hi, hs, hz⟩
  dsimp only at hi hs hz ⊢
  rcases Nat.lt_or_ge i t.length with h5 | h5
  · have hd : decide ((i : Int) < (t.length : Int)) = true := by simpa using h5
    obtain ⟨x, hx⟩ : ∃ x, t.getD (i : Int).toNat (Cel.no : Int) = x := ⟨_, rfl⟩
    have hx' : t.getD i 0 = x := hx
    rw [tvL_drop h5, hx'] at hz
    (repeat (first | refine gq_KTA ?_ | (refine ga0A ?_; intro _hq)))
    rw [hx]
    cases hb : btw x 0 ((t.length : Int) - 1) with
    | false =>
      rw [hb, Bool.false_and, Bool.false_and] at hz
      rw [← hz]
      clear hz
      (repeat (first | refine gq_KTA ?_ | (refine ga0A ?_; intro _hq)))
      (refine rtA ?_; try rfl)
    | true =>
      have hb' := btw_t hb
      rw [hb, Bool.true_and] at hz
      cases hv : s.getD x.toNat false with
      | true =>
        rw [hv, Bool.not_true, Bool.false_and] at hz
        rw [← hz]
        clear hz
        replace hv : s.getD x.toNat Cel.no = true := hv
        (repeat (first | refine gq_KTA ?_ | (refine ga0A ?_; intro _hq)))
        (refine rtA ?_; try rfl)
      | false =>
        rw [hv, Bool.not_false, Bool.true_and] at hz
        replace hv : s.getD x.toNat Cel.no = false := hv
        have hinv : i + 1 ≤ t.length ∧ (s.set x.toNat true).length = t.length ∧ tvL (t.length : Int) (s.set x.toNat true) (t.drop (i + 1)) = tvL (t.length : Int) (List.replicate t.length false) t := ⟨h5, by rw [List.length_set]; exact hs, hz⟩
        clear hz
        (repeat (first | refine gq_KTA ?_ | (refine ga0A ?_; intro _hq)))
        exact ⟨(i + 1, s.set x.toNat true), hinv, ⟨by rfl, zHE, zHE⟩, (by first | omega | (dsimp only; omega))⟩
  · have hd : decide ((i : Int) < (t.length : Int)) = false := by simp; omega
    rw [List.drop_of_length_le h5, tvL] at hz
    rw [← hz]
    clear hz
    (repeat (first | refine gq_KTA ?_ | (refine ga0A ?_; intro _hq)))
    (refine rtA ?_; try rfl)
theorem gq_KTB {H G : Prop} (k : H) (h : Hid H → G := by (intro hh; repeat1' (first | (first | (refine nxA ?_; (first | fail | ((first | (refine z_op (by rfl) ?_; first | refine z_ok ?_ ?_ | refine z_ex ?_ (by first | exact zL1 | ((first | refine mk_c Bool rfl rfl rfl ?_); exact zWW) | exact zL2 | exact rw_c Int rfl | exact zL3 | fail) ?_) | ((first | refine q_callE wsT wsZ (by rfl) ?_ | refine q_callVE wsT (by rfl) (by rfl) ?_); refine ⟨_, _, _, (by first | assumption), _, by rfl, ?_, ?_⟩)); focus (first | exact trivial | fail | exact zQZ)) | fail)) | refine swA ?_) | refine awA ?_); exact hh.out)) : G := h ⟨k⟩
set_option maxHeartbeats 8000000 in
theorem k_cyc (t : List Int) (ht : tvL (t.length : Int) (List.replicate t.length false) t = true) (h : t.length ≤ 256) : Kon Try.prog 29 [roA t] [] (slA 0 0 (cyM (fT t) t.length t.length).2) [iRow (cyM (fT t) t.length t.length).2] [] := by
  have hT := tv_tp ht
  have hat : ∀ x : Nat, x < t.length → t.getD ((x : Int)).toNat Cel.no = ((fT t x : Nat) : Int) := fun x hx => by
    have := (tvL_at (by rw [List.length_replicate]) ht x hx).1
    show t.getD x 0 = _
    unfold fT; omega
  have hrl : (List.replicate (t.length : Int).toNat (Cel.no : Bool)).length = t.length := by rw [List.length_replicate]; omega
  have hr0 : List.replicate (t.length : Int).toNat (Cel.no : Bool) = (cyM (fT t) t.length 0).1 := by rw [cyM]; rfl
  clear ht
  (refine kM Try.func29 rfl ?_; intro hfit hfe)
  (repeat (first | refine gq_KTB ?_ | (refine ga0A ?_; intro _hq)))
  (refine aw_rd [0, 4, 12, 13] [] (fun g : Nat × Nat × List Int × List Bool => [(3, .g (.one (.sl 128 g.2.1 g.2.2.1.length))), (14, vI g.1)]) (fun g => [(128, (g.2.1, iRow g.2.2.1)), (176, (0, bRow g.2.2.2))]) (fun g => g.1 ≤ t.length ∧ g.2.2.1.length ≤ g.1 ∧ g.2.2.1 = (cyM (fT t) t.length g.1).2 ∧ g.2.2.2 = (cyM (fT t) t.length g.1).1) (fun g => t.length - g.1) (0, 0, [], List.replicate (t.length : Int).toNat (Cel.no : Bool)) (by rfl) (by rfl) ?_ (by rfl) zHE zHE ?_)
  · exact ⟨Nat.zero_le _, Nat.le_refl _, rfl, hr0⟩
  rintro ⟨w, u, o, s⟩ ⟨hw, hol, ho, hs⟩
  dsimp only at hw hol ho hs ⊢
  rcases Nat.lt_or_ge w t.length with h5 | h5
  · have hd : decide ((w : Int) < (t.length : Int)) = true := by simpa using h5
    obtain ⟨hsb, _⟩ := cyM_ok hT w hw
    rw [← hs] at hsb
    obtain ⟨hE, hS2, _, _, hRb, hR0⟩ := wk_one hT h5 hsb
    have hsl := hsb.1
    have e1 : cyM (fT t) t.length (w + 1) = ((wkM (fT t) t.length s w 0).1, if (wkM (fT t) t.length s w 0).2 > 0 then o ++ [(wkM (fT t) t.length s w 0).2] else o) := by rw [cyM, ← hs, ← ho]
    obtain ⟨R, hR⟩ : ∃ R, wkM (fT t) t.length s w 0 = R := ⟨_, rfl⟩
    have hRl : R.1.length = t.length := by rw [← hR, wkM_len, hsl]
    rw [hR] at e1 hRb hR0
    clear hS2 hsb hs ho
    (repeat (first | refine gq_KTB ?_ | (refine ga0A ?_; intro _hq)))
    (refine aw_rd [0, 3, 4, 5, 12, 13, 14] [128] (fun q : Nat × Nat × Int × List Bool => [(6, vI q.2.2.1), (7, vI q.2.1)]) (fun q => [(176, (0, bRow q.2.2.2))]) (fun q => q.1 ≤ t.length ∧ q.2.1 < t.length ∧ q.2.2.2.length = t.length ∧ (0 ≤ q.2.2.1 ∧ q.2.2.1 + (q.1 : Int) ≤ (t.length : Int)) ∧ Ends (fT t) q.1 q.2.2.2 q.2.1 ∧ wkM (fT t) q.1 q.2.2.2 q.2.1 q.2.2.1 = R) (fun q => q.1) (t.length, w, 0, s) (by rfl) (by rfl) ?_ (by rfl) zHE zHE ?_)
    · exact ⟨Nat.le_refl _, h5, hsl, ⟨Int.le_refl _, by show (0 : Int) + _ ≤ _; omega⟩, hE, hR⟩
    rintro ⟨k, x, l, s'⟩ ⟨hk, hx, hsl', hl, hE', hR'⟩
    dsimp only at hk hx hsl' hl hE' hR' ⊢
    have hax := hat x hx
    cases hv : s'.getD x false with
    | true =>
      have hv2 : s'.getD ((x : Int)).toNat Cel.no = true := hv
      have hv3 : (!(s'.getD ((x : Int)).toNat Cel.no)) = false := by rw [hv2]; rfl
      have hfin : (s', l) = R := by
        rcases k with _ | k
        · exact hR'
        · rw [wkM, if_pos hv] at hR'; exact hR'
      subst hfin
      clear hE' hR' hE hR hv hv2
      rcases Int.lt_or_le 0 l with h6 | h6
      · have hd2 : decide (l > 0) = true := decide_eq_true h6
        rw [if_pos h6] at e1
        have hinv : w + 1 ≤ t.length ∧ (o ++ [l]).length ≤ w + 1 ∧ (o ++ [l]) = (cyM (fT t) t.length (w + 1)).2 ∧ s' = (cyM (fT t) t.length (w + 1)).1 := ⟨h5, by rw [List.length_append]; simp; omega, by rw [e1], by rw [e1]⟩
        clear e1
        (repeat (first | refine gq_KTB ?_ | (refine ga0A ?_; intro _hq)))
        exact ⟨(w + 1, u + 1, o ++ [l], s'), hinv, ⟨by rfl, zHE, zHE⟩, (by first | omega | (dsimp only; omega))⟩
      · have hd2 : decide (l > 0) = false := decide_eq_false (by omega)
        rw [if_neg (by dsimp only; omega)] at e1
        have hinv : w + 1 ≤ t.length ∧ o.length ≤ w + 1 ∧ o = (cyM (fT t) t.length (w + 1)).2 ∧ s' = (cyM (fT t) t.length (w + 1)).1 := ⟨h5, by omega, by rw [e1], by rw [e1]⟩
        clear e1
        (repeat (first | refine gq_KTB ?_ | (refine ga0A ?_; intro _hq)))
        exact ⟨(w + 1, u, o, s'), hinv, ⟨by rfl, zHE, zHE⟩, (by first | omega | (dsimp only; omega))⟩
    | false =>
      have hv2 : s'.getD ((x : Int)).toNat Cel.no = false := hv
      have hnt : ¬ s'.getD x false = true := by rw [hv]; decide
      rcases k with _ | k
      · exact absurd hE' hnt
      · rw [wkM, if_neg hnt] at hR'
        have hE2 : Ends (fT t) k (s'.set x true) (fT t x) := hE'.resolve_left hnt
        have hinv : k ≤ t.length ∧ fT t x < t.length ∧ (s'.set x true).length = t.length ∧ (0 ≤ l + 1 ∧ l + 1 + (k : Int) ≤ (t.length : Int)) ∧ Ends (fT t) k (s'.set x true) (fT t x) ∧ wkM (fT t) k (s'.set x true) (fT t x) (l + 1) = R := ⟨by omega, hT.bd x hx, by rw [List.length_set]; exact hsl', ⟨by omega, by omega⟩, hE2, hR'⟩
        clear hE' hR' hE hR e1 hE2
        (repeat (first | refine gq_KTB ?_ | (refine ga0A ?_; intro _hq)))
        exact ⟨(k, fT t x, l + 1, s'.set x true), hinv, ⟨by rfl, ⟨by rfl, ⟨vI_of (by rfl) hax, zHE⟩⟩, zHE⟩, (by first | omega | (dsimp only; omega))⟩
  · have hd : decide ((w : Int) < (t.length : Int)) = false := by simp; omega
    obtain rfl : w = t.length := by omega
    subst ho
    clear hs hol
    (repeat (first | refine gq_KTB ?_ | (refine ga0A ?_; intro _hq)))
    (refine rtA ?_; try rfl)
theorem gq_LTA {H G : Prop} (k : H) (h : Hid H → G := by (intro hh; repeat1' (first | (first | (refine nxA ?_; (first | fail | ((first | (refine z_op (by rfl) ?_; first | refine z_ok ?_ ?_ | refine z_ex ?_ (by first | exact zL1 | ((first | (first | refine mk_0 Int rfl rfl ?_ | refine mk_c Int rfl rfl rfl ?_)); exact zWW) | exact zL2 | (first | exact rw_c Int rfl) | exact zL3 | fail) ?_) | ((first | refine q_callE wsT wsZ (by rfl) ?_ | refine q_callVE wsT (by rfl) (by rfl) ?_); refine ⟨_, _, _, (by first | assumption | exact k_pick _ _ _ (by omega) | exact k_odd _ _ _ (by omega) | exact k_open _ (by omega)), _, by rfl, ?_, ?_⟩)); focus (first | exact trivial | fail | exact zQZ)) | fail)) | refine swA ?_) | refine awA ?_); exact hh.out)) : G := h ⟨k⟩
def tbM (t : List Int) : Nat → List Int
  | 0 => List.replicate t.length 0
  | i + 1 => (tbM t i).set (t.getD i 0).toNat (i : Int)
theorem tbM24 : ∀ k, k < 24 → tbM (tbA S24 k) 4 = bkT (tbA S24 k) := by decide +kernel
theorem tbM_len (t : List Int) : ∀ i, (tbM t i).length = t.length
  | 0 => List.length_replicate
  | i + 1 => by rw [tbM, List.length_set]; exact tbM_len t i
theorem tv_bd {t : List Int} (h : tvB 2 t = true) : t.length = 4 ∧ ∀ i, i < 4 → 0 ≤ t.getD i Cel.no ∧ t.getD i Cel.no < 4 := by
  obtain ⟨a, b, c, d, ⟨ha, hb, hc, hd⟩, rfl⟩ := tv_four h
  refine ⟨rfl, fun i hi => ?_⟩
  have h4 : i = 0 ∨ i = 1 ∨ i = 2 ∨ i = 3 := by omega
  rcases h4 with rfl | rfl | rfl | rfl
  · show 0 ≤ (a : Int) ∧ (a : Int) < 4; omega
  · show 0 ≤ (b : Int) ∧ (b : Int) < 4; omega
  · show 0 ≤ (c : Int) ∧ (c : Int) < 4; omega
  · show 0 ≤ (d : Int) ∧ (d : Int) < 4; omega
theorem k_tb (t : List Int) (hv : tvB 2 t = true) : Kon Try.prog 11 [vI 2, roA t] [] (slA 0 0 (tbM t t.length)) [rwE 3 (tbM t t.length)] [] := by
  obtain ⟨h4, hbd⟩ := tv_bd hv
  have hV := k_tvI 2 t (by omega)
  rw [hv] at hV
  have hrl : (List.replicate (t.length : Int).toNat (Cel.no : Int)).length = t.length := by rw [List.length_replicate]; omega
  clear hv
  (refine kM Try.func11 rfl ?_; intro hfit hfe)
  (repeat (first | refine gq_LTA ?_ | (refine ga0A ?_; intro _hq)))
  (refine aw_rd [5, 15, 16] [] (fun i : Nat => [(17, vI i)]) (fun i => [(224, (0, rwE 3 (tbM t i)))]) (fun i => i ≤ t.length) (fun i => t.length - i) 0 (by rfl) (by rfl) ?_ (by rfl) zHE zHE ?_)
  · exact Nat.zero_le _
  rintro i hi
  have hl := tbM_len t i
  rcases Nat.lt_or_ge i t.length with h5 | h5
  · have hd2 : decide ((i : Int) < (t.length : Int)) = true := decide_eq_true (by omega)
    have hb4 : 0 ≤ t.getD (i : Int).toNat Cel.no ∧ t.getD (i : Int).toNat Cel.no < 4 := hbd i (by omega)
    clear hbd
    (repeat (first | refine gq_LTA ?_ | (refine ga0A ?_; intro _hq)))
    exact ⟨i + 1, h5, ⟨by rfl, zHE, zHE⟩, (by first | omega | (dsimp only; omega))⟩
  · obtain rfl : i = t.length := by omega
    have hd2 : decide ((t.length : Int) < (t.length : Int)) = false := decide_eq_false (by omega)
    have e : (List.replicate (t.length : Int).toNat (Cel.no : Int)).length = (tbM t t.length).length := by rw [hrl, hl]
    (repeat (first | refine gq_LTA ?_ | (refine ga0A ?_; intro _hq)))
    (refine rtA ?_; try rfl)
    exact congrArg (fun n => AV.g (.one (.sl 0 0 n))) e
theorem k_tcI2 (t : List Int) (hv : tvB 2 t = true) : Kon Try.prog 12 [vI 2, roA t] [] (vI (((cyM (fT t) t.length t.length).2.length : Nat) : Int)) [] [] := by
  obtain ⟨h4, hbd⟩ := tv_bd hv
  have hV := k_tvI 2 t (by omega)
  have hC := k_cyc t (by unfold tvB at hv; rw [Bool.and_eq_true, Bool.and_eq_true] at hv; exact hv.2.2) (by omega)
  rw [hv] at hV
  clear hv hbd
  (refine kM Try.func12 rfl ?_; intro hfit hfe)
  (repeat (first | refine gq_LTA ?_ | (refine ga0A ?_; intro _hq)))
  (refine rtA ?_; try rfl)
def rkM (t : List Int) : Int := 64 * t.getD 0 0 + 16 * t.getD 1 0 + 4 * t.getD 2 0 + t.getD 3 0
theorem k_rank (t : List Int) (h4 : t.length = 4) (hb : ∀ i, i < 4 → 0 ≤ t.getD i Cel.no ∧ t.getD i Cel.no < 4) : Kon Try.prog 19 [roA t] [] (vI (rkM t)) [] [] := by
  have b0 : 0 ≤ t.getD (0 : Int).toNat Cel.no ∧ t.getD (0 : Int).toNat Cel.no < 4 := hb 0 (by decide)
  have b1 : 0 ≤ t.getD (1 : Int).toNat Cel.no ∧ t.getD (1 : Int).toNat Cel.no < 4 := hb 1 (by decide)
  have b2 : 0 ≤ t.getD (2 : Int).toNat Cel.no ∧ t.getD (2 : Int).toNat Cel.no < 4 := hb 2 (by decide)
  have b3 : 0 ≤ t.getD (3 : Int).toNat Cel.no ∧ t.getD (3 : Int).toNat Cel.no < 4 := hb 3 (by decide)
  clear hb
  (refine kM Try.func19 rfl ?_; intro hfit hfe)
  (repeat (first | refine gq_LTA ?_ | (refine ga0A ?_; intro _hq)))
  (refine aw_draw mixed T0ok cfU_ok [] (by rfl) (by kernel_rfl) ?_)
  (repeat (first | refine gq_LTA ?_ | (refine ga0A ?_; intro _hq)))
  (refine rtA ?_; try rfl)
end Go.Proofs.Ytfbcblknahicdaa
namespace Go.Proofs.Ytfbcblknahicdaa
set_option linter.unusedVariables false
set_option linter.unusedSimpArgs false
open Go.Maps Go.WideMaps
theorem arr4K : ArrKey Try.prog 42 3 4 := ⟨by kernel_rfl, by kernel_rfl, by kernel_rfl, by kernel_rfl⟩
theorem wide4K : (match Try.prog.underlying 42 with | some (.array _ _) | some (.struct _) => true | _ => false) = true := by rw [arr4K.hu]
theorem law4K : KeyLaw Try.prog 42 := deep_law_laid (by kernel_rfl) (m := 2) (by omega) (of_decide_eq_true (by kernel_rfl)) (by kernel_rfl) wide4K
theorem keyed4 : Keyed Try.prog 42 := Keyed.of_law law4K
def ky4 (t : List Int) : Lit := .string (keyBytes (t.map fun x => Lit.int .i64 x))
def dom4 (t : List Int) : Prop := ∃ a b c d : Nat, (a < 4 ∧ b < 4 ∧ c < 4 ∧ d < 4) ∧ t = [(a : Int), (b : Int), (c : Int), (d : Int)]
theorem wf4 {a : Nat} (h : a < 4) : (Lit.int .i64 (a : Int)).wf = true := by
  have h4 : a = 0 ∨ a = 1 ∨ a = 2 ∨ a = 3 := by omega
  rcases h4 with rfl | rfl | rfl | rfl <;> rfl
theorem key4 {a b c d : Nat} (ha : a < 4) (hb : b < 4) (hc : c < 4) (hd : d < 4) : keyOf Try.prog 42 (.agg #[.int .i64 (a : Int), .int .i64 (b : Int), .int .i64 (c : Int), .int .i64 (d : Int)]) = some (ky4 [(a : Int), (b : Int), (c : Int), (d : Int)]) :=
  keyOf_four arr4K (by kernel_rfl) ⟨Try.prog.types.size - 1, by kernel_rfl⟩ (wf4 ha) (wf4 hb) (wf4 hc) (wf4 hd)
theorem ky4_inj (s t : List Int) (hs : dom4 s) (ht : dom4 t) (h : ky4 s = ky4 t) : s = t := by
  obtain ⟨a, b, c, d, ⟨ha, hb, hc, hd⟩, rfl⟩ := hs
  obtain ⟨a', b', c', d', ⟨ha', hb', hc', hd'⟩, rfl⟩ := ht
  have h1 := key4 ha hb hc hd
  have h2 := key4 ha' hb' hc' hd'
  rw [← h] at h2
  have := keyed4.inj h1 h2
  simp at this ⊢
  omega
end Go.Proofs.Ytfbcblknahicdaa
