/- PTA, KTA, PTC, KTB, KTC, KTD: laid into one text. -/
import Derived.Test.YtnenhckongccgaaGreatDoorQHF
import Derived.Test.YtnenhckongccgaaGreatDoorQHI

namespace Go.Proofs.YtnenhckongccgaaGreatDoor
set_option linter.unusedVariables false
set_option linter.unusedSimpArgs false
def tvL (N : Int) : List Bool → List Int → Bool
  | _, [] => true
  | s, x :: l => btw x 0 (N - 1) && !(s.getD x.toNat false) && tvL N (s.set x.toNat true) l
def tvB (n : Int) (t : List Int) : Bool := btw n 1 8 && (((t.length : Int) == 2 ^ n.toNat) && tvL (t.length : Int) (List.replicate t.length false) t)
theorem set_at {s : List Bool} {x y : Nat} (hx : x < s.length) : (s.set x true).getD y false = (decide (x = y) || s.getD y false) := by
  by_cases h : x = y
  · subst h
    rw [List.getD_eq_getElem?_getD, List.getElem?_set_self hx]
    simp
  · rw [List.getD_eq_getElem?_getD, List.getElem?_set_ne h, ← List.getD_eq_getElem?_getD, decide_eq_false h, Bool.false_or]
theorem tvL_at {N : Int} : ∀ {L : List Int} {s : List Bool}, (s.length : Int) = N → tvL N s L = true → ∀ i, i < L.length → (0 ≤ L.getD i 0 ∧ L.getD i 0 < N) ∧ s.getD (L.getD i 0).toNat false = false
  | [], _, _, _, i, hi => absurd hi (Nat.not_lt_zero _)
  | x :: L, s, hs, h, i, hi => by
    rw [tvL, Bool.and_eq_true, Bool.and_eq_true, Bool.not_eq_true'] at h
    have hb := btw_t h.1.1
    rcases i with _ | i
    · exact ⟨⟨hb.1, by have := hb.2; show x < N; omega⟩, h.1.2⟩
    · obtain ⟨h1, h2⟩ := tvL_at (by rw [List.length_set]; exact hs) h.2 i (Nat.lt_of_succ_lt_succ hi)
      refine ⟨h1, ?_⟩
      rw [set_at (by omega), Bool.or_eq_false_iff] at h2
      exact h2.2
theorem tvL_ne {N : Int} : ∀ {L : List Int} {s : List Bool}, (s.length : Int) = N → tvL N s L = true → ∀ i j, i < j → j < L.length → L.getD i 0 ≠ L.getD j 0
  | [], _, _, _, i, j, _, hj => absurd hj (Nat.not_lt_zero _)
  | x :: L, s, hs, h, i, j, hij, hj => by
    rw [tvL, Bool.and_eq_true, Bool.and_eq_true, Bool.not_eq_true'] at h
    have hb := btw_t h.1.1
    rcases i with _ | i
    · rcases j with _ | j
      · omega
      · obtain ⟨h1, h2⟩ := tvL_at (by rw [List.length_set]; exact hs) h.2 j (Nat.lt_of_succ_lt_succ hj)
        rw [set_at (by omega), Bool.or_eq_false_iff, decide_eq_false_iff_not] at h2
        intro e
        exact h2.1 (congrArg Int.toNat e)
    · rcases j with _ | j
      · omega
      · exact tvL_ne (by rw [List.length_set]; exact hs) h.2 i j (Nat.lt_of_succ_lt_succ hij) (Nat.lt_of_succ_lt_succ hj)
theorem tvL_of {N : Int} : ∀ {L : List Int} {s : List Bool}, (s.length : Int) = N → (∀ i, i < L.length → (0 ≤ L.getD i 0 ∧ L.getD i 0 < N) ∧ s.getD (L.getD i 0).toNat false = false) → (∀ i j, i < j → j < L.length → L.getD i 0 ≠ L.getD j 0) → tvL N s L = true
  | [], _, _, _, _ => rfl
  | x :: L, s, hs, h, hd => by
    obtain ⟨hx, hsx⟩ := h 0 (Nat.succ_pos _)
    replace hx : 0 ≤ x ∧ x < N := hx
    replace hsx : s.getD x.toNat false = false := hsx
    rw [tvL, Bool.and_eq_true, Bool.and_eq_true, Bool.not_eq_true']
    refine ⟨⟨?_, hsx⟩, tvL_of (by rw [List.length_set]; exact hs) (fun i hi => ?_) (fun i j hij hj => hd (i + 1) (j + 1) (by omega) (Nat.succ_lt_succ hj))⟩
    · unfold btw
      rw [decide_eq_true hx.1, decide_eq_true (show x ≤ N - 1 by omega)]; rfl
    · obtain ⟨h1, h2⟩ := h (i + 1) (Nat.succ_lt_succ hi)
      replace h1 : 0 ≤ L.getD i 0 ∧ L.getD i 0 < N := h1
      replace h2 : s.getD (L.getD i 0).toNat false = false := h2
      have hne : x ≠ L.getD i 0 := hd 0 (i + 1) (Nat.succ_pos _) (Nat.succ_lt_succ hi)
      refine ⟨h1, ?_⟩
      rw [set_at (by omega), h2, Bool.or_false]
      exact decide_eq_false (by omega)
def fT (t : List Int) (x : Nat) : Nat := (t.getD x 0).toNat
theorem tv_tp {t : List Int} (h : tvL (t.length : Int) (List.replicate t.length false) t = true) : TP (fT t) t.length := by
  have hs : ((List.replicate t.length false).length : Int) = (t.length : Int) := by rw [List.length_replicate]
  refine ⟨fun x hx => ?_, fun x y hx hy e => ?_⟩
  · have := (tvL_at hs h x hx).1
    unfold fT; omega
  · have h1 := (tvL_at hs h x hx).1
    have h2 := (tvL_at hs h y hy).1
    unfold fT at e
    have e2 : t.getD x 0 = t.getD y 0 := by omega
    rcases Nat.lt_trichotomy x y with h3 | h3 | h3
    · exact absurd e2 (tvL_ne hs h _ _ h3 hy)
    · exact h3
    · exact absurd e2.symm (tvL_ne hs h _ _ h3 hx)
noncomputable def toB (n : Int) (t : List Int) : Bool := tvB n t && ((t.length - cntF (fT t) t.length) % 2 == 1)
end Go.Proofs.YtnenhckongccgaaGreatDoor
namespace Go.Proofs.YtnenhckongccgaaGreatDoor
set_option linter.unusedVariables false
set_option linter.unusedSimpArgs false
set_option maxRecDepth 20000
open Go.RowKit
attribute [local irreducible] runA runX AW
abbrev bRow (l : List Bool) : Ent := rwE 4 l
end Go.Proofs.YtnenhckongccgaaGreatDoor
namespace Go.Proofs.YtnenhckongccgaaGreatDoor
set_option linter.unusedVariables false
set_option linter.unusedSimpArgs false
def wkM (f : Nat → Nat) : Nat → List Bool → Nat → Int → List Bool × Int
  | 0, s, x, l => (s, l)
  | k + 1, s, x, l => if s.getD x false = true then (s, l) else wkM f k (s.set x true) (f x) (l + 1)
def Ends (f : Nat → Nat) : Nat → List Bool → Nat → Prop
  | 0, s, x => s.getD x false = true
  | k + 1, s, x => s.getD x false = true ∨ Ends f k (s.set x true) (f x)
theorem wkM_len (f : Nat → Nat) : ∀ (k : Nat) (s : List Bool) (x : Nat) (l : Int), (wkM f k s x l).1.length = s.length
  | 0, s, x, l => rfl
  | k + 1, s, x, l => by
    rw [wkM]
    split
    · rfl
    · rw [wkM_len f k, List.length_set]
section
variable {f : Nat → Nat} {N : Nat}
def SeenB (f : Nat → Nat) (N w : Nat) (s : List Bool) : Prop := s.length = N ∧ ∀ x, x < N → (s.getD x false = true ↔ ∃ y, y < w ∧ Orb f y x)
def SeenI (f : Nat → Nat) (N w i : Nat) (s : List Bool) : Prop := s.length = N ∧ ∀ x, x < N → (s.getD x false = true ↔ ((∃ y, y < w ∧ Orb f y x) ∨ ∃ j, j < i ∧ itT f j w = x))
theorem wk_go (h : TP f N) {w p : Nat} (hw : w < N) (hf : Fst f w) (hp : 0 < p) (he : itT f p w = w) (hd : ∀ j, 0 < j → j < p → itT f j w ≠ w) : ∀ (r i : Nat) (s : List Bool) (l : Int), i + r = p → SeenI f N w i s → ∀ k, r ≤ k → Ends f k s (itT f i w) ∧ SeenI f N w p (wkM f k s (itT f i w) l).1 ∧ (wkM f k s (itT f i w) l).2 = l + (r : Int)
  | 0, i, s, l, hir, hs, k, hk => by
    have : i = p := by omega
    subst this
    have hseen : s.getD (itT f i w) false = true := by
      rw [he]
      exact (hs.2 w hw).2 (.inr ⟨0, hp, rfl⟩)
    rcases k with _ | k
    · exact ⟨hseen, hs, by show l = l + ((0 : Nat) : Int); omega⟩
    · refine ⟨.inl hseen, ?_, ?_⟩
      · rw [wkM, if_pos hseen]; exact hs
      · rw [wkM, if_pos hseen]; show l = l + ((0 : Nat) : Int); omega
  | r + 1, i, s, l, hir, hs, k, hk => by
    have hx := itT_lt h i hw
    have hns : ¬ s.getD (itT f i w) false = true := by
      intro hc
      rcases (hs.2 _ hx).1 hc with ⟨y, hy, ho⟩ | ⟨j, hj, e⟩
      · exact (not_fst h hw).2 ⟨y, hy, orb_trans ho (orb_sym h hw ⟨i, rfl⟩)⟩ hf
      · exact itT_dist h hw hd hj (by omega) e
    obtain ⟨k, rfl⟩ : ∃ k', k = k' + 1 := ⟨k - 1, by omega⟩
    have hs2 : SeenI f N w (i + 1) (s.set (itT f i w) true) := by
      refine ⟨by rw [List.length_set]; exact hs.1, fun x hxN => ?_⟩
      rw [set_at (by rw [hs.1]; exact hx), Bool.or_eq_true, decide_eq_true_eq, hs.2 x hxN]
      constructor
      · rintro (e | ho | ⟨j, hj, e⟩)
        · exact .inr ⟨i, by omega, e⟩
        · exact .inl ho
        · exact .inr ⟨j, by omega, e⟩
      · rintro (ho | ⟨j, hj, e⟩)
        · exact .inr (.inl ho)
        · rcases Nat.lt_or_ge j i with h1 | h1
          · exact .inr (.inr ⟨j, h1, e⟩)
          · have : j = i := by omega
            subst this
            exact .inl e
    obtain ⟨h1, h2, h3⟩ := wk_go h hw hf hp he hd r (i + 1) (s.set (itT f i w) true) (l + 1) (by omega) hs2 k (by omega)
    rw [itT_one] at h1 h2 h3
    refine ⟨.inr h1, ?_, ?_⟩
    · rw [wkM, if_neg hns]; exact h2
    · rw [wkM, if_neg hns, h3]; omega
theorem per_le (h : TP f N) {w p : Nat} (hw : w < N) (hp : 0 < p) (hd : ∀ j, 0 < j → j < p → itT f j w ≠ w) : p ≤ N := by
  apply Nat.le_of_not_lt
  intro hlt
  obtain ⟨i, j, hij, hj, e⟩ := pigeon N (fun i => itT f i w) (fun i _ => itT_lt h i hw)
  exact itT_dist h hw hd hij (by omega) e
theorem wk_one (h : TP f N) {w : Nat} (hw : w < N) {s : List Bool} (hs : SeenB f N w s) : Ends f N s w ∧ SeenB f N (w + 1) (wkM f N s w 0).1 ∧ (Fst f w → 0 < (wkM f N s w 0).2) ∧ (¬ Fst f w → (wkM f N s w 0).2 = 0) ∧ (wkM f N s w 0).2 ≤ (N : Int) ∧ 0 ≤ (wkM f N s w 0).2 := by
  by_cases hf : Fst f w
  · obtain ⟨p, hp, he, hd⟩ := period h hw
    have hs0 : SeenI f N w 0 s := ⟨hs.1, fun x hx => by
      rw [hs.2 x hx]
      constructor
      · exact .inl
      · rintro (ho | ⟨j, hj, _⟩)
        · exact ho
        · exact absurd hj (Nat.not_lt_zero _)⟩
    have hpN := per_le h hw hp hd
    obtain ⟨h1, h2, h3⟩ := wk_go h hw hf hp he hd p 0 s 0 (by omega) hs0 N hpN
    refine ⟨h1, ⟨h2.1, fun x hx => ?_⟩, fun _ => ?_, fun hn => absurd hf hn, ?_, ?_⟩
    · have h2x := h2.2 x hx
      rw [show itT f 0 w = w from rfl] at h2x
      rw [h2x]
      constructor
      · rintro (⟨y, hy, ho⟩ | ⟨j, _, e⟩)
        · exact ⟨y, by omega, ho⟩
        · exact ⟨w, Nat.lt_succ_self w, ⟨j, e⟩⟩
      · rintro ⟨y, hy, ho⟩
        rcases Nat.lt_or_ge y w with h4 | h4
        · exact .inl ⟨y, h4, ho⟩
        · have : y = w := by omega
          subst this
          obtain ⟨j, e⟩ := ho
          rw [itT_mod he j] at e
          exact .inr ⟨j % p, Nat.mod_lt j hp, e⟩
    · rw [show itT f 0 w = w from rfl] at h3; rw [h3]; omega
    · rw [show itT f 0 w = w from rfl] at h3; rw [h3]; omega
    · rw [show itT f 0 w = w from rfl] at h3; rw [h3]; omega
  · have hseen : s.getD w false = true := (hs.2 w hw).2 ((not_fst h hw).1 hf)
    obtain ⟨k, rfl⟩ : ∃ k, N = k + 1 := ⟨N - 1, by omega⟩
    have e : wkM f (k + 1) s w 0 = (s, 0) := by rw [wkM, if_pos hseen]
    rw [e]
    refine ⟨.inl hseen, ⟨hs.1, fun x hx => ?_⟩, fun hc => absurd hc hf, fun _ => rfl, Int.natCast_nonneg _, Int.le_refl _⟩
    rw [hs.2 x hx]
    constructor
    · rintro ⟨y, hy, ho⟩; exact ⟨y, by omega, ho⟩
    · rintro ⟨y, hy, ho⟩
      rcases Nat.lt_or_ge y w with h4 | h4
      · exact ⟨y, h4, ho⟩
      · have : y = w := by omega
        subst this
        obtain ⟨z, hz, hzo⟩ := (not_fst h hw).1 hf
        exact ⟨z, hz, orb_trans hzo ho⟩
end
def cyM (f : Nat → Nat) (N : Nat) : Nat → List Bool × List Int
  | 0 => (List.replicate N false, [])
  | w + 1 => ((wkM f N (cyM f N w).1 w 0).1, if (wkM f N (cyM f N w).1 w 0).2 > 0 then (cyM f N w).2 ++ [(wkM f N (cyM f N w).1 w 0).2] else (cyM f N w).2)
theorem cyM_ok {f : Nat → Nat} {N : Nat} (h : TP f N) : ∀ w, w ≤ N → SeenB f N w (cyM f N w).1 ∧ (cyM f N w).2.length = cntF f w
  | 0, _ => ⟨⟨by rw [cyM, List.length_replicate], fun x hx => by
      rw [cyM]
      constructor
      · intro hc
        have : (List.replicate N false).getD x false = false := by simp [List.getD_eq_getElem?_getD, hx]
        rw [this] at hc; cases hc
      · rintro ⟨y, hy, _⟩; exact absurd hy (Nat.not_lt_zero _)⟩, rfl⟩
  | w + 1, hw => by
    obtain ⟨h1, h2⟩ := cyM_ok h w (by omega)
    obtain ⟨_, g2, g3, g4, _, _⟩ := wk_one h (show w < N by omega) h1
    refine ⟨g2, ?_⟩
    rw [cyM, cntF]
    by_cases hf : Fst f w
    · have := g3 hf
      rw [if_pos hf]
      dsimp only
      rw [if_pos this, List.length_append, h2]; rfl
    · have := g4 hf
      rw [if_neg hf]
      dsimp only
      rw [if_neg (by omega), h2]; rfl
end Go.Proofs.YtnenhckongccgaaGreatDoor
namespace Go.Proofs.YtnenhckongccgaaGreatDoor
set_option linter.unusedVariables false
set_option linter.unusedSimpArgs false
set_option maxRecDepth 20000
open Go.RowKit
attribute [local irreducible] runA runX AW
theorem gq_KTB {H G : Prop} (k : H) (h : Hid H → G := by (intro hh; repeat1' (first | (first | (refine nxA ?_; (first | fail | ((first | (refine z_op (by rfl) ?_; first | refine z_ok ?_ ?_ | refine z_ex ?_ (by first | exact zL1 | ((first | refine mk_c Bool rfl rfl rfl ?_); exact zWW) | exact zL2 | exact rw_c Int rfl | exact zL3 | fail) ?_) | ((first | refine q_callE wsT wsZ (by rfl) ?_ | refine q_callVE wsT (by rfl) (by rfl) ?_); refine ⟨_, _, _, (by first | assumption), _, by rfl, ?_, ?_⟩)); focus (first | exact trivial | fail | exact zQZ)) | fail)) | refine swA ?_) | refine awA ?_); exact hh.out)) : G := h ⟨k⟩
set_option maxHeartbeats 8000000 in
theorem k_cyc (t : List Int) (ht : tvL (t.length : Int) (List.replicate t.length false) t = true) (h : t.length ≤ 256) : Kon Tryz.prog 161 [roA t] [] (slA 0 0 (cyM (fT t) t.length t.length).2) [iRow (cyM (fT t) t.length t.length).2] [] := by
  have hT := tv_tp ht
  have hat : ∀ x : Nat, x < t.length → t.getD ((x : Int)).toNat Cel.no = ((fT t x : Nat) : Int) := fun x hx => by
    have := (tvL_at (by rw [List.length_replicate]) ht x hx).1
    show t.getD x 0 = _
    unfold fT; omega
  have hrl : (List.replicate (t.length : Int).toNat (Cel.no : Bool)).length = t.length := by rw [List.length_replicate]; omega
  have hr0 : List.replicate (t.length : Int).toNat (Cel.no : Bool) = (cyM (fT t) t.length 0).1 := by rw [cyM]; rfl
  clear ht
  (refine kM Tryz.func161 rfl ?_; intro hfit hfe)
  (repeat (first | refine gq_KTB ?_ | (refine ga0A ?_; intro _hq)))
  (refine aw_rd [0, 4, 12, 13] [] (fun g : Nat × Nat × List Int × List Bool => [(3, .g (.one (.sl 128 g.2.1 g.2.2.1.length))), (14, vI g.1)]) (fun g => [(128, (g.2.1, iRow g.2.2.1)), (176, (0, bRow g.2.2.2))]) (fun g => g.1 ≤ t.length ∧ g.2.2.1.length ≤ g.1 ∧ g.2.2.1 = (cyM (fT t) t.length g.1).2 ∧ g.2.2.2 = (cyM (fT t) t.length g.1).1) (fun g => t.length - g.1) (0, 0, [], List.replicate (t.length : Int).toNat (Cel.no : Bool)) (by rfl) (by rfl) ?_ (by rfl) zHE zHE ?_)
  · exact ⟨Nat.zero_le _, Nat.le_refl _, rfl, hr0⟩
  rintro ⟨w, u, o, s⟩ ⟨hw, hol, ho, hs⟩
  dsimp only at hw hol ho hs ⊢
  rcases Nat.lt_or_ge w t.length with h5 | h5
  · have hd : decide ((w : Int) < (t.length : Int)) = true := by simpa using h5
    obtain ⟨hsb, _⟩ := cyM_ok hT w hw
    rw [← hs] at hsb
    obtain ⟨hE, hS2, _, _, hRb, hR0⟩ := wk_one hT h5 hsb
    have hsl := hsb.1
    have e1 : cyM (fT t) t.length (w + 1) = ((wkM (fT t) t.length s w 0).1, if (wkM (fT t) t.length s w 0).2 > 0 then o ++ [(wkM (fT t) t.length s w 0).2] else o) := by rw [cyM, ← hs, ← ho]
    obtain ⟨R, hR⟩ : ∃ R, wkM (fT t) t.length s w 0 = R := ⟨_, rfl⟩
    have hRl : R.1.length = t.length := by rw [← hR, wkM_len, hsl]
    rw [hR] at e1 hRb hR0
    clear hS2 hsb hs ho
    (repeat (first | refine gq_KTB ?_ | (refine ga0A ?_; intro _hq)))
    (refine aw_rd [0, 3, 4, 5, 12, 13, 14] [128] (fun q : Nat × Nat × Int × List Bool => [(6, vI q.2.2.1), (7, vI q.2.1)]) (fun q => [(176, (0, bRow q.2.2.2))]) (fun q => q.1 ≤ t.length ∧ q.2.1 < t.length ∧ q.2.2.2.length = t.length ∧ (0 ≤ q.2.2.1 ∧ q.2.2.1 + (q.1 : Int) ≤ (t.length : Int)) ∧ Ends (fT t) q.1 q.2.2.2 q.2.1 ∧ wkM (fT t) q.1 q.2.2.2 q.2.1 q.2.2.1 = R) (fun q => q.1) (t.length, w, 0, s) (by rfl) (by rfl) ?_ (by rfl) zHE zHE ?_)
    · exact ⟨Nat.le_refl _, h5, hsl, ⟨Int.le_refl _, by show (0 : Int) + _ ≤ _; omega⟩, hE, hR⟩
    rintro ⟨k, x, l, s'⟩ ⟨hk, hx, hsl', hl, hE', hR'⟩
    dsimp only at hk hx hsl' hl hE' hR' ⊢
    have hax := hat x hx
    cases hv : s'.getD x false with
    | true =>
      have hv2 : s'.getD ((x : Int)).toNat Cel.no = true := hv
      have hv3 : (!(s'.getD ((x : Int)).toNat Cel.no)) = false := by rw [hv2]; rfl
      have hfin : (s', l) = R := by
        rcases k with _ | k
        · exact hR'
        · rw [wkM, if_pos hv] at hR'; exact hR'
      subst hfin
      clear hE' hR' hE hR hv hv2
      rcases Int.lt_or_le 0 l with h6 | h6
      · have hd2 : decide (l > 0) = true := decide_eq_true h6
        rw [if_pos h6] at e1
        have hinv : w + 1 ≤ t.length ∧ (o ++ [l]).length ≤ w + 1 ∧ (o ++ [l]) = (cyM (fT t) t.length (w + 1)).2 ∧ s' = (cyM (fT t) t.length (w + 1)).1 := ⟨h5, by rw [List.length_append]; simp; omega, by rw [e1], by rw [e1]⟩
        clear e1
        (repeat (first | refine gq_KTB ?_ | (refine ga0A ?_; intro _hq)))
        exact ⟨(w + 1, u + 1, o ++ [l], s'), hinv, ⟨by rfl, zHE, zHE⟩, (by first | omega | (dsimp only; omega))⟩
      · have hd2 : decide (l > 0) = false := decide_eq_false (by omega)
        rw [if_neg (by dsimp only; omega)] at e1
        have hinv : w + 1 ≤ t.length ∧ o.length ≤ w + 1 ∧ o = (cyM (fT t) t.length (w + 1)).2 ∧ s' = (cyM (fT t) t.length (w + 1)).1 := ⟨h5, by omega, by rw [e1], by rw [e1]⟩
        clear e1
        (repeat (first | refine gq_KTB ?_ | (refine ga0A ?_; intro _hq)))
        exact ⟨(w + 1, u, o, s'), hinv, ⟨by rfl, zHE, zHE⟩, (by first | omega | (dsimp only; omega))⟩
    | false =>
      have hv2 : s'.getD ((x : Int)).toNat Cel.no = false := hv
      have hnt : ¬ s'.getD x false = true := by rw [hv]; decide
      rcases k with _ | k
      · exact absurd hE' hnt
      · rw [wkM, if_neg hnt] at hR'
        have hE2 : Ends (fT t) k (s'.set x true) (fT t x) := hE'.resolve_left hnt
        have hinv : k ≤ t.length ∧ fT t x < t.length ∧ (s'.set x true).length = t.length ∧ (0 ≤ l + 1 ∧ l + 1 + (k : Int) ≤ (t.length : Int)) ∧ Ends (fT t) k (s'.set x true) (fT t x) ∧ wkM (fT t) k (s'.set x true) (fT t x) (l + 1) = R := ⟨by omega, hT.bd x hx, by rw [List.length_set]; exact hsl', ⟨by omega, by omega⟩, hE2, hR'⟩
        clear hE' hR' hE hR e1 hE2
        (repeat (first | refine gq_KTB ?_ | (refine ga0A ?_; intro _hq)))
        exact ⟨(k, fT t x, l + 1, s'.set x true), hinv, ⟨by rfl, ⟨by rfl, ⟨vI_of (by rfl) hax, zHE⟩⟩, zHE⟩, (by first | omega | (dsimp only; omega))⟩
  · have hd : decide ((w : Int) < (t.length : Int)) = false := by simp; omega
    obtain rfl : w = t.length := by omega
    subst ho
    clear hs hol
    (repeat (first | refine gq_KTB ?_ | (refine ga0A ?_; intro _hq)))
    (refine rtA ?_; try rfl)
open Classical in
theorem gq_KTD {H G : Prop} (k : H) (h : Hid H → G := by (intro hh; repeat1' (first | (first | (refine nxA ?_; (first | fail | ((first | (refine z_op (by rfl) ?_; first | refine z_ok ?_ ?_ | refine z_ex ?_ (by first | exact zL1 | ((first | fail); exact zWW) | exact zL2 | fail | exact zL3 | fail) ?_) | ((first | refine q_callE wsT wsZ (by rfl) ?_ | refine q_callVE wsT (by rfl) (by rfl) ?_); refine ⟨_, _, _, (by first | assumption), _, by rfl, ?_, ?_⟩)); focus (first | exact trivial | fail | exact zQZ)) | fail)) | refine swA ?_) | refine awA ?_); exact hh.out)) : G := h ⟨k⟩
theorem odd_eq {a b : Nat} (h : b ≤ a) : ((a - b) % 2 == 1) = ((((a : Nat) : Int) - ((b : Nat) : Int)) % 2 == 1) := by
  rw [Bool.eq_iff_iff, beq_iff_eq, beq_iff_eq]; omega
theorem k_oddI (t : List Int) (ht : tvL (t.length : Int) (List.replicate t.length false) t = true) (h : t.length ≤ 256) : Kon Tryz.prog 137 [roA t] [] (vB ((t.length - cntF (fT t) t.length) % 2 == 1)) [] [] := by
  have hC := k_cyc t ht h
  have hT := tv_tp ht
  have hl := (cyM_ok hT t.length (Nat.le_refl _)).2
  have hle := cntF_le (fT t) t.length
  generalize (cyM (fT t) t.length t.length).2 = cs at hC hl
  rw [← hl] at hle ⊢
  rw [odd_eq hle]
  clear ht hT hl
  (refine kM Tryz.func137 rfl ?_; intro hfit hfe)
  (repeat (first | refine gq_KTD ?_ | (refine ga0A ?_; intro _hq)))
  (refine rtA ?_; try rfl)
theorem tvB_t {n : Int} {t : List Int} (h : tvB n t = true) : (1 ≤ n ∧ n ≤ 8) ∧ tvL (t.length : Int) (List.replicate t.length false) t = true ∧ t.length ≤ 256 := by
  unfold tvB at h
  rw [Bool.and_eq_true, Bool.and_eq_true, beq_iff_eq] at h
  have hn := btw_t h.1
  have h8 := pow_8 hn
  exact ⟨hn, h.2.2, by omega⟩
end Go.Proofs.YtnenhckongccgaaGreatDoor
