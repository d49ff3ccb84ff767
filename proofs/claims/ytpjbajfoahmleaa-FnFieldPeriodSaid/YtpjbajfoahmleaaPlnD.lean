/- Plain laws of fields: runs, periods, fields that are still. -/
import Derived.Test.YtpjbajfoahmleaaKFI
namespace Go.Proofs.Ytpjbajfoahmleaa
set_option linter.unusedVariables false
theorem sameB_iff {f g : Fld} : sameB f g = true ↔ f = g := by
  obtain ⟨s, l, b⟩ := f
  obtain ⟨s', l', b'⟩ := g
  simp only [sameB, beqL, Bool.and_eq_true, beq_iff_eq, decide_eq_true_eq, Fld.mk.injEq]
  exact ⟨fun h => ⟨h.1.1, h.2, h.1.2⟩, fun h => ⟨⟨h.1, h.2.2⟩, h.2.1⟩⟩
theorem itr_in (g : Fld → Fld) : ∀ (n : Nat) (f : Fld), itr g n (g f) = g (itr g n f)
  | 0, f => rfl
  | n + 1, f => congrArg g (itr_in g n f)
theorem itr_add (g : Fld → Fld) (f : Fld) (a : Nat) : ∀ c : Nat, itr g c (itr g a f) = itr g (a + c) f
  | 0 => rfl
  | c + 1 => congrArg g (itr_add g f a c)
theorem itr_undo {g g' : Fld → Fld} (h1 : ∀ f, f.shp → g' (g f) = f) (h2 : ∀ f, f.shp → (g f).shp) {f : Fld} (h : f.shp) : ∀ n, itr g' n (itr g n f) = f
  | 0 => rfl
  | n + 1 => by
    show g' (itr g' n (g (itr g n f))) = f
    rw [← itr_in g', h1 _ (itr_shp h2 h n), itr_undo h1 h2 h n]
theorem run_neg {f : Fld} (h : f.shp) (n : Int) : (f.run n).run (-n) = f := by
  rcases Int.lt_trichotomy n 0 with h0 | h0 | h0
  · rw [Fld.run, Fld.run, if_pos (show 0 ≤ -n by omega), if_neg (show ¬ 0 ≤ n by omega)]
    exact itr_undo (fun f => step_back) (fun f => Fld.shp_back) h _
  · subst h0; rfl
  · rw [Fld.run, Fld.run, if_neg (show ¬ 0 ≤ -n by omega), if_pos (show 0 ≤ n by omega), Int.neg_neg]
    exact itr_undo (fun f => back_step) (fun f => Fld.shp_step) h _
theorem run_add {f : Fld} {a c : Int} (h : (0 ≤ a ∧ 0 ≤ c) ∨ (a ≤ 0 ∧ c ≤ 0)) : (f.run a).run c = f.run (a + c) := by
  unfold Fld.run
  rcases h with h | h
  · rw [if_pos h.1, if_pos h.2, if_pos (by omega), itr_add]
    congr 1; omega
  · by_cases ha : a = 0
    · subst ha; rw [Int.zero_add]; rfl
    · by_cases hc : c = 0
      · subst hc; rw [Int.add_zero]; rfl
      · rw [if_neg (by omega), if_neg (by omega), if_neg (by omega), itr_add]
        congr 1; omega
theorem itr_cnt {g : Fld → Fld} (h1 : ∀ f, f.shp → cntB (g f).l = cntB f.l) (h2 : ∀ f, f.shp → (g f).shp) {f : Fld} (h : f.shp) : ∀ n, cntB (itr g n f).l = cntB f.l
  | 0 => rfl
  | n + 1 => by
    show cntB (g (itr g n f)).l = _
    rw [h1 _ (itr_shp h2 h n), itr_cnt h1 h2 h n]
theorem back_cnt {f : Fld} (h : f.shp) : cntB f.back.l = cntB f.l := step_cnt (f := ⟨f.s, f.l, !f.b⟩) h
theorem run_cnt {f : Fld} (h : f.shp) (n : Int) : cntB (f.run n).l = cntB f.l := by
  unfold Fld.run
  split
  · exact itr_cnt (fun f => step_cnt) (fun f => Fld.shp_step) h _
  · exact itr_cnt (fun f => back_cnt) (fun f => Fld.shp_back) h _
/-- What a period is. -/
theorem per_spec (f : Fld) : ∀ k n, (per f k n = -1 ∧ ∀ j, n ≤ j → j < n + k → itr Fld.step j f ≠ f) ∨ ∃ m : Nat, n ≤ m ∧ m < n + k ∧ per f k n = m ∧ itr Fld.step m f = f ∧ ∀ j, n ≤ j → j < m → itr Fld.step j f ≠ f
  | 0, n => .inl ⟨rfl, fun j h1 h2 => by omega⟩
  | k + 1, n => by
    have e : per f (k + 1) n = if sameB (itr Fld.step n f) f then (n : Int) else per f k (n + 1) := rfl
    by_cases hs : sameB (itr Fld.step n f) f = true
    · rw [if_pos hs] at e
      exact .inr ⟨n, Nat.le_refl _, by omega, e, sameB_iff.1 hs, fun j h1 h2 => by omega⟩
    · rw [if_neg hs] at e
      have hs' : itr Fld.step n f ≠ f := fun h => hs (sameB_iff.2 h)
      rcases per_spec f k (n + 1) with ⟨h1, h2⟩ | ⟨m, h1, h2, h3, h4, h5⟩
      · exact .inl ⟨by rw [e, h1], fun j a b => by
          by_cases hj : j = n
          · rw [hj]; exact hs'
          · exact h2 j (by omega) (by omega)⟩
      · exact .inr ⟨m, by omega, by omega, by rw [e, h3], h4, fun j a b => by
          by_cases hj : j = n
          · rw [hj]; exact hs'
          · exact h5 j (by omega) b⟩
theorem itr_b (f : Fld) : ∀ n, (itr Fld.step n f).b = (f.b ^^ (n % 2 == 1))
  | 0 => by simp [itr]
  | n + 1 => by
    show (!(itr Fld.step n f).b) = _
    rw [itr_b f n]
    have : (n + 1) % 2 == 1 ↔ ¬ (n % 2 == 1) := by simp; omega
    cases h1 : (n % 2 == 1) <;> cases h2 : ((n + 1) % 2 == 1) <;> simp_all
theorem per_even {f : Fld} {m : Nat} (h : itr Fld.step m f = f) : m % 2 = 0 := by
  have := itr_b f m
  rw [h] at this
  cases h1 : (m % 2 == 1) with
  | false => simp at h1; omega
  | true => rw [h1] at this; cases hb : f.b <;> rw [hb] at this <;> cases this
theorem per_step {f : Fld} (h : f.shp) : ∀ k n, per f.step k n = per f k n
  | 0, n => rfl
  | k + 1, n => by
    have e : sameB (itr Fld.step n f.step) f.step = sameB (itr Fld.step n f) f := by
      rw [Bool.eq_iff_iff, sameB_iff, sameB_iff, itr_in]
      constructor
      · intro he
        have := congrArg Fld.back he
        rwa [back_step (itr_shp (fun f => Fld.shp_step) h n), back_step h] at this
      · intro he; rw [he]
    show (if sameB (itr Fld.step n f.step) f.step then (n : Int) else per f.step k (n + 1)) = if sameB (itr Fld.step n f) f then (n : Int) else per f k (n + 1)
    rw [e, per_step h k (n + 1)]
/-- No ball moves in two steps. -/
def stl (f : Fld) : Bool := beqL f.step.l f.l && beqL f.step.step.l f.l
theorem stl_iff {f : Fld} : stl f = true ↔ f.step = ⟨f.s, f.l, !f.b⟩ ∧ f.step.step = f := by
  simp only [stl, beqL, Bool.and_eq_true, decide_eq_true_eq]
  constructor
  · rintro ⟨h1, h2⟩
    refine ⟨?_, ?_⟩
    · show (⟨f.s, f.step.l, !f.b⟩ : Fld) = _
      rw [h1]
    · show (⟨f.s, f.step.step.l, !!f.b⟩ : Fld) = _
      rw [h2, Bool.not_not]
  · rintro ⟨h1, h2⟩
    exact ⟨(congrArg Fld.l h1 :), (congrArg Fld.l h2 :)⟩
theorem stl_step {f : Fld} (h : stl f = true) : stl f.step = true := by
  obtain ⟨h1, h2⟩ := stl_iff.1 h
  refine stl_iff.2 ⟨?_, congrArg Fld.step h2⟩
  rw [h2, h1]
  show f = ⟨f.s, f.l, !!f.b⟩
  rw [Bool.not_not]
theorem stl_seven {f : Fld} (h : stl f = true) : f.run 7 = ⟨f.s, f.l, !f.b⟩ := by
  obtain ⟨h1, h2⟩ := stl_iff.1 h
  show f.step.step.step.step.step.step.step = _
  rw [h2, h2, h2, h1]
theorem stl_per {f : Fld} (h : stl f = true) : per f 200 1 = 2 := by
  obtain ⟨h1, h2⟩ := stl_iff.1 h
  have e1 : sameB (itr Fld.step 1 f) f = false := by
    cases hs : sameB (itr Fld.step 1 f) f with
    | false => rfl
    | true =>
      have := per_even (sameB_iff.1 hs)
      omega
  have e2 : sameB (itr Fld.step 2 f) f = true := sameB_iff.2 h2
  show (if sameB (itr Fld.step 1 f) f then ((1 : Nat) : Int) else if sameB (itr Fld.step 2 f) f then ((2 : Nat) : Int) else per f 198 3) = 2
  rw [e1, e2]; rfl
end Go.Proofs.Ytpjbajfoahmleaa
