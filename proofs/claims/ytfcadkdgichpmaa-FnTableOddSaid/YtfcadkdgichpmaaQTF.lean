/- PP: laid into one text. -/
import Derived.Test.YtfcadkdgichpmaaQTE

/- Two words exchanged in a table: one cycle more or one less. Plain. -/
namespace Go.Proofs.Ytfcadkdgichpmaa
set_option linter.unusedVariables false
set_option linter.unusedSimpArgs false
def swV (a b v : Nat) : Nat := if v = a then b else if v = b then a else v
def swF (f : Nat → Nat) (a b : Nat) : Nat → Nat := fun x => swV a b (f x)
theorem swV_a (a b : Nat) : swV a b a = b := if_pos rfl
theorem swV_b (a b : Nat) : swV a b b = a := by unfold swV; split <;> simp_all
theorem swV_o {a b v : Nat} (h1 : v ≠ a) (h2 : v ≠ b) : swV a b v = v := by unfold swV; rw [if_neg h1, if_neg h2]
theorem swV_inv (a b v : Nat) : swV a b (swV a b v) = v := by
  by_cases h1 : v = a
  · subst h1; rw [swV_a, swV_b]
  by_cases h2 : v = b
  · subst h2; rw [swV_b, swV_a]
  rw [swV_o h1 h2, swV_o h1 h2]
theorem swV_comm (a b v : Nat) : swV a b v = swV b a v := by
  by_cases h1 : v = a
  · subst h1; rw [swV_a, swV_b]
  by_cases h2 : v = b
  · subst h2; rw [swV_b, swV_a]
  rw [swV_o h1 h2, swV_o h2 h1]
theorem swV_lt {a b v N : Nat} (ha : a < N) (hb : b < N) (hv : v < N) : swV a b v < N := by
  unfold swV; split
  · exact hb
  · split <;> assumption
section
variable {f : Nat → Nat} {N a b : Nat}
theorem swF_tp (h : TP f N) (ha : a < N) (hb : b < N) : TP (swF f a b) N :=
  ⟨fun x hx => swV_lt ha hb (h.bd x hx), fun x y hx hy e => h.inj x y hx hy (by
    have := congrArg (swV a b) e
    unfold swF at this
    rwa [swV_inv, swV_inv] at this)⟩
theorem swF_comm : swF f a b = swF f b a := funext fun x => swV_comm a b (f x)
theorem swF_inv : swF (swF f a b) a b = f := funext fun x => swV_inv a b (f x)
theorem swF_o {x : Nat} (h1 : f x ≠ a) (h2 : f x ≠ b) : swF f a b x = f x := swV_o h1 h2
/-- Off both cycles nothing changes. -/
theorem sw_off (h : TP f N) (ha : a < N) (hb : b < N) {x : Nat} (hx : x < N) (h1 : ¬ Orb f x a) (h2 : ¬ Orb f x b) (j : Nat) : itT (swF f a b) j x = itT f j x :=
  itT_congr fun i _ => swF_o (fun e => h1 ⟨i + 1, (itT_one f i x).trans e⟩) (fun e => h2 ⟨i + 1, (itT_one f i x).trans e⟩)
/-- On the cycle of a, until it comes back. -/
theorem sw_on (h : TP f N) (ha : a < N) (hn : ¬ Orb f a b) {p : Nat} (hd : ∀ j, 0 < j → j < p → itT f j a ≠ a) {j : Nat} (hj : j < p) : itT (swF f a b) j a = itT f j a :=
  itT_congr fun i hi => swF_o (fun e => hd (i + 1) (by omega) (by omega) ((itT_one f i a).trans e)) (fun e => hn ⟨i + 1, (itT_one f i a).trans e⟩)
/-- Both cycles become one: from a to all of its cycle, and to b. -/
theorem sw_reach (h : TP f N) (ha : a < N) (hn : ¬ Orb f a b) : (∀ y, Orb f a y → Orb (swF f a b) a y) ∧ Orb (swF f a b) a b := by
  obtain ⟨p, hp, he, hd⟩ := period h ha
  refine ⟨?_, ?_⟩
  · rintro y ⟨i, rfl⟩
    rw [itT_mod he i]
    exact ⟨i % p, sw_on h ha hn hd (Nat.mod_lt i hp)⟩
  · obtain ⟨q, rfl⟩ : ∃ q, p = q + 1 := ⟨p - 1, by omega⟩
    refine ⟨q + 1, ?_⟩
    rw [itT_one, sw_on h ha hn hd (Nat.lt_succ_self q)]
    show swV a b (f (itT f q a)) = b
    rw [← itT_one f q a, he, swV_a]
/-- Two cycles become one. -/
theorem sw_merge0 (h : TP f N) (ha : a < N) (hb : b < N) (hn : ¬ Orb f a b) {mA mB : Nat} (hA : Orb f a mA) (fA : Fst f mA) (hB : Orb f b mB) (fB : Fst f mB) (hlt : mA < mB) : cntF f N = cntF (swF f a b) N + 1 := by
  have hg := swF_tp h ha hb
  have hn2 : ¬ Orb f b a := fun ho => hn (orb_sym h hb ho)
  obtain ⟨rA, rab⟩ := sw_reach h ha hn
  have rB : ∀ y, Orb f b y → Orb (swF f a b) b y := by
    have := (sw_reach (b := a) h hb hn2).1
    rw [swF_comm] at this
    exact this
  -- what is reached from a is what is on the two cycles
  have key : ∀ y, (Orb f a y ∨ Orb f b y) → Orb (swF f a b) a y := fun y hy => by
    rcases hy with hy | hy
    · exact rA y hy
    · exact orb_trans rab (rB y hy)
  have closed : ∀ j x, (Orb f a x ∨ Orb f b x) → (Orb f a (itT (swF f a b) j x) ∨ Orb f b (itT (swF f a b) j x)) := by
    intro j
    induction j with
    | zero => intro x hx; exact hx
    | succ j ih =>
      intro x hx
      rw [itT]
      apply ih
      by_cases e1 : f x = a
      · right
        show Orb f b (swV a b (f x))
        rw [e1, swV_a]; exact orb_refl b
      by_cases e2 : f x = b
      · left
        show Orb f a (swV a b (f x))
        rw [e2, swV_b]; exact orb_refl a
      rw [swF_o e1 e2]
      rcases hx with hx | hx
      · exact .inl (orb_trans hx ⟨1, rfl⟩)
      · exact .inr (orb_trans hx ⟨1, rfl⟩)
  have hmA := orb_lt h ha hA
  have hmB := orb_lt h hb hB
  have leA : ∀ y, (Orb f a y ∨ Orb f b y) → mA ≤ y := fun y hy => by
    rcases hy with hy | hy
    · exact fA y (orb_trans (orb_sym h ha hA) hy)
    · exact Nat.le_of_lt (Nat.lt_of_lt_of_le hlt (fB y (orb_trans (orb_sym h hb hB) hy)))
  refine cntF_one fB ?_ hmB ?_
  · intro hc
    have h1 : Orb (swF f a b) mB mA := orb_trans (orb_sym hg ha (key mB (.inr hB))) (key mA (.inl hA))
    have := hc mA h1
    omega
  · intro x hx hne
    by_cases hab : Orb f a x ∨ Orb f b x
    · have hxa := orb_sym hg ha (key x hab)
      constructor
      · intro hf y hy
        have hxm : x = mA := by
          rcases hab with ho | ho
          · exact fst_uni h hx hf fA (orb_trans (orb_sym h ha ho) hA)
          · exact absurd (fst_uni h hx hf fB (orb_trans (orb_sym h hb ho) hB)) hne
        obtain ⟨j, rfl⟩ := hy
        rw [hxm]
        rw [hxm] at hab
        exact leA _ (closed j mA hab)
      · intro hf y hy
        have hy2 : Orb f a y ∨ Orb f b y := by
          rcases hab with ho | ho
          · exact .inl (orb_trans ho hy)
          · exact .inr (orb_trans ho hy)
        exact hf y (orb_trans hxa (key y hy2))
    · have h1 : ¬ Orb f x a := fun ho => hab (.inl (orb_sym h hx ho))
      have h2 : ¬ Orb f x b := fun ho => hab (.inr (orb_sym h hx ho))
      have e := sw_off h ha hb hx h1 h2
      constructor
      · rintro hf y ⟨j, rfl⟩
        rw [e j]; exact hf _ ⟨j, rfl⟩
      · rintro hf y ⟨j, rfl⟩
        have := hf _ ⟨j, rfl⟩
        rwa [e j] at this
theorem sw_merge (h : TP f N) (ha : a < N) (hb : b < N) (hn : ¬ Orb f a b) : cntF f N = cntF (swF f a b) N + 1 := by
  obtain ⟨mA, hA, fA, _⟩ := fst_ex h ha
  obtain ⟨mB, hB, fB, _⟩ := fst_ex h hb
  rcases Nat.lt_trichotomy mA mB with hlt | he | hlt
  · exact sw_merge0 h ha hb hn hA fA hB fB hlt
  · subst he
    exact absurd (orb_trans hA (orb_sym h hb hB)) hn
  · have hn2 : ¬ Orb f b a := fun ho => hn (orb_sym h hb ho)
    have := sw_merge0 h hb ha hn2 hB fB hA fA hlt
    rwa [swF_comm] at this
/-- One cycle becomes two. -/
theorem sw_split (h : TP f N) (ha : a < N) (hb : b < N) (hne : a ≠ b) (ho : Orb f a b) : ¬ Orb (swF f a b) a b := by
  obtain ⟨p, hp, he, hd⟩ := period h ha
  obtain ⟨i, hi⟩ := ho
  rw [itT_mod he i] at hi
  obtain ⟨k, ⟨hk, hkp⟩, hl⟩ := least_of (P := fun k => itT f k a = b ∧ k < p) (i % p) ⟨hi, Nat.mod_lt i hp⟩
  have hk0 : 0 < k := by
    rcases Nat.eq_zero_or_pos k with h0 | h0
    · subst h0; exact absurd hk hne
    · exact h0
  have same : ∀ j, j < k → itT (swF f a b) j a = itT f j a := fun j hj =>
    itT_congr fun i hi => swF_o (fun e => hd (i + 1) (by omega) (by omega) ((itT_one f i a).trans e)) (fun e => hl (i + 1) (by omega) ⟨(itT_one f i a).trans e, by omega⟩)
  have back : itT (swF f a b) k a = a := by
    obtain ⟨q, rfl⟩ : ∃ q, k = q + 1 := ⟨k - 1, by omega⟩
    rw [itT_one, same q (Nat.lt_succ_self q)]
    show swV a b (f (itT f q a)) = a
    rw [← itT_one f q a, hk, swV_b]
  rintro ⟨j, hj⟩
  rw [itT_mod back j, same _ (Nat.mod_lt j hk0)] at hj
  exact hl (j % k) (Nat.mod_lt j hk0) ⟨hj, Nat.lt_trans (Nat.mod_lt j hk0) hkp⟩
/-- One exchange: one cycle more or one less. -/
theorem sw_par (h : TP f N) (ha : a < N) (hb : b < N) (hne : a ≠ b) : (cntF f N + cntF (swF f a b) N) % 2 = 1 := by
  by_cases ho : Orb f a b
  · have h2 := sw_merge (swF_tp h ha hb) ha hb (sw_split h ha hb hne ho)
    rw [swF_inv] at h2
    omega
  · have h2 := sw_merge h ha hb ho
    omega
end
/-- All pairs of an exchange, one after the other. -/
def prV (g : Nat → Nat) (k v : Nat) : Nat := if v < k ∨ g v < k then g v else v
def prM (g : Nat → Nat) : Nat → Nat
  | 0 => 0
  | k + 1 => prM g k + (if k < g k then 1 else 0)
theorem prV_y {g : Nat → Nat} {k v : Nat} (h : v < k ∨ g v < k) : prV g k v = g v := if_pos h
theorem prV_n {g : Nat → Nat} {k v : Nat} (h : ¬ (v < k ∨ g v < k)) : prV g k v = v := if_neg h
theorem prV_step {g : Nat → Nat} (hg : ∀ v, g (g v) = v) (k v : Nat) : prV g (k + 1) v = if k < g k then swV k (g k) (prV g k v) else prV g k v := by
  have hk := hg k
  have hv := hg v
  by_cases hlt : k < g k
  · rw [if_pos hlt]
    by_cases e1 : v = k
    · subst e1
      rw [prV_y (.inl (Nat.lt_succ_self v)), prV_n (by omega), swV_a]
    by_cases e2 : v = g k
    · rw [e2, prV_y (k := k + 1) (.inr (by rw [hk]; exact Nat.lt_succ_self k)), prV_n (by rw [hk]; omega), hk, swV_b]
    have e3 : g v ≠ k := fun e => e2 (by rw [← e, hv])
    have e4 : g v ≠ g k := fun e => e1 (by have := congrArg g e; rwa [hv, hk] at this)
    by_cases hc : v < k ∨ g v < k
    · rw [prV_y (k := k + 1) (by omega), prV_y hc, swV_o e3 e4]
    · rw [prV_n (k := k + 1) (by omega), prV_n hc, swV_o e1 e2]
  · rw [if_neg hlt]
    by_cases hc : v < k ∨ g v < k
    · rw [prV_y (k := k + 1) (by omega), prV_y hc]
    · rw [prV_n hc]
      by_cases e1 : v = k
      · subst e1
        rw [prV_y (.inl (Nat.lt_succ_self v))]
        omega
      by_cases e2 : g v = k
      · have e3 : g k = v := by rw [← e2, hv]
        omega
      rw [prV_n (by omega)]
/-- A gate behind a table: as many cycles more or less as it has pairs. -/
theorem pr_par {f g : Nat → Nat} {N : Nat} (h : TP f N) (hg : ∀ v, g (g v) = v) (hb : ∀ v, v < N → g v < N) : ∀ k, k ≤ N → TP (fun x => prV g k (f x)) N ∧ (cntF f N + cntF (fun x => prV g k (f x)) N) % 2 = prM g k % 2
  | 0, _ => by
    have e : (fun x => prV g 0 (f x)) = f := funext fun x => by unfold prV; rw [if_neg (by omega)]
    rw [e]
    exact ⟨h, by rw [prM]; omega⟩
  | k + 1, hk => by
    obtain ⟨h1, h2⟩ := pr_par h hg hb k (by omega)
    by_cases hlt : k < g k
    · have e : (fun x => prV g (k + 1) (f x)) = swF (fun x => prV g k (f x)) k (g k) := funext fun x => by rw [prV_step hg, if_pos hlt]; rfl
      have h3 := sw_par h1 (a := k) (b := g k) (by omega) (hb k (by omega)) (by omega)
      rw [e]
      refine ⟨swF_tp h1 (by omega) (hb k (by omega)), ?_⟩
      rw [prM, if_pos hlt]
      omega
    · have e : (fun x => prV g (k + 1) (f x)) = (fun x => prV g k (f x)) := funext fun x => by rw [prV_step hg, if_neg hlt]
      rw [e]
      exact ⟨h1, by rw [prM, if_neg hlt]; omega⟩
theorem cntF_ext {f g : Nat → Nat} {N : Nat} (h : TP f N) (e : ∀ x, x < N → f x = g x) : ∀ k, k ≤ N → cntF f k = cntF g k := fun k hk =>
  cntF_congr fun x hx => by
    have key : ∀ j, itT g j x = itT f j x := fun j => itT_congr fun i _ => (e _ (itT_lt h i (by omega))).symm
    constructor
    · rintro hf y ⟨j, rfl⟩
      rw [key j]; exact hf _ ⟨j, rfl⟩
    · rintro hf y ⟨j, rfl⟩
      have := hf _ ⟨j, rfl⟩
      rwa [key j] at this
/-- The whole gate. -/
theorem gate_par {f g : Nat → Nat} {N : Nat} (h : TP f N) (hg : ∀ v, g (g v) = v) (hb : ∀ v, v < N → g v < N) : TP (fun x => g (f x)) N ∧ (cntF f N + cntF (fun x => g (f x)) N) % 2 = prM g N % 2 := by
  obtain ⟨h1, h2⟩ := pr_par h hg hb N (Nat.le_refl _)
  have e : ∀ x, x < N → prV g N (f x) = g (f x) := fun x hx => by unfold prV; rw [if_pos (.inl (h.bd x hx))]
  refine ⟨⟨fun x hx => hb _ (h.bd x hx), fun x y hx hy e => h.inj x y hx hy (by have := congrArg g e; rwa [hg, hg] at this)⟩, ?_⟩
  rw [← cntF_ext h1 e N (Nat.le_refl _)]
  exact h2
end Go.Proofs.Ytfcadkdgichpmaa
