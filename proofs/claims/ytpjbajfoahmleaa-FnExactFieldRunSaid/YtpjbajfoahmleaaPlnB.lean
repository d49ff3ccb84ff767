/- Plain laws of fields: steps keep the balls, can be undone, and turn with the field. No program is named. -/
import Derived.Test.YtpjbajfoahmleaaPlnA
namespace Go.Proofs.Ytpjbajfoahmleaa
set_option linter.unusedVariables false
set_option linter.unusedSimpArgs false
theorem cq_lt {s x y : Int} {p : Nat} {r : List Bool} (hs : 2 ≤ s ∧ s ≤ 8) (hr : (r.length : Int) = s * s) : cq s x y p < r.length := by
  have := inI_lt (x := x + corX p) (y := y + corY p) (n := s) (by omega)
  unfold cq
  omega
theorem inner_get {s : Int} {l r : List Bool} {fst y : Int} (hs : 2 ≤ s ∧ s ≤ 8) (hr : (r.length : Int) = s * s) (k : Nat) : ∀ j : Nat, (inner s l fst y j r).getD k false = (r.getD k false || (List.range j).any fun i => layC s (fst + 2 * (i : Int)) y l k)
  | 0 => by simp [inner]
  | j + 1 => by
    rw [inner, sqNew_get (fun p _ => cq_lt hs (by rw [inner_len]; exact hr)), inner_get hs hr k j, List.range_succ, List.any_append]
    simp [Bool.or_assoc]
theorem outer_get {s : Int} {l r : List Bool} {fst : Int} {h : Nat} (hs : 2 ≤ s ∧ s ≤ 8) (hr : (r.length : Int) = s * s) (k : Nat) : ∀ i : Nat, (outer s l fst h i r).getD k false = (r.getD k false || (List.range i).any fun i => (List.range h).any fun j => layC s (fst + 2 * (j : Int)) (fst + 2 * (i : Int)) l k)
  | 0 => by simp [outer]
  | i + 1 => by
    rw [outer, inner_get hs (by rw [outer_len]; exact hr), outer_get hs hr k i, List.range_succ, List.any_append]
    simp [Bool.or_assoc]
/-- Where a cell lies: the square's column and row, and the place in it. -/
def lj (n t k : Nat) : Nat := ((k % n + n - t) % n) / 2
def li (n t k : Nat) : Nat := ((k / n + n - t) % n) / 2
def lp (n t k : Nat) : Nat := ((k % n + n - t) % n) % 2 + 2 * (((k / n + n - t) % n) % 2)
def cN (n t i j p : Nat) : Nat := cq (n : Int) ((t : Int) + 2 * (j : Int)) ((t : Int) + 2 * (i : Int)) p
/-- The cell of the same square in another place. -/
def nb (n t k q : Nat) : Nat := cN n t (li n t k) (lj n t k) (lp n t k ^^^ q)
def allUp (N : Nat) (p : Nat → Bool) : Bool := (List.range N).all p
theorem allUp_at {N : Nat} {p : Nat → Bool} (h : allUp N p = true) {k : Nat} (hk : k < N) : p k = true := List.all_eq_true.1 h k (List.mem_range.2 hk)
def chkF (n t : Nat) : Bool := allUp (n * n) fun k => decide (li n t k < n / 2) && decide (lj n t k < n / 2) && decide (lp n t k < 4) && (nb n t k 0 == k) && allUp 4 (fun q => decide (nb n t k q < n * n) && allUp 4 fun q' => nb n t (nb n t k q) q' == nb n t k (q ^^^ q')) &&
  allUp (n / 2) fun i => allUp (n / 2) fun j => allUp 4 fun p => (cN n t i j p == k) == (i == li n t k && j == lj n t k && p == lp n t k)
theorem chkF_all : (chkF 2 0 && chkF 2 1 && chkF 4 0 && chkF 4 1 && chkF 6 0 && chkF 6 1 && chkF 8 0 && chkF 8 1) = true := by decide +kernel
theorem chkF_of {n t : Nat} (hn : n = 2 ∨ n = 4 ∨ n = 6 ∨ n = 8) (ht : t = 0 ∨ t = 1) : chkF n t = true := by
  have h := chkF_all
  rw [Bool.and_eq_true, Bool.and_eq_true, Bool.and_eq_true, Bool.and_eq_true, Bool.and_eq_true, Bool.and_eq_true, Bool.and_eq_true] at h
  obtain ⟨⟨⟨⟨⟨⟨⟨a, b⟩, c⟩, d⟩, e⟩, f⟩, g⟩, k⟩ := h
  rcases hn with rfl | rfl | rfl | rfl <;> rcases ht with rfl | rfl
  · exact a
  · exact b
  · exact c
  · exact d
  · exact e
  · exact f
  · exact g
  · exact k
theorem any2 {h a b : Nat} {φ : Nat → Nat → Bool} (ha : a < h) (hb : b < h) (hφ : ∀ i j, i < h → j < h → φ i j = true → i = a ∧ j = b) : ((List.range h).any fun i => (List.range h).any fun j => φ i j) = φ a b := by
  rw [Bool.eq_iff_iff]
  simp only [List.any_eq_true, List.mem_range]
  constructor
  · rintro ⟨i, hi, j, hj, h1⟩
    obtain ⟨rfl, rfl⟩ := hφ i j hi hj h1
    exact h1
  · intro h1
    exact ⟨a, ha, b, hb, h1⟩
def G4n (l : List Bool) (n t k : Nat) : Bool := G4 (l.getD (nb n t k 0) false) (l.getD (nb n t k 1) false) (l.getD (nb n t k 2) false) (l.getD (nb n t k 3) false)
theorem lay_at {n t k : Nat} {l : List Bool} (hc : chkF n t = true) (hk : k < n * n) : ((List.range (n / 2)).any fun i => (List.range (n / 2)).any fun j => layC (n : Int) ((t : Int) + 2 * (j : Int)) ((t : Int) + 2 * (i : Int)) l k) = G4n l n t k := by
  have h1 := allUp_at hc hk
  simp only [Bool.and_eq_true, decide_eq_true_eq, beq_iff_eq] at h1
  obtain ⟨⟨⟨⟨⟨a1, a2⟩, a3⟩, a4⟩, a5⟩, a6⟩ := h1
  have key : ∀ i j p, i < n / 2 → j < n / 2 → p < 4 → (k == cq (n : Int) ((t : Int) + 2 * (j : Int)) ((t : Int) + 2 * (i : Int)) p) = (i == li n t k && j == lj n t k && p == lp n t k) := by
    intro i j p hi hj hp
    have := allUp_at (allUp_at (allUp_at a6 hi) hj) hp
    simp only [beq_iff_eq] at this
    rw [← this]
    show (k == cN n t i j p) = _
    rw [Bool.eq_iff_iff]; simp only [beq_iff_eq]; exact eq_comm
  rw [any2 a1 a2]
  · unfold layC G4n nb cN
    rw [key _ _ 0 a1 a2 (by omega), key _ _ 1 a1 a2 (by omega), key _ _ 2 a1 a2 (by omega), key _ _ 3 a1 a2 (by omega)]
    have h4 : lp n t k = 0 ∨ lp n t k = 1 ∨ lp n t k = 2 ∨ lp n t k = 3 := by omega
    rcases h4 with h | h | h | h <;> simp [h]
  · intro i j hi hj h
    unfold layC at h
    rw [key i j 0 hi hj (by omega), key i j 1 hi hj (by omega), key i j 2 hi hj (by omega), key i j 3 hi hj (by omega)] at h
    simp only [Bool.or_eq_true, Bool.and_eq_true, beq_iff_eq] at h
    rcases h with ((h | h) | h) | h <;> exact h.1.1
theorem shp_nat {f : Fld} (h : f.shp) : ∃ n : Nat, f.s = (n : Int) ∧ (n = 2 ∨ n = 4 ∨ n = 6 ∨ n = 8) ∧ f.l.length = n * n := by
  obtain ⟨h1, h2, h3⟩ := h
  refine ⟨f.s.toNat, by omega, by omega, ?_⟩
  have h5 : f.s = 2 ∨ f.s = 4 ∨ f.s = 6 ∨ f.s = 8 := by omega
  rcases h5 with h5 | h5 | h5 | h5 <;> rw [h5] at h3 ⊢ <;> simp <;> omega
theorem shp_len2 {f : Fld} {n : Nat} (h : f.shp) (hn : f.s = (n : Int)) : f.l.length = n * n := by
  obtain ⟨n', q1, q2, q3⟩ := shp_nat h
  rw [hn] at q1
  have : n = n' := Int.ofNat.inj q1
  rw [this]; exact q3
def tB (b : Bool) : Nat := if b = true then 1 else 0
theorem step_get {f : Fld} {n : Nat} (h : f.shp) (hn : f.s = (n : Int)) (hl : f.l.length = n * n) {k : Nat} (hk : k < n * n) : f.step.l.getD k false = G4n f.l n (tB f.b) k := by
  obtain ⟨n', e1, e2, e3⟩ := shp_nat h
  have : n' = n := by omega
  subst this
  obtain ⟨s, l, b⟩ := f
  dsimp only at hn hl
  subst hn
  show (outer (n' : Int) l (fst0 b) ((n' : Int) / 2).toNat ((n' : Int) / 2).toNat (List.replicate l.length false)).getD k false = _
  have hs : (2 : Int) ≤ (n' : Int) ∧ (n' : Int) ≤ 8 := by omega
  rw [outer_get hs (by rw [List.length_replicate]; exact h.2.2)]
  have e4 : ((n' : Int) / 2).toNat = n' / 2 := by omega
  have e5 : fst0 b = ((tB b : Nat) : Int) := by cases b <;> rfl
  have e6 : (List.replicate l.length false).getD k false = false := by
    rw [List.getD_eq_getElem?_getD, List.getElem?_replicate]; split <;> rfl
  rw [e4, e5, e6, Bool.false_or, lay_at (chkF_of e2 (by cases b <;> simp [tB])) hk]
theorem nb_facts {n t k : Nat} (hn : n = 2 ∨ n = 4 ∨ n = 6 ∨ n = 8) (ht : t = 0 ∨ t = 1) (hk : k < n * n) : nb n t k 0 = k ∧ ∀ q, q < 4 → nb n t k q < n * n ∧ ∀ q', q' < 4 → nb n t (nb n t k q) q' = nb n t k (q ^^^ q') := by
  have h1 := allUp_at (chkF_of hn ht) hk
  simp only [Bool.and_eq_true, decide_eq_true_eq, beq_iff_eq] at h1
  obtain ⟨⟨⟨⟨⟨a1, a2⟩, a3⟩, a4⟩, a5⟩, a6⟩ := h1
  refine ⟨a4, fun q hq => ?_⟩
  have := allUp_at a5 hq
  simp only [Bool.and_eq_true, decide_eq_true_eq] at this
  refine ⟨this.1, fun q' hq' => ?_⟩
  have := allUp_at this.2 hq'
  simpa using this
theorem ext_getD {l l' : List Bool} (h : l.length = l'.length) (hk : ∀ k, k < l.length → l.getD k false = l'.getD k false) : l = l' := by
  apply List.ext_getElem h
  intro k h1 h2
  have := hk k h1
  rwa [List.getD_eq_getElem?_getD, List.getD_eq_getElem?_getD, List.getElem?_eq_getElem h1, List.getElem?_eq_getElem h2] at this
theorem G4_inv : ∀ a b c d : Bool, G4 (G4 a b c d) (G4 b a d c) (G4 c d a b) (G4 d c b a) = a := by decide
theorem G4_sym : ∀ a b c d : Bool, G4 a b c d = G4 a c b d := by decide
theorem G4_sum : ∀ a b c d : Bool, (G4 a b c d).toNat + (G4 b a d c).toNat + (G4 c d a b).toNat + (G4 d c b a).toNat = a.toNat + b.toNat + c.toNat + d.toNat := by decide
theorem tB_01 (b : Bool) : tB b = 0 ∨ tB b = 1 := by cases b <;> simp [tB]
/-- The new cells of a square, seen from one of them. -/
theorem G4n_nb {l : List Bool} {n t k : Nat} (hn : n = 2 ∨ n = 4 ∨ n = 6 ∨ n = 8) (ht : t = 0 ∨ t = 1) (hk : k < n * n) :
    G4n l n t (nb n t k 0) = G4 (l.getD (nb n t k 0) false) (l.getD (nb n t k 1) false) (l.getD (nb n t k 2) false) (l.getD (nb n t k 3) false) ∧
    G4n l n t (nb n t k 1) = G4 (l.getD (nb n t k 1) false) (l.getD (nb n t k 0) false) (l.getD (nb n t k 3) false) (l.getD (nb n t k 2) false) ∧
    G4n l n t (nb n t k 2) = G4 (l.getD (nb n t k 2) false) (l.getD (nb n t k 3) false) (l.getD (nb n t k 0) false) (l.getD (nb n t k 1) false) ∧
    G4n l n t (nb n t k 3) = G4 (l.getD (nb n t k 3) false) (l.getD (nb n t k 2) false) (l.getD (nb n t k 1) false) (l.getD (nb n t k 0) false) := by
  obtain ⟨h0, h1⟩ := nb_facts hn ht hk
  refine ⟨?_, ?_, ?_, ?_⟩ <;> unfold G4n <;> simp only [(h1 0 (by omega)).2 _ (show 0 < 4 by omega), (h1 0 (by omega)).2 _ (show 1 < 4 by omega), (h1 0 (by omega)).2 _ (show 2 < 4 by omega), (h1 0 (by omega)).2 _ (show 3 < 4 by omega), (h1 1 (by omega)).2 _ (show 0 < 4 by omega), (h1 1 (by omega)).2 _ (show 1 < 4 by omega), (h1 1 (by omega)).2 _ (show 2 < 4 by omega), (h1 1 (by omega)).2 _ (show 3 < 4 by omega),
    (h1 2 (by omega)).2 _ (show 0 < 4 by omega), (h1 2 (by omega)).2 _ (show 1 < 4 by omega), (h1 2 (by omega)).2 _ (show 2 < 4 by omega), (h1 2 (by omega)).2 _ (show 3 < 4 by omega),
    (h1 3 (by omega)).2 _ (show 0 < 4 by omega), (h1 3 (by omega)).2 _ (show 1 < 4 by omega), (h1 3 (by omega)).2 _ (show 2 < 4 by omega), (h1 3 (by omega)).2 _ (show 3 < 4 by omega)] <;> rfl
/-- Two steps on the same squares are none. -/
theorem step_twice {s : Int} {l : List Bool} {b : Bool} (h : Fld.shp ⟨s, l, b⟩) : (Fld.step ⟨s, (Fld.step ⟨s, l, b⟩).l, b⟩).l = l := by
  obtain ⟨n, e1, e2, e3⟩ := shp_nat h
  have h2 : Fld.shp ⟨s, (Fld.step ⟨s, l, b⟩).l, b⟩ := Fld.shp_step h
  have l2 : (Fld.step ⟨s, l, b⟩).l.length = n * n := shp_len2 h2 e1
  have h3 : Fld.shp (Fld.step ⟨s, (Fld.step ⟨s, l, b⟩).l, b⟩) := Fld.shp_step h2
  have l3 : (Fld.step ⟨s, (Fld.step ⟨s, l, b⟩).l, b⟩).l.length = n * n := shp_len2 h3 e1
  refine ext_getD (by rw [l3]; exact e3.symm) fun k hk => ?_
  rw [l3] at hk
  have ht := tB_01 b
  obtain ⟨h0, h1⟩ := nb_facts e2 ht hk
  rw [step_get h2 e1 l2 hk]
  have g : ∀ q, q < 4 → (Fld.step ⟨s, l, b⟩).l.getD (nb n (tB b) k q) false = G4n l n (tB b) (nb n (tB b) k q) := fun q hq => step_get h e1 e3 (h1 q hq).1
  obtain ⟨g0, g1, g2, g3⟩ := G4n_nb (l := l) e2 ht hk
  show G4n _ n (tB b) k = _
  unfold G4n
  rw [g 0 (by omega), g 1 (by omega), g 2 (by omega), g 3 (by omega), g1, g2, g3]
  rw [g0, G4_inv, h0]
theorem back_step {f : Fld} (h : f.shp) : f.step.back = f := by
  obtain ⟨s, l, b⟩ := f
  show (⟨s, (Fld.step ⟨s, (Fld.step ⟨s, l, b⟩).l, !!b⟩).l, !!b⟩ : Fld) = _
  rw [Bool.not_not, step_twice h]
theorem step_back {f : Fld} (h : f.shp) : f.back.step = f := by
  obtain ⟨s, l, b⟩ := f
  show (⟨s, (Fld.step ⟨s, (Fld.step ⟨s, l, !b⟩).l, !b⟩).l, !!b⟩ : Fld) = _
  rw [Bool.not_not, step_twice (b := !b) h]
/-- The balls, cell by cell. -/
theorem cnt_sum : ∀ l : List Bool, cntB l = ((List.range l.length).map fun k => (l.getD k false).toNat).sum
  | [] => rfl
  | b :: l => by
    have ih := cnt_sum l
    unfold cntB at ih ⊢
    rw [List.countP_cons, List.length_cons, List.range_succ_eq_map, List.map_cons, List.map_map, List.sum_cons, ih, Nat.add_comm]
    congr 1
    cases b <;> rfl
theorem sum_perm {l l' : List Nat} (h : l.Perm l') (f : Nat → Nat) : (l.map f).sum = (l'.map f).sum := (h.map f).sum_nat
theorem sum_add4 (l : List Nat) (f g h k : Nat → Nat) : (l.map fun x => f x + g x + h x + k x).sum = (l.map f).sum + (l.map g).sum + (l.map h).sum + (l.map k).sum := by
  induction l with
  | nil => rfl
  | cons a l ih => simp only [List.map_cons, List.sum_cons, ih]; omega
def chkP (n t : Nat) : Bool := allUp 4 fun q => ((List.range (n * n)).map fun k => nb n t k q).isPerm (List.range (n * n))
theorem chkP_all : (chkP 2 0 && chkP 2 1 && chkP 4 0 && chkP 4 1 && chkP 6 0 && chkP 6 1 && chkP 8 0 && chkP 8 1) = true := by decide +kernel
theorem chkP_of {n t : Nat} (hn : n = 2 ∨ n = 4 ∨ n = 6 ∨ n = 8) (ht : t = 0 ∨ t = 1) : chkP n t = true := by
  have h := chkP_all
  rw [Bool.and_eq_true, Bool.and_eq_true, Bool.and_eq_true, Bool.and_eq_true, Bool.and_eq_true, Bool.and_eq_true, Bool.and_eq_true] at h
  obtain ⟨⟨⟨⟨⟨⟨⟨a, b⟩, c⟩, d⟩, e⟩, f⟩, g⟩, k⟩ := h
  rcases hn with rfl | rfl | rfl | rfl <;> rcases ht with rfl | rfl
  · exact a
  · exact b
  · exact c
  · exact d
  · exact e
  · exact f
  · exact g
  · exact k
theorem sum_nb {n t q : Nat} (hn : n = 2 ∨ n = 4 ∨ n = 6 ∨ n = 8) (ht : t = 0 ∨ t = 1) (hq : q < 4) (f : Nat → Nat) : ((List.range (n * n)).map fun k => f (nb n t k q)).sum = ((List.range (n * n)).map f).sum := by
  have h := List.isPerm_iff.1 (allUp_at (chkP_of hn ht) hq)
  have := sum_perm h f
  rwa [List.map_map] at this
theorem step_cnt {f : Fld} (h : f.shp) : cntB f.step.l = cntB f.l := by
  obtain ⟨n, e1, e2, e3⟩ := shp_nat h
  have h3 : Fld.shp f.step := Fld.shp_step h
  have l3 : f.step.l.length = n * n := shp_len2 h3 e1
  have ht := tB_01 f.b
  rw [cnt_sum, cnt_sum, l3, e3]
  have g : ∀ k ∈ List.range (n * n), (f.step.l.getD k false).toNat = (G4n f.l n (tB f.b) k).toNat := fun k hk => by rw [step_get h e1 e3 (List.mem_range.1 hk)]
  rw [List.map_congr_left g]
  have four : ((List.range (n * n)).map fun k => (G4n f.l n (tB f.b) (nb n (tB f.b) k 0)).toNat + (G4n f.l n (tB f.b) (nb n (tB f.b) k 1)).toNat + (G4n f.l n (tB f.b) (nb n (tB f.b) k 2)).toNat + (G4n f.l n (tB f.b) (nb n (tB f.b) k 3)).toNat).sum = ((List.range (n * n)).map fun k => (f.l.getD (nb n (tB f.b) k 0) false).toNat + (f.l.getD (nb n (tB f.b) k 1) false).toNat + (f.l.getD (nb n (tB f.b) k 2) false).toNat + (f.l.getD (nb n (tB f.b) k 3) false).toNat).sum := by
    congr 1
    refine List.map_congr_left fun k hk => ?_
    have hk' := List.mem_range.1 hk
    obtain ⟨h0, h1⟩ := nb_facts e2 ht hk'
    obtain ⟨g0, g1, g2, g3⟩ := G4n_nb (l := f.l) e2 ht hk'
    rw [g1, g2, g3]
    rw [g0]
    exact G4_sum _ _ _ _
  rw [sum_add4, sum_add4] at four
  rw [sum_nb e2 ht (show 0 < 4 by omega) fun k => (G4n f.l n (tB f.b) k).toNat, sum_nb e2 ht (show 1 < 4 by omega) fun k => (G4n f.l n (tB f.b) k).toNat, sum_nb e2 ht (show 2 < 4 by omega) fun k => (G4n f.l n (tB f.b) k).toNat, sum_nb e2 ht (show 3 < 4 by omega) fun k => (G4n f.l n (tB f.b) k).toNat,
    sum_nb e2 ht (show 0 < 4 by omega) fun k => (f.l.getD k false).toNat, sum_nb e2 ht (show 1 < 4 by omega) fun k => (f.l.getD k false).toNat, sum_nb e2 ht (show 2 < 4 by omega) fun k => (f.l.getD k false).toNat, sum_nb e2 ht (show 3 < 4 by omega) fun k => (f.l.getD k false).toNat] at four
  omega
/-- The turn, cell by cell. -/
def chkT (n t : Nat) : Bool := allUp (n * n) fun i => decide (movT (n : Int) i < n * n) && (nb n t (movT (n : Int) i) 1 == movT (n : Int) (nb n t i 2)) && (nb n t (movT (n : Int) i) 2 == movT (n : Int) (nb n t i 1)) && (nb n t (movT (n : Int) i) 3 == movT (n : Int) (nb n t i 3))
theorem chkT_all : (chkT 2 0 && chkT 2 1 && chkT 4 0 && chkT 4 1 && chkT 6 0 && chkT 6 1 && chkT 8 0 && chkT 8 1) = true := by decide +kernel
theorem chkT_of {n t : Nat} (hn : n = 2 ∨ n = 4 ∨ n = 6 ∨ n = 8) (ht : t = 0 ∨ t = 1) : chkT n t = true := by
  have h := chkT_all
  rw [Bool.and_eq_true, Bool.and_eq_true, Bool.and_eq_true, Bool.and_eq_true, Bool.and_eq_true, Bool.and_eq_true, Bool.and_eq_true] at h
  obtain ⟨⟨⟨⟨⟨⟨⟨a, b⟩, c⟩, d⟩, e⟩, f⟩, g⟩, k⟩ := h
  rcases hn with rfl | rfl | rfl | rfl <;> rcases ht with rfl | rfl
  · exact a
  · exact b
  · exact c
  · exact d
  · exact e
  · exact f
  · exact g
  · exact k
theorem turn_shp {f : Fld} (h : f.shp) : f.turn.shp := ⟨h.1, h.2.1, by show ((mvd f.s f.l f.l.length).length : Int) = _; rw [mvd_len]; exact h.2.2⟩
theorem turn_at {f : Fld} (h : f.shp) {i : Nat} (hi : i < f.l.length) : f.turn.l.getD (movT f.s i) false = f.l.getD i false := turn_get h.1 h.2.1 h.2.2 hi f.l.length hi (Nat.le_refl _)
theorem step_turn {f : Fld} (h : f.shp) : f.turn.step = f.step.turn := by
  obtain ⟨n, e1, e2, e3⟩ := shp_nat h
  have ht := tB_01 f.b
  have hl1 : f.step.shp := Fld.shp_step h
  have hl2 : f.turn.shp := turn_shp h
  have len : ∀ {g : Fld}, g.shp → g.s = f.s → g.l.length = n * n := fun {g} hg hs => shp_len2 hg (hs.trans e1)
  have l1 := len hl1 rfl
  have l2 := len hl2 rfl
  have l3 := len (Fld.shp_step hl2) rfl
  have l4 := len (turn_shp hl1) rfl
  have key : f.turn.step.l = f.step.turn.l := by
    refine ext_getD (by rw [l3, l4]) fun k hk => ?_
    rw [l3] at hk
    have hs2 : (n : Int) * n = ((n * n : Nat) : Int) := by simp
    have hb : ∀ i, i < n * n → movT f.s i < n * n := fun i hi => by have := (movT_eq h.1 h.2.1 (i := i) (by rw [e1, hs2]; omega)).2.1; rw [e1, hs2] at this; rw [e1]; omega
    have h4 : movT f.s (movT f.s (movT f.s (movT f.s k))) = k := movT_four h.1 h.2.1 (by rw [e1, hs2]; omega)
    obtain ⟨i, hi, rfl⟩ : ∃ i, i < n * n ∧ movT f.s i = k := ⟨_, hb _ (hb _ (hb _ hk)), h4⟩
    have tt : f.step.turn.l.getD (movT f.s i) false = f.step.l.getD i false := turn_at hl1 (by rw [l1]; exact hi)
    rw [tt, step_get h e1 e3 hi, step_get hl2 e1 l2 hk]
    have c := allUp_at (chkT_of e2 ht) hi
    simp only [Bool.and_eq_true, decide_eq_true_eq, beq_iff_eq] at c
    obtain ⟨⟨⟨c0, c1⟩, c2⟩, c3⟩ := c
    obtain ⟨h0, h1⟩ := nb_facts e2 ht hi
    obtain ⟨k0, _⟩ := nb_facts e2 ht hk
    show G4n f.turn.l n (tB f.b) (movT f.s i) = _
    unfold G4n
    rw [← e1] at c1 c2 c3
    rw [k0, c1, c2, c3, h0, turn_at h (by rw [e3]; exact hi), turn_at h (by rw [e3]; exact (h1 2 (by omega)).1), turn_at h (by rw [e3]; exact (h1 1 (by omega)).1), turn_at h (by rw [e3]; exact (h1 3 (by omega)).1)]
    exact G4_sym _ _ _ _
  show (⟨f.s, _, !f.b⟩ : Fld) = ⟨f.s, _, !f.b⟩
  rw [show (outer f.turn.s f.turn.l (fst0 f.turn.b) (f.turn.s / 2).toNat (f.turn.s / 2).toNat (List.replicate f.turn.l.length false)) = f.turn.step.l from rfl, key]
  rfl
end Go.Proofs.Ytpjbajfoahmleaa
