/- Plain: the first useless pair. -/
import Derived.Test.YtgifhhefcmmdfaaPJ
import Derived.Test.YtgifhhefcmmdfaaKGR
namespace Go.Proofs.Ytgifhhefcmmdfaa
set_option linter.unusedVariables false
set_option linter.unusedSimpArgs false
theorem geq_comm (g h : Gt) : geq g h = geq h g := by
  rw [Bool.eq_iff_iff, geq_iff, geq_iff]; exact eq_comm
/-- The place of the same gate behind gates that are apart. -/
def uI (g : Gt) : List Gt → Nat → Int
  | [], _ => -1
  | x :: l, k => bif geq x g then (k : Int) else bif apaB x g then uI g l (k + 1) else -1
def usl : List Gt → Nat → Int × Int
  | [], _ => (-1, -1)
  | g :: l, i => bif decide (uI g l (i + 1) ≥ 0) then ((i : Int), uI g l (i + 1)) else usl l (i + 1)
theorem uI_drop {g : Gt} {l : List Gt} {i : Nat} (hi : i < l.length) : uI g (l.drop i) i = bif geq (l.getD i Cel.no) g then (i : Int) else bif apaB (l.getD i Cel.no) g then uI g (l.drop (i + 1)) (i + 1) else -1 := by
  have e : l.getD i Cel.no = l[i] := by simp [List.getD_eq_getElem?_getD, hi]
  rw [List.drop_eq_getElem_cons hi, e]; rfl
theorem usl_drop {l : List Gt} {i : Nat} (hi : i < l.length) : usl (l.drop i) i = bif decide (uI (l.getD i Cel.no) (l.drop (i + 1)) (i + 1) ≥ 0) then ((i : Int), uI (l.getD i Cel.no) (l.drop (i + 1)) (i + 1)) else usl (l.drop (i + 1)) (i + 1) := by
  have e : l.getD i Cel.no = l[i] := by simp [List.getD_eq_getElem?_getD, hi]
  rw [List.drop_eq_getElem_cons hi, e]; rfl
/-- What a found place is. -/
theorem uI_spec {g : Gt} : ∀ (l : List Gt) (k : Nat), uI g l k = -1 ∨ ∃ j : Nat, uI g l k = ((k + j : Nat) : Int) ∧ j < l.length ∧ l.getD j Cel.no = g ∧ ∀ x ∈ l.take j, apaB x g = true
  | [], k => .inl rfl
  | x :: l, k => by
    rw [uI]
    cases h : geq x g with
    | true => exact .inr ⟨0, by simp, by simp, geq_iff.1 h, fun y hy => by cases hy⟩
    | false =>
      cases h2 : apaB x g with
      | false => exact .inl rfl
      | true =>
        rcases uI_spec l (k + 1) with h3 | ⟨j, h3, h4, h5, h6⟩
        · exact .inl h3
        · refine .inr ⟨j + 1, ?_, by simp; omega, by simpa using h5, fun y hy => ?_⟩
          · show uI g l (k + 1) = _
            rw [h3]; congr 1; omega
          · rw [List.take_succ_cons] at hy
            rcases List.mem_cons.1 hy with rfl | hy
            · exact h2
            · exact h6 y hy
theorem usl_spec : ∀ (l : List Gt) (i : Nat), usl l i = (-1, -1) ∨ ∃ a b : Nat, usl l i = (((i + a : Nat) : Int), ((i + b : Nat) : Int)) ∧ a < b ∧ b < l.length ∧ l.getD a Cel.no = l.getD b Cel.no ∧ ∀ x ∈ (l.drop (a + 1)).take (b - (a + 1)), apaB x (l.getD a Cel.no) = true
  | [], i => .inl rfl
  | g :: l, i => by
    rw [usl]
    rcases uI_spec (g := g) l (i + 1) with h | ⟨j, h1, h2, h3, h4⟩
    · rw [h]
      rcases usl_spec l (i + 1) with h5 | ⟨a, b, h5, h6, h7, h8, h9⟩
      · exact .inl h5
      · refine .inr ⟨a + 1, b + 1, ?_, by omega, by simp; omega, by simpa using h8, ?_⟩
        · show usl l (i + 1) = _
          rw [h5]; congr 2 <;> omega
        · simpa using h9
    · right
      refine ⟨0, j + 1, ?_, by omega, by simp; omega, by simpa using h3.symm, by simpa using h4⟩
      rw [h1, decide_eq_true (by omega)]
      show ((i : Int), ((i + 1 + j : Nat) : Int)) = _
      congr 2; omega
/-- Nothing found: no two of the same side by side. -/
theorem usl_none : ∀ (l : List Gt) (i : Nat), usl l i = (-1, -1) → ∀ k : Nat, k + 1 < l.length → ¬ l.getD (k + 1) Cel.no = l.getD k Cel.no
  | g :: l, i, h, k, hk, e => by
    rw [usl] at h
    cases hd : decide (uI g l (i + 1) ≥ 0) with
    | true =>
      rw [hd] at h
      have := (Prod.mk.inj h).1
      omega
    | false =>
      rw [hd] at h
      cases k with
      | zero =>
        cases l with
        | nil => simp at hk
        | cons x l =>
          have ex : x = g := by simpa using e
          rw [uI, ex, geq_refl] at hd
          have := of_decide_eq_false hd
          simp at this
          omega
      | succ k => exact usl_none l (i + 1) h k (by simpa using hk) (by simpa using e)
theorem cr_one (g : Gt) (l : List Gt) (w : Int) : cr (g :: l) w = cr l (gr g w) := rfl
/-- A gate goes through gates that are apart. -/
theorem cr_thru {n : Int} {g : Gt} (hg : gok n g = true) : ∀ {m : List Gt}, m.all (gok n) = true → (∀ x ∈ m, apaB x g = true) → ∀ w : Int, gr g (cr m w) = cr m (gr g w)
  | [], _, _, w => rfl
  | x :: m, hm, ha, w => by
    rw [List.all_cons, Bool.and_eq_true] at hm
    rw [cr_one, cr_one, cr_thru hg hm.2 (fun y hy => ha y (List.mem_cons_of_mem _ hy))]
    rw [apa_comm hm.1 hg (ha x (List.mem_cons_self))]
/-- Without a useless pair a circuit makes the same. -/
theorem cr_less {n : Int} {g : Gt} {p m s : List Gt} (hg : gok n g = true) (hp : p.all (gok n) = true) (hm : m.all (gok n) = true) (ha : ∀ x ∈ m, apaB x g = true) {w : Int} (hw : 0 ≤ w ∧ w < 2 ^ n.toNat) : cr (p ++ g :: m ++ g :: s) w = cr (p ++ m ++ s) w := by
  have hw2 := cr_lt hp hw
  rw [cr_append, cr_append, cr_append, cr_append, cr_one, cr_one, cr_thru hg hm ha, gr_gr hg hw2.1]
theorem split_pair {l : List Gt} {a b : Nat} (h1 : a < b) (h2 : b < l.length) : l = l.take a ++ l.getD a Cel.no :: (l.drop (a + 1)).take (b - (a + 1)) ++ l.getD b Cel.no :: l.drop (b + 1) := by
  have ea : l.getD a Cel.no = l[a] := by simp [List.getD_eq_getElem?_getD, show a < l.length by omega]
  have eb : l.getD b Cel.no = l[b] := by simp [List.getD_eq_getElem?_getD, h2]
  have e1 : l.drop a = l[a] :: l.drop (a + 1) := List.drop_eq_getElem_cons (by omega)
  have e2 : l.drop b = l[b] :: l.drop (b + 1) := List.drop_eq_getElem_cons h2
  have e3 : l.drop (a + 1) = (l.drop (a + 1)).take (b - (a + 1)) ++ l.drop b := by
    have := (List.take_append_drop (b - (a + 1)) (l.drop (a + 1))).symm
    rw [List.drop_drop, show a + 1 + (b - (a + 1)) = b by omega] at this
    exact this
  calc l = l.take a ++ l.drop a := (List.take_append_drop a l).symm
    _ = _ := by
      rw [e1, ea, eb, List.append_assoc, List.cons_append, ← e2]
      congr 2
end Go.Proofs.Ytgifhhefcmmdfaa
