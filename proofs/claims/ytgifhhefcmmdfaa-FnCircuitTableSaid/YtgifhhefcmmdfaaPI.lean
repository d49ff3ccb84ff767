/- Plain law: exchanges are made of changes. -/
import Derived.Test.YtgifhhefcmmdfaaKGJ
namespace Go.Proofs.Ytgifhhefcmmdfaa
set_option linter.unusedVariables false
set_option linter.unusedSimpArgs false
def spl (g : Gt) : List Gt := if g.k = 3 then [⟨1, g.a, g.b, 0⟩, ⟨1, g.b, g.a, 0⟩, ⟨1, g.a, g.b, 0⟩] else if g.k = 4 then [⟨1, g.c, g.b, 0⟩, ⟨2, g.a, g.b, g.c⟩, ⟨1, g.c, g.b, 0⟩] else [g]
def splL (l : List Gt) : List Gt := l.flatMap spl
theorem int_ext {x y : Int} (hx : 0 ≤ x) (hy : 0 ≤ y) (h : ∀ i : Nat, x.toNat.testBit i = y.toNat.testBit i) : x = y := by
  have := Nat.eq_of_testBit_eq h
  omega
theorem gokL_in {n : Int} {g : Gt} (h : gok n g = true) : okLn n = true ∧ gokL n g = true := by
  unfold gok at h; rwa [Bool.and_eq_true] at h
theorem bt_two (x y : Int) (hx : 0 ≤ x) (hy : 0 ≤ y) : (2 ^ x.toNat).testBit y.toNat = decide (x = y) := by
  rw [two_bit]; exact decide_eq_decide.2 (by omega)
theorem spl3 {n : Int} {g : Gt} (h : gok n g = true) (hk : g.k = 3) {w : Int} : cr (spl g) w = gr g w := by
  obtain ⟨_, hf⟩ := gok_facts h
  have hf' : (0 ≤ g.a ∧ g.a < n) ∧ (0 ≤ g.b ∧ g.b < n) ∧ g.b ≠ g.a ∧ g.c = 0 := by rcases hf with h | h | h <;> omega
  obtain ⟨ha, hb, hne, _⟩ := hf'
  have e : spl g = [⟨1, g.a, g.b, 0⟩, ⟨1, g.b, g.a, 0⟩, ⟨1, g.a, g.b, 0⟩] := by unfold spl; rw [if_pos hk]
  rw [e]
  show gr _ (gr _ (gr _ w)) = _
  refine int_ext (gr_nn _ _) (gr_nn _ _) fun i => ?_
  have c1 : ∀ x y z : Int, gc ⟨1, x, y, 0⟩ z = bt z x := fun x y z => gc1 rfl
  have m1 : ∀ x y : Int, gm ⟨1, x, y, 0⟩ = 2 ^ y.toNat := fun x y => gm1 rfl
  have d1 : decide (g.a = g.a) = true := decide_eq_true rfl
  have d2 : decide (g.b = g.b) = true := decide_eq_true rfl
  have d3 : decide (g.a = g.b) = false := decide_eq_false (Ne.symm hne)
  have d4 : decide (g.b = g.a) = false := decide_eq_false hne
  have hab : ¬ (g.a.toNat = i ∧ g.b.toNat = i) := by omega
  simp only [gr_bit, gr_bt, c1, m1, gc3 hk, gm3 hk, bt_two _ _ ha.1 ha.1, bt_two _ _ ha.1 hb.1, bt_two _ _ hb.1 ha.1, bt_two _ _ hb.1 hb.1, d1, d2, d3, d4, Nat.testBit_xor, two_bit]
  have h1 : decide (g.a.toNat = i) = true → decide (g.b.toNat = i) = false := fun h => decide_eq_false fun h2 => hab ⟨of_decide_eq_true h, h2⟩
  cases hA : bt w g.a <;> cases hB : bt w g.b <;> cases hi : decide (g.a.toNat = i) <;> cases hj : decide (g.b.toNat = i) <;> cases w.toNat.testBit i <;> first | rfl | (rw [h1 hi] at hj; cases hj)
theorem spl4 {n : Int} {g : Gt} (h : gok n g = true) (hk : g.k = 4) {w : Int} : cr (spl g) w = gr g w := by
  obtain ⟨_, hf⟩ := gok_facts h
  have hf' : (0 ≤ g.a ∧ g.a < n) ∧ (0 ≤ g.b ∧ g.b < n) ∧ g.b ≠ g.a ∧ (0 ≤ g.c ∧ g.c < n) ∧ g.c ≠ g.a ∧ g.c ≠ g.b := by rcases hf with h | h | h <;> omega
  obtain ⟨ha, hb, hne, hc, hca, hcb⟩ := hf'
  have e : spl g = [⟨1, g.c, g.b, 0⟩, ⟨2, g.a, g.b, g.c⟩, ⟨1, g.c, g.b, 0⟩] := by unfold spl; rw [if_neg (by omega), if_pos hk]
  rw [e]
  show gr _ (gr _ (gr _ w)) = _
  refine int_ext (gr_nn _ _) (gr_nn _ _) fun i => ?_
  have c1 : ∀ x y z : Int, gc ⟨1, x, y, 0⟩ z = bt z x := fun x y z => gc1 rfl
  have m1 : ∀ x y : Int, gm ⟨1, x, y, 0⟩ = 2 ^ y.toNat := fun x y => gm1 rfl
  have c2 : ∀ x y u z : Int, gc ⟨2, x, y, u⟩ z = (bt z x && bt z y) := fun x y u z => gc2 rfl
  have m2 : ∀ x y u : Int, gm ⟨2, x, y, u⟩ = 2 ^ u.toNat := fun x y u => gm2 rfl
  have d : ∀ x : Int, decide (x = x) = true := fun x => decide_eq_true rfl
  have d3 : decide (g.b = g.a) = false := decide_eq_false hne
  have d4 : decide (g.c = g.a) = false := decide_eq_false hca
  have d5 : decide (g.c = g.b) = false := decide_eq_false hcb
  have d6 : decide (g.b = g.c) = false := decide_eq_false (Ne.symm hcb)
  have hbc : ¬ (g.b.toNat = i ∧ g.c.toNat = i) := by omega
  simp only [gr_bit, gr_bt, c1, m1, c2, m2, gc4 hk, gm4 hk, bt_two _ _ hb.1 ha.1, bt_two _ _ hb.1 hb.1, bt_two _ _ hb.1 hc.1, bt_two _ _ hc.1 ha.1, bt_two _ _ hc.1 hb.1, bt_two _ _ hc.1 hc.1, d, d3, d4, d5, d6, Nat.testBit_xor, two_bit]
  have h1 : decide (g.b.toNat = i) = true → decide (g.c.toNat = i) = false := fun h => decide_eq_false fun h2 => hbc ⟨of_decide_eq_true h, h2⟩
  cases hA : bt w g.a <;> cases hB : bt w g.b <;> cases hC : bt w g.c <;> cases hi : decide (g.b.toNat = i) <;> cases hj : decide (g.c.toNat = i) <;> cases w.toNat.testBit i <;> first | rfl | (rw [h1 hi] at hj; cases hj)
theorem spl_cr {n : Int} {g : Gt} (h : gok n g = true) (w : Int) : cr (spl g) w = gr g w := by
  by_cases h3 : g.k = 3
  · exact spl3 h h3
  by_cases h4 : g.k = 4
  · exact spl4 h h4
  unfold spl; rw [if_neg h3, if_neg h4]; rfl
theorem splL_cr {n : Int} : ∀ {l : List Gt}, l.all (gok n) = true → ∀ w : Int, cr (splL l) w = cr l w
  | [], _, w => rfl
  | g :: l, h, w => by
    rw [List.all_cons, Bool.and_eq_true] at h
    show cr (spl g ++ splL l) w = _
    rw [cr_append, spl_cr h.1, splL_cr h.2]; rfl
theorem gok_mk1 {n a b : Int} (hn : okLn n = true) (ha : 0 ≤ a ∧ a < n) (hb : 0 ≤ b ∧ b < n) (hne : b ≠ a) : gok n ⟨1, a, b, 0⟩ = true := by
  unfold gok gokL in8
  rw [hn]
  simp [ha, hb, hne]
theorem gok_mk2 {n a b c : Int} (hn : okLn n = true) (ha : 0 ≤ a ∧ a < n) (hb : 0 ≤ b ∧ b < n) (hc : 0 ≤ c ∧ c < n) (hne : b ≠ a) (hca : c ≠ a) (hcb : c ≠ b) : gok n ⟨2, a, b, c⟩ = true := by
  unfold gok gokL in8
  rw [hn]
  simp [ha, hb, hc, hne, hca, hcb]
theorem spl_ok {n : Int} {g : Gt} (h : gok n g = true) : (spl g).all (gok n) = true ∧ ∀ x ∈ spl g, x.k ≠ 3 ∧ x.k ≠ 4 := by
  obtain ⟨_, hf⟩ := gok_facts h
  have hn := (gokL_in h).1
  by_cases h3 : g.k = 3
  · have hf' : (0 ≤ g.a ∧ g.a < n) ∧ (0 ≤ g.b ∧ g.b < n) ∧ g.b ≠ g.a := by rcases hf with h | h | h <;> omega
    unfold spl; rw [if_pos h3]
    simp [gok_mk1 hn hf'.1 hf'.2.1 hf'.2.2, gok_mk1 hn hf'.2.1 hf'.1 (Ne.symm hf'.2.2)]
  by_cases h4 : g.k = 4
  · have hf' : (0 ≤ g.a ∧ g.a < n) ∧ (0 ≤ g.b ∧ g.b < n) ∧ g.b ≠ g.a ∧ (0 ≤ g.c ∧ g.c < n) ∧ g.c ≠ g.a ∧ g.c ≠ g.b := by rcases hf with h | h | h <;> omega
    obtain ⟨ha, hb, hne, hc, hca, hcb⟩ := hf'
    unfold spl; rw [if_neg h3, if_pos h4]
    simp [gok_mk1 hn hc hb (Ne.symm hcb), gok_mk2 hn ha hb hc hne hca hcb]
  unfold spl; rw [if_neg h3, if_neg h4]
  simp [h, h3, h4]
theorem splL_ok {n : Int} {l : List Gt} (h : l.all (gok n) = true) : (splL l).all (gok n) = true ∧ ∀ x ∈ splL l, x.k ≠ 3 ∧ x.k ≠ 4 := by
  rw [List.all_eq_true] at h
  constructor
  · rw [List.all_eq_true]
    intro x hx
    obtain ⟨g, hg, hxg⟩ := List.mem_flatMap.1 hx
    exact List.all_eq_true.1 (spl_ok (h g hg)).1 x hxg
  · intro x hx
    obtain ⟨g, hg, hxg⟩ := List.mem_flatMap.1 hx
    exact (spl_ok (h g hg)).2 x hxg
theorem splL_take {l : List Gt} {i : Nat} (hi : i < l.length) : splL (l.take (i + 1)) = splL (l.take i) ++ spl (l.getD i Cel.no) := by
  have e : l.getD i Cel.no = l[i] := by simp [List.getD_eq_getElem?_getD, hi]
  rw [e, List.take_succ_eq_append_getElem hi]
  unfold splL
  rw [List.flatMap_append]; simp
theorem spl_len (g : Gt) : (spl g).length ≤ 3 := by unfold spl; split <;> (try split) <;> simp
theorem splL_len : ∀ l : List Gt, (splL l).length ≤ 3 * l.length
  | [] => by simp [splL]
  | g :: l => by
    have h1 := spl_len g
    have h2 := splL_len l
    show (spl g ++ splL l).length ≤ _
    rw [List.length_append, List.length_cons]; omega
/-- What gates cost. -/
def costK (k : Int) : Int := if k = 0 then 1 else if k = 1 then 1 else if k = 2 then 5 else if k = 3 then 3 else 7
def coL : List Gt → Int
  | [] => 0
  | g :: l => costK g.k + coL l
theorem coL_append : ∀ l m : List Gt, coL (l ++ m) = coL l + coL m
  | [], m => by simp [coL]
  | g :: l, m => by rw [List.cons_append, coL, coL, coL_append l m]; omega
theorem costK_bd (k : Int) : 1 ≤ costK k ∧ costK k ≤ 7 := by unfold costK; split <;> (try split) <;> (try split) <;> (try split) <;> omega
theorem coL_bd : ∀ l : List Gt, 0 ≤ coL l ∧ coL l ≤ 7 * (l.length : Int)
  | [] => by simp [coL]
  | g :: l => by
    have h1 := costK_bd g.k
    have h2 := coL_bd l
    rw [coL, List.length_cons]; omega
theorem coL_take {l : List Gt} {i : Nat} (hi : i < l.length) : coL (l.take (i + 1)) = coL (l.take i) + costK (l.getD i Cel.no).k := by
  have e : l.getD i Cel.no = l[i] := by simp [List.getD_eq_getElem?_getD, hi]
  rw [e, List.take_succ_eq_append_getElem hi, coL_append]
  simp [coL]
theorem spl_cost (g : Gt) (h : 0 ≤ g.k ∧ g.k ≤ 4) : coL (spl g) = costK g.k := by
  unfold spl
  by_cases h3 : g.k = 3
  · rw [if_pos h3, h3]; rfl
  by_cases h4 : g.k = 4
  · rw [if_neg h3, if_pos h4, h4]; rfl
  rw [if_neg h3, if_neg h4]; simp [coL]
theorem splL_cost {n : Int} : ∀ {l : List Gt}, l.all (gok n) = true → coL (splL l) = coL l
  | [], _ => rfl
  | g :: l, h => by
    rw [List.all_cons, Bool.and_eq_true] at h
    show coL (spl g ++ splL l) = _
    rw [coL_append, spl_cost g (gok_bd h.1).2.1, splL_cost h.2]; rfl
end Go.Proofs.Ytgifhhefcmmdfaa
