/- PR: laid into one text. -/
import Derived.Test.YtfcadkdgichpmaaQTG

/- Whether a circuit's table is odd, from its gates. Plain. -/
namespace Go.Proofs.Ytfcadkdgichpmaa
set_option linter.unusedVariables false
set_option linter.unusedSimpArgs false
section
variable {n : Int}
theorem gN_inv {g : Gt} (h : gok n g = true) (v : Nat) : gN g (gN g v) = v := by
  unfold gN
  have h1 := gr_nn g (v : Int)
  rw [Int.toNat_of_nonneg h1, gr_gr h (Int.natCast_nonneg v)]
  exact Int.toNat_natCast v
theorem gN_lt {g : Gt} (h : gok n g = true) {v : Nat} (hv : v < 2 ^ n.toNat) : gN g v < 2 ^ n.toNat := by
  have hc : ((v : Nat) : Int) < 2 ^ n.toNat := by
    have : ((v : Nat) : Int) < ((2 ^ n.toNat : Nat) : Int) := Int.ofNat_lt.2 hv
    rwa [Int.natCast_pow] at this
  obtain ⟨h1, h2⟩ := gr_lt h ⟨Int.natCast_nonneg v, hc⟩
  unfold gN
  have h3 : (gr g (v : Int)) < ((2 ^ n.toNat : Nat) : Int) := by rw [Int.natCast_pow]; exact h2
  omega
/-- The table of a circuit, on words. -/
def crN (c : List Gt) (v : Nat) : Nat := (cr c (v : Int)).toNat
theorem crN_lt {c : List Gt} (h : c.all (gok n) = true) {v : Nat} (hv : v < 2 ^ n.toNat) : crN c v < 2 ^ n.toNat ∧ ((crN c v : Nat) : Int) = cr c (v : Int) := by
  have hc : ((v : Nat) : Int) < 2 ^ n.toNat := by
    have : ((v : Nat) : Int) < ((2 ^ n.toNat : Nat) : Int) := Int.ofNat_lt.2 hv
    rwa [Int.natCast_pow] at this
  obtain ⟨h1, h2⟩ := cr_lt h ⟨Int.natCast_nonneg v, hc⟩
  unfold crN
  have h3 : (cr c (v : Int)) < ((2 ^ n.toNat : Nat) : Int) := by rw [Int.natCast_pow]; exact h2
  omega
theorem crN_tp {c : List Gt} (h : c.all (gok n) = true) : TP (crN c) (2 ^ n.toNat) := by
  refine ⟨fun x hx => (crN_lt h hx).1, fun x y hx hy e => ?_⟩
  have e2 : cr c (x : Int) = cr c (y : Int) := by rw [← (crN_lt h hx).2, ← (crN_lt h hy).2, e]
  have hb : ∀ v : Nat, v < 2 ^ n.toNat → 0 ≤ (v : Int) ∧ (v : Int) < 2 ^ n.toNat := fun v hv => by
    have : ((v : Nat) : Int) < ((2 ^ n.toNat : Nat) : Int) := Int.ofNat_lt.2 hv
    rw [Int.natCast_pow] at this
    exact ⟨Int.natCast_nonneg v, this⟩
  have e3 := congrArg (cr c.reverse) e2
  rw [cr_back h (hb x hx), cr_back h (hb y hy)] at e3
  omega
theorem crN_snoc {c : List Gt} {g : Gt} (h : c.all (gok n) = true) {x : Nat} (hx : x < 2 ^ n.toNat) : crN (c ++ [g]) x = gN g (crN c x) := by
  unfold gN
  rw [(crN_lt h hx).2]
  show (cr (c ++ [g]) (x : Int)).toNat = _
  rw [cr_append]; rfl
/-- Odd or even: the words less the cycles. -/
noncomputable def parC (n : Int) (c : List Gt) : Nat := (2 ^ n.toNat + cntF (crN c) (2 ^ n.toNat)) % 2
theorem cntF_id : ∀ N, cntF (fun x => x) N = N
  | 0 => rfl
  | k + 1 => by
    have hf : Fst (fun x => x) k := by
      rintro y ⟨j, rfl⟩
      have : ∀ j x, itT (fun x => x) j x = x := fun j => by
        induction j with
        | zero => intro x; rfl
        | succ j ih => intro x; exact ih x
      rw [this]; exact Nat.le_refl _
    rw [cntF, cntF_id k, if_pos hf]
theorem crN_nil : crN [] = fun x => x := funext fun x => Int.toNat_natCast x
theorem parC_nil : parC n [] = 0 := by unfold parC; rw [crN_nil, cntF_id]; omega
theorem parC_snoc0 {c : List Gt} {g : Gt} (h : c.all (gok n) = true) (hg : gok n g = true) : parC n (c ++ [g]) = (parC n c + prM (gN g) (2 ^ n.toNat)) % 2 := by
  have hT := crN_tp h
  obtain ⟨h1, h2⟩ := gate_par hT (gN_inv hg) (fun v hv => gN_lt hg hv)
  have e := cntF_ext h1 (g := crN (c ++ [g])) (fun x hx => (crN_snoc h hx).symm) _ (Nat.le_refl _)
  rw [e] at h2
  unfold parC
  omega
theorem parC_one {g : Gt} (hg : gok n g = true) : parC n [g] = prM (gN g) (2 ^ n.toNat) % 2 := by
  have := parC_snoc0 (c := []) rfl hg
  rw [parC_nil, Nat.zero_add] at this
  exact this
theorem parC_snoc {c : List Gt} {g : Gt} (h : c.all (gok n) = true) (hg : gok n g = true) : parC n (c ++ [g]) = (parC n c + parC n [g]) % 2 := by
  rw [parC_snoc0 h hg, parC_one hg]; omega
/-- With four lines or more no gate is odd. -/
theorem parC_big {g : Gt} (hg : gok n g = true) (hn : 4 ≤ n) : parC n [g] = 0 := by
  rw [parC_one hg]
  obtain ⟨h8, hk, ha, hb, hc⟩ := gok_bd hg
  obtain ⟨k, a, b, c⟩ := g
  dsimp only at hk ha hb hc
  have key : ∀ m : Nat, n = (m : Int) → prOk m k.toNat a.toNat b.toNat c.toNat = true → prM (gN ⟨k, a, b, c⟩) (2 ^ n.toNat) % 2 = 0 := by
    rintro m rfl hp
    unfold prOk at hp
    rw [Int.toNat_of_nonneg hk.1, Int.toNat_of_nonneg ha.1, Int.toNat_of_nonneg hb.1, Int.toNat_of_nonneg hc.1, hg] at hp
    rw [Bool.not_true, Bool.false_or, beq_iff_eq] at hp
    rw [Int.toNat_natCast]; exact hp
  have h' : n = 4 ∨ n = 5 ∨ n = 6 ∨ n = 7 ∨ n = 8 := by omega
  rcases h' with rfl | rfl | rfl | rfl | rfl
  · exact key 4 rfl (pr_even4 ⟨k.toNat, by omega⟩ ⟨a.toNat, by omega⟩ ⟨b.toNat, by omega⟩ ⟨c.toNat, by omega⟩)
  · exact key 5 rfl (pr_even5 ⟨k.toNat, by omega⟩ ⟨a.toNat, by omega⟩ ⟨b.toNat, by omega⟩ ⟨c.toNat, by omega⟩)
  · exact key 6 rfl (pr_even6 ⟨k.toNat, by omega⟩ ⟨a.toNat, by omega⟩ ⟨b.toNat, by omega⟩ ⟨c.toNat, by omega⟩)
  · exact key 7 rfl (pr_even7 ⟨k.toNat, by omega⟩ ⟨a.toNat, by omega⟩ ⟨b.toNat, by omega⟩ ⟨c.toNat, by omega⟩)
  · exact key 8 rfl (pr_even8 ⟨k.toNat, by omega⟩ ⟨a.toNat, by omega⟩ ⟨b.toNat, by omega⟩ ⟨c.toNat, by omega⟩)
end
end Go.Proofs.Ytfcadkdgichpmaa
