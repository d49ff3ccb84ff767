/- Contracts: fields: copies. -/
import Derived.Test.YtpjbajfoahmleaaFldB
namespace Go.Proofs.Ytpjbajfoahmleaa
set_option linter.unusedVariables false
open Go.RowKit

theorem boolInfo : (Try.prog.info? 4).map (fun i => (i.zero, i.size, i.bytes)) = some (some (.bool false), 1, 1) := by kernel_rfl
theorem bl_one (l : List Bool) : ∀ u ∈ bl l, u.oneCell' = true := by
  intro u hu; simp [bl] at hu; rcases hu with ⟨_, rfl⟩ | ⟨_, rfl⟩ <;> rfl

/-- A slice value of n elements whose cells hold xs, in memory from lo on. -/
def RetSl (w : World) (sz : Nat) (xs : List Value) (e : Ending) (w' : World) : Prop :=
  ∃ A n c, e = .returned (.slice A n c) ∧ Sl w' w.heap.size w'.heap.size A n c sz xs ∧ Below w.heap.size w w'


set_option maxHeartbeats 400000 in
theorem clipB_any (A : Option Addr) (n c : Nat) (w : World) (hn : n ≤ c) (_hm : c ≤ 9223372036854775807) :
    Calls Try.prog 61 #[.slice A n c] w fun e w' => e = .returned (.slice A n n) ∧ w = w' := by
  go_enter Try.func61, Try.ntmps61
  go_wp2
  go_ret
  exact ⟨rfl, rfl⟩


set_option maxHeartbeats 400000 in
theorem cloneB_any (A : Option Addr) (n c : Nat) (l : List Bool) (lo hi : Nat) (w : World) (hS : SlB w lo hi A n c l) (hn : n ≤ 1048576) :
    Calls Try.prog 62 #[.slice A n c] w (RetSl w 1 (bl l)) := by
  obtain ⟨i0, hinf, hz0, hz1, hz2⟩ := info_parts boolInfo
  have hnil := fun W => Lib.run_eql_slice_nil (P := Try.prog) W 22 4 A n c 0 0 Try.underlying22
  rcases A with _ | ad
  · have h0 : n = 0 := by
      rcases Nat.eq_zero_or_pos n with h | h
      · exact h
      · obtain ⟨_, _, h, _⟩ := slB_at hS h; cases h
    have hl : l = [] := List.eq_nil_of_length_eq_zero (by rw [slB_len hS, h0])
    subst h0 hl
    have hnil0 := fun W => Lib.run_eql_slice_nil (P := Try.prog) W 22 4 none 0 c 0 0 Try.underlying22
    clear hnil hn
    go_enter Try.func62, Try.ntmps62
    go_wp2_with fail
    go_ret
    exact ⟨none, 0, 0, rfl, Sl.nil _ _ _ _ _ (by omega) (Nat.le_refl _), Below.refl _ _⟩
  · go_enter Try.func62, Try.ntmps62
    go_wp2_with (at_builtin; refine wpList_append_sl _ rfl (.tmp 5) (.tmp 6) 22 rfl w.heap.size 4 i0 (.bool false) 1 1 Try.underlying22 hinf hz0 hz1 hz2 rfl (by decide) (.slice (some ⟨w.heap.size, 0, none⟩) 0 0) 0 [] rfl (World.ownsRow_made w #[] 0 (Nat.le_refl _) (Nat.zero_le _) (by simp)) lo hi (some ad) n c (bl l) rfl (Sl.alloc hS _) (bl_one l) (by unfold maxLen; omega) (by omega) (by simp) ?_; intro A1 c1 w1 hown hg hat; simp only [Nat.zero_add, List.nil_append] at hown)
    go_ret
    obtain ⟨A2, c2, hv, hs⟩ := Sl.of_own hown
    obtain ⟨rfl, _, rfl⟩ : A1 = A2 ∧ True ∧ c1 = c2 := by simpa using hv
    refine ⟨A1, n, c1, rfl, hs, ?_⟩
    exact ((Below.refl _ _).alloc (Nat.le_refl _) _).grown hg (by simp) (by intro k hk; simp [Value.ownBlock] at hk; omega)

/-- A field, its balls in memory of its own. -/
def RetF (w : World) (s : Int) (l : List Bool) (sh : Bool) (e : Ending) (w' : World) : Prop :=
  ∃ A n c, e = .returned (.agg #[.int .i64 s, .slice A n c, .bool sh]) ∧ SlB w' w.heap.size w'.heap.size A n c l ∧ Below w.heap.size w w'


set_option maxHeartbeats 400000 in
theorem copyOfF_any (s : Int) (A : Option Addr) (n c : Nat) (sh : Bool) (l : List Bool) (lo hi : Nat) (w : World) (hS : SlB w lo hi A n c l) (hn : n ≤ 1048576) :
    Calls Try.prog 43 #[.agg #[.int .i64 s, .slice A n c, .bool sh]] w (RetF w s l sh) := by
  go_enter Try.func43, Try.ntmps43
  go_wp2_with fail
  refine (cloneB_any A n c l lo hi _ (by repeat (first | with_reducible exact hS | with_reducible refine Sl.alloc ?_ _ | (with_reducible refine Sl.setCell' ?_ ?_ _; (focus (first | omega | (simp; done) | (simp; omega)))) | with_reducible refine Sl.drewN ?_ _ | with_reducible refine Sl.drew ?_ | (with_reducible apply Sl.below; rotate_left; (with_reducible assumption)))) hn).mono ?_; rintro e w1 ⟨A1, n1, c1, rfl, hs1, hb1⟩
  have k1 : Bk w1 (w.heap.size) #[.int .i64 s, .slice A n c, .bool sh] := Bk.call (by repeat (first | with_reducible exact Bk.new' _ _ _ _ (by simp) | with_reducible refine Bk.alloc ?_ _ | with_reducible refine Bk.drewN ?_ _ | with_reducible refine Bk.drew ?_ | (with_reducible refine Bk.far' ?_ ?_ _; (focus (first | omega | (simp; done) | (simp; omega)))))) hb1; have := (k1).lt; have := (k1).cell; have := (k1).free
  have k2 : Bk w1 (w.heap.size + 1) #[.int .i64 0, .slice none 0 0, .bool false] := Bk.call (by repeat (first | with_reducible exact Bk.new' _ _ _ _ (by simp) | with_reducible refine Bk.alloc ?_ _ | with_reducible refine Bk.drewN ?_ _ | with_reducible refine Bk.drew ?_ | (with_reducible refine Bk.far' ?_ ?_ _; (focus (first | omega | (simp; done) | (simp; omega)))))) hb1; have := (k2).lt; have := (k2).cell; have := (k2).free
  go_wp2_with fail
  refine (clipB_any A1 n1 c1 _ hs1.cap hs1.max).mono ?_; rintro e w2 ⟨rfl, rfl⟩
  go_wp2_with fail
  refine bodyPost_ret (v := .agg #[.int .i64 s, .slice A1 n1 n1, .bool sh]) (by simp [results, Try.results43, go_sem, k2.cell]) rfl ?_
  refine ⟨A1, n1, n1, rfl, ?_, ?_⟩
  · have hs2 : SlB w1 (w.heap.size + 2) w1.heap.size A1 n1 n1 l := Sl.lower (Sl.clip hs1) (by simp) (Nat.le_refl _) (Nat.le_refl _)
    exact Sl.lower (lo := w.heap.size + 2) (hi := w1.heap.size) (by repeat (first | with_reducible exact hs2 | with_reducible refine Sl.alloc ?_ _ | (with_reducible refine Sl.setCell' ?_ ?_ _; (focus (first | omega | (simp; done) | (simp; omega)))) | with_reducible refine Sl.drewN ?_ _ | with_reducible refine Sl.drew ?_ | (with_reducible apply Sl.below; rotate_left; (with_reducible assumption)))) (by omega) (by simp [World.setCell]) (by simp)
  · exact (by repeat (first | with_reducible exact Below.refl _ _ | (with_reducible assumption) | (with_reducible refine bel_alloc ?_ ?_ _; (focus (first | omega | (simp; done) | (simp; omega)))) | (with_reducible refine bel_setCell ?_ ?_ _; (focus (first | omega | (simp; done) | (simp; omega)))) | with_reducible refine bel_drewN ?_ _ | with_reducible refine Below.drew ?_ | (with_reducible apply bel_join; (with_reducible assumption); (focus (first | omega | (simp; done) | (simp; omega))))))

end Go.Proofs.Ytpjbajfoahmleaa
