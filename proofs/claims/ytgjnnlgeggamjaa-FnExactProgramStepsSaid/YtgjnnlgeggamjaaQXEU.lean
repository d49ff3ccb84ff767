/- TRE: laid into one text. -/
import Derived.Test.YtgjnnlgeggamjaaQXEF
import Derived.Test.YtgjnnlgeggamjaaQXER
import Derived.Test.YtgjnnlgeggamjaaQXET
import Derived.RangeFuncBox

namespace Go.Proofs.Ytgjnnlgeggamjaa
set_option linter.unusedVariables false
set_option linter.unusedSimpArgs false
open Go.RowKit
attribute [local go_sem ↓] Go.wp_at_zero Go.wp_at_succ
theorem uok (f : Nat) : UOK f := by
  induction f using Nat.strongRecOn with
  | ind f ih => exact until_step f fun g hg => part_step g (ih g hg)
theorem p2_idle (b1 b2 : Nat) (w : World) :
    CallsD Try.prog 56 #[.pointer (some ⟨b1, 0, none⟩), .pointer (some ⟨b2, 0, none⟩)] .returning w fun e u' w' => e = .returned (.tuple #[]) ∧ u' = .returning ∧ w' = w := by
  have hn : ∀ w, (binOp .eql 20 .nilIface .nilIface).run Try.prog w = .ok (.bool true) w := fun _ => by kernel_rfl
  refine callsD_of_wpS Try.func56 rfl fun c₀ cs hu => ?_
  apply wpS_seq
  apply wpS_region
  simp [wpOpsS, go_sem, recoverD, hu, Try.ntmps56, Exit.thenS]
  refine wpS_of_wp ?_
  go_wp2
  cases c₀
  simp_all [bodyPostS, results, Try.results56]
theorem p2_open (b1 b2 : Nat) (w : World) (c1 c2 : Value) (h1 : w.cell? ⟨b1, 0, none⟩ = some c1) (h2 : w.cell? ⟨b2, 0, none⟩ = some c2) (f1 : w.frozen? ⟨b1, 0, none⟩ = false) (f2 : w.frozen? ⟨b2, 0, none⟩ = false) (hb : b1 < w.heap.size ∧ b2 < w.heap.size ∧ b1 ≠ b2) :
    CallsD Try.prog 56 #[.pointer (some ⟨b1, 0, none⟩), .pointer (some ⟨b2, 0, none⟩)] (.panicking [{ v := .iface 74 (.agg #[]), recovered := false }]) w fun e u' w' =>
      e = .returned (.tuple #[]) ∧ u' = .panicking [{ v := .iface 74 (.agg #[]), recovered := true }] ∧ w' = ((w.setCell ⟨b1, 0, none⟩ vNil).setCell ⟨b2, 0, none⟩ (.bool false)).alloc (.cells #[] 74) := by
  have hn : ∀ w, (binOp .eql 20 (.iface 74 (.agg #[])) .nilIface).run Try.prog w = .ok (.bool false) w := fun _ => by kernel_rfl
  have ht : ∀ w, (Instr.typeAssert (.iface 74 (.agg #[])) 20 74 true).run Try.prog w = .ok (.tuple #[.agg #[], .bool true]) w := fun _ => by kernel_rfl
  have n1 : ¬ b1 = w.heap.size := by omega
  have n2 : ¬ b2 = w.heap.size := by omega
  have n3 : ¬ b1 = b2 := hb.2.2
  have n4 : ¬ b2 = b1 := fun e => hb.2.2 e.symm
  refine callsD_of_wpS Try.func56 rfl fun c₀ cs hu => ?_
  apply wpS_seq
  apply wpS_region
  simp [wpOpsS, go_sem, recoverD, hu, Try.ntmps56, Exit.thenS]
  refine wpS_of_wp ?_
  go_wp2
  cases c₀
  simp_all [bodyPostS, results, Try.results56]
theorem infoL : (Try.prog.info? 47).map (fun i => (i.zero, i.size, i.bytes)) = some (some (.agg #[.int .i64 0, .int .i64 0, .int .i64 0, .int .i64 0]), 4, 32) := by kernel_rfl
theorem addE (g j : Nat) : (⟨g, 0, none⟩ : Addr).add j = ⟨g, j, none⟩ := by unfold Addr.add; split <;> simp_all
theorem cells4N (w : World) (x0 x1 x2 x3 : Value) (t : TypeId) : ∀ j u, [x0, x1, x2, x3][j]? = some u → (w.alloc (.cells #[x0, x1, x2, x3] t)).cell? ((⟨w.heap.size, 0, none⟩ : Addr).add j) = some u := by
  intro j u hj
  have h := Bk.new w #[x0, x1, x2, x3] t
  have : (⟨w.heap.size, 0, none⟩ : Addr).add j = ⟨w.heap.size, j, none⟩ := by unfold Addr.add; split <;> simp_all
  rw [this, h.cell j]
  simpa using hj
def PAs (w : World) (F : Option PS) (e : Ending) (w' : World) : Prop := Below w.heap.size w w' ∧ match F with
  | none => e = .returned (.tuple #[vNil, .bool false])
  | some t => ∃ v, e = .returned (.tuple #[v, .bool true]) ∧ TV w' (fun b => w.heap.size ≤ b ∧ b < w'.heap.size) t v
theorem cfL_calls (P : List Gt) (hP : P.length ≤ 2000000) (w : World) (hg : Glo w) (hz : gsz ≤ w.heap.size) (y : Value) (hy : RoRep w (fun b => b < w.heap.size) 4 P.length (cV P) y) : Calls Try.prog 53 #[y, .func (.func 54) #[] #[]] w fun e w' => e = .returned (.bool (!(P.all lkG))) ∧ Below w.heap.size w w' := by
  refine (calls_of_kon (k_cfL P (by omega)) rfl ?_ hg hz).mono ?_
  · intro j a hj
    rcases j with _ | _ | j
    · cases hj; exact ⟨_, rfl, hy⟩
    · cases hj; exact ⟨_, rfl, ⟨#[], rfl, rfl, fun j p hj => by simp at hj⟩⟩
    · simp at hj
  · rintro e w' ⟨v, β, G, ok, rfl, hr, hb⟩
    rw [show v = .bool (!(P.all lkG)) from hr.1]
    exact ⟨rfl, hb⟩
set_option maxRecDepth 100000 in
set_option maxHeartbeats 4000000 in
theorem clone_ok (P : List Gt) (hP : P.length ≤ 2000000) (w : World) (y : Value) (hy : RoRep w (fun b => b < w.heap.size) 4 P.length (cV P) y) : Calls Try.prog 57 #[y] w fun e w' => ∃ v, e = .returned v ∧ w'.ownsRow w.heap.size 47 4 v P.length (cV P) ∧ Below w.heap.size w w' := by
  have qT : ∀ (w : World) (a : Option Addr) (n c n' c' : Nat), (binOp .eql 24 (.slice a n c) (.slice none n' c')).run Try.prog w = .ok (.bool a.isNone) w := fun w a n c n' c' => Lib.run_eql_slice_nil w _ _ a n c n' c' Try.underlying24
  obtain ⟨i0, hi, hz0, hz1, hz2⟩ := info_parts infoL
  obtain ⟨⟨hl1, hl2⟩, A, c, rfl, hc1, hc2, hcells⟩ := hy
  cases A with
  | none =>
    have h0 : P.length = 0 := by
      rcases Nat.eq_zero_or_pos P.length with h | h
      · exact h
      · obtain ⟨b, off, h1, _⟩ := hcells h; cases h1
    obtain rfl : P = [] := List.length_eq_zero_iff.1 h0
    clear hcells
    go_enter Try.func57, Try.ntmps57
    go_wp2
    go_ret
    exact ⟨_, rfl, ⟨rfl, .inl ⟨rfl, rfl⟩⟩, Below.refl _ _⟩
  | some ad =>
    have hnews : ∀ j u, (cV P)[j]? = some u → (w.alloc (.cells #[] 47)).cell? (ad.add j) = some u := by
      intro j u hu
      have hp : 0 < P.length := by
        rcases Nat.eq_zero_or_pos P.length with h | h
        · rw [List.length_eq_zero_iff.1 h] at hu; simp [cV] at hu
        · exact h
      obtain ⟨b, off, h1, h2, h3⟩ := hcells hp
      cases h1
      rw [show (⟨b, off, none⟩ : Addr).add j = ⟨b, off + j, none⟩ by unfold Addr.add; split <;> simp_all]
      exact (World.cell?_of_block (a := ⟨b, off + j, none⟩) (Below.heap_alloc w _ b h2)).trans (h3 j u hu)
    clear hcells
    have hnH := Lib.hid hnews
    clear hnews
    go_enter Try.func57, Try.ntmps57
    go_wp2_with (at_builtin; refine wpList_append_own_at _ rfl _ _ 24 rfl w.heap.size 47 i0 (.agg #[.int .i64 0, .int .i64 0, .int .i64 0, .int .i64 0]) 4 32 Try.underlying24 hi hz0 hz1 hz2 rfl (by decide) (.slice (some ⟨w.heap.size, 0, none⟩) 0 0) 0 [] rfl (World.ownsRow_made w #[] 0 (Nat.le_refl _) (Nat.zero_le _) (by simp)) ad P.length c (cV P) rfl hl1 hnH.out (fun u hu => List.all_eq_true.1 hl2 u hu) (by simp [maxLen]; omega) (by omega) (by simp) ?_; intro v' w1 hown' hgrow _ hat)
    go_wp2
    go_ret
    simp only [List.nil_append, Nat.zero_add] at hown'
    exact ⟨_, rfl, hown', ⟨hgrow.os, hgrow.tape, hgrow.output, Nat.le_trans (by simp) hgrow.size, fun k hk => (hgrow.block k (by simp; omega) (by simp [Value.ownBlock]; omega)).trans (Below.heap_alloc w _ k hk)⟩⟩
set_option maxRecDepth 100000 in
set_option maxHeartbeats 4000000 in
theorem parse_ok (P : List Gt) (hP : P.length ≤ 2000000) (w : World) (hg : Glo w) (hz : gsz ≤ w.heap.size) (y : Value) (hy : RoRep w (fun b => b < w.heap.size) 4 P.length (cV P) y) : Calls Try.prog 36 #[y] w (PAs w (prs P)) := by
  have hmf : ∀ (fn : Fn) (first cap : Array Value) (w : World), (Instr.makeFunc fn first cap).run Try.prog w = .ok (.func fn first cap) w := fun _ _ _ _ => rfl
  have qT : ∀ (w : World) (a : Option Addr) (n c n' c' : Nat), (binOp .eql 24 (.slice a n c) (.slice none n' c')).run Try.prog w = .ok (.bool a.isNone) w := fun w a n c n' c' => Lib.run_eql_slice_nil w _ _ a n c n' c' Try.underlying24
  obtain ⟨i0, hi, hz0, hz1, hz2⟩ := info_parts infoL
  obtain ⟨⟨hl1, hl2⟩, A, c, rfl, hc1, hc2, hcells⟩ := id hy
  obtain ⟨F, hF⟩ : ∃ F, F = prs P := ⟨_, rfl⟩
  rw [← hF]
  have hFH := Lib.hid hF
  clear hF
  go_enter_defers Try.func36, Try.ntmps36
  by_cases h16 : 16 < P.length
  · have h16' : (16 : Int) < (P.length : Int) := by omega
    have hF0 : F = none := by rw [hFH.out]; unfold prs; rw [if_neg (by omega)]
    clear hFH hcells hl1 hl2 hy
    go_wp2
    refine ⟨.tuple #[vNil, .bool false], by simp [results, Try.results36, go_sem], ?_⟩
    rw [hF0]
    exact ⟨((Below.refl _ w).alloc (Nat.le_refl _) _).alloc (by simp) _, rfl⟩
  · have h16' : ¬ (16 : Int) < (P.length : Int) := by omega
    obtain ⟨X, hX⟩ : ∃ X, RowKit.Hid ((w.alloc (.cells #[.slice none 0 0] 51)).alloc (.cells #[.bool false] 4) = X) := hidE _
    have bX : Below w.heap.size w X := by rw [← hX.out]; exact ((Below.refl _ w).alloc (Nat.le_refl _) _).alloc (by simp) _
    have k0 : Bk X w.heap.size #[.slice none 0 0] := by rw [← hX.out]; exact (Bk.new w _ _).alloc _
    have k1 : Bk X (w.heap.size + 1) #[.bool false] := by rw [← hX.out]; exact Bk.new' _ _ _ _ (by simp)
    have hsX : X.heap.size = w.heap.size + 2 := by rw [← hX.out]; simp
    go_upto_region 1 with fail
    rw [hX.out]
    clear hX
    have hyX := RoRep.mono (w' := X) (ok' := fun b => b < X.heap.size) (fun b hb => ⟨by omega, bX.block b hb⟩) hy
    go_wp2_with (go_at_call 53; refine (cfL_calls P hP X (hg.keep fun b hb => bX.block b (by omega)) (by omega) _ hyX).mono ?_)
    rintro _ Y rfl bY
    rw [← hsX] at bY
    have bY1 := bX.trans (bY.mono bX.size)
    have k0 := k0.call bY
    have k1 := k1.call bY
    have hsY := bY.size
    have r0 : Y.cell? ⟨w.heap.size, 0, none⟩ = some (.slice none 0 0) := k0.cell 0
    have r1 : Y.cell? ⟨w.heap.size + 1, 0, none⟩ = some (.bool false) := k1.cell 0
    have f0 : Y.frozen? ⟨w.heap.size, 0, none⟩ = false := k0.free 0
    have f1 : Y.frozen? ⟨w.heap.size + 1, 0, none⟩ = false := k1.free 0
    cases hall : P.all lkG with
    | false =>
      have hF0 : F = none := by rw [hFH.out]; unfold prs; rw [if_neg (by rw [hall]; simp)]
      clear hFH hcells hl1 hl2 hy hyX
      go_wp2
      refine ⟨.tuple #[vNil, .bool false], by simp [results, Try.results36, go_sem, r0, r1], ?_⟩
      rw [hF0]
      exact ⟨(bY1.setCell (p := ⟨w.heap.size, 0, none⟩) (Nat.le_refl _) _).setCell (p := ⟨w.heap.size + 1, 0, none⟩) (Nat.le_succ _) _, rfl⟩
    | true =>
      have hFe : F = (pr 18 0 (-1) (P ++ [gStop])).map (·.1) := by rw [hFH.out]; unfold prs; rw [if_pos ⟨by omega, hall⟩]
      have hFH := Lib.hid hFe
      clear hFe
      have hyY := RoRep.mono (w' := Y) (ok' := fun b => b < Y.heap.size) (fun b hb => ⟨by omega, bY1.block b hb⟩) hy
      have hCl := clone_ok P hP Y _ hyY
      clear hcells hyX hyY hy
      go_wp2_with (go_at_call 57; refine hCl.mono ?_)
      rintro e W1 ⟨v, rfl, hown, bW⟩
      have hsW := bW.size
      go_wp2_with (at_builtin; refine wpList_append_own_at _ rfl _ _ 24 rfl Y.heap.size 47 i0 (.agg #[.int .i64 0, .int .i64 0, .int .i64 0, .int .i64 0]) 4 32 Try.underlying24 hi hz0 hz1 hz2 rfl (by decide) _ _ _ rfl (hown.alloc _) ⟨W1.heap.size, 0, none⟩ 1 1 (lC gStop) rfl rfl (cells4N _ _ _ _ _ _) (by intro u hu; simp at hu; rcases hu with rfl | rfl <;> rfl) (by simp [maxLen]; omega) (by omega) (by simp; omega) ?_; intro v' w1 hown' hgrow _ hat; obtain ⟨g, cap, rfl⟩ := ownsRow_succ hown')
      obtain ⟨hg1, hg2⟩ : Y.heap.size ≤ g ∧ g < w1.heap.size := own_lt hown' rfl
      obtain ⟨Z, hZ⟩ : ∃ Z, RowKit.Hid (w1.alloc (.cells #[.slice (some ⟨g, 0, none⟩) (P.length + 1) cap, .int .i64 0, .int .i64 0] 77) = Z) := hidE _
      have bW1 : Below Y.heap.size Y w1 := ⟨hgrow.os.trans bW.os, hgrow.tape.trans bW.tape, hgrow.output.trans bW.output, Nat.le_trans bW.size (Nat.le_trans (by simp) hgrow.size), fun k hk => (hgrow.block k (by simp; omega) (fun e => by have := (own_lt hown e.symm).1; omega)).trans ((Below.heap_alloc W1 _ k (by omega)).trans (bW.block k hk))⟩
      have bZ : Below Y.heap.size Y Z := by rw [← hZ.out]; exact bW1.alloc bW1.size _
      have hsZ : Z.heap.size = w1.heap.size + 1 := by rw [← hZ.out]; simp
      have hcap : P.length + 1 ≤ cap := by
        rcases hown'.2 with ⟨h, _⟩ | ⟨g', cap', cur, h, _, _, h2, _⟩
        · cases h
        · cases h; exact h2
      have hps : Psr Z w1.heap.size g cap 0 0 (P ++ [gStop]) := by
        rw [← hZ.out]
        have hlen : (P ++ [gStop]).length = P.length + 1 := by simp
        refine ⟨?_, by omega, by simp; omega, ?_, Nat.zero_le _, by omega, by omega⟩
        · rw [hlen]; exact Bk.new w1 _ _
        · intro j hj
          have e : cV P ++ lC gStop = cV (P ++ [gStop]) := by rw [← cV_append]; rfl
          have hc := hown'.cells (g := g) rfl
          rw [e] at hc
          have key : ∀ (o : Nat) (x : Value), (Cel.f ((P ++ [gStop]).getD j gz))[o]? = some x → (w1.alloc (.cells #[.slice (some ⟨g, 0, none⟩) (P.length + 1) cap, .int .i64 0, .int .i64 0] 77)).cell? ⟨g, j * 4 + o, none⟩ = some x := by
            intro o x ho
            have h2 := hc _ _ (cV_cell (l := P ++ [gStop]) (j := j) (o := o) hj (v := x) ho)
            rw [addE] at h2
            exact (World.cell?_of_block (a := ⟨g, j * 4 + o, none⟩) (Below.heap_alloc w1 _ g hg2)).trans h2
          exact ⟨key 0 _ rfl, key 1 _ rfl, key 2 _ rfl, key 3 _ rfl⟩
      have hU := uok 18 Z w1.heap.size g cap 0 0 (P ++ [gStop]) (-1) hps (by omega) (by simp; omega)
      go_wp2_with (go_at_call 58; rw [hZ.out]; refine hU.mono ?_)
      rintro e W3 ⟨hoU, hm⟩
      have bU := hoU.below (B := Y.heap.size) (by omega) (by omega)
      have bV := bZ.trans bU
      have k0 := k0.below bV (by omega)
      have k1 := k1.below bV (by omega)
      have hsV := bV.size
      have r0 : W3.cell? ⟨w.heap.size, 0, none⟩ = some (.slice none 0 0) := k0.cell 0
      have r1 : W3.cell? ⟨w.heap.size + 1, 0, none⟩ = some (.bool false) := k1.cell 0
      have f0 : W3.frozen? ⟨w.heap.size, 0, none⟩ = false := k0.free 0
      have f1 : W3.frozen? ⟨w.heap.size + 1, 0, none⟩ = false := k1.free 0
      have bW3 : Below w.heap.size w W3 := bY1.trans (bV.mono (by omega))
      have hd0 : (P ++ [gStop]).drop 0 = P ++ [gStop] := rfl
      rw [hd0] at hm
      rcases hr : pr 18 0 (-1) (P ++ [gStop]) with _ | ⟨t, x, rr⟩
      · rw [hr] at hm
        obtain ⟨rfl, _⟩ := hm
        have hF0 : F = none := by rw [hFH.out, hr]; rfl
        clear hFH hr hU hps
        go_wp2
        refine leaves_cons (f := 56) (args := #[.pointer (some ⟨w.heap.size, 0, none⟩), .pointer (some ⟨w.heap.size + 1, 0, none⟩)]) (by simp) (by simp [go_sem]) ?_
        refine (p2_open w.heap.size (w.heap.size + 1) W3 _ _ r0 r1 f0 f1 ⟨by omega, by omega, by omega⟩).mono ?_
        rintro e u' w'' ⟨rfl, rfl, rfl⟩
        have q0 : Bk (((W3.setCell ⟨w.heap.size, 0, none⟩ vNil).setCell ⟨w.heap.size + 1, 0, none⟩ (.bool false)).alloc (.cells #[] 74)) w.heap.size #[vNil] := ((k0.set 0 vNil (by simp)).far (p := ⟨w.heap.size + 1, 0, none⟩) (by dsimp only; omega) _).alloc _
        have q1 : Bk (((W3.setCell ⟨w.heap.size, 0, none⟩ vNil).setCell ⟨w.heap.size + 1, 0, none⟩ (.bool false)).alloc (.cells #[] 74)) (w.heap.size + 1) #[.bool false] := ((k1.far (p := ⟨w.heap.size, 0, none⟩) (by dsimp only; omega) vNil).set 0 (.bool false) (by simp)).alloc _
        have bF : Below w.heap.size w (((W3.setCell ⟨w.heap.size, 0, none⟩ vNil).setCell ⟨w.heap.size + 1, 0, none⟩ (.bool false)).alloc (.cells #[] 74)) := ((bW3.setCell (p := ⟨w.heap.size, 0, none⟩) (Nat.le_refl _) _).setCell (p := ⟨w.heap.size + 1, 0, none⟩) (Nat.le_succ _) _).alloc (by simp [World.setCell]; omega) _
        have s0 := q0.cell 0
        have s1 := q1.cell 0
        generalize ((W3.setCell ⟨w.heap.size, 0, none⟩ vNil).setCell ⟨w.heap.size + 1, 0, none⟩ (.bool false)).alloc (.cells #[] 74) = W9 at *
        simp only [List.getElem?_toArray, List.getElem?_cons_zero] at s0 s1
        refine ⟨.tuple #[vNil, .bool false], by simp [results, Try.results36, go_sem, s0, s1], ?_⟩
        exact ⟨bF, rfl⟩
      · rw [hr] at hm
        obtain ⟨v1, a1, rfl, hT, _⟩ := hm
        have hF0 : F = some t := by rw [hFH.out, hr]; rfl
        obtain ⟨A1, c1, ps1, rfl, _⟩ := id hT
        clear hFH hr hU hps
        go_wp2
        refine leaves_cons (f := 56) (args := #[.pointer (some ⟨w.heap.size, 0, none⟩), .pointer (some ⟨w.heap.size + 1, 0, none⟩)]) (by simp) (by simp [go_sem]) ?_
        refine (p2_idle w.heap.size (w.heap.size + 1) _).mono ?_
        rintro e u' w'' ⟨rfl, rfl, rfl⟩
        have q0 : Bk ((W3.setCell ⟨w.heap.size, 0, none⟩ (.slice A1 (pl t) c1)).setCell ⟨w.heap.size + 1, 0, none⟩ (.bool true)) w.heap.size #[.slice A1 (pl t) c1] := ((k0.set 0 (.slice A1 (pl t) c1) (by simp)).far (p := ⟨w.heap.size + 1, 0, none⟩) (by dsimp only; omega) _)
        have q1 : Bk ((W3.setCell ⟨w.heap.size, 0, none⟩ (.slice A1 (pl t) c1)).setCell ⟨w.heap.size + 1, 0, none⟩ (.bool true)) (w.heap.size + 1) #[.bool true] := ((k1.far (p := ⟨w.heap.size, 0, none⟩) (by dsimp only; omega) (.slice A1 (pl t) c1)).set 0 (.bool true) (by simp))
        have bF : Below w.heap.size w ((W3.setCell ⟨w.heap.size, 0, none⟩ (.slice A1 (pl t) c1)).setCell ⟨w.heap.size + 1, 0, none⟩ (.bool true)) := ((bW3.setCell (p := ⟨w.heap.size, 0, none⟩) (Nat.le_refl _) _).setCell (p := ⟨w.heap.size + 1, 0, none⟩) (Nat.le_succ _) _)
        have hTf := hT.hi (A := w.heap.size) (w' := (W3.setCell ⟨w.heap.size, 0, none⟩ (.slice A1 (pl t) c1)).setCell ⟨w.heap.size + 1, 0, none⟩ (.bool true)) (((Hi.refl _ _).setCell (by dsimp only; omega) _).setCell (by dsimp only; omega) _) (by omega)
        have s0 := q0.cell 0
        have s1 := q1.cell 0
        generalize (W3.setCell ⟨w.heap.size, 0, none⟩ (.slice A1 (pl t) c1)).setCell ⟨w.heap.size + 1, 0, none⟩ (.bool true) = W9 at *
        simp only [List.getElem?_toArray, List.getElem?_cons_zero] at s0 s1
        refine ⟨.tuple #[.slice A1 (pl t) c1, .bool true], by simp [results, Try.results36, go_sem, s0, s1], ?_⟩
        rw [hF0]
        exact ⟨bF, _, rfl, hTf⟩
end Go.Proofs.Ytgjnnlgeggamjaa
