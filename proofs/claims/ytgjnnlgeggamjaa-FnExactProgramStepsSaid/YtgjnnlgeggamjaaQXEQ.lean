/- TRB: laid into one text. -/
import Derived.Test.YtgjnnlgeggamjaaQXEG
import Derived.Test.YtgjnnlgeggamjaaQXEP
import Derived.WalkKit
import Derived.Defers
import Derived.Recover
import Derived.Deep.RegionHeld3
import Derived.Deep.AppendLies
import Derived.Deep.DrawnRows
import Derived.Deep.Cut
import Derived.Maps.AppendAt
import Derived.Lib.Hide

namespace Go.Proofs.Ytgjnnlgeggamjaa
set_option linter.unusedVariables false
set_option linter.unusedSimpArgs false
open Go.RowKit
attribute [local go_sem ↓] Go.wp_at_zero Go.wp_at_succ
abbrev eOpen : Ending := .panicked [{ v := .iface 74 (.agg #[]), recovered := false }]
def Opn (w : World) (pb lb c d : Nat) (Ls : List Gt) (e : Ending) : Prop := e = eOpen ∧ ∃ a1 d1 : Nat, Bk w pb #[.slice (some ⟨lb, 0, none⟩) Ls.length c, .int .i64 a1, .int .i64 d1] ∧ d ≤ d1 ∧ d1 ≤ d + 1
def UPs (w : World) (pb lb c a0 d : Nat) (Ls : List Gt) (F : Option (PS × Gt × List Gt)) (e : Ending) (w' : World) : Prop := Oth pb w w' ∧ match F with
  | none => Opn w' pb lb c d Ls e
  | some y => ∃ v a1, e = .returned v ∧ TV w' (fun b => w.heap.size ≤ b ∧ b < w'.heap.size) y.1 v ∧ Bk w' pb #[.slice (some ⟨lb, 0, none⟩) Ls.length c, .int .i64 (a1 : Nat), .int .i64 d] ∧ a0 < a1 ∧ a1 ≤ Ls.length ∧ y.2.2 = Ls.drop a1 ∧ y.2.1 = Ls.getD (a1 - 1) gz
structure Psr (w : World) (pb lb c a0 d : Nat) (Ls : List Gt) : Prop where
  bk : Bk w pb #[.slice (some ⟨lb, 0, none⟩) Ls.length c, .int .i64 a0, .int .i64 d]
  ne : lb ≠ pb
  lt : lb < w.heap.size
  ln : LnC w lb Ls
  le : a0 ≤ Ls.length
  l17 : Ls.length ≤ 17
  cap : Ls.length ≤ c
theorem Psr.oth {w w' : World} {pb lb c a0 d a1 d1 : Nat} {Ls : List Gt} (h : Psr w pb lb c a0 d Ls) (ho : Oth pb w w') (hb : Bk w' pb #[.slice (some ⟨lb, 0, none⟩) Ls.length c, .int .i64 a1, .int .i64 d1]) (hl : a1 ≤ Ls.length) : Psr w' pb lb c a1 d1 Ls :=
  ⟨hb, h.ne, Nat.lt_of_lt_of_le h.lt ho.size, h.ln.keep (ho.block lb h.lt h.ne), hl, h.l17, h.cap⟩
def UOK (f : Nat) : Prop := ∀ (w : World) (pb lb c a0 d : Nat) (Ls : List Gt) (k : Int), Psr w pb lb c a0 d Ls → d ≤ 3 → (Ls.drop a0).length < f →
  Calls Try.prog 58 #[.pointer (some ⟨pb, 0, none⟩), .int .i64 k] w (UPs w pb lb c a0 d Ls (pr f d k (Ls.drop a0)))
abbrev pV (l e : Gt) (v u : Value) : Value := .agg #[.int .i64 l.k, .int .i64 l.a, .int .i64 l.b, .int .i64 l.c, v, u, .int .i64 e.k, .int .i64 e.a, .int .i64 e.b, .int .i64 e.c]
def prt (f d : Nat) (l : Gt) (r : List Gt) : Option (PS × List Gt) :=
  if 3 < d + 1 then none
  else if l.k = 4 then match pr f (d + 1) 5 r with
    | none => none
    | some (p, e, r1) => some (.rep l e p .nil, r1)
  else match pr f (d + 1) 7 r with
    | none => none
    | some (p, m, r1) => match pr f (d + 1) 8 r1 with
      | none => none
      | some (q, e, r2) => some (.iff l m e p q .nil, r2)
def PPs (w : World) (pb lb c a0 d : Nat) (Ls : List Gt) (l : Gt) (F : Option (PS × List Gt)) (e : Ending) (w' : World) : Prop := Oth pb w w' ∧ match F with
  | none => Opn w' pb lb c d Ls e
  | some y => ∃ e1 v u a1, e = .returned (pV l e1 v u) ∧ (v.oneCell' = true ∧ u.oneCell' = true) ∧ RC w' (fun b => w.heap.size ≤ b ∧ b < w'.heap.size) y.1 (lC l ++ (v :: u :: lC e1)) ∧ pl y.1 = 1 ∧ Bk w' pb #[.slice (some ⟨lb, 0, none⟩) Ls.length c, .int .i64 (a1 : Nat), .int .i64 d] ∧ a0 < a1 ∧ a1 ≤ Ls.length ∧ y.2 = Ls.drop a1
def POK (f : Nat) : Prop := ∀ (w : World) (pb lb c a0 d : Nat) (Ls : List Gt) (l : Gt), Psr w pb lb c a0 d Ls → d ≤ 3 → (Ls.drop a0).length < f → (l.k = 4 ∨ l.k = 6) →
  Calls Try.prog 71 #[.pointer (some ⟨pb, 0, none⟩), .agg #[.int .i64 l.k, .int .i64 l.a, .int .i64 l.b, .int .i64 l.c]] w (PPs w pb lb c a0 d Ls l (prt f d l (Ls.drop a0)))
theorem pr_part {f d : Nat} {k : Int} {l : Gt} {r : List Gt} (hk : l.k ≠ k) (h : l.k = 4 ∨ l.k = 6) : pr (f + 1) d k (l :: r) = (prt f d l r).bind fun y => (pr f d k y.2).map fun z => (app y.1 z.1, z.2.1, z.2.2) := by
  rw [pr, if_neg hk, if_neg (by omega)]
  unfold prt
  by_cases h3 : 3 < d + 1
  · rw [if_pos h3, if_pos h3, if_pos h3]; split <;> (try split) <;> first | rfl | omega
  rw [if_neg h3, if_neg h3, if_neg h3]
  rcases h with h | h
  · rw [if_pos h, if_pos h]
    rcases pr f (d + 1) 5 r with _ | ⟨p, e, r1⟩
    · rfl
    dsimp only [Option.bind_some]
    rcases pr f d k r1 with _ | ⟨t, x, r2⟩ <;> rfl
  · rw [if_neg (by omega), if_pos h, if_neg (by omega)]
    rcases pr f (d + 1) 7 r with _ | ⟨p, e, r1⟩
    · rfl
    dsimp only
    rcases pr f (d + 1) 8 r1 with _ | ⟨q, m, r2⟩
    · rfl
    dsimp only [Option.bind_some]
    rcases pr f d k r2 with _ | ⟨t, x, r3⟩ <;> rfl
theorem infoB : (Try.prog.info? 83).map (fun i => (i.zero, i.size, i.bytes)) = some (some (pV gz gz vNil vNil), 10, 112) := by kernel_rfl
theorem cells10_new (w : World) (x0 x1 x2 x3 x4 x5 x6 x7 x8 x9 : Value) (t : TypeId) : ∀ j u, [x0, x1, x2, x3, x4, x5, x6, x7, x8, x9][j]? = some u → (w.alloc (.cells #[x0, x1, x2, x3, x4, x5, x6, x7, x8, x9] t)).cell? ((⟨w.heap.size, 0, none⟩ : Addr).add j) = some u := by
  intro j u hj
  have h := Bk.new w #[x0, x1, x2, x3, x4, x5, x6, x7, x8, x9] t
  have : (⟨w.heap.size, 0, none⟩ : Addr).add j = ⟨w.heap.size, j, none⟩ := by unfold Addr.add; split <;> simp_all
  rw [this, h.cell j]
  simpa using hj
set_option maxRecDepth 100000 in
set_option maxHeartbeats 4000000 in
theorem until_step (f : Nat) (hP : ∀ g, g < f → POK g) : UOK f := by
  intro w pb lb c a0 d Ls k hps hd hf
  have hpbw := hps.bk.lt
  have hlbw := hps.lt
  obtain ⟨i0, hi, hz0, hz1, hz2⟩ := info_parts infoB
  obtain ⟨F, hF⟩ : ∃ F, F = pr f d k (Ls.drop a0) := ⟨_, rfl⟩
  rw [← hF]
  go_enter Try.func58, Try.ntmps58
  go_wp2
  go_loopw [5] (fun v wr => ∃ (acc : PS) (cs : List Value) (a g : Nat), Pts wr w.heap.size 83 acc v cs ∧ Psr wr pb lb c a d Ls ∧ Oth pb w wr ∧ a0 ≤ a ∧ pl acc ≤ a ∧ Hid ((Ls.drop a).length < g ∧ g ≤ f ∧ F = (pr g d k (Ls.drop a)).map fun y => (app acc y.1, y.2.1, y.2.2))) (fun _ wr => 20 - (intOf ((wr.cell? ⟨pb, 1, none⟩).getD undef)).toNat)
  case atStart =>
    refine ⟨.nil, [], a0, f, Pts.nil w _ (Nat.le_refl _), hps.oth ((Oth.refl _ _).alloc _) (hps.bk.alloc _) hps.le, (Oth.refl _ _).alloc _, Nat.le_refl _, Nat.zero_le _, Lib.hid ⟨hf, Nat.le_refl _, ?_⟩⟩
    rw [hF]
    cases pr f d k (Ls.drop a0) with
    | none => rfl
    | some y => rfl
  case round =>
    obtain ⟨acc, cs, a, g, hpt, hpr, ho, h1, h3, hh⟩ := hrel
    have hL := hpr.l17
    have hc := hpr.cap
    have hpl := hpr.bk.lt
    have hll := hpr.lt
    have hwr := ho.size
    have hne := hpr.ne
    have c0 : wr.cell? ⟨pb, 0, none⟩ = some (.slice (some ⟨lb, 0, none⟩) Ls.length c) := hpr.bk.cell 0
    have c1 : wr.cell? ⟨pb, 1, none⟩ = some (.int .i64 a) := hpr.bk.cell 1
    have c2 : wr.cell? ⟨pb, 2, none⟩ = some (.int .i64 d) := hpr.bk.cell 2
    have f1 : wr.frozen? ⟨pb, 1, none⟩ = false := hpr.bk.free 1
    have hw1 := Lib.hid c1
    obtain ⟨hg1, hg2, hF2⟩ := hh.out
    clear hh hF
    by_cases hlt : a < Ls.length
    · obtain ⟨l0, l1, l2, l3⟩ := hpr.ln a hlt
      have hdr := drop_g hlt
      obtain ⟨g', rfl⟩ : ∃ g', g = g' + 1 := ⟨g - 1, by omega⟩
      rw [hdr, List.length_cons] at hg1
      rw [hdr] at hF2
      obtain ⟨l, hl0⟩ : ∃ l, l = Ls.getD a gz := ⟨_, rfl⟩
      rw [← hl0] at l0 l1 l2 l3 hF2
      have hl := Lib.hid hl0
      clear hl0
      clear hdr
      have hi0 : (0 : Int) ≤ (a : Int) := by omega
      have hi1 : (a : Int) < (Ls.length : Int) := by omega
      have hFH := Lib.hid hF2
      clear hF2
      go_wp2
      go_region_held3 (fun w' => w'.cell? ⟨pb, 1, none⟩ = some (.int .i64 a) ∧ w'.cell? ⟨pb, 0, none⟩ = some (.slice (some ⟨lb, 0, none⟩) Ls.length c)) (go_keep) (fail)
      go_wp2
      go_region_held3 (fun w' => (w'.cell? ⟨pb, 1, none⟩ = some (.int .i64 a) ∧ w'.cell? ⟨pb, 0, none⟩ = some (.slice (some ⟨lb, 0, none⟩) Ls.length c)) ∧ w'.cell? ⟨lb, a * 4, none⟩ = some (.int .i64 l.k) ∧ w'.cell? ⟨lb, a * 4 + 1, none⟩ = some (.int .i64 l.a) ∧ w'.cell? ⟨lb, a * 4 + 2, none⟩ = some (.int .i64 l.b) ∧ w'.cell? ⟨lb, a * 4 + 3, none⟩ = some (.int .i64 l.c)) (go_keep) (fail)
      obtain ⟨X, hX⟩ : ∃ X, ((wr.setCell ⟨pb, 1, none⟩ (.int .i64 ((a : Int) + 1))).alloc (.cells #[.int .i64 l.k, .int .i64 l.a, .int .i64 l.b, .int .i64 l.c] 47)).drew.drew = X := ⟨_, rfl⟩
      have hoX : Oth pb wr X := by rw [← hX]; exact (((Oth.refl pb wr).setCell (q := ⟨pb, 1, none⟩) rfl _).alloc _).drew.drew
      have hbX : Bk X pb #[.slice (some ⟨lb, 0, none⟩) Ls.length c, .int .i64 ((a + 1 : Nat) : Int), .int .i64 d] := by rw [← hX]; exact ((hpr.bk.set 1 (.int .i64 ((a : Int) + 1)) (by simp)).alloc _).drew.drew
      have hlX : Bk X wr.heap.size #[.int .i64 l.k, .int .i64 l.a, .int .i64 l.b, .int .i64 l.c] := by rw [← hX]; exact (Bk.new' (wr.setCell ⟨pb, 1, none⟩ (.int .i64 ((a : Int) + 1))) _ _ wr.heap.size (by simp [World.setCell])).drew.drew
      have hpX := hpr.oth hoX hbX hlt
      have hqX := hpt.oth hoX hpbw
      have hsX : X.heap.size = wr.heap.size + 1 := by rw [← hX]; simp [World.setCell]
      go_upto_region 5 with fail
      clear hX
      have hoW := ho.trans hoX
      have c0 := hlX.cell 0
      have c1 := hlX.cell 1
      have c2 := hlX.cell 2
      have c3 := hlX.cell 3
      simp only [List.getElem?_toArray, List.getElem?_cons_zero, List.getElem?_cons_succ] at c0 c1 c2 c3
      clear hpr hpt ho hoX hlX hsX
      have hsW := hoW.size
      by_cases hk : l.k = k
      · have e0 : (l.k == k) = true := beq_iff_eq.2 hk
        have hFe : F = some (acc, l, Ls.drop (a + 1)) := by
          rw [hFH.out, pr, if_pos hk]
          show some (app acc .nil, l, _) = _
          rw [app_nil]
        clear hk hFH
        go_wp2
        go_ret
        rw [hFe]
        exact ⟨hoW, _, a + 1, rfl, hqX.tv, hbX, by omega, hlt, rfl, hl.out⟩
      · have e0 : (l.k == k) = false := beq_eq_false_iff_ne.2 hk
        have hkH := Lib.hid hk
        clear hk
        rcases (show l.k = 5 ∨ l.k = 7 ∨ l.k = 8 ∨ (l.k = 4 ∨ l.k = 6) ∨ ¬ (l.k = 5 ∨ l.k = 7 ∨ l.k = 8 ∨ l.k = 4 ∨ l.k = 6) by omega) with h | h | h | h | h
        · have e5 : (l.k == 5) = true := beq_iff_eq.2 h
          have hFe : F = none := by
            rw [hFH.out, pr, if_neg hkH.out, if_pos (by omega)]
            rfl
          clear h hFH
          go_wp2
          rw [hFe]
          exact ⟨rfl, hoW, rfl, _, _, hbX, Nat.le_refl _, Nat.le_succ _⟩
        · have e7 : (l.k == 7) = true := beq_iff_eq.2 h
          have e5 : (l.k == 5) = false := beq_eq_false_iff_ne.2 (by omega)
          have hFe : F = none := by
            rw [hFH.out, pr, if_neg hkH.out, if_pos (by omega)]
            rfl
          clear h hFH
          go_wp2
          rw [hFe]
          exact ⟨rfl, hoW, rfl, _, _, hbX, Nat.le_refl _, Nat.le_succ _⟩
        · have e8 : (l.k == 8) = true := beq_iff_eq.2 h
          have e5 : (l.k == 5) = false := beq_eq_false_iff_ne.2 (by omega)
          have e7 : (l.k == 7) = false := beq_eq_false_iff_ne.2 (by omega)
          have hFe : F = none := by
            rw [hFH.out, pr, if_neg hkH.out, if_pos (by omega)]
            rfl
          clear h hFH
          go_wp2
          rw [hFe]
          exact ⟨rfl, hoW, rfl, _, _, hbX, Nat.le_refl _, Nat.le_succ _⟩
        · have e5 : (l.k == 5) = false := beq_eq_false_iff_ne.2 (by omega)
          have e7 : (l.k == 7) = false := beq_eq_false_iff_ne.2 (by omega)
          have e8 : (l.k == 8) = false := beq_eq_false_iff_ne.2 (by omega)
          have hpt2 := hP g' (by omega) X pb lb c (a + 1) d Ls l hpX hd (by omega) h
          have hFe := Lib.hid (hFH.out.trans (congrArg (Option.map fun y : PS × Gt × List Gt => (app acc y.1, y.2.1, y.2.2)) (pr_part (f := g') (d := d) (r := Ls.drop (a + 1)) hkH.out h)))
          clear hFH hkH
          rcases h with h | h
          · have e4 : (l.k == 4) = true := beq_iff_eq.2 h
            clear h
            go_wp2_with (go_at_call 71; refine hpt2.mono ?_)
            rintro e W1 ⟨hoP, hm⟩
            rcases hr : prt g' d l (Ls.drop (a + 1)) with _ | y
            · rw [hr] at hm
              obtain ⟨rfl, a9, d9, hb9, hd9⟩ := hm
              have hF0 : F = none := by rw [hFe.out, hr]; rfl
              clear hr hFe
              go_wp2
              rw [hF0]
              exact ⟨rfl, hoW.trans hoP, rfl, _, _, hb9, hd9⟩
            · rw [hr] at hm
              obtain ⟨e1, v1, u1, a1, rfl, ⟨ov, ou⟩, hrc, hp1, hbk1, ha1, ha2, hy⟩ := hm
              have hFn := Lib.hid (hFe.out.trans (by rw [hr, Option.bind_some, hy]))
              clear hr hFe hy
              have hq1 := hqX.oth hoP hpbw
              have hoZ := hoW.trans hoP
              have hsz1 := hoP.size
              have hcr := Lib.hid hrc
              clear hrc
              go_wp2_with (at_builtin; refine wpList_append_own_at _ rfl _ _ 51 rfl w.heap.size 83 i0 (pV gz gz vNil vNil) 10 112 Try.underlying51 hi hz0 hz1 hz2 rfl (by decide) _ _ _ rfl (hq1.own.alloc _) ⟨W1.heap.size, 0, none⟩ 1 1 (lC l ++ (v1 :: u1 :: lC e1)) rfl rfl (cells10_new _ _ _ _ _ _ _ _ _ _ _ _) (by intro u hu; simp at hu; rcases hu with rfl | rfl | rfl | rfl | rfl | rfl | rfl | rfl | rfl | rfl <;> first | rfl | assumption) (by simp [maxLen]; omega) (by omega) (by simp; omega) ?_; intro v' w1 hown' hgrow _ hat)
              have hol : ∀ r, u5.ownBlock = some r → w.heap.size ≤ r := fun r hr => (own_lt hq1.own hr).1
              have hoF := (hoZ.alloc (.cells #[.int .i64 l.k, .int .i64 l.a, .int .i64 l.b, .int .i64 l.c, v1, u1, .int .i64 e1.k, .int .i64 e1.a, .int .i64 e1.b, .int .i64 e1.c] 83)).grown hgrow hol
              have hbF := (hbk1.alloc (.cells #[.int .i64 l.k, .int .i64 l.a, .int .i64 l.b, .int .i64 l.c, v1, u1, .int .i64 e1.k, .int .i64 e1.a, .int .i64 e1.b, .int .i64 e1.c] 83)).grown hgrow (fun e => by have := hol _ e; omega)
              have hcF : w1.cell? ⟨pb, 1, none⟩ = some (.int .i64 a1) := hbF.cell 1
              have hsn := hqX.snoc (w0 := W1.alloc (.cells #[.int .i64 l.k, .int .i64 l.a, .int .i64 l.b, .int .i64 l.c, v1, u1, .int .i64 e1.k, .int .i64 e1.a, .int .i64 e1.b, .int .i64 e1.c] 83)) (w' := w1) (v' := v') (u := y.1) (us := lC l ++ (v1 :: u1 :: lC e1))
                (hcr.out.keep fun b hb => ⟨⟨hb.1, by simp; omega⟩, Below.heap_alloc _ _ _ hb.2⟩) (fun k hk1 hk2 => (Below.heap_alloc _ _ _ (by omega)).trans (hoP.block k hk2 (by omega))) (by simp; omega) hoW.size (by rw [pl_app, hp1]; exact hown') hgrow hat
              go_wp2
              go_roundw
              case rel =>
                refine ⟨app acc y.1, _, a1, g', hsn, hps.oth hoF hbF ha2, hoF, by omega, by rw [pl_app, hp1]; omega, Lib.hid ⟨by rw [List.length_drop] at hg1 ⊢; omega, by omega, ?_⟩⟩
                rw [hFn.out]
                cases pr g' d k (Ls.drop a1) with
                | none => rfl
                | some z => show some (app acc (app y.1 z.1), _) = some (app (app acc y.1) z.1, _); rw [app_assoc]
              case measure => rw [hcF, hw1.out]; simp [intOf]; omega
          · have e4 : (l.k == 4) = false := beq_eq_false_iff_ne.2 (by omega)
            have e6 : (l.k == 6) = true := beq_iff_eq.2 h
            clear h
            go_wp2_with (go_at_call 71; refine hpt2.mono ?_)
            rintro e W1 ⟨hoP, hm⟩
            rcases hr : prt g' d l (Ls.drop (a + 1)) with _ | y
            · rw [hr] at hm
              obtain ⟨rfl, a9, d9, hb9, hd9⟩ := hm
              have hF0 : F = none := by rw [hFe.out, hr]; rfl
              clear hr hFe
              go_wp2
              rw [hF0]
              exact ⟨rfl, hoW.trans hoP, rfl, _, _, hb9, hd9⟩
            · rw [hr] at hm
              obtain ⟨e1, v1, u1, a1, rfl, ⟨ov, ou⟩, hrc, hp1, hbk1, ha1, ha2, hy⟩ := hm
              have hFn := Lib.hid (hFe.out.trans (by rw [hr, Option.bind_some, hy]))
              clear hr hFe hy
              have hq1 := hqX.oth hoP hpbw
              have hoZ := hoW.trans hoP
              have hsz1 := hoP.size
              have hcr := Lib.hid hrc
              clear hrc
              go_wp2_with (at_builtin; refine wpList_append_own_at _ rfl _ _ 51 rfl w.heap.size 83 i0 (pV gz gz vNil vNil) 10 112 Try.underlying51 hi hz0 hz1 hz2 rfl (by decide) _ _ _ rfl (hq1.own.alloc _) ⟨W1.heap.size, 0, none⟩ 1 1 (lC l ++ (v1 :: u1 :: lC e1)) rfl rfl (cells10_new _ _ _ _ _ _ _ _ _ _ _ _) (by intro u hu; simp at hu; rcases hu with rfl | rfl | rfl | rfl | rfl | rfl | rfl | rfl | rfl | rfl <;> first | rfl | assumption) (by simp [maxLen]; omega) (by omega) (by simp; omega) ?_; intro v' w1 hown' hgrow _ hat)
              have hol : ∀ r, u5.ownBlock = some r → w.heap.size ≤ r := fun r hr => (own_lt hq1.own hr).1
              have hoF := (hoZ.alloc (.cells #[.int .i64 l.k, .int .i64 l.a, .int .i64 l.b, .int .i64 l.c, v1, u1, .int .i64 e1.k, .int .i64 e1.a, .int .i64 e1.b, .int .i64 e1.c] 83)).grown hgrow hol
              have hbF := (hbk1.alloc (.cells #[.int .i64 l.k, .int .i64 l.a, .int .i64 l.b, .int .i64 l.c, v1, u1, .int .i64 e1.k, .int .i64 e1.a, .int .i64 e1.b, .int .i64 e1.c] 83)).grown hgrow (fun e => by have := hol _ e; omega)
              have hcF : w1.cell? ⟨pb, 1, none⟩ = some (.int .i64 a1) := hbF.cell 1
              have hsn := hqX.snoc (w0 := W1.alloc (.cells #[.int .i64 l.k, .int .i64 l.a, .int .i64 l.b, .int .i64 l.c, v1, u1, .int .i64 e1.k, .int .i64 e1.a, .int .i64 e1.b, .int .i64 e1.c] 83)) (w' := w1) (v' := v') (u := y.1) (us := lC l ++ (v1 :: u1 :: lC e1))
                (hcr.out.keep fun b hb => ⟨⟨hb.1, by simp; omega⟩, Below.heap_alloc _ _ _ hb.2⟩) (fun k hk1 hk2 => (Below.heap_alloc _ _ _ (by omega)).trans (hoP.block k hk2 (by omega))) (by simp; omega) hoW.size (by rw [pl_app, hp1]; exact hown') hgrow hat
              go_wp2
              go_roundw
              case rel =>
                refine ⟨app acc y.1, _, a1, g', hsn, hps.oth hoF hbF ha2, hoF, by omega, by rw [pl_app, hp1]; omega, Lib.hid ⟨by rw [List.length_drop] at hg1 ⊢; omega, by omega, ?_⟩⟩
                rw [hFn.out]
                cases pr g' d k (Ls.drop a1) with
                | none => rfl
                | some z => show some (app acc (app y.1 z.1), _) = some (app (app acc y.1) z.1, _); rw [app_assoc]
              case measure => rw [hcF, hw1.out]; simp [intOf]; omega
        · have e5 : (l.k == 5) = false := beq_eq_false_iff_ne.2 (by omega)
          have e7 : (l.k == 7) = false := beq_eq_false_iff_ne.2 (by omega)
          have e8 : (l.k == 8) = false := beq_eq_false_iff_ne.2 (by omega)
          have e4 : (l.k == 4) = false := beq_eq_false_iff_ne.2 (by omega)
          have e6 : (l.k == 6) = false := beq_eq_false_iff_ne.2 (by omega)
          have hFm : F = (pr g' d k (Ls.drop (a + 1))).map fun y => (app (app acc (.one l .nil)) y.1, y.2.1, y.2.2) := by
            rw [hFH.out, pr, if_neg hkH.out, if_neg (by omega), if_neg (by omega), if_neg (by omega)]
            cases pr g' d k (Ls.drop (a + 1)) with
            | none => rfl
            | some z => show some (app acc (.one l z.1), _) = some (app (app acc (.one l .nil)) z.1, _); rw [app_assoc]; rfl
          have hFn := Lib.hid hFm
          clear h hFH hkH hFm
          go_wp2_with (at_builtin; refine wpList_append_own_at _ rfl _ _ 51 rfl w.heap.size 83 i0 (pV gz gz vNil vNil) 10 112 Try.underlying51 hi hz0 hz1 hz2 rfl (by decide) _ _ _ rfl (hqX.own.alloc _) ⟨X.heap.size, 0, none⟩ 1 1 (lC l ++ (vNil :: vNil :: lC gz)) rfl rfl (cells10_new _ _ _ _ _ _ _ _ _ _ _ _) (by intro u hu; simp at hu; rcases hu with rfl | rfl | rfl | rfl | rfl | rfl <;> rfl) (by simp [maxLen]; omega) (by omega) (by simp; omega) ?_; intro v' w1 hown' hgrow _ hat)
          have hol : ∀ r, u5.ownBlock = some r → w.heap.size ≤ r := fun r hr => (own_lt hqX.own hr).1
          have hoF := (hoW.alloc (.cells #[.int .i64 l.k, .int .i64 l.a, .int .i64 l.b, .int .i64 l.c, vNil, vNil, .int .i64 0, .int .i64 0, .int .i64 0, .int .i64 0] 83)).grown hgrow hol
          have hbF := (hbX.alloc (.cells #[.int .i64 l.k, .int .i64 l.a, .int .i64 l.b, .int .i64 l.c, vNil, vNil, .int .i64 0, .int .i64 0, .int .i64 0, .int .i64 0] 83)).grown hgrow (fun e => by have := hol _ e; omega)
          have hcF : w1.cell? ⟨pb, 1, none⟩ = some (.int .i64 ((a + 1 : Nat) : Int)) := hbF.cell 1
          have hsn := hqX.snoc (w0 := X.alloc (.cells #[.int .i64 l.k, .int .i64 l.a, .int .i64 l.b, .int .i64 l.c, vNil, vNil, .int .i64 0, .int .i64 0, .int .i64 0, .int .i64 0] 83)) (w' := w1) (v' := v') (u := .one l .nil) (us := lC l ++ (vNil :: vNil :: lC gz))
            ⟨[], rfl, rfl⟩ (fun k hk1 hk2 => Below.heap_alloc _ _ _ hk2) (by simp) hoW.size (by rw [pl_app]; exact hown') hgrow hat
          go_wp2
          go_roundw
          case rel => exact ⟨app acc (.one l .nil), _, a + 1, g', hsn, hps.oth hoF hbF hlt, hoF, by omega, by rw [pl_app]; show pl acc + 1 ≤ a + 1; omega, Lib.hid ⟨by omega, by omega, hFn.out⟩⟩
          case measure => rw [hcF, hw1.out]; simp [intOf]; omega
    · have ha3 : Ls.length ≤ a := by omega
      have hF0 : F = none := by
        rw [hF2, List.drop_of_length_le ha3]
        cases g with
        | zero => rfl
        | succ g => rfl
      clear hF2
      go_wp2
      go_region_held3 (fun w' => w'.cell? ⟨pb, 1, none⟩ = some (.int .i64 a) ∧ w'.cell? ⟨pb, 0, none⟩ = some (.slice (some ⟨lb, 0, none⟩) Ls.length c)) (go_keep) (fail)
      go_wp2
      exact ⟨rfl, ho.drew, rfl, _, _, hpr.bk.drew, Nat.le_refl _, Nat.le_succ _⟩
end Go.Proofs.Ytgjnnlgeggamjaa
