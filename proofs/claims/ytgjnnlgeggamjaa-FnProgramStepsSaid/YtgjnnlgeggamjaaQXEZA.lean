/- TRG: laid into one text. -/
import Derived.Test.YtgjnnlgeggamjaaQXER
import Derived.Test.YtgjnnlgeggamjaaQXEW
import Derived.Test.YtgjnnlgeggamjaaQXEZ
import Derived.RegionTactic

namespace Go.Proofs.Ytgjnnlgeggamjaa
set_option linter.unusedVariables false
set_option linter.unusedSimpArgs false
open Go.RowKit
attribute [local go_sem] Oper.semAt_some
def RP (B : Nat) (w : World) (Y : Option RS) (e : Ending) (w' : World) : Prop := Oth B w w' ∧ match Y with
    | none => e = .returned (.bool false)
    | some y => e = .returned (.bool true) ∧ Bm w' B (mcs y.1 y.2)
def ROK (t : PS) : Prop := ∀ (w : World) (D : Nat → Prop) (B : Nat) (v : Value) (r : List Int) (n : Nat), TV w D t v → (∀ b, D b → b < w.heap.size ∧ b ≠ B) → Bm w B (mcs r n) → rok r → n + Wb t ≤ 1000000000000 → (fl t).length ≤ 1000 → wf t → lkA t →
  Calls Try.prog 66 #[.pointer (some ⟨B, 0, none⟩), v] w (RP B w (rs t (r, n)))
theorem run_none {p : PS} (h : ROK p) {w : World} {D : Nat → Prop} {B : Nat} {v : Value} {r : List Int} {n : Nat} (h1 : TV w D p v) (h2 : ∀ b, D b → b < w.heap.size ∧ b ≠ B) (h3 : Bm w B (mcs r n)) (h4 : rok r) (h5 : n + Wb p ≤ 1000000000000) (h6 : (fl p).length ≤ 1000) (h7 : wf p) (h8 : lkA p) (he : rs p (r, n) = none) :
    Calls Try.prog 66 #[.pointer (some ⟨B, 0, none⟩), v] w fun e w' => e = .returned (.bool false) ∧ Oth B w w' := by
  refine (h w D B v r n h1 h2 h3 h4 h5 h6 h7 h8).mono ?_
  rw [he]
  rintro e w' ⟨ho, h⟩
  exact ⟨h, ho⟩
theorem run_some {p : PS} (h : ROK p) {w : World} {D : Nat → Prop} {B : Nat} {v : Value} {r : List Int} {n : Nat} (h1 : TV w D p v) (h2 : ∀ b, D b → b < w.heap.size ∧ b ≠ B) (h3 : Bm w B (mcs r n)) (h4 : rok r) (h5 : n + Wb p ≤ 1000000000000) (h6 : (fl p).length ≤ 1000) (h7 : wf p) (h8 : lkA p) {y : RS} (he : rs p (r, n) = some y) :
    Calls Try.prog 66 #[.pointer (some ⟨B, 0, none⟩), v] w fun e w' => e = .returned (.bool true) ∧ Oth B w w' ∧ Bm w' B (mcs y.1 y.2) := by
  refine (h w D B v r n h1 h2 h3 h4 h5 h6 h7 h8).mono ?_
  rw [he]
  rintro e w' ⟨ho, h, hb⟩
  exact ⟨h, ho, hb⟩
theorem cells10_of {w wr : World} {b off k : Nat} {ps : List Value} (hc : Cells w b off ps) (hk : wr.heap[b]? = w.heap[b]?) {y0 y1 y2 y3 y4 y5 y6 y7 y8 y9 : Value} (h : (ps.drop (k * 10)).take 10 = [y0, y1, y2, y3, y4, y5, y6, y7, y8, y9]) :
    wr.cell? ⟨b, off + k * 10, none⟩ = some y0 ∧ wr.cell? ⟨b, off + k * 10 + 1, none⟩ = some y1 ∧ wr.cell? ⟨b, off + k * 10 + 2, none⟩ = some y2 ∧ wr.cell? ⟨b, off + k * 10 + 3, none⟩ = some y3 ∧ wr.cell? ⟨b, off + k * 10 + 4, none⟩ = some y4 ∧
    wr.cell? ⟨b, off + k * 10 + 5, none⟩ = some y5 ∧ wr.cell? ⟨b, off + k * 10 + 6, none⟩ = some y6 ∧ wr.cell? ⟨b, off + k * 10 + 7, none⟩ = some y7 ∧ wr.cell? ⟨b, off + k * 10 + 8, none⟩ = some y8 ∧ wr.cell? ⟨b, off + k * 10 + 9, none⟩ = some y9 := by
  have key : ∀ o u, [y0, y1, y2, y3, y4, y5, y6, y7, y8, y9][o]? = some u → wr.cell? ⟨b, off + k * 10 + o, none⟩ = some u := fun o u hu => by
    have ho : o < 10 := by have := (List.getElem?_eq_some_iff.1 hu).1; simpa using this
    rw [← h, List.getElem?_take_of_lt ho, List.getElem?_drop] at hu
    have h2 := hc (k * 10 + o) u hu
    rw [show off + k * 10 + o = off + (k * 10 + o) by omega]
    exact (World.cell?_of_block (a := ⟨b, off + (k * 10 + o), none⟩) hk).trans h2
  exact ⟨key 0 _ rfl, key 1 _ rfl, key 2 _ rfl, key 3 _ rfl, key 4 _ rfl, key 5 _ rfl, key 6 _ rfl, key 7 _ rfl, key 8 _ rfl, key 9 _ rfl⟩
set_option maxRecDepth 100000 in
set_option maxHeartbeats 8000000 in
theorem run_step (t : PS) (IH : ∀ p, (fl p).length < (fl t).length → ROK p) : ROK t := by
  intro w D B v r n hT hD hM hr hn hN hwf hlk
  obtain ⟨A, c, ps, rfl, hrc, hcs⟩ := id hT
  have hpl := pl_fl t
  have hBlt := hM.lt
  obtain ⟨Y, hY⟩ : ∃ Y, RowKit.Hid (rs t (r, n) = Y) := ⟨_, rfl⟩
  rw [hY.out]
  go_enter Try.func66, Try.ntmps66
  go_wp2
  go_loopw [11] (fun i wr => ∃ (k : Nat) (r' : List Int) (n' : Nat), i = .int .i64 (k : Int) ∧ k ≤ pl t ∧ Oth B w wr ∧ Bm wr B (mcs r' n') ∧ rok r' ∧ n' + Wb (sfx t k) ≤ 1000000000000 ∧ RowKit.Hid (rs (sfx t k) (r', n') = Y)) (fun i _ => pl t - (intOf i).toNat)
  case atStart => exact ⟨0, r, n, rfl, Nat.zero_le _, Oth.refl _ _, hM, hr, by rw [sfx_zero]; exact hn, by rw [sfx_zero]; exact hY⟩
  case round =>
    obtain ⟨k, r', n', rfl, hk, hO, hM', hr', hn', hY'⟩ := hrel
    clear hY
    have hl1 : pl t ≤ 1000 := by omega
    by_cases hlt : k < pl t
    · have hlti : (k : Int) < (pl t : Int) := by omega
      obtain ⟨b, off, rfl, hDb, hcc⟩ := hcs (by omega)
      obtain ⟨hb1, hb2⟩ := hD b hDb
      have hkb := hO.block b hb1 hb2
      have hsz := hO.size
      have hBr := hM'.lt
      have hsf := sfx_elt t k hlt
      have hel := elt_len t k
      have hew := elt_wf t k hwf
      have hek := elt_lk k hlk
      have her := elt_rc k hrc hlt
      rcases elt_cases t k hlt with ⟨l, he⟩ | ⟨l, e, p, he⟩ | ⟨l, m, e, p, q, he⟩
      · obtain ⟨c0, c1, c2, c3, c4, c5, c6, c7, c8, c9⟩ := cells10_of (k := k) hcc hkb (elt_one hrc hlt he)
        rw [he] at hsf hew hek
        have hkk := hew.1
        have hlg := (lkA_one hek).1
        have hn4 : ¬ l.k = 4 := by omega
        have hn6 : ¬ l.k = 6 := by omega
        have hn4' : ¬ 4 = l.k := by omega
        have hn6' : ¬ 6 = l.k := by omega
        have hb := bck hew hek (r', n') (do1 l r', n' + 1) hr' rfl
        rw [hsf, app, app, Wb] at hn'
        rw [hsf, app, app, rs] at hY'
        clear her hel hew hek hsf hcc
        obtain ⟨lk, la, lb', lc⟩ := l
        dsimp only at c0 c1 c2 c3 hn4 hn6 hn4' hn6' hkk
        go_upto_region 4 with fail
        obtain ⟨W, hW⟩ : ∃ W, RowKit.Hid (wr.alloc (.cells #[.int .i64 lk, .int .i64 la, .int .i64 lb', .int .i64 lc, vNil, vNil, .int .i64 0, .int .i64 0, .int .i64 0, .int .i64 0] 83) = W) := ⟨_, rfl⟩
        have bX := Bk.new wr #[.int .i64 lk, .int .i64 la, .int .i64 lb', .int .i64 lc, vNil, vNil, .int .i64 0, .int .i64 0, .int .i64 0, .int .i64 0] 83
        have bM := hM'.alloc (.cells #[.int .i64 lk, .int .i64 la, .int .i64 lb', .int .i64 lc, vNil, vNil, .int .i64 0, .int .i64 0, .int .i64 0, .int .i64 0] 83)
        have hOW := hO.alloc (.cells #[.int .i64 lk, .int .i64 la, .int .i64 lb', .int .i64 lc, vNil, vNil, .int .i64 0, .int .i64 0, .int .i64 0, .int .i64 0] 83)
        rw [hW.out] at bX bM hOW ⊢
        clear hW
        have y0 : W.cell? ⟨wr.heap.size, 0, none⟩ = some (.int .i64 lk) := bX.cell 0
        have y1 : W.cell? ⟨wr.heap.size, 1, none⟩ = some (.int .i64 la) := bX.cell 1
        have y2 : W.cell? ⟨wr.heap.size, 2, none⟩ = some (.int .i64 lb') := bX.cell 2
        have y3 : W.cell? ⟨wr.heap.size, 3, none⟩ = some (.int .i64 lc) := bX.cell 3
        have hdo := do_ok ⟨lk, la, lb', lc⟩ hlg hkk r' n' B W hr' (by omega) bM
        go_wp2_with (go_at_call 74; refine hdo.mono ?_; rintro e w2 ⟨rfl, hb2, ho2⟩)
        go_roundw
        case rel => exact ⟨k + 1, _, n' + 1, (by go_num), hlt, hOW.trans ho2, hb2, hb.1, (by omega), hY'⟩
        case measure => simp [intOf]; omega
      · obtain ⟨A1, c1, hcell, hTp⟩ := elt_rep hrc hlt he
        obtain ⟨c0, c1', c2, c3, c4, c5, c6, c7, c8, c9⟩ := cells10_of (k := k) hcc hkb hcell
        rw [he] at hsf hew hek hel
        obtain ⟨g1, g2, g3, g4⟩ := lkA_rep hek
        obtain ⟨hk4, hwp, _⟩ := hew
        have hlc : 0 ≤ l.c ∧ l.c ≤ 3 := by have := lk_cases g1; omega
        have hpl2 : (fl p).length < (fl t).length := by
          rw [fl, List.length_cons, List.length_append, List.length_cons] at hel; omega
        have hRp := IH p hpl2
        have hp1000 : (fl p).length ≤ 1000 := by omega
        rw [hsf, app, app, Wb] at hn'
        rw [hsf, app, app, rs] at hY'
        obtain ⟨S, hS⟩ : ∃ S, S = sfx t (k + 1) := ⟨_, rfl⟩
        rw [← hS] at hn' hY'
        obtain ⟨lk, la, lb', lc⟩ := l
        obtain ⟨cn, rfl⟩ : ∃ cn : Nat, lc = (cn : Int) := ⟨lc.toNat, by dsimp only at hlc; omega⟩
        dsimp only at c0 c1' c2 c3 hk4 hlc hY'
        obtain ⟨rfl, h55⟩ := hk4
        clear h55
        rw [Int.toNat_natCast] at hY'
        clear her hel hek hsf hcc hcell he g1 g3 g4 hrc
        go_upto_region 4 with fail
        have bX := Bk.new wr #[.int .i64 4, .int .i64 la, .int .i64 lb', .int .i64 (cn : Int), .slice A1 (pl p) c1, vNil, .int .i64 e.k, .int .i64 e.a, .int .i64 e.b, .int .i64 e.c] 83
        have bM := hM'.alloc (.cells #[.int .i64 4, .int .i64 la, .int .i64 lb', .int .i64 (cn : Int), .slice A1 (pl p) c1, vNil, .int .i64 e.k, .int .i64 e.a, .int .i64 e.b, .int .i64 e.c] 83)
        have hOW := hO.alloc (.cells #[.int .i64 4, .int .i64 la, .int .i64 lb', .int .i64 (cn : Int), .slice A1 (pl p) c1, vNil, .int .i64 e.k, .int .i64 e.a, .int .i64 e.b, .int .i64 e.c] 83)
        obtain ⟨W, hW⟩ : ∃ W, RowKit.Hid (wr.alloc (.cells #[.int .i64 4, .int .i64 la, .int .i64 lb', .int .i64 (cn : Int), .slice A1 (pl p) c1, vNil, .int .i64 e.k, .int .i64 e.a, .int .i64 e.b, .int .i64 e.c] 83) = W) := ⟨_, rfl⟩
        rw [hW.out] at bX bM hOW ⊢
        clear hW
        obtain ⟨X0, hX0⟩ : ∃ X0, wr.heap.size = X0 := ⟨_, rfl⟩
        rw [hX0] at bX hsz hBr ⊢
        clear hX0
        have y0 : W.cell? ⟨X0, 0, none⟩ = some (.int .i64 4) := bX.cell 0
        have y3 : W.cell? ⟨X0, 3, none⟩ = some (.int .i64 (cn : Int)) := bX.cell 3
        have hXB : X0 ≠ B := by omega
        go_wp2
        go_loopw [27] (fun i wY => ∃ (m : Nat) (r2 : List Int) (n2 : Nat), i = .int .i64 (m : Int) ∧ m ≤ cn ∧ Oth B w wY ∧ X0 < wY.heap.size ∧ Bm wY B (mcs r2 n2) ∧ Bk wY X0 #[.int .i64 4, .int .i64 la, .int .i64 lb', .int .i64 (cn : Int), .slice A1 (pl p) c1, vNil, .int .i64 e.k, .int .i64 e.a, .int .i64 e.b, .int .i64 e.c] ∧ rok r2 ∧ n2 + (cn - m) * Wb p + Wb S ≤ 1000000000000 ∧ RowKit.Hid ((itO (rs p) (cn - m) (r2, n2)).bind (rs S) = Y)) (fun i _ => cn - (intOf i).toNat)
        case atStart => exact ⟨0, r', n', rfl, Nat.zero_le _, hOW, bX.lt, bM, bX, hr', by have : (cn - 0) * Wb p ≤ 3 * Wb p := Nat.mul_le_mul_right _ (by omega); omega, hY'⟩
        case round =>
          clear y0 y3 bM bX hOW hY'
          obtain ⟨m, r2, n2, rfl, hm, hO2, hsX, hM2, bX2, hr2, hn2, hY2⟩ := hrel
          by_cases hlt2 : m < cn
          · have hlt2i : (m : Int) < (cn : Int) := by omega
            have y4 : wr.cell? ⟨X0, 4, none⟩ = some (.slice A1 (pl p) c1) := bX2.cell 4
            have hTx : TV wr D p (.slice A1 (pl p) c1) := hTp.keep fun b hb => ⟨hb, hO2.block b (hD b hb).1 (hD b hb).2⟩
            have hDx : ∀ b, D b → b < wr.heap.size ∧ b ≠ B := fun b hb => ⟨by have := (hD b hb).1; omega, (hD b hb).2⟩
            obtain ⟨j, hj⟩ : ∃ j, cn - m = j + 1 := ⟨cn - m - 1, by omega⟩
            rw [hj, Nat.succ_mul] at hn2
            rw [hj, itO] at hY2
            have hj2 : cn - (m + 1) = j := by omega
            have hbd : n2 + Wb p ≤ 1000000000000 := by
              generalize j * Wb p = z at hn2; omega
            cases hres : rs p (r2, n2) with
            | none =>
              have hcall := run_none hRp hTx hDx hM2 hr2 hbd hp1000 hwp g2 hres
              rw [hres] at hY2
              have hYY : none = Y := hY2.out
              subst hYY
              clear hres hY2
              go_wp2_with (go_at_call 66; refine hcall.mono ?_; rintro e w3 ⟨rfl, ho3⟩)
              exact ⟨rfl, _, results_tmp rfl _ _ _, hO2.trans ho3, rfl⟩
            | some y =>
              have hcall := run_some hRp hTx hDx hM2 hr2 hbd hp1000 hwp g2 hres
              have hb1 := (bck hwp g2 (r2, n2) y hr2 hres).1
              have hb2 := rs_bd p hwp g2 (r2, n2) y hres
              rw [hres] at hY2
              clear hres
              go_wp2_with (go_at_call 66; refine hcall.mono ?_; rintro e w3 ⟨rfl, ho3, hb3⟩)
              go_roundw
              case rel => exact ⟨m + 1, y.1, y.2, (by go_num), hlt2, hO2.trans ho3, Nat.lt_of_lt_of_le hsX ho3.size, hb3, bX2.oth ho3 hXB, hb1, (by rw [hj2]; generalize j * Wb p = z at hn2 ⊢; omega), (by rw [hj2]; exact hY2)⟩
              case measure => simp [intOf]; omega
          · obtain rfl : m = cn := by omega
            have hnlt2 : ¬ ((m : Nat) : Int) < (m : Int) := by omega
            go_wp2
            go_roundw
            case rel => exact ⟨k + 1, r2, n2, (by go_num), hlt, hO2, hM2, hr2, (by rw [← hS]; omega), (by rw [← hS]; rw [Nat.sub_self] at hY2; exact hY2)⟩
            case measure => simp [intOf]; omega
      · obtain ⟨A1, c1, A2, c2', hcell, hTp, hTq⟩ := elt_iff hrc hlt he
        obtain ⟨c0, c1', c2, c3, c4, c5, c6, c7, c8, c9⟩ := cells10_of (k := k) hcc hkb hcell
        rw [he] at hsf hew hek hel
        obtain ⟨g1, g2, g3, g4, g5, g6⟩ := lkA_iff hek
        obtain ⟨hk6, hwp, hwq, _⟩ := hew
        have hla : 0 ≤ l.a ∧ l.a ≤ 3 := by have := lk_cases g1; omega
        have hea : 0 ≤ e.a ∧ e.a ≤ 3 := by have := lk_cases g5; omega
        rw [fl, List.length_cons, List.length_append, List.length_cons, List.length_append, List.length_cons] at hel
        have hRp := IH p (by omega)
        have hRq := IH q (by omega)
        have hp1000 : (fl p).length ≤ 1000 := by omega
        have hq1000 : (fl q).length ≤ 1000 := by omega
        rw [hsf, app, app, Wb] at hn'
        rw [hsf, app, app, rs] at hY'
        obtain ⟨S, hS⟩ : ∃ S, S = sfx t (k + 1) := ⟨_, rfl⟩
        rw [← hS] at hn' hY'
        obtain ⟨lk, la, lb', lc⟩ := l
        obtain ⟨ek, ea, eb, ec⟩ := e
        dsimp only at c0 c1' c2 c3 c6 c7 c8 c9 hk6 hla hea hY'
        obtain ⟨i, rfl⟩ : ∃ i : Nat, la = (i : Int) := ⟨la.toNat, by omega⟩
        obtain ⟨j, rfl⟩ : ∃ j : Nat, ea = (j : Int) := ⟨ea.toNat, by omega⟩
        obtain ⟨rfl, h77, h88⟩ := hk6
        clear h77 h88
        obtain ⟨x, hx⟩ : ∃ x, rg r' (i : Int) = x := ⟨_, rfl⟩
        rw [hx] at hY'
        clear her hel hek hsf hcc hcell he g1 g3 g5 g6 hrc
        go_upto_region 4 with fail
        have bX := Bk.new wr #[.int .i64 6, .int .i64 (i : Int), .int .i64 lb', .int .i64 lc, .slice A1 (pl p) c1, .slice A2 (pl q) c2', .int .i64 ek, .int .i64 (j : Int), .int .i64 eb, .int .i64 ec] 83
        have bM := hM'.alloc (.cells #[.int .i64 6, .int .i64 (i : Int), .int .i64 lb', .int .i64 lc, .slice A1 (pl p) c1, .slice A2 (pl q) c2', .int .i64 ek, .int .i64 (j : Int), .int .i64 eb, .int .i64 ec] 83)
        have hOW := hO.alloc (.cells #[.int .i64 6, .int .i64 (i : Int), .int .i64 lb', .int .i64 lc, .slice A1 (pl p) c1, .slice A2 (pl q) c2', .int .i64 ek, .int .i64 (j : Int), .int .i64 eb, .int .i64 ec] 83)
        obtain ⟨W, hW⟩ : ∃ W, RowKit.Hid (wr.alloc (.cells #[.int .i64 6, .int .i64 (i : Int), .int .i64 lb', .int .i64 lc, .slice A1 (pl p) c1, .slice A2 (pl q) c2', .int .i64 ek, .int .i64 (j : Int), .int .i64 eb, .int .i64 ec] 83) = W) := ⟨_, rfl⟩
        rw [hW.out] at bX bM hOW ⊢
        clear hW
        have hXB : wr.heap.size ≠ B := by omega
        obtain ⟨X0, hX0⟩ : ∃ X0, wr.heap.size = X0 := ⟨_, rfl⟩
        rw [hX0] at bX hsz hBr hXB ⊢
        clear hX0
        have hXW := bX.lt
        have y0 : W.cell? ⟨X0, 0, none⟩ = some (.int .i64 6) := bX.cell 0
        have y1 : W.cell? ⟨X0, 1, none⟩ = some (.int .i64 (i : Int)) := bX.cell 1
        have y3 : W.cell? ⟨X0, 3, none⟩ = some (.int .i64 lc) := bX.cell 3
        have z1 : W.cell? ⟨B, i, none⟩ = some (.int .i64 x) := (bM.cell i).trans ((mcs_at i (by have := hr'.1; omega)).trans (by rw [← hx]; rfl))
        have i1 : (0 : Int) ≤ (i : Int) := by omega
        have i2 : (i : Int) < 4 := by omega
        have j1 : (0 : Int) ≤ (j : Int) := by omega
        have j2 : (j : Int) < 4 := by omega
        clear hx
        go_upto_region 13 with fail
        go_region
        have bX := bX.drew
        have bM := bM.drew
        have hOW := hOW.drew
        have hXW := bX.lt
        clear y0 y1 y3 z1
        generalize W.drew = W1 at bX bM hOW hXW ⊢
        have y4 : W1.cell? ⟨X0, 4, none⟩ = some (.slice A1 (pl p) c1) := bX.cell 4
        have y5 : W1.cell? ⟨X0, 5, none⟩ = some (.slice A2 (pl q) c2') := bX.cell 5
        have bX := bX.drew
        have bM := bM.drew
        have hOW := hOW.drew
        have hXW := bX.lt
        have hDx : ∀ b, D b → b < W1.drew.heap.size ∧ b ≠ B := fun b hb => ⟨by have := (hD b hb).1; have := hOW.size; omega, (hD b hb).2⟩
        have hTp' : TV W1.drew D p (.slice A1 (pl p) c1) := hTp.keep fun b hb => ⟨hb, hOW.block b (hD b hb).1 (hD b hb).2⟩
        have hTq' : TV W1.drew D q (.slice A2 (pl q) c2') := hTq.keep fun b hb => ⟨hb, hOW.block b (hD b hb).1 (hD b hb).2⟩
        generalize (x == lc) = bb at hY' ⊢
        cases bb with
        | false =>
          rw [if_neg (by decide)] at hY'
          have hbd : n' + Wb q ≤ 1000000000000 := by omega
          cases hres : rs q (r', n') with
          | none =>
            have hcall := run_none hRq hTq' hDx bM hr' hbd hq1000 hwq g4 hres
            rw [hres] at hY'
            have hYY : none = Y := hY'.out
            subst hYY
            clear hres hY'
            go_upto_region 17 with fail
            obtain ⟨EV, hEV⟩ : ∃ EV : List Value, EV = [(.pointer (some ⟨B, 0, none⟩)), ((.slice A2 (pl q) c2')), .bool false, .bool true, .bool true, undef, undef, undef, undef, undef, undef, undef, undef, undef, undef, undef, undef, undef, undef, .bool true] := ⟨_, rfl⟩
            refine (wpIn_wide (n := 0)).1 ?_
            refine og_regionG (fx := [(0, .pointer (some ⟨B, 0, none⟩)), (1, .slice (some ⟨b, off, none⟩) (pl t) c), (2, undef), (3, undef), (5, undef), (6, .pointer (some ⟨X0, 0, none⟩)), (7, .bool false), (8, (.slice A2 (pl q) c2')), (9, .slice (some ⟨b, off, none⟩) (pl t) c), (10, .int .i64 (pl t : Int)), (11, .int .i64 (k : Int))]) (M := MD EV 2 W1.drew (fun w' => Oth B W1.drew w')) mixed (by kernel_rfl) rfl rfl ?_ MD.start ?_ ?_
            · intro p' hp'
              simp at hp'
              rcases hp' with rfl | rfl | rfl | rfl | rfl | rfl | rfl | rfl | rfl | rfl | rfl <;> rfl
            · intro f i0 o a w' v ho hfi hdep hcl hdf hfx hev hM
              have rd : ∀ j d, f j = true → dsO _ j = some d → a.eval (.tmp d) = EV.getD j undef := fun j d h1 h2 => (hev j d h1 h2).trans (hM.v j h1)
              rw [hEV] at rd hM ⊢
              have a0 := hfx (0, .pointer (some ⟨B, 0, none⟩)) (by simp)
              have a6 := hfx (6, .pointer (some ⟨X0, 0, none⟩)) (by simp)
              have a7 := hfx (7, .bool false) (by simp)
              have a8 := hfx (8, (.slice A2 (pl q) c2')) (by simp)
              rcases i0 with _ | _ | _ | _ | _ | _ | _ | _ | _ | _ | _ | _ | _ | _ | _ | _ | _ | _ | _ | _ | i0
              · cases ho; exact og_run rfl rfl (og_val (fun _ => trivial) (by intro c h; cases h) (q_move rfl a0) ⟨_, rfl, hM.step (by decide) rfl⟩)
              · cases ho; exact og_run rfl rfl (og_val (fun _ => trivial) (by intro c h; cases h) (q_move rfl a8) ⟨_, rfl, hM.step (by decide) rfl⟩)
              · cases ho
                have d0 := rd 0 54 (hdep ⟨0, .data⟩ (by simp) rfl) rfl
                have d1 := rd 1 55 (hdep ⟨1, .data⟩ (by simp) rfl) rfl
                have hw := hM.n hfi
                subst hw
                refine og_run rfl rfl (og_call (fun _ => trivial) rfl (by intro c h; cases h) (q_run rfl d0 d1) ?_)
                refine (callsIn_wide.2 hcall).mono ?_
                rintro e w2 ⟨rfl, ho3⟩
                exact ⟨_, rfl, _, rfl, hM.call ho3 rfl⟩
              · cases ho
                have d2 := rd 2 56 (hdep ⟨2, .data⟩ (by simp) rfl) rfl
                exact og_run rfl rfl (og_val (fun _ => trivial) (by intro c h; cases h) (q_not rfl d2) ⟨_, rfl, hM.step (by decide) rfl⟩)
              · cases ho
                have d3 := rd 3 57 (hdep ⟨3, .data⟩ (by simp) rfl) rfl
                exact og_run rfl rfl (og_val (fun _ => trivial) (by intro c h; cases h) (q_move rfl d3) ⟨_, rfl, hM.step (by decide) rfl⟩)
              · cases ho
                have h4 := hdep ⟨4, .guard⟩ (by simp) rfl
                have g4 := rd 4 58 h4 rfl
                exact og_off (fun _ => trivial) rfl rfl rfl g4 (by decide) ⟨_, rfl, hM.step (by decide) rfl⟩
              · cases ho
                have h4 := hdep ⟨4, .guard⟩ (by simp) rfl
                have g4 := rd 4 58 h4 rfl
                exact og_off (fun _ => trivial) rfl rfl rfl g4 (by decide) ⟨_, rfl, hM.step (by decide) rfl⟩
              · cases ho
                have h4 := hdep ⟨4, .guard⟩ (by simp) rfl
                have g4 := rd 4 58 h4 rfl
                exact og_off (fun _ => trivial) rfl rfl rfl g4 (by decide) ⟨_, rfl, hM.step (by decide) rfl⟩
              · cases ho
                have h4 := hdep ⟨4, .guard⟩ (by simp) rfl
                have g4 := rd 4 58 h4 rfl
                exact og_off (fun _ => trivial) rfl rfl rfl g4 (by decide) ⟨_, rfl, hM.step (by decide) rfl⟩
              · cases ho
                have h4 := hdep ⟨4, .guard⟩ (by simp) rfl
                have g4 := rd 4 58 h4 rfl
                exact og_off (fun _ => trivial) rfl rfl rfl g4 (by decide) ⟨_, rfl, hM.step (by decide) rfl⟩
              · cases ho
                have h4 := hdep ⟨4, .guard⟩ (by simp) rfl
                have g4 := rd 4 58 h4 rfl
                exact og_off (fun _ => trivial) rfl rfl rfl g4 (by decide) ⟨_, rfl, hM.step (by decide) rfl⟩
              · cases ho
                have h4 := hdep ⟨4, .guard⟩ (by simp) rfl
                have g4 := rd 4 58 h4 rfl
                exact og_off (fun _ => trivial) rfl rfl rfl g4 (by decide) ⟨_, rfl, hM.step (by decide) rfl⟩
              · cases ho
                have h4 := hdep ⟨4, .guard⟩ (by simp) rfl
                have g4 := rd 4 58 h4 rfl
                exact og_off (fun _ => trivial) rfl rfl rfl g4 (by decide) ⟨_, rfl, hM.step (by decide) rfl⟩
              · cases ho
                have h4 := hdep ⟨4, .guard⟩ (by simp) rfl
                have g4 := rd 4 58 h4 rfl
                exact og_off (fun _ => trivial) rfl rfl rfl g4 (by decide) ⟨_, rfl, hM.step (by decide) rfl⟩
              · cases ho
                have h4 := hdep ⟨4, .guard⟩ (by simp) rfl
                have g4 := rd 4 58 h4 rfl
                exact og_off (fun _ => trivial) rfl rfl rfl g4 (by decide) ⟨_, rfl, hM.step (by decide) rfl⟩
              · cases ho
                have h4 := hdep ⟨4, .guard⟩ (by simp) rfl
                have g4 := rd 4 58 h4 rfl
                exact og_off (fun _ => trivial) rfl rfl rfl g4 (by decide) ⟨_, rfl, hM.step (by decide) rfl⟩
              · cases ho
                have h4 := hdep ⟨4, .guard⟩ (by simp) rfl
                have g4 := rd 4 58 h4 rfl
                exact og_off (fun _ => trivial) rfl rfl rfl g4 (by decide) ⟨_, rfl, hM.step (by decide) rfl⟩
              · cases ho
                have h4 := hdep ⟨4, .guard⟩ (by simp) rfl
                have g4 := rd 4 58 h4 rfl
                exact og_off (fun _ => trivial) rfl rfl rfl g4 (by decide) ⟨_, rfl, hM.step (by decide) rfl⟩
              · cases ho
                have h4 := hdep ⟨4, .guard⟩ (by simp) rfl
                have g4 := rd 4 58 h4 rfl
                exact og_off (fun _ => trivial) rfl rfl rfl g4 (by decide) ⟨_, rfl, hM.step (by decide) rfl⟩
              · cases ho
                have g4 := rd 4 58 (hdep ⟨4, .data⟩ (by simp) rfl) rfl
                exact og_run rfl rfl (og_val (fun _ => trivial) (by intro c h; cases h) (q_pkT rfl g4) ⟨_, rfl, hM.step (by decide) rfl⟩)
              · cases ho
            · intro f a' w' v hall hdf hsz hfx hev hM
              have a73 := (hev 19 73 (hall 19 (by decide)) rfl).trans (hM.v 19 (hall 19 (by decide)))
              have hq := hM.y (hall 2 (by decide))
              rw [hEV] at a73
              clear hM hev hEV
              obtain ⟨s0, s1, s2, s3, s4, s5, s6, s7, s8, s9, s10, s11, s12, s13, s14, s15, s16, s17, s18, s19, s20, s21, s22, s23, s24, s25, s26, s27, s28, s29, s30, s31, s32, s33, s34, s35, s36, s37, s38, s39, s40, s41, s42, s43, s44, s45, s46, s47, s48, s49, s50, s51, s52, s53, s54, s55, s56, s57, s58, s59, s60, s61, s62, s63, s64, s65, s66, s67, s68, s69, s70, s71, s72, s73, s74, rfl⟩ := tmps75 hsz hdf
              have b0 : s0 = .pointer (some ⟨B, 0, none⟩) := hfx (0, .pointer (some ⟨B, 0, none⟩)) (by simp)
              have b1 : s1 = .slice (some ⟨b, off, none⟩) (pl t) c := hfx (1, .slice (some ⟨b, off, none⟩) (pl t) c) (by simp)
              have b2 : s2 = undef := hfx (2, undef) (by simp)
              have b3 : s3 = undef := hfx (3, undef) (by simp)
              have b5 : s5 = undef := hfx (5, undef) (by simp)
              have b9 : s9 = .slice (some ⟨b, off, none⟩) (pl t) c := hfx (9, .slice (some ⟨b, off, none⟩) (pl t) c) (by simp)
              have b10 : s10 = .int .i64 (pl t : Int) := hfx (10, .int .i64 (pl t : Int)) (by simp)
              have b11 : s11 = .int .i64 (k : Int) := hfx (11, .int .i64 (k : Int)) (by simp)
              clear hfx hall
              have b73 : s73 = .bool true := a73
              clear a73
              subst b0 b1 b2 b3 b5 b9 b10 b11 b73
              go_wp2
              exact ⟨rfl, _, results_tmp rfl _ _ _, hOW.trans hq, rfl⟩
          | some y =>
            have hcall := run_some hRq hTq' hDx bM hr' hbd hq1000 hwq g4 hres
            have hb1 := (bck hwq g4 (r', n') y hr' hres).1
            have hb2 := rs_bd q hwq g4 (r', n') y hres
            rw [hres] at hY'
            clear hres
            go_upto_region 17 with fail
            obtain ⟨EV, hEV⟩ : ∃ EV : List Value, EV = [(.pointer (some ⟨B, 0, none⟩)), ((.slice A2 (pl q) c2')), .bool true, .bool false, .bool false, .pointer (some ⟨B, 0, none⟩), .pointer (some ⟨X0, 6, none⟩), .pointer (some ⟨X0, 7, none⟩), .int .i64 (j : Int), .pointer (some ⟨B, 0, none⟩), .pointer (some ⟨B, 0, none⟩), .pointer (some ⟨B, j, none⟩), .int .i64 (rg y.1 (j : Int)), .pointer (some ⟨X0, 6, none⟩), .pointer (some ⟨X0, 9, none⟩), .int .i64 ec, .bool (rg y.1 (j : Int) == ec), .bool false, .bool ((rg y.1 (j : Int) == ec) == false), .bool ((rg y.1 (j : Int) == ec) == false)] := ⟨_, rfl⟩
            refine (wpIn_wide (n := 0)).1 ?_
            refine og_regionG (fx := [(0, .pointer (some ⟨B, 0, none⟩)), (1, .slice (some ⟨b, off, none⟩) (pl t) c), (2, undef), (3, undef), (5, undef), (6, .pointer (some ⟨X0, 0, none⟩)), (7, .bool false), (8, (.slice A2 (pl q) c2')), (9, .slice (some ⟨b, off, none⟩) (pl t) c), (10, .int .i64 (pl t : Int)), (11, .int .i64 (k : Int))]) (M := MD EV 2 W1.drew (fun w' => Oth B W1.drew w' ∧ Bm w' B (mcs y.1 y.2) ∧ Bk w' X0 #[.int .i64 6, .int .i64 (i : Int), .int .i64 lb', .int .i64 lc, .slice A1 (pl p) c1, .slice A2 (pl q) c2', .int .i64 ek, .int .i64 (j : Int), .int .i64 eb, .int .i64 ec])) mixed (by kernel_rfl) rfl rfl ?_ MD.start ?_ ?_
            · intro p' hp'
              simp at hp'
              rcases hp' with rfl | rfl | rfl | rfl | rfl | rfl | rfl | rfl | rfl | rfl | rfl <;> rfl
            · intro f i0 o a w' v ho hfi hdep hcl hdf hfx hev hM
              have rd : ∀ j d, f j = true → dsO _ j = some d → a.eval (.tmp d) = EV.getD j undef := fun j d h1 h2 => (hev j d h1 h2).trans (hM.v j h1)
              rw [hEV] at rd hM ⊢
              have a0 := hfx (0, .pointer (some ⟨B, 0, none⟩)) (by simp)
              have a6 := hfx (6, .pointer (some ⟨X0, 0, none⟩)) (by simp)
              have a7 := hfx (7, .bool false) (by simp)
              have a8 := hfx (8, (.slice A2 (pl q) c2')) (by simp)
              rcases i0 with _ | _ | _ | _ | _ | _ | _ | _ | _ | _ | _ | _ | _ | _ | _ | _ | _ | _ | _ | _ | i0
              · cases ho; exact og_run rfl rfl (og_val (fun _ => trivial) (by intro c h; cases h) (q_move rfl a0) ⟨_, rfl, hM.step (by decide) rfl⟩)
              · cases ho; exact og_run rfl rfl (og_val (fun _ => trivial) (by intro c h; cases h) (q_move rfl a8) ⟨_, rfl, hM.step (by decide) rfl⟩)
              · cases ho
                have d0 := rd 0 54 (hdep ⟨0, .data⟩ (by simp) rfl) rfl
                have d1 := rd 1 55 (hdep ⟨1, .data⟩ (by simp) rfl) rfl
                have hw := hM.n hfi
                subst hw
                refine og_run rfl rfl (og_call (fun _ => trivial) rfl (by intro c h; cases h) (q_run rfl d0 d1) ?_)
                refine (callsIn_wide.2 hcall).mono ?_
                rintro e w2 ⟨rfl, ho3, hb3⟩
                exact ⟨_, rfl, _, rfl, hM.call ⟨ho3, hb3, bX.oth ho3 hXB⟩ rfl⟩
              · cases ho
                have d2 := rd 2 56 (hdep ⟨2, .data⟩ (by simp) rfl) rfl
                exact og_run rfl rfl (og_val (fun _ => trivial) (by intro c h; cases h) (q_not rfl d2) ⟨_, rfl, hM.step (by decide) rfl⟩)
              · cases ho
                have d3 := rd 3 57 (hdep ⟨3, .data⟩ (by simp) rfl) rfl
                exact og_run rfl rfl (og_val (fun _ => trivial) (by intro c h; cases h) (q_move rfl d3) ⟨_, rfl, hM.step (by decide) rfl⟩)
              · cases ho
                have h4 := hdep ⟨4, .guard⟩ (by simp) rfl
                have g4 := rd 4 58 h4 rfl
                exact og_grd rfl rfl rfl g4 (og_val (fun _ => trivial) (by intro c h; cases h) (q_move rfl a0) ⟨_, rfl, hM.step (by decide) rfl⟩)
              · cases ho
                have h4 := hdep ⟨4, .guard⟩ (by simp) rfl
                have g4 := rd 4 58 h4 rfl
                exact og_grd rfl rfl rfl g4 (og_val (fun _ => trivial) (by intro c h; cases h) (ro_f3 rfl a6) ⟨_, rfl, hM.step (by decide) rfl⟩)
              · cases ho
                have h4 := hdep ⟨4, .guard⟩ (by simp) rfl
                have g4 := rd 4 58 h4 rfl
                have d6 := rd 6 60 (hdep ⟨6, .data⟩ (by simp) rfl) rfl
                exact og_grd rfl rfl rfl g4 (og_val (fun _ => trivial) (by intro c h; cases h) (q_l1 rfl d6) ⟨_, rfl, hM.step (by decide) rfl⟩)
              · cases ho
                have h4 := hdep ⟨4, .guard⟩ (by simp) rfl
                have g4 := rd 4 58 h4 rfl
                have d7 := rd 7 61 (hdep ⟨7, .data⟩ (by simp) rfl) rfl
                have h3 := hcl 4 _ rfl h4 ⟨3, .data⟩ (by simp) rfl
                have h2 := hcl 3 _ rfl h3 ⟨2, .data⟩ (by simp) rfl
                obtain ⟨_, qB, qX⟩ := hM.y h2
                have x7 : w'.cell? ⟨X0, 7, none⟩ = some (.int .i64 (j : Int)) := qX.cell 7
                exact og_grd rfl rfl rfl g4 (og_val (fun _ => trivial) (by intro c h; cases h) (q_ld rfl d7 x7) ⟨_, rfl, hM.step (by decide) rfl⟩)
              · cases ho
                have h4 := hdep ⟨4, .guard⟩ (by simp) rfl
                have g4 := rd 4 58 h4 rfl
                have d5 := rd 5 59 (hdep ⟨5, .data⟩ (by simp) rfl) rfl
                exact og_grd rfl rfl rfl g4 (og_val (fun _ => trivial) (by intro c h; cases h) (q_nil rfl d5) ⟨_, rfl, hM.step (by decide) rfl⟩)
              · cases ho
                have h4 := hdep ⟨4, .guard⟩ (by simp) rfl
                have g4 := rd 4 58 h4 rfl
                have d9 := rd 9 63 (hdep ⟨9, .data⟩ (by simp) rfl) rfl
                exact og_grd rfl rfl rfl g4 (og_val (fun _ => trivial) (by intro c h; cases h) (q_m0 rfl d9) ⟨_, rfl, hM.step (by decide) rfl⟩)
              · cases ho
                have h4 := hdep ⟨4, .guard⟩ (by simp) rfl
                have g4 := rd 4 58 h4 rfl
                have d10 := rd 10 64 (hdep ⟨10, .data⟩ (by simp) rfl) rfl
                have d8 := rd 8 62 (hdep ⟨8, .data⟩ (by simp) rfl) rfl
                exact og_grd rfl rfl rfl g4 (og_val (fun _ => trivial) (by intro c h; cases h) (q_ix (by omega) rfl d10 d8) ⟨_, rfl, hM.step (by decide) rfl⟩)
              · cases ho
                have h4 := hdep ⟨4, .guard⟩ (by simp) rfl
                have g4 := rd 4 58 h4 rfl
                have d11 := rd 11 65 (hdep ⟨11, .data⟩ (by simp) rfl) rfl
                have h3 := hcl 4 _ rfl h4 ⟨3, .data⟩ (by simp) rfl
                have h2 := hcl 3 _ rfl h3 ⟨2, .data⟩ (by simp) rfl
                obtain ⟨_, qB, qX⟩ := hM.y h2
                have xB : w'.cell? ⟨B, j, none⟩ = some (.int .i64 (rg y.1 (j : Int))) := (qB.cell j).trans (mcs_at j (by have := hb1.1; omega))
                exact og_grd rfl rfl rfl g4 (og_val (fun _ => trivial) (by intro c h; cases h) (q_ld rfl d11 xB) ⟨_, rfl, hM.step (by decide) rfl⟩)
              · cases ho
                have h4 := hdep ⟨4, .guard⟩ (by simp) rfl
                have g4 := rd 4 58 h4 rfl
                exact og_grd rfl rfl rfl g4 (og_val (fun _ => trivial) (by intro c h; cases h) (ro_f3 rfl a6) ⟨_, rfl, hM.step (by decide) rfl⟩)
              · cases ho
                have h4 := hdep ⟨4, .guard⟩ (by simp) rfl
                have g4 := rd 4 58 h4 rfl
                have d13 := rd 13 67 (hdep ⟨13, .data⟩ (by simp) rfl) rfl
                exact og_grd rfl rfl rfl g4 (og_val (fun _ => trivial) (by intro c h; cases h) (q_l3 rfl d13) ⟨_, rfl, hM.step (by decide) rfl⟩)
              · cases ho
                have h4 := hdep ⟨4, .guard⟩ (by simp) rfl
                have g4 := rd 4 58 h4 rfl
                have d14 := rd 14 68 (hdep ⟨14, .data⟩ (by simp) rfl) rfl
                have h3 := hcl 4 _ rfl h4 ⟨3, .data⟩ (by simp) rfl
                have h2 := hcl 3 _ rfl h3 ⟨2, .data⟩ (by simp) rfl
                obtain ⟨_, qB, qX⟩ := hM.y h2
                have x9 : w'.cell? ⟨X0, 9, none⟩ = some (.int .i64 ec) := qX.cell 9
                exact og_grd rfl rfl rfl g4 (og_val (fun _ => trivial) (by intro c h; cases h) (q_ld rfl d14 x9) ⟨_, rfl, hM.step (by decide) rfl⟩)
              · cases ho
                have h4 := hdep ⟨4, .guard⟩ (by simp) rfl
                have g4 := rd 4 58 h4 rfl
                have d12 := rd 12 66 (hdep ⟨12, .data⟩ (by simp) rfl) rfl
                have d15 := rd 15 69 (hdep ⟨15, .data⟩ (by simp) rfl) rfl
                exact og_grd rfl rfl rfl g4 (og_val (fun _ => trivial) (by intro c h; cases h) (q_eqi rfl d12 d15) ⟨_, rfl, hM.step (by decide) rfl⟩)
              · cases ho
                have h4 := hdep ⟨4, .guard⟩ (by simp) rfl
                have g4 := rd 4 58 h4 rfl
                exact og_grd rfl rfl rfl g4 (og_val (fun _ => trivial) (by intro c h; cases h) (q_move rfl a7) ⟨_, rfl, hM.step (by decide) rfl⟩)
              · cases ho
                have h4 := hdep ⟨4, .guard⟩ (by simp) rfl
                have g4 := rd 4 58 h4 rfl
                have d16 := rd 16 70 (hdep ⟨16, .data⟩ (by simp) rfl) rfl
                have d17 := rd 17 71 (hdep ⟨17, .data⟩ (by simp) rfl) rfl
                exact og_grd rfl rfl rfl g4 (og_val (fun _ => trivial) (by intro c h; cases h) (q_eqb rfl d16 d17) ⟨_, rfl, hM.step (by decide) rfl⟩)
              · cases ho
                have g4 := rd 4 58 (hdep ⟨4, .data⟩ (by simp) rfl) rfl
                have d18 := rd 18 72 (hdep ⟨18, .data⟩ (by simp) rfl) rfl
                exact og_run rfl rfl (og_val (fun _ => trivial) (by intro c h; cases h) (q_pkF rfl g4 d18) ⟨_, rfl, hM.step (by decide) rfl⟩)
              · cases ho
            · intro f a' w' v hall hdf hsz hfx hev hM
              have a73 := (hev 19 73 (hall 19 (by decide)) rfl).trans (hM.v 19 (hall 19 (by decide)))
              have hq := hM.y (hall 2 (by decide))
              rw [hEV] at a73
              clear hM hev hEV
              obtain ⟨s0, s1, s2, s3, s4, s5, s6, s7, s8, s9, s10, s11, s12, s13, s14, s15, s16, s17, s18, s19, s20, s21, s22, s23, s24, s25, s26, s27, s28, s29, s30, s31, s32, s33, s34, s35, s36, s37, s38, s39, s40, s41, s42, s43, s44, s45, s46, s47, s48, s49, s50, s51, s52, s53, s54, s55, s56, s57, s58, s59, s60, s61, s62, s63, s64, s65, s66, s67, s68, s69, s70, s71, s72, s73, s74, rfl⟩ := tmps75 hsz hdf
              have b0 : s0 = .pointer (some ⟨B, 0, none⟩) := hfx (0, .pointer (some ⟨B, 0, none⟩)) (by simp)
              have b1 : s1 = .slice (some ⟨b, off, none⟩) (pl t) c := hfx (1, .slice (some ⟨b, off, none⟩) (pl t) c) (by simp)
              have b2 : s2 = undef := hfx (2, undef) (by simp)
              have b3 : s3 = undef := hfx (3, undef) (by simp)
              have b5 : s5 = undef := hfx (5, undef) (by simp)
              have b9 : s9 = .slice (some ⟨b, off, none⟩) (pl t) c := hfx (9, .slice (some ⟨b, off, none⟩) (pl t) c) (by simp)
              have b10 : s10 = .int .i64 (pl t : Int) := hfx (10, .int .i64 (pl t : Int)) (by simp)
              have b11 : s11 = .int .i64 (k : Int) := hfx (11, .int .i64 (k : Int)) (by simp)
              clear hfx hall
              have b73 : s73 = .bool ((rg y.1 (j : Int) == ec) == false) := a73
              clear a73
              subst b0 b1 b2 b3 b5 b9 b10 b11 b73
              obtain ⟨ho3, hb3, _⟩ := hq
              have hY2 : (if ((rg y.1 (j : Int) == ec) == false) = true then none else rs S y) = Y := hY'.out
              clear hY' hcall
              generalize ((rg y.1 (j : Int) == ec) == false) = qq at hY2 ⊢
              cases qq with
              | true =>
                have hYY : none = Y := hY2
                subst hYY
                clear hY2
                go_wp2
                exact ⟨rfl, _, results_tmp rfl _ _ _, hOW.trans ho3, rfl⟩
              | false =>
                have hY3 : RowKit.Hid (rs S y = Y) := Lib.hid hY2
                clear hY2
                go_wp2
                go_roundw
                case rel => exact ⟨k + 1, y.1, y.2, (by go_num), hlt, hOW.trans ho3, hb3, hb1, (by rw [← hS]; omega), (by rw [← hS]; exact hY3)⟩
                case measure => simp [intOf]; omega
        | true =>
          rw [if_pos rfl] at hY'
          have hbd : n' + Wb p ≤ 1000000000000 := by omega
          cases hres : rs p (r', n') with
          | none =>
            have hcall := run_none hRp hTp' hDx bM hr' hbd hp1000 hwp g2 hres
            rw [hres] at hY'
            have hYY : none = Y := hY'.out
            subst hYY
            clear hres hY'
            go_upto_region 17 with fail
            obtain ⟨EV, hEV⟩ : ∃ EV : List Value, EV = [(.pointer (some ⟨B, 0, none⟩)), ((.slice A1 (pl p) c1)), .bool false, .bool true, .bool true, undef, undef, undef, undef, undef, undef, undef, undef, undef, undef, undef, undef, undef, undef, .bool true] := ⟨_, rfl⟩
            refine (wpIn_wide (n := 0)).1 ?_
            refine og_regionG (fx := [(0, .pointer (some ⟨B, 0, none⟩)), (1, .slice (some ⟨b, off, none⟩) (pl t) c), (2, undef), (3, undef), (5, undef), (6, .pointer (some ⟨X0, 0, none⟩)), (7, .bool true), (8, (.slice A1 (pl p) c1)), (9, .slice (some ⟨b, off, none⟩) (pl t) c), (10, .int .i64 (pl t : Int)), (11, .int .i64 (k : Int))]) (M := MD EV 2 W1.drew (fun w' => Oth B W1.drew w')) mixed (by kernel_rfl) rfl rfl ?_ MD.start ?_ ?_
            · intro p' hp'
              simp at hp'
              rcases hp' with rfl | rfl | rfl | rfl | rfl | rfl | rfl | rfl | rfl | rfl | rfl <;> rfl
            · intro f i0 o a w' v ho hfi hdep hcl hdf hfx hev hM
              have rd : ∀ j d, f j = true → dsO _ j = some d → a.eval (.tmp d) = EV.getD j undef := fun j d h1 h2 => (hev j d h1 h2).trans (hM.v j h1)
              rw [hEV] at rd hM ⊢
              have a0 := hfx (0, .pointer (some ⟨B, 0, none⟩)) (by simp)
              have a6 := hfx (6, .pointer (some ⟨X0, 0, none⟩)) (by simp)
              have a7 := hfx (7, .bool true) (by simp)
              have a8 := hfx (8, (.slice A1 (pl p) c1)) (by simp)
              rcases i0 with _ | _ | _ | _ | _ | _ | _ | _ | _ | _ | _ | _ | _ | _ | _ | _ | _ | _ | _ | _ | i0
              · cases ho; exact og_run rfl rfl (og_val (fun _ => trivial) (by intro c h; cases h) (q_move rfl a0) ⟨_, rfl, hM.step (by decide) rfl⟩)
              · cases ho; exact og_run rfl rfl (og_val (fun _ => trivial) (by intro c h; cases h) (q_move rfl a8) ⟨_, rfl, hM.step (by decide) rfl⟩)
              · cases ho
                have d0 := rd 0 54 (hdep ⟨0, .data⟩ (by simp) rfl) rfl
                have d1 := rd 1 55 (hdep ⟨1, .data⟩ (by simp) rfl) rfl
                have hw := hM.n hfi
                subst hw
                refine og_run rfl rfl (og_call (fun _ => trivial) rfl (by intro c h; cases h) (q_run rfl d0 d1) ?_)
                refine (callsIn_wide.2 hcall).mono ?_
                rintro e w2 ⟨rfl, ho3⟩
                exact ⟨_, rfl, _, rfl, hM.call ho3 rfl⟩
              · cases ho
                have d2 := rd 2 56 (hdep ⟨2, .data⟩ (by simp) rfl) rfl
                exact og_run rfl rfl (og_val (fun _ => trivial) (by intro c h; cases h) (q_not rfl d2) ⟨_, rfl, hM.step (by decide) rfl⟩)
              · cases ho
                have d3 := rd 3 57 (hdep ⟨3, .data⟩ (by simp) rfl) rfl
                exact og_run rfl rfl (og_val (fun _ => trivial) (by intro c h; cases h) (q_move rfl d3) ⟨_, rfl, hM.step (by decide) rfl⟩)
              · cases ho
                have h4 := hdep ⟨4, .guard⟩ (by simp) rfl
                have g4 := rd 4 58 h4 rfl
                exact og_off (fun _ => trivial) rfl rfl rfl g4 (by decide) ⟨_, rfl, hM.step (by decide) rfl⟩
              · cases ho
                have h4 := hdep ⟨4, .guard⟩ (by simp) rfl
                have g4 := rd 4 58 h4 rfl
                exact og_off (fun _ => trivial) rfl rfl rfl g4 (by decide) ⟨_, rfl, hM.step (by decide) rfl⟩
              · cases ho
                have h4 := hdep ⟨4, .guard⟩ (by simp) rfl
                have g4 := rd 4 58 h4 rfl
                exact og_off (fun _ => trivial) rfl rfl rfl g4 (by decide) ⟨_, rfl, hM.step (by decide) rfl⟩
              · cases ho
                have h4 := hdep ⟨4, .guard⟩ (by simp) rfl
                have g4 := rd 4 58 h4 rfl
                exact og_off (fun _ => trivial) rfl rfl rfl g4 (by decide) ⟨_, rfl, hM.step (by decide) rfl⟩
              · cases ho
                have h4 := hdep ⟨4, .guard⟩ (by simp) rfl
                have g4 := rd 4 58 h4 rfl
                exact og_off (fun _ => trivial) rfl rfl rfl g4 (by decide) ⟨_, rfl, hM.step (by decide) rfl⟩
              · cases ho
                have h4 := hdep ⟨4, .guard⟩ (by simp) rfl
                have g4 := rd 4 58 h4 rfl
                exact og_off (fun _ => trivial) rfl rfl rfl g4 (by decide) ⟨_, rfl, hM.step (by decide) rfl⟩
              · cases ho
                have h4 := hdep ⟨4, .guard⟩ (by simp) rfl
                have g4 := rd 4 58 h4 rfl
                exact og_off (fun _ => trivial) rfl rfl rfl g4 (by decide) ⟨_, rfl, hM.step (by decide) rfl⟩
              · cases ho
                have h4 := hdep ⟨4, .guard⟩ (by simp) rfl
                have g4 := rd 4 58 h4 rfl
                exact og_off (fun _ => trivial) rfl rfl rfl g4 (by decide) ⟨_, rfl, hM.step (by decide) rfl⟩
              · cases ho
                have h4 := hdep ⟨4, .guard⟩ (by simp) rfl
                have g4 := rd 4 58 h4 rfl
                exact og_off (fun _ => trivial) rfl rfl rfl g4 (by decide) ⟨_, rfl, hM.step (by decide) rfl⟩
              · cases ho
                have h4 := hdep ⟨4, .guard⟩ (by simp) rfl
                have g4 := rd 4 58 h4 rfl
                exact og_off (fun _ => trivial) rfl rfl rfl g4 (by decide) ⟨_, rfl, hM.step (by decide) rfl⟩
              · cases ho
                have h4 := hdep ⟨4, .guard⟩ (by simp) rfl
                have g4 := rd 4 58 h4 rfl
                exact og_off (fun _ => trivial) rfl rfl rfl g4 (by decide) ⟨_, rfl, hM.step (by decide) rfl⟩
              · cases ho
                have h4 := hdep ⟨4, .guard⟩ (by simp) rfl
                have g4 := rd 4 58 h4 rfl
                exact og_off (fun _ => trivial) rfl rfl rfl g4 (by decide) ⟨_, rfl, hM.step (by decide) rfl⟩
              · cases ho
                have h4 := hdep ⟨4, .guard⟩ (by simp) rfl
                have g4 := rd 4 58 h4 rfl
                exact og_off (fun _ => trivial) rfl rfl rfl g4 (by decide) ⟨_, rfl, hM.step (by decide) rfl⟩
              · cases ho
                have h4 := hdep ⟨4, .guard⟩ (by simp) rfl
                have g4 := rd 4 58 h4 rfl
                exact og_off (fun _ => trivial) rfl rfl rfl g4 (by decide) ⟨_, rfl, hM.step (by decide) rfl⟩
              · cases ho
                have g4 := rd 4 58 (hdep ⟨4, .data⟩ (by simp) rfl) rfl
                exact og_run rfl rfl (og_val (fun _ => trivial) (by intro c h; cases h) (q_pkT rfl g4) ⟨_, rfl, hM.step (by decide) rfl⟩)
              · cases ho
            · intro f a' w' v hall hdf hsz hfx hev hM
              have a73 := (hev 19 73 (hall 19 (by decide)) rfl).trans (hM.v 19 (hall 19 (by decide)))
              have hq := hM.y (hall 2 (by decide))
              rw [hEV] at a73
              clear hM hev hEV
              obtain ⟨s0, s1, s2, s3, s4, s5, s6, s7, s8, s9, s10, s11, s12, s13, s14, s15, s16, s17, s18, s19, s20, s21, s22, s23, s24, s25, s26, s27, s28, s29, s30, s31, s32, s33, s34, s35, s36, s37, s38, s39, s40, s41, s42, s43, s44, s45, s46, s47, s48, s49, s50, s51, s52, s53, s54, s55, s56, s57, s58, s59, s60, s61, s62, s63, s64, s65, s66, s67, s68, s69, s70, s71, s72, s73, s74, rfl⟩ := tmps75 hsz hdf
              have b0 : s0 = .pointer (some ⟨B, 0, none⟩) := hfx (0, .pointer (some ⟨B, 0, none⟩)) (by simp)
              have b1 : s1 = .slice (some ⟨b, off, none⟩) (pl t) c := hfx (1, .slice (some ⟨b, off, none⟩) (pl t) c) (by simp)
              have b2 : s2 = undef := hfx (2, undef) (by simp)
              have b3 : s3 = undef := hfx (3, undef) (by simp)
              have b5 : s5 = undef := hfx (5, undef) (by simp)
              have b9 : s9 = .slice (some ⟨b, off, none⟩) (pl t) c := hfx (9, .slice (some ⟨b, off, none⟩) (pl t) c) (by simp)
              have b10 : s10 = .int .i64 (pl t : Int) := hfx (10, .int .i64 (pl t : Int)) (by simp)
              have b11 : s11 = .int .i64 (k : Int) := hfx (11, .int .i64 (k : Int)) (by simp)
              clear hfx hall
              have b73 : s73 = .bool true := a73
              clear a73
              subst b0 b1 b2 b3 b5 b9 b10 b11 b73
              go_wp2
              exact ⟨rfl, _, results_tmp rfl _ _ _, hOW.trans hq, rfl⟩
          | some y =>
            have hcall := run_some hRp hTp' hDx bM hr' hbd hp1000 hwp g2 hres
            have hb1 := (bck hwp g2 (r', n') y hr' hres).1
            have hb2 := rs_bd p hwp g2 (r', n') y hres
            rw [hres] at hY'
            clear hres
            go_upto_region 17 with fail
            obtain ⟨EV, hEV⟩ : ∃ EV : List Value, EV = [(.pointer (some ⟨B, 0, none⟩)), ((.slice A1 (pl p) c1)), .bool true, .bool false, .bool false, .pointer (some ⟨B, 0, none⟩), .pointer (some ⟨X0, 6, none⟩), .pointer (some ⟨X0, 7, none⟩), .int .i64 (j : Int), .pointer (some ⟨B, 0, none⟩), .pointer (some ⟨B, 0, none⟩), .pointer (some ⟨B, j, none⟩), .int .i64 (rg y.1 (j : Int)), .pointer (some ⟨X0, 6, none⟩), .pointer (some ⟨X0, 9, none⟩), .int .i64 ec, .bool (rg y.1 (j : Int) == ec), .bool true, .bool ((rg y.1 (j : Int) == ec) == true), .bool ((rg y.1 (j : Int) == ec) == true)] := ⟨_, rfl⟩
            refine (wpIn_wide (n := 0)).1 ?_
            refine og_regionG (fx := [(0, .pointer (some ⟨B, 0, none⟩)), (1, .slice (some ⟨b, off, none⟩) (pl t) c), (2, undef), (3, undef), (5, undef), (6, .pointer (some ⟨X0, 0, none⟩)), (7, .bool true), (8, (.slice A1 (pl p) c1)), (9, .slice (some ⟨b, off, none⟩) (pl t) c), (10, .int .i64 (pl t : Int)), (11, .int .i64 (k : Int))]) (M := MD EV 2 W1.drew (fun w' => Oth B W1.drew w' ∧ Bm w' B (mcs y.1 y.2) ∧ Bk w' X0 #[.int .i64 6, .int .i64 (i : Int), .int .i64 lb', .int .i64 lc, .slice A1 (pl p) c1, .slice A2 (pl q) c2', .int .i64 ek, .int .i64 (j : Int), .int .i64 eb, .int .i64 ec])) mixed (by kernel_rfl) rfl rfl ?_ MD.start ?_ ?_
            · intro p' hp'
              simp at hp'
              rcases hp' with rfl | rfl | rfl | rfl | rfl | rfl | rfl | rfl | rfl | rfl | rfl <;> rfl
            · intro f i0 o a w' v ho hfi hdep hcl hdf hfx hev hM
              have rd : ∀ j d, f j = true → dsO _ j = some d → a.eval (.tmp d) = EV.getD j undef := fun j d h1 h2 => (hev j d h1 h2).trans (hM.v j h1)
              rw [hEV] at rd hM ⊢
              have a0 := hfx (0, .pointer (some ⟨B, 0, none⟩)) (by simp)
              have a6 := hfx (6, .pointer (some ⟨X0, 0, none⟩)) (by simp)
              have a7 := hfx (7, .bool true) (by simp)
              have a8 := hfx (8, (.slice A1 (pl p) c1)) (by simp)
              rcases i0 with _ | _ | _ | _ | _ | _ | _ | _ | _ | _ | _ | _ | _ | _ | _ | _ | _ | _ | _ | _ | i0
              · cases ho; exact og_run rfl rfl (og_val (fun _ => trivial) (by intro c h; cases h) (q_move rfl a0) ⟨_, rfl, hM.step (by decide) rfl⟩)
              · cases ho; exact og_run rfl rfl (og_val (fun _ => trivial) (by intro c h; cases h) (q_move rfl a8) ⟨_, rfl, hM.step (by decide) rfl⟩)
              · cases ho
                have d0 := rd 0 54 (hdep ⟨0, .data⟩ (by simp) rfl) rfl
                have d1 := rd 1 55 (hdep ⟨1, .data⟩ (by simp) rfl) rfl
                have hw := hM.n hfi
                subst hw
                refine og_run rfl rfl (og_call (fun _ => trivial) rfl (by intro c h; cases h) (q_run rfl d0 d1) ?_)
                refine (callsIn_wide.2 hcall).mono ?_
                rintro e w2 ⟨rfl, ho3, hb3⟩
                exact ⟨_, rfl, _, rfl, hM.call ⟨ho3, hb3, bX.oth ho3 hXB⟩ rfl⟩
              · cases ho
                have d2 := rd 2 56 (hdep ⟨2, .data⟩ (by simp) rfl) rfl
                exact og_run rfl rfl (og_val (fun _ => trivial) (by intro c h; cases h) (q_not rfl d2) ⟨_, rfl, hM.step (by decide) rfl⟩)
              · cases ho
                have d3 := rd 3 57 (hdep ⟨3, .data⟩ (by simp) rfl) rfl
                exact og_run rfl rfl (og_val (fun _ => trivial) (by intro c h; cases h) (q_move rfl d3) ⟨_, rfl, hM.step (by decide) rfl⟩)
              · cases ho
                have h4 := hdep ⟨4, .guard⟩ (by simp) rfl
                have g4 := rd 4 58 h4 rfl
                exact og_grd rfl rfl rfl g4 (og_val (fun _ => trivial) (by intro c h; cases h) (q_move rfl a0) ⟨_, rfl, hM.step (by decide) rfl⟩)
              · cases ho
                have h4 := hdep ⟨4, .guard⟩ (by simp) rfl
                have g4 := rd 4 58 h4 rfl
                exact og_grd rfl rfl rfl g4 (og_val (fun _ => trivial) (by intro c h; cases h) (ro_f3 rfl a6) ⟨_, rfl, hM.step (by decide) rfl⟩)
              · cases ho
                have h4 := hdep ⟨4, .guard⟩ (by simp) rfl
                have g4 := rd 4 58 h4 rfl
                have d6 := rd 6 60 (hdep ⟨6, .data⟩ (by simp) rfl) rfl
                exact og_grd rfl rfl rfl g4 (og_val (fun _ => trivial) (by intro c h; cases h) (q_l1 rfl d6) ⟨_, rfl, hM.step (by decide) rfl⟩)
              · cases ho
                have h4 := hdep ⟨4, .guard⟩ (by simp) rfl
                have g4 := rd 4 58 h4 rfl
                have d7 := rd 7 61 (hdep ⟨7, .data⟩ (by simp) rfl) rfl
                have h3 := hcl 4 _ rfl h4 ⟨3, .data⟩ (by simp) rfl
                have h2 := hcl 3 _ rfl h3 ⟨2, .data⟩ (by simp) rfl
                obtain ⟨_, qB, qX⟩ := hM.y h2
                have x7 : w'.cell? ⟨X0, 7, none⟩ = some (.int .i64 (j : Int)) := qX.cell 7
                exact og_grd rfl rfl rfl g4 (og_val (fun _ => trivial) (by intro c h; cases h) (q_ld rfl d7 x7) ⟨_, rfl, hM.step (by decide) rfl⟩)
              · cases ho
                have h4 := hdep ⟨4, .guard⟩ (by simp) rfl
                have g4 := rd 4 58 h4 rfl
                have d5 := rd 5 59 (hdep ⟨5, .data⟩ (by simp) rfl) rfl
                exact og_grd rfl rfl rfl g4 (og_val (fun _ => trivial) (by intro c h; cases h) (q_nil rfl d5) ⟨_, rfl, hM.step (by decide) rfl⟩)
              · cases ho
                have h4 := hdep ⟨4, .guard⟩ (by simp) rfl
                have g4 := rd 4 58 h4 rfl
                have d9 := rd 9 63 (hdep ⟨9, .data⟩ (by simp) rfl) rfl
                exact og_grd rfl rfl rfl g4 (og_val (fun _ => trivial) (by intro c h; cases h) (q_m0 rfl d9) ⟨_, rfl, hM.step (by decide) rfl⟩)
              · cases ho
                have h4 := hdep ⟨4, .guard⟩ (by simp) rfl
                have g4 := rd 4 58 h4 rfl
                have d10 := rd 10 64 (hdep ⟨10, .data⟩ (by simp) rfl) rfl
                have d8 := rd 8 62 (hdep ⟨8, .data⟩ (by simp) rfl) rfl
                exact og_grd rfl rfl rfl g4 (og_val (fun _ => trivial) (by intro c h; cases h) (q_ix (by omega) rfl d10 d8) ⟨_, rfl, hM.step (by decide) rfl⟩)
              · cases ho
                have h4 := hdep ⟨4, .guard⟩ (by simp) rfl
                have g4 := rd 4 58 h4 rfl
                have d11 := rd 11 65 (hdep ⟨11, .data⟩ (by simp) rfl) rfl
                have h3 := hcl 4 _ rfl h4 ⟨3, .data⟩ (by simp) rfl
                have h2 := hcl 3 _ rfl h3 ⟨2, .data⟩ (by simp) rfl
                obtain ⟨_, qB, qX⟩ := hM.y h2
                have xB : w'.cell? ⟨B, j, none⟩ = some (.int .i64 (rg y.1 (j : Int))) := (qB.cell j).trans (mcs_at j (by have := hb1.1; omega))
                exact og_grd rfl rfl rfl g4 (og_val (fun _ => trivial) (by intro c h; cases h) (q_ld rfl d11 xB) ⟨_, rfl, hM.step (by decide) rfl⟩)
              · cases ho
                have h4 := hdep ⟨4, .guard⟩ (by simp) rfl
                have g4 := rd 4 58 h4 rfl
                exact og_grd rfl rfl rfl g4 (og_val (fun _ => trivial) (by intro c h; cases h) (ro_f3 rfl a6) ⟨_, rfl, hM.step (by decide) rfl⟩)
              · cases ho
                have h4 := hdep ⟨4, .guard⟩ (by simp) rfl
                have g4 := rd 4 58 h4 rfl
                have d13 := rd 13 67 (hdep ⟨13, .data⟩ (by simp) rfl) rfl
                exact og_grd rfl rfl rfl g4 (og_val (fun _ => trivial) (by intro c h; cases h) (q_l3 rfl d13) ⟨_, rfl, hM.step (by decide) rfl⟩)
              · cases ho
                have h4 := hdep ⟨4, .guard⟩ (by simp) rfl
                have g4 := rd 4 58 h4 rfl
                have d14 := rd 14 68 (hdep ⟨14, .data⟩ (by simp) rfl) rfl
                have h3 := hcl 4 _ rfl h4 ⟨3, .data⟩ (by simp) rfl
                have h2 := hcl 3 _ rfl h3 ⟨2, .data⟩ (by simp) rfl
                obtain ⟨_, qB, qX⟩ := hM.y h2
                have x9 : w'.cell? ⟨X0, 9, none⟩ = some (.int .i64 ec) := qX.cell 9
                exact og_grd rfl rfl rfl g4 (og_val (fun _ => trivial) (by intro c h; cases h) (q_ld rfl d14 x9) ⟨_, rfl, hM.step (by decide) rfl⟩)
              · cases ho
                have h4 := hdep ⟨4, .guard⟩ (by simp) rfl
                have g4 := rd 4 58 h4 rfl
                have d12 := rd 12 66 (hdep ⟨12, .data⟩ (by simp) rfl) rfl
                have d15 := rd 15 69 (hdep ⟨15, .data⟩ (by simp) rfl) rfl
                exact og_grd rfl rfl rfl g4 (og_val (fun _ => trivial) (by intro c h; cases h) (q_eqi rfl d12 d15) ⟨_, rfl, hM.step (by decide) rfl⟩)
              · cases ho
                have h4 := hdep ⟨4, .guard⟩ (by simp) rfl
                have g4 := rd 4 58 h4 rfl
                exact og_grd rfl rfl rfl g4 (og_val (fun _ => trivial) (by intro c h; cases h) (q_move rfl a7) ⟨_, rfl, hM.step (by decide) rfl⟩)
              · cases ho
                have h4 := hdep ⟨4, .guard⟩ (by simp) rfl
                have g4 := rd 4 58 h4 rfl
                have d16 := rd 16 70 (hdep ⟨16, .data⟩ (by simp) rfl) rfl
                have d17 := rd 17 71 (hdep ⟨17, .data⟩ (by simp) rfl) rfl
                exact og_grd rfl rfl rfl g4 (og_val (fun _ => trivial) (by intro c h; cases h) (q_eqb rfl d16 d17) ⟨_, rfl, hM.step (by decide) rfl⟩)
              · cases ho
                have g4 := rd 4 58 (hdep ⟨4, .data⟩ (by simp) rfl) rfl
                have d18 := rd 18 72 (hdep ⟨18, .data⟩ (by simp) rfl) rfl
                exact og_run rfl rfl (og_val (fun _ => trivial) (by intro c h; cases h) (q_pkF rfl g4 d18) ⟨_, rfl, hM.step (by decide) rfl⟩)
              · cases ho
            · intro f a' w' v hall hdf hsz hfx hev hM
              have a73 := (hev 19 73 (hall 19 (by decide)) rfl).trans (hM.v 19 (hall 19 (by decide)))
              have hq := hM.y (hall 2 (by decide))
              rw [hEV] at a73
              clear hM hev hEV
              obtain ⟨s0, s1, s2, s3, s4, s5, s6, s7, s8, s9, s10, s11, s12, s13, s14, s15, s16, s17, s18, s19, s20, s21, s22, s23, s24, s25, s26, s27, s28, s29, s30, s31, s32, s33, s34, s35, s36, s37, s38, s39, s40, s41, s42, s43, s44, s45, s46, s47, s48, s49, s50, s51, s52, s53, s54, s55, s56, s57, s58, s59, s60, s61, s62, s63, s64, s65, s66, s67, s68, s69, s70, s71, s72, s73, s74, rfl⟩ := tmps75 hsz hdf
              have b0 : s0 = .pointer (some ⟨B, 0, none⟩) := hfx (0, .pointer (some ⟨B, 0, none⟩)) (by simp)
              have b1 : s1 = .slice (some ⟨b, off, none⟩) (pl t) c := hfx (1, .slice (some ⟨b, off, none⟩) (pl t) c) (by simp)
              have b2 : s2 = undef := hfx (2, undef) (by simp)
              have b3 : s3 = undef := hfx (3, undef) (by simp)
              have b5 : s5 = undef := hfx (5, undef) (by simp)
              have b9 : s9 = .slice (some ⟨b, off, none⟩) (pl t) c := hfx (9, .slice (some ⟨b, off, none⟩) (pl t) c) (by simp)
              have b10 : s10 = .int .i64 (pl t : Int) := hfx (10, .int .i64 (pl t : Int)) (by simp)
              have b11 : s11 = .int .i64 (k : Int) := hfx (11, .int .i64 (k : Int)) (by simp)
              clear hfx hall
              have b73 : s73 = .bool ((rg y.1 (j : Int) == ec) == true) := a73
              clear a73
              subst b0 b1 b2 b3 b5 b9 b10 b11 b73
              obtain ⟨ho3, hb3, _⟩ := hq
              have hY2 : (if ((rg y.1 (j : Int) == ec) == true) = true then none else rs S y) = Y := hY'.out
              clear hY' hcall
              generalize ((rg y.1 (j : Int) == ec) == true) = qq at hY2 ⊢
              cases qq with
              | true =>
                have hYY : none = Y := hY2
                subst hYY
                clear hY2
                go_wp2
                exact ⟨rfl, _, results_tmp rfl _ _ _, hOW.trans ho3, rfl⟩
              | false =>
                have hY3 : RowKit.Hid (rs S y = Y) := Lib.hid hY2
                clear hY2
                go_wp2
                go_roundw
                case rel => exact ⟨k + 1, y.1, y.2, (by go_num), hlt, hOW.trans ho3, hb3, hb1, (by rw [← hS]; omega), (by rw [← hS]; exact hY3)⟩
                case measure => simp [intOf]; omega
    · obtain rfl : k = pl t := by omega
      have hnlt : ¬ ((pl t : Nat) : Int) < (pl t : Int) := by omega
      rw [sfx_all] at hY'
      go_wp2
      have hYY : some (r', n') = Y := hY'.out
      subst hYY
      exact ⟨rfl, _, results_tmp rfl _ _ _, hO, rfl, hM'⟩
end Go.Proofs.Ytgjnnlgeggamjaa
