/- TRC: laid into one text. -/
import Derived.Test.YtgjnnlgeggamjaaQXEQ

namespace Go.Proofs.Ytgjnnlgeggamjaa
set_option linter.unusedVariables false
set_option linter.unusedSimpArgs false
open Go.RowKit
attribute [local go_sem ↓] Go.wp_at_zero Go.wp_at_succ
theorem part1_d (bx pb : Nat) (d : Int) (u : FrameMode) (w : World) (h0 : w.cell? ⟨bx, 0, none⟩ = some (.pointer (some ⟨pb, 0, none⟩))) (h2 : w.cell? ⟨pb, 2, none⟩ = some (.int .i64 d)) (hf : w.frozen? ⟨pb, 2, none⟩ = false) (hd : -100 ≤ d ∧ d ≤ 100) :
    CallsD Try.prog 75 #[.pointer (some ⟨bx, 0, none⟩)] u w fun e u' w' => u' = u ∧ (e = .returned (.tuple #[]) ∧ w' = w.setCell ⟨pb, 2, none⟩ (.int .i64 (d - 1))) := by
  go_enter_d Try.func75, Try.ntmps75
  go_wp2
  go_end0
  exact ⟨rfl, rfl⟩
theorem hidE {α : Type} (x : α) : ∃ y, RowKit.Hid (x = y) := ⟨x, rfl⟩
def Hi (B : Nat) (w w' : World) : Prop := w.heap.size ≤ w'.heap.size ∧ ∀ b, B ≤ b → b < w.heap.size → w'.heap[b]? = w.heap[b]?
section
variable {B : Nat} {a w w' : World}
theorem Hi.refl (B : Nat) (w : World) : Hi B w w := ⟨Nat.le_refl _, fun _ _ _ => rfl⟩
theorem Hi.setCell (h : Hi B a w) {q : Addr} (hq : q.block < B) (u : Value) : Hi B a (w.setCell q u) := ⟨Nat.le_trans h.1 (by simp [World.setCell]), fun b hb hl => (Below.heap_setCell w q u b (by omega)).trans (h.2 b hb hl)⟩
theorem Hi.oth {p : Nat} (h : Hi B a w) (k : Oth p w w') (hp : p < B) : Hi B a w' := ⟨Nat.le_trans h.1 k.size, fun b hb hl => (k.block b (by have := h.1; omega) (by omega)).trans (h.2 b hb hl)⟩
theorem Hi.mono {B' : Nat} (h : Hi B a w) (hB : B ≤ B') : Hi B' a w := ⟨h.1, fun b hb hl => h.2 b (by omega) hl⟩
theorem Hi.trans (h : Hi B a w) (k : Hi B w w') : Hi B a w' := ⟨Nat.le_trans h.1 k.1, fun b hb hl => (k.2 b hb (by have := h.1; omega)).trans (h.2 b hb hl)⟩
theorem Hi.drew (h : Hi B a w) : Hi B a w.drew := h
theorem TV.hi {A : Nat} {t : PS} {v : Value} (h : TV w (fun b => B ≤ b ∧ b < w.heap.size) t v) (k : Hi B w w') (hA : A ≤ B) : TV w' (fun b => A ≤ b ∧ b < w'.heap.size) t v := h.keep fun b hb => ⟨⟨by omega, by have := k.1; omega⟩, k.2 b hb.1 hb.2⟩
end
theorem res_bk {P : Program} {w : World} {fn : Func} {tmps : Array Value} {p : Tmp} {ty : TypeId} (cs : Array Value) (g : Nat) (d : TypeDesc) (h : fn.results = #[.cell p ty]) (hp : tmps.getD p undef = .pointer (some ⟨g, 0, none⟩))
    (hu : P.underlying ty = some d) (hd : (match d with | .struct _ | .array _ _ => true | _ => false) = true) (hi : (P.info? ty).map (·.size) = some cs.size) (hk : Bk w g cs) : (results fn tmps).run P w = .ok (.agg cs) w := by
  have hp' : tmps[p]?.getD undef = .pointer (some ⟨g, 0, none⟩) := by simpa using hp
  simp [results, h, hp', asAddr, bk_load hk ty d hu hd hi]
theorem Bk.set10 {w : World} {g : Nat} {a0 a1 a2 a3 a4 a5 a6 a7 a8 a9 v0 v1 v2 v3 v4 v5 v6 v7 v8 v9 : Value} (h : Bk w g #[a0, a1, a2, a3, a4, a5, a6, a7, a8, a9]) : Bk ((((((((((w.setCell ⟨g, 0, none⟩ v0).setCell ⟨g, 1, none⟩ v1).setCell ⟨g, 2, none⟩ v2).setCell ⟨g, 3, none⟩ v3).setCell ⟨g, 4, none⟩ v4).setCell ⟨g, 5, none⟩ v5).setCell ⟨g, 6, none⟩ v6).setCell ⟨g, 7, none⟩ v7).setCell ⟨g, 8, none⟩ v8).setCell ⟨g, 9, none⟩ v9) g #[v0, v1, v2, v3, v4, v5, v6, v7, v8, v9] := by
  have h1 : Bk (w.setCell ⟨g, 0, none⟩ v0) g #[v0, a1, a2, a3, a4, a5, a6, a7, a8, a9] := h.set 0 v0 (by simp)
  have h2 : Bk ((w.setCell ⟨g, 0, none⟩ v0).setCell ⟨g, 1, none⟩ v1) g #[v0, v1, a2, a3, a4, a5, a6, a7, a8, a9] := h1.set 1 v1 (by simp)
  have h3 : Bk (((w.setCell ⟨g, 0, none⟩ v0).setCell ⟨g, 1, none⟩ v1).setCell ⟨g, 2, none⟩ v2) g #[v0, v1, v2, a3, a4, a5, a6, a7, a8, a9] := h2.set 2 v2 (by simp)
  have h4 : Bk ((((w.setCell ⟨g, 0, none⟩ v0).setCell ⟨g, 1, none⟩ v1).setCell ⟨g, 2, none⟩ v2).setCell ⟨g, 3, none⟩ v3) g #[v0, v1, v2, v3, a4, a5, a6, a7, a8, a9] := h3.set 3 v3 (by simp)
  have h5 : Bk (((((w.setCell ⟨g, 0, none⟩ v0).setCell ⟨g, 1, none⟩ v1).setCell ⟨g, 2, none⟩ v2).setCell ⟨g, 3, none⟩ v3).setCell ⟨g, 4, none⟩ v4) g #[v0, v1, v2, v3, v4, a5, a6, a7, a8, a9] := h4.set 4 v4 (by simp)
  have h6 : Bk ((((((w.setCell ⟨g, 0, none⟩ v0).setCell ⟨g, 1, none⟩ v1).setCell ⟨g, 2, none⟩ v2).setCell ⟨g, 3, none⟩ v3).setCell ⟨g, 4, none⟩ v4).setCell ⟨g, 5, none⟩ v5) g #[v0, v1, v2, v3, v4, v5, a6, a7, a8, a9] := h5.set 5 v5 (by simp)
  have h7 : Bk (((((((w.setCell ⟨g, 0, none⟩ v0).setCell ⟨g, 1, none⟩ v1).setCell ⟨g, 2, none⟩ v2).setCell ⟨g, 3, none⟩ v3).setCell ⟨g, 4, none⟩ v4).setCell ⟨g, 5, none⟩ v5).setCell ⟨g, 6, none⟩ v6) g #[v0, v1, v2, v3, v4, v5, v6, a7, a8, a9] := h6.set 6 v6 (by simp)
  have h8 : Bk ((((((((w.setCell ⟨g, 0, none⟩ v0).setCell ⟨g, 1, none⟩ v1).setCell ⟨g, 2, none⟩ v2).setCell ⟨g, 3, none⟩ v3).setCell ⟨g, 4, none⟩ v4).setCell ⟨g, 5, none⟩ v5).setCell ⟨g, 6, none⟩ v6).setCell ⟨g, 7, none⟩ v7) g #[v0, v1, v2, v3, v4, v5, v6, v7, a8, a9] := h7.set 7 v7 (by simp)
  have h9 : Bk (((((((((w.setCell ⟨g, 0, none⟩ v0).setCell ⟨g, 1, none⟩ v1).setCell ⟨g, 2, none⟩ v2).setCell ⟨g, 3, none⟩ v3).setCell ⟨g, 4, none⟩ v4).setCell ⟨g, 5, none⟩ v5).setCell ⟨g, 6, none⟩ v6).setCell ⟨g, 7, none⟩ v7).setCell ⟨g, 8, none⟩ v8) g #[v0, v1, v2, v3, v4, v5, v6, v7, v8, a9] := h8.set 8 v8 (by simp)
  have h10 : Bk ((((((((((w.setCell ⟨g, 0, none⟩ v0).setCell ⟨g, 1, none⟩ v1).setCell ⟨g, 2, none⟩ v2).setCell ⟨g, 3, none⟩ v3).setCell ⟨g, 4, none⟩ v4).setCell ⟨g, 5, none⟩ v5).setCell ⟨g, 6, none⟩ v6).setCell ⟨g, 7, none⟩ v7).setCell ⟨g, 8, none⟩ v8).setCell ⟨g, 9, none⟩ v9) g #[v0, v1, v2, v3, v4, v5, v6, v7, v8, v9] := h9.set 9 v9 (by simp)
  exact h10
theorem Bk.set6to9 {w : World} {g : Nat} {a0 a1 a2 a3 a4 a5 a6 a7 a8 a9 v6 v7 v8 v9 : Value} (h : Bk w g #[a0, a1, a2, a3, a4, a5, a6, a7, a8, a9]) : Bk ((((w.setCell ⟨g, 6, none⟩ v6).setCell ⟨g, 7, none⟩ v7).setCell ⟨g, 8, none⟩ v8).setCell ⟨g, 9, none⟩ v9) g #[a0, a1, a2, a3, a4, a5, v6, v7, v8, v9] := by
  have h1 : Bk (w.setCell ⟨g, 6, none⟩ v6) g #[a0, a1, a2, a3, a4, a5, v6, a7, a8, a9] := h.set 6 v6 (by simp)
  have h2 : Bk ((w.setCell ⟨g, 6, none⟩ v6).setCell ⟨g, 7, none⟩ v7) g #[a0, a1, a2, a3, a4, a5, v6, v7, a8, a9] := h1.set 7 v7 (by simp)
  have h3 : Bk (((w.setCell ⟨g, 6, none⟩ v6).setCell ⟨g, 7, none⟩ v7).setCell ⟨g, 8, none⟩ v8) g #[a0, a1, a2, a3, a4, a5, v6, v7, v8, a9] := h2.set 8 v8 (by simp)
  have h4 : Bk ((((w.setCell ⟨g, 6, none⟩ v6).setCell ⟨g, 7, none⟩ v7).setCell ⟨g, 8, none⟩ v8).setCell ⟨g, 9, none⟩ v9) g #[a0, a1, a2, a3, a4, a5, v6, v7, v8, v9] := h3.set 9 v9 (by simp)
  exact h4
set_option maxRecDepth 100000 in
set_option maxHeartbeats 4000000 in
theorem part_step (f : Nat) (hU : UOK f) : POK f := by
  intro w pb lb c a0 d Ls l hps hd hf hk
  have hmf : ∀ (fn : Fn) (first cap : Array Value) (w : World), (Instr.makeFunc fn first cap).run Try.prog w = .ok (.func fn first cap) w := fun _ _ _ _ => rfl
  have hpbw := hps.bk.lt
  have hlbw := hps.lt
  have hne := hps.ne
  have hL := hps.l17
  have hc := hps.cap
  obtain ⟨F, hF⟩ : ∃ F, F = prt f d l (Ls.drop a0) := ⟨_, rfl⟩
  rw [← hF]
  have hFH := Lib.hid hF
  clear hF
  go_enter_defers Try.func71, Try.ntmps71
  obtain ⟨X, hX⟩ : ∃ X, ((w.alloc (.cells #[.pointer (some ⟨pb, 0, none⟩)] 75)).alloc (.cells #[.int .i64 l.k, .int .i64 l.a, .int .i64 l.b, .int .i64 l.c] 47)).alloc (.cells #[.int .i64 0, .int .i64 0, .int .i64 0, .int .i64 0, .slice none 0 0, .slice none 0 0, .int .i64 0, .int .i64 0, .int .i64 0, .int .i64 0] 83) = X := ⟨_, rfl⟩
  have hoX : Oth pb w X := by rw [← hX]; exact (((Oth.refl pb w).alloc _).alloc _).alloc _
  have hbX : Bk X pb #[.slice (some ⟨lb, 0, none⟩) Ls.length c, .int .i64 a0, .int .i64 d] := by rw [← hX]; exact ((hps.bk.alloc _).alloc _).alloc _
  have k0 : Bk X w.heap.size #[.pointer (some ⟨pb, 0, none⟩)] := by rw [← hX]; exact ((Bk.new w _ _).alloc _).alloc _
  have k1 : Bk X (w.heap.size + 1) #[.int .i64 l.k, .int .i64 l.a, .int .i64 l.b, .int .i64 l.c] := by rw [← hX]; exact (Bk.new' (w.alloc (.cells #[.pointer (some ⟨pb, 0, none⟩)] 75)) _ _ _ (by simp)).alloc _
  have k2 : Bk X (w.heap.size + 1 + 1) #[.int .i64 0, .int .i64 0, .int .i64 0, .int .i64 0, .slice none 0 0, .slice none 0 0, .int .i64 0, .int .i64 0, .int .i64 0, .int .i64 0] := by rw [← hX]; exact Bk.new' _ _ _ _ (by simp)
  have hsX : X.heap.size = w.heap.size + 3 := by rw [← hX]; simp
  go_upto_region 1 with fail
  clear hX
  obtain ⟨Y, hY⟩ : ∃ Y, X.setCell ⟨pb, 2, none⟩ (.int .i64 ((d : Int) + 1)) = Y := ⟨_, rfl⟩
  have x0 : X.cell? ⟨w.heap.size, 0, none⟩ = some (.pointer (some ⟨pb, 0, none⟩)) := k0.cell 0
  have x2 : X.cell? ⟨pb, 2, none⟩ = some (.int .i64 d) := hbX.cell 2
  have xf : X.frozen? ⟨pb, 2, none⟩ = false := hbX.free 2
  have hoY : Oth pb w Y := by rw [← hY]; exact hoX.setCell rfl _
  have hbY : Bk Y pb #[.slice (some ⟨lb, 0, none⟩) Ls.length c, .int .i64 a0, .int .i64 ((d + 1 : Nat) : Int)] := by rw [← hY]; exact hbX.set 2 (.int .i64 ((d : Int) + 1)) (by simp)
  have k0 : Bk Y w.heap.size #[.pointer (some ⟨pb, 0, none⟩)] := by rw [← hY]; exact k0.far (by dsimp only; omega) _
  have k1 : Bk Y (w.heap.size + 1) #[.int .i64 l.k, .int .i64 l.a, .int .i64 l.b, .int .i64 l.c] := by rw [← hY]; exact k1.far (by dsimp only; omega) _
  have k2 : Bk Y (w.heap.size + 1 + 1) #[.int .i64 0, .int .i64 0, .int .i64 0, .int .i64 0, .slice none 0 0, .slice none 0 0, .int .i64 0, .int .i64 0, .int .i64 0, .int .i64 0] := by rw [← hY]; exact k2.far (by dsimp only; omega) _
  have hsY : Y.heap.size = w.heap.size + 3 := by rw [← hY, ← hsX]; simp [World.setCell]
  go_upto_region 2 with fail
  clear hY hoX hbX hsX x0 x2 xf
  have y0 : Y.cell? ⟨w.heap.size, 0, none⟩ = some (.pointer (some ⟨pb, 0, none⟩)) := k0.cell 0
  have y2 : Y.cell? ⟨pb, 2, none⟩ = some (.int .i64 ((d : Int) + 1)) := hbY.cell 2
  by_cases hd3 : 3 < d + 1
  · have hd4 : (3 : Int) < (d : Int) + 1 := by omega
    have hF0 : F = none := by rw [hFH.out]; unfold prt; rw [if_pos hd3]
    clear hFH
    go_wp2
    exact ⟨hoY, rfl, _, _, hbY, Nat.le_succ _, Nat.le_refl _⟩
  · have hd4 : ¬ (3 : Int) < (d : Int) + 1 := by omega
    have z0 : Y.cell? ⟨w.heap.size + 1, 0, none⟩ = some (.int .i64 l.k) := k1.cell 0
    have z1 : Y.cell? ⟨w.heap.size + 1, 1, none⟩ = some (.int .i64 l.a) := k1.cell 1
    have z2 : Y.cell? ⟨w.heap.size + 1, 2, none⟩ = some (.int .i64 l.b) := k1.cell 2
    have z3 : Y.cell? ⟨w.heap.size + 1, 3, none⟩ = some (.int .i64 l.c) := k1.cell 3
    obtain ⟨Z, hZ⟩ : ∃ Z, Y.alloc (.cells #[.int .i64 l.k, .int .i64 l.a, .int .i64 l.b, .int .i64 l.c, .slice none 0 0, .slice none 0 0, .int .i64 0, .int .i64 0, .int .i64 0, .int .i64 0] 83) = Z := ⟨_, rfl⟩
    have hsYH := Lib.hid hsY
    have hoZ : Oth pb w Z := by rw [← hZ]; exact hoY.alloc _
    have hbZ : Bk Z pb #[.slice (some ⟨lb, 0, none⟩) Ls.length c, .int .i64 a0, .int .i64 ((d + 1 : Nat) : Int)] := by rw [← hZ]; exact hbY.alloc _
    have k0 : Bk Z w.heap.size #[.pointer (some ⟨pb, 0, none⟩)] := by rw [← hZ]; exact k0.alloc _
    have k1 : Bk Z (w.heap.size + 1) #[.int .i64 l.k, .int .i64 l.a, .int .i64 l.b, .int .i64 l.c] := by rw [← hZ]; exact k1.alloc _
    have k2 : Bk Z (w.heap.size + 1 + 1) #[.int .i64 0, .int .i64 0, .int .i64 0, .int .i64 0, .slice none 0 0, .slice none 0 0, .int .i64 0, .int .i64 0, .int .i64 0, .int .i64 0] := by rw [← hZ]; exact k2.alloc _
    have k3 : Bk Z Y.heap.size #[.int .i64 l.k, .int .i64 l.a, .int .i64 l.b, .int .i64 l.c, .slice none 0 0, .slice none 0 0, .int .i64 0, .int .i64 0, .int .i64 0, .int .i64 0] := by rw [← hZ]; exact Bk.new _ _ _
    have hsZ : Z.heap.size = w.heap.size + 4 := by rw [← hZ, World.size_alloc, hsY]
    have hZp := hps.oth hoZ hbZ hps.le
    have hZH := Lib.hid hZ
    clear hZ hsY
    go_upto_region 6 with fail
    rw [hZH.out]
    have hsY := hsYH.out
    clear hZH hsYH hoY hbY y0 y2 z0 z1 z2 z3
    rw [hsY] at k3 ⊢
    clear hsY
    have z0 : Z.cell? ⟨w.heap.size, 0, none⟩ = some (.pointer (some ⟨pb, 0, none⟩)) := k0.cell 0
    have z1 : Z.cell? ⟨w.heap.size + 1, 0, none⟩ = some (.int .i64 l.k) := k1.cell 0
    rcases hk with hk | hk
    · skip
      have e4 : (l.k == 4) = true := beq_iff_eq.2 hk
      have hUc := hU Z pb lb c a0 (d + 1) Ls 5 hZp (by omega) hf
      have hFe : F = match pr f (d + 1) 5 (Ls.drop a0) with
                | none => none
                | some (p, e, r1) => some (.rep l e p .nil, r1) := by rw [hFH.out]; unfold prt; rw [if_neg hd3, if_pos hk]; rfl
      clear hk hFH
      have hFH := Lib.hid hFe
      clear hFe
      go_wp2_with (go_at_call 58; refine hUc.mono ?_)
      rintro e W1 ⟨hoU, hm⟩
      have w0 := k0.oth hoU (by omega)
      have w2 := k2.oth hoU (by omega)
      have w3 := k3.oth hoU (by omega)
      have hoV := hoZ.trans hoU
      have hsU := hoU.size
      have v0 : W1.cell? ⟨w.heap.size, 0, none⟩ = some (.pointer (some ⟨pb, 0, none⟩)) := w0.cell 0
      rcases hr : pr f (d + 1) 5 (Ls.drop a0) with _ | ⟨p, e5, r1⟩
      · rw [hr] at hm
        obtain ⟨rfl, a9, d9, hb9, hd9⟩ := hm
        have hF0 : F = none := by rw [hFH.out, hr]
        clear hFH hr
        go_wp2
        refine leaves_cons (f := 75) (args := #[.pointer (some ⟨w.heap.size, 0, none⟩)]) (by simp) (by simp [go_sem]) ?_
        refine (part1_d w.heap.size pb _ (.panicking _) _ v0 (hb9.cell 2) (hb9.free 2) (by omega)).mono ?_
        rintro e u' w'' ⟨rfl, rfl, rfl⟩
        exact ⟨hoV.setCell rfl _, rfl, a9, d9 - 1, by rw [show ((d9 - 1 : Nat) : Int) = (d9 : Int) - 1 by omega]; exact hb9.set 2 (.int .i64 ((d9 : Int) - 1)) (by simp), by omega, by omega⟩
      · rw [hr] at hm
        obtain ⟨v1, a1, rfl, hT, hb1, ha1, ha2, hy, hx⟩ := hm
        dsimp only at hT hy hx
        have hF0 : F = some (.rep l e5 p .nil, r1) := by rw [hFH.out, hr]
        clear hFH hr
        obtain ⟨A2, c9, qs, rfl, _⟩ := id hT
        obtain ⟨m, rfl⟩ : ∃ m, a1 = m + 1 := ⟨a1 - 1, by omega⟩
        have hm1 : m < Ls.length := by omega
        have fs : W1.frozen? ⟨w.heap.size + 3, 4, none⟩ = false := w3.free 4
        have xs : W1.cell? ⟨w.heap.size + 3, 4, none⟩ = some (.slice none 0 0) := w3.cell 4
        obtain ⟨V, hV⟩ : ∃ V, RowKit.Hid (W1.setCell ⟨w.heap.size + 3, 4, none⟩ (.slice A2 (pl p) c9) = V) := hidE _
        have hoN : Oth pb w V := by rw [← hV.out]; exact hoV.setNew (by dsimp only; omega) _
        have n0 : Bk V w.heap.size #[.pointer (some ⟨pb, 0, none⟩)] := by rw [← hV.out]; exact w0.far (by dsimp only; omega) _
        have n2 := w2.far (p := ⟨w.heap.size + 3, 4, none⟩) (by dsimp only; omega) (.slice A2 (pl p) c9)
        rw [hV.out] at n2
        have n3 := w3.set 4 (.slice A2 (pl p) c9) (by simp)
        rw [hV.out] at n3
        have nb : Bk V pb #[.slice (some ⟨lb, 0, none⟩) Ls.length c, .int .i64 ((m + 1 : Nat) : Int), .int .i64 ((d + 1 : Nat) : Int)] := by rw [← hV.out]; exact hb1.far (by dsimp only; omega) _
        have hHV : Hi (w.heap.size + 4) W1 V := by rw [← hV.out]; exact (Hi.refl _ _).setCell (by dsimp only; omega) _
        obtain ⟨l0, l1, l2, l3⟩ := (hps.oth hoN nb ha2).ln m hm1
        have hxx : Ls.getD m gz = e5 := hx.symm
        rw [hxx] at l0 l1 l2 l3
        go_upto_region 10 with fail
        rw [hV.out]
        clear hV w0 w2 w3 v0 fs xs hxx hx
        have m0 : V.cell? ⟨w.heap.size, 0, none⟩ = some (.pointer (some ⟨pb, 0, none⟩)) := n0.cell 0
        have m1 : V.cell? ⟨pb, 0, none⟩ = some (.slice (some ⟨lb, 0, none⟩) Ls.length c) := nb.cell 0
        have m2 : V.cell? ⟨pb, 1, none⟩ = some (.int .i64 ((m : Int) + 1)) := nb.cell 1
        have hi0 : (0 : Int) ≤ (m : Int) := by omega
        have hsb : (m : Int) + 1 - 1 = (m : Int) := by omega
        have hwm : IntKind.i64.wrap (m : Int) = (m : Int) := IntWalk.i64_in _ (by show (-9223372036854775808 : Int) ≤ (m : Int) ∧ (m : Int) ≤ 9223372036854775807; omega)
        have hi1 : (m : Int) < (Ls.length : Int) := by omega
        have x6 : V.cell? ⟨w.heap.size + 3, 6, none⟩ = some (.int .i64 0) := n3.cell 6
        have x7 : V.cell? ⟨w.heap.size + 3, 7, none⟩ = some (.int .i64 0) := n3.cell 7
        have x8 : V.cell? ⟨w.heap.size + 3, 8, none⟩ = some (.int .i64 0) := n3.cell 8
        have x9 : V.cell? ⟨w.heap.size + 3, 9, none⟩ = some (.int .i64 0) := n3.cell 9
        have g6 : V.frozen? ⟨w.heap.size + 3, 6, none⟩ = false := n3.free 6
        have g7 : V.frozen? ⟨w.heap.size + 3, 7, none⟩ = false := n3.free 7
        have g8 : V.frozen? ⟨w.heap.size + 3, 8, none⟩ = false := n3.free 8
        have g9 : V.frozen? ⟨w.heap.size + 3, 9, none⟩ = false := n3.free 9
        have hne4 : ¬ w.heap.size + 3 = pb := by omega
        have hne5 : ¬ w.heap.size + 3 = lb := by omega
        have hne2 : ¬ pb = w.heap.size + 3 := by omega
        have hne3 : ¬ lb = w.heap.size + 3 := by omega
        obtain ⟨U, hU2⟩ : ∃ U, RowKit.Hid (((((V.setCell ⟨w.heap.size + 3, 6, none⟩ (.int .i64 e5.k)).setCell ⟨w.heap.size + 3, 7, none⟩ (.int .i64 e5.a)).setCell ⟨w.heap.size + 3, 8, none⟩ (.int .i64 e5.b)).setCell ⟨w.heap.size + 3, 9, none⟩ (.int .i64 e5.c)).drew = U) := hidE _
        have hoU3 : Oth pb w U := by rw [← hU2.out]; exact (((((hoN.setNew (by dsimp only; omega) _).setNew (by dsimp only; omega) _).setNew (by dsimp only; omega) _).setNew (by dsimp only; omega) _)).drew
        have p0 : Bk U w.heap.size #[.pointer (some ⟨pb, 0, none⟩)] := by rw [← hU2.out]; exact (((((n0.far (by dsimp only; omega) _).far (by dsimp only; omega) _).far (by dsimp only; omega) _).far (by dsimp only; omega) _)).drew
        have p2 := (((((n2.far (p := ⟨w.heap.size + 3, 6, none⟩) (by dsimp only; omega) (.int .i64 e5.k)).far (p := ⟨w.heap.size + 3, 7, none⟩) (by dsimp only; omega) (.int .i64 e5.a)).far (p := ⟨w.heap.size + 3, 8, none⟩) (by dsimp only; omega) (.int .i64 e5.b)).far (p := ⟨w.heap.size + 3, 9, none⟩) (by dsimp only; omega) (.int .i64 e5.c))).drew
        rw [hU2.out] at p2
        have p3 : Bk U (w.heap.size + 3) #[.int .i64 l.k, .int .i64 l.a, .int .i64 l.b, .int .i64 l.c, (.slice A2 (pl p) c9), vNil, .int .i64 e5.k, .int .i64 e5.a, .int .i64 e5.b, .int .i64 e5.c] := by rw [← hU2.out]; exact (Bk.set6to9 n3).drew
        have pbk : Bk U pb #[.slice (some ⟨lb, 0, none⟩) Ls.length c, .int .i64 ((m + 1 : Nat) : Int), .int .i64 ((d + 1 : Nat) : Int)] := by rw [← hU2.out]; exact (((((nb.far (by dsimp only; omega) _).far (by dsimp only; omega) _).far (by dsimp only; omega) _).far (by dsimp only; omega) _)).drew
        have hHU : Hi (w.heap.size + 4) V U := by rw [← hU2.out]; exact (((((Hi.refl _ _).setCell (by dsimp only; omega) _).setCell (by dsimp only; omega) _).setCell (by dsimp only; omega) _).setCell (by dsimp only; omega) _).drew
        go_wp2
        go_region_held3 (fun w' => (w'.cell? ⟨w.heap.size, 0, none⟩ = some (.pointer (some ⟨pb, 0, none⟩)) ∧ w'.cell? ⟨pb, 0, none⟩ = some (.slice (some ⟨lb, 0, none⟩) Ls.length c) ∧ w'.cell? ⟨pb, 1, none⟩ = some (.int .i64 ((m : Int) + 1))) ∧ (w'.cell? ⟨lb, m * 4, none⟩ = some (.int .i64 e5.k) ∧ w'.cell? ⟨lb, m * 4 + 1, none⟩ = some (.int .i64 e5.a) ∧ w'.cell? ⟨lb, m * 4 + 2, none⟩ = some (.int .i64 e5.b) ∧ w'.cell? ⟨lb, m * 4 + 3, none⟩ = some (.int .i64 e5.c)) ∧ w'.frozen? ⟨w.heap.size + 3, 6, none⟩ = false ∧ w'.frozen? ⟨w.heap.size + 3, 7, none⟩ = false ∧ w'.frozen? ⟨w.heap.size + 3, 8, none⟩ = false ∧ w'.frozen? ⟨w.heap.size + 3, 9, none⟩ = false) (go_keep) (fail)
        go_upto_region 11 with fail
        rw [hU2.out]
        clear hU2 m0 m1 m2 l0 l1 l2 l3 x6 x7 x8 x9 g6 g7 g8 g9
        have u3c := p3.cell
        have u2c := p2.cell
        have u2f := p2.free
        have y0 : U.cell? ⟨w.heap.size, 0, none⟩ = some (.pointer (some ⟨pb, 0, none⟩)) := p0.cell 0
        have y2 : U.cell? ⟨pb, 2, none⟩ = some (.int .i64 ((d : Int) + 1)) := pbk.cell 2
        have yf : U.frozen? ⟨pb, 2, none⟩ = false := pbk.free 2
        go_wp2
        refine leaves_cons (f := 75) (args := #[.pointer (some ⟨w.heap.size, 0, none⟩)]) (by simp) (by simp [go_sem]) ?_
        obtain ⟨W5, hW5⟩ : ∃ W5, RowKit.Hid (((((((((((U.setCell ⟨w.heap.size + 1 + 1, 0, none⟩ (.int .i64 l.k)).setCell ⟨w.heap.size + 1 + 1, 1, none⟩ (.int .i64 l.a)).setCell ⟨w.heap.size + 1 + 1, 2, none⟩ (.int .i64 l.b)).setCell ⟨w.heap.size + 1 + 1, 3, none⟩ (.int .i64 l.c)).setCell ⟨w.heap.size + 1 + 1, 4, none⟩ (.slice A2 (pl p) c9)).setCell ⟨w.heap.size + 1 + 1, 5, none⟩ (.slice none 0 0)).setCell ⟨w.heap.size + 1 + 1, 6, none⟩ (.int .i64 e5.k)).setCell ⟨w.heap.size + 1 + 1, 7, none⟩ (.int .i64 e5.a)).setCell ⟨w.heap.size + 1 + 1, 8, none⟩ (.int .i64 e5.b)).setCell ⟨w.heap.size + 1 + 1, 9, none⟩ (.int .i64 e5.c)) = W5) := hidE _
        have b0 : Bk W5 w.heap.size #[.pointer (some ⟨pb, 0, none⟩)] := by rw [← hW5.out]; exact ((((((((((p0.far (p := ⟨w.heap.size + 1 + 1, 0, none⟩) (by dsimp only; omega) _).far (p := ⟨w.heap.size + 1 + 1, 1, none⟩) (by dsimp only; omega) _).far (p := ⟨w.heap.size + 1 + 1, 2, none⟩) (by dsimp only; omega) _).far (p := ⟨w.heap.size + 1 + 1, 3, none⟩) (by dsimp only; omega) _).far (p := ⟨w.heap.size + 1 + 1, 4, none⟩) (by dsimp only; omega) _).far (p := ⟨w.heap.size + 1 + 1, 5, none⟩) (by dsimp only; omega) _).far (p := ⟨w.heap.size + 1 + 1, 6, none⟩) (by dsimp only; omega) _).far (p := ⟨w.heap.size + 1 + 1, 7, none⟩) (by dsimp only; omega) _).far (p := ⟨w.heap.size + 1 + 1, 8, none⟩) (by dsimp only; omega) _).far (p := ⟨w.heap.size + 1 + 1, 9, none⟩) (by dsimp only; omega) _)
        have bb : Bk W5 pb #[.slice (some ⟨lb, 0, none⟩) Ls.length c, .int .i64 ((m + 1 : Nat) : Int), .int .i64 ((d + 1 : Nat) : Int)] := by rw [← hW5.out]; exact ((((((((((pbk.far (p := ⟨w.heap.size + 1 + 1, 0, none⟩) (by dsimp only; omega) _).far (p := ⟨w.heap.size + 1 + 1, 1, none⟩) (by dsimp only; omega) _).far (p := ⟨w.heap.size + 1 + 1, 2, none⟩) (by dsimp only; omega) _).far (p := ⟨w.heap.size + 1 + 1, 3, none⟩) (by dsimp only; omega) _).far (p := ⟨w.heap.size + 1 + 1, 4, none⟩) (by dsimp only; omega) _).far (p := ⟨w.heap.size + 1 + 1, 5, none⟩) (by dsimp only; omega) _).far (p := ⟨w.heap.size + 1 + 1, 6, none⟩) (by dsimp only; omega) _).far (p := ⟨w.heap.size + 1 + 1, 7, none⟩) (by dsimp only; omega) _).far (p := ⟨w.heap.size + 1 + 1, 8, none⟩) (by dsimp only; omega) _).far (p := ⟨w.heap.size + 1 + 1, 9, none⟩) (by dsimp only; omega) _)
        have o5 : Oth pb w W5 := by rw [← hW5.out]; exact ((((((((((hoU3.setNew (q := ⟨w.heap.size + 1 + 1, 0, none⟩) (by dsimp only; omega) _).setNew (q := ⟨w.heap.size + 1 + 1, 1, none⟩) (by dsimp only; omega) _).setNew (q := ⟨w.heap.size + 1 + 1, 2, none⟩) (by dsimp only; omega) _).setNew (q := ⟨w.heap.size + 1 + 1, 3, none⟩) (by dsimp only; omega) _).setNew (q := ⟨w.heap.size + 1 + 1, 4, none⟩) (by dsimp only; omega) _).setNew (q := ⟨w.heap.size + 1 + 1, 5, none⟩) (by dsimp only; omega) _).setNew (q := ⟨w.heap.size + 1 + 1, 6, none⟩) (by dsimp only; omega) _).setNew (q := ⟨w.heap.size + 1 + 1, 7, none⟩) (by dsimp only; omega) _).setNew (q := ⟨w.heap.size + 1 + 1, 8, none⟩) (by dsimp only; omega) _).setNew (q := ⟨w.heap.size + 1 + 1, 9, none⟩) (by dsimp only; omega) _)
        have hi5 : Hi (w.heap.size + 4) U W5 := by rw [← hW5.out]; exact (((((((((((Hi.refl (w.heap.size + 4) U).setCell (q := ⟨w.heap.size + 1 + 1, 0, none⟩) (by dsimp only; omega) _).setCell (q := ⟨w.heap.size + 1 + 1, 1, none⟩) (by dsimp only; omega) _).setCell (q := ⟨w.heap.size + 1 + 1, 2, none⟩) (by dsimp only; omega) _).setCell (q := ⟨w.heap.size + 1 + 1, 3, none⟩) (by dsimp only; omega) _).setCell (q := ⟨w.heap.size + 1 + 1, 4, none⟩) (by dsimp only; omega) _).setCell (q := ⟨w.heap.size + 1 + 1, 5, none⟩) (by dsimp only; omega) _).setCell (q := ⟨w.heap.size + 1 + 1, 6, none⟩) (by dsimp only; omega) _).setCell (q := ⟨w.heap.size + 1 + 1, 7, none⟩) (by dsimp only; omega) _).setCell (q := ⟨w.heap.size + 1 + 1, 8, none⟩) (by dsimp only; omega) _).setCell (q := ⟨w.heap.size + 1 + 1, 9, none⟩) (by dsimp only; omega) _)
        have k5 := Bk.set10 (v0 := .int .i64 l.k) (v1 := .int .i64 l.a) (v2 := .int .i64 l.b) (v3 := .int .i64 l.c) (v4 := (.slice A2 (pl p) c9)) (v5 := (.slice none 0 0)) (v6 := .int .i64 e5.k) (v7 := .int .i64 e5.a) (v8 := .int .i64 e5.b) (v9 := .int .i64 e5.c) p2
        rw [hW5.out] at k5 ⊢
        refine (part1_d w.heap.size pb ((d + 1 : Nat) : Int) .returning W5 (b0.cell 0) (bb.cell 2) (bb.free 2) (by omega)).mono ?_
        rintro e u' w'' ⟨rfl, rfl, rfl⟩
        rw [show ((d + 1 : Nat) : Int) - 1 = (d : Int) by omega]
        have k9 := k5.far (p := ⟨pb, 2, none⟩) (by dsimp only; omega) (.int .i64 (d : Int))
        have b9 : Bk (W5.setCell ⟨pb, 2, none⟩ (.int .i64 (d : Int))) pb #[.slice (some ⟨lb, 0, none⟩) Ls.length c, .int .i64 ((m + 1 : Nat) : Int), .int .i64 (d : Int)] := bb.set 2 _ (by simp)
        have hH9 := (((hHV.trans hHU).trans hi5).setCell (q := ⟨pb, 2, none⟩) (by dsimp only; omega) (.int .i64 (d : Int)))
        rw [hsZ] at hT
        have hTf := hT.hi (A := w.heap.size) hH9 (by omega)
        obtain ⟨_, _, rs, ee, hr1, hr2⟩ := hTf
        cases ee
        refine ⟨_, res_bk _ (w.heap.size + 1 + 1) _ rfl (by rfl) Try.underlying83 rfl (by kernel_rfl) k9, ?_⟩
        rw [hF0]
        exact ⟨o5.setCell rfl _, _, _, _, m + 1, rfl, ⟨rfl, rfl⟩, ⟨_, _, rs, [], rfl, hr1, hr2, rfl⟩, rfl, b9, by omega, by omega, hy⟩
    · skip
      have e4 : (l.k == 4) = false := beq_eq_false_iff_ne.2 (by omega)
      have hUc := hU Z pb lb c a0 (d + 1) Ls 7 hZp (by omega) hf
      have hFe : F = match pr f (d + 1) 7 (Ls.drop a0) with
                | none => none
                | some (p, m, r1) => match pr f (d + 1) 8 r1 with
                  | none => none
                  | some (q, e, r2) => some (.iff l m e p q .nil, r2) := by rw [hFH.out]; unfold prt; rw [if_neg hd3, if_neg (by omega)]; rfl
      clear hk hFH
      have hFH := Lib.hid hFe
      clear hFe
      go_wp2_with (go_at_call 58; refine hUc.mono ?_)
      rintro e W1 ⟨hoU, hm⟩
      have w0 := k0.oth hoU (by omega)
      have w2 := k2.oth hoU (by omega)
      have w3 := k3.oth hoU (by omega)
      have hoV := hoZ.trans hoU
      have hsU := hoU.size
      have v0 : W1.cell? ⟨w.heap.size, 0, none⟩ = some (.pointer (some ⟨pb, 0, none⟩)) := w0.cell 0
      rcases hr : pr f (d + 1) 7 (Ls.drop a0) with _ | ⟨p, e5, r1⟩
      · rw [hr] at hm
        obtain ⟨rfl, a9, d9, hb9, hd9⟩ := hm
        have hF0 : F = none := by rw [hFH.out, hr]
        clear hFH hr
        go_wp2
        refine leaves_cons (f := 75) (args := #[.pointer (some ⟨w.heap.size, 0, none⟩)]) (by simp) (by simp [go_sem]) ?_
        refine (part1_d w.heap.size pb _ (.panicking _) _ v0 (hb9.cell 2) (hb9.free 2) (by omega)).mono ?_
        rintro e u' w'' ⟨rfl, rfl, rfl⟩
        exact ⟨hoV.setCell rfl _, rfl, a9, d9 - 1, by rw [show ((d9 - 1 : Nat) : Int) = (d9 : Int) - 1 by omega]; exact hb9.set 2 (.int .i64 ((d9 : Int) - 1)) (by simp), by omega, by omega⟩
      · rw [hr] at hm
        obtain ⟨v1, a1, rfl, hT, hb1, ha1, ha2, hy, hx⟩ := hm
        dsimp only at hT hy hx
        subst hy
        obtain ⟨A, cc, ps, rfl, _⟩ := id hT
        have f4 : W1.frozen? ⟨w.heap.size + 3, 4, none⟩ = false := w3.free 4
        have x4 : W1.cell? ⟨w.heap.size + 3, 4, none⟩ = some (.slice none 0 0) := w3.cell 4
        obtain ⟨W2, hW2⟩ : ∃ W2, RowKit.Hid (W1.setCell ⟨w.heap.size + 3, 4, none⟩ (.slice A (pl p) cc) = W2) := hidE _
        have hoV2 : Oth pb w W2 := by rw [← hW2.out]; exact hoV.setNew (by dsimp only; omega) _
        have q0 : Bk W2 w.heap.size #[.pointer (some ⟨pb, 0, none⟩)] := by rw [← hW2.out]; exact w0.far (by dsimp only; omega) _
        have q2 := w2.far (p := ⟨w.heap.size + 3, 4, none⟩) (by dsimp only; omega) (.slice A (pl p) cc)
        rw [hW2.out] at q2
        have q3 := w3.set 4 (.slice A (pl p) cc) (by simp)
        rw [hW2.out] at q3
        have qb : Bk W2 pb #[.slice (some ⟨lb, 0, none⟩) Ls.length c, .int .i64 (a1 : Nat), .int .i64 (d + 1 : Nat)] := by rw [← hW2.out]; exact hb1.far (by dsimp only; omega) _
        have hT2 := hT.hi (B := Z.heap.size) (A := Z.heap.size) (w' := W2) (by rw [← hW2.out]; exact (Hi.refl _ _).setCell (by dsimp only; omega) _) (Nat.le_refl _)
        have hs2 : W2.heap.size = W1.heap.size := by rw [← hW2.out]; simp [World.setCell]
        have hUd := hU W2 pb lb c a1 (d + 1) Ls 8 (hps.oth hoV2 qb ha2) (by omega) (by rw [List.length_drop] at hf ⊢; omega)
        go_upto_region 9 with fail
        rw [hW2.out]
        clear hW2 w0 w2 w3 v0 f4 x4 hT hoV
        have v0 : W2.cell? ⟨w.heap.size, 0, none⟩ = some (.pointer (some ⟨pb, 0, none⟩)) := q0.cell 0
        go_wp2_with (go_at_call 58; refine hUd.mono ?_)
        rintro e W1 ⟨hoU2, hm⟩
        have w0 := q0.oth hoU2 (by omega)
        have w2 := q2.oth hoU2 (by omega)
        have w3 := q3.oth hoU2 (by omega)
        have hoV := hoV2.trans hoU2
        have hsU2 := hoU2.size
        have hT3 := hT2.hi (A := Z.heap.size) ((Hi.refl _ _).oth hoU2 (by omega)) (Nat.le_refl _)
        have v0 : W1.cell? ⟨w.heap.size, 0, none⟩ = some (.pointer (some ⟨pb, 0, none⟩)) := w0.cell 0
        rcases hr2 : pr f (d + 1) 8 (Ls.drop a1) with _ | ⟨q, e6, r2⟩
        · rw [hr2] at hm
          obtain ⟨rfl, a9, d9, hb9, hd9⟩ := hm
          have hF0 : F = none := by rw [hFH.out, hr]; dsimp only; rw [hr2]
          clear hFH hr hr2
          go_wp2
          refine leaves_cons (f := 75) (args := #[.pointer (some ⟨w.heap.size, 0, none⟩)]) (by simp) (by simp [go_sem]) ?_
          refine (part1_d w.heap.size pb _ (.panicking _) _ v0 (hb9.cell 2) (hb9.free 2) (by omega)).mono ?_
          rintro e u' w'' ⟨rfl, rfl, rfl⟩
          exact ⟨hoV.setCell rfl _, rfl, a9, d9 - 1, by rw [show ((d9 - 1 : Nat) : Int) = (d9 : Int) - 1 by omega]; exact hb9.set 2 (.int .i64 ((d9 : Int) - 1)) (by simp), by omega, by omega⟩
        · rw [hr2] at hm
          obtain ⟨v2, a2, rfl, hTq, hb2, ha3, ha4, hy2, hx2⟩ := hm
          dsimp only at hTq hy2 hx2
          have hF0 : F = some (.iff l e5 e6 p q .nil, r2) := by rw [hFH.out, hr]; dsimp only; rw [hr2]
          clear hFH hr hr2
          obtain ⟨A2, c9, qs, rfl, _⟩ := id hTq
          obtain ⟨m, rfl⟩ : ∃ m, a2 = m + 1 := ⟨a2 - 1, by omega⟩
          have hm1 : m < Ls.length := by omega
          have fs : W1.frozen? ⟨w.heap.size + 3, 5, none⟩ = false := w3.free 5
          have xs : W1.cell? ⟨w.heap.size + 3, 5, none⟩ = some (.slice none 0 0) := w3.cell 5
          obtain ⟨V, hV⟩ : ∃ V, RowKit.Hid (W1.setCell ⟨w.heap.size + 3, 5, none⟩ (.slice A2 (pl q) c9) = V) := hidE _
          have hoN : Oth pb w V := by rw [← hV.out]; exact hoV.setNew (by dsimp only; omega) _
          have n0 : Bk V w.heap.size #[.pointer (some ⟨pb, 0, none⟩)] := by rw [← hV.out]; exact w0.far (by dsimp only; omega) _
          have n2 := w2.far (p := ⟨w.heap.size + 3, 5, none⟩) (by dsimp only; omega) (.slice A2 (pl q) c9)
          rw [hV.out] at n2
          have n3 := w3.set 5 (.slice A2 (pl q) c9) (by simp)
          rw [hV.out] at n3
          have nb : Bk V pb #[.slice (some ⟨lb, 0, none⟩) Ls.length c, .int .i64 ((m + 1 : Nat) : Int), .int .i64 ((d + 1 : Nat) : Int)] := by rw [← hV.out]; exact hb2.far (by dsimp only; omega) _
          have hHV : Hi (w.heap.size + 4) W1 V := by rw [← hV.out]; exact (Hi.refl _ _).setCell (by dsimp only; omega) _
          obtain ⟨l0, l1, l2, l3⟩ := (hps.oth hoN nb ha4).ln m hm1
          have hxx : Ls.getD m gz = e6 := hx2.symm
          rw [hxx] at l0 l1 l2 l3
          go_upto_region 10 with fail
          rw [hV.out]
          clear hV w0 w2 w3 v0 fs xs hxx hx hx2
          have m0 : V.cell? ⟨w.heap.size, 0, none⟩ = some (.pointer (some ⟨pb, 0, none⟩)) := n0.cell 0
          have m1 : V.cell? ⟨pb, 0, none⟩ = some (.slice (some ⟨lb, 0, none⟩) Ls.length c) := nb.cell 0
          have m2 : V.cell? ⟨pb, 1, none⟩ = some (.int .i64 ((m : Int) + 1)) := nb.cell 1
          have hi0 : (0 : Int) ≤ (m : Int) := by omega
          have hsb : (m : Int) + 1 - 1 = (m : Int) := by omega
          have hwm : IntKind.i64.wrap (m : Int) = (m : Int) := IntWalk.i64_in _ (by show (-9223372036854775808 : Int) ≤ (m : Int) ∧ (m : Int) ≤ 9223372036854775807; omega)
          have hi1 : (m : Int) < (Ls.length : Int) := by omega
          have x6 : V.cell? ⟨w.heap.size + 3, 6, none⟩ = some (.int .i64 0) := n3.cell 6
          have x7 : V.cell? ⟨w.heap.size + 3, 7, none⟩ = some (.int .i64 0) := n3.cell 7
          have x8 : V.cell? ⟨w.heap.size + 3, 8, none⟩ = some (.int .i64 0) := n3.cell 8
          have x9 : V.cell? ⟨w.heap.size + 3, 9, none⟩ = some (.int .i64 0) := n3.cell 9
          have g6 : V.frozen? ⟨w.heap.size + 3, 6, none⟩ = false := n3.free 6
          have g7 : V.frozen? ⟨w.heap.size + 3, 7, none⟩ = false := n3.free 7
          have g8 : V.frozen? ⟨w.heap.size + 3, 8, none⟩ = false := n3.free 8
          have g9 : V.frozen? ⟨w.heap.size + 3, 9, none⟩ = false := n3.free 9
          have hne4 : ¬ w.heap.size + 3 = pb := by omega
          have hne5 : ¬ w.heap.size + 3 = lb := by omega
          have hne2 : ¬ pb = w.heap.size + 3 := by omega
          have hne3 : ¬ lb = w.heap.size + 3 := by omega
          obtain ⟨U, hU2⟩ : ∃ U, RowKit.Hid (((((V.setCell ⟨w.heap.size + 3, 6, none⟩ (.int .i64 e6.k)).setCell ⟨w.heap.size + 3, 7, none⟩ (.int .i64 e6.a)).setCell ⟨w.heap.size + 3, 8, none⟩ (.int .i64 e6.b)).setCell ⟨w.heap.size + 3, 9, none⟩ (.int .i64 e6.c)).drew = U) := hidE _
          have hoU3 : Oth pb w U := by rw [← hU2.out]; exact (((((hoN.setNew (by dsimp only; omega) _).setNew (by dsimp only; omega) _).setNew (by dsimp only; omega) _).setNew (by dsimp only; omega) _)).drew
          have p0 : Bk U w.heap.size #[.pointer (some ⟨pb, 0, none⟩)] := by rw [← hU2.out]; exact (((((n0.far (by dsimp only; omega) _).far (by dsimp only; omega) _).far (by dsimp only; omega) _).far (by dsimp only; omega) _)).drew
          have p2 := (((((n2.far (p := ⟨w.heap.size + 3, 6, none⟩) (by dsimp only; omega) (.int .i64 e6.k)).far (p := ⟨w.heap.size + 3, 7, none⟩) (by dsimp only; omega) (.int .i64 e6.a)).far (p := ⟨w.heap.size + 3, 8, none⟩) (by dsimp only; omega) (.int .i64 e6.b)).far (p := ⟨w.heap.size + 3, 9, none⟩) (by dsimp only; omega) (.int .i64 e6.c))).drew
          rw [hU2.out] at p2
          have p3 : Bk U (w.heap.size + 3) #[.int .i64 l.k, .int .i64 l.a, .int .i64 l.b, .int .i64 l.c, (.slice A (pl p) cc), (.slice A2 (pl q) c9), .int .i64 e6.k, .int .i64 e6.a, .int .i64 e6.b, .int .i64 e6.c] := by rw [← hU2.out]; exact (Bk.set6to9 n3).drew
          have pbk : Bk U pb #[.slice (some ⟨lb, 0, none⟩) Ls.length c, .int .i64 ((m + 1 : Nat) : Int), .int .i64 ((d + 1 : Nat) : Int)] := by rw [← hU2.out]; exact (((((nb.far (by dsimp only; omega) _).far (by dsimp only; omega) _).far (by dsimp only; omega) _).far (by dsimp only; omega) _)).drew
          have hHU : Hi (w.heap.size + 4) V U := by rw [← hU2.out]; exact (((((Hi.refl _ _).setCell (by dsimp only; omega) _).setCell (by dsimp only; omega) _).setCell (by dsimp only; omega) _).setCell (by dsimp only; omega) _).drew
          go_wp2
          go_region_held3 (fun w' => (w'.cell? ⟨w.heap.size, 0, none⟩ = some (.pointer (some ⟨pb, 0, none⟩)) ∧ w'.cell? ⟨pb, 0, none⟩ = some (.slice (some ⟨lb, 0, none⟩) Ls.length c) ∧ w'.cell? ⟨pb, 1, none⟩ = some (.int .i64 ((m : Int) + 1))) ∧ (w'.cell? ⟨lb, m * 4, none⟩ = some (.int .i64 e6.k) ∧ w'.cell? ⟨lb, m * 4 + 1, none⟩ = some (.int .i64 e6.a) ∧ w'.cell? ⟨lb, m * 4 + 2, none⟩ = some (.int .i64 e6.b) ∧ w'.cell? ⟨lb, m * 4 + 3, none⟩ = some (.int .i64 e6.c)) ∧ w'.frozen? ⟨w.heap.size + 3, 6, none⟩ = false ∧ w'.frozen? ⟨w.heap.size + 3, 7, none⟩ = false ∧ w'.frozen? ⟨w.heap.size + 3, 8, none⟩ = false ∧ w'.frozen? ⟨w.heap.size + 3, 9, none⟩ = false) (go_keep) (fail)
          go_upto_region 11 with fail
          rw [hU2.out]
          clear hU2 m0 m1 m2 l0 l1 l2 l3 x6 x7 x8 x9 g6 g7 g8 g9
          have u3c := p3.cell
          have u2c := p2.cell
          have u2f := p2.free
          have y0 : U.cell? ⟨w.heap.size, 0, none⟩ = some (.pointer (some ⟨pb, 0, none⟩)) := p0.cell 0
          have y2 : U.cell? ⟨pb, 2, none⟩ = some (.int .i64 ((d : Int) + 1)) := pbk.cell 2
          have yf : U.frozen? ⟨pb, 2, none⟩ = false := pbk.free 2
          go_wp2
          refine leaves_cons (f := 75) (args := #[.pointer (some ⟨w.heap.size, 0, none⟩)]) (by simp) (by simp [go_sem]) ?_
          obtain ⟨W5, hW5⟩ : ∃ W5, RowKit.Hid (((((((((((U.setCell ⟨w.heap.size + 1 + 1, 0, none⟩ (.int .i64 l.k)).setCell ⟨w.heap.size + 1 + 1, 1, none⟩ (.int .i64 l.a)).setCell ⟨w.heap.size + 1 + 1, 2, none⟩ (.int .i64 l.b)).setCell ⟨w.heap.size + 1 + 1, 3, none⟩ (.int .i64 l.c)).setCell ⟨w.heap.size + 1 + 1, 4, none⟩ (.slice A (pl p) cc)).setCell ⟨w.heap.size + 1 + 1, 5, none⟩ (.slice A2 (pl q) c9)).setCell ⟨w.heap.size + 1 + 1, 6, none⟩ (.int .i64 e6.k)).setCell ⟨w.heap.size + 1 + 1, 7, none⟩ (.int .i64 e6.a)).setCell ⟨w.heap.size + 1 + 1, 8, none⟩ (.int .i64 e6.b)).setCell ⟨w.heap.size + 1 + 1, 9, none⟩ (.int .i64 e6.c)) = W5) := hidE _
          have b0 : Bk W5 w.heap.size #[.pointer (some ⟨pb, 0, none⟩)] := by rw [← hW5.out]; exact ((((((((((p0.far (p := ⟨w.heap.size + 1 + 1, 0, none⟩) (by dsimp only; omega) _).far (p := ⟨w.heap.size + 1 + 1, 1, none⟩) (by dsimp only; omega) _).far (p := ⟨w.heap.size + 1 + 1, 2, none⟩) (by dsimp only; omega) _).far (p := ⟨w.heap.size + 1 + 1, 3, none⟩) (by dsimp only; omega) _).far (p := ⟨w.heap.size + 1 + 1, 4, none⟩) (by dsimp only; omega) _).far (p := ⟨w.heap.size + 1 + 1, 5, none⟩) (by dsimp only; omega) _).far (p := ⟨w.heap.size + 1 + 1, 6, none⟩) (by dsimp only; omega) _).far (p := ⟨w.heap.size + 1 + 1, 7, none⟩) (by dsimp only; omega) _).far (p := ⟨w.heap.size + 1 + 1, 8, none⟩) (by dsimp only; omega) _).far (p := ⟨w.heap.size + 1 + 1, 9, none⟩) (by dsimp only; omega) _)
          have bb : Bk W5 pb #[.slice (some ⟨lb, 0, none⟩) Ls.length c, .int .i64 ((m + 1 : Nat) : Int), .int .i64 ((d + 1 : Nat) : Int)] := by rw [← hW5.out]; exact ((((((((((pbk.far (p := ⟨w.heap.size + 1 + 1, 0, none⟩) (by dsimp only; omega) _).far (p := ⟨w.heap.size + 1 + 1, 1, none⟩) (by dsimp only; omega) _).far (p := ⟨w.heap.size + 1 + 1, 2, none⟩) (by dsimp only; omega) _).far (p := ⟨w.heap.size + 1 + 1, 3, none⟩) (by dsimp only; omega) _).far (p := ⟨w.heap.size + 1 + 1, 4, none⟩) (by dsimp only; omega) _).far (p := ⟨w.heap.size + 1 + 1, 5, none⟩) (by dsimp only; omega) _).far (p := ⟨w.heap.size + 1 + 1, 6, none⟩) (by dsimp only; omega) _).far (p := ⟨w.heap.size + 1 + 1, 7, none⟩) (by dsimp only; omega) _).far (p := ⟨w.heap.size + 1 + 1, 8, none⟩) (by dsimp only; omega) _).far (p := ⟨w.heap.size + 1 + 1, 9, none⟩) (by dsimp only; omega) _)
          have o5 : Oth pb w W5 := by rw [← hW5.out]; exact ((((((((((hoU3.setNew (q := ⟨w.heap.size + 1 + 1, 0, none⟩) (by dsimp only; omega) _).setNew (q := ⟨w.heap.size + 1 + 1, 1, none⟩) (by dsimp only; omega) _).setNew (q := ⟨w.heap.size + 1 + 1, 2, none⟩) (by dsimp only; omega) _).setNew (q := ⟨w.heap.size + 1 + 1, 3, none⟩) (by dsimp only; omega) _).setNew (q := ⟨w.heap.size + 1 + 1, 4, none⟩) (by dsimp only; omega) _).setNew (q := ⟨w.heap.size + 1 + 1, 5, none⟩) (by dsimp only; omega) _).setNew (q := ⟨w.heap.size + 1 + 1, 6, none⟩) (by dsimp only; omega) _).setNew (q := ⟨w.heap.size + 1 + 1, 7, none⟩) (by dsimp only; omega) _).setNew (q := ⟨w.heap.size + 1 + 1, 8, none⟩) (by dsimp only; omega) _).setNew (q := ⟨w.heap.size + 1 + 1, 9, none⟩) (by dsimp only; omega) _)
          have hi5 : Hi (w.heap.size + 4) U W5 := by rw [← hW5.out]; exact (((((((((((Hi.refl (w.heap.size + 4) U).setCell (q := ⟨w.heap.size + 1 + 1, 0, none⟩) (by dsimp only; omega) _).setCell (q := ⟨w.heap.size + 1 + 1, 1, none⟩) (by dsimp only; omega) _).setCell (q := ⟨w.heap.size + 1 + 1, 2, none⟩) (by dsimp only; omega) _).setCell (q := ⟨w.heap.size + 1 + 1, 3, none⟩) (by dsimp only; omega) _).setCell (q := ⟨w.heap.size + 1 + 1, 4, none⟩) (by dsimp only; omega) _).setCell (q := ⟨w.heap.size + 1 + 1, 5, none⟩) (by dsimp only; omega) _).setCell (q := ⟨w.heap.size + 1 + 1, 6, none⟩) (by dsimp only; omega) _).setCell (q := ⟨w.heap.size + 1 + 1, 7, none⟩) (by dsimp only; omega) _).setCell (q := ⟨w.heap.size + 1 + 1, 8, none⟩) (by dsimp only; omega) _).setCell (q := ⟨w.heap.size + 1 + 1, 9, none⟩) (by dsimp only; omega) _)
          have k5 := Bk.set10 (v0 := .int .i64 l.k) (v1 := .int .i64 l.a) (v2 := .int .i64 l.b) (v3 := .int .i64 l.c) (v4 := (.slice A (pl p) cc)) (v5 := (.slice A2 (pl q) c9)) (v6 := .int .i64 e6.k) (v7 := .int .i64 e6.a) (v8 := .int .i64 e6.b) (v9 := .int .i64 e6.c) p2
          rw [hW5.out] at k5 ⊢
          refine (part1_d w.heap.size pb ((d + 1 : Nat) : Int) .returning W5 (b0.cell 0) (bb.cell 2) (bb.free 2) (by omega)).mono ?_
          rintro e u' w'' ⟨rfl, rfl, rfl⟩
          rw [show ((d + 1 : Nat) : Int) - 1 = (d : Int) by omega]
          have k9 := k5.far (p := ⟨pb, 2, none⟩) (by dsimp only; omega) (.int .i64 (d : Int))
          have b9 : Bk (W5.setCell ⟨pb, 2, none⟩ (.int .i64 (d : Int))) pb #[.slice (some ⟨lb, 0, none⟩) Ls.length c, .int .i64 ((m + 1 : Nat) : Int), .int .i64 (d : Int)] := bb.set 2 _ (by simp)
          have hH9 := (((hHV.trans hHU).trans hi5).setCell (q := ⟨pb, 2, none⟩) (by dsimp only; omega) (.int .i64 (d : Int)))
          rw [hsZ] at hT3
          have hTf := hT3.hi (A := w.heap.size) hH9 (by omega)
          have hTg := hTq.hi (A := w.heap.size) (hH9.mono (by omega)) (by omega)
          obtain ⟨_, _, rs, ee, hr1, hr2⟩ := hTf
          cases ee
          obtain ⟨_, _, rs2, ee, hr3, hr4⟩ := hTg
          cases ee
          refine ⟨_, res_bk _ (w.heap.size + 1 + 1) _ rfl (by rfl) Try.underlying83 rfl (by kernel_rfl) k9, ?_⟩
          rw [hF0]
          exact ⟨o5.setCell rfl _, _, _, _, m + 1, rfl, ⟨rfl, rfl⟩, ⟨_, _, rs, _, _, rs2, [], rfl, ⟨hr1, hr2⟩, ⟨hr3, hr4⟩, rfl⟩, rfl, b9, by omega, by omega, hy2⟩
end Go.Proofs.Ytgjnnlgeggamjaa
