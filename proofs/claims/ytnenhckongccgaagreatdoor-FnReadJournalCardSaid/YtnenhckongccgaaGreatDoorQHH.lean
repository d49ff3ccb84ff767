/- LNW: laid into one text. -/
import Derived.Test.YtnenhckongccgaaGreatDoorQHA
import Derived.Test.YtnenhckongccgaaGreatDoorQHG
import Derived.Deep.RegionWith

namespace Go.Proofs.YtnenhckongccgaaGreatDoor
set_option linter.unusedVariables false
set_option linter.unusedSimpArgs false
open Go.RowKit
theorem run_look {P : Program} {w : World} (mty kt et : TypeId) (r clock : Nat) (s : ByteArray) {es : Array MapEntry} {i : Nat} {v : Value} (hm : P.underlying mty = some (.map kt et)) (hk : P.underlying kt = some .string) (hb : w.heap[r]? = some (.map es clock)) (hf : Instr.findNow .string (.string s) es.toList 0 = some (some (i, v))) :
    (Instr.lookup mty (.map (some r)) (.string s) true).run P w = .ok (.tuple #[v, .bool true]) w := by
  have hc : ∀ b, (Instr.checkKey b 10000 kt (.string s)).run P w = .ok () w := fun b => MapKept.run_checkKey (k := .string s) hk (by simp [MapKept.IsKey]) b 9999
  simp [Instr.lookup, run_underlying hm, MapKept.run_getObj_map hb, hc, MapKept.run_findKey hk hf, Result.andThen]
theorem run_look0 {P : Program} {w : World} (mty kt et : TypeId) (r clock : Nat) (s : ByteArray) {es : Array MapEntry} {z : Value} (hm : P.underlying mty = some (.map kt et)) (hk : P.underlying kt = some .string) (hz : ∀ w, (zeroValue et).run P w = .ok z w) (hb : w.heap[r]? = some (.map es clock)) (hf : Instr.findNow .string (.string s) es.toList 0 = some none) :
    (Instr.lookup mty (.map (some r)) (.string s) true).run P w = .ok (.tuple #[z, .bool false]) w := by
  have hc : ∀ b, (Instr.checkKey b 10000 kt (.string s)).run P w = .ok () w := fun b => MapKept.run_checkKey (k := .string s) hk (by simp [MapKept.IsKey]) b 9999
  simp [Instr.lookup, run_underlying hm, MapKept.run_getObj_map hb, hc, MapKept.run_findKey hk hf, hz, Result.andThen]
abbrev bnV (n f wd a : Int) (A : Option Addr) (m c : Nat) : Value := .agg #[.int .i64 n, .slice A m c, .int .i64 f, .int .i64 wd, .int .i64 a]
set_option maxHeartbeats 400000 in
set_option maxRecDepth 100000 in
theorem lnw1 (n f wd a : Int) (A : Option Addr) (m c : Nat) (w : World) (s ans : ByteArray) (hne : (s.toList == [104, 111, 109, 101]) = false) (i : Nat) (pb : Nat → Nat)
    (hR : ∀ W, Below w.heap.size w W → Calls Tryz.prog 77 #[.string s] W fun e w' => e = .returned (.tuple #[.agg #[.int .i64 0, .int .i64 0, .int .i64 0, .int .i64 0, .int .i64 0, .int .i64 0], .bool false]) ∧ Below W.heap.size W w') (hf : RowKit.Hid (∀ b, Instr.findNow .string (.string s) (anE b).toList 0 = some (some (i, clV 125 (pb b)))))
    (hT : RowKit.Hid (∀ W0 W, KW W0 W (anK W0.heap.size (bnV n f wd a A m c)) → Below w.heap.size w W0 → ∀ W2, Below W.heap.size W W2 → Calls Tryz.prog 125 #[.pointer (some ⟨pb W0.heap.size, 0, none⟩)] W2 fun e w' => e = .returned (.string ans) ∧ Below W2.heap.size W2 w')) :
    Calls Tryz.prog 41 #[bnV n f wd a A m c, .string s] w fun e w' => e = .returned (.tuple #[bnV n f wd a A m c, .string ans]) ∧ Below w.heap.size w w' := by
  have hB0 : ∀ o o', Below w.heap.size w ((w.alloc o).alloc o') := fun o o' => ((Below.refl w.heap.size w).alloc (Nat.le_refl _) _).alloc (by simp) _
  go_enter Tryz.func41, Tryz.ntmps41
  go_wp2_with (go_at_call 77; refine (hR _ (hB0 _ _)).mono ?_)
  rintro e W1 ⟨rfl, b1⟩
  (have k2 : Bk W1 (w.heap.size) #[.int .i64 n, .slice A m c, .int .i64 f, .int .i64 wd, .int .i64 a] := Bk.call (by repeat (first | (with_reducible refine Bk.new' _ _ _ _ ?_; focus (first | rfl | (simp; done))) | with_reducible apply Bk.set3 | with_reducible apply Bk.set4 | with_reducible apply Bk.set5 | with_reducible apply Bk.set6 | with_reducible apply Bk.set2 | with_reducible refine Bk.alloc ?_ _ | with_reducible refine Bk.drewN ?_ _ | with_reducible refine Bk.drew ?_ | (with_reducible refine Bk.far' ?_ ?_ _; (focus (first | omega | (simp; done) | (simp; omega)))))) b1; have k2l := Bk.lt k2; have k2c := Bk.cell k2; have k2f := Bk.free k2)
  (have k4 : Bk W1 (w.heap.size + 1) #[.int .i64 0, .slice none 0 0, .int .i64 0, .int .i64 0, .int .i64 0] := Bk.call (by repeat (first | (with_reducible refine Bk.new' _ _ _ _ ?_; focus (first | rfl | (simp; done))) | with_reducible apply Bk.set3 | with_reducible apply Bk.set4 | with_reducible apply Bk.set5 | with_reducible apply Bk.set6 | with_reducible apply Bk.set2 | with_reducible refine Bk.alloc ?_ _ | with_reducible refine Bk.drewN ?_ _ | with_reducible refine Bk.drew ?_ | (with_reducible refine Bk.far' ?_ ?_ _; (focus (first | omega | (simp; done) | (simp; omega)))))) b1; have k4l := Bk.lt k4; have k4c := Bk.cell k4; have k4f := Bk.free k4)
  have hB1 : Below w.heap.size w W1 := (((Below.refl w.heap.size w).alloc (Nat.le_refl _) _).alloc (by simp) _).trans (b1.mono (by simp; omega))
  clear b1 hB0
  go_wp2_with (go_at_call 90; refine (an_walk _ _ _ _ _ _ _ _).mono ?_)
  rintro e W2 ⟨rfl, kw⟩
  have hsz : (W1.alloc (.cells #[.int .i64 0, .int .i64 0, .int .i64 0, .int .i64 0, .int .i64 0, .int .i64 0] 58)).heap.size = W1.heap.size + 1 := by simp
  have hBx : Below w.heap.size w (W1.alloc (.cells #[.int .i64 0, .int .i64 0, .int .i64 0, .int .i64 0, .int .i64 0, .int .i64 0] 58)) := hB1.alloc hB1.size _
  have hT2 := hT.out _ _ kw hBx
  have hlk := run_look (P := Tryz.prog) (w := W2) 115 9 109 _ 7 s (i := i) Tryz.underlying115 Tryz.underlying9 (kw.obj 1 _ rfl) (hf.out _)
  have hB2 : Below w.heap.size w W2 := hBx.trans (kw.below.mono hBx.size)
  have kb := kw.below
  (have nk2 : Bk W2 (w.heap.size) #[.int .i64 n, .slice A m c, .int .i64 f, .int .i64 wd, .int .i64 a] := Bk.call zBk kb; clear k2l k2c k2f k2; have k2 := nk2; clear nk2; have k2l := Bk.lt k2; have k2c := Bk.cell k2; have k2f := Bk.free k2)
  (have nk4 : Bk W2 (w.heap.size + 1) #[.int .i64 0, .slice none 0 0, .int .i64 0, .int .i64 0, .int .i64 0] := Bk.call zBk kb; clear k4l k4c k4f k4; have k4 := nk4; clear nk4; have k4l := Bk.lt k4; have k4c := Bk.cell k4; have k4f := Bk.free k4)
  rw [hsz] at hlk hT2
  clear kw kb hB1 hBx hT hf hR
  generalize hpb : pb (W1.heap.size + 1) = q at *
  go_wp2
  go_region_with (go_at_call 125; refine (hT2 _ ?_).mono ?_; exact (Below.refl _ _).drew; rintro e W3 ⟨rfl, b3⟩; have hB3 : Below w.heap.size w W3 := (hB2.drew).trans (b3.mono hB2.drew.size); (have nk2 : Bk W3 (w.heap.size) #[.int .i64 n, .slice A m c, .int .i64 f, .int .i64 wd, .int .i64 a] := Bk.call zBk b3; clear k2l k2c k2f k2; have k2 := nk2; clear nk2; have k2l := Bk.lt k2; have k2c := Bk.cell k2; have k2f := Bk.free k2); (have nk4 : Bk W3 (w.heap.size + 1) #[.int .i64 0, .slice none 0 0, .int .i64 0, .int .i64 0, .int .i64 0] := Bk.call zBk b3; clear k4l k4c k4f k4; have k4 := nk4; clear nk4; have k4l := Bk.lt k4; have k4c := Bk.cell k4; have k4f := Bk.free k4))
  all_goals (try go_wp2)
  all_goals (refine ret_bk_tmp #[.int .i64 n, .slice A m c, .int .i64 f, .int .i64 wd, .int .i64 a] (w.heap.size + 1) (.string ans) _ rfl (by rfl) (by rfl) Tryz.underlying25 rfl (by kernel_rfl) rfl zBk ?_)
  all_goals exact ⟨rfl, (by repeat (first | with_reducible exact Below.refl _ _ | (with_reducible assumption) | (with_reducible refine bel_alloc ?_ ?_ _; (focus (first | omega | (simp; done) | (simp; omega)))) | (with_reducible refine bel_setCell ?_ ?_ _; (focus (first | omega | (simp; done) | (simp; omega)))) | with_reducible refine bel_drewN ?_ _ | with_reducible refine Below.drew ?_ | (with_reducible apply bel_join; (with_reducible assumption); (focus (first | omega | (simp; done) | (simp; omega))))))⟩
set_option maxHeartbeats 400000 in
set_option maxRecDepth 100000 in
theorem lnw4 (n f wd a : Int) (A : Option Addr) (m c : Nat) (w : World) (s ans : ByteArray) (hne : (s.toList == [104, 111, 109, 101]) = false) (i : Nat) (pb : Nat → Nat)
    (hR : ∀ W, Below w.heap.size w W → Calls Tryz.prog 77 #[.string s] W fun e w' => e = .returned (.tuple #[.agg #[.int .i64 0, .int .i64 0, .int .i64 0, .int .i64 0, .int .i64 0, .int .i64 0], .bool false]) ∧ Below W.heap.size W w') (hf : RowKit.Hid (∀ b, Instr.findNow .string (.string s) (anE b).toList 0 = some (some (i, clV 129 (pb b)))))
    (hT : RowKit.Hid (∀ W0 W, KW W0 W (anK W0.heap.size (bnV n f wd a A m c)) → Below w.heap.size w W0 → ∀ W2, Below W.heap.size W W2 → Calls Tryz.prog 129 #[.pointer (some ⟨pb W0.heap.size, 0, none⟩)] W2 fun e w' => e = .returned (.string ans) ∧ Below W2.heap.size W2 w')) :
    Calls Tryz.prog 41 #[bnV n f wd a A m c, .string s] w fun e w' => e = .returned (.tuple #[bnV n f wd a A m c, .string ans]) ∧ Below w.heap.size w w' := by
  have hB0 : ∀ o o', Below w.heap.size w ((w.alloc o).alloc o') := fun o o' => ((Below.refl w.heap.size w).alloc (Nat.le_refl _) _).alloc (by simp) _
  go_enter Tryz.func41, Tryz.ntmps41
  go_wp2_with (go_at_call 77; refine (hR _ (hB0 _ _)).mono ?_)
  rintro e W1 ⟨rfl, b1⟩
  (have k2 : Bk W1 (w.heap.size) #[.int .i64 n, .slice A m c, .int .i64 f, .int .i64 wd, .int .i64 a] := Bk.call (by repeat (first | (with_reducible refine Bk.new' _ _ _ _ ?_; focus (first | rfl | (simp; done))) | with_reducible apply Bk.set3 | with_reducible apply Bk.set4 | with_reducible apply Bk.set5 | with_reducible apply Bk.set6 | with_reducible apply Bk.set2 | with_reducible refine Bk.alloc ?_ _ | with_reducible refine Bk.drewN ?_ _ | with_reducible refine Bk.drew ?_ | (with_reducible refine Bk.far' ?_ ?_ _; (focus (first | omega | (simp; done) | (simp; omega)))))) b1; have k2l := Bk.lt k2; have k2c := Bk.cell k2; have k2f := Bk.free k2)
  (have k4 : Bk W1 (w.heap.size + 1) #[.int .i64 0, .slice none 0 0, .int .i64 0, .int .i64 0, .int .i64 0] := Bk.call (by repeat (first | (with_reducible refine Bk.new' _ _ _ _ ?_; focus (first | rfl | (simp; done))) | with_reducible apply Bk.set3 | with_reducible apply Bk.set4 | with_reducible apply Bk.set5 | with_reducible apply Bk.set6 | with_reducible apply Bk.set2 | with_reducible refine Bk.alloc ?_ _ | with_reducible refine Bk.drewN ?_ _ | with_reducible refine Bk.drew ?_ | (with_reducible refine Bk.far' ?_ ?_ _; (focus (first | omega | (simp; done) | (simp; omega)))))) b1; have k4l := Bk.lt k4; have k4c := Bk.cell k4; have k4f := Bk.free k4)
  have hB1 : Below w.heap.size w W1 := (((Below.refl w.heap.size w).alloc (Nat.le_refl _) _).alloc (by simp) _).trans (b1.mono (by simp; omega))
  clear b1 hB0
  go_wp2_with (go_at_call 90; refine (an_walk _ _ _ _ _ _ _ _).mono ?_)
  rintro e W2 ⟨rfl, kw⟩
  have hsz : (W1.alloc (.cells #[.int .i64 0, .int .i64 0, .int .i64 0, .int .i64 0, .int .i64 0, .int .i64 0] 58)).heap.size = W1.heap.size + 1 := by simp
  have hBx : Below w.heap.size w (W1.alloc (.cells #[.int .i64 0, .int .i64 0, .int .i64 0, .int .i64 0, .int .i64 0, .int .i64 0] 58)) := hB1.alloc hB1.size _
  have hT2 := hT.out _ _ kw hBx
  have hlk := run_look (P := Tryz.prog) (w := W2) 115 9 109 _ 7 s (i := i) Tryz.underlying115 Tryz.underlying9 (kw.obj 1 _ rfl) (hf.out _)
  have hB2 : Below w.heap.size w W2 := hBx.trans (kw.below.mono hBx.size)
  have kb := kw.below
  (have nk2 : Bk W2 (w.heap.size) #[.int .i64 n, .slice A m c, .int .i64 f, .int .i64 wd, .int .i64 a] := Bk.call zBk kb; clear k2l k2c k2f k2; have k2 := nk2; clear nk2; have k2l := Bk.lt k2; have k2c := Bk.cell k2; have k2f := Bk.free k2)
  (have nk4 : Bk W2 (w.heap.size + 1) #[.int .i64 0, .slice none 0 0, .int .i64 0, .int .i64 0, .int .i64 0] := Bk.call zBk kb; clear k4l k4c k4f k4; have k4 := nk4; clear nk4; have k4l := Bk.lt k4; have k4c := Bk.cell k4; have k4f := Bk.free k4)
  rw [hsz] at hlk hT2
  clear kw kb hB1 hBx hT hf hR
  generalize hpb : pb (W1.heap.size + 1) = q at *
  go_wp2
  go_region_with (go_at_call 129; refine (hT2 _ ?_).mono ?_; exact (Below.refl _ _).drew; rintro e W3 ⟨rfl, b3⟩; have hB3 : Below w.heap.size w W3 := (hB2.drew).trans (b3.mono hB2.drew.size); (have nk2 : Bk W3 (w.heap.size) #[.int .i64 n, .slice A m c, .int .i64 f, .int .i64 wd, .int .i64 a] := Bk.call zBk b3; clear k2l k2c k2f k2; have k2 := nk2; clear nk2; have k2l := Bk.lt k2; have k2c := Bk.cell k2; have k2f := Bk.free k2); (have nk4 : Bk W3 (w.heap.size + 1) #[.int .i64 0, .slice none 0 0, .int .i64 0, .int .i64 0, .int .i64 0] := Bk.call zBk b3; clear k4l k4c k4f k4; have k4 := nk4; clear nk4; have k4l := Bk.lt k4; have k4c := Bk.cell k4; have k4f := Bk.free k4))
  all_goals (try go_wp2)
  all_goals (refine ret_bk_tmp #[.int .i64 n, .slice A m c, .int .i64 f, .int .i64 wd, .int .i64 a] (w.heap.size + 1) (.string ans) _ rfl (by rfl) (by rfl) Tryz.underlying25 rfl (by kernel_rfl) rfl zBk ?_)
  all_goals exact ⟨rfl, (by repeat (first | with_reducible exact Below.refl _ _ | (with_reducible assumption) | (with_reducible refine bel_alloc ?_ ?_ _; (focus (first | omega | (simp; done) | (simp; omega)))) | (with_reducible refine bel_setCell ?_ ?_ _; (focus (first | omega | (simp; done) | (simp; omega)))) | with_reducible refine bel_drewN ?_ _ | with_reducible refine Below.drew ?_ | (with_reducible apply bel_join; (with_reducible assumption); (focus (first | omega | (simp; done) | (simp; omega))))))⟩
set_option maxHeartbeats 400000 in
set_option maxRecDepth 100000 in
theorem lnw7 (n f wd a : Int) (A : Option Addr) (m c : Nat) (w : World) (s ans : ByteArray) (hne : (s.toList == [104, 111, 109, 101]) = false) (i : Nat) (pb : Nat → Nat)
    (hR : ∀ W, Below w.heap.size w W → Calls Tryz.prog 77 #[.string s] W fun e w' => e = .returned (.tuple #[.agg #[.int .i64 0, .int .i64 0, .int .i64 0, .int .i64 0, .int .i64 0, .int .i64 0], .bool false]) ∧ Below W.heap.size W w') (hf : RowKit.Hid (∀ b, Instr.findNow .string (.string s) (anE b).toList 0 = some (some (i, clV 134 (pb b)))))
    (hT : RowKit.Hid (∀ W0 W, KW W0 W (anK W0.heap.size (bnV n f wd a A m c)) → Below w.heap.size w W0 → ∀ W2, Below W.heap.size W W2 → Calls Tryz.prog 134 #[.pointer (some ⟨pb W0.heap.size, 0, none⟩)] W2 fun e w' => e = .returned (.string ans) ∧ Below W2.heap.size W2 w')) :
    Calls Tryz.prog 41 #[bnV n f wd a A m c, .string s] w fun e w' => e = .returned (.tuple #[bnV n f wd a A m c, .string ans]) ∧ Below w.heap.size w w' := by
  have hB0 : ∀ o o', Below w.heap.size w ((w.alloc o).alloc o') := fun o o' => ((Below.refl w.heap.size w).alloc (Nat.le_refl _) _).alloc (by simp) _
  go_enter Tryz.func41, Tryz.ntmps41
  go_wp2_with (go_at_call 77; refine (hR _ (hB0 _ _)).mono ?_)
  rintro e W1 ⟨rfl, b1⟩
  (have k2 : Bk W1 (w.heap.size) #[.int .i64 n, .slice A m c, .int .i64 f, .int .i64 wd, .int .i64 a] := Bk.call (by repeat (first | (with_reducible refine Bk.new' _ _ _ _ ?_; focus (first | rfl | (simp; done))) | with_reducible apply Bk.set3 | with_reducible apply Bk.set4 | with_reducible apply Bk.set5 | with_reducible apply Bk.set6 | with_reducible apply Bk.set2 | with_reducible refine Bk.alloc ?_ _ | with_reducible refine Bk.drewN ?_ _ | with_reducible refine Bk.drew ?_ | (with_reducible refine Bk.far' ?_ ?_ _; (focus (first | omega | (simp; done) | (simp; omega)))))) b1; have k2l := Bk.lt k2; have k2c := Bk.cell k2; have k2f := Bk.free k2)
  (have k4 : Bk W1 (w.heap.size + 1) #[.int .i64 0, .slice none 0 0, .int .i64 0, .int .i64 0, .int .i64 0] := Bk.call (by repeat (first | (with_reducible refine Bk.new' _ _ _ _ ?_; focus (first | rfl | (simp; done))) | with_reducible apply Bk.set3 | with_reducible apply Bk.set4 | with_reducible apply Bk.set5 | with_reducible apply Bk.set6 | with_reducible apply Bk.set2 | with_reducible refine Bk.alloc ?_ _ | with_reducible refine Bk.drewN ?_ _ | with_reducible refine Bk.drew ?_ | (with_reducible refine Bk.far' ?_ ?_ _; (focus (first | omega | (simp; done) | (simp; omega)))))) b1; have k4l := Bk.lt k4; have k4c := Bk.cell k4; have k4f := Bk.free k4)
  have hB1 : Below w.heap.size w W1 := (((Below.refl w.heap.size w).alloc (Nat.le_refl _) _).alloc (by simp) _).trans (b1.mono (by simp; omega))
  clear b1 hB0
  go_wp2_with (go_at_call 90; refine (an_walk _ _ _ _ _ _ _ _).mono ?_)
  rintro e W2 ⟨rfl, kw⟩
  have hsz : (W1.alloc (.cells #[.int .i64 0, .int .i64 0, .int .i64 0, .int .i64 0, .int .i64 0, .int .i64 0] 58)).heap.size = W1.heap.size + 1 := by simp
  have hBx : Below w.heap.size w (W1.alloc (.cells #[.int .i64 0, .int .i64 0, .int .i64 0, .int .i64 0, .int .i64 0, .int .i64 0] 58)) := hB1.alloc hB1.size _
  have hT2 := hT.out _ _ kw hBx
  have hlk := run_look (P := Tryz.prog) (w := W2) 115 9 109 _ 7 s (i := i) Tryz.underlying115 Tryz.underlying9 (kw.obj 1 _ rfl) (hf.out _)
  have hB2 : Below w.heap.size w W2 := hBx.trans (kw.below.mono hBx.size)
  have kb := kw.below
  (have nk2 : Bk W2 (w.heap.size) #[.int .i64 n, .slice A m c, .int .i64 f, .int .i64 wd, .int .i64 a] := Bk.call zBk kb; clear k2l k2c k2f k2; have k2 := nk2; clear nk2; have k2l := Bk.lt k2; have k2c := Bk.cell k2; have k2f := Bk.free k2)
  (have nk4 : Bk W2 (w.heap.size + 1) #[.int .i64 0, .slice none 0 0, .int .i64 0, .int .i64 0, .int .i64 0] := Bk.call zBk kb; clear k4l k4c k4f k4; have k4 := nk4; clear nk4; have k4l := Bk.lt k4; have k4c := Bk.cell k4; have k4f := Bk.free k4)
  rw [hsz] at hlk hT2
  clear kw kb hB1 hBx hT hf hR
  generalize hpb : pb (W1.heap.size + 1) = q at *
  go_wp2
  go_region_with (go_at_call 134; refine (hT2 _ ?_).mono ?_; exact (Below.refl _ _).drew; rintro e W3 ⟨rfl, b3⟩; have hB3 : Below w.heap.size w W3 := (hB2.drew).trans (b3.mono hB2.drew.size); (have nk2 : Bk W3 (w.heap.size) #[.int .i64 n, .slice A m c, .int .i64 f, .int .i64 wd, .int .i64 a] := Bk.call zBk b3; clear k2l k2c k2f k2; have k2 := nk2; clear nk2; have k2l := Bk.lt k2; have k2c := Bk.cell k2; have k2f := Bk.free k2); (have nk4 : Bk W3 (w.heap.size + 1) #[.int .i64 0, .slice none 0 0, .int .i64 0, .int .i64 0, .int .i64 0] := Bk.call zBk b3; clear k4l k4c k4f k4; have k4 := nk4; clear nk4; have k4l := Bk.lt k4; have k4c := Bk.cell k4; have k4f := Bk.free k4))
  all_goals (try go_wp2)
  all_goals (refine ret_bk_tmp #[.int .i64 n, .slice A m c, .int .i64 f, .int .i64 wd, .int .i64 a] (w.heap.size + 1) (.string ans) _ rfl (by rfl) (by rfl) Tryz.underlying25 rfl (by kernel_rfl) rfl zBk ?_)
  all_goals exact ⟨rfl, (by repeat (first | with_reducible exact Below.refl _ _ | (with_reducible assumption) | (with_reducible refine bel_alloc ?_ ?_ _; (focus (first | omega | (simp; done) | (simp; omega)))) | (with_reducible refine bel_setCell ?_ ?_ _; (focus (first | omega | (simp; done) | (simp; omega)))) | with_reducible refine bel_drewN ?_ _ | with_reducible refine Below.drew ?_ | (with_reducible apply bel_join; (with_reducible assumption); (focus (first | omega | (simp; done) | (simp; omega))))))⟩
set_option maxHeartbeats 400000 in
set_option maxRecDepth 100000 in
theorem lnw8 (n f wd a : Int) (A : Option Addr) (m c : Nat) (w : World) (s ans : ByteArray) (hne : (s.toList == [104, 111, 109, 101]) = false) (i : Nat) (pb : Nat → Nat)
    (hR : ∀ W, Below w.heap.size w W → Calls Tryz.prog 77 #[.string s] W fun e w' => e = .returned (.tuple #[.agg #[.int .i64 0, .int .i64 0, .int .i64 0, .int .i64 0, .int .i64 0, .int .i64 0], .bool false]) ∧ Below W.heap.size W w') (hf : RowKit.Hid (∀ b, Instr.findNow .string (.string s) (anE b).toList 0 = some (some (i, clV 136 (pb b)))))
    (hT : RowKit.Hid (∀ W0 W, KW W0 W (anK W0.heap.size (bnV n f wd a A m c)) → Below w.heap.size w W0 → ∀ W2, Below W.heap.size W W2 → Calls Tryz.prog 136 #[.pointer (some ⟨pb W0.heap.size, 0, none⟩)] W2 fun e w' => e = .returned (.string ans) ∧ Below W2.heap.size W2 w')) :
    Calls Tryz.prog 41 #[bnV n f wd a A m c, .string s] w fun e w' => e = .returned (.tuple #[bnV n f wd a A m c, .string ans]) ∧ Below w.heap.size w w' := by
  have hB0 : ∀ o o', Below w.heap.size w ((w.alloc o).alloc o') := fun o o' => ((Below.refl w.heap.size w).alloc (Nat.le_refl _) _).alloc (by simp) _
  go_enter Tryz.func41, Tryz.ntmps41
  go_wp2_with (go_at_call 77; refine (hR _ (hB0 _ _)).mono ?_)
  rintro e W1 ⟨rfl, b1⟩
  (have k2 : Bk W1 (w.heap.size) #[.int .i64 n, .slice A m c, .int .i64 f, .int .i64 wd, .int .i64 a] := Bk.call (by repeat (first | (with_reducible refine Bk.new' _ _ _ _ ?_; focus (first | rfl | (simp; done))) | with_reducible apply Bk.set3 | with_reducible apply Bk.set4 | with_reducible apply Bk.set5 | with_reducible apply Bk.set6 | with_reducible apply Bk.set2 | with_reducible refine Bk.alloc ?_ _ | with_reducible refine Bk.drewN ?_ _ | with_reducible refine Bk.drew ?_ | (with_reducible refine Bk.far' ?_ ?_ _; (focus (first | omega | (simp; done) | (simp; omega)))))) b1; have k2l := Bk.lt k2; have k2c := Bk.cell k2; have k2f := Bk.free k2)
  (have k4 : Bk W1 (w.heap.size + 1) #[.int .i64 0, .slice none 0 0, .int .i64 0, .int .i64 0, .int .i64 0] := Bk.call (by repeat (first | (with_reducible refine Bk.new' _ _ _ _ ?_; focus (first | rfl | (simp; done))) | with_reducible apply Bk.set3 | with_reducible apply Bk.set4 | with_reducible apply Bk.set5 | with_reducible apply Bk.set6 | with_reducible apply Bk.set2 | with_reducible refine Bk.alloc ?_ _ | with_reducible refine Bk.drewN ?_ _ | with_reducible refine Bk.drew ?_ | (with_reducible refine Bk.far' ?_ ?_ _; (focus (first | omega | (simp; done) | (simp; omega)))))) b1; have k4l := Bk.lt k4; have k4c := Bk.cell k4; have k4f := Bk.free k4)
  have hB1 : Below w.heap.size w W1 := (((Below.refl w.heap.size w).alloc (Nat.le_refl _) _).alloc (by simp) _).trans (b1.mono (by simp; omega))
  clear b1 hB0
  go_wp2_with (go_at_call 90; refine (an_walk _ _ _ _ _ _ _ _).mono ?_)
  rintro e W2 ⟨rfl, kw⟩
  have hsz : (W1.alloc (.cells #[.int .i64 0, .int .i64 0, .int .i64 0, .int .i64 0, .int .i64 0, .int .i64 0] 58)).heap.size = W1.heap.size + 1 := by simp
  have hBx : Below w.heap.size w (W1.alloc (.cells #[.int .i64 0, .int .i64 0, .int .i64 0, .int .i64 0, .int .i64 0, .int .i64 0] 58)) := hB1.alloc hB1.size _
  have hT2 := hT.out _ _ kw hBx
  have hlk := run_look (P := Tryz.prog) (w := W2) 115 9 109 _ 7 s (i := i) Tryz.underlying115 Tryz.underlying9 (kw.obj 1 _ rfl) (hf.out _)
  have hB2 : Below w.heap.size w W2 := hBx.trans (kw.below.mono hBx.size)
  have kb := kw.below
  (have nk2 : Bk W2 (w.heap.size) #[.int .i64 n, .slice A m c, .int .i64 f, .int .i64 wd, .int .i64 a] := Bk.call zBk kb; clear k2l k2c k2f k2; have k2 := nk2; clear nk2; have k2l := Bk.lt k2; have k2c := Bk.cell k2; have k2f := Bk.free k2)
  (have nk4 : Bk W2 (w.heap.size + 1) #[.int .i64 0, .slice none 0 0, .int .i64 0, .int .i64 0, .int .i64 0] := Bk.call zBk kb; clear k4l k4c k4f k4; have k4 := nk4; clear nk4; have k4l := Bk.lt k4; have k4c := Bk.cell k4; have k4f := Bk.free k4)
  rw [hsz] at hlk hT2
  clear kw kb hB1 hBx hT hf hR
  generalize hpb : pb (W1.heap.size + 1) = q at *
  go_wp2
  go_region_with (go_at_call 136; refine (hT2 _ ?_).mono ?_; exact (Below.refl _ _).drew; rintro e W3 ⟨rfl, b3⟩; have hB3 : Below w.heap.size w W3 := (hB2.drew).trans (b3.mono hB2.drew.size); (have nk2 : Bk W3 (w.heap.size) #[.int .i64 n, .slice A m c, .int .i64 f, .int .i64 wd, .int .i64 a] := Bk.call zBk b3; clear k2l k2c k2f k2; have k2 := nk2; clear nk2; have k2l := Bk.lt k2; have k2c := Bk.cell k2; have k2f := Bk.free k2); (have nk4 : Bk W3 (w.heap.size + 1) #[.int .i64 0, .slice none 0 0, .int .i64 0, .int .i64 0, .int .i64 0] := Bk.call zBk b3; clear k4l k4c k4f k4; have k4 := nk4; clear nk4; have k4l := Bk.lt k4; have k4c := Bk.cell k4; have k4f := Bk.free k4))
  all_goals (try go_wp2)
  all_goals (refine ret_bk_tmp #[.int .i64 n, .slice A m c, .int .i64 f, .int .i64 wd, .int .i64 a] (w.heap.size + 1) (.string ans) _ rfl (by rfl) (by rfl) Tryz.underlying25 rfl (by kernel_rfl) rfl zBk ?_)
  all_goals exact ⟨rfl, (by repeat (first | with_reducible exact Below.refl _ _ | (with_reducible assumption) | (with_reducible refine bel_alloc ?_ ?_ _; (focus (first | omega | (simp; done) | (simp; omega)))) | (with_reducible refine bel_setCell ?_ ?_ _; (focus (first | omega | (simp; done) | (simp; omega)))) | with_reducible refine bel_drewN ?_ _ | with_reducible refine Below.drew ?_ | (with_reducible apply bel_join; (with_reducible assumption); (focus (first | omega | (simp; done) | (simp; omega))))))⟩
set_option maxHeartbeats 400000 in
set_option maxRecDepth 100000 in
theorem lnw0 (n f wd a : Int) (A : Option Addr) (m c : Nat) (w : World) (s : ByteArray) (hne : (s.toList == [104, 111, 109, 101]) = false) 
    (hR : ∀ W, Below w.heap.size w W → Calls Tryz.prog 77 #[.string s] W fun e w' => e = .returned (.tuple #[.agg #[.int .i64 0, .int .i64 0, .int .i64 0, .int .i64 0, .int .i64 0, .int .i64 0], .bool false]) ∧ Below W.heap.size W w') (hf : RowKit.Hid (∀ b, Instr.findNow .string (.string s) (anE b).toList 0 = some none)) :
    Calls Tryz.prog 41 #[bnV n f wd a A m c, .string s] w fun e w' => e = .returned (.tuple #[bnV n f wd a A m c, .string ⟨#[119, 104, 97, 116]⟩]) ∧ Below w.heap.size w w' := by
  have hB0 : ∀ o o', Below w.heap.size w ((w.alloc o).alloc o') := fun o o' => ((Below.refl w.heap.size w).alloc (Nat.le_refl _) _).alloc (by simp) _
  go_enter Tryz.func41, Tryz.ntmps41
  go_wp2_with (go_at_call 77; refine (hR _ (hB0 _ _)).mono ?_)
  rintro e W1 ⟨rfl, b1⟩
  (have k2 : Bk W1 (w.heap.size) #[.int .i64 n, .slice A m c, .int .i64 f, .int .i64 wd, .int .i64 a] := Bk.call (by repeat (first | (with_reducible refine Bk.new' _ _ _ _ ?_; focus (first | rfl | (simp; done))) | with_reducible apply Bk.set3 | with_reducible apply Bk.set4 | with_reducible apply Bk.set5 | with_reducible apply Bk.set6 | with_reducible apply Bk.set2 | with_reducible refine Bk.alloc ?_ _ | with_reducible refine Bk.drewN ?_ _ | with_reducible refine Bk.drew ?_ | (with_reducible refine Bk.far' ?_ ?_ _; (focus (first | omega | (simp; done) | (simp; omega)))))) b1; have k2l := Bk.lt k2; have k2c := Bk.cell k2; have k2f := Bk.free k2)
  (have k4 : Bk W1 (w.heap.size + 1) #[.int .i64 0, .slice none 0 0, .int .i64 0, .int .i64 0, .int .i64 0] := Bk.call (by repeat (first | (with_reducible refine Bk.new' _ _ _ _ ?_; focus (first | rfl | (simp; done))) | with_reducible apply Bk.set3 | with_reducible apply Bk.set4 | with_reducible apply Bk.set5 | with_reducible apply Bk.set6 | with_reducible apply Bk.set2 | with_reducible refine Bk.alloc ?_ _ | with_reducible refine Bk.drewN ?_ _ | with_reducible refine Bk.drew ?_ | (with_reducible refine Bk.far' ?_ ?_ _; (focus (first | omega | (simp; done) | (simp; omega)))))) b1; have k4l := Bk.lt k4; have k4c := Bk.cell k4; have k4f := Bk.free k4)
  have hB1 : Below w.heap.size w W1 := (((Below.refl w.heap.size w).alloc (Nat.le_refl _) _).alloc (by simp) _).trans (b1.mono (by simp; omega))
  clear b1 hB0
  go_wp2_with (go_at_call 90; refine (an_walk _ _ _ _ _ _ _ _).mono ?_)
  rintro e W2 ⟨rfl, kw⟩
  have hsz : (W1.alloc (.cells #[.int .i64 0, .int .i64 0, .int .i64 0, .int .i64 0, .int .i64 0, .int .i64 0] 58)).heap.size = W1.heap.size + 1 := by simp
  have hBx : Below w.heap.size w (W1.alloc (.cells #[.int .i64 0, .int .i64 0, .int .i64 0, .int .i64 0, .int .i64 0, .int .i64 0] 58)) := hB1.alloc hB1.size _
  have hz : ∀ w, (zeroValue 109).run Tryz.prog w = .ok .nilFunc w := fun w => by kernel_rfl
  have hlk := run_look0 (P := Tryz.prog) (w := W2) 115 9 109 _ 7 s Tryz.underlying115 Tryz.underlying9 hz (kw.obj 1 _ rfl) (hf.out _)
  have hB2 : Below w.heap.size w W2 := hBx.trans (kw.below.mono hBx.size)
  have kb := kw.below
  (have nk2 : Bk W2 (w.heap.size) #[.int .i64 n, .slice A m c, .int .i64 f, .int .i64 wd, .int .i64 a] := Bk.call zBk kb; clear k2l k2c k2f k2; have k2 := nk2; clear nk2; have k2l := Bk.lt k2; have k2c := Bk.cell k2; have k2f := Bk.free k2)
  (have nk4 : Bk W2 (w.heap.size + 1) #[.int .i64 0, .slice none 0 0, .int .i64 0, .int .i64 0, .int .i64 0] := Bk.call zBk kb; clear k4l k4c k4f k4; have k4 := nk4; clear nk4; have k4l := Bk.lt k4; have k4c := Bk.cell k4; have k4f := Bk.free k4)
  rw [hsz] at hlk
  clear kw kb hB1 hBx hf hR hz
  go_wp2
  all_goals (refine ret_bk_tmp #[.int .i64 n, .slice A m c, .int .i64 f, .int .i64 wd, .int .i64 a] (w.heap.size + 1) (.string ⟨#[119, 104, 97, 116]⟩) _ rfl (by rfl) (by rfl) Tryz.underlying25 rfl (by kernel_rfl) rfl zBk ?_)
  all_goals exact ⟨rfl, (by repeat (first | with_reducible exact Below.refl _ _ | (with_reducible assumption) | (with_reducible refine bel_alloc ?_ ?_ _; (focus (first | omega | (simp; done) | (simp; omega)))) | (with_reducible refine bel_setCell ?_ ?_ _; (focus (first | omega | (simp; done) | (simp; omega)))) | with_reducible refine bel_drewN ?_ _ | with_reducible refine Below.drew ?_ | (with_reducible apply bel_join; (with_reducible assumption); (focus (first | omega | (simp; done) | (simp; omega))))))⟩
end Go.Proofs.YtnenhckongccgaaGreatDoor
