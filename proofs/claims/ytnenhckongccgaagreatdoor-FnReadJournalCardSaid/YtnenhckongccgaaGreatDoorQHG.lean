/- AN: laid into one text. -/
import Derived.Test.YtnenhckongccgaaGreatDoorProg
import Derived.WalkKit
import Derived.Below
import Derived.BigCall
import Derived.WideMake

namespace Go.Proofs.YtnenhckongccgaaGreatDoor
set_option linter.unusedVariables false
set_option linter.unusedSimpArgs false
open Go.RowKit
structure KW (w0 w : World) (kn : List Obj) : Prop where
  size : w.heap.size = w0.heap.size + kn.length
  obj : ∀ j o, kn[j]? = some o → w.heap[w0.heap.size + j]? = some o
  below : Below w0.heap.size w0 w
theorem KW.start (w : World) : KW w w [] := ⟨rfl, fun j o h => by simp at h, Below.refl _ w⟩
theorem KW.alloc {w0 w : World} {kn : List Obj} (h : KW w0 w kn) (o : Obj) : KW w0 (w.alloc o) (kn ++ [o]) := by
  refine ⟨?_, fun j x hj => ?_, h.below.alloc h.below.size o⟩
  · show (w.heap.push o).size = _
    rw [Array.size_push, h.size, List.length_append]; rfl
  · rcases Nat.lt_or_ge j kn.length with hl | hl
    · rw [List.getElem?_append_left hl] at hj
      have h1 := h.obj j x hj
      have h2 : w0.heap.size + j < w.heap.size := by rw [h.size]; omega
      show (w.heap.push o)[w0.heap.size + j]? = some x
      rw [Array.getElem?_push_lt h2]
      rw [Array.getElem?_eq_getElem h2] at h1
      exact h1
    · rw [List.getElem?_append_right hl] at hj
      have e : j - kn.length = 0 := by
        rcases Nat.eq_zero_or_pos (j - kn.length) with h0 | h0
        · exact h0
        · rw [List.getElem?_eq_none (by simp; omega)] at hj; cases hj
      rw [e] at hj
      simp only [List.getElem?_cons_zero, Option.some.injEq] at hj
      subst hj
      have e2 : w0.heap.size + j = w.heap.size := by rw [h.size]; omega
      rw [e2]
      show (w.heap.push o)[w.heap.size]? = some o
      exact Array.getElem?_push_size
theorem KW.set {w0 w : World} {kn : List Obj} (h : KW w0 w kn) (j : Nat) (o : Obj) (hj : j < kn.length) : KW w0 { w with heap := w.heap.setIfInBounds (w0.heap.size + j) o } (kn.set j o) := by
  have hb := h.below
  refine ⟨by simp [h.size], fun i x hi => ?_, ⟨hb.os, hb.tape, hb.output, by simpa using hb.size, fun k hk => ?_⟩⟩
  · show (w.heap.setIfInBounds (w0.heap.size + j) o)[w0.heap.size + i]? = some x
    rw [Array.getElem?_setIfInBounds]
    by_cases hij : i = j
    · subst hij
      rw [if_pos rfl, if_pos (by rw [h.size]; omega)]
      rw [List.getElem?_set_self hj] at hi
      exact hi
    · rw [if_neg (by omega)]
      rw [List.getElem?_set_ne (fun e => hij e.symm)] at hi
      exact h.obj i x hi
  · show (w.heap.setIfInBounds (w0.heap.size + j) o)[k]? = _
    rw [Array.getElem?_setIfInBounds, if_neg (by omega)]
    exact hb.block k hk
theorem run_mapPush {P : Program} {w : World} (mty kt et : TypeId) (r clock : Nat) (s : ByteArray) (val : Value) {es : Array MapEntry} (hm : P.underlying mty = some (.map kt et)) (hk : P.underlying kt = some .string) (hb : w.heap[r]? = some (.map es clock)) (hf : Instr.findNow .string (.string s) es.toList 0 = some none) :
    (Instr.mapUpdate mty (.map (some r)) (.string s) val).run P w = .ok () { w with heap := w.heap.setIfInBounds r (.map (es.push { key := .string s, val := val, born := clock }) (clock + 1)) } := by
  have hc : (Instr.checkKey false 10000 kt (.string s)).run P w = .ok () w := MapKept.run_checkKey (k := .string s) hk (by simp [MapKept.IsKey]) false 9999
  simp [Instr.mapUpdate, run_underlying hm, MapKept.run_getObj_map hb, hc, MapKept.run_findKey hk hf, MapKept.run_setObj_map _ hb, Result.andThen]
theorem upon_push {P : Program} {w0 w : World} {kn : List Obj} {o : Oper} {a : Act} {next : Act → World → Prop} {Q : Exit → Act → World → Prop} {t k e : TypeId} {key : ByteArray} {val : Value} (hw : KW w0 w kn) (j : Nat) (es : Array MapEntry) (clock : Nat) (hj : kn[j]? = some (.map es clock))
    (ht : P.underlying t = some (.map k e)) (hk : P.underlying k = some .string) (hf : Instr.findNow .string (.string key) es.toList 0 = some none)
    (hK : ∀ w', KW w0 w' (kn.set j (.map (es.push { key := .string key, val := val, born := clock }) (clock + 1))) → next (a.put o.dst undef) w') :
    Oper.upon P o a next Q (((Instr.mapUpdate t (.map (some (w0.heap.size + j))) (.string key) val).run P w).andThen fun _ w' => Result.ok Next.skip w') := by
  rw [run_mapPush t k e (w0.heap.size + j) clock key val ht hk (hw.obj j _ hj) hf]
  exact hK _ (hw.set j _ (List.getElem?_eq_some_iff.1 hj).1)
abbrev nmV (b : Nat) : Value := .func (.func 125) #[] #[.pointer (some ⟨b, 0, none⟩)]
abbrev clV (f : FuncId) (b : Nat) : Value := .func (.func f) #[] #[.pointer (some ⟨b, 0, none⟩)]
def anE (b : Nat) : Array MapEntry := #[⟨.string ⟨#[119, 111, 114, 100]⟩, nmV (b + 2), 0⟩, ⟨.string ⟨#[101, 110, 100]⟩, nmV (b + 3), 1⟩, ⟨.string ⟨#[97, 116]⟩, clV 129 b, 2⟩, ⟨.string ⟨#[99, 111, 115, 116]⟩, nmV (b + 4), 3⟩, ⟨.string ⟨#[100, 101, 112, 116, 104]⟩, nmV (b + 5), 4⟩, ⟨.string ⟨#[103, 97, 116, 101, 115]⟩, clV 134 b, 5⟩, ⟨.string ⟨#[111, 100, 100]⟩, clV 136 b, 6⟩]
def anK (b : Nat) (v : Value) : List Obj := [.cells v.cells 25, .map (anE b) 7, .cells #[clV 126 b] 142, .cells #[clV 127 b] 142, .cells #[clV 130 b] 142, .cells #[clV 132 b] 142]
set_option maxHeartbeats 4000000 in
set_option maxRecDepth 100000 in
theorem an_walk (n f wd a : Int) (A : Option Addr) (m c : Nat) (w : World) :
    Calls Tryz.prog 90 #[.agg #[.int .i64 n, .slice A m c, .int .i64 f, .int .i64 wd, .int .i64 a]] w fun e w' => e = .returned (.map (some (w.heap.size + 1))) ∧ KW w w' (anK w.heap.size (.agg #[.int .i64 n, .slice A m c, .int .i64 f, .int .i64 wd, .int .i64 a])) := by
  have hmm := @run_makeMap Tryz.prog
  have hu : Tryz.prog.underlying 115 = some (.map 9 109) := Tryz.underlying115
  have hus : Tryz.prog.underlying 9 = some .string := Tryz.underlying9
  have k0 := KW.start w
  go_enter Tryz.func90, Tryz.ntmps90
  go_wp2
  refine upon_push (w0 := w) (((k0.alloc (.cells #[.int .i64 n, .slice A m c, .int .i64 f, .int .i64 wd, .int .i64 a] 25)).alloc (.map #[] 0)).alloc (.cells #[clV 126 w.heap.size] 142)) 1 #[] 0 rfl hu hus rfl ?_
  intro W1 k1
  have hs1 : W1.heap.size = w.heap.size + 3 := k1.size
  go_wp2
  try rw [hs1]
  refine upon_push (w0 := w) (k1.alloc (.cells #[clV 127 w.heap.size] 142)) 1 #[⟨.string ⟨#[119, 111, 114, 100]⟩, nmV (w.heap.size + 2), 0⟩] 1 rfl hu hus rfl ?_
  intro W2 k2
  have hs2 : W2.heap.size = w.heap.size + 4 := k2.size
  go_wp2
  try rw [hs2]
  refine upon_push (w0 := w) k2 1 #[⟨.string ⟨#[119, 111, 114, 100]⟩, nmV (w.heap.size + 2), 0⟩, ⟨.string ⟨#[101, 110, 100]⟩, nmV (w.heap.size + 3), 1⟩] 2 rfl hu hus rfl ?_
  intro W3 k3
  have hs3 : W3.heap.size = w.heap.size + 4 := k3.size
  go_wp2
  try rw [hs3]
  refine upon_push (w0 := w) (k3.alloc (.cells #[clV 130 w.heap.size] 142)) 1 #[⟨.string ⟨#[119, 111, 114, 100]⟩, nmV (w.heap.size + 2), 0⟩, ⟨.string ⟨#[101, 110, 100]⟩, nmV (w.heap.size + 3), 1⟩, ⟨.string ⟨#[97, 116]⟩, clV 129 w.heap.size, 2⟩] 3 rfl hu hus rfl ?_
  intro W4 k4
  have hs4 : W4.heap.size = w.heap.size + 5 := k4.size
  go_wp2
  try rw [hs4]
  refine upon_push (w0 := w) (k4.alloc (.cells #[clV 132 w.heap.size] 142)) 1 #[⟨.string ⟨#[119, 111, 114, 100]⟩, nmV (w.heap.size + 2), 0⟩, ⟨.string ⟨#[101, 110, 100]⟩, nmV (w.heap.size + 3), 1⟩, ⟨.string ⟨#[97, 116]⟩, clV 129 w.heap.size, 2⟩, ⟨.string ⟨#[99, 111, 115, 116]⟩, nmV (w.heap.size + 4), 3⟩] 4 rfl hu hus rfl ?_
  intro W5 k5
  have hs5 : W5.heap.size = w.heap.size + 6 := k5.size
  go_wp2
  try rw [hs5]
  refine upon_push (w0 := w) k5 1 #[⟨.string ⟨#[119, 111, 114, 100]⟩, nmV (w.heap.size + 2), 0⟩, ⟨.string ⟨#[101, 110, 100]⟩, nmV (w.heap.size + 3), 1⟩, ⟨.string ⟨#[97, 116]⟩, clV 129 w.heap.size, 2⟩, ⟨.string ⟨#[99, 111, 115, 116]⟩, nmV (w.heap.size + 4), 3⟩, ⟨.string ⟨#[100, 101, 112, 116, 104]⟩, nmV (w.heap.size + 5), 4⟩] 5 rfl hu hus rfl ?_
  intro W6 k6
  have hs6 : W6.heap.size = w.heap.size + 6 := k6.size
  go_wp2
  try rw [hs6]
  refine upon_push (w0 := w) k6 1 #[⟨.string ⟨#[119, 111, 114, 100]⟩, nmV (w.heap.size + 2), 0⟩, ⟨.string ⟨#[101, 110, 100]⟩, nmV (w.heap.size + 3), 1⟩, ⟨.string ⟨#[97, 116]⟩, clV 129 w.heap.size, 2⟩, ⟨.string ⟨#[99, 111, 115, 116]⟩, nmV (w.heap.size + 4), 3⟩, ⟨.string ⟨#[100, 101, 112, 116, 104]⟩, nmV (w.heap.size + 5), 4⟩, ⟨.string ⟨#[103, 97, 116, 101, 115]⟩, clV 134 w.heap.size, 5⟩] 6 rfl hu hus rfl ?_
  intro W7 k7
  have hs7 : W7.heap.size = w.heap.size + 6 := k7.size
  go_wp2
  try rw [hs7]
  go_ret
  exact ⟨rfl, k7⟩
end Go.Proofs.YtnenhckongccgaaGreatDoor
