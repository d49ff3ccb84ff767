/- Plain words and lemmas for the walks: slices that read as lists of cells, worlds that grew. No program is named. -/
import Derived.WalkKit
import Derived.WalkSpells
import Derived.WalkLawsBesides
import Derived.Deep.QuietTactic
import Derived.BigQuiet
import Derived.Lib.Hide
import Derived.Deep.Draws
import Derived.Maps.AppendAt
namespace Go.Proofs.Ytchlhgfmoahdfaa
set_option linter.unusedVariables false
open Go.RowKit

theorem ret_bool {a b : Bool} (h : a = b) : Ending.returned (.bool a) = .returned (.bool b) := by rw [h]
theorem ret_int {k : IntKind} {a b : Int} (h : a = b) : Ending.returned (.int k a) = .returned (.int k b) := by rw [h]

/-- n lies between a and b. -/
def inB (n a b : Int) : Bool := decide (a ≤ n) && decide (n ≤ b)
/-- Two to the power of n. -/
def pw (n : Int) : Int := 2 ^ n.toNat
theorem pw_pos (n : Int) : 1 ≤ pw n := by
  have h : 0 < 2 ^ n.toNat := Nat.two_pow_pos _
  have h2 : ((2 ^ n.toNat : Nat) : Int) = pw n := by simp [pw]
  omega
theorem pw_le {n m : Int} (h : n ≤ m) : pw n ≤ pw m := by
  have h1 : 2 ^ n.toNat ≤ 2 ^ m.toNat := Nat.pow_le_pow_right (by decide) (by omega)
  have h2 : ((2 ^ n.toNat : Nat) : Int) = pw n := by simp [pw]
  have h3 : ((2 ^ m.toNat : Nat) : Int) = pw m := by simp [pw]
  omega
theorem wrap_pw {n : Int} (h0 : 0 ≤ n) (h : n ≤ 62) : IntKind.i64.wrap (2 ^ min n.toNat 64) = pw n := by
  have e : min n.toNat 64 = n.toNat := by omega
  rw [e]
  have h1 := pw_pos n
  have h2 := pw_le h
  have h3 : pw 62 = 4611686018427387904 := by decide
  exact IntWalk.i64_in _ (by show _ ≤ pw n ∧ pw n ≤ _; omega)

theorem wrap_pw2 {n : Int} (h0 : 0 ≤ n) (h : n ≤ 62) : IntKind.i64.wrap (2 ^ n.toNat) = pw n := by
  have := wrap_pw h0 h
  rwa [show min n.toNat 64 = n.toNat by omega] at this
theorem wrap_pw3 {n : Int} (h0 : 0 ≤ n) (h : n ≤ 62) : wrap64 (2 ^ n.toNat) = pw n := (IntWalk.i64_left _).symm.trans (wrap_pw2 h0 h)

theorem bcell {W w1 : World} (hb : Below W.heap.size W w1) : (∀ b o, b < W.heap.size → w1.cell? ⟨b, o, none⟩ = W.cell? ⟨b, o, none⟩) ∧ (∀ b o, b < W.heap.size → w1.frozen? ⟨b, o, none⟩ = W.frozen? ⟨b, o, none⟩) :=
  ⟨fun b o h => hb.cell (p := ⟨b, o, none⟩) h, fun b o h => hb.frozen (p := ⟨b, o, none⟩) h⟩
theorem bel_drewN {B : Nat} {a w : World} (h : Below B a w) (n : Nat) : Below B a (w.drewN n) := ⟨h.os, h.tape, h.output, h.size, h.block⟩

theorem bel_alloc {B : Nat} {a w : World} (hB : B ≤ w.heap.size) (h : Below B a w) (o : Obj) : Below B a (w.alloc o) := h.alloc hB o
theorem bel_setCell {B : Nat} {a w : World} {p : Addr} (hp : B ≤ p.block) (h : Below B a w) (u : Value) : Below B a (w.setCell p u) := h.setCell hp u
theorem bel_join {B B' : Nat} {a b c : World} (h : Below B' b c) (h2 : B ≤ B') (h3 : Below B a b) : Below B a c := h3.trans (h.mono h2)

/-- A slice value of n elements, whose cells hold xs: its block lies from lo on and its cells can be written. -/
structure Sl (w : World) (lo hi : Nat) (A : Option Addr) (n c sz : Nat) (xs : List Value) : Prop where
  len : xs.length = n * sz
  cap : n ≤ c
  max : c ≤ 9223372036854775807
  top : hi ≤ w.heap.size
  cells : 0 < n → ∃ b off, A = some ⟨b, off, none⟩ ∧ lo ≤ b ∧ b < hi ∧ ∀ j, j < n * sz → w.cell? ⟨b, off + j, none⟩ = some (xs.getD j undef) ∧ w.frozen? ⟨b, off + j, none⟩ = false

section
variable {w w' : World} {lo hi lo' hi' B : Nat} {A : Option Addr} {n c sz : Nat} {xs : List Value}
theorem Sl.at (h : Sl w lo hi A n c sz xs) (hn : 0 < n) : ∃ b off, A = some ⟨b, off, none⟩ ∧ lo ≤ b ∧ b < hi ∧ b < w.heap.size ∧ ∀ j, j < n * sz → w.cell? ⟨b, off + j, none⟩ = some (xs.getD j undef) ∧ w.frozen? ⟨b, off + j, none⟩ = false := by
  obtain ⟨b, off, e, hl, hb, hc⟩ := h.cells hn
  exact ⟨b, off, e, hl, hb, Nat.lt_of_lt_of_le hb h.top, hc⟩
theorem Sl.keep (h : Sl w lo hi A n c sz xs) (hs : w.heap.size ≤ w'.heap.size) (hk : ∀ b o, lo ≤ b → b < hi → w'.cell? ⟨b, o, none⟩ = w.cell? ⟨b, o, none⟩ ∧ w'.frozen? ⟨b, o, none⟩ = w.frozen? ⟨b, o, none⟩) : Sl w' lo hi A n c sz xs :=
  ⟨h.len, h.cap, h.max, Nat.le_trans h.top hs, fun hn => by
    obtain ⟨b, off, e, hl, hb, hc⟩ := h.cells hn
    refine ⟨b, off, e, hl, hb, fun j hj => ?_⟩
    rw [(hk b _ hl hb).1, (hk b _ hl hb).2]; exact hc j hj⟩
theorem Sl.below (h : Sl w lo hi A n c sz xs) (hb : Below w.heap.size w w') : Sl w' lo hi A n c sz xs :=
  h.keep hb.size fun b o _ hlt => ⟨hb.cell (p := ⟨b, o, none⟩) (Nat.lt_of_lt_of_le hlt h.top), hb.frozen (p := ⟨b, o, none⟩) (Nat.lt_of_lt_of_le hlt h.top)⟩
theorem Sl.alloc (h : Sl w lo hi A n c sz xs) (o : Obj) : Sl (w.alloc o) lo hi A n c sz xs := h.below ((Below.refl _ _).alloc (Nat.le_refl _) o)
theorem Sl.drewN (h : Sl w lo hi A n c sz xs) (k : Nat) : Sl (w.drewN k) lo hi A n c sz xs := h.below (bel_drewN (Below.refl _ _) k)
theorem Sl.drew (h : Sl w lo hi A n c sz xs) : Sl w.drew lo hi A n c sz xs := h.below (Below.refl _ _).drew
theorem Sl.setCell (h : Sl w lo hi A n c sz xs) {p : Addr} (hp : p.block < lo ∨ hi ≤ p.block) (u : Value) : Sl (w.setCell p u) lo hi A n c sz xs :=
  h.keep (by simp [World.setCell]) fun b o hb hb2 => by
    have e := Below.heap_setCell w p u b (by omega)
    exact ⟨World.cell?_of_block (a := ⟨b, o, none⟩) e, World.frozen?_of_block (a := ⟨b, o, none⟩) e⟩
theorem Sl.setCell' {p : Addr} (hp : p.block < lo ∨ hi ≤ p.block) (h : Sl w lo hi A n c sz xs) (u : Value) : Sl (w.setCell p u) lo hi A n c sz xs := h.setCell hp u
theorem Sl.lower (h : Sl w lo hi A n c sz xs) (hl : lo' ≤ lo) (hh : hi ≤ hi') (ht : hi' ≤ w.heap.size) : Sl w lo' hi' A n c sz xs :=
  ⟨h.len, h.cap, h.max, ht, fun hn => by
    obtain ⟨b, off, e, hb, hb2, r⟩ := h.cells hn
    exact ⟨b, off, e, by omega, by omega, r⟩⟩
theorem Sl.clip (h : Sl w lo hi A n c sz xs) : Sl w lo hi A n n sz xs := ⟨h.len, Nat.le_refl _, Nat.le_trans h.cap h.max, h.top, h.cells⟩
theorem Sl.nil (w : World) (lo hi sz : Nat) (A : Option Addr) {c : Nat} (hc : c ≤ 9223372036854775807) (ht : hi ≤ w.heap.size) : Sl w lo hi A 0 c sz [] := ⟨by simp, by omega, hc, ht, fun h => by omega⟩
theorem Sl.of_own {e : TypeId} {v : Value} (h : w.ownsRow lo e sz v n xs) : ∃ A c, v = .slice A n c ∧ Sl w lo w.heap.size A n c sz xs := by
  obtain ⟨hl, h⟩ := h
  rcases h with ⟨rfl, rfl⟩ | ⟨g, cap, cur, rfl, hg, hh, hn, hm, hs, ht⟩
  · exact ⟨none, 0, rfl, hl, by omega, by omega, Nat.le_refl _, fun h => by omega⟩
  · refine ⟨_, cap, rfl, hl, hn, hm, Nat.le_refl _, fun _ => ⟨g, 0, rfl, hg, (Array.getElem?_eq_some_iff.1 hh).1, fun j hj => ⟨?_, ?_⟩⟩⟩
    · have hx : xs.getD j undef = cur.toList.getD j undef := by
        rw [← ht]; simp [hj]
      have hj' : j < cur.size := by
        have := Nat.mul_le_mul_right sz hn; omega
      rw [hx, Nat.zero_add, cell_of_row w g j cur e (0, 0) hh]
      simp [hj']
    · simp [World.frozen?, hh]
end

theorem own_made0 {base : Nat} {size : Nat} (w : World) (e : TypeId) (g : Nat) (hg : g = w.heap.size) (hb : base ≤ w.heap.size) : (w.alloc (.cells #[] e)).ownsRow base e size (.slice (some ⟨g, 0, none⟩) 0 0) 0 [] := by
  subst hg; exact World.ownsRow_made w #[] 0 hb (Nat.zero_le _) (by simp)
theorem own_drew {w : World} {base : Nat} {e : TypeId} {size n : Nat} {v : Value} {xs : List Value} (h : w.ownsRow base e size v n xs) : w.drew.ownsRow base e size v n xs := h
theorem own_drewN {w : World} {base : Nat} {e : TypeId} {size n : Nat} {v : Value} {xs : List Value} (h : w.ownsRow base e size v n xs) (k : Nat) : (w.drewN k).ownsRow base e size v n xs := h
theorem own_far {w : World} {base : Nat} {e : TypeId} {size n : Nat} {v : Value} {xs : List Value} (h : w.ownsRow base e size v n xs) {p : Addr} (hp : v.ownBlock ≠ some p.block) (u : Value) : (w.setCell p u).ownsRow base e size v n xs := by
  refine ⟨h.1, ?_⟩
  rcases h.2 with h2 | ⟨g, cap, cur, rfl, hg, hh, r⟩
  · exact .inl h2
  · exact .inr ⟨g, cap, cur, rfl, hg, (Below.heap_setCell w p u g (by simpa [Value.ownBlock] using hp)).trans hh, r⟩
theorem own_call {w w' : World} {base : Nat} {e : TypeId} {size n : Nat} {v : Value} {xs : List Value} (h : w.ownsRow base e size v n xs) (hb : Below w.heap.size w w') : w'.ownsRow base e size v n xs := by
  refine ⟨h.1, ?_⟩
  rcases h.2 with h2 | ⟨g, cap, cur, rfl, hg, hh, r⟩
  · exact .inl h2
  · exact .inr ⟨g, cap, cur, rfl, hg, (hb.block g (Array.getElem?_eq_some_iff.1 hh).1).trans hh, r⟩

/-- A block of the call's own, known whole: its cells are cs and can be written. -/
structure Bk (w : World) (g : Nat) (cs : Array Value) : Prop where
  lt : g < w.heap.size
  cell : ∀ o, w.cell? ⟨g, o, none⟩ = cs[o]?
  free : ∀ o, w.frozen? ⟨g, o, none⟩ = false
section
variable {w w' : World} {g : Nat} {cs : Array Value}
theorem Bk.keep (h : Bk w g cs) (hs : w.heap.size ≤ w'.heap.size) (hk : w'.heap[g]? = w.heap[g]?) : Bk w' g cs :=
  ⟨Nat.lt_of_lt_of_le h.lt hs, fun o => (World.cell?_of_block (a := ⟨g, o, none⟩) hk).trans (h.cell o), fun o => (World.frozen?_of_block (a := ⟨g, o, none⟩) hk).trans (h.free o)⟩
theorem Bk.new (w : World) (cs : Array Value) (t : TypeId) : Bk (w.alloc (.cells cs t)) w.heap.size cs :=
  ⟨by simp, fun o => cell_of_row _ _ o cs t (0, 0) (heap_alloc_new w _), fun o => by unfold World.frozen?; rw [show (w.alloc (.cells cs t)).heap[(⟨w.heap.size, o, none⟩ : Addr).block]? = some (.cells cs t) from heap_alloc_new w _]; simp⟩
theorem Bk.new' (w : World) (cs : Array Value) (t : TypeId) (g : Nat) (hg : g = w.heap.size) : Bk (w.alloc (.cells cs t)) g cs := hg ▸ Bk.new w cs t
theorem Bk.alloc (h : Bk w g cs) (o : Obj) : Bk (w.alloc o) g cs := h.keep (by simp) (Below.heap_alloc w o g h.lt)
theorem Bk.drewN (h : Bk w g cs) (k : Nat) : Bk (w.drewN k) g cs := h.keep (Nat.le_refl _) rfl
theorem Bk.drew (h : Bk w g cs) : Bk w.drew g cs := h.keep (Nat.le_refl _) rfl
theorem Bk.below {B : Nat} (h : Bk w g cs) (hb : Below B w w') (hB : g < B) : Bk w' g cs := h.keep hb.size (hb.block g hB)
theorem Bk.call (h : Bk w g cs) (hb : Below w.heap.size w w') : Bk w' g cs := h.below hb h.lt
theorem Bk.grown {row : Option Nat} (h : Bk w g cs) (hg : w.grownBy w' row) (hr : row ≠ some g) : Bk w' g cs := h.keep hg.size (hg.block g h.lt (Ne.symm hr))
theorem Bk.far (h : Bk w g cs) {p : Addr} (hp : g ≠ p.block) (u : Value) : Bk (w.setCell p u) g cs := h.keep (by simp [World.setCell]) (Below.heap_setCell w p u g hp)
theorem Bk.far' {p : Addr} (hp : g ≠ p.block) (h : Bk w g cs) (u : Value) : Bk (w.setCell p u) g cs := h.far hp u
theorem Bk.set (h : Bk w g cs) (i : Nat) (u : Value) (hi : i < cs.size) : Bk (w.setCell ⟨g, i, none⟩ u) g (cs.setIfInBounds i u) := by
  have h0 := h.cell 0
  unfold World.cell? at h0
  have hsz : 0 < cs.size := by omega
  cases hh : w.heap[g]? with
  | none => simp [hh, hsz] at h0
  | some o =>
    cases o with
    | cells c e f =>
      have hcs : ∀ j, c[j]? = cs[j]? := fun j => by have := h.cell j; simpa [World.cell?, hh] using this
      refine ⟨by simpa [World.setCell] using h.lt, fun o => ?_, fun o => ?_⟩
      · have hc : c = cs := Array.ext_getElem? (fun j => hcs j)
        subst hc
        simp [World.cell?, World.setCell, Array.getElem?_modify, hh]
      · have := h.free o
        simp only [World.frozen?, World.setCell, Array.getElem?_modify, hh] at this ⊢
        simpa using this
    | _ => simp [hh, hsz] at h0
theorem Bk.set2 {a0 a1 v0 v1 : Value} (h : Bk w g #[a0, a1]) : Bk ((w.setCell ⟨g, 0, none⟩ v0).setCell ⟨g, 1, none⟩ v1) g #[v0, v1] := (h.set 0 v0 (by simp)).set 1 v1 (by simp)
theorem Bk.set3 {a0 a1 a2 v0 v1 v2 : Value} (h : Bk w g #[a0, a1, a2]) : Bk (((w.setCell ⟨g, 0, none⟩ v0).setCell ⟨g, 1, none⟩ v1).setCell ⟨g, 2, none⟩ v2) g #[v0, v1, v2] := ((h.set 0 v0 (by simp)).set 1 v1 (by simp)).set 2 v2 (by simp)
theorem Bk.set4 {a0 a1 a2 a3 v0 v1 v2 v3 : Value} (h : Bk w g #[a0, a1, a2, a3]) : Bk ((((w.setCell ⟨g, 0, none⟩ v0).setCell ⟨g, 1, none⟩ v1).setCell ⟨g, 2, none⟩ v2).setCell ⟨g, 3, none⟩ v3) g #[v0, v1, v2, v3] :=
  (((h.set 0 v0 (by simp)).set 1 v1 (by simp)).set 2 v2 (by simp)).set 3 v3 (by simp)
theorem Bk.set5 {a0 a1 a2 a3 a4 v0 v1 v2 v3 v4 : Value} (h : Bk w g #[a0, a1, a2, a3, a4]) : Bk (((((w.setCell ⟨g, 0, none⟩ v0).setCell ⟨g, 1, none⟩ v1).setCell ⟨g, 2, none⟩ v2).setCell ⟨g, 3, none⟩ v3).setCell ⟨g, 4, none⟩ v4) g #[v0, v1, v2, v3, v4] :=
  ((((h.set 0 v0 (by simp)).set 1 v1 (by simp)).set 2 v2 (by simp)).set 3 v3 (by simp)).set 4 v4 (by simp)
theorem Bk.set6 {a0 a1 a2 a3 a4 a5 v0 v1 v2 v3 v4 v5 : Value} (h : Bk w g #[a0, a1, a2, a3, a4, a5]) : Bk ((((((w.setCell ⟨g, 0, none⟩ v0).setCell ⟨g, 1, none⟩ v1).setCell ⟨g, 2, none⟩ v2).setCell ⟨g, 3, none⟩ v3).setCell ⟨g, 4, none⟩ v4).setCell ⟨g, 5, none⟩ v5) g #[v0, v1, v2, v3, v4, v5] :=
  (((((h.set 0 v0 (by simp)).set 1 v1 (by simp)).set 2 v2 (by simp)).set 3 v3 (by simp)).set 4 v4 (by simp)).set 5 v5 (by simp)
theorem Bk.bel {B : Nat} {a : World} (hB : Below B a w) (_h : Bk w g cs) (hg : B ≤ g) (i : Nat) (u : Value) : Below B a (w.setCell ⟨g, i, none⟩ u) := hB.setCell hg u
end

/-- What a make lays. -/
def mkCells (z : Array Value) (m : Nat) : Array Value := madeCells z m
theorem mkCells_size (z : Array Value) (m : Nat) : (mkCells z m).size = m := size_madeCells z m
theorem mkCells_one (z : Value) (m : Nat) : mkCells #[z] m = Array.replicate m z := by
  apply Array.ext
  · simp [mkCells, madeCells]
  · intro i h1 h2
    simp [mkCells, madeCells, Nat.mod_one]
theorem run_make_n {P : Program} (t e : TypeId) (i : TypeInfo) (z : Value) (size bytes : Nat) (ht : P.underlying t = some (.slice e)) (hinf : P.info? e = some i) (hz : i.zero = some z) (hsize : i.size = size) (hby : i.bytes = bytes)
    (n : Nat) (hbytes : bytes * n ≤ 281474976710656) (h63 : n ≤ 9223372036854775807) (w : World) :
    (Instr.makeSlice t (.int .i64 (n : Int)) (.int .i64 (n : Int))).run P w = .ok (.slice (some ⟨w.heap.size, 0, none⟩) n n) (w.alloc (.cells (mkCells z.cells (n * size)) e)) := by
  subst hsize hby
  have hb : (i.bytes : Int) * (n : Int) ≤ 281474976710656 := by
    have h : ((i.bytes * n : Nat) : Int) ≤ 281474976710656 := by omega
    rwa [Int.natCast_mul] at h
  have hr := run_make (P := P) w t e i z ht hinf hz .i64 .i64 n n (by omega) (by omega) hb (by omega)
  simp only [Int.toNat_natCast] at hr
  exact hr
theorem Sl.made (w : World) (cs : Array Value) (e : TypeId) (n sz : Nat) (hs : cs.size = n * sz) (hm : n ≤ 9223372036854775807) : Sl (w.alloc (.cells cs e)) w.heap.size (w.heap.size + 1) (some ⟨w.heap.size, 0, none⟩) n n sz cs.toList := by
  refine ⟨by simpa using hs, Nat.le_refl _, hm, by simp, fun _ => ⟨w.heap.size, 0, rfl, Nat.le_refl _, Nat.lt_succ_self _, fun j hj => ⟨?_, ?_⟩⟩⟩
  · rw [Nat.zero_add, (Bk.new w cs e).cell j]
    have : j < cs.size := by omega
    simp [this]
  · exact (Bk.new w cs e).free _

section
variable {P : Program} {w : World} {g : Nat} {cs : Array Value}
theorem bk_load (hk : Bk w g cs) (ty : TypeId) (d : TypeDesc) (hu : P.underlying ty = some d) (hd : (match d with | .struct _ | .array _ _ => true | _ => false) = true) (hi : (P.info? ty).map (·.size) = some cs.size) :
    (loadVar ty ⟨g, 0, none⟩).run P w = .ok (.agg cs) w := by
  have hl : (loadCells ⟨g, 0, none⟩ cs.toList.length).run P w = .ok cs.toList.toArray w :=
    run_loadCells_list (P := P) w ⟨g, 0, none⟩ cs.toList (fun j v hv => by
      have hadd : (⟨g, 0, none⟩ : Addr).add j = ⟨g, j, none⟩ := by unfold Addr.add; split <;> simp_all
      rw [hadd, hk.cell j]
      simpa using hv)
  cases hq : P.info? ty with
  | none => simp [hq] at hi
  | some i =>
    have hs : i.size = cs.size := by simpa [hq] using hi
    have hagg : (isAgg ty).run P w = .ok true w := by
      unfold isAgg
      rw [Sem.run_bind, run_underlying hu w]
      cases d <;> simp_all
    simp only [Array.length_toList, Array.toArray_toList] at hl
    simp [loadVar, Sem.run_bind, hagg, sizeOf, typeInfo, hq, hs, hl]
theorem ret_bk {fn : Func} {R : Ending → World → Prop} {a : Act} {p : Tmp} {ty : TypeId} (cs : Array Value) (g : Nat) (d : TypeDesc) (h : fn.results = #[.cell p ty]) (hp : a.tmps.getD p undef = .pointer (some ⟨g, 0, none⟩))
    (hu : P.underlying ty = some d) (hd : (match d with | .struct _ | .array _ _ => true | _ => false) = true) (hi : (P.info? ty).map (·.size) = some cs.size) (hdf : a.defers = []) (hk : Bk w g cs) (hR : R (.returned (.agg cs)) w) : bodyPost P fn R .ret a w := by
  have hp' : a.tmps[p]?.getD undef = .pointer (some ⟨g, 0, none⟩) := by simpa using hp
  exact bodyPost_ret (v := .agg cs) (by simp [results, h, hp', asAddr, bk_load hk ty d hu hd hi]) hdf hR
theorem ret_bk_tmp {fn : Func} {R : Ending → World → Prop} {a : Act} {p u : Tmp} {ty : TypeId} (cs : Array Value) (g : Nat) (v : Value) (d : TypeDesc) (h : fn.results = #[.cell p ty, .tmp u]) (hp : a.tmps.getD p undef = .pointer (some ⟨g, 0, none⟩)) (hv : a.tmps.getD u undef = v)
    (hu : P.underlying ty = some d) (hd : (match d with | .struct _ | .array _ _ => true | _ => false) = true) (hi : (P.info? ty).map (·.size) = some cs.size) (hdf : a.defers = []) (hk : Bk w g cs) (hR : R (.returned (.tuple #[.agg cs, v])) w) : bodyPost P fn R .ret a w := by
  have hp' : a.tmps[p]?.getD undef = .pointer (some ⟨g, 0, none⟩) := by simpa using hp
  have hv' : a.tmps[u]?.getD undef = v := by simpa using hv
  exact bodyPost_ret (v := .tuple #[.agg cs, v]) (by simp [results, h, hp', hv', asAddr, bk_load hk ty d hu hd hi]) hdf hR
end

/-- Only blocks from lo on and before hi have turned, and there may be new ones. -/
structure But (lo hi : Nat) (w w' : World) : Prop where
  os : w'.os = w.os
  tape : w'.tape = w.tape
  output : w'.output = w.output
  size : w.heap.size ≤ w'.heap.size
  block : ∀ k, k < w.heap.size → (k < lo ∨ hi ≤ k) → w'.heap[k]? = w.heap[k]?
section
variable {w w' a : World} {lo hi lo' hi' B : Nat} {A : Option Addr} {n c sz : Nat} {xs : List Value}
theorem But.refl (lo hi : Nat) (w : World) : But lo hi w w := ⟨rfl, rfl, rfl, Nat.le_refl _, fun _ _ _ => rfl⟩
theorem But.setCell (h : But lo hi a w) {p : Addr} (hp : lo ≤ p.block ∧ p.block < hi) (u : Value) : But lo hi a (w.setCell p u) :=
  ⟨h.os, h.tape, h.output, by simpa [World.setCell] using h.size, fun k hk hd => (Below.heap_setCell w p u k (by omega)).trans (h.block k hk hd)⟩
theorem But.alloc (h : But lo hi a w) (o : Obj) : But lo hi a (w.alloc o) :=
  ⟨h.os, h.tape, h.output, Nat.le_trans h.size (by simp), fun k hk hd => (Below.heap_alloc w o k (Nat.lt_of_lt_of_le hk h.size)).trans (h.block k hk hd)⟩
theorem But.trans {c : World} (h : But lo hi a w) (k : But lo hi w c) : But lo hi a c :=
  ⟨k.os.trans h.os, k.tape.trans h.tape, k.output.trans h.output, Nat.le_trans h.size k.size, fun i hi hd => (k.block i (Nat.lt_of_lt_of_le hi h.size) hd).trans (h.block i hi hd)⟩
theorem But.mono (h : But lo hi w w') (h1 : lo' ≤ lo) (h2 : hi ≤ hi') : But lo' hi' w w' := ⟨h.os, h.tape, h.output, h.size, fun k hk hd => h.block k hk (by omega)⟩
theorem But.of_below (h : Below w.heap.size w w') : But lo hi w w' := ⟨h.os, h.tape, h.output, h.size, fun k hk _ => h.block k hk⟩
theorem But.drewN (h : But lo hi a w) (n : Nat) : But lo hi a (w.drewN n) := ⟨h.os, h.tape, h.output, h.size, h.block⟩
theorem But.drew (h : But lo hi a w) : But lo hi a w.drew := ⟨h.os, h.tape, h.output, h.size, h.block⟩
theorem Below.but (h : Below B a w) (hb : But lo hi w w') (hB : B ≤ lo) (hs : B ≤ w.heap.size) : Below B a w' :=
  h.trans ⟨hb.os, hb.tape, hb.output, hb.size, fun k hk => hb.block k (by omega) (by omega)⟩
theorem Sl.but (h : Sl w lo hi A n c sz xs) (hb : But lo' hi' w w') (hd : hi ≤ lo' ∨ hi' ≤ lo) : Sl w' lo hi A n c sz xs :=
  h.keep hb.size fun b o h1 h2 => by
    have e := hb.block b (Nat.lt_of_lt_of_le h2 h.top) (by omega)
    exact ⟨World.cell?_of_block (a := ⟨b, o, none⟩) e, World.frozen?_of_block (a := ⟨b, o, none⟩) e⟩
theorem Bk.but {g : Nat} {cs : Array Value} (h : Bk w g cs) (hb : But lo hi w w') (hd : g < lo ∨ hi ≤ g) : Bk w' g cs := h.keep hb.size (hb.block g h.lt hd)
theorem Sl.set {b off : Nat} (h : Sl w lo hi (some ⟨b, off, none⟩) n c sz xs) (j : Nat) (hj : j < n * sz) (u : Value) : Sl (w.setCell ⟨b, off + j, none⟩ u) lo hi (some ⟨b, off, none⟩) n c sz (xs.set j u) := by
  refine ⟨by simpa using h.len, h.cap, h.max, by simpa [World.setCell] using h.top, fun hn => ?_⟩
  obtain ⟨b', off', e, h1, h2, h3⟩ := h.cells hn
  simp at e
  obtain ⟨rfl, rfl⟩ := e
  refine ⟨b, off, rfl, h1, h2, fun k hk => ⟨?_, ?_⟩⟩
  · by_cases hjk : j = k
    · subst hjk
      rw [World.cell?_setCell_same _ _ _ (h3 j hk).1]
      have : j < xs.length := by rw [h.len]; exact hk
      simp [this]
    · rw [World.cell?_setCell_other _ _ _ _ (by simp), (h3 k hk).1]
      simp [hjk]
  · rw [World.frozen?_setCell]; exact (h3 k hk).2
end

section
variable {P : Program} (w : World)
theorem run_append_nil_src (base : Nat) (t ty e : TypeId) (i : TypeInfo) (size : Nat) (ht : P.underlying t = some (.slice e)) (hinf : P.info? e = some i)
    (v : Value) (n : Nat) (xs : List Value) (hown : w.ownsRow base e size v n xs) (c : Nat) : (Builtin.append_ #[t, t] ty #[v, .slice none 0 c]).run P w = .ok v w := by
  rcases hown.2 with ⟨rfl, rfl⟩ | ⟨g, cap, cur, rfl, _, _, hnc, _⟩
  · simp [Builtin.append_, run_underlying ht, sizeOf, typeInfo, hinf, Builtin.lenOf, Builtin.firstCells]
  · simp [Builtin.append_, run_underlying ht, sizeOf, typeInfo, hinf, Builtin.lenOf, Builtin.firstCells, hnc, storeCells]

theorem run_append_sl (base : Nat) (t ty e : TypeId) (i : TypeInfo) (z : Value) (size bytes : Nat) (ht : P.underlying t = some (.slice e)) (hinf : P.info? e = some i) (hz : i.zero = some z)
    (hsize : i.size = size) (hby : i.bytes = bytes) (hzs : z.cells.size = size) (hsz : 0 < size)
    (v : Value) (n : Nat) (xs : List Value) (hown : w.ownsRow base e size v n xs)
    (lo hi : Nat) (A : Option Addr) (m c : Nat) (news : List Value) (hr : Sl w lo hi A m c size news) (h1 : ∀ u ∈ news, u.oneCell' = true)
    (h63 : n + m ≤ maxLen) (hbytes : (n + m) * bytes ≤ 140737488355328) (hbase : base ≤ w.heap.size) :
    ∃ A' c' w', (Builtin.append_ #[t, t] ty #[v, .slice A m c]).run P w = .ok (.slice A' (n + m) c') w' ∧ w'.ownsRow base e size (.slice A' (n + m) c') (n + m) (xs ++ news) ∧ w.grownBy w' v.ownBlock ∧
      ((Value.slice A' (n + m) c').ownBlock = v.ownBlock ∨ (Value.slice A' (n + m) c').ownBlock = some w.heap.size) := by
  rcases A with _ | ad
  · have hm : m = 0 := by
      rcases Nat.eq_zero_or_pos m with h0 | h0
      · exact h0
      · obtain ⟨b, off, h, _⟩ := hr.cells h0
        cases h
    subst hm
    have hn : news = [] := List.eq_nil_of_length_eq_zero (by simpa using hr.len)
    subst hn
    obtain ⟨A', c', rfl, _⟩ := Sl.of_own hown
    exact ⟨A', c', w, run_append_nil_src w base t ty e i size ht hinf _ n xs hown c, by simpa using hown, World.grownBy.refl w _, .inl rfl⟩
  · have hcells : ∀ j u, news[j]? = some u → w.cell? (ad.add j) = some u := by
      intro j u hu
      rcases Nat.eq_zero_or_pos m with h0 | h0
      · subst h0
        have hn : news = [] := List.eq_nil_of_length_eq_zero (by simpa using hr.len)
        subst hn
        simp at hu
      · obtain ⟨b, off, h, _, _, hc⟩ := hr.cells h0
        injection h with h
        subst h
        have hj : j < news.length := (List.getElem?_eq_some_iff.1 hu).1
        have := (hc j (by rw [← hr.len]; exact hj)).1
        have e1 : (⟨b, off, none⟩ : Addr).add j = ⟨b, off + j, none⟩ := by
          unfold Addr.add; split <;> simp_all
        rw [e1, this]
        simp [hu]
    obtain ⟨v', w', hrun, h2, h3, _, h5⟩ := run_append_own_at (P := P) w base t ty e i z size bytes ht hinf hz hsize hby hzs hsz v n xs hown ad m c news hr.len hcells h1 h63 hbytes hbase
    obtain ⟨A', c', rfl, _⟩ := Sl.of_own h2
    exact ⟨A', c', w', hrun, h2, h3, h5⟩

theorem wp_append_sl {o : Oper} {a : Act} {K : Act → World → Prop} {Q : Exit → Act → World → Prop} (s x : Operand) (t : TypeId)
    (ho : o.op = .call { callee := .builtin .append, args := #[s, x], argTypes := #[t, t] })
    (base : Nat) (e : TypeId) (i : TypeInfo) (z : Value) (size bytes : Nat) (ht : P.underlying t = some (.slice e)) (hinf : P.info? e = some i) (hz : i.zero = some z)
    (hsize : i.size = size) (hby : i.bytes = bytes) (hzs : z.cells.size = size) (hsz : 0 < size)
    (v : Value) (n : Nat) (xs : List Value) (hs : a.eval s = v) (hown : w.ownsRow base e size v n xs)
    (lo hi : Nat) (A : Option Addr) (m c : Nat) (news : List Value) (hx : a.eval x = .slice A m c) (hr : Sl w lo hi A m c size news) (h1 : ∀ u ∈ news, u.oneCell' = true)
    (h63 : n + m ≤ maxLen) (hbytes : (n + m) * bytes ≤ 140737488355328) (hbase : base ≤ w.heap.size)
    (h : ∀ A' c' w', w'.ownsRow base e size (.slice A' (n + m) c') (n + m) (xs ++ news) → w.grownBy w' v.ownBlock → ((Value.slice A' (n + m) c').ownBlock = v.ownBlock ∨ (Value.slice A' (n + m) c').ownBlock = some w.heap.size) → K (a.put o.dst (.slice A' (n + m) c')) w') : o.wp P a w K Q := by
  obtain ⟨A', c', w', hrun, h2, h3, h4⟩ := run_append_sl (P := P) w base t o.type e i z size bytes ht hinf hz hsize hby hzs hsz v n xs hown lo hi A m c news hr h1 h63 hbytes hbase
  unfold Oper.wp execOp
  simp only [ho, resolve, invoke, builtin, Sem.run_bind, Sem.run_pure, Result.andThen_ok, List.map_toArray, List.map_cons, List.map_nil, hs, hx, hrun]
  exact h A' c' w' h2 h3 h4

theorem wpList_append_sl {ops : Array Oper} {rest : List Oper} {o : Oper} {a : Act} {Q : Exit → Act → World → Prop} (hgd : o.guard = none) (s x : Operand) (t : TypeId)
    (ho : o.op = .call { callee := .builtin .append, args := #[s, x], argTypes := #[t, t] })
    (base : Nat) (e : TypeId) (i : TypeInfo) (z : Value) (size bytes : Nat) (ht : P.underlying t = some (.slice e)) (hinf : P.info? e = some i) (hz : i.zero = some z)
    (hsize : i.size = size) (hby : i.bytes = bytes) (hzs : z.cells.size = size) (hsz : 0 < size)
    (v : Value) (n : Nat) (xs : List Value) (hs : a.eval s = v) (hown : w.ownsRow base e size v n xs)
    (lo hi : Nat) (A : Option Addr) (m c : Nat) (news : List Value) (hx : a.eval x = .slice A m c) (hr : Sl w lo hi A m c size news) (h1 : ∀ u ∈ news, u.oneCell' = true)
    (h63 : n + m ≤ maxLen) (hbytes : (n + m) * bytes ≤ 140737488355328) (hbase : base ≤ w.heap.size)
    (h : ∀ A' c' w', w'.ownsRow base e size (.slice A' (n + m) c') (n + m) (xs ++ news) → w.grownBy w' v.ownBlock → ((Value.slice A' (n + m) c').ownBlock = v.ownBlock ∨ (Value.slice A' (n + m) c').ownBlock = some w.heap.size) → wpList P ops Q rest (a.put o.dst (.slice A' (n + m) c')) w') : wpList P ops Q (o :: rest) a w :=
  wpList_plain hgd fun _ hK => wp_append_sl w s x t ho base e i z size bytes ht hinf hz hsize hby hzs hsz v n xs hs hown lo hi A m c news hx hr h1 h63 hbytes hbase fun A' c' w' h2 h3 h4 => hK _ _ (h A' c' w' h2 h3 h4)

theorem step_append_sl {ops : Array Oper} {o : Oper} {a : Act} {K : Act → World → Prop} {Q : Exit → Act → World → Prop} {E : Prop} (hgd : o.guard = none) (s x : Operand) (t : TypeId)
    (ho : o.op = .call { callee := .builtin .append, args := #[s, x], argTypes := #[t, t] })
    (base : Nat) (e : TypeId) (i : TypeInfo) (z : Value) (size bytes : Nat) (ht : P.underlying t = some (.slice e)) (hinf : P.info? e = some i) (hz : i.zero = some z)
    (hsize : i.size = size) (hby : i.bytes = bytes) (hzs : z.cells.size = size) (hsz : 0 < size)
    (v : Value) (n : Nat) (xs : List Value) (hs : a.eval s = v) (hown : w.ownsRow base e size v n xs)
    (lo hi : Nat) (A : Option Addr) (m c : Nat) (news : List Value) (hx : a.eval x = .slice A m c) (hr : Sl w lo hi A m c size news) (h1 : ∀ u ∈ news, u.oneCell' = true)
    (h63 : n + m ≤ maxLen) (hbytes : (n + m) * bytes ≤ 140737488355328) (hbase : base ≤ w.heap.size)
    (h : ∀ A' c' w', w'.ownsRow base e size (.slice A' (n + m) c') (n + m) (xs ++ news) → w.grownBy w' v.ownBlock → ((Value.slice A' (n + m) c').ownBlock = v.ownBlock ∨ (Value.slice A' (n + m) c').ownBlock = some w.heap.size) → K (a.put o.dst (.slice A' (n + m) c')) w') :
    if Region.wanted o (yielded ops a.tmps) = true then Oper.wp P o a w K Q else E := by
  have hw : Region.wanted o (yielded ops a.tmps) = true := by simp [Region.wanted, hgd]
  rw [if_pos hw]
  exact wp_append_sl w s x t ho base e i z size bytes ht hinf hz hsize hby hzs hsz v n xs hs hown lo hi A m c news hx hr h1 h63 hbytes hbase h
theorem run_clone (t ty e : TypeId) (i : TypeInfo) (z : Value) (size bytes : Nat) (ht : P.underlying t = some (.slice e)) (hinf : P.info? e = some i) (hz : i.zero = some z)
    (hsize : i.size = size) (hby : i.bytes = bytes) (hzs : z.cells.size = size) (b : Addr)
    (lo hi : Nat) (A : Option Addr) (m c : Nat) (news : List Value) (hr : Sl w lo hi A m c size news) (hbytes : m * bytes ≤ 140737488355328) (hm : m ≤ maxLen) :
    ∃ A' c' w', (Builtin.append_ #[t, t] ty #[.slice (some b) 0 0, .slice A m c]).run P w = .ok (.slice A' m c') w' ∧ Sl w' w.heap.size w'.heap.size A' m c' size news ∧ Below w.heap.size w w' := by
  subst hsize hby
  rcases Nat.eq_zero_or_pos m with h0 | h0
  · subst h0
    have hn : news = [] := List.eq_nil_of_length_eq_zero (by simpa using hr.len)
    subst hn
    refine ⟨some b, 0, w, ?_, Sl.nil _ _ _ _ _ (by omega) (Nat.le_refl _), Below.refl _ _⟩
    cases A <;> simp [Builtin.append_, run_underlying ht, sizeOf, typeInfo, hinf, Builtin.lenOf, Builtin.firstCells, storeCells, loadCells, loadCellsFrom]
  · obtain ⟨b', off, rfl, _, _, hc⟩ := hr.cells h0
    have hnews : ∀ j v, news[j]? = some v → w.cell? ((⟨b', off, none⟩ : Addr).add j) = some v := by
      intro j u hu
      have hj : j < news.length := (List.getElem?_eq_some_iff.1 hu).1
      have := (hc j (by rw [← hr.len]; exact hj)).1
      have e1 : (⟨b', off, none⟩ : Addr).add j = ⟨b', off + j, none⟩ := by
        unfold Addr.add; split <;> simp_all
      rw [e1, this]
      simp [hu]
    have hm' : m ≤ 9223372036854775807 := hm
    have hrun := run_append_grow (P := P) w t ty e i z ht hinf hz b 0 0 [] (by simp) (by simp) ⟨b', off, none⟩ m c news hr.len hnews (by omega) (by omega) (growslice_fits (by omega) (by simpa using hbytes))
    simp only [Nat.zero_add] at hrun
    have hge := grownCap_ge w m 0 e
    have hcm : grownCap w m 0 e ≤ maxLen := grownCap_le_maxLen w m 0 e hm
    refine ⟨_, _, _, hrun, ?_, (Below.refl _ _).drew.alloc (Nat.le_refl _) _⟩
    have hown : (w.drew.alloc (.cells ([].toArray ++ news.toArray ++ Builtin.zeroCells z.cells (grownCap w m 0 e - m)) e)).ownsRow w.heap.size e i.size (.slice (some ⟨w.heap.size, 0, none⟩) m (grownCap w m 0 e)) m news := by
      refine ⟨hr.len, .inr ⟨w.heap.size, _, _, rfl, Nat.le_refl _, heap_alloc_new w.drew _, hge, hcm, ?_, ?_⟩⟩
      · simp only [Array.size_append, List.size_toArray, size_zeroCells, hzs, hr.len, List.length_nil, Nat.zero_add, ← Nat.add_mul]
        congr 1
        omega
      · simp only [Array.toList_append, List.nil_append]
        rw [← hr.len]
        exact List.take_left
    obtain ⟨A2, c2, hv, hs⟩ := Sl.of_own hown
    obtain ⟨rfl, _, rfl⟩ : A2 = some ⟨w.heap.size, 0, none⟩ ∧ True ∧ c2 = grownCap w m 0 e := by simp at hv; exact ⟨hv.1.symm, trivial, hv.2.symm⟩
    exact hs

theorem wp_clone {o : Oper} {a : Act} {K : Act → World → Prop} {Q : Exit → Act → World → Prop} (s x : Operand) (t : TypeId)
    (ho : o.op = .call { callee := .builtin .append, args := #[s, x], argTypes := #[t, t] })
    (e : TypeId) (i : TypeInfo) (z : Value) (size bytes : Nat) (ht : P.underlying t = some (.slice e)) (hinf : P.info? e = some i) (hz : i.zero = some z)
    (hsize : i.size = size) (hby : i.bytes = bytes) (hzs : z.cells.size = size) (b : Addr) (hs : a.eval s = .slice (some b) 0 0)
    (lo hi : Nat) (A : Option Addr) (m c : Nat) (news : List Value) (hx : a.eval x = .slice A m c) (hr : Sl w lo hi A m c size news) (hbytes : m * bytes ≤ 140737488355328) (hm : m ≤ maxLen)
    (h : ∀ A' c' w', Sl w' w.heap.size w'.heap.size A' m c' size news → Below w.heap.size w w' → K (a.put o.dst (.slice A' m c')) w') : o.wp P a w K Q := by
  obtain ⟨A', c', w', hrun, h2, h3⟩ := run_clone (P := P) w t o.type e i z size bytes ht hinf hz hsize hby hzs b lo hi A m c news hr hbytes hm
  unfold Oper.wp execOp
  simp only [ho, resolve, invoke, builtin, Sem.run_bind, Sem.run_pure, Result.andThen_ok, List.map_toArray, List.map_cons, List.map_nil, hs, hx, hrun]
  exact h A' c' w' h2 h3

theorem wpList_clone {ops : Array Oper} {rest : List Oper} {o : Oper} {a : Act} {Q : Exit → Act → World → Prop} (hgd : o.guard = none) (s x : Operand) (t : TypeId)
    (ho : o.op = .call { callee := .builtin .append, args := #[s, x], argTypes := #[t, t] })
    (e : TypeId) (i : TypeInfo) (z : Value) (size bytes : Nat) (ht : P.underlying t = some (.slice e)) (hinf : P.info? e = some i) (hz : i.zero = some z)
    (hsize : i.size = size) (hby : i.bytes = bytes) (hzs : z.cells.size = size) (b : Addr) (hs : a.eval s = .slice (some b) 0 0)
    (lo hi : Nat) (A : Option Addr) (m c : Nat) (news : List Value) (hx : a.eval x = .slice A m c) (hr : Sl w lo hi A m c size news) (hbytes : m * bytes ≤ 140737488355328) (hm : m ≤ maxLen)
    (h : ∀ A' c' w', Sl w' w.heap.size w'.heap.size A' m c' size news → Below w.heap.size w w' → wpList P ops Q rest (a.put o.dst (.slice A' m c')) w') : wpList P ops Q (o :: rest) a w :=
  wpList_plain hgd fun _ hK => wp_clone w s x t ho e i z size bytes ht hinf hz hsize hby hzs b hs lo hi A m c news hx hr hbytes hm fun A' c' w' h2 h3 => hK _ _ (h A' c' w' h2 h3)

theorem step_clone {ops : Array Oper} {o : Oper} {a : Act} {K : Act → World → Prop} {Q : Exit → Act → World → Prop} {E : Prop} (hgd : o.guard = none) (s x : Operand) (t : TypeId)
    (ho : o.op = .call { callee := .builtin .append, args := #[s, x], argTypes := #[t, t] })
    (e : TypeId) (i : TypeInfo) (z : Value) (size bytes : Nat) (ht : P.underlying t = some (.slice e)) (hinf : P.info? e = some i) (hz : i.zero = some z)
    (hsize : i.size = size) (hby : i.bytes = bytes) (hzs : z.cells.size = size) (b : Addr) (hs : a.eval s = .slice (some b) 0 0)
    (lo hi : Nat) (A : Option Addr) (m c : Nat) (news : List Value) (hx : a.eval x = .slice A m c) (hr : Sl w lo hi A m c size news) (hbytes : m * bytes ≤ 140737488355328) (hm : m ≤ maxLen)
    (h : ∀ A' c' w', Sl w' w.heap.size w'.heap.size A' m c' size news → Below w.heap.size w w' → K (a.put o.dst (.slice A' m c')) w') :
    if Region.wanted o (yielded ops a.tmps) = true then Oper.wp P o a w K Q else E := by
  have hw : Region.wanted o (yielded ops a.tmps) = true := by simp [Region.wanted, hgd]
  rw [if_pos hw]
  exact wp_clone w s x t ho e i z size bytes ht hinf hz hsize hby hzs b hs lo hi A m c news hx hr hbytes hm h
end
end Go.Proofs.Ytchlhgfmoahdfaa
