/- DS, DO, DJ, BW, ShlD, BJ, DW, DOI, RowD, RowE, RowG, GL, DWJ: laid into one text. -/
import Derived.Test.YtgphlcdinejmdaaGreatDoorQJE
import Derived.Test.YtgphlcdinejmdaaGreatDoorQJF
import Derived.Test.YtgphlcdinejmdaaGreatDoorQJG
import Derived.Test.YtgphlcdinejmdaaGreatDoorQJS
import Derived.Test.YtgphlcdinejmdaaGreatDoorQJT
import Derived.Test.YtgphlcdinejmdaaGreatDoorProg
import Derived.Shelf.Strings.BuilderK
import Derived.Shelf.Lays
import Derived.BigCall
import Derived.ProofKit
import Derived.OpenShut
import Derived.ShutString
import Derived.ChangeOld
import Derived.Below
import Derived.Lib.SmallJoins
import Derived.Deep.Slices
import Derived.Deep.Strs
import Derived.ChangeMaps5
import Derived.HandedShaped
import Derived.Test.YtgphlcdinejmdaaGreatDoorRows
import Derived.Shelf.Vars
import Derived.Stop.LaidErr
import Derived.LaidMore

/- ReadDeed of the reference. -/
namespace Go.Proofs.YtgphlcdinejmdaaGreatDoor
set_option linter.unusedVariables false
set_option linter.unusedSimpArgs false
set_option maxRecDepth 20000
open Go.RowKit
open Go.Lib (decDigits)
attribute [local irreducible] runA runX AW
end Go.Proofs.YtgphlcdinejmdaaGreatDoor

/- Both readers of deeds answer alike. -/
namespace Go.Proofs.YtgphlcdinejmdaaGreatDoor
set_option linter.unusedVariables false
set_option linter.unusedSimpArgs false
set_option maxRecDepth 20000
open Go.RowKit
open Go.Lib (decDigits)
/-- The deed that a reader returns, and whether there is one. -/
def RDd (s : List UInt8) (d : Dd) (b : Bool) : Prop := (b = true ∧ DOk s d.k d.n d.p) ∨ (b = false ∧ d = dZ ∧ ∀ k n p, ¬ DOk s k n p)
theorem no_dtx {s : List UInt8} (hs : s ≠ []) (h : ∀ k n p, ¬ DOk s k n p) (k n : Int) (p : Gt) : (dtx k n p == s) = false := by
  rw [Bool.eq_false_iff]
  intro e
  exact h _ _ _ ((dtx_eq hs).1 e)
/-- What stands behind the first space. -/
theorem cut_of {a b s : List UInt8} (ha : a.contains 32 = false) (e : s = a ++ 32 :: b) : Go.Lib.cut s [32] = (a, b, true) := by
  have hc : cutA 32 [] s = a :: cutA 32 [] b := by rw [e, cutA_app ha]; rfl
  have hb := (cutA_len 32 b []).1
  rcases ct_cases 32 s with ⟨_, h2⟩ | ⟨i, hi, h1, h2⟩
  · rw [hc] at h2
    have := congrArg List.length h2
    simp only [List.length_cons, List.length_nil] at this
    omega
  · rw [hc] at h2
    have h3 := (List.cons.inj h2).1
    have hl : a.length = i := by rw [h3, List.length_take]; omega
    rw [h1, ← h3]
    refine Prod.ext rfl (Prod.ext ?_ rfl)
    dsimp only
    rw [e, ← hl, show a.length + 1 = a.length + (32 :: ([] : List UInt8)).length from rfl, show a ++ 32 :: b = (a ++ [32]) ++ b by simp]
    rw [show a.length + (32 :: ([] : List UInt8)).length = (a ++ [32]).length by simp]
    exact List.drop_left
theorem cut_no {a : List UInt8} (ha : a.contains 32 = false) : Go.Lib.cut a [32] = (a, [], false) := by
  have hc : cutA 32 [] a = [a] := by rw [cutA_end ha]; rfl
  rcases ct_cases 32 a with ⟨h1, _⟩ | ⟨i, hi, h1, h2⟩
  · exact h1
  · rw [hc] at h2
    have := congrArg List.length h2
    have hb := (cutA_len 32 (a.drop (i + 1)) []).1
    simp only [List.length_cons, List.length_nil] at this
    omega
theorem bne_of (b : Bool) (h : b = false) : (!b) = true := by rw [h]; rfl
theorem bnt_of (b : Bool) (h : b = true) : (!b) = false := by rw [h]; rfl
theorem nm_ne {a : List UInt8} {k : Int} (h : ¬ a = dnm k) : (a == dnm k) = false := by rw [beq_eq_false_iff_ne]; exact h
/-- Whether a word names a kind. -/
theorem dnm_dec (a : List UInt8) : (∃ k : Int, (0 ≤ k ∧ k ≤ 4) ∧ a = dnm k) ∨ (¬ a = dnm 0 ∧ ¬ a = dnm 1 ∧ ¬ a = dnm 2 ∧ ¬ a = dnm 3 ∧ ¬ a = dnm 4) := by
  by_cases h0 : a = dnm 0
  · exact .inl ⟨0, by decide, h0⟩
  by_cases h1 : a = dnm 1
  · exact .inl ⟨1, by decide, h1⟩
  by_cases h2 : a = dnm 2
  · exact .inl ⟨2, by decide, h2⟩
  by_cases h3 : a = dnm 3
  · exact .inl ⟨3, by decide, h3⟩
  by_cases h4 : a = dnm 4
  · exact .inl ⟨4, by decide, h4⟩
  exact .inr ⟨h0, h1, h2, h3, h4⟩
theorem rd_all (s : List UInt8) : ∃ d b, RDd s d b := by
  by_cases h : ∃ d : Dd, DOk s d.k d.n d.p
  · obtain ⟨d, h⟩ := h; exact ⟨d, true, .inl ⟨rfl, h⟩⟩
  · exact ⟨dZ, false, .inr ⟨rfl, rfl, fun k n p hg => h ⟨⟨k, n, p⟩, hg⟩⟩⟩
end Go.Proofs.YtgphlcdinejmdaaGreatDoor

/- Journals: ReadJournal of both sides. -/
namespace Go.Proofs.YtgphlcdinejmdaaGreatDoor
set_option linter.unusedVariables false
set_option linter.unusedSimpArgs false
set_option maxRecDepth 20000
open Go.RowKit
open Go.Lib (decDigits)
set_option maxHeartbeats 400000 in
theorem clipD : IsClip Tryz.prog 42 := by
  refine isClip_mk Tryz.func42 rfl (by rfl) fun A n c w hn hm => ?_
  go_enter Tryz.func42, Tryz.ntmps42
  go_wp2
  go_ret
  exact ⟨rfl, rfl⟩
attribute [local irreducible] runA runX AW
/-- What was read so far. -/
def JI (s : List UInt8) (f : Nat) (o : List Dd) : Prop := jall o = true ∧ s = jt o ++ s.drop f ∧ (jt o).length = f
theorem ji_0 (s : List UInt8) : JI s 0 [] := ⟨rfl, rfl, rfl⟩
theorem ji_len {s : List UInt8} {f : Nat} {o : List Dd} (h : JI s f o) : o.length ≤ f ∧ f ≤ s.length := by
  obtain ⟨_, h2, h3⟩ := h
  have := (jt_len o).1
  have h4 := congrArg List.length h2
  rw [List.length_append] at h4
  omega
/-- A line more. -/
theorem ji_more {s a r : List UInt8} {f : Nat} {o : List Dd} {d : Dd} (h : JI s f o) (e : s.drop f = a ++ 10 :: r) (hd : DOk a d.k d.n d.p) : JI s (f + a.length + 1) (o ++ [d]) := by
  obtain ⟨h1, h2, h3⟩ := h
  have hda : dT d = a := hd.1
  have e2 : s.drop (f + a.length + 1) = r := by
    rw [show f + a.length + 1 = f + (a.length + 1) by omega, ← List.drop_drop, e, show a ++ 10 :: r = (a ++ [10]) ++ r by simp, show a.length + 1 = (a ++ [10]).length by simp, List.drop_left]
  refine ⟨jall_snoc h1 (by rw [hda]; exact hd.2), ?_, ?_⟩
  · rw [jt_snoc, hda, e2, List.append_assoc, List.append_assoc, List.singleton_append, ← e]; exact h2
  · rw [jt_snoc, hda, List.length_append, List.length_append, h3]; rfl
/-- No line more. -/
theorem ji_end {s : List UInt8} {f : Nat} {o : List Dd} (h : JI s f o) (hm : ∀ a b, s.drop f = a ++ 10 :: b → (10 : UInt8) ∉ a → ∀ k n p, ¬ DOk a k n p) : JR s o f :=
  ⟨h.1, s.drop f, h.2.1, h.2.2.symm, hm⟩
theorem ji_no {s a r : List UInt8} {f : Nat} {o : List Dd} (h : JI s f o) (e : s.drop f = a ++ 10 :: r) (ha : (10 : UInt8) ∉ a) (hn : ∀ k n p, ¬ DOk a k n p) : JR s o f :=
  ji_end h fun a' b' e' ha' k n p hd => by
    rw [e] at e'
    obtain ⟨rfl, _⟩ := app_uni ha ha' e'
    exact hn k n p hd
theorem ji_last {s : List UInt8} {f : Nat} {o : List Dd} (h : JI s f o) (hn : (10 : UInt8) ∉ s.drop f) : JR s o f :=
  ji_end h fun a b e _ k n p _ => hn (by rw [e]; simp)
theorem idx_mem (c : UInt8) : ∀ s : List UInt8, (Go.Lib.index s [c] = -1 ∧ c ∉ s) ∨ ∃ i : Nat, Go.Lib.index s [c] = (i : Int) ∧ i < s.length ∧ s = s.take i ++ c :: s.drop (i + 1) ∧ c ∉ s.take i
  | [] => .inl ⟨rfl, List.not_mem_nil⟩
  | b :: s => by
    rw [idx_cons]
    by_cases hb : (b == c) = true
    · rw [if_pos hb]
      obtain rfl := eq_of_beq hb
      exact .inr ⟨0, rfl, by simp, by simp, by simp⟩
    · rw [if_neg hb]
      have hne : ¬ c = b := fun e => hb (by rw [e]; simp)
      rcases idx_mem c s with ⟨h1, h2⟩ | ⟨i, h1, h2, h3, h4⟩
      · refine .inl ⟨by rw [h1]; rfl, ?_⟩
        simp only [List.mem_cons, not_or]; exact ⟨hne, h2⟩
      · refine .inr ⟨i + 1, ?_, by simp; omega, ?_, ?_⟩
        · rw [h1, if_neg (by simp)]; simp
        · rw [List.take_succ_cons, List.drop_succ_cons, List.cons_append, ← h3]
        · rw [List.take_succ_cons]
          simp only [List.mem_cons, not_or]; exact ⟨hne, h4⟩
theorem cut10 (s : List UInt8) : (Go.Lib.cut s [10] = (s, [], false) ∧ (10 : UInt8) ∉ s) ∨ (∃ i, i < s.length ∧ Go.Lib.cut s [10] = (s.take i, s.drop (i + 1), true) ∧ s = s.take i ++ 10 :: s.drop (i + 1) ∧ (10 : UInt8) ∉ s.take i) := by
  rcases idx_mem 10 s with ⟨h1, h2⟩ | ⟨i, h1, h2, h3, h4⟩
  · refine .inl ⟨?_, h2⟩
    unfold Go.Lib.cut
    rw [h1, if_neg (by decide)]
  · refine .inr ⟨i, h2, ?_, h3, h4⟩
    unfold Go.Lib.cut
    rw [h1, if_pos (by omega)]
    rfl
end Go.Proofs.YtgphlcdinejmdaaGreatDoor

/- strings.Builder: WriteByte and WriteString, at this program. -/
namespace Go.Proofs.YtgphlcdinejmdaaGreatDoor
set_option linter.unusedVariables false
set_option linter.unusedSimpArgs false
open Go.RowKit
abbrev tB : TypeId := 69
abbrev tu8 : TypeId := 5
theorem bk_info : (Tryz.prog.info? 69).map (·.size) = some 2 := by kernel_rfl
theorem bk_lies : liesAt Tryz.prog Tryz.prog.depth 69 (2 / Tryz.prog.cellsOf 69) 0 69 1 = true := by kernel_rfl
theorem bk_byte : (Tryz.prog.info? 5).map (fun i => (i.zero, i.size, i.bytes)) = some (some (.int .u8 0), 1, 1) := by kernel_rfl
theorem bk_ub : Tryz.prog.underlying 67 = some (.pointer 69) := by kernel_rfl
theorem bk_uu : Tryz.prog.underlying 112 = some .unsafePointer := by kernel_rfl
theorem bk_us : Tryz.prog.underlying 22 = some (.slice 5) := by kernel_rfl
theorem bk_ut : Tryz.prog.underlying 9 = some .string := by kernel_rfl
theorem bk_ent : ∀ args w, (callFunc 61 args).run Tryz.prog w = .ok (.enter 61 args) w := Go.Proofs.enters_of Tryz.func61 (by kernel_rfl) rfl
set_option maxHeartbeats 1000000 in
set_option maxRecDepth 100000 in
theorem bk_used (b : Nat) (w : World) (h0 : w.cell? ⟨b, 0, none⟩ = some (.pointer (some ⟨b, 0, none⟩))) :
    Calls Tryz.prog 61 #[.pointer (some ⟨b, 0, none⟩)] w fun e w' => e = .returned (.tuple #[]) ∧ w' = w := by
  obtain ⟨j, hj, _⟩ := Option.map_eq_some_iff.1 bk_info
  go_enter Tryz.func61, Tryz.ntmps61
  go_wp2
  rw [Lib.run_neq_ptr_same w _ bk_ub hj]
  go_wp2
  go_end0
  exact ⟨rfl, rfl⟩
set_option maxHeartbeats 1000000 in
set_option maxRecDepth 100000 in
theorem bk_fresh (b : Nat) (w : World) (h0 : w.cell? ⟨b, 0, none⟩ = some (.pointer none)) (hsh : w.shape? b = some (69, 2)) (hfz : w.frozen? ⟨b, 0, none⟩ = false) :
    Calls Tryz.prog 61 #[.pointer (some ⟨b, 0, none⟩)] w fun e w' => e = .returned (.tuple #[]) ∧ w' = w.setCell ⟨b, 0, none⟩ (.pointer (some ⟨b, 0, none⟩)) := by
  obtain ⟨j, hj, hjs⟩ := Option.map_eq_some_iff.1 bk_info
  go_enter Tryz.func61, Tryz.ntmps61
  go_wp2
  rw [Lib.run_to_unsafe w ⟨b, 0, none⟩ bk_ub bk_uu hj (by rw [hjs]; decide) hsh (Nat.zero_lt_succ 1)]
  simp only [Result.andThen]
  rw [Oper.upon_value]
  go_wp2
  rw [run_callFunc_extern Tryz.func77 (by kernel_rfl) (by kernel_rfl) (by kernel_rfl) (e := Extern.AbiNoEscape.same) (by kernel_rfl)]
  rw [Lib.run_noEscape]
  simp only [Result.andThen]
  rw [Oper.upon_value]
  go_wp2
  rw [Lib.run_from_unsafe w ⟨b, 0, none⟩ bk_uu bk_ub hj hsh bk_lies]
  simp only [Result.andThen]
  rw [Oper.upon_value]
  go_wp2
  go_end0
  exact ⟨rfl, rfl⟩
theorem bk_copy (B b : Nat) (bs : List Value) (w : World) (h : Lib.IsBuilderF tB tu8 B b bs w) :
    Calls Tryz.prog 61 #[.pointer (some ⟨b, 0, none⟩)] w fun e w' => e = .returned (.tuple #[]) ∧ (Lib.BuilderAtF tB tu8 B b (.pointer (some ⟨b, 0, none⟩)) bs w' ∧ Below B w w' ∧ Lib.OthersKept tu8 (some b) w w') := by
  rcases h with h | h
  · refine (bk_fresh b w h.cell0 h.shape h.frozen0).mono ?_
    rintro e w' ⟨rfl, rfl⟩
    exact ⟨rfl, h.used _, (Below.refl B w).setCell (p := ⟨b, 0, none⟩) h.1 _, (Lib.OthersKept.refl _ _ w).setCell ⟨b, 0, none⟩ rfl _⟩
  · refine (bk_used b w h.cell0).mono ?_
    rintro e w' ⟨rfl, rfl⟩
    exact ⟨rfl, h, Below.refl B _, Lib.OthersKept.refl _ _ _⟩
set_option maxHeartbeats 2000000 in
set_option maxRecDepth 100000 in
theorem bk_byteW (B b : Nat) (bs : List Value) (c : Int) (w : World) (h : Lib.IsBuilderF tB tu8 B b bs w) (hlen : bs.length + 1 ≤ 140737488355328) (hBw : B ≤ w.heap.size) :
    Calls Tryz.prog 40 #[.pointer (some ⟨b, 0, none⟩), .int .u8 c] w fun e w' => e = .returned .nilIface ∧ (Lib.BuilderAtF tB tu8 B b (.pointer (some ⟨b, 0, none⟩)) (bs ++ [.int .u8 c]) w' ∧ Below B w w' ∧ Lib.OthersKept tu8 (some b) w w') := by
  obtain ⟨i0, hi, hz0, hz1, hz2⟩ := info_parts bk_byte
  have e240 := bk_ent
  go_enter Tryz.func40, Tryz.ntmps40
  go_wp2_with (go_at_fn 61; refine (bk_copy B b bs _ h).mono ?_)
  rintro e w1 ⟨rfl, h1, hb1, hk1⟩
  obtain ⟨hB, v, hbk, hown, hne⟩ := h1
  have c0 : w1.cell? ⟨b, 0, none⟩ = some (.pointer (some ⟨b, 0, none⟩)) := by rw [Lib.cell_of_heap hbk]; rfl
  have c1 : w1.cell? ⟨b, 1, none⟩ = some v := by rw [Lib.cell_of_heap hbk]; rfl
  go_wp2_with (at_builtin; refine wpList_append_ownF _ rfl _ _ 22 rfl B 5 i0 (.int .u8 0) 1 1 bk_us hi hz0 hz1 hz2 rfl (by decide) _ _ _ rfl (hown.alloc _) ⟨w1.heap.size, 0, none⟩ 1 1 [.int .u8 c] rfl rfl ?c1 ?c2 ?c3 ?c4 ?c5 ?_)
  case c1 =>
    intro j u hj
    match j, hj with
    | 0, hj => simp at hj; subst hj; simp [Addr.add]
  case c2 => intro u hu; simp at hu; subst hu; rfl
  case c3 => unfold maxLen; omega
  case c4 => omega
  case c5 => have := hb1.size; simp; omega
  intro v' w2 hown' hgrow _
  have hlt : b < w1.heap.size := by
    rcases Nat.lt_or_ge b w1.heap.size with h' | h'
    · exact h'
    · simp [Array.getElem?_eq_none h'] at hbk
  have hb2 : w2.heap[b]? = some (.cells #[.pointer (some ⟨b, 0, none⟩), v] 69 (0, 0)) := by
    rw [hgrow.block b (by simp; omega) (fun e => hne e.symm), Lib.alloc_old w1 _ b hlt]
    exact hbk
  have d0 : w2.cell? ⟨b, 0, none⟩ = some (.pointer (some ⟨b, 0, none⟩)) := by rw [Lib.cell_of_heap hb2]; rfl
  have d1 : w2.cell? ⟨b, 1, none⟩ = some v := by rw [Lib.cell_of_heap hb2]; rfl
  have f1 : w2.frozen? ⟨b, 1, none⟩ = false := Lib.frozen_of_heap hb2 1
  obtain ⟨g, cap, rfl⟩ : ∃ g cap, v' = .slice (some ⟨g, 0, none⟩) (bs.length + 1) cap := by
    rcases hown'.2 with ⟨_, h0⟩ | ⟨g, cap, cur, fz, hv, _⟩
    · omega
    · exact ⟨g, cap, hv⟩
  go_wp2
  go_ret
  refine ⟨rfl, ?_, ?_, ((hk1.alloc _).grown hgrow (Lib.ownsRowF_kind (hown.alloc _))).setCell ⟨b, 1, none⟩ rfl _⟩
  · exact Lib.BuilderAtF.put (T := tB) (e := tu8) hB hb2 (bs' := bs ++ [.int .u8 c]) (by simpa using hown') (by decide)
  · exact ((hb1.alloc (by have := hb1.size; omega) _).grown hgrow (by have := hb1.size; simp; omega) (fun k hk => (hown.lt k hk).1)).setCell (p := ⟨b, 1, none⟩) hB _
set_option maxHeartbeats 2000000 in
set_option maxRecDepth 100000 in
theorem bk_strW (B b : Nat) (bs : List Value) (s : ByteArray) (w : World) (h : Lib.IsBuilderF tB tu8 B b bs w) (hlen : bs.length + s.size ≤ 140737488355328) (hBw : B ≤ w.heap.size) :
    Calls Tryz.prog 39 #[.pointer (some ⟨b, 0, none⟩), .string s] w fun e w' => e = .returned (.tuple #[.int .i64 s.size, .nilIface]) ∧ (Lib.BuilderAtF tB tu8 B b (.pointer (some ⟨b, 0, none⟩)) (bs ++ Lib.strCells s) w' ∧ Below B w w' ∧ Lib.OthersKept tu8 (some b) w w') := by
  obtain ⟨i0, hi, hz0, hz1, hz2⟩ := info_parts bk_byte
  have e240 := bk_ent
  go_enter Tryz.func39, Tryz.ntmps39
  go_wp2_with (go_at_fn 61; refine (bk_copy B b bs _ h).mono ?_)
  rintro e w1 ⟨rfl, h1, hb1, hk1⟩
  obtain ⟨hB, v, hbk, hown, hne⟩ := h1
  have c0 : w1.cell? ⟨b, 0, none⟩ = some (.pointer (some ⟨b, 0, none⟩)) := by rw [Lib.cell_of_heap hbk]; rfl
  have c1 : w1.cell? ⟨b, 1, none⟩ = some v := by rw [Lib.cell_of_heap hbk]; rfl
  go_wp2_with (at_builtin; refine Lib.wpList_append_own_stringF _ rfl _ _ 22 9 rfl B 5 i0 bk_us bk_ut hi hz0 hz1 hz2 _ _ _ rfl hown s rfl ?c3 ?c4 ?c5 ?_)
  case c3 => unfold maxLen; omega
  case c4 => omega
  case c5 => have := hb1.size; omega
  intro v' w2 hown' hgrow _
  have hlt : b < w1.heap.size := by
    rcases Nat.lt_or_ge b w1.heap.size with h' | h'
    · exact h'
    · simp [Array.getElem?_eq_none h'] at hbk
  have hb2 : w2.heap[b]? = some (.cells #[.pointer (some ⟨b, 0, none⟩), v] 69 (0, 0)) := by
    rw [hgrow.block b hlt (fun e => hne e.symm)]
    exact hbk
  have d0 : w2.cell? ⟨b, 0, none⟩ = some (.pointer (some ⟨b, 0, none⟩)) := by rw [Lib.cell_of_heap hb2]; rfl
  have d1 : w2.cell? ⟨b, 1, none⟩ = some v := by rw [Lib.cell_of_heap hb2]; rfl
  have f1 : w2.frozen? ⟨b, 1, none⟩ = false := Lib.frozen_of_heap hb2 1
  obtain ⟨ao, n', cap, rfl⟩ : ∃ ao n' cap, v' = .slice ao n' cap := by
    rcases hown'.2 with ⟨hv, _⟩ | ⟨g, cap, cur, fz, hv, _⟩
    · exact ⟨_, _, _, hv⟩
    · exact ⟨_, _, _, hv⟩
  go_wp2
  go_ret2
  refine ⟨rfl, ?_, ?_, (hk1.grown hgrow (Lib.ownsRowF_kind hown)).setCell ⟨b, 1, none⟩ rfl _⟩
  · exact Lib.BuilderAtF.put (T := tB) (e := tu8) hB hb2 (bs' := bs ++ Lib.strCells s) (by simpa [Lib.strCells_length] using hown') (by decide)
  · exact (hb1.grown hgrow (by have := hb1.size; omega) (fun k hk => (hown.lt k hk).1)).setCell (p := ⟨b, 1, none⟩) hB _
end Go.Proofs.YtgphlcdinejmdaaGreatDoor

/- Contracts of Go's library at this program. -/
namespace Go.Proofs.YtgphlcdinejmdaaGreatDoor
set_option linter.unusedVariables false
open Go.Shelf Go.RowKit Go.Lib
def Tryz.lays169_ren : Go.Shelf.Ren := ⟨fun | 169 => 41 | n => n, fun | 70 => 67 | 9 => 9 | 0 => 0 | 72 => 69 | 37 => 22 | 127 => 95 | 3 => 3 | 5 => 5 | n => n, fun | n => n⟩
theorem Tryz.lays169 : Go.Proofs.Lays.n169 Tryz.prog Tryz.lays169_ren := {
  mixed := by kernel_rfl
  f169 := Tryz.func41.trans (congrArg some (by kernel_rfl))
  t0 := Tryz.underlying0
  a0 := Tryz.isAgg0
  z0 := Tryz.sizeOf0
  v0 := Tryz.zeroValue0
  t3 := Tryz.underlying3
  a3 := Tryz.isAgg3
  z3 := Tryz.sizeOf3
  v3 := Tryz.zeroValue3
  t9 := Tryz.underlying9
  a9 := Tryz.isAgg9
  z9 := Tryz.sizeOf9
  v9 := Tryz.zeroValue9
  t37 := Tryz.underlying22
  a37 := Tryz.isAgg22
  z37 := Tryz.sizeOf22
  v37 := Tryz.zeroValue22
  t70 := Tryz.underlying67
  a70 := Tryz.isAgg67
  z70 := Tryz.sizeOf67
  v70 := Tryz.zeroValue67
  t72 := Tryz.underlying69
  a72 := Tryz.isAgg69
  z72 := Tryz.sizeOf69
  v72 := Tryz.zeroValue69
  t127 := Tryz.underlying95
  a127 := Tryz.isAgg95
  z127 := Tryz.sizeOf95
  v127 := Tryz.zeroValue95 }
theorem Tryz.Builder_Extra_169 : Builder.Extra Tryz.prog Tryz.lays169_ren := {
  sizeBuilder := by kernel_rfl
  liesBuilder := by kernel_rfl
  t5 := Tryz.underlying5
  a5 := Tryz.isAgg5
  z5 := Tryz.sizeOf5
  v5 := Tryz.zeroValue5
  infoByte := by kernel_rfl
  cellsByte := by kernel_rfl
  sizeByte := by kernel_rfl
  neB5 := by decide }
theorem Tryz.Builder_String_any_k (B b : Nat) (l : List UInt8) (w : World) (h : Lib.IsBuilderF 69 5 B b (Lib.byteCells l) w) (hBw : B ≤ w.heap.size) :
    Calls Tryz.prog 41 #[.pointer (some ⟨b, 0, none⟩)] w fun e w' => e = .returned (.string ⟨l.toArray⟩) ∧ (Lib.IsBuilderF 69 5 B b (Lib.byteCells l) w' ∧ Below B w w' ∧ Lib.OthersKept 5 (some b) w w') := Any.Builder_String_any_k Tryz.lays169 Tryz.Builder_Extra_169 B b l w h hBw
end Go.Proofs.YtgphlcdinejmdaaGreatDoor

/- JournalText of the program: a walk over strings.Builder. -/
namespace Go.Proofs.YtgphlcdinejmdaaGreatDoor
set_option linter.unusedVariables false
set_option linter.unusedSimpArgs false
open Go.RowKit
/-- A deed as a value. -/
abbrev dVal (d : Dd) : Value := .agg #[.int .i64 d.k, .int .i64 d.n, .int .i64 d.p.k, .int .i64 d.p.a, .int .i64 d.p.b, .int .i64 d.p.c]
theorem dv_rep (w : World) (d : Dd) : Rep0 w (dV d) (dVal d) := by
  refine ⟨_, rfl, rfl, ?_⟩
  intro j c hj
  rcases j with _ | _ | _ | _ | _ | _ | j
  · cases hj; exact ⟨_, rfl, rfl, rfl⟩
  · cases hj; exact ⟨_, rfl, rfl, rfl⟩
  · cases hj; exact ⟨_, rfl, rfl, rfl⟩
  · cases hj; exact ⟨_, rfl, rfl, rfl⟩
  · cases hj; exact ⟨_, rfl, rfl, rfl⟩
  · cases hj; exact ⟨_, rfl, rfl, rfl⟩
  · simp at hj
theorem dt_calls (d : Dd) (w : World) (hg : Glo w) (hz : gsz ≤ w.heap.size) : Calls Tryz.prog 7 #[dVal d] w fun e w' => e = .returned (.string (str (dT d))) ∧ Below w.heap.size w w' := by
  refine (calls_of_kon (k_dt d.k d.n d.p).1 rfl ?_ hg hz).mono ?_
  · intro j a hj
    rcases j with _ | j
    · cases hj; exact ⟨_, rfl, dv_rep w d⟩
    · simp at hj
  · rintro e w' ⟨v, β, G, ok, rfl, hr, hb⟩
    rw [show v = .string (str (dT d)) from hr.1]
    exact ⟨rfl, hb⟩
theorem str_cells (x : List UInt8) : Lib.strCells (str x) = Lib.byteCells x := by
  simp [Lib.strCells, Lib.byteCells, str]
/-- What is laid above a builder leaves it as it is. -/
theorem bk_atKeep {T e : TypeId} {B b : Nat} {p : Value} {bs : List Value} {w w' : World} (h : Lib.BuilderAtF T e B b p bs w) (hb : Below w.heap.size w w') : Lib.BuilderAtF T e B b p bs w' := by
  obtain ⟨hB, v, hbk, ⟨hl, hown⟩, hne⟩ := h
  have key : ∀ k x, w.heap[k]? = some x → w'.heap[k]? = some x := fun k x hx => by rw [hb.block k (Array.getElem?_eq_some_iff.1 hx).1]; exact hx
  refine ⟨hB, v, key _ _ hbk, ⟨hl, ?_⟩, hne⟩
  rcases hown with h | ⟨g, cap, cur, fz, h1, h2, h3, h4⟩
  · exact .inl h
  · exact .inr ⟨g, cap, cur, fz, h1, h2, key _ _ h3, h4⟩
theorem bk_keep {T e : TypeId} {B b : Nat} {bs : List Value} {w w' : World} (h : Lib.IsBuilderF T e B b bs w) (hb : Below w.heap.size w w') : Lib.IsBuilderF T e B b bs w' := by
  rcases h with h | h
  · exact .inl (bk_atKeep h hb)
  · exact .inr (bk_atKeep h hb)
theorem below_up {B B' : Nat} {w w1 w2 : World} (h : Below B w w1) (h2 : Below B' w1 w2) (hB : B ≤ B') : Below B w w2 :=
  ⟨h2.os.trans h.os, h2.tape.trans h.tape, h2.output.trans h.output, Nat.le_trans h.size h2.size, fun k hk => (h2.block k (by omega)).trans (h.block k hk)⟩
theorem glo_below {B : Nat} {w w' : World} (h : Glo w) (hz : gsz ≤ B) (hb : Below B w w') : Glo w' := h.keep fun b hlt => hb.block b (by omega)
set_option maxHeartbeats 4000000 in
set_option maxRecDepth 1000000 in
theorem jtI_walk (l : List Dd) (hl : l.length ≤ 1048576) (A : Option Addr) (c : Nat) (w : World) (hgl : Glo w) (hgz : gsz ≤ w.heap.size) (hc : l.length ≤ c ∧ c ≤ maxLen)
    (hcell : 0 < l.length → ∃ b off, A = some ⟨b, off, none⟩ ∧ b < w.heap.size ∧ ∀ j, j < l.length → w.cell? ⟨b, off + j * 6, none⟩ = some (.int .i64 (l.getD j Cel.no).k) ∧ w.cell? ⟨b, off + j * 6 + 1, none⟩ = some (.int .i64 (l.getD j Cel.no).n) ∧ w.cell? ⟨b, off + j * 6 + 2, none⟩ = some (.int .i64 (l.getD j Cel.no).p.k) ∧ w.cell? ⟨b, off + j * 6 + 3, none⟩ = some (.int .i64 (l.getD j Cel.no).p.a) ∧ w.cell? ⟨b, off + j * 6 + 4, none⟩ = some (.int .i64 (l.getD j Cel.no).p.b) ∧ w.cell? ⟨b, off + j * 6 + 5, none⟩ = some (.int .i64 (l.getD j Cel.no).p.c)) :
    Calls Tryz.prog 14 #[.slice A l.length c] w fun e w' => e = .returned (.string (str (jtx l))) ∧ Below w.heap.size w w' := by
  have hcellH := Lib.hid hcell
  have hglH := Lib.hid hgl
  clear hcell hgl
  go_enter Tryz.func14, Tryz.ntmps14
  go_wp2
  go_loopw [9] (fun i wr => ∃ k : Nat, k ≤ l.length ∧ i = .int .i64 k ∧ Lib.IsBuilderF tB tu8 w.heap.size w.heap.size (Lib.byteCells (jt (l.take k))) wr ∧ RowKit.Hid (jall (l.take k) = true) ∧ Below w.heap.size w wr ∧ w.heap.size + 1 ≤ wr.heap.size) (fun i _ => l.length - (intOf i).toNat)
  case atStart =>
    exact ⟨0, Nat.zero_le _, rfl, Lib.IsBuilderF.of (Lib.fresh_isBuilder tB tu8 w), Lib.hid rfl, (Below.refl _ w).alloc (Nat.le_refl _) _, by simp⟩
  case round =>
    obtain ⟨k, hk, rfl, hI, hj, hbw, hsz⟩ := hrel
    by_cases hlt : k < l.length
    · obtain ⟨b, off, rfl, hbl, hcs⟩ := hcellH.out (by omega)
      have hcsk := hcs k hlt
      have hsn := Lib.hid (take_d hlt)
      have hjn := Lib.hid (fun h => jall_take hlt h)
      obtain ⟨d, hd⟩ : ∃ d, l.getD k Cel.no = d := ⟨_, rfl⟩
      rw [hd] at hcsk hsn hjn
      clear hd
      obtain ⟨c0, c1, c2, c3, c4, c5⟩ := hcsk
      clear hcs hcellH
      rw [← hbw.cell (p := ⟨b, off + k * 6, none⟩) hbl] at c0
      rw [← hbw.cell (p := ⟨b, off + k * 6 + 1, none⟩) hbl] at c1
      rw [← hbw.cell (p := ⟨b, off + k * 6 + 2, none⟩) hbl] at c2
      rw [← hbw.cell (p := ⟨b, off + k * 6 + 3, none⟩) hbl] at c3
      rw [← hbw.cell (p := ⟨b, off + k * 6 + 4, none⟩) hbl] at c4
      rw [← hbw.cell (p := ⟨b, off + k * 6 + 5, none⟩) hbl] at c5
      have hjl := (jt_len (l.take k)).2
      rw [List.length_take] at hjl
      have hjl2 : (jt (l.take k)).length ≤ 22020096 := by omega
      have hjlH := Lib.hid hjl2
      clear hjl hjl2
      have hdl : (dT d).length ≤ 20 := dtx_len _ _ _
      have hdlH := Lib.hid hdl
      clear hdl
      have hbx : Below w.heap.size w (wr.alloc (.cells #[.int .i64 d.k, .int .i64 d.n, .int .i64 d.p.k, .int .i64 d.p.a, .int .i64 d.p.b, .int .i64 d.p.c] 26)) := hbw.alloc hbw.size _
      go_wp2_with (go_at_call 7; refine (dt_calls d _ (glo_below hglH.out hgz hbx) (Nat.le_trans hgz hbx.size)).mono ?_)
      rintro e W1 ⟨rfl, b1⟩
      have hI1 := bk_keep (hI.alloc _) b1
      have hb1 := below_up hbx b1 hbx.size
      have hs1 : w.heap.size + 1 ≤ W1.heap.size := Nat.le_trans hsz (Nat.le_trans (by simp) b1.size)
      clear hI hbw hbx b1 c0 c1 c2 c3 c4 c5
      have hle1 : (Lib.byteCells (jt (l.take k))).length + (str (dT d)).size ≤ 140737488355328 := by
        have h1 := hjlH.out
        have h2 := hdlH.out
        rw [Lib.byteCells_length, show (str (dT d)).size = (dT d).length from rfl]
        omega
      have hle2 : (Lib.byteCells (jt (l.take k) ++ dT d)).length + 1 ≤ 140737488355328 := by
        have h1 := hjlH.out
        have h2 := hdlH.out
        rw [Lib.byteCells_length, List.length_append]
        omega
      have hs0 : w.heap.size ≤ W1.heap.size := by omega
      by_cases hne : dT d = []
      · have hie : (dT d).isEmpty = true := by rw [hne]; rfl
        go_wp2
        go_ret
        have hjx : jtx l = [] := by unfold jtx; rw [hjn.out hne]; rfl
        rw [hjx]
        exact ⟨rfl, hb1⟩
      · have hie : (dT d).isEmpty = false := by
          cases h : dT d with
          | nil => exact absurd h hne
          | cons => rfl
        go_wp2_with (go_at_call 39; refine (bk_strW w.heap.size w.heap.size _ (str (dT d)) _ hI1 hle1 hs0).mono ?_)
        rintro e W2 ⟨rfl, h2, b2, k2⟩
        rw [str_cells, ← Lib.byteCells_append] at h2
        have hs2 : w.heap.size ≤ W2.heap.size := Nat.le_trans hs0 b2.size
        go_wp2_with (go_at_call 40; refine (bk_byteW w.heap.size w.heap.size _ 10 _ (Or.inr h2) hle2 hs2).mono ?_)
        rintro e W3 ⟨rfl, h3, b3, k3⟩
        rw [show (Lib.byteCells (jt (l.take k) ++ dT d) ++ [Value.int .u8 10]) = Lib.byteCells (jt (l.take (k + 1))) by rw [hsn.out, jt_snoc, ← List.append_assoc, Lib.byteCells_append (jt (l.take k) ++ dT d)]; rfl] at h3
        have hj2 : jall (l.take (k + 1)) = true := by rw [hsn.out]; exact jall_snoc hj.out hne
        have hs3 : w.heap.size + 1 ≤ W3.heap.size := Nat.le_trans hs1 (Nat.le_trans b2.size b3.size)
        go_wp2
        go_roundw
        case rel => exact ⟨k + 1, by omega, by go_num, Or.inr h3, Lib.hid hj2, (hb1.trans b2).trans b3, hs3⟩
        case measure => simp [intOf]; omega
    · go_wp2_with (go_at_call 41; refine (Tryz.Builder_String_any_k w.heap.size w.heap.size (jt (l.take k)) _ hI (by omega)).mono ?_)
      rintro e W1 ⟨rfl, _, b1, _⟩
      go_wp2
      go_ret
      have hkl : k = l.length := by omega
      have hjx : jtx l = jt (l.take k) := by
        have := hj.out
        rw [hkl, List.take_length] at this ⊢
        unfold jtx
        rw [if_pos this]
      rw [hjx]
      exact ⟨rfl, hbw.trans b1⟩
theorem k_jtI (l : List Dd) (hl : l.length ≤ 1048576) : Kon Tryz.prog 14 [roA l] [] (vS (jtx l)) [] [] := by
  refine kon_pureZ (Go.Proofs.enters_of Tryz.func14 (by kernel_rfl) rfl) rfl rfl ?_
  intro w ok vs hg hz hok hsz hargs
  obtain ⟨z0, hz0, hr0⟩ := hargs 0 _ rfl
  have hv : vs = #[z0] := by
    obtain ⟨xs⟩ := vs
    match xs, hsz with
    | [y], _ => cases hz0; rfl
  subst hv
  obtain ⟨⟨hlen, hone⟩, A, c, rfl, hnc, hc2, hcells⟩ := hr0
  refine (jtI_walk l hl A c w hg hz ⟨hnc, hc2⟩ ?_).mono ?_
  · intro h0
    obtain ⟨b, off, rfl, hb, hc⟩ := hcells h0
    refine ⟨b, off, rfl, hok b hb, fun j hj => ?_⟩
    have key : ∀ (o : Nat) (v : Value), (Cel.f (l.getD j Cel.no))[o]? = some v → w.cell? ⟨b, off + j * 6 + o, none⟩ = some v := by
      intro o v ho
      have h2 := hc _ _ (cV_cell (l := l) (j := j) (o := o) hj (v := v) ho)
      rw [show off + j * 6 + o = off + (j * Cel.sz Dd + o) from Nat.add_assoc _ _ _]
      exact h2
    exact ⟨key 0 _ rfl, key 1 _ rfl, key 2 _ rfl, key 3 _ rfl, key 4 _ rfl, key 5 _ rfl⟩
  · rintro e w' ⟨rfl, hb⟩
    exact ⟨_, rfl, hb, fun β G ok' => ⟨rfl, rfl⟩⟩
end Go.Proofs.YtgphlcdinejmdaaGreatDoor

/- The laws FnDeedText, FnReadDeed, FnJournalText. -/
namespace Go.Proofs.YtgphlcdinejmdaaGreatDoor
set_option linter.unusedVariables false
set_option linter.unusedSimpArgs false
set_option maxRecDepth 20000
open Go.RowKit
attribute [local irreducible] runA runX AW
theorem gq_DW {H G : Prop} (k : H) (h : Hid H → G := by (intro hh; (first | (first | ((first | refine r_none ?_ | refine r_gt (by rfl) (by rfl) (by first | rfl | assumption | omega | (simp only [*, Bool.not_false, Bool.not_true]; first | done | fail) | (simp [*]; first | done | fail)) (by rfl) ?_ | refine r_gf (by rfl) (by rfl) (by first | rfl | assumption | omega | (simp only [*, Bool.not_false, Bool.not_true]; first | done | fail) | (simp [*]; first | done | fail)) (by rfl) ?_); (first | (first | refine r_slen (by rfl) Tryz.underlying9 (by rfl) ?_ | refine r_seq (by rfl) (by rfl) (by rfl) ?_ | refine r_sne (by rfl) (by rfl) (by rfl) ?_ | refine r_sadd (by rfl) (by rfl) (by simp only [List.length_append, List.length_cons, List.length_nil]; omega) (by rfl) ?_) | ((first | (refine z_op (by rfl) ?_; first | refine z_ok ?_ ?_ | refine z_ex ?_ (by first | exact ft_raw rfl rfl | ((first | refine ft_rp rfl rfl rfl ?_ | refine ft_row rfl rfl rfl ?_ | refine ft_rpF rfl rfl rfl ?_ | refine ft_rowF rfl rfl rfl ?_ | refine up_row rfl rfl ?_ | refine up_rowF rfl rfl rfl ?_ | refine ct_0 rfl ?_ | refine ct_r rfl rfl ?_ | refine ct_c rfl rfl rfl ?_ | refine cu_all rfl ?_ | refine cu_to rfl ?_ | refine cu_from rfl ?_ | refine cu_p rfl ?_ | fail); (first | omega | (simp only [List.length_append, List.length_replicate, List.length_cons, List.length_nil, List.length_set, List.length_take, List.length_drop, true_and]; omega))) | exact up_raw rfl | exact pk_t (by first | rfl | assumption | omega | (simp only [*, Bool.not_false, Bool.not_true]; first | done | fail) | (simp [*]; first | done | fail)) rfl | exact pk_f (by first | rfl | assumption | omega | (simp only [*, Bool.not_false, Bool.not_true]; first | done | fail) | (simp [*]; first | done | fail)) rfl | fail | exact rw_raw | exact pu_cv (fun w => rfl) (by omega) | exact pu_of (fun w => rfl) rfl | exact be_of (fun w => rfl) | exact nc_of (fun _ _ _ _ => rfl) rfl | exact bu_of (fun w => rfl) rfl | (first | exact pu_of (fun w => eq_deed _ _ _ _ _ _ _ _ _ _ _ _ _ _ w) rfl | exact pu_of (fun w => neq_deed _ _ _ _ _ _ _ _ _ _ _ _ _ _ w) rfl)) ?_) | ((first | refine q_callE wsT wsZ (by rfl) ?_ | refine q_callVE wsT (by rfl) (by rfl) ?_); refine ⟨_, _, _, (by first | assumption | exact k_alive), _, by rfl, ?_, ?_⟩)); focus (first | exact trivial | fail | exact rfl | (first | omega | (simp only [List.length_append, List.length_replicate, List.length_cons, List.length_nil, List.length_set, List.length_take, List.length_drop, true_and]; omega)) | exact cvB (fun w => rfl) | ((repeat' (first | exact rfl | exact cV_len _ | exact cV_ln rfl (by omega) | exact Cel.pos | omega | exact trivial | refine And.intro ?_ ?_)); done) | (simp [*]; done) | (simp; omega))) | fail)) | refine r_nt (by rfl) (by rfl) (by first | rfl | assumption | omega | (simp only [*, Bool.not_false, Bool.not_true]; first | done | fail) | (simp [*]; first | done | fail)) (by rfl) ?_ | refine r_nf (by rfl) (by rfl) (by first | rfl | assumption | omega | (simp only [*, Bool.not_false, Bool.not_true]; first | done | fail) | (simp [*]; first | done | fail)) (by rfl) ?_ | refine r_gu (by rfl) (by rfl) (by rfl) ?_ | refine r_nil ?_) | (first | refine aw_seq ?_ | refine aw_ct (by rfl) (by first | rfl | assumption | omega | (simp only [*, Bool.not_false, Bool.not_true]; first | done | fail) | (simp [*]; first | done | fail)) ?_ | refine aw_cf (by rfl) (by first | rfl | assumption | omega | (simp only [*, Bool.not_false, Bool.not_true]; first | done | fail) | (simp [*]; first | done | fail)) ?_ | refine aw_block ?_ | refine aw_region T0ok cfU_ok (by rfl) ?_ | refine aw_skip ?_ | refine aw_exit ?_ | refine ra_step ?_)); (repeat (first | (first | ((first | refine r_none ?_ | refine r_gt (by rfl) (by rfl) (by first | rfl | assumption | omega | (simp only [*, Bool.not_false, Bool.not_true]; first | done | fail) | (simp [*]; first | done | fail)) (by rfl) ?_ | refine r_gf (by rfl) (by rfl) (by first | rfl | assumption | omega | (simp only [*, Bool.not_false, Bool.not_true]; first | done | fail) | (simp [*]; first | done | fail)) (by rfl) ?_); (first | (first | refine r_slen (by rfl) Tryz.underlying9 (by rfl) ?_ | refine r_seq (by rfl) (by rfl) (by rfl) ?_ | refine r_sne (by rfl) (by rfl) (by rfl) ?_ | refine r_sadd (by rfl) (by rfl) (by simp only [List.length_append, List.length_cons, List.length_nil]; omega) (by rfl) ?_) | ((first | (refine z_op (by rfl) ?_; first | refine z_ok ?_ ?_ | refine z_ex ?_ (by first | exact ft_raw rfl rfl | ((first | refine ft_rp rfl rfl rfl ?_ | refine ft_row rfl rfl rfl ?_ | refine ft_rpF rfl rfl rfl ?_ | refine ft_rowF rfl rfl rfl ?_ | refine up_row rfl rfl ?_ | refine up_rowF rfl rfl rfl ?_ | refine ct_0 rfl ?_ | refine ct_r rfl rfl ?_ | refine ct_c rfl rfl rfl ?_ | refine cu_all rfl ?_ | refine cu_to rfl ?_ | refine cu_from rfl ?_ | refine cu_p rfl ?_ | fail); (first | omega | (simp only [List.length_append, List.length_replicate, List.length_cons, List.length_nil, List.length_set, List.length_take, List.length_drop, true_and]; omega))) | exact up_raw rfl | exact pk_t (by first | rfl | assumption | omega | (simp only [*, Bool.not_false, Bool.not_true]; first | done | fail) | (simp [*]; first | done | fail)) rfl | exact pk_f (by first | rfl | assumption | omega | (simp only [*, Bool.not_false, Bool.not_true]; first | done | fail) | (simp [*]; first | done | fail)) rfl | fail | exact rw_raw | exact pu_cv (fun w => rfl) (by omega) | exact pu_of (fun w => rfl) rfl | exact be_of (fun w => rfl) | exact nc_of (fun _ _ _ _ => rfl) rfl | exact bu_of (fun w => rfl) rfl | (first | exact pu_of (fun w => eq_deed _ _ _ _ _ _ _ _ _ _ _ _ _ _ w) rfl | exact pu_of (fun w => neq_deed _ _ _ _ _ _ _ _ _ _ _ _ _ _ w) rfl)) ?_) | ((first | refine q_callE wsT wsZ (by rfl) ?_ | refine q_callVE wsT (by rfl) (by rfl) ?_); refine ⟨_, _, _, (by first | assumption | exact k_alive), _, by rfl, ?_, ?_⟩)); focus (first | exact trivial | fail | exact rfl | (first | omega | (simp only [List.length_append, List.length_replicate, List.length_cons, List.length_nil, List.length_set, List.length_take, List.length_drop, true_and]; omega)) | exact cvB (fun w => rfl) | ((repeat' (first | exact rfl | exact cV_len _ | exact cV_ln rfl (by omega) | exact Cel.pos | omega | exact trivial | refine And.intro ?_ ?_)); done) | (simp [*]; done) | (simp; omega))) | fail)) | refine r_nt (by rfl) (by rfl) (by first | rfl | assumption | omega | (simp only [*, Bool.not_false, Bool.not_true]; first | done | fail) | (simp [*]; first | done | fail)) (by rfl) ?_ | refine r_nf (by rfl) (by rfl) (by first | rfl | assumption | omega | (simp only [*, Bool.not_false, Bool.not_true]; first | done | fail) | (simp [*]; first | done | fail)) (by rfl) ?_ | refine r_gu (by rfl) (by rfl) (by rfl) ?_ | refine r_nil ?_) | (first | refine aw_seq ?_ | refine aw_ct (by rfl) (by first | rfl | assumption | omega | (simp only [*, Bool.not_false, Bool.not_true]; first | done | fail) | (simp [*]; first | done | fail)) ?_ | refine aw_cf (by rfl) (by first | rfl | assumption | omega | (simp only [*, Bool.not_false, Bool.not_true]; first | done | fail) | (simp [*]; first | done | fail)) ?_ | refine aw_block ?_ | refine aw_region T0ok cfU_ok (by rfl) ?_ | refine aw_skip ?_ | refine aw_exit ?_ | refine ra_step ?_))); exact hh.out)) : G := h ⟨k⟩
theorem ga_DW {H G : Prop} (k : H) (h : Hid H → G := by (intro hh; (first | refine r_none ?_ | refine r_gt (by rfl) (by rfl) (by first | rfl | assumption | omega | (simp only [*, Bool.not_false, Bool.not_true]; first | done | fail) | (simp [*]; first | done | fail)) (by rfl) ?_ | refine r_gf (by rfl) (by rfl) (by first | rfl | assumption | omega | (simp only [*, Bool.not_false, Bool.not_true]; first | done | fail) | (simp [*]; first | done | fail)) (by rfl) ?_); refine z_op (by rfl) ?_; refine z_alV ?_ hh.out; focus (first | exact trivial | fail | exact rfl | (first | omega | (simp only [List.length_append, List.length_replicate, List.length_cons, List.length_nil, List.length_set, List.length_take, List.length_drop, true_and]; omega)) | exact cvB (fun w => rfl) | ((repeat' (first | exact rfl | exact cV_len _ | exact cV_ln rfl (by omega) | exact Cel.pos | omega | exact trivial | refine And.intro ?_ ?_)); done) | (simp [*]; done) | (simp; omega)))) : G := h ⟨k⟩
theorem gd_DW {H G : Prop} (k : H) (h : Hid H → G := by (intro hh; (refine aw_draw mixed T0ok cfU_ok [] (by rfl) (by kernel_rfl) ?_); exact hh.out)) : G := h ⟨k⟩
theorem k_sameDs (l : List Dd) (h : l.length ≤ 100) : Kon Tryz.prog 17 [roA l, roA l] [] (vB true) [] [] := by
  have h1 : ((l.length : Int) != (l.length : Int)) = false := by simp
  (refine kon_mk T0ok (fn := Tryz.f17) (c := Tryz.f17.body.get rfl) Tryz.func17 rfl (by rfl) (by rfl) (by rfl) ?_; intro hfit hfe)
  (repeat (first | refine gq_DW ?_ | (refine ga_DW ?_; intro _hq)))
  (refine aw_rd [0, 1] [] (fun i : Nat => [(5, vI i)]) (fun _ => []) (fun i => i ≤ l.length) (fun i => l.length - i) 0 (by rfl) (by rfl) ?_ (by rfl) (by repeat (first | exact trivial | refine ⟨by rfl, ?_⟩ | refine ⟨vI_of (by rfl) (by omega), ?_⟩)) (by repeat (first | exact trivial | refine ⟨by rfl, ?_⟩ | refine ⟨vI_of (by rfl) (by omega), ?_⟩)) ?_)
  · exact Nat.zero_le _
  rintro i hi
  rcases Nat.lt_or_ge i l.length with h5 | h5
  · have hd : decide ((i : Int) < (l.length : Int)) = true := decide_eq_true (by omega)
    have hq : ∀ x : Int, (x == x) = true := fun x => by simp
    have e1 := hq (l.getD (i : Int).toNat Cel.no).k
    have e2 := hq (l.getD (i : Int).toNat Cel.no).n
    have e3 := hq (l.getD (i : Int).toNat Cel.no).p.k
    have e4 := hq (l.getD (i : Int).toNat Cel.no).p.a
    have e5 := hq (l.getD (i : Int).toNat Cel.no).p.b
    have e6 := hq (l.getD (i : Int).toNat Cel.no).p.c
    (repeat (first | refine gq_DW ?_ | (refine ga_DW ?_; intro _hq) | refine gd_DW ?_))
    exact ⟨i + 1, h5, ⟨by rfl, (by repeat (first | exact trivial | refine ⟨by rfl, ?_⟩ | refine ⟨vI_of (by rfl) (by omega), ?_⟩)), (by repeat (first | exact trivial | refine ⟨by rfl, ?_⟩ | refine ⟨vI_of (by rfl) (by omega), ?_⟩))⟩, (by first | omega | (dsimp only; omega))⟩
  · have hd : decide ((i : Int) < (l.length : Int)) = false := decide_eq_false (by omega)
    (repeat (first | refine gq_DW ?_ | (refine ga_DW ?_; intro _hq) | refine gd_DW ?_))
    ((try refine aw_ret ?_); refine ret_auto2 (by rfl) (by rfl) (by rfl) (by repeat (first | exact trivial | refine ⟨by first | rfl | omega, ?_⟩)) ?_ (by repeat (first | exact trivial | refine ⟨by rfl, by rfl, ?_⟩)) (by repeat (first | exact trivial | refine ⟨by rfl, by rfl, ?_⟩)); try rfl)
end Go.Proofs.YtgphlcdinejmdaaGreatDoor

/- The program's readers of gates, deeds and journals alone. -/
namespace Go.Proofs.YtgphlcdinejmdaaGreatDoor
set_option linter.unusedVariables false
set_option linter.unusedSimpArgs false
set_option maxRecDepth 20000
open Go.RowKit
open Go.Lib (decDigits)
/-- The program's reader of gates. -/
theorem rgI_ex (s : List UInt8) (hs : s.length ≤ 7000000) : ∃ g b, RG s g b ∧ Kon Tryz.prog 31 [vS s] [] (tupG g b) [] [] := by
  obtain ⟨g, b, h⟩ := rg_all s
  refine ⟨g, b, h, ?_⟩
  rcases h with ⟨rfl, h⟩ | ⟨rfl, rfl, h⟩
  · have hne : s ≠ [] := fun e => gok_nil g (e ▸ h)
    obtain ⟨e1, e2, e3⟩ := gk_rd h
    obtain ⟨_, hk, _⟩ := gok_bd h.1
    have ht : (gtx g == s) = true := (gtx_eq hne).2 h
    have hkk : ((g.k.toNat : Nat) : Int) = g.k := by omega
    have := k_rgI1 s hs g.k.toNat (by omega) (by rw [hkk]; exact e3) (by rw [hkk, e2]; exact ht)
    rw [hkk, e2] at this
    exact this
  · by_cases hne : s = []
    · subst hne
      exact k_rgI0 [] hs fun j a b c e => absurd (congrArg List.length e) (by have := (gnm_len (j : Int)).1; have h2 : ((cutA 32 [] []).getD 0 []).length = 0 := rfl; omega)
    · exact k_rgI0 s hs fun j a b c _ => no_gtx hne h _
theorem rdI_no2 (s : List UInt8) (hs : s.length ≤ 7000000) (h : ∀ k n p, ¬ DOk s k n p) : Kon Tryz.prog 10 [vS s] [] (tupD dZ false) [] [] := by
  by_cases hne : s = []
  · subst hne; exact k_rdI_nil
  have hne2 : (s == []) = false := by rw [beq_eq_false_iff_ne]; exact hne
  have hC := k_scut 32 s hs
  have hct := ct_cases 32 s
  rcases hx : Go.Lib.cut s [32] with ⟨a, b, f⟩
  rw [hx] at hC hct
  have hbl : b.length ≤ 7000000 := by
    rcases hct with ⟨h1, _⟩ | ⟨i, _, h1, _⟩
    · obtain ⟨rfl, h2⟩ := Prod.mk.inj h1
      rw [(Prod.mk.inj h2).1]; simp
    · rw [(Prod.mk.inj (Prod.mk.inj h1).2).1, List.length_drop]; omega
  have hn := fun k n p => bne_of _ (no_dtx hne h k n p)
  rcases dnm_dec a with ⟨k, hk, ha⟩ | ⟨h0, h1, h2, h3, h4⟩
  · have h' : k = 0 ∨ k = 1 ∨ k = 2 ∨ k = 3 ∨ k = 4 := by omega
    rcases h' with rfl | rfl | rfl | rfl | rfl
    · obtain ⟨n, e, he, _, hA⟩ := ex_atoi b hbl
      rcases he with rfl | rfl
      · exact k_rdI0Ntrue s a b f n hC ha hA hne2 (hn 0 n g0)
      · exact k_rdI0Etrue s a b f n hC ha hA hne2 (hn 0 n g0)
    · obtain ⟨n, e, he, _, hA⟩ := ex_atoi b hbl
      rcases he with rfl | rfl
      · exact k_rdI1Ntrue s a b f n hC ha hA hne2 (hn 1 n g0)
      · exact k_rdI1Etrue s a b f n hC ha hA hne2 (hn 1 n g0)
    · obtain ⟨p, q, _, hA⟩ := rgI_ex b hbl
      exact k_rdI2true s a b f p q hC ha hA hne2 (hn 2 0 p)
    · exact k_rdI3true s a b f hC ha hne2 (hn 3 0 g0)
    · exact k_rdI4true s a b f hC ha hne2 (hn 4 0 g0)
  · exact k_rdIx s a b f hC (nm_ne (k := 0) h0) (nm_ne (k := 1) h1) (nm_ne (k := 2) h2) (nm_ne (k := 3) h3) (nm_ne (k := 4) h4) hne2
theorem rdI_yes2 (s : List UInt8) (hs : s.length ≤ 7000000) (d : Dd) (h : DOk s d.k d.n d.p) : Kon Tryz.prog 10 [vS s] [] (tupD d true) [] [] := by
  have hne := h.2
  have hne2 : (s == []) = false := by rw [beq_eq_false_iff_ne]; exact hne
  have hC := k_scut 32 s hs
  have ht := bnt_of _ ((dtx_eq hne).2 h)
  obtain ⟨k, n, p⟩ := d
  dsimp only at h ht
  rcases d_cases h with ⟨hk, rfl, hn, e, ec⟩ | ⟨rfl, rfl, hg, e, ec⟩ | ⟨hk, rfl, rfl, e, ec⟩
  · have hcut := cut_of (dnm_no k) e
    rw [hcut] at hC
    have hat : Go.Lib.atoiAll (dx n) = .ok n := by
      have := (dd2_of (n := n.toNat) (by omega)).2.1
      rw [this]; congr 1; omega
    have hdl : (dx n).length ≤ 7000000 := by
      have := (dd2_of (n := n.toNat) (by omega)).2.2.2.2
      show (Go.Lib.decDigits n.toNat).length ≤ 7000000
      omega
    have hA := k_atoiOk (dx n) n hdl hat
    rcases hk with rfl | rfl
    · exact k_rdI0Nfalse s _ _ _ n hC rfl hA hne2 ht
    · exact k_rdI1Nfalse s _ _ _ n hC rfl hA hne2 ht
  · have hcut := cut_of (dnm_no 2) e
    rw [hcut] at hC
    have hgl := gtT_len hg
    obtain ⟨p2, q2, h2, hA⟩ := rgI_ex (gtT p) (by omega)
    have hp2 : p2 = p := by
      rcases h2 with ⟨_, h2⟩ | ⟨_, _, h2⟩
      · exact gk_uni h2 ⟨hg, rfl⟩
      · exact absurd ⟨hg, rfl⟩ (h2 p)
    subst hp2
    exact k_rdI2false s _ _ _ p2 q2 hC rfl hA hne2 ht
  · have hcut := cut_no (dnm_no k)
    rw [← e] at hcut
    rw [hcut] at hC
    rcases hk with rfl | rfl
    · exact k_rdI3false s _ _ _ hC e hne2 ht
    · exact k_rdI4false s _ _ _ hC e hne2 ht
theorem rdI_ex2 (s : List UInt8) (hs : s.length ≤ 7000000) : ∃ d b, RDd s d b ∧ Kon Tryz.prog 10 [vS s] [] (tupD d b) [] [] := by
  obtain ⟨d, b, h⟩ := rd_all s
  refine ⟨d, b, h, ?_⟩
  rcases h with ⟨rfl, h⟩ | ⟨rfl, rfl, h⟩
  · exact rdI_yes2 s hs d h
  · exact rdI_no2 s hs h
attribute [local irreducible] runA runX AW
theorem gq_DOI {H G : Prop} (k : H) (h : Hid H → G := by (intro hh; (first | (first | ((first | refine r_none ?_ | refine r_gt (by rfl) (by rfl) (by first | rfl | assumption | omega | (simp only [*, Bool.not_false, Bool.not_true]; first | done | fail) | (simp [*]; first | done | fail)) (by rfl) ?_ | refine r_gf (by rfl) (by rfl) (by first | rfl | assumption | omega | (simp only [*, Bool.not_false, Bool.not_true]; first | done | fail) | (simp [*]; first | done | fail)) (by rfl) ?_); (first | (first | refine r_slen (by rfl) Tryz.underlying9 (by rfl) ?_ | refine r_seq (by rfl) (by rfl) (by rfl) ?_ | refine r_sadd (by rfl) (by rfl) (by first | omega | (simp only [List.length_append, List.length_cons, List.length_nil]; omega)) (by rfl) ?_ | refine r_sidx (by rfl) (by rfl) Tryz.underlying9 (by omega) (by rfl) ?_ | refine r_spiece (by rfl) (by rfl) (by rfl) Tryz.underlying9 (.inr rfl) (.inr rfl) (by omega) (by rfl) ?_ | refine r_spiece (by rfl) (by rfl) (by rfl) Tryz.underlying9 (.inr rfl) (.inl ⟨rfl, rfl⟩) (by omega) (by rfl) ?_) | ((first | (refine z_op (by rfl) ?_; first | refine z_ok ?_ ?_ | refine z_ex ?_ (by first | exact ft_raw rfl rfl | ((first | refine ft_rp rfl rfl rfl ?_ | refine ft_row rfl rfl rfl ?_ | refine ft_rpF rfl rfl rfl ?_ | refine ft_rowF rfl rfl rfl ?_ | refine up_row rfl rfl ?_ | refine up_rowF rfl rfl rfl ?_ | refine ct_0 rfl ?_ | refine ct_r rfl rfl ?_ | refine ct_c rfl rfl rfl ?_ | refine cu_all rfl ?_ | refine cu_to rfl ?_ | refine cu_from rfl ?_ | refine cu_p rfl ?_ | fail); (first | omega | (simp only [List.length_append, List.length_replicate, List.length_cons, List.length_nil, List.length_set, List.length_take, List.length_drop, true_and]; omega))) | exact up_raw rfl | exact pk_t (by first | rfl | assumption | omega | (simp only [*, Bool.not_false, Bool.not_true]; first | done | fail) | (simp [*]; first | done | fail)) rfl | exact pk_f (by first | rfl | assumption | omega | (simp only [*, Bool.not_false, Bool.not_true]; first | done | fail) | (simp [*]; first | done | fail)) rfl | (first | exact rw_c Dd rfl) | exact rw_raw | exact pu_cv (fun w => rfl) (by omega) | exact pu_of (fun w => rfl) rfl | exact be_of (fun w => rfl) | exact nc_of (fun _ _ _ _ => rfl) rfl | exact bu_of (fun w => rfl) rfl | fail) ?_) | ((first | refine q_callE wsT wsZ (by rfl) ?_ | refine q_callVE wsT (by rfl) (by rfl) ?_); refine ⟨_, _, _, (by first | assumption | exact (k_dt _ _ _).2), _, by rfl, ?_, ?_⟩)); focus (first | exact trivial | fail | exact rfl | (first | omega | (simp only [List.length_append, List.length_replicate, List.length_cons, List.length_nil, List.length_set, List.length_take, List.length_drop, true_and]; omega)) | exact cvB (fun w => rfl) | ((repeat' (first | exact rfl | exact cV_len _ | exact cV_ln rfl (by omega) | exact Cel.pos | omega | exact trivial | refine And.intro ?_ ?_)); done) | (simp [*]; done) | (simp; omega))) | refine q_clip (by rfl) clipD (by first | exact trivial | omega | exact cvB (fun w => rfl) | ((repeat (any_goals (first | exact rfl | exact cV_len _ | exact cV_ln rfl (by omega) | exact Cel.pos | omega | exact trivial | refine And.intro ?_ ?_))); first | done | fail) | (simp [*]; first | done | fail)) ?_)) | refine r_nt (by rfl) (by rfl) (by first | rfl | assumption | omega | (simp only [*, Bool.not_false, Bool.not_true]; first | done | fail) | (simp [*]; first | done | fail)) (by rfl) ?_ | refine r_nf (by rfl) (by rfl) (by first | rfl | assumption | omega | (simp only [*, Bool.not_false, Bool.not_true]; first | done | fail) | (simp [*]; first | done | fail)) (by rfl) ?_ | refine r_gu (by rfl) (by rfl) (by rfl) ?_ | refine r_nil ?_) | (first | refine aw_seq ?_ | refine aw_ct (by rfl) (by first | rfl | assumption | omega | (simp only [*, Bool.not_false, Bool.not_true]; first | done | fail) | (simp [*]; first | done | fail)) ?_ | refine aw_cf (by rfl) (by first | rfl | assumption | omega | (simp only [*, Bool.not_false, Bool.not_true]; first | done | fail) | (simp [*]; first | done | fail)) ?_ | refine aw_block ?_ | refine aw_region T0ok cfU_ok (by rfl) ?_ | refine aw_skip ?_ | refine aw_exit ?_ | refine ra_step ?_)); (repeat (first | (first | ((first | refine r_none ?_ | refine r_gt (by rfl) (by rfl) (by first | rfl | assumption | omega | (simp only [*, Bool.not_false, Bool.not_true]; first | done | fail) | (simp [*]; first | done | fail)) (by rfl) ?_ | refine r_gf (by rfl) (by rfl) (by first | rfl | assumption | omega | (simp only [*, Bool.not_false, Bool.not_true]; first | done | fail) | (simp [*]; first | done | fail)) (by rfl) ?_); (first | (first | refine r_slen (by rfl) Tryz.underlying9 (by rfl) ?_ | refine r_seq (by rfl) (by rfl) (by rfl) ?_ | refine r_sadd (by rfl) (by rfl) (by first | omega | (simp only [List.length_append, List.length_cons, List.length_nil]; omega)) (by rfl) ?_ | refine r_sidx (by rfl) (by rfl) Tryz.underlying9 (by omega) (by rfl) ?_ | refine r_spiece (by rfl) (by rfl) (by rfl) Tryz.underlying9 (.inr rfl) (.inr rfl) (by omega) (by rfl) ?_ | refine r_spiece (by rfl) (by rfl) (by rfl) Tryz.underlying9 (.inr rfl) (.inl ⟨rfl, rfl⟩) (by omega) (by rfl) ?_) | ((first | (refine z_op (by rfl) ?_; first | refine z_ok ?_ ?_ | refine z_ex ?_ (by first | exact ft_raw rfl rfl | ((first | refine ft_rp rfl rfl rfl ?_ | refine ft_row rfl rfl rfl ?_ | refine ft_rpF rfl rfl rfl ?_ | refine ft_rowF rfl rfl rfl ?_ | refine up_row rfl rfl ?_ | refine up_rowF rfl rfl rfl ?_ | refine ct_0 rfl ?_ | refine ct_r rfl rfl ?_ | refine ct_c rfl rfl rfl ?_ | refine cu_all rfl ?_ | refine cu_to rfl ?_ | refine cu_from rfl ?_ | refine cu_p rfl ?_ | fail); (first | omega | (simp only [List.length_append, List.length_replicate, List.length_cons, List.length_nil, List.length_set, List.length_take, List.length_drop, true_and]; omega))) | exact up_raw rfl | exact pk_t (by first | rfl | assumption | omega | (simp only [*, Bool.not_false, Bool.not_true]; first | done | fail) | (simp [*]; first | done | fail)) rfl | exact pk_f (by first | rfl | assumption | omega | (simp only [*, Bool.not_false, Bool.not_true]; first | done | fail) | (simp [*]; first | done | fail)) rfl | (first | exact rw_c Dd rfl) | exact rw_raw | exact pu_cv (fun w => rfl) (by omega) | exact pu_of (fun w => rfl) rfl | exact be_of (fun w => rfl) | exact nc_of (fun _ _ _ _ => rfl) rfl | exact bu_of (fun w => rfl) rfl | fail) ?_) | ((first | refine q_callE wsT wsZ (by rfl) ?_ | refine q_callVE wsT (by rfl) (by rfl) ?_); refine ⟨_, _, _, (by first | assumption | exact (k_dt _ _ _).2), _, by rfl, ?_, ?_⟩)); focus (first | exact trivial | fail | exact rfl | (first | omega | (simp only [List.length_append, List.length_replicate, List.length_cons, List.length_nil, List.length_set, List.length_take, List.length_drop, true_and]; omega)) | exact cvB (fun w => rfl) | ((repeat' (first | exact rfl | exact cV_len _ | exact cV_ln rfl (by omega) | exact Cel.pos | omega | exact trivial | refine And.intro ?_ ?_)); done) | (simp [*]; done) | (simp; omega))) | refine q_clip (by rfl) clipD (by first | exact trivial | omega | exact cvB (fun w => rfl) | ((repeat (any_goals (first | exact rfl | exact cV_len _ | exact cV_ln rfl (by omega) | exact Cel.pos | omega | exact trivial | refine And.intro ?_ ?_))); first | done | fail) | (simp [*]; first | done | fail)) ?_)) | refine r_nt (by rfl) (by rfl) (by first | rfl | assumption | omega | (simp only [*, Bool.not_false, Bool.not_true]; first | done | fail) | (simp [*]; first | done | fail)) (by rfl) ?_ | refine r_nf (by rfl) (by rfl) (by first | rfl | assumption | omega | (simp only [*, Bool.not_false, Bool.not_true]; first | done | fail) | (simp [*]; first | done | fail)) (by rfl) ?_ | refine r_gu (by rfl) (by rfl) (by rfl) ?_ | refine r_nil ?_) | (first | refine aw_seq ?_ | refine aw_ct (by rfl) (by first | rfl | assumption | omega | (simp only [*, Bool.not_false, Bool.not_true]; first | done | fail) | (simp [*]; first | done | fail)) ?_ | refine aw_cf (by rfl) (by first | rfl | assumption | omega | (simp only [*, Bool.not_false, Bool.not_true]; first | done | fail) | (simp [*]; first | done | fail)) ?_ | refine aw_block ?_ | refine aw_region T0ok cfU_ok (by rfl) ?_ | refine aw_skip ?_ | refine aw_exit ?_ | refine ra_step ?_))); exact hh.out)) : G := h ⟨k⟩
theorem ga_DOI {H G : Prop} (k : H) (h : Hid H → G := by (intro hh; (first | refine r_none ?_ | refine r_gt (by rfl) (by rfl) (by first | rfl | assumption | omega | (simp only [*, Bool.not_false, Bool.not_true]; first | done | fail) | (simp [*]; first | done | fail)) (by rfl) ?_ | refine r_gf (by rfl) (by rfl) (by first | rfl | assumption | omega | (simp only [*, Bool.not_false, Bool.not_true]; first | done | fail) | (simp [*]; first | done | fail)) (by rfl) ?_); refine z_op (by rfl) ?_; refine z_alV ?_ hh.out; focus (first | exact trivial | fail | exact rfl | (first | omega | (simp only [List.length_append, List.length_replicate, List.length_cons, List.length_nil, List.length_set, List.length_take, List.length_drop, true_and]; omega)) | exact cvB (fun w => rfl) | ((repeat' (first | exact rfl | exact cV_len _ | exact cV_ln rfl (by omega) | exact Cel.pos | omega | exact trivial | refine And.intro ?_ ?_)); done) | (simp [*]; done) | (simp; omega)))) : G := h ⟨k⟩
set_option maxHeartbeats 4000000 in
theorem k_rjI2 (s : List UInt8) (hs : s.length ≤ 7000000) (l : List Dd) (n : Nat) (hR : JR s l n) : Kon Tryz.prog 16 [vS s] [] (.tup [.one (.sl 0 0 l.length), .one (.v (.int .i64 n))]) [dRow l] [] := by
  (refine kon_mk T0ok (fn := Tryz.f16) (c := Tryz.f16.body.get rfl) Tryz.func16 rfl (by rfl) (by rfl) (by rfl) ?_; intro hfit hfe)
  (repeat (first | refine gq_DOI ?_ | (refine ga_DOI ?_; intro _hq)))
  (refine aw_rd [0] [] (fun g : Nat × Nat × List Dd => [(4, .g (.one (.sl 176 g.2.1 g.2.2.length))), (5, vI g.1)]) (fun g => [(176, (g.2.1, dRow g.2.2))]) (fun g => JI s g.1 g.2.2) (fun g => s.length + 1 - g.1) (0, 0, []) (by rfl) (by rfl) ?_ (by rfl) (by repeat (first | exact trivial | refine ⟨by rfl, ?_⟩ | refine ⟨vI_of (by rfl) (by omega), ?_⟩)) (by repeat (first | exact trivial | refine ⟨by rfl, ?_⟩ | refine ⟨vI_of (by rfl) (by omega), ?_⟩)) ?_)
  · exact ji_0 s
  rintro ⟨f, u, o⟩ h3
  dsimp only at h3 ⊢
  have hol := ji_len h3
  have e0 : (s.drop f).take (s.length - f) = s.drop f := List.take_of_length_le (by rw [List.length_drop]; omega)
  have hC := k_scut 10 ((s.drop f).take (s.length - f)) (by rw [e0, List.length_drop]; omega)
  rw [e0] at hC
  rw [← e0] at hC
  rcases cut10 (s.drop f) with ⟨h4, h5⟩ | ⟨i, h6, h4, h5, h7⟩
  · have h4' : Go.Lib.cut ((s.drop f).take (s.length - f)) [10] = (s.drop f, [], false) := by rw [e0]; exact h4
    rw [h4'] at hC
    obtain ⟨d, b, hx, hK⟩ := rdI_ex2 (s.drop f) (by rw [List.length_drop]; omega)
    obtain ⟨rfl, rfl⟩ := jr_uni hR (ji_last h3 h5)
    clear h3 h4 h4' h5 hx hR e0
    (repeat (first | refine gq_DOI ?_ | (refine ga_DOI ?_; intro _hq)))
    ((try refine aw_ret ?_); refine ret_auto2 (by rfl) (by rfl) (by rfl) (by repeat (first | exact trivial | refine ⟨by first | rfl | omega, ?_⟩)) ?_ (by repeat (first | exact trivial | refine ⟨by rfl, by rfl, ?_⟩)) (by repeat (first | exact trivial | refine ⟨by rfl, by rfl, ?_⟩)); try rfl)
  · have h4' : Go.Lib.cut ((s.drop f).take (s.length - f)) [10] = ((s.drop f).take i, (s.drop f).drop (i + 1), true) := by rw [e0]; exact h4
    rw [h4'] at hC
    rw [List.length_drop] at h6
    have hal : ((s.drop f).take i).length = i := by rw [List.length_take, List.length_drop]; omega
    obtain ⟨d, b, hx, hK⟩ := rdI_ex2 ((s.drop f).take i) (by omega)
    rcases hx with ⟨rfl, hx⟩ | ⟨rfl, rfl, hx⟩
    · have hinv := ji_more h3 h5 hx
      rw [hal] at hinv
      generalize (s.drop f).take i = a at *
      subst hal
      clear h3 h4 h4' h5 hx hR e0 h7
      (repeat (first | refine gq_DOI ?_ | (refine ga_DOI ?_; intro _hq)))
      exact ⟨(f + a.length + 1, u + 1, o ++ [d]), hinv, ⟨by rfl, (by repeat (first | exact trivial | refine ⟨by rfl, ?_⟩ | refine ⟨vI_of (by rfl) (by omega), ?_⟩)), (by repeat (first | exact trivial | refine ⟨by rfl, ?_⟩ | refine ⟨vI_of (by rfl) (by omega), ?_⟩))⟩, (by first | omega | (dsimp only; omega))⟩
    · obtain ⟨rfl, rfl⟩ := jr_uni hR (ji_no h3 h5 h7 hx)
      clear h3 h4 h4' h5 hx hR e0 h7
      (repeat (first | refine gq_DOI ?_ | (refine ga_DOI ?_; intro _hq)))
      ((try refine aw_ret ?_); refine ret_auto2 (by rfl) (by rfl) (by rfl) (by repeat (first | exact trivial | refine ⟨by first | rfl | omega, ?_⟩)) ?_ (by repeat (first | exact trivial | refine ⟨by rfl, by rfl, ?_⟩)) (by repeat (first | exact trivial | refine ⟨by rfl, by rfl, ?_⟩)); try rfl)
end Go.Proofs.YtgphlcdinejmdaaGreatDoor

/- How arguments that came in read: slices of whatever elements. -/
namespace Go.Proofs.YtgphlcdinejmdaaGreatDoor
set_option linter.unusedVariables false
set_option linter.unusedSimpArgs false
open Go.ChangeShapes Go.WideShapes Go.ChangeAt Go.RowKit Go.Joins Go.Deep

theorem own : ownKnob Tryz.prog.godebug = none := by kernel_rfl
theorem laidOut : laidOutB Tryz.prog = true := by kernel_rfl
/-- The frame of a row's proof, from its walk: the arguments opened by the caller. -/
theorem row_end {H : Type} {enc : TypeId × Value → H} {W : World} {t : TypeId} {v : Value} {d : DataW H} {p : List MemPlace} (h : DataW.Trod enc Tryz.prog W 0 (fun _ => true) true t v d p) : ∀ x ∈ p, x.block < W.heap.size := by
  obtain ⟨m, hm⟩ := h; exact DataW.trod_lt m _ _ _ hm
theorem add_plain (b off j : Nat) : (⟨b, off, none⟩ : Addr).add j = ⟨b, off + j, none⟩ := by
  unfold Addr.add; split <;> simp_all
theorem list_of {α : Type} (p : Nat → α → Prop) (n : Nat) (h : ∀ j, j < n → ∃ v, p j v) : ∃ l : List α, l.length = n ∧ ∀ j (hj : j < l.length), p j l[j] := by
  induction n with
  | zero => exact ⟨[], rfl, fun j hj => by simp at hj⟩
  | succ n ih =>
    obtain ⟨l, hl, hp⟩ := ih fun j hj => h j (by omega)
    obtain ⟨v, hv⟩ := h n (by omega)
    refine ⟨l ++ [v], by simp [hl], fun j hj => ?_⟩
    by_cases hlt : j < l.length
    · rw [List.getElem_append_left hlt]; exact hp j hlt
    · have e : j = l.length := by simp at hj; omega
      subst e
      simp [hl, hv]
section
variable {H : Type} {enc : TypeId × Value → H} {P : Program} {w : World} {α : Type} [Cel α]
/-- Cells of a type are those of an element. -/
def OpensC (enc : TypeId × Value → H) (P : Program) (w : World) (e : TypeId) (α : Type) [Cel α] : Prop := ∀ n cs x, DataW.trod enc P w 0 (fun _ => true) true n e cs = some x → ∃ a : α, cs = Cel.f a
theorem mapM_get {α β : Type} {f : α → Option β} : ∀ {l : List α} {r : List β}, l.mapM f = some r → r.length = l.length ∧ ∀ (j : Nat) (x : α), l[j]? = some x → ∃ y, r[j]? = some y ∧ f x = some y
  | [], r, h => by
    simp at h; subst h; exact ⟨rfl, fun j x hj => by simp at hj⟩
  | a :: l, r, h => by
    rw [List.mapM_cons] at h
    cases ha : f a with
    | none => simp [ha] at h
    | some y =>
      cases hl : l.mapM f with
      | none => simp [ha, hl] at h
      | some r' =>
        simp [ha, hl] at h
        subst h
        obtain ⟨h1, h2⟩ := mapM_get hl
        refine ⟨by simp [h1], fun j x hj => ?_⟩
        cases j with
        | zero => simp at hj; subst hj; exact ⟨y, rfl, ha⟩
        | succ j => obtain ⟨z, hz, hf⟩ := h2 j x (by simpa using hj); exact ⟨z, by simpa using hz, hf⟩
theorem ro_of_trod {t e : TypeId} {fuel : Nat} {v : Value} {y : DataW H × List MemPlace} (ht : P.underlying t = some (.slice e)) (hc : P.cellsOf e = Cel.sz α) (ho : OpensC enc P w e α)
    (h : DataW.trod enc P w 0 (fun _ => true) true fuel t [v] = some y) : ∃ l : List α, Rep0 w (.g (.one (.ro (Cel.sz α) l.length (cV l)))) v := by
  rcases open_slice ht h with ⟨hcs, _⟩ | ⟨a, len, cap, m, n, D, Pl, hcs, _, hl, hm, hmm, rfl, hx⟩
  · simp at hcs
    subst hcs
    exact ⟨[], ⟨by simp, rfl⟩, none, 0, rfl, Nat.le_refl _, by unfold maxLen; omega, fun h => absurd h (Nat.lt_irrefl _)⟩
  · simp at hcs
    subst hcs
    simp at hmm
    subst hmm
    rw [hc] at hx
    obtain ⟨l, hll, hlp⟩ := list_of (fun j (u : α) => w.cells? 0 (a.add (j * Cel.sz α)) (Cel.sz α) = some (Cel.f u)) len fun j hj => by
      obtain ⟨cs', h1, h2⟩ := hx j (by omega)
      obtain ⟨u, rfl⟩ := ho _ _ _ h2
      exact ⟨u, h1⟩
    have hcell : ∀ (j o : Nat) (hj : j < l.length) (ho : o < Cel.sz α), ∃ x, (Cel.f l[j])[o]? = some x ∧ w.cell? ((a.add (j * Cel.sz α)).add o) = some x := by
      intro j o hj ho
      have h1 := hlp j hj
      unfold World.cells? at h1
      rw [if_pos (Nat.zero_le _)] at h1
      obtain ⟨_, h2⟩ := mapM_get h1
      obtain ⟨x, h3, h4⟩ := h2 o o (by simp [ho])
      exact ⟨x, h3, h4⟩
    refine ⟨l, ⟨by rw [cV_len], cV_one l⟩, some a, m, by rw [hll], by omega, hm, fun hn => ?_⟩
    obtain ⟨b, off, spot⟩ := a
    have hspot : spot = none := by
      obtain ⟨x, _, h2⟩ := hcell 0 0 hn Cel.pos
      have := World.cell?_spot h2
      simpa [Addr.add] using this
    subst hspot
    refine ⟨b, off, rfl, ?_, fun j x hj => ?_⟩
    · obtain ⟨x, _, h2⟩ := hcell 0 0 hn Cel.pos
      rw [add_plain, add_plain] at h2
      exact World.block_lt_of_cell? w _ h2
    · have hpos : 0 < Cel.sz α := Cel.pos
      have hlt : j < l.length * Cel.sz α := by rw [← cV_len]; exact (List.getElem?_eq_some_iff.1 hj).1
      have hdm := Nat.div_add_mod j (Cel.sz α)
      have hml := Nat.mod_lt j hpos
      have hdl : j / Cel.sz α < l.length := Nat.div_lt_of_lt_mul (by rw [Nat.mul_comm]; exact hlt)
      obtain ⟨y, h1, h2⟩ := hcell (j / Cel.sz α) (j % Cel.sz α) hdl hml
      rw [add_plain, add_plain] at h2
      have e1 : l.getD (j / Cel.sz α) Cel.no = l[j / Cel.sz α] := by simp [List.getD_eq_getElem?_getD, hdl]
      have h3 := cV_cell (l := l) (j := j / Cel.sz α) (o := j % Cel.sz α) (v := y) hdl (by rw [e1]; exact h1)
      have e2 : j / Cel.sz α * Cel.sz α + j % Cel.sz α = j := by rw [Nat.mul_comm]; exact hdm
      rw [e2, hj] at h3
      cases h3
      rw [show off + j = off + j / Cel.sz α * Cel.sz α + j % Cel.sz α by omega]
      exact h2
end
section
variable {H : Type} {enc : TypeId × Value → H} {P : Program} {w : World}
theorem opens_byte {e : TypeId} (he : P.underlying e = some (.int .u8)) : OpensC enc P w e UInt8 := by
  intro n cs x h
  obtain ⟨k, h1, _, hw⟩ := DataW.trod_int he h
  have h2 : 0 ≤ k ∧ k < 256 := by
    simp [Lit.wf, IntKind.min, IntKind.max, IntKind.signed, IntKind.bits] at hw
    omega
  refine ⟨UInt8.ofNat k.toNat, ?_⟩
  rw [h1]
  show [Value.int .u8 k] = [Value.int .u8 ((UInt8.ofNat k.toNat).toNat : Int)]
  simp only [UInt8.toNat_ofNat']
  rw [Nat.mod_eq_of_lt (by omega)]
  congr 2
  omega
theorem slice_shape {e t : TypeId} {v : Value} {d : DataW H} {ps : List MemPlace} {r : Reach} {b0 : Nat} (ht : P.underlying t = some (.slice e)) (hval : Value.okWide P w r b0 t v) (h : DataW.Trod enc P w 0 (fun _ => true) true t v d ps) : ∃ fuel y, DataW.trod enc P w 0 (fun _ => true) true fuel t [v] = some y := by
  obtain ⟨A, n, c, rfl⟩ := okWide_slice ht hval
  obtain ⟨fuel, hf⟩ := h
  exact ⟨fuel, _, hf⟩
/-- Bytes that came in. -/
theorem bytes_of_trod {e t : TypeId} {v : Value} {d : DataW H} {ps : List MemPlace} {r : Reach} {b0 : Nat} (ht : P.underlying t = some (.slice e)) (he : P.underlying e = some (.int .u8)) (hc : P.cellsOf e = 1) (hval : Value.okWide P w r b0 t v) (h : DataW.Trod enc P w 0 (fun _ => true) true t v d ps) :
    ∃ l : List UInt8, Rep0 w (roA l) v := by
  obtain ⟨fuel, y, hf⟩ := slice_shape ht hval h
  exact ro_of_trod (α := UInt8) ht hc (opens_byte he) hf
end
section
variable {H : Type} {enc : TypeId × Value → H} {P : Program} {w : World}
end
/-- A law answers true and leaves what was there, by its contract. -/
theorem law_of_kon {P : Program} {f : FuncId} {aa : List AV} (h : Kon P f aa [] (vB true) [] []) {vs : Array Value} {w : World} (hs : vs.size = aa.length) (hr : ∀ (j : Nat) (a : AV), aa[j]? = some a → ∃ z, vs[j]? = some z ∧ Rep0 w a z) (hgl : Glo w := by exact trivial) (hgz : gsz ≤ w.heap.size := by exact Nat.zero_le _) :
    Calls P f vs w fun e w' => e = .returned (.bool true) ∧ Below w.heap.size w w' := by
  obtain ⟨C, hC, hCe⟩ := h
  exact law_run hC hCe hs hr hgl hgz
end Go.Proofs.YtgphlcdinejmdaaGreatDoor

/- How benches that came in read. -/
namespace Go.Proofs.YtgphlcdinejmdaaGreatDoor
set_option linter.unusedVariables false
set_option linter.unusedSimpArgs false
open Go.ChangeShapes Go.WideShapes Go.ChangeAt Go.RowKit Go.Joins Go.Deep
section
variable {H : Type} {enc : TypeId × Value → H} {P : Program} {w : World}
end
end Go.Proofs.YtgphlcdinejmdaaGreatDoor

/- How statements and texts that came in read. -/
namespace Go.Proofs.YtgphlcdinejmdaaGreatDoor
set_option linter.unusedVariables false
set_option linter.unusedSimpArgs false
open Go.ChangeShapes Go.WideShapes Go.ChangeAt Go.RowKit Go.Joins Go.Deep Go.ChangeMaps
section
variable {H : Type} {enc : TypeId × Value → H} {P : Program} {w : World}
end
section
variable {H : Type} {enc : TypeId × Value → H}
/-- A row whose listed variables read as told, over worlds of the program's shape. -/
theorem handed_laid_shaped {a : Assume} {C : Checked} {os : Os} {f : FuncId} {fn : Func} {s : ChangeSpec} {conds : List PathCond} {apart fresh handsOn again : Bool} {X : World → Array Value → Prop}
    (hX : ∀ (w w' : World) (args : Array Value), w.heap = w'.heap → X w args → X w' args)
    (own : ownKnob C.prog.godebug = none) (started : os.Started) (noInit : C.prog.inits.idxOf? f = none) (hfn : C.prog.funcs[f]? = some fn)
    (witness : ∃ (w : World) (tape : Tape) (i : Input), w.os = os ∧ (w.forCall tape i).Shaped C.prog ∧ i.vars = [] ∧ Input.okWide C.prog (w.forCall tape i) .any w.heap.size f i ∧
      ((s.pre enc C.prog fn conds apart (w.forCall tape i).memory i.args ∧ X (w.forCall tape i).memory i.args) ∧ sizedMet enc C.prog fn (OpenSpec.ofChange s) apart (w.forCall tape i).memory i.args) ∧ a.holds C.prog (lone (Frame.enter C.prog f i.args .normal) [] (w.forCall tape i)))
    (contract : ∀ (W : World) (base : Nat) (args : Array Value) (ds gs : List (DataW H)) (before : List MemPlace),
      (∀ (j : Nat) t v, fn.params[j]? = some t → args[j]? = some v → Value.okWide C.prog W .any base t v) →
      DataW.Whole enc C.prog fn.params.toList s.vars apart W args.toList ds gs before →
      conds.all (PathCond.test C.prog ⟨fn.params.toList, ds, s.plain.varTypes C.prog, gs⟩) = true →
      W.ShapedOpen C.prog → X W args →
      Calls C.prog f args W fun e W' => ∃ v, e = .returned v ∧ s.post enc C.prog fn apart fresh handsOn again W args v W') :
    ReturnsInHanded a C os f .any (fun w args => (s.pre enc C.prog fn conds apart w args ∧ X w args) ∧ sizedMet enc C.prog fn (OpenSpec.ofChange s) apart w args) (s.post enc C.prog fn apart fresh handsOn again) := by
  refine returnsInHanded_of_calls own started noInit witness ?_
  intro w tape i _ hsh _ hok hpre hholds
  obtain ⟨_, _, _, fn', hfn', _, _, _, _, hval⟩ := hok
  have e : fn' = fn := Option.some.inj (hfn'.symm.trans hfn)
  subst e
  obtain ⟨⟨⟨ds, gs, before, hw, hc⟩, hx⟩, hz⟩ := hpre
  have hw' := DataW.Whole.of_heap (w' := w.forCall tape i) (by rfl) hw
  refine (contract (w.forCall tape i) w.heap.size i.args ds gs before hval hw' hc hsh (hX _ _ _ (by rfl) hx)).mono fun e W' ⟨v, he, hp⟩ => ?_
  subst he
  exact ChangeSpec.post_blind hp
end
end Go.Proofs.YtgphlcdinejmdaaGreatDoor

/- The listed variables as the contracts of the library ask for them. -/
namespace Go.Proofs.YtgphlcdinejmdaaGreatDoor
set_option linter.unusedVariables false
set_option linter.unusedSimpArgs false
open Go.ChangeShapes Go.WideShapes Go.ChangeAt Go.RowKit Go.Joins Go.Deep
theorem cell_lt {W : World} {g : Nat} {x : Value} (h : W.cell? ⟨g, 0, none⟩ = some x) : g < W.heap.size := by
  rcases Nat.lt_or_ge g W.heap.size with h1 | h1
  · exact h1
  · unfold World.cell? at h
    simp [Array.getElem?_eq_none h1] at h
theorem laid_iface {P : Program} {W : World} {n nm : String} {d : DataW Unit} {r : List (String × DataW Unit)} {g : Nat} {ti : TypeId} {ms : Array (String × TypeId)} (h : laidMet P ((n, .iface nm d) :: r) W)
    (hg : P.globalNamed n = some g) (ht : (P.globals[g]?).map (·.type) = some ti) (hi : P.underlying ti = some (.interface ms)) : ∃ u v, W.cell? ⟨g, 0, none⟩ = some (.iface u v) := by
  obtain ⟨ps, ⟨g0, t0, cs0, f0, p0, q0, hg0, ht0, hv0, hd0, _, _⟩, _, _⟩ := h
  obtain rfl := Option.some.inj (hg.symm.trans hg0)
  obtain rfl := Option.some.inj (ht.symm.trans ht0)
  obtain ⟨f1, u, v, hcs, _, _⟩ := iface_of_trod hi hd0
  have h0 := World.var?_cell hg0 hv0 0
  obtain ⟨l0⟩ := cs0
  have hl : l0 = [.iface u v] := by simpa using hcs
  subst hl
  exact ⟨u, v, by simpa using h0⟩





























































theorem glo_JournalText {W : World} (hsh : W.ShapedOpen Tryz.prog) (hL : laidMetH Tryz.prog Rows.fnJournalTextRow.laid W) : Glo W ∧ gsz ≤ W.heap.size := by
  rw [MakeChecks.laidMetH_plain _ _ _ (by kernel_rfl)] at hL
  have h4 := hL.tail.tail.tail.tail
  have h5 := h4.tail
  have hi : Tryz.prog.underlying 56 = some (.interface _) := Tryz.underlying56
  obtain ⟨u, v, hr⟩ := laid_iface h4 (show Tryz.prog.globalNamed "strconv.ErrRange" = some 2 by kernel_rfl) (show (Tryz.prog.globals[2]?).map (·.type) = some 56 by kernel_rfl) hi
  obtain ⟨u', v', hs⟩ := laid_iface h5 (show Tryz.prog.globalNamed "strconv.ErrSyntax" = some 1 by kernel_rfl) (show (Tryz.prog.globals[1]?).map (·.type) = some 56 by kernel_rfl) hi
  obtain ⟨m, hm⟩ : ∃ m, W.cell? ⟨0, 0, none⟩ = some (.int .i64 m) :=
    cell_of_shapedOpen_int (zero := #[.int .i64 0]) (t := 3) hsh (of_decide_eq_true (by kernel_rfl)) (by kernel_rfl) rfl (by kernel_rfl) (by kernel_rfl) Tryz.underlying3
  exact ⟨⟨⟨m, hm⟩, ⟨u', v', hs⟩, ⟨u, v, hr⟩⟩, Nat.succ_le_of_lt (Nat.max_lt.2 ⟨Nat.max_lt.2 ⟨cell_lt hs, cell_lt hr⟩, cell_lt hm⟩)⟩

end Go.Proofs.YtgphlcdinejmdaaGreatDoor

/- The law FnJournalText. -/
namespace Go.Proofs.YtgphlcdinejmdaaGreatDoor
set_option linter.unusedVariables false
set_option linter.unusedSimpArgs false
set_option maxRecDepth 20000
open Go.RowKit
attribute [local irreducible] runA runX AW
theorem gq_DWJ {H G : Prop} (k : H) (h : Hid H → G := by (intro hh; (first | (first | ((first | refine r_none ?_ | refine r_gt (by rfl) (by rfl) (by first | rfl | assumption | omega | (simp only [*, Bool.not_false, Bool.not_true]; first | done | fail) | (simp [*]; first | done | fail)) (by rfl) ?_ | refine r_gf (by rfl) (by rfl) (by first | rfl | assumption | omega | (simp only [*, Bool.not_false, Bool.not_true]; first | done | fail) | (simp [*]; first | done | fail)) (by rfl) ?_); (first | (first | refine r_slen (by rfl) Tryz.underlying9 (by rfl) ?_ | refine r_seq (by rfl) (by rfl) (by rfl) ?_ | refine r_sne (by rfl) (by rfl) (by rfl) ?_ | refine r_sadd (by rfl) (by rfl) (by simp only [List.length_append, List.length_cons, List.length_nil]; omega) (by rfl) ?_) | ((first | (refine z_op (by rfl) ?_; first | refine z_ok ?_ ?_ | refine z_ex ?_ (by first | exact ft_raw rfl rfl | ((first | refine ft_rp rfl rfl rfl ?_ | refine ft_row rfl rfl rfl ?_ | refine ft_rpF rfl rfl rfl ?_ | refine ft_rowF rfl rfl rfl ?_ | refine up_row rfl rfl ?_ | refine up_rowF rfl rfl rfl ?_ | refine ct_0 rfl ?_ | refine ct_r rfl rfl ?_ | refine ct_c rfl rfl rfl ?_ | refine cu_all rfl ?_ | refine cu_to rfl ?_ | refine cu_from rfl ?_ | refine cu_p rfl ?_ | fail); (first | omega | (simp only [List.length_append, List.length_replicate, List.length_cons, List.length_nil, List.length_set, List.length_take, List.length_drop, true_and]; omega))) | exact up_raw rfl | exact pk_t (by first | rfl | assumption | omega | (simp only [*, Bool.not_false, Bool.not_true]; first | done | fail) | (simp [*]; first | done | fail)) rfl | exact pk_f (by first | rfl | assumption | omega | (simp only [*, Bool.not_false, Bool.not_true]; first | done | fail) | (simp [*]; first | done | fail)) rfl | fail | exact rw_raw | exact pu_cv (fun w => rfl) (by omega) | exact pu_of (fun w => rfl) rfl | exact be_of (fun w => rfl) | exact nc_of (fun _ _ _ _ => rfl) rfl | exact bu_of (fun w => rfl) rfl | (first | exact pu_of (fun w => eq_deed _ _ _ _ _ _ _ _ _ _ _ _ _ _ w) rfl | exact pu_of (fun w => neq_deed _ _ _ _ _ _ _ _ _ _ _ _ _ _ w) rfl)) ?_) | ((first | refine q_callE wsT wsZ (by rfl) ?_ | refine q_callVE wsT (by rfl) (by rfl) ?_); refine ⟨_, _, _, (by first | assumption | exact k_alive), _, by rfl, ?_, ?_⟩)); focus (first | exact trivial | fail | exact rfl | (first | omega | (simp only [List.length_append, List.length_replicate, List.length_cons, List.length_nil, List.length_set, List.length_take, List.length_drop, true_and]; omega)) | exact cvB (fun w => rfl) | ((repeat' (first | exact rfl | exact cV_len _ | exact cV_ln rfl (by omega) | exact Cel.pos | omega | exact trivial | refine And.intro ?_ ?_)); done) | (simp [*]; done) | (simp; omega))) | fail)) | refine r_nt (by rfl) (by rfl) (by first | rfl | assumption | omega | (simp only [*, Bool.not_false, Bool.not_true]; first | done | fail) | (simp [*]; first | done | fail)) (by rfl) ?_ | refine r_nf (by rfl) (by rfl) (by first | rfl | assumption | omega | (simp only [*, Bool.not_false, Bool.not_true]; first | done | fail) | (simp [*]; first | done | fail)) (by rfl) ?_ | refine r_gu (by rfl) (by rfl) (by rfl) ?_ | refine r_nil ?_) | (first | refine aw_seq ?_ | refine aw_ct (by rfl) (by first | rfl | assumption | omega | (simp only [*, Bool.not_false, Bool.not_true]; first | done | fail) | (simp [*]; first | done | fail)) ?_ | refine aw_cf (by rfl) (by first | rfl | assumption | omega | (simp only [*, Bool.not_false, Bool.not_true]; first | done | fail) | (simp [*]; first | done | fail)) ?_ | refine aw_block ?_ | refine aw_region T0ok cfU_ok (by rfl) ?_ | refine aw_skip ?_ | refine aw_exit ?_ | refine ra_step ?_)); (repeat (first | (first | ((first | refine r_none ?_ | refine r_gt (by rfl) (by rfl) (by first | rfl | assumption | omega | (simp only [*, Bool.not_false, Bool.not_true]; first | done | fail) | (simp [*]; first | done | fail)) (by rfl) ?_ | refine r_gf (by rfl) (by rfl) (by first | rfl | assumption | omega | (simp only [*, Bool.not_false, Bool.not_true]; first | done | fail) | (simp [*]; first | done | fail)) (by rfl) ?_); (first | (first | refine r_slen (by rfl) Tryz.underlying9 (by rfl) ?_ | refine r_seq (by rfl) (by rfl) (by rfl) ?_ | refine r_sne (by rfl) (by rfl) (by rfl) ?_ | refine r_sadd (by rfl) (by rfl) (by simp only [List.length_append, List.length_cons, List.length_nil]; omega) (by rfl) ?_) | ((first | (refine z_op (by rfl) ?_; first | refine z_ok ?_ ?_ | refine z_ex ?_ (by first | exact ft_raw rfl rfl | ((first | refine ft_rp rfl rfl rfl ?_ | refine ft_row rfl rfl rfl ?_ | refine ft_rpF rfl rfl rfl ?_ | refine ft_rowF rfl rfl rfl ?_ | refine up_row rfl rfl ?_ | refine up_rowF rfl rfl rfl ?_ | refine ct_0 rfl ?_ | refine ct_r rfl rfl ?_ | refine ct_c rfl rfl rfl ?_ | refine cu_all rfl ?_ | refine cu_to rfl ?_ | refine cu_from rfl ?_ | refine cu_p rfl ?_ | fail); (first | omega | (simp only [List.length_append, List.length_replicate, List.length_cons, List.length_nil, List.length_set, List.length_take, List.length_drop, true_and]; omega))) | exact up_raw rfl | exact pk_t (by first | rfl | assumption | omega | (simp only [*, Bool.not_false, Bool.not_true]; first | done | fail) | (simp [*]; first | done | fail)) rfl | exact pk_f (by first | rfl | assumption | omega | (simp only [*, Bool.not_false, Bool.not_true]; first | done | fail) | (simp [*]; first | done | fail)) rfl | fail | exact rw_raw | exact pu_cv (fun w => rfl) (by omega) | exact pu_of (fun w => rfl) rfl | exact be_of (fun w => rfl) | exact nc_of (fun _ _ _ _ => rfl) rfl | exact bu_of (fun w => rfl) rfl | (first | exact pu_of (fun w => eq_deed _ _ _ _ _ _ _ _ _ _ _ _ _ _ w) rfl | exact pu_of (fun w => neq_deed _ _ _ _ _ _ _ _ _ _ _ _ _ _ w) rfl)) ?_) | ((first | refine q_callE wsT wsZ (by rfl) ?_ | refine q_callVE wsT (by rfl) (by rfl) ?_); refine ⟨_, _, _, (by first | assumption | exact k_alive), _, by rfl, ?_, ?_⟩)); focus (first | exact trivial | fail | exact rfl | (first | omega | (simp only [List.length_append, List.length_replicate, List.length_cons, List.length_nil, List.length_set, List.length_take, List.length_drop, true_and]; omega)) | exact cvB (fun w => rfl) | ((repeat' (first | exact rfl | exact cV_len _ | exact cV_ln rfl (by omega) | exact Cel.pos | omega | exact trivial | refine And.intro ?_ ?_)); done) | (simp [*]; done) | (simp; omega))) | fail)) | refine r_nt (by rfl) (by rfl) (by first | rfl | assumption | omega | (simp only [*, Bool.not_false, Bool.not_true]; first | done | fail) | (simp [*]; first | done | fail)) (by rfl) ?_ | refine r_nf (by rfl) (by rfl) (by first | rfl | assumption | omega | (simp only [*, Bool.not_false, Bool.not_true]; first | done | fail) | (simp [*]; first | done | fail)) (by rfl) ?_ | refine r_gu (by rfl) (by rfl) (by rfl) ?_ | refine r_nil ?_) | (first | refine aw_seq ?_ | refine aw_ct (by rfl) (by first | rfl | assumption | omega | (simp only [*, Bool.not_false, Bool.not_true]; first | done | fail) | (simp [*]; first | done | fail)) ?_ | refine aw_cf (by rfl) (by first | rfl | assumption | omega | (simp only [*, Bool.not_false, Bool.not_true]; first | done | fail) | (simp [*]; first | done | fail)) ?_ | refine aw_block ?_ | refine aw_region T0ok cfU_ok (by rfl) ?_ | refine aw_skip ?_ | refine aw_exit ?_ | refine ra_step ?_))); exact hh.out)) : G := h ⟨k⟩
theorem ga_DWJ {H G : Prop} (k : H) (h : Hid H → G := by (intro hh; (first | refine r_none ?_ | refine r_gt (by rfl) (by rfl) (by first | rfl | assumption | omega | (simp only [*, Bool.not_false, Bool.not_true]; first | done | fail) | (simp [*]; first | done | fail)) (by rfl) ?_ | refine r_gf (by rfl) (by rfl) (by first | rfl | assumption | omega | (simp only [*, Bool.not_false, Bool.not_true]; first | done | fail) | (simp [*]; first | done | fail)) (by rfl) ?_); refine z_op (by rfl) ?_; refine z_alV ?_ hh.out; focus (first | exact trivial | fail | exact rfl | (first | omega | (simp only [List.length_append, List.length_replicate, List.length_cons, List.length_nil, List.length_set, List.length_take, List.length_drop, true_and]; omega)) | exact cvB (fun w => rfl) | ((repeat' (first | exact rfl | exact cV_len _ | exact cV_ln rfl (by omega) | exact Cel.pos | omega | exact trivial | refine And.intro ?_ ?_)); done) | (simp [*]; done) | (simp; omega)))) : G := h ⟨k⟩
set_option maxHeartbeats 2000000 in
theorem k_lawJT2 (l : List UInt8) : Kon Tryz.prog 5 [roA l] [] (vB true) [] [] := by
  rcases Nat.lt_or_ge 1048576 l.length with h0 | h0
  · have hd : decide ((l.length : Int) > 1048576) = true := decide_eq_true (by omega)
    (refine kon_mk T0ok (fn := Tryz.f5) (c := Tryz.f5.body.get rfl) Tryz.func5 rfl (by rfl) (by rfl) (by rfl) ?_; intro hfit hfe)
    (repeat (first | refine gq_DWJ ?_ | (refine ga_DWJ ?_; intro _hq)))
    ((try refine aw_ret ?_); refine ret_auto2 (by rfl) (by rfl) (by rfl) (by repeat (first | exact trivial | refine ⟨by first | rfl | omega, ?_⟩)) ?_ (by repeat (first | exact trivial | refine ⟨by rfl, by rfl, ?_⟩)) (by repeat (first | exact trivial | refine ⟨by rfl, by rfl, ?_⟩)); try rfl)
  have hd : decide ((l.length : Int) > 1048576) = false := decide_eq_false (by omega)
  obtain ⟨ds, hdl, hD⟩ := ex_dJT l (by omega)
  have hI := k_jtI ds (by omega)
  have hS := k_jtS ds (by omega)
  have hM := k_sameDs ds (by omega)
  by_cases ht : jtx ds = []
  · rw [ht] at hI hS
    (refine kon_mk T0ok (fn := Tryz.f5) (c := Tryz.f5.body.get rfl) Tryz.func5 rfl (by rfl) (by rfl) (by rfl) ?_; intro hfit hfe)
    (repeat (first | refine gq_DWJ ?_ | (refine ga_DWJ ?_; intro _hq)))
    ((try refine aw_ret ?_); refine ret_auto2 (by rfl) (by rfl) (by rfl) (by repeat (first | exact trivial | refine ⟨by first | rfl | omega, ?_⟩)) ?_ (by repeat (first | exact trivial | refine ⟨by rfl, by rfl, ?_⟩)) (by repeat (first | exact trivial | refine ⟨by rfl, by rfl, ?_⟩)); try rfl)
  · have hj : jall ds = true := by
      cases h : jall ds with
      | true => rfl
      | false => exact absurd (by unfold jtx; rw [h]; rfl) ht
    have e : jtx ds = jt ds := by unfold jtx; rw [hj, if_pos rfl]
    have hln := (jt_len ds).2
    have hR := k_rjI2 (jt ds) (by omega) ds _ (jr_all hj)
    rw [e] at hI hS ht
    have h1 : (jt ds == []) = false := by rw [beq_eq_false_iff_ne]; exact ht
    clear e hj ht
    generalize jt ds = t at *
    have h2 : (t != t) = false := by simp
    have h3 : ((t.length : Int) == (t.length : Int)) = true := by simp
    have hK : Kon Tryz.prog 5 [roA l] [] (vB ((t.length : Int) == (t.length : Int))) [] [] := by
      (refine kon_mk T0ok (fn := Tryz.f5) (c := Tryz.f5.body.get rfl) Tryz.func5 rfl (by rfl) (by rfl) (by rfl) ?_; intro hfit hfe)
      (repeat (first | refine gq_DWJ ?_ | (refine ga_DWJ ?_; intro _hq)))
      ((try refine aw_ret ?_); refine ret_auto2 (by rfl) (by rfl) (by rfl) (by repeat (first | exact trivial | refine ⟨by first | rfl | omega, ?_⟩)) ?_ (by repeat (first | exact trivial | refine ⟨by rfl, by rfl, ?_⟩)) (by repeat (first | exact trivial | refine ⟨by rfl, by rfl, ?_⟩)); try rfl)
    rw [h3] at hK
    exact hK
end Go.Proofs.YtgphlcdinejmdaaGreatDoor
