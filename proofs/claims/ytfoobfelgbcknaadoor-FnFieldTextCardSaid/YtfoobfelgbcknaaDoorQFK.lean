/- FTD: laid into one text. -/
import Derived.Test.YtfoobfelgbcknaaDoorQFE
import Derived.Test.YtfoobfelgbcknaaDoorQFH
import Derived.Test.YtfoobfelgbcknaaDoorQFJ
import Derived.Shelf.RegionOpen
import Derived.BigRegionIn
import Derived.BigCall

namespace Go.Proofs.YtfoobfelgbcknaaDoor
set_option linter.unusedVariables false
set_option linter.unusedSimpArgs false
open Go.RowKit Go.Shelf
attribute [local go_sem] Oper.semAt_some
theorem ck_stops (F : Fence) (n : Nat) (h7 : F.fn 41) (hro : F.round = none) (hn : 1 ≤ n) (B1 B2 n₀ b off m s N cap : Nat) (hs : 0 < s ∧ s ≤ 8) (hN : m * s = N) (hN2 : N ≤ 64) (hcap : N ≤ cap ∧ cap ≤ maxLen) (w : World) (hB1 : Boxed w B1 23 (.slice (some ⟨b, off, none⟩) N cap)) (hB2 : Boxed w B2 3 (.int .i64 s)) :
    SeqStopsK F n Tryd.prog 41 #[.pointer (some ⟨B1, 0, none⟩), .pointer (some ⟨B2, 0, none⟩)] (fun x : Fin m => #[chV b off s x.val]) (KC n₀ B1 B2) (fun ys => ys = fr m m (Nat.le_refl _)) (fun pre => ∃ k, ∃ h : k ≤ m, pre = fr m k h) m w := fun l J Jx W hW hJ _ hY h0 => by
  have hb1 : Boxed W B1 _ _ := (hW.block B1 hB1.lt).trans hB1
  have hb2 : Boxed W B2 _ _ := (hW.block B2 hB2.lt).trans hB2
  exact ck1_in F n h7 hro hn l B1 B2 n₀ b off m s N cap hs hN hN2 hcap J Jx (fun ys V h => hJ ys V _ none h ⟨rfl, rfl, rfl, Nat.le_refl _, fun _ _ _ => rfl⟩ (fun r e => by cases e)) hY W hb1 hb2 h0
set_option maxHeartbeats 1000000 in
theorem ck_in (F : Fence) (n : Nat) (h5 : F.fn 21) (hro : F.round = none) (a : Option Addr) (len cap s : Nat) (hs : 0 < s ∧ s ≤ 8) (w : World) :
    CallsIn F n Tryd.prog 21 #[.slice a len cap, .int .i64 s] w fun e w' => e = .returned (.func (.func 41) #[] #[.pointer (some ⟨w.heap.size, 0, none⟩), .pointer (some ⟨w.heap.size + 1, 0, none⟩)]) ∧ w' = (w.alloc (.cells #[.slice a len cap] 23)).alloc (.cells #[.int .i64 s] 3) := by
  refine callsIn_of_wp Tryd.func21 rfl h5 ?_ hro
  simp only [Tryd.ntmps21, List.size_toArray, List.length_cons, List.length_nil, Nat.reduceAdd, Nat.reduceSub, Array.replicate_succ, Array.replicate_zero, List.push_toArray, List.append_toArray, List.nil_append, List.cons_append]
  gi_wp2
  go_ret
  exact ⟨rfl, rfl⟩
theorem wpOp_append {F : Fence} {n : Nat} {P : Program} {w w' : World} {o : Oper} {a : Act} {K : Act → World → Prop} {Q : Exit → Act → World → Prop} (s x : Operand) (t : TypeId) (hop : o.op = Op.call { callee := Callee.builtin Builtin.append, args := #[s, x], argTypes := #[t, t] }) {v v' sl : Value} (hs : a.eval s = v) (hx : a.eval x = sl)
    (hrun : (Builtin.append_ #[t, t] o.type #[v, sl]).run P w = .ok v' w') (hK : K (a.put o.dst v') w') : Oper.wpIn F n P o a w K Q := by
  unfold Oper.wpIn
  refine ⟨?_, ?_⟩
  · simp [Oper.about, hop, resolve, Target.leads, Sem.run_pure]
  · rw [Oper.semAt_plain F _ _ (by rw [hop]; intro c hc'; cases hc')]
    simp [execOp, hop, resolve, invoke, builtin, hs, hx, hrun, Result.andThen]
    exact hK
theorem own_below {W W' : World} {n₀ : Nat} {e : TypeId} {sz : Nat} {v : Value} {k : Nat} {xs : List Value} (h : W.ownsRow n₀ e sz v k xs) (hb : Below W.heap.size W W') : W'.ownsRow n₀ e sz v k xs :=
  ⟨h.1, h.2.imp id fun ⟨g, cap, cur, h1, h2, h3, h4⟩ => ⟨g, cap, cur, h1, h2, (hb.block g (Array.getElem?_eq_some_iff.1 h3).1).trans h3, h4⟩⟩
theorem field_rep {w : World} {s : Nat} {l : List Bool} {bb : Bool} {N b off cap : Nat} (hl : l.length = N) (hcap : N ≤ cap ∧ cap ≤ maxLen) (hb : b < w.heap.size) (hc : ∀ j, j < N → w.cell? ⟨b, off + j, none⟩ = some (.bool (l.getD j false))) : Rep0 w (fAx (s : Int) l bb) (.agg #[.int .i64 s, .slice (some ⟨b, off, none⟩) N cap, .bool bb]) := by
  refine ⟨_, rfl, rfl, ?_⟩
  intro j c hj
  rcases j with _ | _ | _ | j
  · cases hj; exact ⟨_, rfl, rfl, rfl⟩
  · cases hj
    refine ⟨.slice (some ⟨b, off, none⟩) N cap, rfl, ⟨by rw [cV_len]; rfl, cV_one l⟩, some ⟨b, off, none⟩, cap, by rw [hl], by rw [hl]; exact hcap.1, hcap.2, fun _ => ⟨b, off, rfl, hb, ?_⟩⟩
    intro j x hx
    have hjl : j < l.length := by
      have := (List.getElem?_eq_some_iff.1 hx).1
      rw [cV_len] at this
      simpa [Cel.sz] using this
    have h2 := cV_cell (l := l) (j := j) (o := 0) hjl (v := .bool (l.getD j false)) rfl
    rw [show j * Cel.sz Bool + 0 = j from Nat.mul_one j] at h2
    have e : x = .bool (l.getD j false) := by
      have := hx.symm.trans h2
      exact Option.some.inj this
    rw [e]
    exact hc j (by omega)
  · cases hj; exact ⟨_, rfl, rfl, rfl⟩
  · simp at hj
set_option maxRecDepth 100000 in
set_option maxHeartbeats 4000000 in
theorem ft_in (F : Fence) (hro : F.round = none) (hfn : ∀ f, F.fn f) (hw : ∀ {f : FuncId} {args : Array Value} {w : World} {Q : Ending → World → Prop} (m : Nat), Calls Tryd.prog f args w Q → CallsIn F m Tryd.prog f args w Q) (n : Nat) (hn : 5 ≤ n) (s : Nat) (l : List Bool) (bb : Bool) (hs : 0 < s ∧ s ≤ 8) (hok : Fld.ok ⟨(s : Int), l, bb⟩ = true) (N : Nat) (hN : s * s = N) (hN2 : N ≤ 64) (hl : l.length = N) (b off cap : Nat) (hcap : N ≤ cap ∧ cap ≤ maxLen) (w : World) (hgl : Glo w) (hgz : gsz ≤ w.heap.size) (hb : b < w.heap.size) (hc : ∀ j, j < N → w.cell? ⟨b, off + j, none⟩ = some (.bool (l.getD j false))) :
    CallsIn F n Tryd.prog 7 #[.agg #[.int .i64 s, .slice (some ⟨b, off, none⟩) N cap, .bool bb]] w fun e w' => e = .returned (.string (str (ftx ⟨(s : Int), l, bb⟩))) ∧ Below w.heap.size w w' := by
  have h1 : 1 ≤ n := by omega
  obtain ⟨i0, hi, iz0, iz1, iz2⟩ := info_parts infoG
  have hn2 : 1 ≤ n - 1 - 1 := by omega
  have h9 := hfn 9
  have h21 := hfn 21
  have h41 := hfn 41
  have hWB := hfn 22
  have hST := hfn 23
  have hBA := hfn 25
  have hJO := hfn 24
  have hrep := field_rep (s := s) (bb := bb) hl hcap hb hc
  have hVal : Kon Tryd.prog 9 [fAx (s : Int) l bb] [] (vB true) [] [] := by
    have := Kon.of con_valid (cValid_at (s : Int) l bb)
    rw [hok] at this
    exact this
  have hV : ∀ W, Below w.heap.size w W → CallsIn F (n - 1) Tryd.prog 9 #[.agg #[.int .i64 s, .slice (some ⟨b, off, none⟩) N cap, .bool bb]] W fun e w' => e = .returned (.bool true) ∧ Below W.heap.size W w' := fun W hW => by
    refine hw _ ((calls_of_kon hVal rfl ?_ (hgl.keep fun b hb => hW.block b (by omega)) (Nat.le_trans hgz hW.size)).mono ?_)
    · intro j a hj
      rcases j with _ | j
      · cases hj; exact ⟨_, rfl, rep0_below hrep hW⟩
      · simp at hj
    · rintro e w' ⟨v, β, G, ok, rfl, hr, hb⟩
      rw [show v = .bool true from hr.1]
      exact ⟨rfl, hb⟩
  refine callsIn_of_wp_marks Tryd.func7 rfl (hfn _) ?_ hro
  simp only [Tryd.ntmps7, List.size_toArray, List.length_cons, List.length_nil, Nat.reduceAdd, Nat.reduceSub, Array.replicate_succ, Array.replicate_zero, List.push_toArray, List.append_toArray, List.nil_append, List.cons_append]
  have hb0 := (Below.refl w.heap.size w).alloc (Nat.le_refl _) (.cells #[.int .i64 s, .slice (some ⟨b, off, none⟩) N cap, .bool bb] 25)
  have hf0 : (w.alloc (.cells #[.int .i64 s, .slice (some ⟨b, off, none⟩) N cap, .bool bb] 25)).heap[w.heap.size]? = some (.cells #[.int .i64 s, .slice (some ⟨b, off, none⟩) N cap, .bool bb] 25 (0, 0)) := World.alloc_heap_new w _
  gi_wp2_with (gi_at_call 9; refine (hV _ hb0).mono ?_)
  rintro e W1 ⟨rfl, b1⟩
  have hf1 := (b1.block w.heap.size (by simp)).trans hf0
  have hb1 := hb0.trans (b1.mono hb0.size)
  have hs1 : w.heap.size + 1 ≤ W1.heap.size := by have := b1.size; simp at this; exact this
  have c0 : W1.cell? ⟨w.heap.size, 0, none⟩ = some (.int .i64 s) := by simp [World.cell?, hf1]
  have c1 : W1.cell? ⟨w.heap.size, 1, none⟩ = some (.slice (some ⟨b, off, none⟩) N cap) := by simp [World.cell?, hf1]
  have c2 : W1.cell? ⟨w.heap.size, 2, none⟩ = some (.bool bb) := by simp [World.cell?, hf1]
  obtain ⟨W2, hW2⟩ : ∃ W2, (W1.alloc (.cells #[] 9)).alloc (.cells #[.slice (some ⟨W1.heap.size, 0, none⟩) 0 0] 40) = W2 := ⟨_, rfl⟩
  have b2 : Below W1.heap.size W1 W2 := by rw [← hW2]; exact ((Below.refl _ W1).alloc (Nat.le_refl _) _).alloc (by simp) _
  have d0 : W2.cell? ⟨w.heap.size, 0, none⟩ = some (.int .i64 s) := (b2.cell (p := ⟨w.heap.size, 0, none⟩) (by dsimp only; omega)).trans c0
  have d1 : W2.cell? ⟨w.heap.size, 1, none⟩ = some (.slice (some ⟨b, off, none⟩) N cap) := (b2.cell (p := ⟨w.heap.size, 1, none⟩) (by dsimp only; omega)).trans c1
  gi_wp2_with (gi_at_call 21; refine (ck_in F (n - 1) h21 hro _ _ _ s hs _).mono ?_; rintro e w' ⟨rfl, rfl⟩)
  obtain ⟨W3, hW3⟩ : ∃ W3, (W2.alloc (.cells #[.slice (some ⟨b, off, none⟩) N cap] 23)).alloc (.cells #[.int .i64 s] 3) = W3 := ⟨_, rfl⟩
  have hz2 : W2.heap.size = W1.heap.size + 2 := by rw [← hW2]; simp
  have hz3 : W3.heap.size = W1.heap.size + 4 := by rw [← hW3]; simp; omega
  have b3 : Below W2.heap.size W2 W3 := by rw [← hW3]; exact ((Below.refl _ W2).alloc (Nat.le_refl _) _).alloc (by simp) _
  have bO2 : Boxed W2 (W1.heap.size + 1) 40 (.slice (some ⟨W1.heap.size, 0, none⟩) 0 0) := by
    have := Boxed.new (W1.alloc (.cells #[] 9)) 40 (.slice (some ⟨W1.heap.size, 0, none⟩) 0 0)
    rw [hW2, World.size_alloc] at this
    exact this
  have bO : Boxed W3 (W1.heap.size + 1) 40 (.slice (some ⟨W1.heap.size, 0, none⟩) 0 0) := (b3.block _ (by omega)).trans bO2
  have bR : W3.ownsRow W1.heap.size 9 1 (.slice (some ⟨W1.heap.size, 0, none⟩) 0 0) 0 [] := by
    rw [← hW3, ← hW2]
    refine World.ownsRow.alloc (World.ownsRow.alloc (World.ownsRow.alloc ⟨rfl, .inr ⟨_, 0, #[], rfl, Nat.le_refl _, World.alloc_heap_new W1 _, Nat.zero_le _, Nat.zero_le _, rfl, rfl⟩⟩ _) _) _
  have bB1 : Boxed W3 W2.heap.size 23 (.slice (some ⟨b, off, none⟩) N cap) := by
    rw [← hW3]; exact (Boxed.new W2 _ _).alloc _
  have bB2 : Boxed W3 (W2.heap.size + 1) 3 (.int .i64 s) := by
    have := Boxed.new (W2.alloc (.cells #[.slice (some ⟨b, off, none⟩) N cap] 23)) 3 (.int .i64 s)
    rw [hW3, World.size_alloc] at this
    exact this
  have hB0 : Below W1.heap.size W1 W3 := b2.trans (b3.mono b2.size)
  rw [hz2] at bB1 bB2
  rw [hW3, hz2]
  clear hW3 hW2
  refine wpIn_rangeFunc_ownH hro h1 (gf := 41) (lb := #[.pointer (some ⟨W1.heap.size + 2, 0, none⟩), .pointer (some ⟨W1.heap.size + 2 + 1, 0, none⟩)]) rfl h41 (Go.Proofs.enters_of Tryd.func41 (by kernel_rfl) rfl)
    (ck_stops F (n - 1) h41 hro (by omega) (W1.heap.size + 2) ((W1.heap.size + 2) + 1) W1.heap.size b off s s N cap hs hN hN2 hcap W3 bB1 bB2) KC.trans (KC_b (by omega)) (Below.refl _ _) (fun _ => rfl)
    (fun pre W => (((∃ v, Boxed W (W1.heap.size + 1) 40 v ∧ W.ownsRow W1.heap.size 9 1 v pre.length (cV (pre.map (fun x => rowP l s x.val))) ∧ True) ∧ Boxed W (W1.heap.size + 2) 23 (.slice (some ⟨b, off, none⟩) N cap)) ∧ Boxed W ((W1.heap.size + 2) + 1) 3 (.int .i64 s)) ∧ Below W1.heap.size W1 W)
    (fun _ _ _ => False)
    (OwnFrom.and (OwnFrom.and (OwnFrom.and (Own.from (holdsRow_own W1.heap.size (W1.heap.size + 1) 40 9 1 (fun (pre : List (Fin s)) => pre.length) (fun pre => cV (pre.map (fun x => rowP l s x.val))) (fun _ _ => True)) _) (Own.from (boxed_own _ _ _) _)) (Own.from (boxed_own _ _ _) _)) (ownFrom_below (Nat.le_refl _) (by omega)))
    (fun _ _ _ _ _ hs _ _ => hs)
    ⟨⟨⟨⟨_, bO, bR, trivial⟩, bB1⟩, bB2⟩, hB0⟩
    (fun x a' W => a' = { tmps := #[.agg #[.int .i64 s, .slice (some ⟨b, off, none⟩) N cap, .bool bb], .pointer (some ⟨w.heap.size, 0, none⟩), .string ⟨#[]⟩, .pointer (some ⟨W1.heap.size + 1, 0, none⟩), chV b off s x.val, undef, undef, undef, undef, .agg #[.int .i64 s, .slice (some ⟨b, off, none⟩) N cap, .bool bb], .bool true, .bool false, .slice (some ⟨W1.heap.size, 0, none⟩) 0 0, .pointer (some ⟨w.heap.size, 1, none⟩), .slice (some ⟨b, off, none⟩) N cap, .pointer (some ⟨w.heap.size, 0, none⟩), .int .i64 s, .func (.func 41) #[] #[.pointer (some ⟨W1.heap.size + 2, 0, none⟩), .pointer (some ⟨W1.heap.size + 2 + 1, 0, none⟩)], chV b off s x.val, undef, undef, undef, undef, undef, undef, undef, undef, undef, undef, undef, undef, undef, undef, undef, undef, undef, undef, undef, undef, undef, undef], defers := [] })
    (fun x a' _ X Y row hs hg hr => hs)
    ?assign ?body ?done ?stop
  case assign =>
    rintro lp pre x W K ⟨⟨⟨⟨v, bO1, bR1, _⟩, bB1'⟩, bB2'⟩, hB1⟩ hK
    gi_wp2
    exact hK _ _ ((KeepsOthers.refl _).from _) (KC.refl _ _ _ _) ⟨⟨⟨⟨_, bO1, bR1, trivial⟩, bB1'⟩, bB2'⟩, hB1⟩ rfl
  case body =>
    rintro lp pre x a' W hlp ⟨r, hr⟩ ⟨⟨⟨⟨v, bO1, bR1, _⟩, bB1'⟩, bB2'⟩, hB1⟩ rfl hlt
    have hws : w.heap.size + 1 ≤ W.heap.size := Nat.le_trans hs1 hB1.size
    have hcell : ∀ k, k < s → W.cell? ⟨b, off + x.val * s + k, none⟩ = some (.bool (l.getD (x.val * s + k) false)) := by
      intro k hk
      have hxs : x.val * s + k < N := by
        have := Nat.mul_le_mul_right s (show x.val + 1 ≤ s from x.isLt)
        rw [Nat.add_mul, Nat.one_mul, hN] at this
        omega
      have e1 := hc (x.val * s + k) hxs
      rw [← Nat.add_assoc] at e1
      rw [hB1.cell (p := ⟨b, off + x.val * s + k, none⟩) (by dsimp only; omega), hb1.cell (p := ⟨b, off + x.val * s + k, none⟩) hb]
      exact e1
    have hrow : ∀ k, k < s → (rowP l s x.val).take (k + 1) = (rowP l s x.val).take k ++ [cb (l.getD (x.val * s + k) false)] := fun k hk => rowP_snoc hk (by
      have := Nat.mul_le_mul_right s (show x.val + 1 ≤ s from x.isLt)
      rw [Nat.add_mul, Nat.one_mul, hN] at this
      omega)
    have hrl := rowP_len (l := l) (s := s) (y := x.val)
    gi_wp2
    gi_loopw [21] (fun i wr => ∃ k : Nat, k ≤ s ∧ i = .int .i64 k ∧ Lib.IsBuilderF tB tu8 W.heap.size W.heap.size (Lib.byteCells ((rowP l s x.val).take k)) wr ∧ Below W.heap.size W wr ∧ W.heap.size + 1 ≤ wr.heap.size) (fun i _ => s - (intOf i).toNat)
    case atStart =>
      exact ⟨0, Nat.zero_le _, rfl, Lib.IsBuilderF.of (Lib.fresh_isBuilder tB tu8 W), (Below.refl _ W).alloc (Nat.le_refl _) _, by simp⟩
    case round =>
      obtain ⟨k, hk, rfl, hI, hbw, hsz⟩ := hrel
      by_cases hlk : k < s
      · have hck := (hbw.cell (p := ⟨b, off + x.val * s + k, none⟩) (by dsimp only; omega)).trans (hcell k hlk)
        have hrk := hrow k hlk
        obtain ⟨c, hcv⟩ : ∃ c, l.getD (x.val * s + k) false = c := ⟨_, rfl⟩
        rw [hcv] at hck hrk
        have hle : (Lib.byteCells ((rowP l s x.val).take k)).length + 1 ≤ 140737488355328 := by
          rw [Lib.byteCells_length, List.length_take]; omega
        have hws2 : W.heap.size ≤ wr.heap.size := by omega
        clear hcv
        cases c with
        | true =>
          gi_wp2_with (gi_at_call 22; refine (CallsIn.inRound lp (hw _ (bk_byteW W.heap.size W.heap.size _ 111 _ hI hle hws2))).mono ?_)
          rintro e W4 ⟨rfl, h4, b4, k4⟩
          rw [show (Lib.byteCells ((rowP l s x.val).take k) ++ [Value.int .u8 111]) = Lib.byteCells ((rowP l s x.val).take (k + 1)) by rw [hrk, Lib.byteCells_append]; rfl] at h4
          gi_wp2
          go_roundw
          case rel => exact ⟨k + 1, by omega, by go_num, Or.inr h4, hbw.trans b4, Nat.le_trans hsz b4.size⟩
          case measure => simp [intOf]; omega
        | false =>
          gi_wp2_with (gi_at_call 22; refine (CallsIn.inRound lp (hw _ (bk_byteW W.heap.size W.heap.size _ 46 _ hI hle hws2))).mono ?_)
          rintro e W4 ⟨rfl, h4, b4, k4⟩
          rw [show (Lib.byteCells ((rowP l s x.val).take k) ++ [Value.int .u8 46]) = Lib.byteCells ((rowP l s x.val).take (k + 1)) by rw [hrk, Lib.byteCells_append]; rfl] at h4
          gi_wp2
          go_roundw
          case rel => exact ⟨k + 1, by omega, by go_num, Or.inr h4, hbw.trans b4, Nat.le_trans hsz b4.size⟩
          case measure => simp [intOf]; omega
      · have hks : s = k := by omega
        subst hks
        rw [rowP_all] at hI
        have hId : Lib.IsBuilderF tB tu8 W.heap.size W.heap.size (Lib.byteCells (rowP l s x.val)) wr.drew := hI
        have hle : (Lib.byteCells (rowP l s x.val)).length ≤ 140737488355328 := by rw [Lib.byteCells_length]; omega
        have bOd : Boxed wr.drew (W1.heap.size + 1) 40 v := (hbw.block _ bO1.lt).trans bO1
        have bRd : wr.drew.ownsRow W1.heap.size 9 1 v pre.length (cV (pre.map (fun x => rowP l s x.val))) := own_below bR1 hbw.drew
        have cOd := bOd.cell
        have hOW := bO1.lt
        have hws3 : W.heap.size ≤ wr.drew.heap.size := Nat.le_trans (Nat.le_succ _) hsz
        have hmx : Tryd.prog.follows .mixedOrders = true := by kernel_rfl
        have hfin : ∀ W5, Below W.heap.size wr.drew W5 → W5.cell? ⟨W1.heap.size + 1, 0, none⟩ = some v ∧ ∃ (g6 c6 : Nat) (w6 : World), (Builtin.append_ #[40, 40] 40 #[v, .slice (some ⟨W5.heap.size, 0, none⟩) 1 1]).run Tryd.prog (W5.alloc (.cells #[.string (str (rowP l s x.val))] 9)) = .ok (.slice (some ⟨g6, 0, none⟩) (pre.length + 1) c6) w6 ∧ w6.cell? ⟨W1.heap.size + 1, 0, none⟩ = some v ∧ w6.frozen? ⟨W1.heap.size + 1, 0, none⟩ = false ∧ (KC W1.heap.size (W1.heap.size + 2) (W1.heap.size + 2 + 1) W (w6.setCell ⟨W1.heap.size + 1, 0, none⟩ (.slice (some ⟨g6, 0, none⟩) (pre.length + 1) c6)) ∧ KeepsFrom W3.heap.size W (w6.setCell ⟨W1.heap.size + 1, 0, none⟩ (.slice (some ⟨g6, 0, none⟩) (pre.length + 1) c6)) ∧ (∃ v, Boxed (w6.setCell ⟨W1.heap.size + 1, 0, none⟩ (.slice (some ⟨g6, 0, none⟩) (pre.length + 1) c6)) (W1.heap.size + 1) 40 v ∧ (w6.setCell ⟨W1.heap.size + 1, 0, none⟩ (.slice (some ⟨g6, 0, none⟩) (pre.length + 1) c6)).ownsRow W1.heap.size 9 1 v (pre ++ [x]).length (cV ((pre ++ [x]).map (fun x => rowP l s x.val))) ∧ True)) := by
          intro W5 b5
          have hW5 : Below W.heap.size W W5 := hbw.drew.trans b5
          have bO5 : Boxed W5 (W1.heap.size + 1) 40 v := (b5.block _ bO1.lt).trans bOd
          have kb : ∀ {B : Nat} {t : TypeId} {u : Value}, Boxed W B t u → Boxed W5 B t u := fun b => (hW5.block _ b.lt).trans b
          have bR5 : W5.ownsRow W1.heap.size 9 1 v pre.length (cV (pre.map (fun x => rowP l s x.val))) := own_below bR1 hW5
          have hs5 : W1.heap.size ≤ W5.heap.size := Nat.le_trans hB1.size hW5.size
          have hpl : pre.length < 8 := by omega
          obtain ⟨v6, w6, hrun, hown, hgrow, _⟩ := run_append_own (P := Tryd.prog) (W5.alloc (.cells #[.string (str (rowP l s x.val))] 9)) W1.heap.size 40 40 9 i0 (svl []) 1 16 Tryd.underlying40 hi iz0 iz1 iz2 rfl (by decide) v pre.length _ (bR5.alloc _) ⟨W5.heap.size, 0, none⟩ 1 1 [svl (rowP l s x.val)] rfl (cells1_new _ _ _) (by simp [Value.oneCell']) (by simp [maxLen]; omega) (by omega) (by simp; omega)
          obtain ⟨g', cap', rfl⟩ := ownsRow_succ hown
          obtain ⟨hv1, hv2, hr2, hk2, hb2⟩ := bO5.appended (by decide) bR5 hs5 (by omega) hown hgrow
          refine ⟨bO5.cell, g', cap', w6, hrun, hv1.cell, hv1.frozen, ⟨(hW5.mono hB1.size).trans hb2, fun u b => (((kb b).alloc _).kept hgrow ((kb b).not_row (by decide) bR5)).other (by omega) _, fun u b => (((kb b).alloc _).kept hgrow ((kb b).not_row (by decide) bR5)).other (by omega) _⟩, KeepsOthers.from (KeepsOthers.trans ⟨hW5.size, fun k o hk _ => (hW5.block k (Array.getElem?_eq_some_iff.1 hk).1).trans hk⟩ hk2) _, ⟨_, hv2, ?_, trivial⟩⟩
          simp only [List.map_append, List.length_append, ← cV_append]
          exact hr2
        gi_wp2
        refine wpIn_region_any hmx ?_
        change wpAnyIn _ _ _ _ _ _ _ _ _ (World.drew _)
        refine wpAnyIn_ready (rs := [0, 1]) (by kernel_rfl) (by simp) ?_
        refine AllReadyIn.cons rfl (fun K hK => ?_) (AllReadyIn.cons rfl (fun K hK => ?_) AllReadyIn.nil)
        · go_simp
          refine hK _ _ ?_
          clear hK K
          refine wpAnyIn_ready (rs := [1]) (by kernel_rfl) (by simp) ?_
          refine AllReadyIn.cons rfl (fun K hK => ?_) AllReadyIn.nil
          go_simp
          gi_wp2_with (gi_at_call 23; refine (CallsIn.inRound lp (hw _ (Tryd.Builder_String_any_k W.heap.size W.heap.size (rowP l s x.val) _ hId hws3))).mono ?_; rintro e W5 ⟨rfl, _, b5, _⟩; have hx5 := hfin W5 b5; obtain ⟨cO5, g6, c6, w6, hrun6, hc6, hf6, hk6⟩ := hx5; have hs5 := b5.size)
          refine wpAnyIn_ready (rs := [2]) (by kernel_rfl) (by simp) ?_
          refine AllReadyIn.cons rfl (fun K hK => ?_) AllReadyIn.nil
          go_simp
          refine hK _ _ ?_
          clear hK K
          refine wpAnyIn_ready (rs := [3]) (by kernel_rfl) (by simp) ?_
          refine Go.BigFrame.allReadyIn_want rfl (by simp [Region.wanted]) (fun K hK => ?_) AllReadyIn.nil
          refine wpOp_append (.tmp 29) (.tmp 31) 40 rfl (by rfl) (by rfl) hrun6 ?_
          refine hK _ _ ?_
          clear hK K
          refine wpAnyIn_ready (rs := [4]) (by kernel_rfl) (by simp) ?_
          refine AllReadyIn.cons rfl (fun K hK => ?_) AllReadyIn.nil
          go_simp
          refine hK _ _ ?_
          clear hK K
          refine wpAnyIn_done (by kernel_rfl) ?_ _
          gi_wp2
          exact ⟨hk6.2.1, hk6.1, ⟨⟨⟨hk6.2.2, hk6.1.2.1 _ bB1'⟩, hk6.1.2.2 _ bB2'⟩, hB1.trans hk6.1.1⟩⟩
        · go_simp
          gi_wp2_with (gi_at_call 23; refine (CallsIn.inRound lp (hw _ (Tryd.Builder_String_any_k W.heap.size W.heap.size (rowP l s x.val) _ hId hws3))).mono ?_; rintro e W5 ⟨rfl, _, b5, _⟩; have hx5 := hfin W5 b5; obtain ⟨cO5, g6, c6, w6, hrun6, hc6, hf6, hk6⟩ := hx5; have hs5 := b5.size)
          refine wpAnyIn_ready (rs := [0, 2]) (by kernel_rfl) (by simp) ?_
          refine AllReadyIn.cons rfl (fun K hK => ?_) (AllReadyIn.cons rfl (fun K hK => ?_) AllReadyIn.nil)
          · go_simp
            refine hK _ _ ?_
            clear hK K
            refine wpAnyIn_ready (rs := [2]) (by kernel_rfl) (by simp) ?_
            refine AllReadyIn.cons rfl (fun K hK => ?_) AllReadyIn.nil
            go_simp
            refine hK _ _ ?_
            clear hK K
            refine wpAnyIn_ready (rs := [3]) (by kernel_rfl) (by simp) ?_
            refine Go.BigFrame.allReadyIn_want rfl (by simp [Region.wanted]) (fun K hK => ?_) AllReadyIn.nil
            refine wpOp_append (.tmp 29) (.tmp 31) 40 rfl (by rfl) (by rfl) hrun6 ?_
            refine hK _ _ ?_
            clear hK K
            refine wpAnyIn_ready (rs := [4]) (by kernel_rfl) (by simp) ?_
            refine AllReadyIn.cons rfl (fun K hK => ?_) AllReadyIn.nil
            go_simp
            refine hK _ _ ?_
            clear hK K
            refine wpAnyIn_done (by kernel_rfl) ?_ _
            gi_wp2
            exact ⟨hk6.2.1, hk6.1, ⟨⟨⟨hk6.2.2, hk6.1.2.1 _ bB1'⟩, hk6.1.2.2 _ bB2'⟩, hB1.trans hk6.1.1⟩⟩
          · go_simp
            refine hK _ _ ?_
            clear hK K
            have hlt5 : W1.heap.size + 1 < W5.heap.size := Nat.lt_of_lt_of_le hOW (Nat.le_trans hws3 hs5)
            refine wpAnyIn_ready (rs := [0]) (by kernel_rfl) (by simp) ?_
            refine AllReadyIn.cons rfl (fun K hK => ?_) AllReadyIn.nil
            go_simp
            refine hK _ _ ?_
            clear hK K
            refine wpAnyIn_ready (rs := [3]) (by kernel_rfl) (by simp) ?_
            refine Go.BigFrame.allReadyIn_want rfl (by simp [Region.wanted]) (fun K hK => ?_) AllReadyIn.nil
            refine wpOp_append (.tmp 29) (.tmp 31) 40 rfl (by rfl) (by rfl) hrun6 ?_
            refine hK _ _ ?_
            clear hK K
            refine wpAnyIn_ready (rs := [4]) (by kernel_rfl) (by simp) ?_
            refine AllReadyIn.cons rfl (fun K hK => ?_) AllReadyIn.nil
            go_simp
            refine hK _ _ ?_
            clear hK K
            refine wpAnyIn_done (by kernel_rfl) ?_ _
            gi_wp2
            exact ⟨hk6.2.1, hk6.1, ⟨⟨⟨hk6.2.2, hk6.1.2.1 _ bB1'⟩, hk6.1.2.2 _ bB2'⟩, hB1.trans hk6.1.1⟩⟩
  case done =>
    rintro D zs W hD rfl ⟨⟨⟨⟨v, bO1, bR1, _⟩, bB1'⟩, bB2'⟩, hB1⟩ hK
    have cO := bO1.cell
    have hzl : ((fr s s (Nat.le_refl _)).map (fun x => rowP l s x.val)) = (List.range s).map (rowP l s) := fr_map _ _ _ _
    rw [hzl, fr_len] at bR1
    have hLl : s = ((List.range s).map (rowP l s)).length := by rw [List.length_map, List.length_range]
    obtain ⟨A, c, rfl, hH⟩ := own_holds hLl bR1
    have hBk := back_in F (n - 1) hBA (hfn _) (hfn _) hro (by omega) A s c _ (by omega) W hH
    have hrv : ((bwL s (fun j => ((List.range s).map (rowP l s)).getD j [])) s).map (·.2) = ((List.range s).map (rowP l s)).reverse := by
      have := bwL_rev ((List.range s).map (rowP l s))
      rw [← hLl] at this
      exact this
    rw [hrv, rws_eq] at hBk
    have hJl : (Go.Lib.join (rws l s s) [47]).length ≤ 8000000 := by
      rw [rws_join l s s hs.1]
      have h1 := body_len l s s
      rw [Nat.mul_add, hN] at h1
      omega
    have hJb : Go.Lib.join (rws l s s) [47] = bodyP l s s := rws_join l s s hs.1
    have hlr := rws_len l s s
    have hJN := k_join (rws l s s) [47] (by omega) hJl
    clear hLl hzl hrv hH bR1
    generalize hXS : rws l s s = XS at *
    gi_wp2_with (gi_at_call 25; refine hBk.mono ?_)
    rintro e W4 ⟨v4, rfl, hown4, b4⟩
    have hsW := hB1.size
    have hsW4 := b4.size
    have hb4 : Below w.heap.size w W4 := (hb1.trans (hB1.mono (by omega))).trans (b4.mono (by omega))
    have hgl4 : Glo W4 := hgl.keep fun b hb => hb4.block b (by omega)
    have hrep4 := own_ro hlr.symm hown4
    gi_wp2_with (gi_at_call 24; refine (hw _ (calls_of_kon hJN rfl (by
      intro j a hj
      rcases j with _ | _ | j
      · cases hj; exact ⟨_, rfl, hrep4⟩
      · cases hj; exact ⟨_, rfl, rfl, rfl⟩
      · simp at hj) hgl4 (by omega))).mono ?_)
    rintro e W5 ⟨v5, β5, G5, ok5, rfl, hr5, b5⟩
    rw [show v5 = .string (str (Go.Lib.join XS [47])) from hr5.1]
    rw [hJb]
    have hb5 : Below W1.heap.size W1 W5 := (hB1.trans (b4.mono (by omega))).trans (b5.mono (by omega))
    have e2 : W5.cell? ⟨w.heap.size, 2, none⟩ = some (.bool bb) := (hb5.cell (p := ⟨w.heap.size, 2, none⟩) (by dsimp only; omega)).trans c2
    have hDl : D < W.heap.size := (Array.getElem?_eq_some_iff.1 hK).1
    have hK5 : W5.heap[D]? = some (.deferred (some [])) := ((b5.block D (by omega)).trans (b4.block D hDl)).trans hK
    have hw5 : Below w.heap.size w (W5.putObj D (.deferred none)) := ((hb4.trans (b5.mono (by have := hb4.size; omega)))).trans (belowK_b (w := w) (Nat.le_refl _) W5 D _ _ (by omega) hK5 rfl rfl)
    have hft : ftx ⟨(s : Int), l, bb⟩ = (if bb = true then [33] else []) ++ bodyP l s s := by
      unfold ftx; rw [if_pos hok, Int.toNat_natCast]
    clear hJN hXS hJb
    have hbs : (bodyP l s s).length ≤ 72 := by
      have h2 := body_len l s s
      rw [Nat.mul_add, hN] at h2
      omega
    have hadd : (⟨#[33]⟩ : ByteArray) ++ str (bodyP l s s) = str ([33] ++ bodyP l s s) := by
      apply ByteArray.ext
      simp [str]
    cases bb with
    | true =>
      gi_wp2
      refine ⟨by simp, .inl ⟨_, _, rfl, run_takeDeferred hK5, ?_⟩⟩
      refine ⟨_, results_tmp rfl _ _ _, ?_, hw5⟩
      rw [hft]
      rfl
    | false =>
      gi_wp2
      refine ⟨by simp, .inl ⟨_, _, rfl, run_takeDeferred hK5, ?_⟩⟩
      refine ⟨_, results_tmp rfl _ _ _, ?_, hw5⟩
      rw [hft]
      rfl
  case stop =>
    rintro D c pre W _ _ h _
    exact h.elim
end Go.Proofs.YtfoobfelgbcknaaDoor
