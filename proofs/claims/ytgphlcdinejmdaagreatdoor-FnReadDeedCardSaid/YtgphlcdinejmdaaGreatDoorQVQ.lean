/- KMN, KMS, ShlA, DN, DT: laid into one text. -/
import Derived.Test.YtgphlcdinejmdaaGreatDoorQVF
import Derived.Test.YtgphlcdinejmdaaGreatDoorQVG
import Derived.Test.YtgphlcdinejmdaaGreatDoorQVH
import Derived.Test.YtgphlcdinejmdaaGreatDoorQVP
import Derived.Shelf.Lays
import Derived.Shelf.Strconv.Itoa3
import Derived.Shelf.Strings.OnBuilder
import Derived.Test.YtgphlcdinejmdaaGreatDoorProg

/- The draws of benches; the law FnBenchValid. -/
namespace Go.Proofs.YtgphlcdinejmdaaGreatDoor
set_option linter.unusedVariables false
set_option linter.unusedSimpArgs false
set_option maxRecDepth 20000
open Go.RowKit
attribute [local irreducible] runA runX AW
theorem endB_bd (l : List UInt8) (q : Int) (x : BS × Int) (L f : Int) (h : bok L x.1.1 f x.1.2.1 x.1.2.2 = true) : x.2 ≤ (endB l q x).2 ∧ (endB l q x).2 ≤ x.2 + 2 ∧ (∀ b, (endB l q x).1 = some b → b.1.length ≤ 25 ∧ (0 ≤ b.2.1 ∧ b.2.1 ≤ 257) ∧ b.2.2 ≤ 25 ∧ (q ≤ 0 → bok L b.1 f b.2.1 b.2.2 = true)) ∧ (q ≤ 0 → (endB l q x).1 ≠ none) := by
  obtain ⟨⟨gs, w, A⟩, c⟩ := x
  dsimp only at h ⊢
  obtain ⟨q1, q2, q3, q4⟩ := bok_t h
  have hfv := wvB_t q2
  have hw := cr_lt (all_take (cokB_t q1).2.2 ((A : Int).toNat)) ⟨hfv.2.1, hfv.2.2.1⟩
  rw [← q4] at hw
  have h8 := (pow_8 (cokB_t q1).1).2
  have hl := (cokB_t q1).2.1
  unfold endB
  dsimp only
  cases hq : decide (q > 0) with
  | false =>
    have hq2 := of_decide_eq_false hq
    exact ⟨Int.le_refl _, by dsimp only [cond_false]; omega, fun b hb => by cases hb; exact ⟨by dsimp only; omega, by dsimp only; omega, by dsimp only; omega, fun _ => h⟩, fun _ hn => by cases hn⟩
  | true =>
    have hq2 := of_decide_eq_true hq
    dsimp only [cond_true]
    cases (pickI l c q == q - 1) with
    | false => exact ⟨by dsimp only [cond_false]; omega, by dsimp only [cond_false]; omega, fun b hb => by cases hb; exact ⟨by dsimp only; omega, by dsimp only; omega, by dsimp only; omega, fun _ => h⟩, fun hq3 => by omega⟩
    | true =>
      dsimp only [cond_true]
      cases (pickI l (c + 1) 4 == 0) with
      | true => exact ⟨by dsimp only [cond_true]; omega, by dsimp only [cond_true]; omega, fun b hb => by cases hb; exact ⟨by dsimp only; omega, by dsimp only; omega, by dsimp only; omega, fun hq3 => by omega⟩, fun hq3 => by omega⟩
      | false =>
        dsimp only [cond_false]
        cases (pickI l (c + 1) 4 == 1) with
        | true => exact ⟨by dsimp only [cond_true]; omega, by dsimp only [cond_true]; omega, fun b hb => by cases hb; exact ⟨by dsimp only; omega, by dsimp only; omega, by dsimp only; omega, fun hq3 => by omega⟩, fun hq3 => by omega⟩
        | false =>
          dsimp only [cond_false]
          cases (pickI l (c + 1) 4 == 2) with
          | true => exact ⟨by dsimp only [cond_true]; omega, by dsimp only [cond_true]; omega, fun b hb => by cases hb; exact ⟨by simp; omega, by dsimp only; omega, by dsimp only; omega, fun hq3 => by omega⟩, fun hq3 => by omega⟩
          | false => exact ⟨by dsimp only [cond_false]; omega, by dsimp only [cond_false]; omega, fun b hb => (by cases hb), fun hq3 => by omega⟩
theorem ex_bench (l : List UInt8) (c q : Int) (h : 0 ≤ c ∧ c ≤ 80000 ∧ l.length ≤ 2000) (hq : q ≤ 1000) : ∃ (L f : Int) (x : Option BS) (c' : Int), (1 ≤ L ∧ L ≤ 5) ∧ (0 ≤ f ∧ f ≤ 256) ∧ (c ≤ c' ∧ c' ≤ c + 600) ∧ (∀ b, x = some b → b.1.length ≤ 25 ∧ (0 ≤ b.2.1 ∧ b.2.1 ≤ 257) ∧ b.2.2 ≤ 25 ∧ (q ≤ 0 → bok L b.1 f b.2.1 b.2.2 = true)) ∧ (q ≤ 0 → x ≠ none) ∧
    Kon Tryz.prog 20 [p0, vI q] [rdE l c] (oB L f x) (nB x) [rdE l c'] := by
  have hL := tK6_bd l c
  have h2L := pow_8 (n := tK6 l c) (by omega)
  have hpw := pickI_lt (l := l) (c := c + 1) (n := 1 * 2 ^ (tK6 l c).toNat) (by omega)
  have hwv : wvB (tK6 l c) (bwd l (c + 1) (tK6 l c)) = true := by
    unfold wvB btw bwd
    rw [decide_eq_true (by omega), decide_eq_true (by omega), decide_eq_true (by omega), decide_eq_true (by omega)]; rfl
  have hp20 := pickI_lt (l := l) (c := c + 1 + 1) (n := 20) (by omega)
  have hb0 : bok (tK6 l c) (bx0 l c).1.1 (bwd l (c + 1) (tK6 l c)) (bx0 l c).1.2.1 ((bx0 l c).1.2.2 : Nat) = true := bok_mk (by omega) (by simp [bx0]) rfl hwv (Nat.le_refl _) rfl
  have hN := bnN_ok l (tK6 l c) _ (bx0 l c) hb0 (pickI l (c + 1 + 1) 20).toNat
  have hE := endB_bd l q _ (tK6 l c) _ hN.1
  have hc0 : (bx0 l c).2 = c + 1 + 1 + 1 := rfl
  have hfb : 0 ≤ bwd l (c + 1) (tK6 l c) ∧ bwd l (c + 1) (tK6 l c) ≤ 256 := by unfold bwd; omega
  exact ⟨_, _, _, _, by omega, hfb, by omega, hE.2.2.1, hE.2.2.2, k_bench l c q h hq⟩













































































end Go.Proofs.YtgphlcdinejmdaaGreatDoor

/- Drawn lists of deeds; the draw of FnBenchRun. -/
namespace Go.Proofs.YtgphlcdinejmdaaGreatDoor
set_option linter.unusedVariables false
set_option linter.unusedSimpArgs false
set_option maxRecDepth 20000
open Go.RowKit
attribute [local irreducible] runA runX AW
end Go.Proofs.YtgphlcdinejmdaaGreatDoor

/- Contracts of Go's library at this program. -/
namespace Go.Proofs.YtgphlcdinejmdaaGreatDoor
set_option linter.unusedVariables false
open Go.Shelf Go.RowKit Go.Lib
def Tryz.lays156_ren : Go.Shelf.Ren := ⟨fun | 156 => 50 | 165 => 68 | 166 => 39 | 169 => 41 | 240 => 61 | 241 => 88 | 276 => 77 | 277 => 106 | n => n, fun | 31 => 51 | 9 => 9 | 3 => 3 | 4 => 4 | 0 => 0 | 20 => 20 | 72 => 69 | 76 => 57 | 70 => 67 | 37 => 22 | 75 => 56 | 127 => 95 | 164 => 112 | 5 => 5 | 80 => 71 | n => n, fun | n => n⟩
theorem Tryz.lays156 : Go.Proofs.Lays.n156 Tryz.prog Tryz.lays156_ren := {
  mixed := by kernel_rfl
  f156 := Tryz.func50.trans (congrArg some (by kernel_rfl))
  f165 := Tryz.func68.trans (congrArg some (by kernel_rfl))
  f166 := Tryz.func39.trans (congrArg some (by kernel_rfl))
  f169 := Tryz.func41.trans (congrArg some (by kernel_rfl))
  f240 := Tryz.func61.trans (congrArg some (by kernel_rfl))
  f241 := Tryz.func88.trans (congrArg some (by kernel_rfl))
  f276 := Tryz.func77.trans (congrArg some (by kernel_rfl))
  f277 := Tryz.func106.trans (congrArg some (by kernel_rfl))
  t0 := Tryz.underlying0
  a0 := Tryz.isAgg0
  z0 := Tryz.sizeOf0
  v0 := Tryz.zeroValue0
  t3 := Tryz.underlying3
  a3 := Tryz.isAgg3
  z3 := Tryz.sizeOf3
  v3 := Tryz.zeroValue3
  t4 := Tryz.underlying4
  a4 := Tryz.isAgg4
  z4 := Tryz.sizeOf4
  v4 := Tryz.zeroValue4
  t9 := Tryz.underlying9
  a9 := Tryz.isAgg9
  z9 := Tryz.sizeOf9
  v9 := Tryz.zeroValue9
  t20 := Tryz.underlying20
  a20 := Tryz.isAgg20
  z20 := Tryz.sizeOf20
  v20 := Tryz.zeroValue20
  t31 := Tryz.underlying51
  a31 := Tryz.isAgg51
  z31 := Tryz.sizeOf51
  v31 := Tryz.zeroValue51
  t37 := Tryz.underlying22
  a37 := Tryz.isAgg22
  z37 := Tryz.sizeOf22
  v37 := Tryz.zeroValue22
  t70 := Tryz.underlying67
  a70 := Tryz.isAgg67
  z70 := Tryz.sizeOf67
  v70 := Tryz.zeroValue67
  t72 := Tryz.underlying69
  a72 := Tryz.isAgg69
  z72 := Tryz.sizeOf69
  v72 := Tryz.zeroValue69
  t75 := Tryz.underlying56
  a75 := Tryz.isAgg56
  z75 := Tryz.sizeOf56
  v75 := Tryz.zeroValue56
  t76 := Tryz.underlying57
  a76 := Tryz.isAgg57
  z76 := Tryz.sizeOf57
  v76 := Tryz.zeroValue57
  t127 := Tryz.underlying95
  a127 := Tryz.isAgg95
  z127 := Tryz.sizeOf95
  v127 := Tryz.zeroValue95
  t164 := Tryz.underlying112
  a164 := Tryz.isAgg112
  z164 := Tryz.sizeOf112
  v164 := Tryz.zeroValue112 }
theorem Tryz.Builder_Extra_156 : Builder.Extra Tryz.prog Tryz.lays156_ren := {
  sizeBuilder := by kernel_rfl
  liesBuilder := by kernel_rfl
  t5 := Tryz.underlying5
  a5 := Tryz.isAgg5
  z5 := Tryz.sizeOf5
  v5 := Tryz.zeroValue5
  infoByte := by kernel_rfl
  cellsByte := by kernel_rfl
  sizeByte := by kernel_rfl
  neB5 := by decide }
theorem Tryz.strings_Join_none (a : Option Addr) (c : Nat) (sep : ByteArray) (w : World) :
    Calls Tryz.prog 50 #[.slice a 0 c, .string sep] w fun e w' => e = .returned (.string ⟨#[]⟩) ∧ w' = w := Any.strings_Join_none Tryz.lays156 Tryz.Builder_Extra_156 a c sep w
theorem Tryz.strings_Join (bk o c : Nat) (xs : List ByteArray) (sep : ByteArray) (w : World) (hcells : ∀ (j : Nat) x, xs[j]? = some x → w.cell? ⟨bk, o + j, none⟩ = some (.string x)) (hbk : bk < w.heap.size) (hN : xs.length ≤ 140737488355328) (hcap : xs.length ≤ c) (hlen : (Lib.join (xs.map (·.data.toList)) sep.data.toList).length ≤ 140737488355328) :
    Calls Tryz.prog 50 #[.slice (some ⟨bk, o, none⟩) xs.length c, .string sep] w fun e w' => e = .returned (.string ⟨(Lib.join (xs.map (·.data.toList)) sep.data.toList).toArray⟩) ∧ Below w.heap.size w w' := Any.strings_Join Tryz.lays156 Tryz.Builder_Extra_156 bk o c xs sep w hcells hbk hN hcap hlen
def Tryz.lays171_ren : Go.Shelf.Ren := ⟨fun | 171 => 22 | 243 => 46 | 246 => 67 | 283 => 84 | 284 => 85 | 285 => 86 | 286 => 87 | 129 => 102 | 317 => 101 | 318 => 103 | 319 => 104 | 320 => 105 | 337 => 115 | 338 => 116 | n => n, fun | 3 => 3 | 9 => 9 | 2 => 2 | 4 => 4 | 171 => 120 | 0 => 0 | 53 => 121 | 37 => 22 | 5 => 5 | 173 => 124 | 212 => 137 | 51 => 138 | 20 => 20 | 213 => 139 | 46 => 127 | 232 => 153 | 233 => 154 | n => n, fun | 17 => 3 | 18 => 4 | 19 => 5 | n => n⟩
theorem Tryz.lays171 : Go.Proofs.Lays.n171 Tryz.prog Tryz.lays171_ren := {
  mixed := by kernel_rfl
  f129 := Tryz.func102.trans (congrArg some (by kernel_rfl))
  f171 := Tryz.func22.trans (congrArg some (by kernel_rfl))
  f243 := Tryz.func46.trans (congrArg some (by kernel_rfl))
  f246 := Tryz.func67.trans (congrArg some (by kernel_rfl))
  f283 := Tryz.func84.trans (congrArg some (by kernel_rfl))
  f284 := Tryz.func85.trans (congrArg some (by kernel_rfl))
  f285 := Tryz.func86.trans (congrArg some (by kernel_rfl))
  f286 := Tryz.func87.trans (congrArg some (by kernel_rfl))
  f317 := Tryz.func101.trans (congrArg some (by kernel_rfl))
  f318 := Tryz.func103.trans (congrArg some (by kernel_rfl))
  f319 := Tryz.func104.trans (congrArg some (by kernel_rfl))
  f320 := Tryz.func105.trans (congrArg some (by kernel_rfl))
  f337 := Tryz.func115.trans (congrArg some (by kernel_rfl))
  f338 := Tryz.func116.trans (congrArg some (by kernel_rfl))
  t0 := Tryz.underlying0
  a0 := Tryz.isAgg0
  z0 := Tryz.sizeOf0
  v0 := Tryz.zeroValue0
  t2 := Tryz.underlying2
  a2 := Tryz.isAgg2
  z2 := Tryz.sizeOf2
  v2 := Tryz.zeroValue2
  t3 := Tryz.underlying3
  a3 := Tryz.isAgg3
  z3 := Tryz.sizeOf3
  v3 := Tryz.zeroValue3
  t4 := Tryz.underlying4
  a4 := Tryz.isAgg4
  z4 := Tryz.sizeOf4
  v4 := Tryz.zeroValue4
  t5 := Tryz.underlying5
  a5 := Tryz.isAgg5
  z5 := Tryz.sizeOf5
  v5 := Tryz.zeroValue5
  t9 := Tryz.underlying9
  a9 := Tryz.isAgg9
  z9 := Tryz.sizeOf9
  v9 := Tryz.zeroValue9
  t20 := Tryz.underlying20
  a20 := Tryz.isAgg20
  z20 := Tryz.sizeOf20
  v20 := Tryz.zeroValue20
  t37 := Tryz.underlying22
  a37 := Tryz.isAgg22
  z37 := Tryz.sizeOf22
  v37 := Tryz.zeroValue22
  t46 := Tryz.underlying127
  a46 := Tryz.isAgg127
  z46 := Tryz.sizeOf127
  v46 := Tryz.zeroValue127
  t51 := Tryz.underlying138
  a51 := Tryz.isAgg138
  z51 := Tryz.sizeOf138
  v51 := Tryz.zeroValue138
  t53 := Tryz.underlying121
  a53 := Tryz.isAgg121
  z53 := Tryz.sizeOf121
  v53 := Tryz.zeroValue121
  t171 := Tryz.underlying120
  a171 := Tryz.isAgg120
  z171 := Tryz.sizeOf120
  v171 := Tryz.zeroValue120
  t173 := Tryz.underlying124
  a173 := Tryz.isAgg124
  z173 := Tryz.sizeOf124
  v173 := Tryz.zeroValue124
  t212 := Tryz.underlying137
  a212 := Tryz.isAgg137
  z212 := Tryz.sizeOf137
  v212 := Tryz.zeroValue137
  t213 := Tryz.underlying139
  a213 := Tryz.isAgg139
  z213 := Tryz.sizeOf139
  t232 := Tryz.underlying153
  a232 := Tryz.isAgg153
  z232 := Tryz.sizeOf153
  v232 := Tryz.zeroValue153
  t233 := Tryz.underlying154
  a233 := Tryz.isAgg154
  z233 := Tryz.sizeOf154
  v233 := Tryz.zeroValue154
  g17 := by kernel_rfl
  g18 := by kernel_rfl
  g19 := by kernel_rfl }
theorem Tryz.strconv_Itoa_small (i : Nat) (hi : i < 100) (w : World) :
    Calls Tryz.prog 22 #[.int .i64 i] w fun e w' => e = .returned (.string ⟨(Lib.decDigits i).toArray⟩) ∧ w' = w := Any.strconv_Itoa_small Tryz.lays171 i hi w
end Go.Proofs.YtgphlcdinejmdaaGreatDoor

/- Numbers as texts, texts joined: both sides. -/
namespace Go.Proofs.YtgphlcdinejmdaaGreatDoor
set_option linter.unusedVariables false
set_option linter.unusedSimpArgs false
set_option maxRecDepth 20000
open Go.RowKit
attribute [local irreducible] runA runX AW
theorem gq_DN {H G : Prop} (k : H) (h : Hid H → G := by (intro hh; (first | (first | ((first | refine r_none ?_ | refine r_gt (by rfl) (by rfl) (by first | rfl | assumption | omega | (simp only [*, Bool.not_false, Bool.not_true]; first | done | fail) | (simp [*]; first | done | fail)) (by rfl) ?_ | refine r_gf (by rfl) (by rfl) (by first | rfl | assumption | omega | (simp only [*, Bool.not_false, Bool.not_true]; first | done | fail) | (simp [*]; first | done | fail)) (by rfl) ?_); (first | (first | refine r_seq (by rfl) (by rfl) (by rfl) ?_ | refine r_sne (by rfl) (by rfl) (by rfl) ?_ | refine r_sadd (by rfl) (by rfl) (by first | omega | (simp only [List.length_append, List.length_cons, List.length_nil]; omega)) (by rfl) ?_ | refine r_i2b (by rfl) (fun w => by rfl) (by omega) (by rfl) ?_ | refine r_bstr1 (by rfl) (by rfl) (by rfl) (by rfl) Tryz.underlying22 Tryz.underlying5 Tryz.underlying9 (by exact ⟨rfl, rfl, Nat.zero_lt_one, rfl⟩) (by rfl) ?_) | ((first | (refine z_op (by rfl) ?_; first | refine z_ok ?_ ?_ | refine z_ex ?_ (by first | exact ft_raw rfl rfl | ((first | refine ft_rp rfl rfl rfl ?_ | refine ft_row rfl rfl rfl ?_ | refine ft_rpF rfl rfl rfl ?_ | refine ft_rowF rfl rfl rfl ?_ | refine up_row rfl rfl ?_ | refine up_rowF rfl rfl rfl ?_ | refine ct_0 rfl ?_ | refine ct_r rfl rfl ?_ | refine ct_c rfl rfl rfl ?_ | refine cu_all rfl ?_ | refine cu_to rfl ?_ | refine cu_from rfl ?_ | refine cu_p rfl ?_ | fail); (first | omega | (simp only [List.length_append, List.length_replicate, List.length_cons, List.length_nil, List.length_set, List.length_take, List.length_drop, true_and]; omega))) | exact up_raw rfl | exact pk_t (by first | rfl | assumption | omega | (simp only [*, Bool.not_false, Bool.not_true]; first | done | fail) | (simp [*]; first | done | fail)) rfl | exact pk_f (by first | rfl | assumption | omega | (simp only [*, Bool.not_false, Bool.not_true]; first | done | fail) | (simp [*]; first | done | fail)) rfl | (first | exact rw_c UInt8 rfl | exact rw_c (List UInt8) rfl) | exact rw_raw | exact pu_cv (fun w => rfl) (by omega) | exact pu_of (fun w => rfl) rfl | exact be_of (fun w => rfl) | exact nc_of (fun _ _ _ _ => rfl) rfl | exact bu_of (fun w => rfl) rfl | fail) ?_) | ((first | refine q_callE wsT wsZ (by rfl) ?_ | refine q_callVE wsT (by rfl) (by rfl) ?_); refine ⟨_, _, _, (by first | assumption), _, by rfl, ?_, ?_⟩)); focus (first | exact trivial | fail | exact rfl | (first | omega | (simp only [List.length_append, List.length_replicate, List.length_cons, List.length_nil, List.length_set, List.length_take, List.length_drop, true_and]; omega)) | exact cvB (fun w => rfl) | ((repeat' (first | exact rfl | exact cV_len _ | exact cV_ln rfl (by omega) | exact Cel.pos | omega | exact trivial | refine And.intro ?_ ?_)); done) | (simp [*]; done) | (simp; omega))) | fail)) | refine r_nt (by rfl) (by rfl) (by first | rfl | assumption | omega | (simp only [*, Bool.not_false, Bool.not_true]; first | done | fail) | (simp [*]; first | done | fail)) (by rfl) ?_ | refine r_nf (by rfl) (by rfl) (by first | rfl | assumption | omega | (simp only [*, Bool.not_false, Bool.not_true]; first | done | fail) | (simp [*]; first | done | fail)) (by rfl) ?_ | refine r_gu (by rfl) (by rfl) (by rfl) ?_ | refine r_nil ?_) | (first | refine aw_seq ?_ | refine aw_ct (by rfl) (by first | rfl | assumption | omega | (simp only [*, Bool.not_false, Bool.not_true]; first | done | fail) | (simp [*]; first | done | fail)) ?_ | refine aw_cf (by rfl) (by first | rfl | assumption | omega | (simp only [*, Bool.not_false, Bool.not_true]; first | done | fail) | (simp [*]; first | done | fail)) ?_ | refine aw_block ?_ | refine aw_region T0ok cfU_ok (by rfl) ?_ | refine aw_skip ?_ | refine aw_exit ?_ | refine ra_step ?_)); (repeat (first | (first | ((first | refine r_none ?_ | refine r_gt (by rfl) (by rfl) (by first | rfl | assumption | omega | (simp only [*, Bool.not_false, Bool.not_true]; first | done | fail) | (simp [*]; first | done | fail)) (by rfl) ?_ | refine r_gf (by rfl) (by rfl) (by first | rfl | assumption | omega | (simp only [*, Bool.not_false, Bool.not_true]; first | done | fail) | (simp [*]; first | done | fail)) (by rfl) ?_); (first | (first | refine r_seq (by rfl) (by rfl) (by rfl) ?_ | refine r_sne (by rfl) (by rfl) (by rfl) ?_ | refine r_sadd (by rfl) (by rfl) (by first | omega | (simp only [List.length_append, List.length_cons, List.length_nil]; omega)) (by rfl) ?_ | refine r_i2b (by rfl) (fun w => by rfl) (by omega) (by rfl) ?_ | refine r_bstr1 (by rfl) (by rfl) (by rfl) (by rfl) Tryz.underlying22 Tryz.underlying5 Tryz.underlying9 (by exact ⟨rfl, rfl, Nat.zero_lt_one, rfl⟩) (by rfl) ?_) | ((first | (refine z_op (by rfl) ?_; first | refine z_ok ?_ ?_ | refine z_ex ?_ (by first | exact ft_raw rfl rfl | ((first | refine ft_rp rfl rfl rfl ?_ | refine ft_row rfl rfl rfl ?_ | refine ft_rpF rfl rfl rfl ?_ | refine ft_rowF rfl rfl rfl ?_ | refine up_row rfl rfl ?_ | refine up_rowF rfl rfl rfl ?_ | refine ct_0 rfl ?_ | refine ct_r rfl rfl ?_ | refine ct_c rfl rfl rfl ?_ | refine cu_all rfl ?_ | refine cu_to rfl ?_ | refine cu_from rfl ?_ | refine cu_p rfl ?_ | fail); (first | omega | (simp only [List.length_append, List.length_replicate, List.length_cons, List.length_nil, List.length_set, List.length_take, List.length_drop, true_and]; omega))) | exact up_raw rfl | exact pk_t (by first | rfl | assumption | omega | (simp only [*, Bool.not_false, Bool.not_true]; first | done | fail) | (simp [*]; first | done | fail)) rfl | exact pk_f (by first | rfl | assumption | omega | (simp only [*, Bool.not_false, Bool.not_true]; first | done | fail) | (simp [*]; first | done | fail)) rfl | (first | exact rw_c UInt8 rfl | exact rw_c (List UInt8) rfl) | exact rw_raw | exact pu_cv (fun w => rfl) (by omega) | exact pu_of (fun w => rfl) rfl | exact be_of (fun w => rfl) | exact nc_of (fun _ _ _ _ => rfl) rfl | exact bu_of (fun w => rfl) rfl | fail) ?_) | ((first | refine q_callE wsT wsZ (by rfl) ?_ | refine q_callVE wsT (by rfl) (by rfl) ?_); refine ⟨_, _, _, (by first | assumption), _, by rfl, ?_, ?_⟩)); focus (first | exact trivial | fail | exact rfl | (first | omega | (simp only [List.length_append, List.length_replicate, List.length_cons, List.length_nil, List.length_set, List.length_take, List.length_drop, true_and]; omega)) | exact cvB (fun w => rfl) | ((repeat' (first | exact rfl | exact cV_len _ | exact cV_ln rfl (by omega) | exact Cel.pos | omega | exact trivial | refine And.intro ?_ ?_)); done) | (simp [*]; done) | (simp; omega))) | fail)) | refine r_nt (by rfl) (by rfl) (by first | rfl | assumption | omega | (simp only [*, Bool.not_false, Bool.not_true]; first | done | fail) | (simp [*]; first | done | fail)) (by rfl) ?_ | refine r_nf (by rfl) (by rfl) (by first | rfl | assumption | omega | (simp only [*, Bool.not_false, Bool.not_true]; first | done | fail) | (simp [*]; first | done | fail)) (by rfl) ?_ | refine r_gu (by rfl) (by rfl) (by rfl) ?_ | refine r_nil ?_) | (first | refine aw_seq ?_ | refine aw_ct (by rfl) (by first | rfl | assumption | omega | (simp only [*, Bool.not_false, Bool.not_true]; first | done | fail) | (simp [*]; first | done | fail)) ?_ | refine aw_cf (by rfl) (by first | rfl | assumption | omega | (simp only [*, Bool.not_false, Bool.not_true]; first | done | fail) | (simp [*]; first | done | fail)) ?_ | refine aw_block ?_ | refine aw_region T0ok cfU_ok (by rfl) ?_ | refine aw_skip ?_ | refine aw_exit ?_ | refine ra_step ?_))); exact hh.out)) : G := h ⟨k⟩
theorem ga_DN {H G : Prop} (k : H) (h : Hid H → G := by (intro hh; (first | refine r_none ?_ | refine r_gt (by rfl) (by rfl) (by first | rfl | assumption | omega | (simp only [*, Bool.not_false, Bool.not_true]; first | done | fail) | (simp [*]; first | done | fail)) (by rfl) ?_ | refine r_gf (by rfl) (by rfl) (by first | rfl | assumption | omega | (simp only [*, Bool.not_false, Bool.not_true]; first | done | fail) | (simp [*]; first | done | fail)) (by rfl) ?_); refine z_op (by rfl) ?_; refine z_alV ?_ hh.out; focus (first | exact trivial | fail | exact rfl | (first | omega | (simp only [List.length_append, List.length_replicate, List.length_cons, List.length_nil, List.length_set, List.length_take, List.length_drop, true_and]; omega)) | exact cvB (fun w => rfl) | ((repeat' (first | exact rfl | exact cV_len _ | exact cV_ln rfl (by omega) | exact Cel.pos | omega | exact trivial | refine And.intro ?_ ?_)); done) | (simp [*]; done) | (simp; omega)))) : G := h ⟨k⟩
theorem gd_DN {H G : Prop} (k : H) (h : Hid H → G := by (intro hh; (refine aw_draw mixed T0ok cfU_ok [] (by rfl) (by kernel_rfl) ?_); exact hh.out)) : G := h ⟨k⟩
open Go.Lib (decDigits) in
theorem k_num1 (n : Int) (h : 0 ≤ n ∧ n < 10) : Kon Tryz.prog 27 [vI n] [] (vS (decDigits n.toNat)) [] [] := by
  have hd1 : decide (n < 0) = false := decide_eq_false (by omega)
  have hd2 : decide (n < 10) = true := decide_eq_true (by omega)
  have e : decDigits n.toNat = [UInt8.ofNat (48 + n).toNat] := by
    rw [Go.Lib.decDigits_one (by omega)]
    congr 2; omega
  rw [e]
  (refine kon_mk T0ok (fn := Tryz.f27) (c := Tryz.f27.body.get rfl) Tryz.func27 rfl (by rfl) (by rfl) (by rfl) ?_; intro hfit hfe)
  (repeat (first | refine gq_DN ?_ | (refine ga_DN ?_; intro _hq)))
  ((try refine aw_ret ?_); refine ret_auto2 (by rfl) (by rfl) (by rfl) (by repeat (first | exact trivial | refine ⟨by first | rfl | omega, ?_⟩)) ?_ (by repeat (first | exact trivial | refine ⟨by rfl, by rfl, ?_⟩)) (by repeat (first | exact trivial | refine ⟨by rfl, by rfl, ?_⟩)); try rfl)
open Go.Lib (decDigits) in
theorem k_num (n : Int) (h : 0 ≤ n ∧ n < 100) : Kon Tryz.prog 27 [vI n] [] (vS (decDigits n.toNat)) [] [] := by
  rcases Int.lt_or_le n 10 with h1 | h1
  · exact k_num1 n ⟨h.1, h1⟩
  have hd1 : decide (n < 0) = false := decide_eq_false (by omega)
  have hd2 : decide (n < 10) = false := decide_eq_false (by omega)
  have hK := k_num1 (n / 10) (by omega)
  have e : decDigits n.toNat = decDigits (n / 10).toNat ++ [UInt8.ofNat (48 + n % 10).toNat] := by
    rw [Go.Lib.decDigits, dif_neg (by omega)]
    congr 2
    · omega
    · congr 2; omega
  have hl : (decDigits (n / 10).toNat).length ≤ 20 := by
    rw [Go.Lib.decDigits_one (by omega)]; simp
  rw [e]
  (refine kon_mk T0ok (fn := Tryz.f27) (c := Tryz.f27.body.get rfl) Tryz.func27 rfl (by rfl) (by rfl) (by rfl) ?_; intro hfit hfe)
  (repeat (first | refine gq_DN ?_ | (refine ga_DN ?_; intro _hq)))
  (repeat (first | refine gq_DN ?_ | (refine ga_DN ?_; intro _hq) | refine gd_DN ?_))
  ((try refine aw_ret ?_); refine ret_auto2 (by rfl) (by rfl) (by rfl) (by repeat (first | exact trivial | refine ⟨by first | rfl | omega, ?_⟩)) ?_ (by repeat (first | exact trivial | refine ⟨by rfl, by rfl, ?_⟩)) (by repeat (first | exact trivial | refine ⟨by rfl, by rfl, ?_⟩)); try rfl)
open Go.Lib (decDigits) in
/-- strconv.Itoa at 0 to 99. -/
theorem k_itoa (n : Int) (h : 0 ≤ n ∧ n < 100) : Kon Tryz.prog 22 [vI n] [] (vS (decDigits n.toNat)) [] [] := by
  refine kon_pure (Go.Proofs.enters_of Tryz.func22 (by kernel_rfl) rfl) rfl rfl ?_
  intro w ok vs hg hok hsz hargs
  obtain ⟨z, hz, hr⟩ := hargs 0 _ rfl
  have hv : vs = #[.int .i64 n] := by
    obtain ⟨xs⟩ := vs
    match xs, hsz with
    | [y], _ =>
      cases hz
      rw [show y = .int .i64 n from hr.1]
  subst hv
  have hK := Tryz.strconv_Itoa_small n.toNat (by omega) w
  rw [show ((n.toNat : Nat) : Int) = n by omega] at hK
  refine hK.mono ?_
  rintro en W' ⟨rfl, rfl⟩
  exact ⟨_, rfl, Below.refl _ _, fun β G ok' => ⟨rfl, rfl⟩⟩
/-- strings.Join of texts that are only read. -/
theorem k_join (xs : List (List UInt8)) (sep : List UInt8) (hx : xs.length ≤ 1000000) (hl : (Go.Lib.join xs sep).length ≤ 1000000) : Kon Tryz.prog 50 [roA xs, vS sep] [] (vS (Go.Lib.join xs sep)) [] [] := by
  refine kon_pure (Go.Proofs.enters_of Tryz.func50 (by kernel_rfl) rfl) rfl rfl ?_
  intro w ok vs hg hok hsz hargs
  obtain ⟨z0, hz0, hr0⟩ := hargs 0 _ rfl
  obtain ⟨z1, hz1, hr1⟩ := hargs 1 _ rfl
  have hv : vs = #[z0, .string (str sep)] := by
    obtain ⟨xs⟩ := vs
    match xs, hsz with
    | [y, y'], _ =>
      cases hz0
      cases hz1
      rw [show y' = .string (str sep) from hr1.1]
      rfl
  subst hv
  have e : (xs.map str).map (·.data.toList) = xs := by
    rw [List.map_map]
    conv => rhs; rw [← List.map_id xs]
    apply List.map_congr_left
    intro a _
    simp [str]
  obtain ⟨⟨hlen, hone⟩, A, c, rfl, hnc, hc2, hcells⟩ := hr0
  rcases Nat.eq_zero_or_pos xs.length with h0 | h0
  · have hx0 : xs = [] := List.eq_nil_of_length_eq_zero h0
    subst hx0
    refine (Tryz.strings_Join_none A c (str sep) w).mono ?_
    rintro en W' ⟨rfl, rfl⟩
    exact ⟨_, rfl, Below.refl _ _, fun β G ok' => ⟨rfl, rfl⟩⟩
  · obtain ⟨b, off, rfl, hb, hc⟩ := hcells h0
    have hcell : ∀ (j : Nat) x, (xs.map str)[j]? = some x → w.cell? ⟨b, off + j, none⟩ = some (.string x) := by
      intro j x hj
      have hjl : j < xs.length := by
        have := (List.getElem?_eq_some_iff.1 hj).1
        simpa using this
      have h2 := hc _ _ (cV_cell (l := xs) (j := j) (o := 0) hjl (v := .string (str (xs.getD j []))) rfl)
      rw [show j * Cel.sz (List UInt8) + 0 = j from Nat.mul_one j] at h2
      rw [h2]
      simp [hjl] at hj
      rw [← hj]
      simp [List.getD_eq_getElem?_getD, hjl]
    have hJ := Tryz.strings_Join b off c (xs.map str) (str sep) w hcell (hok b hb) (by simp; omega) (by simpa using hnc) (by rw [e]; simpa [str] using (show (Go.Lib.join xs sep).length ≤ 140737488355328 by omega))
    rw [e, show (str sep).data.toList = sep by simp [str]] at hJ
    rw [List.length_map] at hJ
    refine hJ.mono ?_
    rintro en W' ⟨rfl, hB⟩
    exact ⟨_, rfl, hB, fun β G ok' => ⟨rfl, rfl⟩⟩
theorem join_2 (a b s : List UInt8) : Go.Lib.join [a, b] s = a ++ s ++ b := by
  rw [Go.Lib.join_cons]; simp [Go.Lib.joinTail]
theorem join_3 (a b c s : List UInt8) : Go.Lib.join [a, b, c] s = a ++ s ++ b ++ s ++ c := by
  rw [Go.Lib.join_cons]; simp [Go.Lib.joinTail]
theorem join_4 (a b c d s : List UInt8) : Go.Lib.join [a, b, c, d] s = a ++ s ++ b ++ s ++ c ++ s ++ d := by
  rw [Go.Lib.join_cons]; simp [Go.Lib.joinTail]
theorem k_jo (xs : List (List UInt8)) (r : List UInt8) (e : Go.Lib.join xs [32] = r) (hx : xs.length ≤ 10) (hr : r.length ≤ 1000) : Kon Tryz.prog 50 [roA xs, vS [32]] [] (vS r) [] [] := by
  subst e
  exact k_join xs [32] (by omega) (by omega)
end Go.Proofs.YtgphlcdinejmdaaGreatDoor

/- The text of a gate, both sides. -/
namespace Go.Proofs.YtgphlcdinejmdaaGreatDoor
set_option linter.unusedVariables false
set_option linter.unusedSimpArgs false
set_option maxRecDepth 20000
open Go.RowKit
open Go.Lib (decDigits)
attribute [local irreducible] runA runX AW
theorem gq_DT {H G : Prop} (k : H) (h : Hid H → G := by (intro hh; (first | (first | ((first | refine r_none ?_ | refine r_gt (by rfl) (by rfl) (by first | rfl | assumption | omega | (simp only [*, Bool.not_false, Bool.not_true]; first | done | fail) | (simp [*]; first | done | fail)) (by rfl) ?_ | refine r_gf (by rfl) (by rfl) (by first | rfl | assumption | omega | (simp only [*, Bool.not_false, Bool.not_true]; first | done | fail) | (simp [*]; first | done | fail)) (by rfl) ?_); (first | (first | refine r_slen (by rfl) Tryz.underlying9 (by rfl) ?_ | refine r_seq (by rfl) (by rfl) (by rfl) ?_ | refine r_sne (by rfl) (by rfl) (by rfl) ?_ | refine r_sadd (by rfl) (by rfl) (by first | omega | (simp only [List.length_append, List.length_cons, List.length_nil]; omega)) (by rfl) ?_) | ((first | (refine z_op (by rfl) ?_; first | refine z_ok ?_ ?_ | refine z_ex ?_ (by first | exact ft_raw rfl rfl | ((first | refine ft_rp rfl rfl rfl ?_ | refine ft_row rfl rfl rfl ?_ | refine ft_rpF rfl rfl rfl ?_ | refine ft_rowF rfl rfl rfl ?_ | refine up_row rfl rfl ?_ | refine up_rowF rfl rfl rfl ?_ | refine ct_0 rfl ?_ | refine ct_r rfl rfl ?_ | refine ct_c rfl rfl rfl ?_ | refine cu_all rfl ?_ | refine cu_to rfl ?_ | refine cu_from rfl ?_ | refine cu_p rfl ?_ | fail); (first | omega | (simp only [List.length_append, List.length_replicate, List.length_cons, List.length_nil, List.length_set, List.length_take, List.length_drop, true_and]; omega))) | exact up_raw rfl | exact pk_t (by first | rfl | assumption | omega | (simp only [*, Bool.not_false, Bool.not_true]; first | done | fail) | (simp [*]; first | done | fail)) rfl | exact pk_f (by first | rfl | assumption | omega | (simp only [*, Bool.not_false, Bool.not_true]; first | done | fail) | (simp [*]; first | done | fail)) rfl | (first | exact rw_c (List UInt8) rfl | exact rw_c Int rfl) | exact rw_raw | exact pu_cv (fun w => rfl) (by omega) | exact pu_of (fun w => rfl) rfl | exact be_of (fun w => rfl) | exact nc_of (fun _ _ _ _ => rfl) rfl | exact bu_of (fun w => rfl) rfl | fail) ?_) | ((first | refine q_callE wsT wsZ (by rfl) ?_ | refine q_callVE wsT (by rfl) (by rfl) ?_); refine ⟨_, _, _, (by first | assumption | exact k_itoa _ (by omega) | exact k_num _ (by omega) | exact k_l1In _ _ _), _, by rfl, ?_, ?_⟩)); focus (first | exact trivial | fail | exact rfl | (first | omega | (simp only [List.length_append, List.length_replicate, List.length_cons, List.length_nil, List.length_set, List.length_take, List.length_drop, true_and]; omega)) | exact cvB (fun w => rfl) | ((repeat' (first | exact rfl | exact cV_len _ | exact cV_ln rfl (by omega) | exact Cel.pos | omega | exact trivial | refine And.intro ?_ ?_)); done) | (simp [*]; done) | (simp; omega))) | fail)) | refine r_nt (by rfl) (by rfl) (by first | rfl | assumption | omega | (simp only [*, Bool.not_false, Bool.not_true]; first | done | fail) | (simp [*]; first | done | fail)) (by rfl) ?_ | refine r_nf (by rfl) (by rfl) (by first | rfl | assumption | omega | (simp only [*, Bool.not_false, Bool.not_true]; first | done | fail) | (simp [*]; first | done | fail)) (by rfl) ?_ | refine r_gu (by rfl) (by rfl) (by rfl) ?_ | refine r_nil ?_) | (first | refine aw_seq ?_ | refine aw_ct (by rfl) (by first | rfl | assumption | omega | (simp only [*, Bool.not_false, Bool.not_true]; first | done | fail) | (simp [*]; first | done | fail)) ?_ | refine aw_cf (by rfl) (by first | rfl | assumption | omega | (simp only [*, Bool.not_false, Bool.not_true]; first | done | fail) | (simp [*]; first | done | fail)) ?_ | refine aw_block ?_ | refine aw_region T0ok cfU_ok (by rfl) ?_ | refine aw_skip ?_ | refine aw_exit ?_ | refine ra_step ?_)); (repeat (first | (first | ((first | refine r_none ?_ | refine r_gt (by rfl) (by rfl) (by first | rfl | assumption | omega | (simp only [*, Bool.not_false, Bool.not_true]; first | done | fail) | (simp [*]; first | done | fail)) (by rfl) ?_ | refine r_gf (by rfl) (by rfl) (by first | rfl | assumption | omega | (simp only [*, Bool.not_false, Bool.not_true]; first | done | fail) | (simp [*]; first | done | fail)) (by rfl) ?_); (first | (first | refine r_slen (by rfl) Tryz.underlying9 (by rfl) ?_ | refine r_seq (by rfl) (by rfl) (by rfl) ?_ | refine r_sne (by rfl) (by rfl) (by rfl) ?_ | refine r_sadd (by rfl) (by rfl) (by first | omega | (simp only [List.length_append, List.length_cons, List.length_nil]; omega)) (by rfl) ?_) | ((first | (refine z_op (by rfl) ?_; first | refine z_ok ?_ ?_ | refine z_ex ?_ (by first | exact ft_raw rfl rfl | ((first | refine ft_rp rfl rfl rfl ?_ | refine ft_row rfl rfl rfl ?_ | refine ft_rpF rfl rfl rfl ?_ | refine ft_rowF rfl rfl rfl ?_ | refine up_row rfl rfl ?_ | refine up_rowF rfl rfl rfl ?_ | refine ct_0 rfl ?_ | refine ct_r rfl rfl ?_ | refine ct_c rfl rfl rfl ?_ | refine cu_all rfl ?_ | refine cu_to rfl ?_ | refine cu_from rfl ?_ | refine cu_p rfl ?_ | fail); (first | omega | (simp only [List.length_append, List.length_replicate, List.length_cons, List.length_nil, List.length_set, List.length_take, List.length_drop, true_and]; omega))) | exact up_raw rfl | exact pk_t (by first | rfl | assumption | omega | (simp only [*, Bool.not_false, Bool.not_true]; first | done | fail) | (simp [*]; first | done | fail)) rfl | exact pk_f (by first | rfl | assumption | omega | (simp only [*, Bool.not_false, Bool.not_true]; first | done | fail) | (simp [*]; first | done | fail)) rfl | (first | exact rw_c (List UInt8) rfl | exact rw_c Int rfl) | exact rw_raw | exact pu_cv (fun w => rfl) (by omega) | exact pu_of (fun w => rfl) rfl | exact be_of (fun w => rfl) | exact nc_of (fun _ _ _ _ => rfl) rfl | exact bu_of (fun w => rfl) rfl | fail) ?_) | ((first | refine q_callE wsT wsZ (by rfl) ?_ | refine q_callVE wsT (by rfl) (by rfl) ?_); refine ⟨_, _, _, (by first | assumption | exact k_itoa _ (by omega) | exact k_num _ (by omega) | exact k_l1In _ _ _), _, by rfl, ?_, ?_⟩)); focus (first | exact trivial | fail | exact rfl | (first | omega | (simp only [List.length_append, List.length_replicate, List.length_cons, List.length_nil, List.length_set, List.length_take, List.length_drop, true_and]; omega)) | exact cvB (fun w => rfl) | ((repeat' (first | exact rfl | exact cV_len _ | exact cV_ln rfl (by omega) | exact Cel.pos | omega | exact trivial | refine And.intro ?_ ?_)); done) | (simp [*]; done) | (simp; omega))) | fail)) | refine r_nt (by rfl) (by rfl) (by first | rfl | assumption | omega | (simp only [*, Bool.not_false, Bool.not_true]; first | done | fail) | (simp [*]; first | done | fail)) (by rfl) ?_ | refine r_nf (by rfl) (by rfl) (by first | rfl | assumption | omega | (simp only [*, Bool.not_false, Bool.not_true]; first | done | fail) | (simp [*]; first | done | fail)) (by rfl) ?_ | refine r_gu (by rfl) (by rfl) (by rfl) ?_ | refine r_nil ?_) | (first | refine aw_seq ?_ | refine aw_ct (by rfl) (by first | rfl | assumption | omega | (simp only [*, Bool.not_false, Bool.not_true]; first | done | fail) | (simp [*]; first | done | fail)) ?_ | refine aw_cf (by rfl) (by first | rfl | assumption | omega | (simp only [*, Bool.not_false, Bool.not_true]; first | done | fail) | (simp [*]; first | done | fail)) ?_ | refine aw_block ?_ | refine aw_region T0ok cfU_ok (by rfl) ?_ | refine aw_skip ?_ | refine aw_exit ?_ | refine ra_step ?_))); exact hh.out)) : G := h ⟨k⟩
theorem ga_DT {H G : Prop} (k : H) (h : Hid H → G := by (intro hh; (first | refine r_none ?_ | refine r_gt (by rfl) (by rfl) (by first | rfl | assumption | omega | (simp only [*, Bool.not_false, Bool.not_true]; first | done | fail) | (simp [*]; first | done | fail)) (by rfl) ?_ | refine r_gf (by rfl) (by rfl) (by first | rfl | assumption | omega | (simp only [*, Bool.not_false, Bool.not_true]; first | done | fail) | (simp [*]; first | done | fail)) (by rfl) ?_); refine z_op (by rfl) ?_; refine z_alV ?_ hh.out; focus (first | exact trivial | fail | exact rfl | (first | omega | (simp only [List.length_append, List.length_replicate, List.length_cons, List.length_nil, List.length_set, List.length_take, List.length_drop, true_and]; omega)) | exact cvB (fun w => rfl) | ((repeat' (first | exact rfl | exact cV_len _ | exact cV_ln rfl (by omega) | exact Cel.pos | omega | exact trivial | refine And.intro ?_ ?_)); done) | (simp [*]; done) | (simp; omega)))) : G := h ⟨k⟩
theorem k_kindS (k : Int) (h : 0 ≤ k ∧ k ≤ 4) : Kon Tryz.prog 52 [vI k] [] (vS (gnm k)) [] [] := by
  have h' : k = 0 ∨ k = 1 ∨ k = 2 ∨ k = 3 ∨ k = 4 := by omega
  rcases h' with rfl | rfl | rfl | rfl | rfl
  all_goals (refine kon_mk T0ok (fn := Tryz.f52) (c := Tryz.f52.body.get rfl) Tryz.func52 rfl (by rfl) (by rfl) (by rfl) ?_; intro hfit hfe)
  all_goals ((repeat (first | refine gq_DT ?_ | (refine ga_DT ?_; intro _hq))))
  all_goals (((try refine aw_ret ?_); refine ret_auto2 (by rfl) (by rfl) (by rfl) (by repeat (first | exact trivial | refine ⟨by first | rfl | omega, ?_⟩)) ?_ (by repeat (first | exact trivial | refine ⟨by rfl, by rfl, ?_⟩)) (by repeat (first | exact trivial | refine ⟨by rfl, by rfl, ?_⟩)); try rfl))
theorem dx_len {x : Int} (h : 0 ≤ x ∧ x ≤ 9) : (dx x).length = 1 := by rw [(dx1 h).1]; rfl
theorem k_gtI0 (a : Int) (h : gok 8 ⟨0, a, 0, 0⟩ = true) : Kon Tryz.prog 23 [gV ⟨0, a, 0, 0⟩] [] (vS (gtT ⟨0, a, 0, 0⟩)) [] [] := by
  obtain ⟨_, _, ha, _, _⟩ := gok_bd h
  dsimp only at ha
  have l1 : (decDigits a.toNat).length = 1 := dx_len (x := a) (by omega)
  have l0 := gnm_len 0
  have hV := k_gv 8 ⟨0, a, 0, 0⟩
  rw [h] at hV
  have hN := k_nat1 ⟨0, a, 0, 0⟩ ⟨by dsimp only; omega, by dsimp only; omega⟩
  have hS : Kon Tryz.prog 49 [gV ⟨0, a, 0, 0⟩, vI 1] [] (slA 0 0 [a]) [iRow [a]] [] := k_some _ 1 (by decide)
  have hJ := k_jo [gnm 0, dx a] (gnm 0 ++ [32] ++ dx a) (join_2 _ _ _) (by simp) (by simp only [dx, List.length_append, List.length_cons, List.length_nil]; omega)
  (refine kon_mk T0ok (fn := Tryz.f23) (c := Tryz.f23.body.get rfl) Tryz.func23 rfl (by rfl) (by rfl) (by rfl) ?_; intro hfit hfe)
  (repeat (first | refine gq_DT ?_ | (refine ga_DT ?_; intro _hq)))
  refine aw_unroll 4 ?_
  (repeat (first | refine gq_DT ?_ | (refine ga_DT ?_; intro _hq)))
  ((try refine aw_ret ?_); refine ret_auto2 (by rfl) (by rfl) (by rfl) (by repeat (first | exact trivial | refine ⟨by first | rfl | omega, ?_⟩)) ?_ (by repeat (first | exact trivial | refine ⟨by rfl, by rfl, ?_⟩)) (by repeat (first | exact trivial | refine ⟨by rfl, by rfl, ?_⟩)); try rfl)
theorem k_gtI1 (a b : Int) (h : gok 8 ⟨1, a, b, 0⟩ = true) : Kon Tryz.prog 23 [gV ⟨1, a, b, 0⟩] [] (vS (gtT ⟨1, a, b, 0⟩)) [] [] := by
  obtain ⟨_, _, ha, hb, _⟩ := gok_bd h
  dsimp only at ha hb
  have l1 : (decDigits a.toNat).length = 1 := dx_len (x := a) (by omega)
  have l2 : (decDigits b.toNat).length = 1 := dx_len (x := b) (by omega)
  have l0 := gnm_len 1
  have hV := k_gv 8 ⟨1, a, b, 0⟩
  rw [h] at hV
  have hN := k_nat1 ⟨1, a, b, 0⟩ ⟨by dsimp only; omega, by dsimp only; omega⟩
  have hS : Kon Tryz.prog 49 [gV ⟨1, a, b, 0⟩, vI 3] [] (slA 0 0 [a, b]) [iRow [a, b]] [] := k_some _ 3 (by decide)
  have hJ := k_jo [gnm 1, dx a, dx b] (gnm 1 ++ [32] ++ dx a ++ [32] ++ dx b) (join_3 _ _ _ _) (by simp) (by simp only [dx, List.length_append, List.length_cons, List.length_nil]; omega)
  (refine kon_mk T0ok (fn := Tryz.f23) (c := Tryz.f23.body.get rfl) Tryz.func23 rfl (by rfl) (by rfl) (by rfl) ?_; intro hfit hfe)
  (repeat (first | refine gq_DT ?_ | (refine ga_DT ?_; intro _hq)))
  refine aw_unroll 4 ?_
  (repeat (first | refine gq_DT ?_ | (refine ga_DT ?_; intro _hq)))
  ((try refine aw_ret ?_); refine ret_auto2 (by rfl) (by rfl) (by rfl) (by repeat (first | exact trivial | refine ⟨by first | rfl | omega, ?_⟩)) ?_ (by repeat (first | exact trivial | refine ⟨by rfl, by rfl, ?_⟩)) (by repeat (first | exact trivial | refine ⟨by rfl, by rfl, ?_⟩)); try rfl)
theorem k_gtI3 (a b : Int) (h : gok 8 ⟨3, a, b, 0⟩ = true) : Kon Tryz.prog 23 [gV ⟨3, a, b, 0⟩] [] (vS (gtT ⟨3, a, b, 0⟩)) [] [] := by
  obtain ⟨_, _, ha, hb, _⟩ := gok_bd h
  dsimp only at ha hb
  have l1 : (decDigits a.toNat).length = 1 := dx_len (x := a) (by omega)
  have l2 : (decDigits b.toNat).length = 1 := dx_len (x := b) (by omega)
  have l0 := gnm_len 3
  have hV := k_gv 8 ⟨3, a, b, 0⟩
  rw [h] at hV
  have hN := k_nat1 ⟨3, a, b, 0⟩ ⟨by dsimp only; omega, by dsimp only; omega⟩
  have hS : Kon Tryz.prog 49 [gV ⟨3, a, b, 0⟩, vI 3] [] (slA 0 0 [a, b]) [iRow [a, b]] [] := k_some _ 3 (by decide)
  have hJ := k_jo [gnm 3, dx a, dx b] (gnm 3 ++ [32] ++ dx a ++ [32] ++ dx b) (join_3 _ _ _ _) (by simp) (by simp only [dx, List.length_append, List.length_cons, List.length_nil]; omega)
  (refine kon_mk T0ok (fn := Tryz.f23) (c := Tryz.f23.body.get rfl) Tryz.func23 rfl (by rfl) (by rfl) (by rfl) ?_; intro hfit hfe)
  (repeat (first | refine gq_DT ?_ | (refine ga_DT ?_; intro _hq)))
  refine aw_unroll 4 ?_
  (repeat (first | refine gq_DT ?_ | (refine ga_DT ?_; intro _hq)))
  ((try refine aw_ret ?_); refine ret_auto2 (by rfl) (by rfl) (by rfl) (by repeat (first | exact trivial | refine ⟨by first | rfl | omega, ?_⟩)) ?_ (by repeat (first | exact trivial | refine ⟨by rfl, by rfl, ?_⟩)) (by repeat (first | exact trivial | refine ⟨by rfl, by rfl, ?_⟩)); try rfl)
theorem k_gtI2 (a b c : Int) (h : gok 8 ⟨2, a, b, c⟩ = true) : Kon Tryz.prog 23 [gV ⟨2, a, b, c⟩] [] (vS (gtT ⟨2, a, b, c⟩)) [] [] := by
  obtain ⟨_, _, ha, hb, hc⟩ := gok_bd h
  dsimp only at ha hb hc
  have l1 : (decDigits a.toNat).length = 1 := dx_len (x := a) (by omega)
  have l2 : (decDigits b.toNat).length = 1 := dx_len (x := b) (by omega)
  have l3 : (decDigits c.toNat).length = 1 := dx_len (x := c) (by omega)
  have l0 := gnm_len 2
  have hV := k_gv 8 ⟨2, a, b, c⟩
  rw [h] at hV
  have hN := k_nat1 ⟨2, a, b, c⟩ ⟨by dsimp only; omega, by dsimp only; omega⟩
  have hS : Kon Tryz.prog 49 [gV ⟨2, a, b, c⟩, vI 7] [] (slA 0 0 [a, b, c]) [iRow [a, b, c]] [] := k_some _ 7 (by decide)
  have hJ := k_jo [gnm 2, dx a, dx b, dx c] (gnm 2 ++ [32] ++ dx a ++ [32] ++ dx b ++ [32] ++ dx c) (join_4 _ _ _ _ _) (by simp) (by simp only [dx, List.length_append, List.length_cons, List.length_nil]; omega)
  (refine kon_mk T0ok (fn := Tryz.f23) (c := Tryz.f23.body.get rfl) Tryz.func23 rfl (by rfl) (by rfl) (by rfl) ?_; intro hfit hfe)
  (repeat (first | refine gq_DT ?_ | (refine ga_DT ?_; intro _hq)))
  refine aw_unroll 4 ?_
  (repeat (first | refine gq_DT ?_ | (refine ga_DT ?_; intro _hq)))
  ((try refine aw_ret ?_); refine ret_auto2 (by rfl) (by rfl) (by rfl) (by repeat (first | exact trivial | refine ⟨by first | rfl | omega, ?_⟩)) ?_ (by repeat (first | exact trivial | refine ⟨by rfl, by rfl, ?_⟩)) (by repeat (first | exact trivial | refine ⟨by rfl, by rfl, ?_⟩)); try rfl)
theorem k_gtI4 (a b c : Int) (h : gok 8 ⟨4, a, b, c⟩ = true) : Kon Tryz.prog 23 [gV ⟨4, a, b, c⟩] [] (vS (gtT ⟨4, a, b, c⟩)) [] [] := by
  obtain ⟨_, _, ha, hb, hc⟩ := gok_bd h
  dsimp only at ha hb hc
  have l1 : (decDigits a.toNat).length = 1 := dx_len (x := a) (by omega)
  have l2 : (decDigits b.toNat).length = 1 := dx_len (x := b) (by omega)
  have l3 : (decDigits c.toNat).length = 1 := dx_len (x := c) (by omega)
  have l0 := gnm_len 4
  have hV := k_gv 8 ⟨4, a, b, c⟩
  rw [h] at hV
  have hN := k_nat1 ⟨4, a, b, c⟩ ⟨by dsimp only; omega, by dsimp only; omega⟩
  have hS : Kon Tryz.prog 49 [gV ⟨4, a, b, c⟩, vI 7] [] (slA 0 0 [a, b, c]) [iRow [a, b, c]] [] := k_some _ 7 (by decide)
  have hJ := k_jo [gnm 4, dx a, dx b, dx c] (gnm 4 ++ [32] ++ dx a ++ [32] ++ dx b ++ [32] ++ dx c) (join_4 _ _ _ _ _) (by simp) (by simp only [dx, List.length_append, List.length_cons, List.length_nil]; omega)
  (refine kon_mk T0ok (fn := Tryz.f23) (c := Tryz.f23.body.get rfl) Tryz.func23 rfl (by rfl) (by rfl) (by rfl) ?_; intro hfit hfe)
  (repeat (first | refine gq_DT ?_ | (refine ga_DT ?_; intro _hq)))
  refine aw_unroll 4 ?_
  (repeat (first | refine gq_DT ?_ | (refine ga_DT ?_; intro _hq)))
  ((try refine aw_ret ?_); refine ret_auto2 (by rfl) (by rfl) (by rfl) (by repeat (first | exact trivial | refine ⟨by first | rfl | omega, ?_⟩)) ?_ (by repeat (first | exact trivial | refine ⟨by rfl, by rfl, ?_⟩)) (by repeat (first | exact trivial | refine ⟨by rfl, by rfl, ?_⟩)); try rfl)
theorem k_gtI (g : Gt) : Kon Tryz.prog 23 [gV g] [] (vS (gtx g)) [] [] := by
  unfold gtx
  cases h : gok 8 g with
  | false =>
    have hV := k_gv 8 g
    rw [h] at hV
    rw [if_neg (by decide)]
    (refine kon_mk T0ok (fn := Tryz.f23) (c := Tryz.f23.body.get rfl) Tryz.func23 rfl (by rfl) (by rfl) (by rfl) ?_; intro hfit hfe)
    (repeat (first | refine gq_DT ?_ | (refine ga_DT ?_; intro _hq)))
    ((try refine aw_ret ?_); refine ret_auto2 (by rfl) (by rfl) (by rfl) (by repeat (first | exact trivial | refine ⟨by first | rfl | omega, ?_⟩)) ?_ (by repeat (first | exact trivial | refine ⟨by rfl, by rfl, ?_⟩)) (by repeat (first | exact trivial | refine ⟨by rfl, by rfl, ?_⟩)); try rfl)
  | true =>
    rw [if_pos rfl]
    obtain ⟨_, hf⟩ := gok_facts h
    obtain ⟨k, a, b, c⟩ := g
    dsimp only at hf
    rcases hf with ⟨rfl, _, rfl, rfl⟩ | ⟨rfl | rfl, _, _, _, rfl⟩ | ⟨rfl | rfl, _, _, _, _⟩
    · exact k_gtI0 a h
    · exact k_gtI1 a b h
    · exact k_gtI3 a b h
    · exact k_gtI2 a b c h
    · exact k_gtI4 a b c h
theorem k_gtS (g : Gt) : Kon Tryz.prog 25 [gV g] [] (vS (gtx g)) [] [] := by
  unfold gtx
  have hV := k_gvS 8 g (by decide)
  cases h : gok 8 g with
  | false =>
    rw [h] at hV
    rw [if_neg (by decide)]
    (refine kon_mk T0ok (fn := Tryz.f25) (c := Tryz.f25.body.get rfl) Tryz.func25 rfl (by rfl) (by rfl) (by rfl) ?_; intro hfit hfe)
    (repeat (first | refine gq_DT ?_ | (refine ga_DT ?_; intro _hq)))
    ((try refine aw_ret ?_); refine ret_auto2 (by rfl) (by rfl) (by rfl) (by repeat (first | exact trivial | refine ⟨by first | rfl | omega, ?_⟩)) ?_ (by repeat (first | exact trivial | refine ⟨by rfl, by rfl, ?_⟩)) (by repeat (first | exact trivial | refine ⟨by rfl, by rfl, ?_⟩)); try rfl)
  | true =>
    rw [h] at hV
    rw [if_pos rfl]
    obtain ⟨_, hkk, ha, hb, hc⟩ := gok_bd h
    obtain ⟨_, hf⟩ := gok_facts h
    have hS := k_linesS g
    obtain ⟨k, a, b, c⟩ := g
    dsimp only at hf ha hb hc hkk hS
    have hK := k_kindS k hkk
    have l0 := gnm_len k
    have l1 : (decDigits a.toNat).length = 1 := dx_len (x := a) (by omega)
    have l2 : (decDigits b.toNat).length = 1 := dx_len (x := b) (by omega)
    have l3 : (decDigits c.toNat).length = 1 := dx_len (x := c) (by omega)
    have fin : ∀ L : List Int, lns ⟨k, a, b, c⟩ = L → Kon Tryz.prog 53 [gV ⟨k, a, b, c⟩] [] (slA 0 0 L) [iRow L] [] := fun L e => e ▸ hS
    clear hS
    rcases hf with ⟨rfl, _, rfl, rfl⟩ | ⟨rfl | rfl, _, _, _, rfl⟩ | ⟨rfl | rfl, _, _, _, _⟩
    · have hS := fin [a] rfl
      clear fin
      (refine kon_mk T0ok (fn := Tryz.f25) (c := Tryz.f25.body.get rfl) Tryz.func25 rfl (by rfl) (by rfl) (by rfl) ?_; intro hfit hfe)
      (repeat (first | refine gq_DT ?_ | (refine ga_DT ?_; intro _hq)))
      refine aw_unroll 4 ?_
      (repeat (first | refine gq_DT ?_ | (refine ga_DT ?_; intro _hq)))
      ((try refine aw_ret ?_); refine ret_auto2 (by rfl) (by rfl) (by rfl) (by repeat (first | exact trivial | refine ⟨by first | rfl | omega, ?_⟩)) ?_ (by repeat (first | exact trivial | refine ⟨by rfl, by rfl, ?_⟩)) (by repeat (first | exact trivial | refine ⟨by rfl, by rfl, ?_⟩)); try rfl)
    · have hS := fin [a, b] rfl
      clear fin
      (refine kon_mk T0ok (fn := Tryz.f25) (c := Tryz.f25.body.get rfl) Tryz.func25 rfl (by rfl) (by rfl) (by rfl) ?_; intro hfit hfe)
      (repeat (first | refine gq_DT ?_ | (refine ga_DT ?_; intro _hq)))
      refine aw_unroll 4 ?_
      (repeat (first | refine gq_DT ?_ | (refine ga_DT ?_; intro _hq)))
      ((try refine aw_ret ?_); refine ret_auto2 (by rfl) (by rfl) (by rfl) (by repeat (first | exact trivial | refine ⟨by first | rfl | omega, ?_⟩)) ?_ (by repeat (first | exact trivial | refine ⟨by rfl, by rfl, ?_⟩)) (by repeat (first | exact trivial | refine ⟨by rfl, by rfl, ?_⟩)); try rfl)
    · have hS := fin [a, b] rfl
      clear fin
      (refine kon_mk T0ok (fn := Tryz.f25) (c := Tryz.f25.body.get rfl) Tryz.func25 rfl (by rfl) (by rfl) (by rfl) ?_; intro hfit hfe)
      (repeat (first | refine gq_DT ?_ | (refine ga_DT ?_; intro _hq)))
      refine aw_unroll 4 ?_
      (repeat (first | refine gq_DT ?_ | (refine ga_DT ?_; intro _hq)))
      ((try refine aw_ret ?_); refine ret_auto2 (by rfl) (by rfl) (by rfl) (by repeat (first | exact trivial | refine ⟨by first | rfl | omega, ?_⟩)) ?_ (by repeat (first | exact trivial | refine ⟨by rfl, by rfl, ?_⟩)) (by repeat (first | exact trivial | refine ⟨by rfl, by rfl, ?_⟩)); try rfl)
    · have hS := fin [a, b, c] rfl
      clear fin
      (refine kon_mk T0ok (fn := Tryz.f25) (c := Tryz.f25.body.get rfl) Tryz.func25 rfl (by rfl) (by rfl) (by rfl) ?_; intro hfit hfe)
      (repeat (first | refine gq_DT ?_ | (refine ga_DT ?_; intro _hq)))
      refine aw_unroll 4 ?_
      (repeat (first | refine gq_DT ?_ | (refine ga_DT ?_; intro _hq)))
      ((try refine aw_ret ?_); refine ret_auto2 (by rfl) (by rfl) (by rfl) (by repeat (first | exact trivial | refine ⟨by first | rfl | omega, ?_⟩)) ?_ (by repeat (first | exact trivial | refine ⟨by rfl, by rfl, ?_⟩)) (by repeat (first | exact trivial | refine ⟨by rfl, by rfl, ?_⟩)); try rfl)
    · have hS := fin [a, b, c] rfl
      clear fin
      (refine kon_mk T0ok (fn := Tryz.f25) (c := Tryz.f25.body.get rfl) Tryz.func25 rfl (by rfl) (by rfl) (by rfl) ?_; intro hfit hfe)
      (repeat (first | refine gq_DT ?_ | (refine ga_DT ?_; intro _hq)))
      refine aw_unroll 4 ?_
      (repeat (first | refine gq_DT ?_ | (refine ga_DT ?_; intro _hq)))
      ((try refine aw_ret ?_); refine ret_auto2 (by rfl) (by rfl) (by rfl) (by repeat (first | exact trivial | refine ⟨by first | rfl | omega, ?_⟩)) ?_ (by repeat (first | exact trivial | refine ⟨by rfl, by rfl, ?_⟩)) (by repeat (first | exact trivial | refine ⟨by rfl, by rfl, ?_⟩)); try rfl)
end Go.Proofs.YtgphlcdinejmdaaGreatDoor
