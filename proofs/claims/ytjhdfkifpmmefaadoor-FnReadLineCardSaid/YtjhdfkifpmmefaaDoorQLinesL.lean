/- ShlB, LJ, LL: laid into one text. -/
import Derived.Test.YtjhdfkifpmmefaaDoorQLinesF
import Derived.Test.YtjhdfkifpmmefaaDoorQLinesJ
import Derived.Shelf.Lays
import Derived.Shelf.LaysC
import Derived.Shelf.Strconv.AtoiAll
import Derived.Shelf.Strings.Split
import Derived.Test.YtjhdfkifpmmefaaDoorProg
import Derived.Lib.AtoiErrMem

/- Contracts of Go's library at this program. -/
namespace Go.Proofs.YtjhdfkifpmmefaaDoor
set_option linter.unusedVariables false
open Go.Shelf Go.RowKit Go.Lib
def Tryd.laysC172_ren : Go.Shelf.Ren := ⟨fun | 172 => 44 | 244 => 70 | 245 => 71 | 247 => 84 | 279 => 85 | 280 => 86 | 281 => 87 | 282 => 88 | 287 => 101 | 316 => 102 | 171 => 36 | 205 => 103 | 321 => 114 | 322 => 115 | 243 => 63 | 246 => 79 | 283 => 92 | 284 => 93 | 285 => 94 | 286 => 95 | 129 => 105 | 317 => 104 | 318 => 106 | 319 => 107 | 320 => 108 | 337 => 116 | 338 => 117 | n => n, fun | 9 => 9 | 3 => 3 | 75 => 65 | 76 => 66 | 4 => 4 | 5 => 5 | 167 => 106 | 37 => 28 | 0 => 0 | 85 => 107 | 2 => 2 | 168 => 109 | 53 => 117 | 175 => 126 | 46 => 128 | 210 => 131 | 127 => 98 | 145 => 141 | 143 => 139 | 21 => 21 | 171 => 116 | 173 => 120 | 212 => 134 | 51 => 135 | 20 => 20 | 213 => 136 | 232 => 149 | 233 => 150 | 80 => 81 | n => n, fun | 15 => 0 | 16 => 1 | 17 => 2 | 18 => 6 | 19 => 7 | n => n⟩
theorem Tryd.laysC172 : Go.Proofs.LaysC.n172 Tryd.prog Tryd.laysC172_ren := {
  mixed := by kernel_rfl
  f129 := Tryd.func105.trans (congrArg some (by kernel_rfl))
  f171 := Tryd.func36.trans (congrArg some (by kernel_rfl))
  f172 := Tryd.func44.trans (congrArg some (by kernel_rfl))
  f205 := Tryd.func103.trans (congrArg some (by kernel_rfl))
  f243 := Tryd.func63.trans (congrArg some (by kernel_rfl))
  f244 := Tryd.func70.trans (congrArg some (by kernel_rfl))
  f245 := Tryd.func71.trans (congrArg some (by kernel_rfl))
  f246 := Tryd.func79.trans (congrArg some (by kernel_rfl))
  f247 := Tryd.func84.trans (congrArg some (by kernel_rfl))
  f279 := Tryd.func85.trans (congrArg some (by kernel_rfl))
  f280 := Tryd.func86.trans (congrArg some (by kernel_rfl))
  f281 := Tryd.func87.trans (congrArg some (by kernel_rfl))
  f282 := Tryd.func88.trans (congrArg some (by kernel_rfl))
  f283 := Tryd.func92.trans (congrArg some (by kernel_rfl))
  f284 := Tryd.func93.trans (congrArg some (by kernel_rfl))
  f285 := Tryd.func94.trans (congrArg some (by kernel_rfl))
  f286 := Tryd.func95.trans (congrArg some (by kernel_rfl))
  f287 := Tryd.func101.trans (congrArg some (by kernel_rfl))
  f316 := Tryd.func102.trans (congrArg some (by kernel_rfl))
  f317 := Tryd.func104.trans (congrArg some (by kernel_rfl))
  f318 := Tryd.func106.trans (congrArg some (by kernel_rfl))
  f319 := Tryd.func107.trans (congrArg some (by kernel_rfl))
  f320 := Tryd.func108.trans (congrArg some (by kernel_rfl))
  f321 := Tryd.func114.trans (congrArg some (by kernel_rfl))
  f322 := Tryd.func115.trans (congrArg some (by kernel_rfl))
  f337 := Tryd.func116.trans (congrArg some (by kernel_rfl))
  f338 := Tryd.func117.trans (congrArg some (by kernel_rfl))
  t0 := Tryd.underlying0
  a0 := Tryd.isAgg0
  z0 := Tryd.sizeOf0
  v0 := Tryd.zeroValue0
  t2 := Tryd.underlying2
  a2 := Tryd.isAgg2
  z2 := Tryd.sizeOf2
  v2 := Tryd.zeroValue2
  t3 := Tryd.underlying3
  a3 := Tryd.isAgg3
  z3 := Tryd.sizeOf3
  v3 := Tryd.zeroValue3
  t4 := Tryd.underlying4
  a4 := Tryd.isAgg4
  z4 := Tryd.sizeOf4
  v4 := Tryd.zeroValue4
  t5 := Tryd.underlying5
  a5 := Tryd.isAgg5
  z5 := Tryd.sizeOf5
  v5 := Tryd.zeroValue5
  t9 := Tryd.underlying9
  a9 := Tryd.isAgg9
  z9 := Tryd.sizeOf9
  v9 := Tryd.zeroValue9
  t20 := Tryd.underlying20
  a20 := Tryd.isAgg20
  z20 := Tryd.sizeOf20
  v20 := Tryd.zeroValue20
  t21 := Tryd.underlying21
  a21 := Tryd.isAgg21
  z21 := Tryd.sizeOf21
  v21 := Tryd.zeroValue21
  t37 := Tryd.underlying28
  a37 := Tryd.isAgg28
  z37 := Tryd.sizeOf28
  v37 := Tryd.zeroValue28
  t46 := Tryd.underlying128
  a46 := Tryd.isAgg128
  z46 := Tryd.sizeOf128
  v46 := Tryd.zeroValue128
  t51 := Tryd.underlying135
  a51 := Tryd.isAgg135
  z51 := Tryd.sizeOf135
  v51 := Tryd.zeroValue135
  t53 := Tryd.underlying117
  a53 := Tryd.isAgg117
  z53 := Tryd.sizeOf117
  v53 := Tryd.zeroValue117
  t75 := Tryd.underlying65
  a75 := Tryd.isAgg65
  z75 := Tryd.sizeOf65
  v75 := Tryd.zeroValue65
  t76 := Tryd.underlying66
  a76 := Tryd.isAgg66
  z76 := Tryd.sizeOf66
  v76 := Tryd.zeroValue66
  t85 := Tryd.underlying107
  a85 := Tryd.isAgg107
  z85 := Tryd.sizeOf107
  v85 := Tryd.zeroValue107
  t127 := Tryd.underlying98
  a127 := Tryd.isAgg98
  z127 := Tryd.sizeOf98
  v127 := Tryd.zeroValue98
  t143 := Tryd.underlying139
  a143 := Tryd.isAgg139
  z143 := Tryd.sizeOf139
  v143 := Tryd.zeroValue139
  t145 := Tryd.underlying141
  a145 := Tryd.isAgg141
  z145 := Tryd.sizeOf141
  v145 := Tryd.zeroValue141
  t167 := Tryd.underlying106
  a167 := Tryd.isAgg106
  z167 := Tryd.sizeOf106
  v167 := Tryd.zeroValue106
  t168 := Tryd.underlying109
  a168 := Tryd.isAgg109
  z168 := Tryd.sizeOf109
  v168 := Tryd.zeroValue109
  t171 := Tryd.underlying116
  a171 := Tryd.isAgg116
  z171 := Tryd.sizeOf116
  v171 := Tryd.zeroValue116
  t173 := Tryd.underlying120
  a173 := Tryd.isAgg120
  z173 := Tryd.sizeOf120
  v173 := Tryd.zeroValue120
  t175 := Tryd.underlying126
  a175 := Tryd.isAgg126
  z175 := Tryd.sizeOf126
  v175 := Tryd.zeroValue126
  t210 := Tryd.underlying131
  a210 := Tryd.isAgg131
  z210 := Tryd.sizeOf131
  v210 := Tryd.zeroValue131
  t212 := Tryd.underlying134
  a212 := Tryd.isAgg134
  z212 := Tryd.sizeOf134
  v212 := Tryd.zeroValue134
  t213 := Tryd.underlying136
  a213 := Tryd.isAgg136
  z213 := Tryd.sizeOf136
  t232 := Tryd.underlying149
  a232 := Tryd.isAgg149
  z232 := Tryd.sizeOf149
  v232 := Tryd.zeroValue149
  t233 := Tryd.underlying150
  a233 := Tryd.isAgg150
  z233 := Tryd.sizeOf150
  v233 := Tryd.zeroValue150
  g15 := by kernel_rfl
  g16 := by kernel_rfl
  g17 := by kernel_rfl
  g18 := by kernel_rfl
  g19 := by kernel_rfl
  t80 := Tryd.underlying81
  a80 := Tryd.isAgg81
  z80 := Tryd.sizeOf81
  v80 := Tryd.zeroValue81
  i0 := by kernel_rfl
  i2 := by kernel_rfl
  i3 := by kernel_rfl
  i4 := by kernel_rfl
  i5 := by kernel_rfl
  i9 := by kernel_rfl
  i20 := by kernel_rfl
  i21 := by kernel_rfl
  i37 := by kernel_rfl
  i46 := by kernel_rfl
  i51 := by kernel_rfl
  i53 := by kernel_rfl
  i75 := by kernel_rfl
  i76 := by kernel_rfl
  i80 := by kernel_rfl
  i85 := by kernel_rfl
  i127 := by kernel_rfl
  i143 := by kernel_rfl
  i145 := by kernel_rfl
  i167 := by kernel_rfl
  i168 := by kernel_rfl
  i171 := by kernel_rfl
  i173 := by kernel_rfl
  i175 := by kernel_rfl
  i210 := by kernel_rfl
  i212 := by kernel_rfl
  i232 := by kernel_rfl
  i233 := by kernel_rfl
  m15 := by kernel_rfl
  m16 := by kernel_rfl
  m17 := by kernel_rfl
  m18 := by kernel_rfl
  m19 := by kernel_rfl
  c0 := by kernel_rfl
  c2 := by kernel_rfl
  c3 := by kernel_rfl
  c4 := by kernel_rfl
  c5 := by kernel_rfl
  c9 := by kernel_rfl
  c20 := by kernel_rfl
  c21 := by kernel_rfl
  c37 := by kernel_rfl
  c46 := by kernel_rfl
  c51 := by kernel_rfl
  c53 := by kernel_rfl
  c75 := by kernel_rfl
  c76 := by kernel_rfl
  c80 := by kernel_rfl
  c85 := by kernel_rfl
  c127 := by kernel_rfl
  c143 := by kernel_rfl
  c145 := by kernel_rfl
  c167 := by kernel_rfl
  c168 := by kernel_rfl
  c171 := by kernel_rfl
  c173 := by kernel_rfl
  c175 := by kernel_rfl
  c210 := by kernel_rfl
  c212 := by kernel_rfl
  c213 := by kernel_rfl
  c232 := by kernel_rfl
  c233 := by kernel_rfl }
theorem Tryd.strconv_Atoi_ok (s : ByteArray) (hmax : s.size ≤ 9223372036854775806) (v : Int) (h : Lib.atoiAll s.data.toList = .ok v) (w : World) :
    Calls Tryd.prog 44 #[.string s] w fun e w' => e = .returned (.tuple #[.int .i64 v, .nilIface]) ∧ (w' = w ∨ ∃ t, w' = Lib.bytesWorld w 5 t) := Any.strconv_Atoi_ok Tryd.laysC172 s hmax v h w
theorem Tryd.strconv_Atoi_syntax (s : ByteArray) (hlim : s.size ≤ 281474976710656) (h : Lib.atoiAll s.data.toList = Lib.atoiAll []) (ev : Value) (w : World) (hv : w.cell? ⟨0, 0, none⟩ = some ev) (hev : ev = .nilIface ∨ ∃ te pe, ev = .iface te pe) :
    Calls Tryd.prog 44 #[.string s] w fun e w' => ∃ N, e = .returned (.tuple #[.int .i64 (0), .iface 109 (.pointer (some ⟨N, 0, none⟩))]) ∧ w.heap.size ≤ N ∧ w'.heap[N]? = some (.cells #[.string ⟨#[65, 116, 111, 105]⟩, .string s, ev] 131 (0, 0)) ∧ Below w.heap.size w w' := Any.strconv_Atoi_syntax Tryd.laysC172 s hlim h ev w hv hev
theorem Tryd.strconv_Atoi_range (s : ByteArray) (hlim : s.size ≤ 281474976710656) (h : Lib.atoiAll s.data.toList = .range) (ev : Value) (w : World) (hv : w.cell? ⟨1, 0, none⟩ = some ev) (hev : ev = .nilIface ∨ ∃ te pe, ev = .iface te pe) :
    Calls Tryd.prog 44 #[.string s] w fun e w' => ∃ N, e = .returned (.tuple #[.int .i64 (Lib.atoiSat s.data.toList), .iface 109 (.pointer (some ⟨N, 0, none⟩))]) ∧ w.heap.size ≤ N ∧ w'.heap[N]? = some (.cells #[.string ⟨#[65, 116, 111, 105]⟩, .string s, ev] 131 (0, 0)) ∧ Below w.heap.size w w' := Any.strconv_Atoi_range Tryd.laysC172 s hlim h ev w hv hev
def Tryd.lays146_ren : Go.Shelf.Ren := ⟨fun | 146 => 43 | 221 => 69 | 268 => 81 | 138 => 82 | 143 => 83 | 195 => 97 | 197 => 98 | 218 => 99 | 219 => 100 | 260 => 109 | 217 => 110 | 225 => 111 | 224 => 112 | 267 => 113 | 266 => 118 | 314 => 119 | n => n, fun | 9 => 9 | 31 => 53 | 3 => 3 | 4 => 4 | 0 => 0 | 105 => 123 | 21 => 21 | 5 => 5 | 46 => 128 | 119 => 143 | 139 => 146 | 138 => 145 | 146 => 147 | 51 => 135 | n => n, fun | 1 => 3 | 3 => 4 | 4 => 5 | n => n⟩
theorem Tryd.lays146 : Go.Proofs.Lays.n146 Tryd.prog Tryd.lays146_ren := {
  mixed := by kernel_rfl
  f138 := Tryd.func82.trans (congrArg some (by kernel_rfl))
  f143 := Tryd.func83.trans (congrArg some (by kernel_rfl))
  f146 := Tryd.func43.trans (congrArg some (by kernel_rfl))
  f195 := Tryd.func97.trans (congrArg some (by kernel_rfl))
  f197 := Tryd.func98.trans (congrArg some (by kernel_rfl))
  f217 := Tryd.func110.trans (congrArg some (by kernel_rfl))
  f218 := Tryd.func99.trans (congrArg some (by kernel_rfl))
  f219 := Tryd.func100.trans (congrArg some (by kernel_rfl))
  f221 := Tryd.func69.trans (congrArg some (by kernel_rfl))
  f224 := Tryd.func112.trans (congrArg some (by kernel_rfl))
  f225 := Tryd.func111.trans (congrArg some (by kernel_rfl))
  f260 := Tryd.func109.trans (congrArg some (by kernel_rfl))
  f266 := Tryd.func118.trans (congrArg some (by kernel_rfl))
  f267 := Tryd.func113.trans (congrArg some (by kernel_rfl))
  f268 := Tryd.func81.trans (congrArg some (by kernel_rfl))
  f314 := Tryd.func119.trans (congrArg some (by kernel_rfl))
  t0 := Tryd.underlying0
  a0 := Tryd.isAgg0
  z0 := Tryd.sizeOf0
  v0 := Tryd.zeroValue0
  t3 := Tryd.underlying3
  a3 := Tryd.isAgg3
  z3 := Tryd.sizeOf3
  v3 := Tryd.zeroValue3
  t4 := Tryd.underlying4
  a4 := Tryd.isAgg4
  z4 := Tryd.sizeOf4
  v4 := Tryd.zeroValue4
  t5 := Tryd.underlying5
  a5 := Tryd.isAgg5
  z5 := Tryd.sizeOf5
  v5 := Tryd.zeroValue5
  t9 := Tryd.underlying9
  a9 := Tryd.isAgg9
  z9 := Tryd.sizeOf9
  v9 := Tryd.zeroValue9
  t21 := Tryd.underlying21
  a21 := Tryd.isAgg21
  z21 := Tryd.sizeOf21
  v21 := Tryd.zeroValue21
  t31 := Tryd.underlying53
  a31 := Tryd.isAgg53
  z31 := Tryd.sizeOf53
  v31 := Tryd.zeroValue53
  t46 := Tryd.underlying128
  a46 := Tryd.isAgg128
  z46 := Tryd.sizeOf128
  v46 := Tryd.zeroValue128
  t51 := Tryd.underlying135
  a51 := Tryd.isAgg135
  z51 := Tryd.sizeOf135
  v51 := Tryd.zeroValue135
  t105 := Tryd.underlying123
  a105 := Tryd.isAgg123
  z105 := Tryd.sizeOf123
  v105 := Tryd.zeroValue123
  t119 := Tryd.underlying143
  a119 := Tryd.isAgg143
  z119 := Tryd.sizeOf143
  t138 := Tryd.underlying145
  a138 := Tryd.isAgg145
  z138 := Tryd.sizeOf145
  v138 := Tryd.zeroValue145
  t139 := Tryd.underlying146
  a139 := Tryd.isAgg146
  z139 := Tryd.sizeOf146
  v139 := Tryd.zeroValue146
  t146 := Tryd.underlying147
  a146 := Tryd.isAgg147
  z146 := Tryd.sizeOf147
  v146 := Tryd.zeroValue147
  g1 := by kernel_rfl
  g3 := by kernel_rfl
  g4 := by kernel_rfl }
theorem Tryd.strings_Split (s sep : ByteArray) (m : Int) (w : World) (hs : s.size < 4294967281) (hm : w.cell? ⟨3, 0, none⟩ = some (.int .i64 m)) (h1 : 1 ≤ sep.size) :
    Calls Tryd.prog 43 #[.string s, .string sep] w fun e w' =>
      e = .returned (.slice (some ⟨w.heap.size, 0, none⟩) (Lib.countB s sep + 1) (Lib.countB s sep + 1)) ∧ w' = w.alloc (.cells ((Lib.splitB sep 0 (Lib.countB s sep) s).map Value.string).toArray 9) := Any.strings_Split Tryd.lays146 (by kernel_rfl) s sep m w hs hm h1
end Go.Proofs.YtjhdfkifpmmefaaDoor

/- strings.Split at a space and strconv.Atoi, by the library's contracts. -/
namespace Go.Proofs.YtjhdfkifpmmefaaDoor
set_option linter.unusedVariables false
set_option linter.unusedSimpArgs false
set_option maxRecDepth 20000
open Go.RowKit
theorem str_data (b : ByteArray) : str b.data.toList = b := by
  obtain ⟨⟨l⟩⟩ := b
  rfl
theorem map_str {L : List ByteArray} {M : List (List UInt8)} (h : L.map (·.data.toList) = M) : L = M.map str := by
  rw [← h, List.map_map]
  conv => lhs; rw [← List.map_id L]
  apply List.map_congr_left
  intro a _
  exact (str_data a).symm
theorem cV_strs : ∀ M : List (List UInt8), cV M = M.map fun l => Value.string (str l)
  | [] => rfl
  | a :: M => by rw [cV_cons, cV_strs M]; rfl
/-- The one argument. -/
theorem args1 {w : World} {ok : Nat → Prop} {x : Value} {vs : Array Value} (hsz : vs.size = [AV.g (.one (.v x))].length) (h : Args0 w ok [.g (.one (.v x))] vs) : vs = #[x] := by
  obtain ⟨z, hz, hr⟩ := h 0 _ rfl
  obtain ⟨xs⟩ := vs
  match xs, hsz with
  | [y], _ =>
    cases hz
    rw [show y = x from hr.1]
theorem args2 {w : World} {ok : Nat → Prop} {x x' : Value} {vs : Array Value} (hsz : vs.size = [AV.g (.one (.v x)), AV.g (.one (.v x'))].length) (h : Args0 w ok [.g (.one (.v x)), .g (.one (.v x'))] vs) : vs = #[x, x'] := by
  obtain ⟨z, hz, hr⟩ := h 0 _ rfl
  obtain ⟨z', hz', hr'⟩ := h 1 _ rfl
  obtain ⟨xs⟩ := vs
  match xs, hsz with
  | [y, y'], _ =>
    cases hz
    cases hz'
    rw [show y = x from hr.1, show y' = x' from hr'.1]
theorem alloc_new (w : World) (o : Obj) : (w.alloc o).heap[w.heap.size]? = some o := by
  show (w.heap.push o)[w.heap.size]? = _
  simp
theorem k_split (s : List UInt8) (hs : s.length ≤ 7000000) : Kon Tryd.prog 43 [vS s, vS [32]] [] (slA 0 0 (cutA 32 [] s)) [sRow (cutA 32 [] s)] [] := by
  refine kon_row (Go.Proofs.enters_of Tryd.func43 (by kernel_rfl) rfl) rfl ?_
  intro w ok vs hg hok hsz hargs
  obtain rfl := args2 hsz hargs
  obtain ⟨⟨m, hm⟩, _⟩ := hg
  have h1 : (str s).size = s.length := rfl
  have hK := Tryd.strings_Split (str s) (str [32]) m w (by rw [h1]; omega) hm (by decide)
  have e1 : (Go.Lib.splitB (str [32]) 0 (Go.Lib.countB (str s) (str [32])) (str s)) = (cutA 32 [] s).map str := by
    refine map_str ?_
    rw [Go.Lib.splitB_data]
    exact split_cut 32 s.length s (Nat.le_refl _)
  have e2 : Go.Lib.countB (str s) (str [32]) + 1 = (cutA 32 [] s).length := by
    have := Go.Lib.splitB_all (str [32]) (by decide) 0 _ (str s) rfl
    rw [e1, List.length_map] at this
    exact this.symm
  rw [e1, e2] at hK
  have hlen := cutA_len 32 s []
  refine hK.mono ?_
  rintro en W' ⟨rfl, rfl⟩
  refine ⟨_, rfl, ⟨cV_len _, .inr ⟨w.heap.size, (cutA 32 [] s).length, _, rfl, Nat.le_refl _, alloc_new w _, Nat.le_refl _, by unfold maxLen; omega, ?_, ?_⟩⟩, (Below.refl _ _).alloc (Nat.le_refl _) _⟩
  · simp [Cel.sz]
  · have e3 : (((cutA 32 [] s).map str).map Value.string).toArray.toList = cV (cutA 32 [] s) := by
      rw [cV_strs, List.map_map]; rfl
    rw [e3]
    exact List.take_of_length_le (Nat.le_of_eq (cV_len _))
abbrev tupI (n : Int) (e : AC) : AV := .tup [.one (.v (.int .i64 n)), .one e]
theorem k_atoiOk (s : List UInt8) (v : Int) (hs : s.length ≤ 7000000) (h : Go.Lib.atoiAll s = .ok v) : Kon Tryd.prog 44 [vS s] [] (tupI v (.v .nilIface)) [] [] := by
  refine kon_pure (Go.Proofs.enters_of Tryd.func44 (by kernel_rfl) rfl) rfl rfl ?_
  intro w ok vs hg hok hsz hargs
  obtain rfl := args1 hsz hargs
  have h1 : (str s).size = s.length := rfl
  refine (Tryd.strconv_Atoi_ok (str s) (by rw [h1]; omega) v h w).mono ?_
  rintro en W' ⟨rfl, hw⟩
  refine ⟨_, rfl, ?_, fun β G ok' => ⟨_, rfl, rfl, ?_⟩⟩
  · rcases hw with rfl | ⟨t, rfl⟩
    · exact Below.refl _ _
    · exact Go.Lib.bytesWorld_below _ _ _
  · intro j x hj
    rcases j with _ | _ | j
    · cases hj; exact ⟨_, rfl, rfl, rfl⟩
    · cases hj; exact ⟨_, rfl, rfl, rfl⟩
    · simp at hj
theorem k_atoiNo (s : List UInt8) (hs : s.length ≤ 7000000) (h : ∀ v, Go.Lib.atoiAll s ≠ .ok v) : ∃ n : Int, Kon Tryd.prog 44 [vS s] [] (tupI n .er) [] [] := by
  have h1 : (str s).size = s.length := rfl
  have fin : ∀ (w W' : World) (n : Int) (N : Nat) (t : TypeId) (en : Ending), en = .returned (.tuple #[.int .i64 n, .iface t (.pointer (some ⟨N, 0, none⟩))]) → Below w.heap.size w W' → ∃ v, en = .returned v ∧ Below w.heap.size w W' ∧ ∀ β G ok', (tupI n .er).rep W' β G ok' v := by
    rintro w W' n N t en rfl hB
    refine ⟨_, rfl, hB, fun β G ok' => ⟨_, rfl, rfl, ?_⟩⟩
    intro j x hj
    rcases j with _ | _ | j
    · cases hj; exact ⟨_, rfl, rfl, rfl⟩
    · cases hj; exact ⟨_, rfl, rfl, _, _, rfl⟩
    · simp at hj
  cases ha : Go.Lib.atoiAll s with
  | ok v => exact absurd ha (h v)
  | range =>
    refine ⟨Go.Lib.atoiSat s, kon_pure (Go.Proofs.enters_of Tryd.func44 (by kernel_rfl) rfl) rfl rfl ?_⟩
    intro w ok vs hg hok hsz hargs
    obtain rfl := args1 hsz hargs
    obtain ⟨_, _, ⟨t, p, hc⟩⟩ := hg
    refine (Tryd.strconv_Atoi_range (str s) (by rw [h1]; omega) ha _ w hc (.inr ⟨t, p, rfl⟩)).mono ?_
    rintro en W' ⟨N, he, _, _, hB⟩
    exact fin _ _ _ _ _ _ he hB
  | _ =>
    refine ⟨0, kon_pure (Go.Proofs.enters_of Tryd.func44 (by kernel_rfl) rfl) rfl rfl ?_⟩
    intro w ok vs hg hok hsz hargs
    obtain rfl := args1 hsz hargs
    obtain ⟨_, ⟨t, p, hc⟩, _⟩ := hg
    refine (Tryd.strconv_Atoi_syntax (str s) (by rw [h1]; omega) ha _ w hc (.inr ⟨t, p, rfl⟩)).mono ?_
    rintro en W' ⟨N, he, _, _, hB⟩
    exact fin _ _ _ _ _ _ he hB
end Go.Proofs.YtjhdfkifpmmefaaDoor

/- All kinds of statements side by side. -/
namespace Go.Proofs.YtjhdfkifpmmefaaDoor
set_option linter.unusedVariables false
set_option linter.unusedSimpArgs false
set_option maxRecDepth 20000
open Go.RowKit
abbrev shAll : Value := .agg #[.string ⟨#[97, 100, 100]⟩, .bool true, .bool true, .bool false, .int .i64 0, .string ⟨#[116, 97, 107, 101]⟩, .bool true, .bool true, .bool false, .int .i64 0, .string ⟨#[109, 111, 114, 101]⟩, .bool true, .bool false, .bool true, .int .i64 63, .string ⟨#[115, 119, 97, 112]⟩, .bool true, .bool true, .bool false, .int .i64 0, .string ⟨#[114, 101, 112, 101, 97, 116]⟩, .bool false, .bool false, .bool true, .int .i64 3, .string ⟨#[101, 110, 100]⟩, .bool false, .bool false, .bool false, .int .i64 0, .string ⟨#[105, 102]⟩, .bool true, .bool false, .bool true, .int .i64 63, .string ⟨#[101, 108, 115, 101]⟩, .bool false, .bool false, .bool false, .int .i64 0, .string ⟨#[102, 105]⟩, .bool true, .bool false, .bool true, .int .i64 63]
section
variable {T : Tab} {cf : FuncId → Option (List AV → Option Tmp → AM)} {Fs : Nat → Ft} {i : Nat} {rest : List Oper} {S : St} {K : St → Prop} {ops : Array Oper} {d : Tmp} {x y : Operand} {ty : TypeId} {pos : String} {af : Array Edge} {g : Option (Nat × Bool)}
theorem r_sh0 (hx : rdV (Fs i) S x = some shAll) (hy : rdV (Fs i) S y = some (.int .i64 0)) (hw : (Fs i).sw d = true)
    (k : runX Fs Tryd.prog T cf ops (i + 1) rest (S.put d (some (ofv (shV 0)))) K) : runA Fs Tryd.prog T cf ops i ⟨some d, .index 51 x y, ty, pos, af, g⟩ rest S K := r_index hx hy (r := shV 0) (fun w => by kernel_rfl) rfl hw k
theorem r_sh1 (hx : rdV (Fs i) S x = some shAll) (hy : rdV (Fs i) S y = some (.int .i64 1)) (hw : (Fs i).sw d = true)
    (k : runX Fs Tryd.prog T cf ops (i + 1) rest (S.put d (some (ofv (shV 1)))) K) : runA Fs Tryd.prog T cf ops i ⟨some d, .index 51 x y, ty, pos, af, g⟩ rest S K := r_index hx hy (r := shV 1) (fun w => by kernel_rfl) rfl hw k
theorem r_sh2 (hx : rdV (Fs i) S x = some shAll) (hy : rdV (Fs i) S y = some (.int .i64 2)) (hw : (Fs i).sw d = true)
    (k : runX Fs Tryd.prog T cf ops (i + 1) rest (S.put d (some (ofv (shV 2)))) K) : runA Fs Tryd.prog T cf ops i ⟨some d, .index 51 x y, ty, pos, af, g⟩ rest S K := r_index hx hy (r := shV 2) (fun w => by kernel_rfl) rfl hw k
theorem r_sh3 (hx : rdV (Fs i) S x = some shAll) (hy : rdV (Fs i) S y = some (.int .i64 3)) (hw : (Fs i).sw d = true)
    (k : runX Fs Tryd.prog T cf ops (i + 1) rest (S.put d (some (ofv (shV 3)))) K) : runA Fs Tryd.prog T cf ops i ⟨some d, .index 51 x y, ty, pos, af, g⟩ rest S K := r_index hx hy (r := shV 3) (fun w => by kernel_rfl) rfl hw k
theorem r_sh4 (hx : rdV (Fs i) S x = some shAll) (hy : rdV (Fs i) S y = some (.int .i64 4)) (hw : (Fs i).sw d = true)
    (k : runX Fs Tryd.prog T cf ops (i + 1) rest (S.put d (some (ofv (shV 4)))) K) : runA Fs Tryd.prog T cf ops i ⟨some d, .index 51 x y, ty, pos, af, g⟩ rest S K := r_index hx hy (r := shV 4) (fun w => by kernel_rfl) rfl hw k
theorem r_sh5 (hx : rdV (Fs i) S x = some shAll) (hy : rdV (Fs i) S y = some (.int .i64 5)) (hw : (Fs i).sw d = true)
    (k : runX Fs Tryd.prog T cf ops (i + 1) rest (S.put d (some (ofv (shV 5)))) K) : runA Fs Tryd.prog T cf ops i ⟨some d, .index 51 x y, ty, pos, af, g⟩ rest S K := r_index hx hy (r := shV 5) (fun w => by kernel_rfl) rfl hw k
theorem r_sh6 (hx : rdV (Fs i) S x = some shAll) (hy : rdV (Fs i) S y = some (.int .i64 6)) (hw : (Fs i).sw d = true)
    (k : runX Fs Tryd.prog T cf ops (i + 1) rest (S.put d (some (ofv (shV 6)))) K) : runA Fs Tryd.prog T cf ops i ⟨some d, .index 51 x y, ty, pos, af, g⟩ rest S K := r_index hx hy (r := shV 6) (fun w => by kernel_rfl) rfl hw k
theorem r_sh7 (hx : rdV (Fs i) S x = some shAll) (hy : rdV (Fs i) S y = some (.int .i64 7)) (hw : (Fs i).sw d = true)
    (k : runX Fs Tryd.prog T cf ops (i + 1) rest (S.put d (some (ofv (shV 7)))) K) : runA Fs Tryd.prog T cf ops i ⟨some d, .index 51 x y, ty, pos, af, g⟩ rest S K := r_index hx hy (r := shV 7) (fun w => by kernel_rfl) rfl hw k
theorem r_sh8 (hx : rdV (Fs i) S x = some shAll) (hy : rdV (Fs i) S y = some (.int .i64 8)) (hw : (Fs i).sw d = true)
    (k : runX Fs Tryd.prog T cf ops (i + 1) rest (S.put d (some (ofv (shV 8)))) K) : runA Fs Tryd.prog T cf ops i ⟨some d, .index 51 x y, ty, pos, af, g⟩ rest S K := r_index hx hy (r := shV 8) (fun w => by kernel_rfl) rfl hw k
end
theorem drop_get (l : List (List UInt8)) (i j : Nat) : (l.drop i).getD j [] = l.getD (i + j) [] := by
  simp [List.getD_eq_getElem?_getD, List.getElem?_drop]
end Go.Proofs.YtjhdfkifpmmefaaDoor
