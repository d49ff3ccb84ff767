/- DO, PX, DJA, DJ, DD, DK, DL, RowD, RowE, RowG, GL, DKV: laid into one text. -/
import Derived.Test.YtgphlcdinejmdaaDoorQRE
import Derived.Test.YtgphlcdinejmdaaDoorQRF
import Derived.Test.YtgphlcdinejmdaaDoorQRG
import Derived.Test.YtgphlcdinejmdaaDoorQRJ
import Derived.Test.YtgphlcdinejmdaaDoorQRK
import Derived.Test.YtgphlcdinejmdaaDoorQRN
import Derived.ProofKit
import Derived.OpenShut
import Derived.ShutString
import Derived.ChangeOld
import Derived.Below
import Derived.Lib.SmallJoins
import Derived.Deep.Slices
import Derived.Deep.Strs
import Derived.ChangeMaps5
import Derived.HandedShaped
import Derived.Test.YtgphlcdinejmdaaDoorRows
import Derived.Shelf.Vars
import Derived.Stop.LaidErr
import Derived.LaidMore

/- Both readers of deeds answer alike. -/
namespace Go.Proofs.YtgphlcdinejmdaaDoor
set_option linter.unusedVariables false
set_option linter.unusedSimpArgs false
set_option maxRecDepth 20000
open Go.RowKit
open Go.Lib (decDigits)
/-- The deed that a reader returns, and whether there is one. -/
def RDd (s : List UInt8) (d : Dd) (b : Bool) : Prop := (b = true ∧ DOk s d.k d.n d.p) ∨ (b = false ∧ d = dZ ∧ ∀ k n p, ¬ DOk s k n p)
theorem Dd_ext {d e : Dd} (h1 : d.k = e.k) (h2 : d.n = e.n) (h3 : d.p = e.p) : d = e := by
  obtain ⟨a, b, c⟩ := d
  obtain ⟨a', b', c'⟩ := e
  dsimp only at h1 h2 h3
  rw [h1, h2, h3]
theorem no_dtx {s : List UInt8} (hs : s ≠ []) (h : ∀ k n p, ¬ DOk s k n p) (k n : Int) (p : Gt) : (dtx k n p == s) = false := by
  rw [Bool.eq_false_iff]
  intro e
  exact h _ _ _ ((dtx_eq hs).1 e)
theorem fnd_no {s : List UInt8} (hs : s ≠ []) (h : ∀ k n p, ¬ DOk s k n p) : ∀ L, fnd s L = (dZ, false)
  | [] => rfl
  | d :: L => by rw [fnd, no_dtx hs h, if_neg (by decide)]; exact fnd_no hs h L
theorem fnd_yes {s : List UInt8} (hs : s ≠ []) {d : Dd} (h : DOk s d.k d.n d.p) : ∀ L : List Dd, d ∈ L → fnd s L = (d, true)
  | e :: L, hm => by
    rw [fnd]
    by_cases h2 : (dtx e.k e.n e.p == s) = true
    · rw [if_pos h2]
      obtain ⟨a, b, c⟩ := d_uni ((dtx_eq hs).1 h2) h
      rw [Dd_ext a b c]
    · rw [if_neg h2]
      rcases List.mem_cons.1 hm with rfl | hm
      · exact absurd ((dtx_eq hs).2 h) h2
      · exact fnd_yes hs h L hm
/-- What stands behind the first space. -/
theorem cut_of {a b s : List UInt8} (ha : a.contains 32 = false) (e : s = a ++ 32 :: b) : Go.Lib.cut s [32] = (a, b, true) := by
  have hc : cutA 32 [] s = a :: cutA 32 [] b := by rw [e, cutA_app ha]; rfl
  have hb := (cutA_len 32 b []).1
  rcases ct_cases 32 s with ⟨_, h2⟩ | ⟨i, hi, h1, h2⟩
  · rw [hc] at h2
    have := congrArg List.length h2
    simp only [List.length_cons, List.length_nil] at this
    omega
  · rw [hc] at h2
    have h3 := (List.cons.inj h2).1
    have hl : a.length = i := by rw [h3, List.length_take]; omega
    rw [h1, ← h3]
    refine Prod.ext rfl (Prod.ext ?_ rfl)
    dsimp only
    rw [e, ← hl, show a.length + 1 = a.length + (32 :: ([] : List UInt8)).length from rfl, show a ++ 32 :: b = (a ++ [32]) ++ b by simp]
    rw [show a.length + (32 :: ([] : List UInt8)).length = (a ++ [32]).length by simp]
    exact List.drop_left
theorem cut_no {a : List UInt8} (ha : a.contains 32 = false) : Go.Lib.cut a [32] = (a, [], false) := by
  have hc : cutA 32 [] a = [a] := by rw [cutA_end ha]; rfl
  rcases ct_cases 32 a with ⟨h1, _⟩ | ⟨i, hi, h1, h2⟩
  · exact h1
  · rw [hc] at h2
    have := congrArg List.length h2
    have hb := (cutA_len 32 (a.drop (i + 1)) []).1
    simp only [List.length_cons, List.length_nil] at this
    omega
theorem bne_of (b : Bool) (h : b = false) : (!b) = true := by rw [h]; rfl
theorem bnt_of (b : Bool) (h : b = true) : (!b) = false := by rw [h]; rfl
theorem nm_ne {a : List UInt8} {k : Int} (h : ¬ a = dnm k) : (a == dnm k) = false := by rw [beq_eq_false_iff_ne]; exact h
/-- Whether a word names a kind. -/
theorem dnm_dec (a : List UInt8) : (∃ k : Int, (0 ≤ k ∧ k ≤ 4) ∧ a = dnm k) ∨ (¬ a = dnm 0 ∧ ¬ a = dnm 1 ∧ ¬ a = dnm 2 ∧ ¬ a = dnm 3 ∧ ¬ a = dnm 4) := by
  by_cases h0 : a = dnm 0
  · exact .inl ⟨0, by decide, h0⟩
  by_cases h1 : a = dnm 1
  · exact .inl ⟨1, by decide, h1⟩
  by_cases h2 : a = dnm 2
  · exact .inl ⟨2, by decide, h2⟩
  by_cases h3 : a = dnm 3
  · exact .inl ⟨3, by decide, h3⟩
  by_cases h4 : a = dnm 4
  · exact .inl ⟨4, by decide, h4⟩
  exact .inr ⟨h0, h1, h2, h3, h4⟩
/-- The program's reader, where no deed has the text. -/
theorem rdI_no (s : List UInt8) (hs : s.length ≤ 7000000) (h : ∀ k n p, ¬ DOk s k n p) : Kon Tryd.prog 11 [vS s] [] (tupD dZ false) [] [] := by
  by_cases hne : s = []
  · subst hne; exact k_rdI_nil
  have hne2 : (s == []) = false := by rw [beq_eq_false_iff_ne]; exact hne
  have hC := k_scut 32 s hs
  have hct := ct_cases 32 s
  rcases hx : Go.Lib.cut s [32] with ⟨a, b, f⟩
  rw [hx] at hC hct
  have hbl : b.length ≤ 7000000 := by
    rcases hct with ⟨h1, _⟩ | ⟨i, _, h1, _⟩
    · obtain ⟨rfl, h2⟩ := Prod.mk.inj h1
      rw [(Prod.mk.inj h2).1]; simp
    · rw [(Prod.mk.inj (Prod.mk.inj h1).2).1, List.length_drop]; omega
  have hn := fun k n p => bne_of _ (no_dtx hne h k n p)
  rcases dnm_dec a with ⟨k, hk, ha⟩ | ⟨h0, h1, h2, h3, h4⟩
  · have h' : k = 0 ∨ k = 1 ∨ k = 2 ∨ k = 3 ∨ k = 4 := by omega
    rcases h' with rfl | rfl | rfl | rfl | rfl
    · obtain ⟨n, e, he, _, hA⟩ := ex_atoi b hbl
      rcases he with rfl | rfl
      · exact k_rdI0Ntrue s a b f n hC ha hA hne2 (hn 0 n g0)
      · exact k_rdI0Etrue s a b f n hC ha hA hne2 (hn 0 n g0)
    · obtain ⟨n, e, he, _, hA⟩ := ex_atoi b hbl
      rcases he with rfl | rfl
      · exact k_rdI1Ntrue s a b f n hC ha hA hne2 (hn 1 n g0)
      · exact k_rdI1Etrue s a b f n hC ha hA hne2 (hn 1 n g0)
    · obtain ⟨p, q, _, _, hA⟩ := rg_ex b hbl
      exact k_rdI2true s a b f p q hC ha hA hne2 (hn 2 0 p)
    · exact k_rdI3true s a b f hC ha hne2 (hn 3 0 g0)
    · exact k_rdI4true s a b f hC ha hne2 (hn 4 0 g0)
  · exact k_rdIx s a b f hC (nm_ne (k := 0) h0) (nm_ne (k := 1) h1) (nm_ne (k := 2) h2) (nm_ne (k := 3) h3) (nm_ne (k := 4) h4) hne2
theorem dnm3 : (dnm 2).length = 3 := rfl
/-- Both readers, where a deed has the text. -/
theorem rd_yes (s : List UInt8) (hs : s.length ≤ 7000000) (d : Dd) (h : DOk s d.k d.n d.p) : Kon Tryd.prog 10 [vS s] [] (tupD d true) [] [] ∧ Kon Tryd.prog 11 [vS s] [] (tupD d true) [] [] := by
  have hne := h.2
  have hne2 : (s == []) = false := by rw [beq_eq_false_iff_ne]; exact hne
  have hC := k_scut 32 s hs
  have ht := bnt_of _ ((dtx_eq hne).2 h)
  have hG : ∃ p q, (4 < s.length → RG ((s.drop 4).take (s.length - 4)) p q ∧ Kon Tryd.prog 32 [vS ((s.drop 4).take (s.length - 4))] [] (tupG p q) [] []) := by
    obtain ⟨p, q, h1, h2, _⟩ := rg_ex ((s.drop 4).take (s.length - 4)) (by rw [List.length_take, List.length_drop]; omega)
    exact ⟨p, q, fun _ => ⟨h1, h2⟩⟩
  obtain ⟨p, q, hG⟩ := hG
  have hS := k_rdS s p q hs hne2 (fun hl => (hG hl).2)
  have fin : d ∈ lstD s p → Kon Tryd.prog 10 [vS s] [] (tupD d true) [] [] := fun hm => by
    rw [fnd_yes hne h _ hm] at hS
    exact hS
  clear hS
  obtain ⟨k, n, p'⟩ := d
  dsimp only at h ht
  rcases d_cases h with ⟨hk, rfl, hn, e, ec⟩ | ⟨rfl, rfl, hg, e, ec⟩ | ⟨hk, rfl, rfl, e, ec⟩
  · have hcut := cut_of (dnm_no k) e
    rw [hcut] at hC
    have hdx := dx_dg (x := n) (by omega)
    have hat : Go.Lib.atoiAll (dx n) = .ok n := by
      have := (dd2_of (n := n.toNat) (by omega)).2.1
      rw [this]; congr 1; omega
    have hdl : (dx n).length ≤ 7000000 := by
      have := (dd2_of (n := n.toNat) (by omega)).2.2.2.2
      show (decDigits n.toNat).length ≤ 7000000
      omega
    have hA := k_atoiOk (dx n) n hdl hat
    refine ⟨fin ?_, ?_⟩
    · unfold lstD
      rw [ec, if_pos (show [dnm k, dx n].length = 2 from rfl)]
      have e1 : dgs ([dnm k, dx n].getD 1 []) = n := hdx
      rw [e1]
      rcases hk with rfl | rfl <;> simp
    · rcases hk with rfl | rfl
      · exact k_rdI0Nfalse s _ _ _ n hC rfl hA hne2 ht
      · exact k_rdI1Nfalse s _ _ _ n hC rfl hA hne2 ht
  · have hcut := cut_of (dnm_no 2) e
    rw [hcut] at hC
    have hgl := gtT_len hg
    have hsl : 4 < s.length := by rw [e, List.length_append, dnm3, List.length_cons]; omega
    have hrest : (s.drop 4).take (s.length - 4) = gtT p' := by
      have h4 : s.drop 4 = gtT p' := by rw [e]; rfl
      rw [h4, List.take_of_length_le]
      rw [e, List.length_append, dnm3, List.length_cons]; omega
    obtain ⟨hRG, _⟩ := hG hsl
    rw [hrest] at hRG
    have hp : p = p' := by
      rcases hRG with ⟨_, h2⟩ | ⟨_, _, h2⟩
      · exact gk_uni h2 ⟨hg, rfl⟩
      · exact absurd ⟨hg, rfl⟩ (h2 p')
    subst hp
    obtain ⟨p2, q2, h2, _, hA⟩ := rg_ex (gtT p) (by omega)
    have hp2 : p2 = p := by
      rcases h2 with ⟨_, h2⟩ | ⟨_, _, h2⟩
      · exact gk_uni h2 ⟨hg, rfl⟩
      · exact absurd ⟨hg, rfl⟩ (h2 p)
    subst hp2
    refine ⟨fin ?_, k_rdI2false s _ _ _ p2 q2 hC rfl hA hne2 ht⟩
    unfold lstD
    rw [if_pos hsl]
    simp
  · have hcut := cut_no (dnm_no k)
    rw [← e] at hcut
    rw [hcut] at hC
    refine ⟨fin ?_, ?_⟩
    · unfold lstD
      rcases hk with rfl | rfl <;> simp
    · rcases hk with rfl | rfl
      · exact k_rdI3false s _ _ _ hC e hne2 ht
      · exact k_rdI4false s _ _ _ hC e hne2 ht
theorem rd_no (s : List UInt8) (hs : s.length ≤ 7000000) (h : ∀ k n p, ¬ DOk s k n p) : Kon Tryd.prog 10 [vS s] [] (tupD dZ false) [] [] := by
  by_cases hne : s = []
  · subst hne; exact k_rdS_nil
  have hne2 : (s == []) = false := by rw [beq_eq_false_iff_ne]; exact hne
  obtain ⟨p, q, _, h2, _⟩ := rg_ex ((s.drop 4).take (s.length - 4)) (by rw [List.length_take, List.length_drop]; omega)
  have hS := k_rdS s p q hs hne2 (fun _ => h2)
  rw [fnd_no hne h] at hS
  exact hS
theorem rd_all (s : List UInt8) : ∃ d b, RDd s d b := by
  by_cases h : ∃ d : Dd, DOk s d.k d.n d.p
  · obtain ⟨d, h⟩ := h; exact ⟨d, true, .inl ⟨rfl, h⟩⟩
  · exact ⟨dZ, false, .inr ⟨rfl, rfl, fun k n p hg => h ⟨⟨k, n, p⟩, hg⟩⟩⟩
theorem rd_ex (s : List UInt8) (hs : s.length ≤ 7000000) : ∃ d b, RDd s d b ∧ Kon Tryd.prog 10 [vS s] [] (tupD d b) [] [] ∧ Kon Tryd.prog 11 [vS s] [] (tupD d b) [] [] := by
  obtain ⟨d, b, h⟩ := rd_all s
  refine ⟨d, b, h, ?_⟩
  rcases h with ⟨rfl, h⟩ | ⟨rfl, rfl, h⟩
  · exact rd_yes s hs d h
  · exact ⟨rd_no s hs h, rdI_no s hs h⟩
end Go.Proofs.YtgphlcdinejmdaaDoor

/- Texts of journals; which journal a text begins with. -/
namespace Go.Proofs.YtgphlcdinejmdaaDoor
set_option linter.unusedVariables false
set_option linter.unusedSimpArgs false
open Go.Lib (decDigits)
abbrev dT (d : Dd) : List UInt8 := dtx d.k d.n d.p
/-- Lines, each with its newline. -/
def jt : List Dd → List UInt8
  | [] => []
  | d :: l => dT d ++ 10 :: jt l
/-- Each deed has a text. -/
def jall (l : List Dd) : Bool := l.all (fun d => !(dT d == []))
theorem dd2_nl : ∀ n : Fin 100, (dd2 n.val).contains 10 = false := by decide +kernel
theorem not_mem_of {l : List UInt8} {c : UInt8} (h : l.contains c = false) : c ∉ l := fun hm => by
  rw [List.contains_iff_mem.2 hm] at h; cases h
theorem dx_nl {x : Int} (h : 0 ≤ x ∧ x < 100) : (10 : UInt8) ∉ dx x := by
  have h2 := dd2_nl ⟨x.toNat, by omega⟩
  dsimp only at h2
  show (10 : UInt8) ∉ decDigits x.toNat
  rw [dd2_eq (by omega)]
  exact not_mem_of h2
theorem dnm_nl (k : Int) : (10 : UInt8) ∉ dnm k := not_mem_of (by
  unfold dnm
  repeat (split; rfl)
  rfl)
theorem gnm_nl (k : Int) : (10 : UInt8) ∉ gnm k := not_mem_of (by
  unfold gnm
  repeat (split; rfl)
  rfl)
theorem gtT_nl {g : Gt} (h : gok 8 g = true) : (10 : UInt8) ∉ gtT g := by
  obtain ⟨_, _, ha, hb, hc⟩ := gok_bd h
  have h0 := gnm_nl 0
  have h1 := gnm_nl g.k
  have a := dx_nl (x := g.a) (by omega)
  have b := dx_nl (x := g.b) (by omega)
  have c := dx_nl (x := g.c) (by omega)
  have d : ¬ ((10 : UInt8) = 32) := by decide
  unfold gtT
  split
  · simp only [List.mem_append, List.mem_cons, List.not_mem_nil, or_false, not_or]; exact ⟨⟨h0, d⟩, a⟩
  split
  · simp only [List.mem_append, List.mem_cons, List.not_mem_nil, or_false, not_or]; exact ⟨⟨⟨⟨h1, d⟩, a⟩, d⟩, b⟩
  · simp only [List.mem_append, List.mem_cons, List.not_mem_nil, or_false, not_or]; exact ⟨⟨⟨⟨⟨⟨h1, d⟩, a⟩, d⟩, b⟩, d⟩, c⟩
theorem dtx_nl (k n : Int) (p : Gt) : (10 : UInt8) ∉ dtx k n p := by
  have d : ¬ ((10 : UInt8) = 32) := by decide
  unfold dtx
  split
  · split
    · rename_i hc
      simp only [List.mem_append, List.mem_cons, List.not_mem_nil, or_false, not_or]
      exact ⟨⟨dnm_nl k, d⟩, dx_nl (by omega)⟩
    · exact List.not_mem_nil
  split
  · split
    · rename_i hc
      simp only [List.mem_append, List.mem_cons, List.not_mem_nil, or_false, not_or]
      exact ⟨⟨dnm_nl 2, d⟩, gtT_nl hc.2⟩
    · exact List.not_mem_nil
  split
  · split
    · exact dnm_nl k
    · exact List.not_mem_nil
  · exact List.not_mem_nil
theorem app_uni {c : UInt8} : ∀ {a b x y : List UInt8}, c ∉ a → c ∉ b → a ++ c :: x = b ++ c :: y → a = b ∧ x = y
  | [], [], x, y, _, _, e => by injection e with _ e; exact ⟨rfl, e⟩
  | [], u :: b, x, y, _, hb, e => by injection e with e _; exact absurd (by rw [e]; exact List.mem_cons_self) hb
  | u :: a, [], x, y, ha, _, e => by injection e with e _; exact absurd (by rw [e]; exact List.mem_cons_self) ha
  | u :: a, v :: b, x, y, ha, hb, e => by
    injection e with e1 e2
    obtain ⟨h1, h2⟩ := app_uni (fun h => ha (List.mem_cons_of_mem _ h)) (fun h => hb (List.mem_cons_of_mem _ h)) e2
    exact ⟨by rw [e1, h1], h2⟩
/-- With these deeds, in so many bytes, a text begins, and with no more. -/
def JR (s : List UInt8) (l : List Dd) (n : Nat) : Prop :=
  jall l = true ∧ ∃ r, s = jt l ++ r ∧ n = (jt l).length ∧ ∀ a b, r = a ++ 10 :: b → (10 : UInt8) ∉ a → ∀ k n p, ¬ DOk a k n p
theorem jall_cons {d : Dd} {l : List Dd} : jall (d :: l) = true ↔ (dT d ≠ [] ∧ jall l = true) := by
  unfold jall
  rw [List.all_cons, Bool.and_eq_true, Bool.not_eq_true', beq_eq_false_iff_ne]
theorem jall_snoc {d : Dd} : ∀ {l : List Dd}, jall l = true → dT d ≠ [] → jall (l ++ [d]) = true
  | [], _, h => jall_cons.2 ⟨h, rfl⟩
  | e :: l, hl, h => jall_cons.2 ⟨(jall_cons.1 hl).1, jall_snoc (jall_cons.1 hl).2 h⟩
theorem jt_app : ∀ (l m : List Dd), jt (l ++ m) = jt l ++ jt m
  | [], m => rfl
  | d :: l, m => by rw [List.cons_append, jt, jt, jt_app l m, List.append_assoc]; rfl
theorem jt_snoc (l : List Dd) (d : Dd) : jt (l ++ [d]) = jt l ++ (dT d ++ [10]) := jt_app l [d]
theorem jt_len : ∀ (l : List Dd), l.length ≤ (jt l).length ∧ (jt l).length ≤ 21 * l.length
  | [] => ⟨Nat.le_refl _, Nat.le_refl _⟩
  | d :: l => by
    have := jt_len l
    have h : (dT d).length ≤ 20 := dtx_len d.k d.n d.p
    rw [jt]
    simp only [List.length_append, List.length_cons]
    omega
theorem dd_ext2 {d e : Dd} (h1 : d.k = e.k) (h2 : d.n = e.n) (h3 : d.p = e.p) : d = e := by
  obtain ⟨a, b, c⟩ := d
  obtain ⟨a', b', c'⟩ := e
  dsimp only at h1 h2 h3
  rw [h1, h2, h3]
theorem dT_uni {d e : Dd} (hd : dT d ≠ []) (h : dT d = dT e) : d = e := by
  obtain ⟨a, b, c⟩ := d_uni (s := dT d) (k := d.k) (n := d.n) (p := d.p) ⟨rfl, hd⟩ ⟨h.symm, hd⟩
  exact dd_ext2 a b c
theorem jr_uni : ∀ {l l' : List Dd} {s : List UInt8} {n n' : Nat}, JR s l n → JR s l' n' → l = l' ∧ n = n'
  | [], [], s, n, n', ⟨_, r, _, h, _⟩, ⟨_, r', _, h', _⟩ => ⟨rfl, by rw [h, h']⟩
  | [], d :: l', s, n, n', ⟨_, r, e, h, hm⟩, ⟨ha, r', e', h', _⟩ => by
    have hd := (jall_cons.1 ha).1
    rw [e, jt, jt, List.append_assoc] at e'
    exact absurd (⟨rfl, hd⟩ : DOk (dT d) d.k d.n d.p) (hm (dT d) (jt l' ++ r') e' (dtx_nl _ _ _) _ _ _)
  | d :: l, [], s, n, n', ⟨ha, r, e, h, _⟩, ⟨_, r', e', h', hm⟩ => by
    have hd := (jall_cons.1 ha).1
    rw [e', jt, jt, List.append_assoc] at e
    exact absurd (⟨rfl, hd⟩ : DOk (dT d) d.k d.n d.p) (hm (dT d) (jt l ++ r) e (dtx_nl _ _ _) _ _ _)
  | d :: l, d' :: l', s, n, n', ⟨ha, r, e, h, hm⟩, ⟨ha', r', e', h', hm'⟩ => by
    obtain ⟨hd, hl⟩ := jall_cons.1 ha
    obtain ⟨hd', hl'⟩ := jall_cons.1 ha'
    rw [e, jt, jt, List.append_assoc, List.append_assoc] at e'
    obtain ⟨h1, h2⟩ := app_uni (dtx_nl _ _ _) (dtx_nl _ _ _) e'
    obtain rfl := dT_uni hd h1
    obtain ⟨rfl, h3⟩ := jr_uni (s := jt l ++ r) ⟨hl, r, rfl, rfl, hm⟩ ⟨hl', r', h2, rfl, hm'⟩
    exact ⟨rfl, by rw [h, h']⟩
theorem jr_ex : ∀ (m : Nat) (s : List UInt8), s.length ≤ m → ∃ l n, JR s l n
  | 0, s, h => ⟨[], 0, rfl, s, rfl, rfl, fun a b e => by
      have := congrArg List.length e
      rw [List.length_append, List.length_cons] at this; omega⟩
  | m + 1, s, h => by
    by_cases hx : ∃ a b, s = a ++ 10 :: b ∧ (10 : UInt8) ∉ a ∧ ∃ k n p, DOk a k n p
    · obtain ⟨a, b, e, ha, k, n, p, hd⟩ := hx
      have hl := congrArg List.length e
      rw [List.length_append, List.length_cons] at hl
      obtain ⟨l, q, h1, r, h2, h3, h4⟩ := jr_ex m b (by omega)
      have hT : dT ⟨k, n, p⟩ = a := hd.1
      refine ⟨⟨k, n, p⟩ :: l, _, jall_cons.2 ⟨by rw [hT]; exact hd.2, h1⟩, r, ?_, rfl, h4⟩
      rw [jt, hT, e, h2, List.append_assoc]; rfl
    · refine ⟨[], 0, rfl, s, rfl, rfl, fun a b e ha k n p hd => hx ⟨a, b, e, ha, k, n, p, hd⟩⟩
theorem jr_len {s : List UInt8} {l : List Dd} {n : Nat} (h : JR s l n) : l.length ≤ n ∧ n ≤ s.length := by
  obtain ⟨_, r, h2, h3, _⟩ := h
  have := (jt_len l).1
  have h4 := congrArg List.length h2
  rw [List.length_append] at h4
  omega
end Go.Proofs.YtgphlcdinejmdaaDoor

/- Journals: JournalText of the reference. -/
namespace Go.Proofs.YtgphlcdinejmdaaDoor
set_option linter.unusedVariables false
set_option linter.unusedSimpArgs false
set_option maxRecDepth 20000
open Go.RowKit
open Go.Lib (decDigits)
attribute [local irreducible] runA runX AW
end Go.Proofs.YtgphlcdinejmdaaDoor

/- Journals: ReadJournal of both sides. -/
namespace Go.Proofs.YtgphlcdinejmdaaDoor
set_option linter.unusedVariables false
set_option linter.unusedSimpArgs false
set_option maxRecDepth 20000
open Go.RowKit
open Go.Lib (decDigits)
set_option maxHeartbeats 400000 in
theorem clipD : IsClip Tryd.prog 40 := by
  refine isClip_mk Tryd.func40 rfl (by rfl) fun A n c w hn hm => ?_
  go_enter Tryd.func40, Tryd.ntmps40
  go_wp2
  go_ret
  exact ⟨rfl, rfl⟩
attribute [local irreducible] runA runX AW
theorem gq_DJ {H G : Prop} (k : H) (h : Hid H → G := by (intro hh; (first | (first | ((first | refine r_none ?_ | refine r_gt (by rfl) (by rfl) (by first | rfl | assumption | omega | (simp only [*, Bool.not_false, Bool.not_true]; first | done | fail) | (simp [*]; first | done | fail)) (by rfl) ?_ | refine r_gf (by rfl) (by rfl) (by first | rfl | assumption | omega | (simp only [*, Bool.not_false, Bool.not_true]; first | done | fail) | (simp [*]; first | done | fail)) (by rfl) ?_); (first | (first | refine r_slen (by rfl) Tryd.underlying9 (by rfl) ?_ | refine r_seq (by rfl) (by rfl) (by rfl) ?_ | refine r_sadd (by rfl) (by rfl) (by first | omega | (simp only [List.length_append, List.length_cons, List.length_nil]; omega)) (by rfl) ?_ | refine r_sidx (by rfl) (by rfl) Tryd.underlying9 (by omega) (by rfl) ?_ | refine r_spiece (by rfl) (by rfl) (by rfl) Tryd.underlying9 (.inr rfl) (.inr rfl) (by omega) (by rfl) ?_ | refine r_spiece (by rfl) (by rfl) (by rfl) Tryd.underlying9 (.inr rfl) (.inl ⟨rfl, rfl⟩) (by omega) (by rfl) ?_) | ((first | (refine z_op (by rfl) ?_; first | refine z_ok ?_ ?_ | refine z_ex ?_ (by first | exact ft_raw rfl rfl | ((first | refine ft_rp rfl rfl rfl ?_ | refine ft_row rfl rfl rfl ?_ | refine ft_rpF rfl rfl rfl ?_ | refine ft_rowF rfl rfl rfl ?_ | refine up_row rfl rfl ?_ | refine up_rowF rfl rfl rfl ?_ | refine ct_0 rfl ?_ | refine ct_r rfl rfl ?_ | refine ct_c rfl rfl rfl ?_ | refine cu_all rfl ?_ | refine cu_to rfl ?_ | refine cu_from rfl ?_ | refine cu_p rfl ?_ | fail); (first | omega | (simp only [List.length_append, List.length_replicate, List.length_cons, List.length_nil, List.length_set, List.length_take, List.length_drop, true_and]; omega))) | exact up_raw rfl | exact pk_t (by first | rfl | assumption | omega | (simp only [*, Bool.not_false, Bool.not_true]; first | done | fail) | (simp [*]; first | done | fail)) rfl | exact pk_f (by first | rfl | assumption | omega | (simp only [*, Bool.not_false, Bool.not_true]; first | done | fail) | (simp [*]; first | done | fail)) rfl | (first | exact rw_c Dd rfl) | exact rw_raw | exact pu_cv (fun w => rfl) (by omega) | exact pu_of (fun w => rfl) rfl | exact be_of (fun w => rfl) | exact nc_of (fun _ _ _ _ => rfl) rfl | exact bu_of (fun w => rfl) rfl | fail) ?_) | ((first | refine q_callE wsT wsZ (by rfl) ?_ | refine q_callVE wsT (by rfl) (by rfl) ?_); refine ⟨_, _, _, (by first | assumption | exact (k_dt _ _ _).2), _, by rfl, ?_, ?_⟩)); focus (first | exact trivial | fail | exact rfl | (first | omega | (simp only [List.length_append, List.length_replicate, List.length_cons, List.length_nil, List.length_set, List.length_take, List.length_drop, true_and]; omega)) | exact cvB (fun w => rfl) | ((repeat' (first | exact rfl | exact cV_len _ | exact cV_ln rfl (by omega) | exact Cel.pos | omega | exact trivial | refine And.intro ?_ ?_)); done) | (simp [*]; done) | (simp; omega))) | refine q_clip (by rfl) clipD (by first | exact trivial | omega | exact cvB (fun w => rfl) | ((repeat (any_goals (first | exact rfl | exact cV_len _ | exact cV_ln rfl (by omega) | exact Cel.pos | omega | exact trivial | refine And.intro ?_ ?_))); first | done | fail) | (simp [*]; first | done | fail)) ?_)) | refine r_nt (by rfl) (by rfl) (by first | rfl | assumption | omega | (simp only [*, Bool.not_false, Bool.not_true]; first | done | fail) | (simp [*]; first | done | fail)) (by rfl) ?_ | refine r_nf (by rfl) (by rfl) (by first | rfl | assumption | omega | (simp only [*, Bool.not_false, Bool.not_true]; first | done | fail) | (simp [*]; first | done | fail)) (by rfl) ?_ | refine r_gu (by rfl) (by rfl) (by rfl) ?_ | refine r_nil ?_) | (first | refine aw_seq ?_ | refine aw_ct (by rfl) (by first | rfl | assumption | omega | (simp only [*, Bool.not_false, Bool.not_true]; first | done | fail) | (simp [*]; first | done | fail)) ?_ | refine aw_cf (by rfl) (by first | rfl | assumption | omega | (simp only [*, Bool.not_false, Bool.not_true]; first | done | fail) | (simp [*]; first | done | fail)) ?_ | refine aw_block ?_ | refine aw_region T0ok cfU_ok (by rfl) ?_ | refine aw_skip ?_ | refine aw_exit ?_ | refine ra_step ?_)); (repeat (first | (first | ((first | refine r_none ?_ | refine r_gt (by rfl) (by rfl) (by first | rfl | assumption | omega | (simp only [*, Bool.not_false, Bool.not_true]; first | done | fail) | (simp [*]; first | done | fail)) (by rfl) ?_ | refine r_gf (by rfl) (by rfl) (by first | rfl | assumption | omega | (simp only [*, Bool.not_false, Bool.not_true]; first | done | fail) | (simp [*]; first | done | fail)) (by rfl) ?_); (first | (first | refine r_slen (by rfl) Tryd.underlying9 (by rfl) ?_ | refine r_seq (by rfl) (by rfl) (by rfl) ?_ | refine r_sadd (by rfl) (by rfl) (by first | omega | (simp only [List.length_append, List.length_cons, List.length_nil]; omega)) (by rfl) ?_ | refine r_sidx (by rfl) (by rfl) Tryd.underlying9 (by omega) (by rfl) ?_ | refine r_spiece (by rfl) (by rfl) (by rfl) Tryd.underlying9 (.inr rfl) (.inr rfl) (by omega) (by rfl) ?_ | refine r_spiece (by rfl) (by rfl) (by rfl) Tryd.underlying9 (.inr rfl) (.inl ⟨rfl, rfl⟩) (by omega) (by rfl) ?_) | ((first | (refine z_op (by rfl) ?_; first | refine z_ok ?_ ?_ | refine z_ex ?_ (by first | exact ft_raw rfl rfl | ((first | refine ft_rp rfl rfl rfl ?_ | refine ft_row rfl rfl rfl ?_ | refine ft_rpF rfl rfl rfl ?_ | refine ft_rowF rfl rfl rfl ?_ | refine up_row rfl rfl ?_ | refine up_rowF rfl rfl rfl ?_ | refine ct_0 rfl ?_ | refine ct_r rfl rfl ?_ | refine ct_c rfl rfl rfl ?_ | refine cu_all rfl ?_ | refine cu_to rfl ?_ | refine cu_from rfl ?_ | refine cu_p rfl ?_ | fail); (first | omega | (simp only [List.length_append, List.length_replicate, List.length_cons, List.length_nil, List.length_set, List.length_take, List.length_drop, true_and]; omega))) | exact up_raw rfl | exact pk_t (by first | rfl | assumption | omega | (simp only [*, Bool.not_false, Bool.not_true]; first | done | fail) | (simp [*]; first | done | fail)) rfl | exact pk_f (by first | rfl | assumption | omega | (simp only [*, Bool.not_false, Bool.not_true]; first | done | fail) | (simp [*]; first | done | fail)) rfl | (first | exact rw_c Dd rfl) | exact rw_raw | exact pu_cv (fun w => rfl) (by omega) | exact pu_of (fun w => rfl) rfl | exact be_of (fun w => rfl) | exact nc_of (fun _ _ _ _ => rfl) rfl | exact bu_of (fun w => rfl) rfl | fail) ?_) | ((first | refine q_callE wsT wsZ (by rfl) ?_ | refine q_callVE wsT (by rfl) (by rfl) ?_); refine ⟨_, _, _, (by first | assumption | exact (k_dt _ _ _).2), _, by rfl, ?_, ?_⟩)); focus (first | exact trivial | fail | exact rfl | (first | omega | (simp only [List.length_append, List.length_replicate, List.length_cons, List.length_nil, List.length_set, List.length_take, List.length_drop, true_and]; omega)) | exact cvB (fun w => rfl) | ((repeat' (first | exact rfl | exact cV_len _ | exact cV_ln rfl (by omega) | exact Cel.pos | omega | exact trivial | refine And.intro ?_ ?_)); done) | (simp [*]; done) | (simp; omega))) | refine q_clip (by rfl) clipD (by first | exact trivial | omega | exact cvB (fun w => rfl) | ((repeat (any_goals (first | exact rfl | exact cV_len _ | exact cV_ln rfl (by omega) | exact Cel.pos | omega | exact trivial | refine And.intro ?_ ?_))); first | done | fail) | (simp [*]; first | done | fail)) ?_)) | refine r_nt (by rfl) (by rfl) (by first | rfl | assumption | omega | (simp only [*, Bool.not_false, Bool.not_true]; first | done | fail) | (simp [*]; first | done | fail)) (by rfl) ?_ | refine r_nf (by rfl) (by rfl) (by first | rfl | assumption | omega | (simp only [*, Bool.not_false, Bool.not_true]; first | done | fail) | (simp [*]; first | done | fail)) (by rfl) ?_ | refine r_gu (by rfl) (by rfl) (by rfl) ?_ | refine r_nil ?_) | (first | refine aw_seq ?_ | refine aw_ct (by rfl) (by first | rfl | assumption | omega | (simp only [*, Bool.not_false, Bool.not_true]; first | done | fail) | (simp [*]; first | done | fail)) ?_ | refine aw_cf (by rfl) (by first | rfl | assumption | omega | (simp only [*, Bool.not_false, Bool.not_true]; first | done | fail) | (simp [*]; first | done | fail)) ?_ | refine aw_block ?_ | refine aw_region T0ok cfU_ok (by rfl) ?_ | refine aw_skip ?_ | refine aw_exit ?_ | refine ra_step ?_))); exact hh.out)) : G := h ⟨k⟩
theorem ga_DJ {H G : Prop} (k : H) (h : Hid H → G := by (intro hh; (first | refine r_none ?_ | refine r_gt (by rfl) (by rfl) (by first | rfl | assumption | omega | (simp only [*, Bool.not_false, Bool.not_true]; first | done | fail) | (simp [*]; first | done | fail)) (by rfl) ?_ | refine r_gf (by rfl) (by rfl) (by first | rfl | assumption | omega | (simp only [*, Bool.not_false, Bool.not_true]; first | done | fail) | (simp [*]; first | done | fail)) (by rfl) ?_); refine z_op (by rfl) ?_; refine z_alV ?_ hh.out; focus (first | exact trivial | fail | exact rfl | (first | omega | (simp only [List.length_append, List.length_replicate, List.length_cons, List.length_nil, List.length_set, List.length_take, List.length_drop, true_and]; omega)) | exact cvB (fun w => rfl) | ((repeat' (first | exact rfl | exact cV_len _ | exact cV_ln rfl (by omega) | exact Cel.pos | omega | exact trivial | refine And.intro ?_ ?_)); done) | (simp [*]; done) | (simp; omega)))) : G := h ⟨k⟩
theorem u8_eqn (b : UInt8) : ((b.toNat : Int) == 10) = (b == 10) := by
  rw [Bool.eq_iff_iff, beq_iff_eq, beq_iff_eq]
  constructor
  · intro h; exact UInt8.toNat_inj.1 (by have : (10 : UInt8).toNat = 10 := rfl; omega)
  · rintro rfl; rfl
/-- What was read so far. -/
def JI (s : List UInt8) (f : Nat) (o : List Dd) : Prop := jall o = true ∧ s = jt o ++ s.drop f ∧ (jt o).length = f
theorem ji_0 (s : List UInt8) : JI s 0 [] := ⟨rfl, rfl, rfl⟩
theorem ji_len {s : List UInt8} {f : Nat} {o : List Dd} (h : JI s f o) : o.length ≤ f ∧ f ≤ s.length := by
  obtain ⟨_, h2, h3⟩ := h
  have := (jt_len o).1
  have h4 := congrArg List.length h2
  rw [List.length_append] at h4
  omega
/-- A line more. -/
theorem ji_more {s a r : List UInt8} {f : Nat} {o : List Dd} {d : Dd} (h : JI s f o) (e : s.drop f = a ++ 10 :: r) (hd : DOk a d.k d.n d.p) : JI s (f + a.length + 1) (o ++ [d]) := by
  obtain ⟨h1, h2, h3⟩ := h
  have hda : dT d = a := hd.1
  have e2 : s.drop (f + a.length + 1) = r := by
    rw [show f + a.length + 1 = f + (a.length + 1) by omega, ← List.drop_drop, e, show a ++ 10 :: r = (a ++ [10]) ++ r by simp, show a.length + 1 = (a ++ [10]).length by simp, List.drop_left]
  refine ⟨jall_snoc h1 (by rw [hda]; exact hd.2), ?_, ?_⟩
  · rw [jt_snoc, hda, e2, List.append_assoc, List.append_assoc, List.singleton_append, ← e]; exact h2
  · rw [jt_snoc, hda, List.length_append, List.length_append, h3]; rfl
/-- No line more. -/
theorem ji_end {s : List UInt8} {f : Nat} {o : List Dd} (h : JI s f o) (hm : ∀ a b, s.drop f = a ++ 10 :: b → (10 : UInt8) ∉ a → ∀ k n p, ¬ DOk a k n p) : JR s o f :=
  ⟨h.1, s.drop f, h.2.1, h.2.2.symm, hm⟩
theorem ji_no {s a r : List UInt8} {f : Nat} {o : List Dd} (h : JI s f o) (e : s.drop f = a ++ 10 :: r) (ha : (10 : UInt8) ∉ a) (hn : ∀ k n p, ¬ DOk a k n p) : JR s o f :=
  ji_end h fun a' b' e' ha' k n p hd => by
    rw [e] at e'
    obtain ⟨rfl, _⟩ := app_uni ha ha' e'
    exact hn k n p hd
theorem ji_last {s : List UInt8} {f : Nat} {o : List Dd} (h : JI s f o) (hn : (10 : UInt8) ∉ s.drop f) : JR s o f :=
  ji_end h fun a b e _ k n p _ => hn (by rw [e]; simp)
theorem line_of {s : List UInt8} {f k : Nat} (hf : f ≤ k) (hk : k < s.length) (e : s.getD k 0 = 10) : s.drop f = (s.drop f).take (k - f) ++ 10 :: s.drop (k + 1) := by
  have h := drop_cons hk
  rw [e] at h
  conv => lhs; rw [← List.take_append_drop (k - f) (s.drop f), List.drop_drop, show f + (k - f) = k by omega, h]
theorem mem_take {s : List UInt8} {f k : Nat} (hf : f ≤ k) (hk : k < s.length) (h : (10 : UInt8) ∉ (s.drop f).take (k - f)) (hb : s.getD k 0 ≠ 10) : (10 : UInt8) ∉ (s.drop f).take (k + 1 - f) := by
  rw [take_snoc hf hk]
  simp only [List.mem_append, List.mem_singleton, not_or]
  exact ⟨h, fun e => hb e.symm⟩
set_option maxHeartbeats 4000000 in
theorem k_rjS (s : List UInt8) (hs : s.length ≤ 7000000) (l : List Dd) (n : Nat) (hR : JR s l n) : Kon Tryd.prog 18 [vS s] [] (.tup [.one (.sl 0 0 l.length), .one (.v (.int .i64 n))]) [dRow l] [] := by
  (refine kon_mk T0ok (fn := Tryd.f18) (c := Tryd.f18.body.get rfl) Tryd.func18 rfl (by rfl) (by rfl) (by rfl) ?_; intro hfit hfe)
  (repeat (first | refine gq_DJ ?_ | (refine ga_DJ ?_; intro _hq)))
  (refine aw_rd [0] [] (fun g : Nat × Nat × Nat × List Dd => [(4, .g (.one (.sl 144 g.2.2.1 g.2.2.2.length))), (5, vI g.2.1), (6, vI g.1)]) (fun g => [(144, (g.2.2.1, dRow g.2.2.2))]) (fun g => g.1 ≤ s.length ∧ g.2.1 ≤ g.1 ∧ JI s g.2.1 g.2.2.2 ∧ (10 : UInt8) ∉ (s.drop g.2.1).take (g.1 - g.2.1)) (fun g => s.length - g.1) (0, 0, 0, []) (by rfl) (by rfl) ?_ (by rfl) (by repeat (first | exact trivial | refine ⟨by rfl, ?_⟩ | refine ⟨vI_of (by rfl) (by omega), ?_⟩)) (by repeat (first | exact trivial | refine ⟨by rfl, ?_⟩ | refine ⟨vI_of (by rfl) (by omega), ?_⟩)) ?_)
  · exact ⟨Nat.zero_le _, Nat.le_refl _, ji_0 s, by simp⟩
  rintro ⟨k, f, u, o⟩ ⟨h1, h2, h3, h4⟩
  dsimp only at h1 h2 h3 h4 ⊢
  have hol := ji_len h3
  rcases Nat.lt_or_ge k s.length with h5 | h5
  · have hd : decide ((k : Int) < (s.length : Int)) = true := decide_eq_true (by omega)
    have hq := u8_eqn (s.getD (k : Int).toNat 0)
    cases hb : (s.getD k 0 == 10) with
    | true =>
      rw [show s.getD (k : Int).toNat 0 = s.getD k 0 from rfl, hb] at hq
      have hli := line_of h2 h5 (beq_iff_eq.1 hb)
      have hal : ((s.drop f).take (k - f)).length = k - f := by rw [List.length_take, List.length_drop]; omega
      obtain ⟨d, b, hx, hK, _⟩ := rd_ex ((s.drop f).take (k - f)) (by omega)
      rcases hx with ⟨rfl, hx⟩ | ⟨rfl, rfl, hx⟩
      · have hmore := ji_more h3 hli hx
        rw [hal, show f + (k - f) + 1 = k + 1 by omega] at hmore
        have hinv : k + 1 ≤ s.length ∧ k + 1 ≤ k + 1 ∧ JI s (k + 1) (o ++ [d]) ∧ (10 : UInt8) ∉ (s.drop (k + 1)).take (k + 1 - (k + 1)) := ⟨h5, Nat.le_refl _, hmore, by simp⟩
        clear h3 h4 hmore hx hli hR
        (repeat (first | refine gq_DJ ?_ | (refine ga_DJ ?_; intro _hq)))
        exact ⟨(k + 1, k + 1, u + 1, o ++ [d]), hinv, ⟨by rfl, (by repeat (first | exact trivial | refine ⟨by rfl, ?_⟩ | refine ⟨vI_of (by rfl) (by omega), ?_⟩)), (by repeat (first | exact trivial | refine ⟨by rfl, ?_⟩ | refine ⟨vI_of (by rfl) (by omega), ?_⟩))⟩, (by first | omega | (dsimp only; omega))⟩
      · obtain ⟨rfl, rfl⟩ := jr_uni hR (ji_no h3 hli h4 hx)
        clear h3 h4 hx hli hR
        (repeat (first | refine gq_DJ ?_ | (refine ga_DJ ?_; intro _hq)))
        ((try refine aw_ret ?_); refine ret_auto2 (by rfl) (by rfl) (by rfl) (by repeat (first | exact trivial | refine ⟨by first | rfl | omega, ?_⟩)) ?_ (by repeat (first | exact trivial | refine ⟨by rfl, by rfl, ?_⟩)) (by repeat (first | exact trivial | refine ⟨by rfl, by rfl, ?_⟩)); try rfl)
    | false =>
      rw [show s.getD (k : Int).toNat 0 = s.getD k 0 from rfl, hb] at hq
      have hinv : k + 1 ≤ s.length ∧ f ≤ k + 1 ∧ JI s f o ∧ (10 : UInt8) ∉ (s.drop f).take (k + 1 - f) := ⟨h5, by omega, h3, mem_take h2 h5 h4 (beq_eq_false_iff_ne.1 hb)⟩
      clear h3 h4 hR
      (repeat (first | refine gq_DJ ?_ | (refine ga_DJ ?_; intro _hq)))
      exact ⟨(k + 1, f, u, o), hinv, ⟨by rfl, (by repeat (first | exact trivial | refine ⟨by rfl, ?_⟩ | refine ⟨vI_of (by rfl) (by omega), ?_⟩)), (by repeat (first | exact trivial | refine ⟨by rfl, ?_⟩ | refine ⟨vI_of (by rfl) (by omega), ?_⟩))⟩, (by first | omega | (dsimp only; omega))⟩
  · have hd : decide ((k : Int) < (s.length : Int)) = false := decide_eq_false (by omega)
    obtain rfl : k = s.length := by omega
    rw [List.take_of_length_le (by rw [List.length_drop]; omega)] at h4
    obtain ⟨rfl, rfl⟩ := jr_uni hR (ji_last h3 h4)
    clear h3 h4 hR
    (repeat (first | refine gq_DJ ?_ | (refine ga_DJ ?_; intro _hq)))
    ((try refine aw_ret ?_); refine ret_auto2 (by rfl) (by rfl) (by rfl) (by repeat (first | exact trivial | refine ⟨by first | rfl | omega, ?_⟩)) ?_ (by repeat (first | exact trivial | refine ⟨by rfl, by rfl, ?_⟩)) (by repeat (first | exact trivial | refine ⟨by rfl, by rfl, ?_⟩)); try rfl)
theorem idx_mem (c : UInt8) : ∀ s : List UInt8, (Go.Lib.index s [c] = -1 ∧ c ∉ s) ∨ ∃ i : Nat, Go.Lib.index s [c] = (i : Int) ∧ i < s.length ∧ s = s.take i ++ c :: s.drop (i + 1) ∧ c ∉ s.take i
  | [] => .inl ⟨rfl, List.not_mem_nil⟩
  | b :: s => by
    rw [idx_cons]
    by_cases hb : (b == c) = true
    · rw [if_pos hb]
      obtain rfl := eq_of_beq hb
      exact .inr ⟨0, rfl, by simp, by simp, by simp⟩
    · rw [if_neg hb]
      have hne : ¬ c = b := fun e => hb (by rw [e]; simp)
      rcases idx_mem c s with ⟨h1, h2⟩ | ⟨i, h1, h2, h3, h4⟩
      · refine .inl ⟨by rw [h1]; rfl, ?_⟩
        simp only [List.mem_cons, not_or]; exact ⟨hne, h2⟩
      · refine .inr ⟨i + 1, ?_, by simp; omega, ?_, ?_⟩
        · rw [h1, if_neg (by simp)]; simp
        · rw [List.take_succ_cons, List.drop_succ_cons, List.cons_append, ← h3]
        · rw [List.take_succ_cons]
          simp only [List.mem_cons, not_or]; exact ⟨hne, h4⟩
theorem cut10 (s : List UInt8) : (Go.Lib.cut s [10] = (s, [], false) ∧ (10 : UInt8) ∉ s) ∨ (∃ i, i < s.length ∧ Go.Lib.cut s [10] = (s.take i, s.drop (i + 1), true) ∧ s = s.take i ++ 10 :: s.drop (i + 1) ∧ (10 : UInt8) ∉ s.take i) := by
  rcases idx_mem 10 s with ⟨h1, h2⟩ | ⟨i, h1, h2, h3, h4⟩
  · refine .inl ⟨?_, h2⟩
    unfold Go.Lib.cut
    rw [h1, if_neg (by decide)]
  · refine .inr ⟨i, h2, ?_, h3, h4⟩
    unfold Go.Lib.cut
    rw [h1, if_pos (by omega)]
    rfl
set_option maxHeartbeats 4000000 in
theorem k_rjI (s : List UInt8) (hs : s.length ≤ 7000000) (l : List Dd) (n : Nat) (hR : JR s l n) : Kon Tryd.prog 19 [vS s] [] (.tup [.one (.sl 0 0 l.length), .one (.v (.int .i64 n))]) [dRow l] [] := by
  (refine kon_mk T0ok (fn := Tryd.f19) (c := Tryd.f19.body.get rfl) Tryd.func19 rfl (by rfl) (by rfl) (by rfl) ?_; intro hfit hfe)
  (repeat (first | refine gq_DJ ?_ | (refine ga_DJ ?_; intro _hq)))
  (refine aw_rd [0] [] (fun g : Nat × Nat × List Dd => [(4, .g (.one (.sl 176 g.2.1 g.2.2.length))), (5, vI g.1)]) (fun g => [(176, (g.2.1, dRow g.2.2))]) (fun g => JI s g.1 g.2.2) (fun g => s.length + 1 - g.1) (0, 0, []) (by rfl) (by rfl) ?_ (by rfl) (by repeat (first | exact trivial | refine ⟨by rfl, ?_⟩ | refine ⟨vI_of (by rfl) (by omega), ?_⟩)) (by repeat (first | exact trivial | refine ⟨by rfl, ?_⟩ | refine ⟨vI_of (by rfl) (by omega), ?_⟩)) ?_)
  · exact ji_0 s
  rintro ⟨f, u, o⟩ h3
  dsimp only at h3 ⊢
  have hol := ji_len h3
  have e0 : (s.drop f).take (s.length - f) = s.drop f := List.take_of_length_le (by rw [List.length_drop]; omega)
  have hC := k_scut 10 ((s.drop f).take (s.length - f)) (by rw [e0, List.length_drop]; omega)
  rw [e0] at hC
  rw [← e0] at hC
  rcases cut10 (s.drop f) with ⟨h4, h5⟩ | ⟨i, h6, h4, h5, h7⟩
  · have h4' : Go.Lib.cut ((s.drop f).take (s.length - f)) [10] = (s.drop f, [], false) := by rw [e0]; exact h4
    rw [h4'] at hC
    obtain ⟨d, b, hx, _, hK⟩ := rd_ex (s.drop f) (by rw [List.length_drop]; omega)
    obtain ⟨rfl, rfl⟩ := jr_uni hR (ji_last h3 h5)
    clear h3 h4 h4' h5 hx hR e0
    (repeat (first | refine gq_DJ ?_ | (refine ga_DJ ?_; intro _hq)))
    ((try refine aw_ret ?_); refine ret_auto2 (by rfl) (by rfl) (by rfl) (by repeat (first | exact trivial | refine ⟨by first | rfl | omega, ?_⟩)) ?_ (by repeat (first | exact trivial | refine ⟨by rfl, by rfl, ?_⟩)) (by repeat (first | exact trivial | refine ⟨by rfl, by rfl, ?_⟩)); try rfl)
  · have h4' : Go.Lib.cut ((s.drop f).take (s.length - f)) [10] = ((s.drop f).take i, (s.drop f).drop (i + 1), true) := by rw [e0]; exact h4
    rw [h4'] at hC
    rw [List.length_drop] at h6
    have hal : ((s.drop f).take i).length = i := by rw [List.length_take, List.length_drop]; omega
    obtain ⟨d, b, hx, _, hK⟩ := rd_ex ((s.drop f).take i) (by omega)
    rcases hx with ⟨rfl, hx⟩ | ⟨rfl, rfl, hx⟩
    · have hinv := ji_more h3 h5 hx
      rw [hal] at hinv
      generalize (s.drop f).take i = a at *
      subst hal
      clear h3 h4 h4' h5 hx hR e0 h7
      (repeat (first | refine gq_DJ ?_ | (refine ga_DJ ?_; intro _hq)))
      exact ⟨(f + a.length + 1, u + 1, o ++ [d]), hinv, ⟨by rfl, (by repeat (first | exact trivial | refine ⟨by rfl, ?_⟩ | refine ⟨vI_of (by rfl) (by omega), ?_⟩)), (by repeat (first | exact trivial | refine ⟨by rfl, ?_⟩ | refine ⟨vI_of (by rfl) (by omega), ?_⟩))⟩, (by first | omega | (dsimp only; omega))⟩
    · obtain ⟨rfl, rfl⟩ := jr_uni hR (ji_no h3 h5 h7 hx)
      clear h3 h4 h4' h5 hx hR e0 h7
      (repeat (first | refine gq_DJ ?_ | (refine ga_DJ ?_; intro _hq)))
      ((try refine aw_ret ?_); refine ret_auto2 (by rfl) (by rfl) (by rfl) (by repeat (first | exact trivial | refine ⟨by first | rfl | omega, ?_⟩)) ?_ (by repeat (first | exact trivial | refine ⟨by rfl, by rfl, ?_⟩)) (by repeat (first | exact trivial | refine ⟨by rfl, by rfl, ?_⟩)); try rfl)
end Go.Proofs.YtgphlcdinejmdaaDoor

/- Lists of deeds: what the exact laws do with them; the law FnExactDeedText. -/
namespace Go.Proofs.YtgphlcdinejmdaaDoor
set_option linter.unusedVariables false
set_option linter.unusedSimpArgs false
set_option maxRecDepth 20000
open Go.RowKit
theorem up_rowFF {α : Type} [Cel α] {l : List α} {q : Int} {z o1 o2 : Nat} {v : Value} {u : α} (hz : z = Cel.sz α) (ho : Nat.blt (o1 + o2) (Cel.sz α) = true) (hu : Cel.un (α := α) ((Cel.f (l.getD q.toNat Cel.no)).set (o1 + o2) v) = some u) (hq : 0 ≤ q ∧ q < l.length) : Up1 (cV l) (q.toNat * z + o1 + o2) [v] (cV (l.set q.toNat u)) () := by
  rw [Nat.add_assoc]; exact up_rowF hz ho hu hq
theorem ft_rpFF {α : Type} [Cel α] {l : List α} {q : Int} {z o1 o2 k : Nat} {agg : Bool} {v : AV} (hz : z = Cel.sz α) (hk : Nat.ble (o1 + o2 + k) (Cel.sz α) = true) (hv : ofa agg ((((Cel.f (l.getD q.toNat Cel.no)).drop (o1 + o2)).take k).map .v) = some v) (hq : 0 ≤ q ∧ q < l.length) : Ft1 ((((cV l).drop (q.toNat * z)).drop o1).drop o2) 0 agg k v () := by
  rw [List.drop_drop (i := o2) (j := o1)]; exact ft_rpF hz hk hv hq
theorem ft_rowFF {α : Type} [Cel α] {l : List α} {q : Int} {z o1 o2 k : Nat} {agg : Bool} {v : AV} (hz : z = Cel.sz α) (hk : Nat.ble (o1 + o2 + k) (Cel.sz α) = true) (hv : ofa agg ((((Cel.f (l.getD q.toNat Cel.no)).drop (o1 + o2)).take k).map .v) = some v) (hq : 0 ≤ q ∧ q < l.length) : Ft1 (cV l) (q.toNat * z + o1 + o2) agg k v () := by
  rw [Nat.add_assoc]; exact ft_rowF hz hk hv hq
attribute [local irreducible] runA runX AW

def wsTJ : WsT := (20, ([0], false)) :: wsT




theorem gq_DD {H G : Prop} (k : H) (h : Hid H → G := by (intro hh; (first | (first | ((first | refine r_none ?_ | refine r_gt (by rfl) (by rfl) (by first | rfl | assumption | omega | (simp only [*, Bool.not_false, Bool.not_true]; first | done | fail) | (simp [*]; first | done | fail)) (by rfl) ?_ | refine r_gf (by rfl) (by rfl) (by first | rfl | assumption | omega | (simp only [*, Bool.not_false, Bool.not_true]; first | done | fail) | (simp [*]; first | done | fail)) (by rfl) ?_); (first | (first | refine r_sne (by rfl) (by rfl) (by rfl) ?_) | ((first | (refine z_op (by rfl) ?_; first | refine z_ok ?_ ?_ | refine z_ex ?_ (by first | exact ft_raw rfl rfl | ((first | refine ft_rp rfl rfl rfl ?_ | refine ft_row rfl rfl rfl ?_ | refine ft_rpF rfl rfl rfl ?_ | refine ft_rowF rfl rfl rfl ?_ | refine up_row rfl rfl ?_ | refine up_rowF rfl rfl rfl ?_ | refine ct_0 rfl ?_ | refine ct_r rfl rfl ?_ | refine ct_c rfl rfl rfl ?_ | refine cu_all rfl ?_ | refine cu_to rfl ?_ | refine cu_from rfl ?_ | refine cu_p rfl ?_ | refine mk_c Dd rfl rfl rfl ?_); (first | omega | (simp only [List.length_append, List.length_replicate, List.length_cons, List.length_nil, List.length_set, List.length_take, List.length_drop, true_and]; omega))) | exact up_raw rfl | exact pk_t (by first | rfl | assumption | omega | (simp only [*, Bool.not_false, Bool.not_true]; first | done | fail) | (simp [*]; first | done | fail)) rfl | exact pk_f (by first | rfl | assumption | omega | (simp only [*, Bool.not_false, Bool.not_true]; first | done | fail) | (simp [*]; first | done | fail)) rfl | fail | exact rw_raw | exact pu_cv (fun w => rfl) (by omega) | exact pu_of (fun w => rfl) rfl | exact be_of (fun w => rfl) | exact nc_of (fun _ _ _ _ => rfl) rfl | exact bu_of (fun w => rfl) rfl | ((first | refine ft_rpFF (α := Dd) rfl rfl rfl ?_ | refine ft_rowFF (α := Dd) rfl rfl rfl ?_ | refine up_rowFF (α := Dd) rfl rfl rfl ?_); (first | omega | (simp only [List.length_append, List.length_replicate, List.length_cons, List.length_nil, List.length_set, List.length_take, List.length_drop, true_and]; omega)))) ?_) | ((first | refine q_callE wsTJ wsZ (by rfl) ?_ | refine q_callVE wsTJ (by rfl) (by rfl) ?_); refine ⟨_, _, _, (by first | assumption | exact k_toDeed _ | exact k_eqDeed _ | exact k_toGate _), _, by rfl, ?_, ?_⟩)); focus (first | exact trivial | fail | exact rfl | (first | omega | (simp only [List.length_append, List.length_replicate, List.length_cons, List.length_nil, List.length_set, List.length_take, List.length_drop, true_and]; omega)) | exact cvB (fun w => rfl) | ((repeat' (first | exact rfl | exact cV_len _ | exact cV_ln rfl (by omega) | exact Cel.pos | omega | exact trivial | refine And.intro ?_ ?_)); done) | (simp [*]; done) | (simp; omega))) | fail)) | refine r_nt (by rfl) (by rfl) (by first | rfl | assumption | omega | (simp only [*, Bool.not_false, Bool.not_true]; first | done | fail) | (simp [*]; first | done | fail)) (by rfl) ?_ | refine r_nf (by rfl) (by rfl) (by first | rfl | assumption | omega | (simp only [*, Bool.not_false, Bool.not_true]; first | done | fail) | (simp [*]; first | done | fail)) (by rfl) ?_ | refine r_gu (by rfl) (by rfl) (by rfl) ?_ | refine r_nil ?_) | (first | refine aw_seq ?_ | refine aw_ct (by rfl) (by first | rfl | assumption | omega | (simp only [*, Bool.not_false, Bool.not_true]; first | done | fail) | (simp [*]; first | done | fail)) ?_ | refine aw_cf (by rfl) (by first | rfl | assumption | omega | (simp only [*, Bool.not_false, Bool.not_true]; first | done | fail) | (simp [*]; first | done | fail)) ?_ | refine aw_block ?_ | refine aw_region T0ok cfU_ok (by rfl) ?_ | refine aw_skip ?_ | refine aw_exit ?_ | refine ra_step ?_)); (repeat (first | (first | ((first | refine r_none ?_ | refine r_gt (by rfl) (by rfl) (by first | rfl | assumption | omega | (simp only [*, Bool.not_false, Bool.not_true]; first | done | fail) | (simp [*]; first | done | fail)) (by rfl) ?_ | refine r_gf (by rfl) (by rfl) (by first | rfl | assumption | omega | (simp only [*, Bool.not_false, Bool.not_true]; first | done | fail) | (simp [*]; first | done | fail)) (by rfl) ?_); (first | (first | refine r_sne (by rfl) (by rfl) (by rfl) ?_) | ((first | (refine z_op (by rfl) ?_; first | refine z_ok ?_ ?_ | refine z_ex ?_ (by first | exact ft_raw rfl rfl | ((first | refine ft_rp rfl rfl rfl ?_ | refine ft_row rfl rfl rfl ?_ | refine ft_rpF rfl rfl rfl ?_ | refine ft_rowF rfl rfl rfl ?_ | refine up_row rfl rfl ?_ | refine up_rowF rfl rfl rfl ?_ | refine ct_0 rfl ?_ | refine ct_r rfl rfl ?_ | refine ct_c rfl rfl rfl ?_ | refine cu_all rfl ?_ | refine cu_to rfl ?_ | refine cu_from rfl ?_ | refine cu_p rfl ?_ | refine mk_c Dd rfl rfl rfl ?_); (first | omega | (simp only [List.length_append, List.length_replicate, List.length_cons, List.length_nil, List.length_set, List.length_take, List.length_drop, true_and]; omega))) | exact up_raw rfl | exact pk_t (by first | rfl | assumption | omega | (simp only [*, Bool.not_false, Bool.not_true]; first | done | fail) | (simp [*]; first | done | fail)) rfl | exact pk_f (by first | rfl | assumption | omega | (simp only [*, Bool.not_false, Bool.not_true]; first | done | fail) | (simp [*]; first | done | fail)) rfl | fail | exact rw_raw | exact pu_cv (fun w => rfl) (by omega) | exact pu_of (fun w => rfl) rfl | exact be_of (fun w => rfl) | exact nc_of (fun _ _ _ _ => rfl) rfl | exact bu_of (fun w => rfl) rfl | ((first | refine ft_rpFF (α := Dd) rfl rfl rfl ?_ | refine ft_rowFF (α := Dd) rfl rfl rfl ?_ | refine up_rowFF (α := Dd) rfl rfl rfl ?_); (first | omega | (simp only [List.length_append, List.length_replicate, List.length_cons, List.length_nil, List.length_set, List.length_take, List.length_drop, true_and]; omega)))) ?_) | ((first | refine q_callE wsTJ wsZ (by rfl) ?_ | refine q_callVE wsTJ (by rfl) (by rfl) ?_); refine ⟨_, _, _, (by first | assumption | exact k_toDeed _ | exact k_eqDeed _ | exact k_toGate _), _, by rfl, ?_, ?_⟩)); focus (first | exact trivial | fail | exact rfl | (first | omega | (simp only [List.length_append, List.length_replicate, List.length_cons, List.length_nil, List.length_set, List.length_take, List.length_drop, true_and]; omega)) | exact cvB (fun w => rfl) | ((repeat' (first | exact rfl | exact cV_len _ | exact cV_ln rfl (by omega) | exact Cel.pos | omega | exact trivial | refine And.intro ?_ ?_)); done) | (simp [*]; done) | (simp; omega))) | fail)) | refine r_nt (by rfl) (by rfl) (by first | rfl | assumption | omega | (simp only [*, Bool.not_false, Bool.not_true]; first | done | fail) | (simp [*]; first | done | fail)) (by rfl) ?_ | refine r_nf (by rfl) (by rfl) (by first | rfl | assumption | omega | (simp only [*, Bool.not_false, Bool.not_true]; first | done | fail) | (simp [*]; first | done | fail)) (by rfl) ?_ | refine r_gu (by rfl) (by rfl) (by rfl) ?_ | refine r_nil ?_) | (first | refine aw_seq ?_ | refine aw_ct (by rfl) (by first | rfl | assumption | omega | (simp only [*, Bool.not_false, Bool.not_true]; first | done | fail) | (simp [*]; first | done | fail)) ?_ | refine aw_cf (by rfl) (by first | rfl | assumption | omega | (simp only [*, Bool.not_false, Bool.not_true]; first | done | fail) | (simp [*]; first | done | fail)) ?_ | refine aw_block ?_ | refine aw_region T0ok cfU_ok (by rfl) ?_ | refine aw_skip ?_ | refine aw_exit ?_ | refine ra_step ?_))); exact hh.out)) : G := h ⟨k⟩
theorem ga_DD {H G : Prop} (k : H) (h : Hid H → G := by (intro hh; (first | refine r_none ?_ | refine r_gt (by rfl) (by rfl) (by first | rfl | assumption | omega | (simp only [*, Bool.not_false, Bool.not_true]; first | done | fail) | (simp [*]; first | done | fail)) (by rfl) ?_ | refine r_gf (by rfl) (by rfl) (by first | rfl | assumption | omega | (simp only [*, Bool.not_false, Bool.not_true]; first | done | fail) | (simp [*]; first | done | fail)) (by rfl) ?_); refine z_op (by rfl) ?_; refine z_alV ?_ hh.out; focus (first | exact trivial | fail | exact rfl | (first | omega | (simp only [List.length_append, List.length_replicate, List.length_cons, List.length_nil, List.length_set, List.length_take, List.length_drop, true_and]; omega)) | exact cvB (fun w => rfl) | ((repeat' (first | exact rfl | exact cV_len _ | exact cV_ln rfl (by omega) | exact Cel.pos | omega | exact trivial | refine And.intro ?_ ?_)); done) | (simp [*]; done) | (simp; omega)))) : G := h ⟨k⟩
theorem gd_DD {H G : Prop} (k : H) (h : Hid H → G := by (intro hh; (refine aw_draw mixed T0ok cfU_ok [] (by rfl) (by kernel_rfl) ?_); exact hh.out)) : G := h ⟨k⟩
theorem k_eqGate (p : Gt) : Kon Tryd.prog 36 [gV p, gV p] [] (vB true) [] [] := by
  obtain ⟨k, a, b, c⟩ := p
  have hx : ∀ x : Int, (x != x) = false := fun x => by simp
  have h1 := hx k
  have h2 := hx a
  have h3 := hx b
  have h4 := hx c
  (refine kon_mk T0ok (fn := Tryd.f36) (c := Tryd.f36.body.get rfl) Tryd.func36 rfl (by rfl) (by rfl) (by rfl) ?_; intro hfit hfe)
  (repeat (first | refine gq_DD ?_ | (refine ga_DD ?_; intro _hq)))
  ((try refine aw_ret ?_); refine ret_auto2 (by rfl) (by rfl) (by rfl) (by repeat (first | exact trivial | refine ⟨by first | rfl | omega, ?_⟩)) ?_ (by repeat (first | exact trivial | refine ⟨by rfl, by rfl, ?_⟩)) (by repeat (first | exact trivial | refine ⟨by rfl, by rfl, ?_⟩)); try rfl)
theorem k_eqDeed (d : Dd) : Kon Tryd.prog 12 [dV d, dV d] [] (vB true) [] [] := by
  obtain ⟨k, n, p⟩ := d
  have hE := k_eqGate p
  obtain ⟨pk, a, b, c⟩ := p
  have hx : ∀ x : Int, (x != x) = false := fun x => by simp
  have h1 := hx k
  have h2 := hx n
  (refine kon_mk T0ok (fn := Tryd.f12) (c := Tryd.f12.body.get rfl) Tryd.func12 rfl (by rfl) (by rfl) (by rfl) ?_; intro hfit hfe)
  (repeat (first | refine gq_DD ?_ | (refine ga_DD ?_; intro _hq)))
  ((try refine aw_ret ?_); refine ret_auto2 (by rfl) (by rfl) (by rfl) (by repeat (first | exact trivial | refine ⟨by first | rfl | omega, ?_⟩)) ?_ (by repeat (first | exact trivial | refine ⟨by rfl, by rfl, ?_⟩)) (by repeat (first | exact trivial | refine ⟨by rfl, by rfl, ?_⟩)); try rfl)
theorem k_toGate (g : Gt) : Kon Tryd.prog 26 [gV g] [] (gV g) [] [] := by
  (refine kon_mk T0ok (fn := Tryd.f26) (c := Tryd.f26.body.get rfl) Tryd.func26 rfl (by rfl) (by rfl) (by rfl) ?_; intro hfit hfe)
  (repeat (first | refine gq_DD ?_ | (refine ga_DD ?_; intro _hq)))
  ((try refine aw_ret ?_); refine ret_auto2 (by rfl) (by rfl) (by rfl) (by repeat (first | exact trivial | refine ⟨by first | rfl | omega, ?_⟩)) ?_ (by repeat (first | exact trivial | refine ⟨by rfl, by rfl, ?_⟩)) (by repeat (first | exact trivial | refine ⟨by rfl, by rfl, ?_⟩)); try rfl)
theorem k_toDeed (d : Dd) : Kon Tryd.prog 8 [dV d] [] (dV d) [] [] := by
  have hG := k_toGate d.p
  (refine kon_mk T0ok (fn := Tryd.f8) (c := Tryd.f8.body.get rfl) Tryd.func8 rfl (by rfl) (by rfl) (by rfl) ?_; intro hfit hfe)
  (repeat (first | refine gq_DD ?_ | (refine ga_DD ?_; intro _hq)))
  ((try refine aw_ret ?_); refine ret_auto2 (by rfl) (by rfl) (by rfl) (by repeat (first | exact trivial | refine ⟨by first | rfl | omega, ?_⟩)) ?_ (by repeat (first | exact trivial | refine ⟨by rfl, by rfl, ?_⟩)) (by repeat (first | exact trivial | refine ⟨by rfl, by rfl, ?_⟩)); try rfl)
abbrev d0 : Dd := Cel.no
theorem k_eqDs (l : List Dd) (h : l.length ≤ 10000000) : Kon Tryd.prog 17 [roA l, roA l] [] (vB true) [] [] := by
  have h1 : ((l.length : Int) != (l.length : Int)) = false := by simp
  (refine kon_mk T0ok (fn := Tryd.f17) (c := Tryd.f17.body.get rfl) Tryd.func17 rfl (by rfl) (by rfl) (by rfl) ?_; intro hfit hfe)
  (repeat (first | refine gq_DD ?_ | (refine ga_DD ?_; intro _hq)))
  (refine aw_rd [0, 1, 4] [] (fun i : Nat => [(5, vI i)]) (fun _ => []) (fun i => i ≤ l.length) (fun i => l.length - i) 0 (by rfl) (by rfl) ?_ (by rfl) (by repeat (first | exact trivial | refine ⟨by rfl, ?_⟩ | refine ⟨vI_of (by rfl) (by omega), ?_⟩)) (by repeat (first | exact trivial | refine ⟨by rfl, ?_⟩ | refine ⟨vI_of (by rfl) (by omega), ?_⟩)) ?_)
  · exact Nat.zero_le _
  rintro i hi
  rcases Nat.lt_or_ge i l.length with h5 | h5
  · have hd : decide ((i : Int) < (l.length : Int)) = true := decide_eq_true (by omega)
    (repeat (first | refine gq_DD ?_ | (refine ga_DD ?_; intro _hq) | refine gd_DD ?_))
    exact ⟨i + 1, h5, ⟨by rfl, (by repeat (first | exact trivial | refine ⟨by rfl, ?_⟩ | refine ⟨vI_of (by rfl) (by omega), ?_⟩)), (by repeat (first | exact trivial | refine ⟨by rfl, ?_⟩ | refine ⟨vI_of (by rfl) (by omega), ?_⟩))⟩, (by first | omega | (dsimp only; omega))⟩
  · have hd : decide ((i : Int) < (l.length : Int)) = false := decide_eq_false (by omega)
    (repeat (first | refine gq_DD ?_ | (refine ga_DD ?_; intro _hq) | refine gd_DD ?_))
    ((try refine aw_ret ?_); refine ret_auto2 (by rfl) (by rfl) (by rfl) (by repeat (first | exact trivial | refine ⟨by first | rfl | omega, ?_⟩)) ?_ (by repeat (first | exact trivial | refine ⟨by rfl, by rfl, ?_⟩)) (by repeat (first | exact trivial | refine ⟨by rfl, by rfl, ?_⟩)); try rfl)
def mkD1 (l : List Dd) (i : Nat) (k : Int) : List Dd :=
  let l0 := l.set i ⟨k, (l.getD i Cel.no).n, (l.getD i Cel.no).p⟩
  let l1 := l0.set i ⟨(l0.getD i Cel.no).k, k + 1, (l0.getD i Cel.no).p⟩
  let l2 := l1.set i ⟨(l1.getD i Cel.no).k, (l1.getD i Cel.no).n, ⟨k + 1 + 1, (l1.getD i Cel.no).p.a, (l1.getD i Cel.no).p.b, (l1.getD i Cel.no).p.c⟩⟩
  let l3 := l2.set i ⟨(l2.getD i Cel.no).k, (l2.getD i Cel.no).n, ⟨(l2.getD i Cel.no).p.k, k + 1 + 1 + 1, (l2.getD i Cel.no).p.b, (l2.getD i Cel.no).p.c⟩⟩
  let l4 := l3.set i ⟨(l3.getD i Cel.no).k, (l3.getD i Cel.no).n, ⟨(l3.getD i Cel.no).p.k, (l3.getD i Cel.no).p.a, k + 1 + 1 + 1 + 1, (l3.getD i Cel.no).p.c⟩⟩
  l4.set i ⟨(l4.getD i Cel.no).k, (l4.getD i Cel.no).n, ⟨(l4.getD i Cel.no).p.k, (l4.getD i Cel.no).p.a, (l4.getD i Cel.no).p.b, k + 1 + 1 + 1 + 1 + 1⟩⟩
def mkD (k : Int) (l : List Dd) : Nat → List Dd
  | 0 => l
  | i + 1 => mkD1 (mkD k l i) i (k + 6 * (i : Int))
theorem mkD_len (k : Int) (l : List Dd) : ∀ i, (mkD k l i).length = l.length
  | 0 => rfl
  | i + 1 => by rw [mkD, mkD1]; simp only [List.length_set]; exact mkD_len k l i
set_option maxHeartbeats 2000000 in
theorem k_markDs (l : List Dd) (n : Nat) (k : Int) (h : n = l.length ∧ 0 ≤ k ∧ k ≤ 10000000 ∧ l.length ≤ 10000000) : Kon Tryd.prog 20 [.g (.one (.sl 100000 0 n)), vI k] [dRow l] (vI (k + 6 * (l.length : Int))) [] [dRow (mkD k l l.length)] := by
  obtain ⟨rfl, h⟩ := h
  (refine kon_mk T0ok (fn := Tryd.f20) (c := Tryd.f20.body.get rfl) Tryd.func20 rfl (by rfl) (by rfl) (by rfl) ?_; intro hfit hfe)
  (repeat (first | refine gq_DD ?_ | (refine ga_DD ?_; intro _hq)))
  refine aw_rd [0] [] (fun i : Nat => [(1, vI (k + 6 * (i : Int))), (5, vI i)]) (fun i => [(100000, (0, dRow (mkD k l i)))]) (fun i => i ≤ l.length) (fun i => l.length - i) 0 (by rfl) (by rfl) ?_ (by rfl) (by repeat (first | exact trivial | refine ⟨by rfl, ?_⟩ | refine ⟨vI_of (by rfl) (by omega), ?_⟩)) ⟨by (simp only [St.put, Gin, Nat.le_refl, if_true, Nat.sub_self]; rfl), trivial⟩ ?_
  · exact Nat.zero_le _
  rintro i hi
  have hl2 := mkD_len k l i
  rcases Nat.lt_or_ge i l.length with h1 | h1
  · have hd : decide ((i : Int) < (l.length : Int)) = true := decide_eq_true (by omega)
    have hinv : i + 1 ≤ l.length := h1
    (repeat (first | refine gq_DD ?_ | (refine ga_DD ?_; intro _hq)))
    exact ⟨i + 1, hinv, ⟨by rfl, (by repeat (first | exact trivial | refine ⟨by rfl, ?_⟩ | refine ⟨vI_of (by rfl) (by omega), ?_⟩)), (by repeat (first | exact trivial | refine ⟨by rfl, ?_⟩ | refine ⟨vI_of (by rfl) (by omega), ?_⟩))⟩, (by first | omega | (dsimp only; omega))⟩
  · obtain rfl : i = l.length := by omega
    have hd : decide ((l.length : Int) < (l.length : Int)) = false := decide_eq_false (by omega)
    (repeat (first | refine gq_DD ?_ | (refine ga_DD ?_; intro _hq)))
    ((try refine aw_ret ?_); refine ret_auto2 (by rfl) (by rfl) (by rfl) (by repeat (first | exact trivial | refine ⟨by first | rfl | omega, ?_⟩)) ?_ (by repeat (first | exact trivial | refine ⟨by rfl, by rfl, ?_⟩)) (by repeat (first | exact trivial | refine ⟨by rfl, by rfl, ?_⟩)); try rfl)
abbrev dM (k : Int) : Dd := ⟨k, k + 1, ⟨k + 1 + 1, k + 1 + 1 + 1, k + 1 + 1 + 1 + 1, k + 1 + 1 + 1 + 1 + 1⟩⟩
theorem mkD1_same (l : List Dd) (i : Nat) (k : Int) (h : i < l.length) : (mkD1 l i k).getD i Cel.no = dM k := by
  unfold mkD1
  simp [List.getD_eq_getElem?_getD, h]
theorem mkD1_ne (l : List Dd) (i j : Nat) (k : Int) (h : i ≠ j) : (mkD1 l i k).getD j Cel.no = l.getD j Cel.no := by
  unfold mkD1
  simp [List.getD_eq_getElem?_getD, List.getElem?_set_ne h]
theorem mkD_at (k : Int) (l : List Dd) : ∀ (i j : Nat), j < i → i ≤ l.length → (mkD k l i).getD j Cel.no = dM (k + 6 * (j : Int))
  | 0, j, h, _ => by omega
  | i + 1, j, h, hi => by
    rw [mkD]
    by_cases hj : j = i
    · subst hj
      exact mkD1_same _ _ _ (by rw [mkD_len]; omega)
    · rw [mkD1_ne _ _ _ _ (by omega)]
      exact mkD_at k l i j (by omega) (by omega)
set_option maxHeartbeats 2000000 in
theorem k_heldDs (M : List Dd) (k : Int) (h : M.length ≤ 10000000 ∧ 0 ≤ k ∧ k ≤ 10000000) (hM : ∀ j, j < M.length → M.getD j Cel.no = dM (k + 6 * (j : Int))) : Kon Tryd.prog 21 [roA M, vI k] [] (vI (k + 6 * (M.length : Int))) [] [] := by
  (refine kon_mk T0ok (fn := Tryd.f21) (c := Tryd.f21.body.get rfl) Tryd.func21 rfl (by rfl) (by rfl) (by rfl) ?_; intro hfit hfe)
  (repeat (first | refine gq_DD ?_ | (refine ga_DD ?_; intro _hq)))
  (refine aw_rd [0] [] (fun i : Nat => [(1, vI (k + 6 * (i : Int))), (5, vI i)]) (fun _ => []) (fun i => i ≤ M.length) (fun i => M.length - i) 0 (by rfl) (by rfl) ?_ (by rfl) (by repeat (first | exact trivial | refine ⟨by rfl, ?_⟩ | refine ⟨vI_of (by rfl) (by omega), ?_⟩)) (by repeat (first | exact trivial | refine ⟨by rfl, ?_⟩ | refine ⟨vI_of (by rfl) (by omega), ?_⟩)) ?_)
  · exact Nat.zero_le _
  rintro i hi
  rcases Nat.lt_or_ge i M.length with h5 | h5
  · have hd : decide ((i : Int) < (M.length : Int)) = true := decide_eq_true (by omega)
    have hg : M.getD (i : Int).toNat Cel.no = dM (k + 6 * (i : Int)) := hM i h5
    have f0 : ((M.getD (i : Int).toNat Cel.no).k != k + 6 * (i : Int)) = false := by rw [hg]; simp
    have f1 : ((M.getD (i : Int).toNat Cel.no).n != k + 6 * (i : Int) + 1) = false := by rw [hg]; simp
    have f2 : ((M.getD (i : Int).toNat Cel.no).p.k != k + 6 * (i : Int) + 1 + 1) = false := by rw [hg]; simp
    have f3 : ((M.getD (i : Int).toNat Cel.no).p.a != k + 6 * (i : Int) + 1 + 1 + 1) = false := by rw [hg]; simp
    have f4 : ((M.getD (i : Int).toNat Cel.no).p.b != k + 6 * (i : Int) + 1 + 1 + 1 + 1) = false := by rw [hg]; simp
    have f5 : ((M.getD (i : Int).toNat Cel.no).p.c != k + 6 * (i : Int) + 1 + 1 + 1 + 1 + 1) = false := by rw [hg]; simp
    clear hM hg
    have hinv : i + 1 ≤ M.length := h5
    (repeat (first | refine gq_DD ?_ | (refine ga_DD ?_; intro _hq)))
    exact ⟨i + 1, hinv, ⟨by rfl, (by repeat (first | exact trivial | refine ⟨by rfl, ?_⟩ | refine ⟨vI_of (by rfl) (by omega), ?_⟩)), (by repeat (first | exact trivial | refine ⟨by rfl, ?_⟩ | refine ⟨vI_of (by rfl) (by omega), ?_⟩))⟩, (by first | omega | (dsimp only; omega))⟩
  · obtain rfl : i = M.length := by omega
    have hd : decide ((M.length : Int) < (M.length : Int)) = false := decide_eq_false (by omega)
    (repeat (first | refine gq_DD ?_ | (refine ga_DD ?_; intro _hq)))
    ((try refine aw_ret ?_); refine ret_auto2 (by rfl) (by rfl) (by rfl) (by repeat (first | exact trivial | refine ⟨by first | rfl | omega, ?_⟩)) ?_ (by repeat (first | exact trivial | refine ⟨by rfl, by rfl, ?_⟩)) (by repeat (first | exact trivial | refine ⟨by rfl, by rfl, ?_⟩)); try rfl)
end Go.Proofs.YtgphlcdinejmdaaDoor

/- The law FnExactReadJournal. -/
namespace Go.Proofs.YtgphlcdinejmdaaDoor
set_option linter.unusedVariables false
set_option linter.unusedSimpArgs false
set_option maxRecDepth 20000
open Go.RowKit
attribute [local irreducible] runA runX AW
theorem gq_DK {H G : Prop} (k : H) (h : Hid H → G := by (intro hh; (first | (first | ((first | refine r_none ?_ | refine r_gt (by rfl) (by rfl) (by first | rfl | assumption | omega | (simp only [*, Bool.not_false, Bool.not_true]; first | done | fail) | (simp [*]; first | done | fail)) (by rfl) ?_ | refine r_gf (by rfl) (by rfl) (by first | rfl | assumption | omega | (simp only [*, Bool.not_false, Bool.not_true]; first | done | fail) | (simp [*]; first | done | fail)) (by rfl) ?_); (first | (first | refine r_slen (by rfl) Tryd.underlying9 (by rfl) ?_ | refine r_sne (by rfl) (by rfl) (by rfl) ?_) | ((first | (refine z_op (by rfl) ?_; first | refine z_ok ?_ ?_ | refine z_ex ?_ (by first | exact ft_raw rfl rfl | ((first | refine ft_rp rfl rfl rfl ?_ | refine ft_row rfl rfl rfl ?_ | refine ft_rpF rfl rfl rfl ?_ | refine ft_rowF rfl rfl rfl ?_ | refine up_row rfl rfl ?_ | refine up_rowF rfl rfl rfl ?_ | refine ct_0 rfl ?_ | refine ct_r rfl rfl ?_ | refine ct_c rfl rfl rfl ?_ | refine cu_all rfl ?_ | refine cu_to rfl ?_ | refine cu_from rfl ?_ | refine cu_p rfl ?_ | fail); (first | omega | (simp only [List.length_append, List.length_replicate, List.length_cons, List.length_nil, List.length_set, List.length_take, List.length_drop, true_and]; omega))) | exact up_raw rfl | exact pk_t (by first | rfl | assumption | omega | (simp only [*, Bool.not_false, Bool.not_true]; first | done | fail) | (simp [*]; first | done | fail)) rfl | exact pk_f (by first | rfl | assumption | omega | (simp only [*, Bool.not_false, Bool.not_true]; first | done | fail) | (simp [*]; first | done | fail)) rfl | fail | exact rw_raw | exact pu_cv (fun w => rfl) (by omega) | exact pu_of (fun w => rfl) rfl | exact be_of (fun w => rfl) | exact nc_of (fun _ _ _ _ => rfl) rfl | exact bu_of (fun w => rfl) rfl | fail) ?_) | ((first | refine q_callE wsTJ wsZ (by rfl) ?_ | refine q_callVE wsTJ (by rfl) (by rfl) ?_); refine ⟨_, _, _, (by first | assumption | exact k_eqDs _ (by omega)), _, by rfl, ?_, ?_⟩)); focus (first | exact trivial | fail | exact rfl | (first | omega | (simp only [List.length_append, List.length_replicate, List.length_cons, List.length_nil, List.length_set, List.length_take, List.length_drop, true_and]; omega)) | exact cvB (fun w => rfl) | ((repeat' (first | exact rfl | exact cV_len _ | exact cV_ln rfl (by omega) | exact Cel.pos | omega | exact trivial | refine And.intro ?_ ?_)); done) | (simp [*]; done) | (simp; omega))) | fail)) | refine r_nt (by rfl) (by rfl) (by first | rfl | assumption | omega | (simp only [*, Bool.not_false, Bool.not_true]; first | done | fail) | (simp [*]; first | done | fail)) (by rfl) ?_ | refine r_nf (by rfl) (by rfl) (by first | rfl | assumption | omega | (simp only [*, Bool.not_false, Bool.not_true]; first | done | fail) | (simp [*]; first | done | fail)) (by rfl) ?_ | refine r_gu (by rfl) (by rfl) (by rfl) ?_ | refine r_nil ?_) | (first | refine aw_seq ?_ | refine aw_ct (by rfl) (by first | rfl | assumption | omega | (simp only [*, Bool.not_false, Bool.not_true]; first | done | fail) | (simp [*]; first | done | fail)) ?_ | refine aw_cf (by rfl) (by first | rfl | assumption | omega | (simp only [*, Bool.not_false, Bool.not_true]; first | done | fail) | (simp [*]; first | done | fail)) ?_ | refine aw_block ?_ | refine aw_region T0ok cfU_ok (by rfl) ?_ | refine aw_skip ?_ | refine aw_exit ?_ | refine ra_step ?_)); (repeat (first | (first | ((first | refine r_none ?_ | refine r_gt (by rfl) (by rfl) (by first | rfl | assumption | omega | (simp only [*, Bool.not_false, Bool.not_true]; first | done | fail) | (simp [*]; first | done | fail)) (by rfl) ?_ | refine r_gf (by rfl) (by rfl) (by first | rfl | assumption | omega | (simp only [*, Bool.not_false, Bool.not_true]; first | done | fail) | (simp [*]; first | done | fail)) (by rfl) ?_); (first | (first | refine r_slen (by rfl) Tryd.underlying9 (by rfl) ?_ | refine r_sne (by rfl) (by rfl) (by rfl) ?_) | ((first | (refine z_op (by rfl) ?_; first | refine z_ok ?_ ?_ | refine z_ex ?_ (by first | exact ft_raw rfl rfl | ((first | refine ft_rp rfl rfl rfl ?_ | refine ft_row rfl rfl rfl ?_ | refine ft_rpF rfl rfl rfl ?_ | refine ft_rowF rfl rfl rfl ?_ | refine up_row rfl rfl ?_ | refine up_rowF rfl rfl rfl ?_ | refine ct_0 rfl ?_ | refine ct_r rfl rfl ?_ | refine ct_c rfl rfl rfl ?_ | refine cu_all rfl ?_ | refine cu_to rfl ?_ | refine cu_from rfl ?_ | refine cu_p rfl ?_ | fail); (first | omega | (simp only [List.length_append, List.length_replicate, List.length_cons, List.length_nil, List.length_set, List.length_take, List.length_drop, true_and]; omega))) | exact up_raw rfl | exact pk_t (by first | rfl | assumption | omega | (simp only [*, Bool.not_false, Bool.not_true]; first | done | fail) | (simp [*]; first | done | fail)) rfl | exact pk_f (by first | rfl | assumption | omega | (simp only [*, Bool.not_false, Bool.not_true]; first | done | fail) | (simp [*]; first | done | fail)) rfl | fail | exact rw_raw | exact pu_cv (fun w => rfl) (by omega) | exact pu_of (fun w => rfl) rfl | exact be_of (fun w => rfl) | exact nc_of (fun _ _ _ _ => rfl) rfl | exact bu_of (fun w => rfl) rfl | fail) ?_) | ((first | refine q_callE wsTJ wsZ (by rfl) ?_ | refine q_callVE wsTJ (by rfl) (by rfl) ?_); refine ⟨_, _, _, (by first | assumption | exact k_eqDs _ (by omega)), _, by rfl, ?_, ?_⟩)); focus (first | exact trivial | fail | exact rfl | (first | omega | (simp only [List.length_append, List.length_replicate, List.length_cons, List.length_nil, List.length_set, List.length_take, List.length_drop, true_and]; omega)) | exact cvB (fun w => rfl) | ((repeat' (first | exact rfl | exact cV_len _ | exact cV_ln rfl (by omega) | exact Cel.pos | omega | exact trivial | refine And.intro ?_ ?_)); done) | (simp [*]; done) | (simp; omega))) | fail)) | refine r_nt (by rfl) (by rfl) (by first | rfl | assumption | omega | (simp only [*, Bool.not_false, Bool.not_true]; first | done | fail) | (simp [*]; first | done | fail)) (by rfl) ?_ | refine r_nf (by rfl) (by rfl) (by first | rfl | assumption | omega | (simp only [*, Bool.not_false, Bool.not_true]; first | done | fail) | (simp [*]; first | done | fail)) (by rfl) ?_ | refine r_gu (by rfl) (by rfl) (by rfl) ?_ | refine r_nil ?_) | (first | refine aw_seq ?_ | refine aw_ct (by rfl) (by first | rfl | assumption | omega | (simp only [*, Bool.not_false, Bool.not_true]; first | done | fail) | (simp [*]; first | done | fail)) ?_ | refine aw_cf (by rfl) (by first | rfl | assumption | omega | (simp only [*, Bool.not_false, Bool.not_true]; first | done | fail) | (simp [*]; first | done | fail)) ?_ | refine aw_block ?_ | refine aw_region T0ok cfU_ok (by rfl) ?_ | refine aw_skip ?_ | refine aw_exit ?_ | refine ra_step ?_))); exact hh.out)) : G := h ⟨k⟩
theorem ga_DK {H G : Prop} (k : H) (h : Hid H → G := by (intro hh; (first | refine r_none ?_ | refine r_gt (by rfl) (by rfl) (by first | rfl | assumption | omega | (simp only [*, Bool.not_false, Bool.not_true]; first | done | fail) | (simp [*]; first | done | fail)) (by rfl) ?_ | refine r_gf (by rfl) (by rfl) (by first | rfl | assumption | omega | (simp only [*, Bool.not_false, Bool.not_true]; first | done | fail) | (simp [*]; first | done | fail)) (by rfl) ?_); refine z_op (by rfl) ?_; refine z_alV ?_ hh.out; focus (first | exact trivial | fail | exact rfl | (first | omega | (simp only [List.length_append, List.length_replicate, List.length_cons, List.length_nil, List.length_set, List.length_take, List.length_drop, true_and]; omega)) | exact cvB (fun w => rfl) | ((repeat' (first | exact rfl | exact cV_len _ | exact cV_ln rfl (by omega) | exact Cel.pos | omega | exact trivial | refine And.intro ?_ ?_)); done) | (simp [*]; done) | (simp; omega)))) : G := h ⟨k⟩
set_option maxHeartbeats 2000000 in
theorem k_lawXRJ (s : List UInt8) : Kon Tryd.prog 6 [vS s] [] (vB true) [] [] := by
  rcases Nat.lt_or_ge 1048576 s.length with h0 | h0
  · have hd : decide ((s.length : Int) > 1048576) = true := decide_eq_true (by omega)
    (refine kon_mk T0ok (fn := Tryd.f6) (c := Tryd.f6.body.get rfl) Tryd.func6 rfl (by rfl) (by rfl) (by rfl) ?_; intro hfit hfe)
    (repeat (first | refine gq_DK ?_ | (refine ga_DK ?_; intro _hq)))
    ((try refine aw_ret ?_); refine ret_auto2 (by rfl) (by rfl) (by rfl) (by repeat (first | exact trivial | refine ⟨by first | rfl | omega, ?_⟩)) ?_ (by repeat (first | exact trivial | refine ⟨by rfl, by rfl, ?_⟩)) (by repeat (first | exact trivial | refine ⟨by rfl, by rfl, ?_⟩)); try rfl)
  have hd : decide ((s.length : Int) > 1048576) = false := decide_eq_false (by omega)
  obtain ⟨l, n, hR⟩ := jr_ex s.length s (Nat.le_refl _)
  have hS := k_rjS s (by omega) l n hR
  have hI := k_rjI s (by omega) l n hR
  have hl := jr_len hR
  clear hR
  have hE := k_eqDs l (by omega)
  have hM := k_markDs l l.length 1 ⟨rfl, by omega, by omega, by omega⟩
  have hml := mkD_len 1 l l.length
  have hH := k_heldDs (mkD 1 l l.length) 1 ⟨by omega, by omega, by omega⟩ (fun j hj => mkD_at 1 l l.length j (by omega) (Nat.le_refl _))
  generalize mkD 1 l l.length = M at *
  have hH2 : Kon Tryd.prog 21 [.g (.one (.ro 6 l.length (cV M))), vI 1] [] (vI (1 + 6 * (l.length : Int))) [] [] := by
    rw [← hml]; exact hH
  clear hH
  have h2 : ((n : Int) != (n : Int)) = false := by simp
  have h3 : decide (1 + 6 * (l.length : Int) < 0) = false := decide_eq_false (by omega)
  have h4 : ((1 + 6 * (l.length : Int)) != (1 + 6 * (l.length : Int))) = false := by simp
  (refine kon_mk T0ok (fn := Tryd.f6) (c := Tryd.f6.body.get rfl) Tryd.func6 rfl (by rfl) (by rfl) (by rfl) ?_; intro hfit hfe)
  (repeat (first | refine gq_DK ?_ | (refine ga_DK ?_; intro _hq)))
  ((try refine aw_ret ?_); refine ret_auto2 (by rfl) (by rfl) (by rfl) (by repeat (first | exact trivial | refine ⟨by first | rfl | omega, ?_⟩)) ?_ (by repeat (first | exact trivial | refine ⟨by rfl, by rfl, ?_⟩)) (by repeat (first | exact trivial | refine ⟨by rfl, by rfl, ?_⟩)); try rfl)
end Go.Proofs.YtgphlcdinejmdaaDoor

/- The law FnExactReadDeed. -/
namespace Go.Proofs.YtgphlcdinejmdaaDoor
set_option linter.unusedVariables false
set_option linter.unusedSimpArgs false
set_option maxRecDepth 20000
open Go.RowKit
attribute [local irreducible] runA runX AW
theorem gq_DL {H G : Prop} (k : H) (h : Hid H → G := by (intro hh; (first | (first | ((first | refine r_none ?_ | refine r_gt (by rfl) (by rfl) (by first | rfl | assumption | omega | (simp only [*, Bool.not_false, Bool.not_true]; first | done | fail) | (simp [*]; first | done | fail)) (by rfl) ?_ | refine r_gf (by rfl) (by rfl) (by first | rfl | assumption | omega | (simp only [*, Bool.not_false, Bool.not_true]; first | done | fail) | (simp [*]; first | done | fail)) (by rfl) ?_); (first | (first | refine r_slen (by rfl) Tryd.underlying9 (by rfl) ?_ | refine r_sne (by rfl) (by rfl) (by rfl) ?_) | ((first | (refine z_op (by rfl) ?_; first | refine z_ok ?_ ?_ | refine z_ex ?_ (by first | exact ft_raw rfl rfl | ((first | refine ft_rp rfl rfl rfl ?_ | refine ft_row rfl rfl rfl ?_ | refine ft_rpF rfl rfl rfl ?_ | refine ft_rowF rfl rfl rfl ?_ | refine up_row rfl rfl ?_ | refine up_rowF rfl rfl rfl ?_ | refine ct_0 rfl ?_ | refine ct_r rfl rfl ?_ | refine ct_c rfl rfl rfl ?_ | refine cu_all rfl ?_ | refine cu_to rfl ?_ | refine cu_from rfl ?_ | refine cu_p rfl ?_ | fail); (first | omega | (simp only [List.length_append, List.length_replicate, List.length_cons, List.length_nil, List.length_set, List.length_take, List.length_drop, true_and]; omega))) | exact up_raw rfl | exact pk_t (by first | rfl | assumption | omega | (simp only [*, Bool.not_false, Bool.not_true]; first | done | fail) | (simp [*]; first | done | fail)) rfl | exact pk_f (by first | rfl | assumption | omega | (simp only [*, Bool.not_false, Bool.not_true]; first | done | fail) | (simp [*]; first | done | fail)) rfl | fail | exact rw_raw | exact pu_cv (fun w => rfl) (by omega) | exact pu_of (fun w => rfl) rfl | exact be_of (fun w => rfl) | exact nc_of (fun _ _ _ _ => rfl) rfl | exact bu_of (fun w => rfl) rfl | fail) ?_) | ((first | refine q_callE wsT wsZ (by rfl) ?_ | refine q_callVE wsT (by rfl) (by rfl) ?_); refine ⟨_, _, _, (by first | assumption | exact k_eqGate _), _, by rfl, ?_, ?_⟩)); focus (first | exact trivial | fail | exact rfl | (first | omega | (simp only [List.length_append, List.length_replicate, List.length_cons, List.length_nil, List.length_set, List.length_take, List.length_drop, true_and]; omega)) | exact cvB (fun w => rfl) | ((repeat' (first | exact rfl | exact cV_len _ | exact cV_ln rfl (by omega) | exact Cel.pos | omega | exact trivial | refine And.intro ?_ ?_)); done) | (simp [*]; done) | (simp; omega))) | fail)) | refine r_nt (by rfl) (by rfl) (by first | rfl | assumption | omega | (simp only [*, Bool.not_false, Bool.not_true]; first | done | fail) | (simp [*]; first | done | fail)) (by rfl) ?_ | refine r_nf (by rfl) (by rfl) (by first | rfl | assumption | omega | (simp only [*, Bool.not_false, Bool.not_true]; first | done | fail) | (simp [*]; first | done | fail)) (by rfl) ?_ | refine r_gu (by rfl) (by rfl) (by rfl) ?_ | refine r_nil ?_) | (first | refine aw_seq ?_ | refine aw_ct (by rfl) (by first | rfl | assumption | omega | (simp only [*, Bool.not_false, Bool.not_true]; first | done | fail) | (simp [*]; first | done | fail)) ?_ | refine aw_cf (by rfl) (by first | rfl | assumption | omega | (simp only [*, Bool.not_false, Bool.not_true]; first | done | fail) | (simp [*]; first | done | fail)) ?_ | refine aw_block ?_ | refine aw_region T0ok cfU_ok (by rfl) ?_ | refine aw_skip ?_ | refine aw_exit ?_ | refine ra_step ?_)); (repeat (first | (first | ((first | refine r_none ?_ | refine r_gt (by rfl) (by rfl) (by first | rfl | assumption | omega | (simp only [*, Bool.not_false, Bool.not_true]; first | done | fail) | (simp [*]; first | done | fail)) (by rfl) ?_ | refine r_gf (by rfl) (by rfl) (by first | rfl | assumption | omega | (simp only [*, Bool.not_false, Bool.not_true]; first | done | fail) | (simp [*]; first | done | fail)) (by rfl) ?_); (first | (first | refine r_slen (by rfl) Tryd.underlying9 (by rfl) ?_ | refine r_sne (by rfl) (by rfl) (by rfl) ?_) | ((first | (refine z_op (by rfl) ?_; first | refine z_ok ?_ ?_ | refine z_ex ?_ (by first | exact ft_raw rfl rfl | ((first | refine ft_rp rfl rfl rfl ?_ | refine ft_row rfl rfl rfl ?_ | refine ft_rpF rfl rfl rfl ?_ | refine ft_rowF rfl rfl rfl ?_ | refine up_row rfl rfl ?_ | refine up_rowF rfl rfl rfl ?_ | refine ct_0 rfl ?_ | refine ct_r rfl rfl ?_ | refine ct_c rfl rfl rfl ?_ | refine cu_all rfl ?_ | refine cu_to rfl ?_ | refine cu_from rfl ?_ | refine cu_p rfl ?_ | fail); (first | omega | (simp only [List.length_append, List.length_replicate, List.length_cons, List.length_nil, List.length_set, List.length_take, List.length_drop, true_and]; omega))) | exact up_raw rfl | exact pk_t (by first | rfl | assumption | omega | (simp only [*, Bool.not_false, Bool.not_true]; first | done | fail) | (simp [*]; first | done | fail)) rfl | exact pk_f (by first | rfl | assumption | omega | (simp only [*, Bool.not_false, Bool.not_true]; first | done | fail) | (simp [*]; first | done | fail)) rfl | fail | exact rw_raw | exact pu_cv (fun w => rfl) (by omega) | exact pu_of (fun w => rfl) rfl | exact be_of (fun w => rfl) | exact nc_of (fun _ _ _ _ => rfl) rfl | exact bu_of (fun w => rfl) rfl | fail) ?_) | ((first | refine q_callE wsT wsZ (by rfl) ?_ | refine q_callVE wsT (by rfl) (by rfl) ?_); refine ⟨_, _, _, (by first | assumption | exact k_eqGate _), _, by rfl, ?_, ?_⟩)); focus (first | exact trivial | fail | exact rfl | (first | omega | (simp only [List.length_append, List.length_replicate, List.length_cons, List.length_nil, List.length_set, List.length_take, List.length_drop, true_and]; omega)) | exact cvB (fun w => rfl) | ((repeat' (first | exact rfl | exact cV_len _ | exact cV_ln rfl (by omega) | exact Cel.pos | omega | exact trivial | refine And.intro ?_ ?_)); done) | (simp [*]; done) | (simp; omega))) | fail)) | refine r_nt (by rfl) (by rfl) (by first | rfl | assumption | omega | (simp only [*, Bool.not_false, Bool.not_true]; first | done | fail) | (simp [*]; first | done | fail)) (by rfl) ?_ | refine r_nf (by rfl) (by rfl) (by first | rfl | assumption | omega | (simp only [*, Bool.not_false, Bool.not_true]; first | done | fail) | (simp [*]; first | done | fail)) (by rfl) ?_ | refine r_gu (by rfl) (by rfl) (by rfl) ?_ | refine r_nil ?_) | (first | refine aw_seq ?_ | refine aw_ct (by rfl) (by first | rfl | assumption | omega | (simp only [*, Bool.not_false, Bool.not_true]; first | done | fail) | (simp [*]; first | done | fail)) ?_ | refine aw_cf (by rfl) (by first | rfl | assumption | omega | (simp only [*, Bool.not_false, Bool.not_true]; first | done | fail) | (simp [*]; first | done | fail)) ?_ | refine aw_block ?_ | refine aw_region T0ok cfU_ok (by rfl) ?_ | refine aw_skip ?_ | refine aw_exit ?_ | refine ra_step ?_))); exact hh.out)) : G := h ⟨k⟩
theorem ga_DL {H G : Prop} (k : H) (h : Hid H → G := by (intro hh; (first | refine r_none ?_ | refine r_gt (by rfl) (by rfl) (by first | rfl | assumption | omega | (simp only [*, Bool.not_false, Bool.not_true]; first | done | fail) | (simp [*]; first | done | fail)) (by rfl) ?_ | refine r_gf (by rfl) (by rfl) (by first | rfl | assumption | omega | (simp only [*, Bool.not_false, Bool.not_true]; first | done | fail) | (simp [*]; first | done | fail)) (by rfl) ?_); refine z_op (by rfl) ?_; refine z_alV ?_ hh.out; focus (first | exact trivial | fail | exact rfl | (first | omega | (simp only [List.length_append, List.length_replicate, List.length_cons, List.length_nil, List.length_set, List.length_take, List.length_drop, true_and]; omega)) | exact cvB (fun w => rfl) | ((repeat' (first | exact rfl | exact cV_len _ | exact cV_ln rfl (by omega) | exact Cel.pos | omega | exact trivial | refine And.intro ?_ ?_)); done) | (simp [*]; done) | (simp; omega)))) : G := h ⟨k⟩
theorem k_lawXRD (s : List UInt8) : Kon Tryd.prog 4 [vS s] [] (vB true) [] [] := by
  rcases Nat.lt_or_ge 1048576 s.length with h0 | h0
  · have hd : decide ((s.length : Int) > 1048576) = true := decide_eq_true (by omega)
    (refine kon_mk T0ok (fn := Tryd.f4) (c := Tryd.f4.body.get rfl) Tryd.func4 rfl (by rfl) (by rfl) (by rfl) ?_; intro hfit hfe)
    (repeat (first | refine gq_DL ?_ | (refine ga_DL ?_; intro _hq)))
    ((try refine aw_ret ?_); refine ret_auto2 (by rfl) (by rfl) (by rfl) (by repeat (first | exact trivial | refine ⟨by first | rfl | omega, ?_⟩)) ?_ (by repeat (first | exact trivial | refine ⟨by rfl, by rfl, ?_⟩)) (by repeat (first | exact trivial | refine ⟨by rfl, by rfl, ?_⟩)); try rfl)
  have hd : decide ((s.length : Int) > 1048576) = false := decide_eq_false (by omega)
  obtain ⟨d, b, _, hS, hI⟩ := rd_ex s (by omega)
  have hE := k_eqDeed d
  have hb : (b != b) = false := by simp
  (refine kon_mk T0ok (fn := Tryd.f4) (c := Tryd.f4.body.get rfl) Tryd.func4 rfl (by rfl) (by rfl) (by rfl) ?_; intro hfit hfe)
  (repeat (first | refine gq_DL ?_ | (refine ga_DL ?_; intro _hq)))
  ((try refine aw_ret ?_); refine ret_auto2 (by rfl) (by rfl) (by rfl) (by repeat (first | exact trivial | refine ⟨by first | rfl | omega, ?_⟩)) ?_ (by repeat (first | exact trivial | refine ⟨by rfl, by rfl, ?_⟩)) (by repeat (first | exact trivial | refine ⟨by rfl, by rfl, ?_⟩)); try rfl)
end Go.Proofs.YtgphlcdinejmdaaDoor

/- How arguments that came in read: slices of whatever elements. -/
namespace Go.Proofs.YtgphlcdinejmdaaDoor
set_option linter.unusedVariables false
set_option linter.unusedSimpArgs false
open Go.ChangeShapes Go.WideShapes Go.ChangeAt Go.RowKit Go.Joins Go.Deep

theorem own : ownKnob Tryd.prog.godebug = none := by kernel_rfl
theorem laidOut : laidOutB Tryd.prog = true := by kernel_rfl
/-- The frame of a row's proof, from its walk: the arguments opened by the caller. -/
theorem row_end {H : Type} {enc : TypeId × Value → H} {W : World} {t : TypeId} {v : Value} {d : DataW H} {p : List MemPlace} (h : DataW.Trod enc Tryd.prog W 0 (fun _ => true) true t v d p) : ∀ x ∈ p, x.block < W.heap.size := by
  obtain ⟨m, hm⟩ := h; exact DataW.trod_lt m _ _ _ hm
section
variable {H : Type} {enc : TypeId × Value → H} {P : Program} {w : World} {α : Type} [Cel α]
end
section
variable {H : Type} {enc : TypeId × Value → H} {P : Program} {w : World}
end
section
variable {H : Type} {enc : TypeId × Value → H} {P : Program} {w : World}
end
/-- A law answers true and leaves what was there, by its contract. -/
theorem law_of_kon {P : Program} {f : FuncId} {aa : List AV} (h : Kon P f aa [] (vB true) [] []) {vs : Array Value} {w : World} (hs : vs.size = aa.length) (hr : ∀ (j : Nat) (a : AV), aa[j]? = some a → ∃ z, vs[j]? = some z ∧ Rep0 w a z) (hgl : Glo w := by exact trivial) (hgz : gsz ≤ w.heap.size := by exact Nat.zero_le _) :
    Calls P f vs w fun e w' => e = .returned (.bool true) ∧ Below w.heap.size w w' := by
  obtain ⟨C, hC, hCe⟩ := h
  exact law_run hC hCe hs hr hgl hgz
end Go.Proofs.YtgphlcdinejmdaaDoor

/- How benches that came in read. -/
namespace Go.Proofs.YtgphlcdinejmdaaDoor
set_option linter.unusedVariables false
set_option linter.unusedSimpArgs false
open Go.ChangeShapes Go.WideShapes Go.ChangeAt Go.RowKit Go.Joins Go.Deep
section
variable {H : Type} {enc : TypeId × Value → H} {P : Program} {w : World}
end
end Go.Proofs.YtgphlcdinejmdaaDoor

/- How statements and texts that came in read. -/
namespace Go.Proofs.YtgphlcdinejmdaaDoor
set_option linter.unusedVariables false
set_option linter.unusedSimpArgs false
open Go.ChangeShapes Go.WideShapes Go.ChangeAt Go.RowKit Go.Joins Go.Deep Go.ChangeMaps
section
variable {H : Type} {enc : TypeId × Value → H} {P : Program} {w : World}
theorem string_of_trod {t : TypeId} {v : Value} {d : DataW H} {ps : List MemPlace} {r : Reach} {b0 : Nat} (ht : P.underlying t = some .string) (hval : Value.okWide P w r b0 t v) (h : DataW.Trod enc P w 0 (fun _ => true) true t v d ps) :
    ∃ s : List UInt8, Rep0 w (vS s) v := by
  obtain ⟨s, rfl, _, _, _⟩ := open_string ht hval h
  refine ⟨s.data.toList, ?_⟩
  have e : str s.data.toList = s := by
    obtain ⟨⟨l⟩⟩ := s
    rfl
  exact ⟨by rw [e], rfl⟩
end
section
variable {H : Type} {enc : TypeId × Value → H}
/-- A row whose listed variables read as told, over worlds of the program's shape. -/
theorem handed_laid_shaped {a : Assume} {C : Checked} {os : Os} {f : FuncId} {fn : Func} {s : ChangeSpec} {conds : List PathCond} {apart fresh handsOn again : Bool} {X : World → Array Value → Prop}
    (hX : ∀ (w w' : World) (args : Array Value), w.heap = w'.heap → X w args → X w' args)
    (own : ownKnob C.prog.godebug = none) (started : os.Started) (noInit : C.prog.inits.idxOf? f = none) (hfn : C.prog.funcs[f]? = some fn)
    (witness : ∃ (w : World) (tape : Tape) (i : Input), w.os = os ∧ (w.forCall tape i).Shaped C.prog ∧ i.vars = [] ∧ Input.okWide C.prog (w.forCall tape i) .any w.heap.size f i ∧
      ((s.pre enc C.prog fn conds apart (w.forCall tape i).memory i.args ∧ X (w.forCall tape i).memory i.args) ∧ sizedMet enc C.prog fn (OpenSpec.ofChange s) apart (w.forCall tape i).memory i.args) ∧ a.holds C.prog (lone (Frame.enter C.prog f i.args .normal) [] (w.forCall tape i)))
    (contract : ∀ (W : World) (base : Nat) (args : Array Value) (ds gs : List (DataW H)) (before : List MemPlace),
      (∀ (j : Nat) t v, fn.params[j]? = some t → args[j]? = some v → Value.okWide C.prog W .any base t v) →
      DataW.Whole enc C.prog fn.params.toList s.vars apart W args.toList ds gs before →
      conds.all (PathCond.test C.prog ⟨fn.params.toList, ds, s.plain.varTypes C.prog, gs⟩) = true →
      W.ShapedOpen C.prog → X W args →
      Calls C.prog f args W fun e W' => ∃ v, e = .returned v ∧ s.post enc C.prog fn apart fresh handsOn again W args v W') :
    ReturnsInHanded a C os f .any (fun w args => (s.pre enc C.prog fn conds apart w args ∧ X w args) ∧ sizedMet enc C.prog fn (OpenSpec.ofChange s) apart w args) (s.post enc C.prog fn apart fresh handsOn again) := by
  refine returnsInHanded_of_calls own started noInit witness ?_
  intro w tape i _ hsh _ hok hpre hholds
  obtain ⟨_, _, _, fn', hfn', _, _, _, _, hval⟩ := hok
  have e : fn' = fn := Option.some.inj (hfn'.symm.trans hfn)
  subst e
  obtain ⟨⟨⟨ds, gs, before, hw, hc⟩, hx⟩, hz⟩ := hpre
  have hw' := DataW.Whole.of_heap (w' := w.forCall tape i) (by rfl) hw
  refine (contract (w.forCall tape i) w.heap.size i.args ds gs before hval hw' hc hsh (hX _ _ _ (by rfl) hx)).mono fun e W' ⟨v, he, hp⟩ => ?_
  subst he
  exact ChangeSpec.post_blind hp
end
end Go.Proofs.YtgphlcdinejmdaaDoor

/- The listed variables as the contracts of the library ask for them. -/
namespace Go.Proofs.YtgphlcdinejmdaaDoor
set_option linter.unusedVariables false
set_option linter.unusedSimpArgs false
open Go.ChangeShapes Go.WideShapes Go.ChangeAt Go.RowKit Go.Joins Go.Deep
theorem cell_lt {W : World} {g : Nat} {x : Value} (h : W.cell? ⟨g, 0, none⟩ = some x) : g < W.heap.size := by
  rcases Nat.lt_or_ge g W.heap.size with h1 | h1
  · exact h1
  · unfold World.cell? at h
    simp [Array.getElem?_eq_none h1] at h
theorem laid_iface {P : Program} {W : World} {n nm : String} {d : DataW Unit} {r : List (String × DataW Unit)} {g : Nat} {ti : TypeId} {ms : Array (String × TypeId)} (h : laidMet P ((n, .iface nm d) :: r) W)
    (hg : P.globalNamed n = some g) (ht : (P.globals[g]?).map (·.type) = some ti) (hi : P.underlying ti = some (.interface ms)) : ∃ u v, W.cell? ⟨g, 0, none⟩ = some (.iface u v) := by
  obtain ⟨ps, ⟨g0, t0, cs0, f0, p0, q0, hg0, ht0, hv0, hd0, _, _⟩, _, _⟩ := h
  obtain rfl := Option.some.inj (hg.symm.trans hg0)
  obtain rfl := Option.some.inj (ht.symm.trans ht0)
  obtain ⟨f1, u, v, hcs, _, _⟩ := iface_of_trod hi hd0
  have h0 := World.var?_cell hg0 hv0 0
  obtain ⟨l0⟩ := cs0
  have hl : l0 = [.iface u v] := by simpa using hcs
  subst hl
  exact ⟨u, v, by simpa using h0⟩





































theorem glo_ExactReadDeed {W : World} (hsh : W.ShapedOpen Tryd.prog) (hL : laidMetH Tryd.prog Rows.fnExactReadDeedRow.laid W) : Glo W ∧ gsz ≤ W.heap.size := by
  rw [MakeChecks.laidMetH_plain _ _ _ (by kernel_rfl)] at hL
  have h4 := hL.tail.tail.tail.tail
  have h5 := h4.tail
  have hi : Tryd.prog.underlying 59 = some (.interface _) := Tryd.underlying59
  obtain ⟨u, v, hr⟩ := laid_iface h4 (show Tryd.prog.globalNamed "strconv.ErrRange" = some 2 by kernel_rfl) (show (Tryd.prog.globals[2]?).map (·.type) = some 59 by kernel_rfl) hi
  obtain ⟨u', v', hs⟩ := laid_iface h5 (show Tryd.prog.globalNamed "strconv.ErrSyntax" = some 1 by kernel_rfl) (show (Tryd.prog.globals[1]?).map (·.type) = some 59 by kernel_rfl) hi
  obtain ⟨m, hm⟩ : ∃ m, W.cell? ⟨0, 0, none⟩ = some (.int .i64 m) :=
    cell_of_shapedOpen_int (zero := #[.int .i64 0]) (t := 3) hsh (of_decide_eq_true (by kernel_rfl)) (by kernel_rfl) rfl (by kernel_rfl) (by kernel_rfl) Tryd.underlying3
  exact ⟨⟨⟨m, hm⟩, ⟨u', v', hs⟩, ⟨u, v, hr⟩⟩, Nat.succ_le_of_lt (Nat.max_lt.2 ⟨Nat.max_lt.2 ⟨cell_lt hs, cell_lt hr⟩, cell_lt hm⟩)⟩


theorem glo_ExactReadJournal {W : World} (hsh : W.ShapedOpen Tryd.prog) (hL : laidMetH Tryd.prog Rows.fnExactReadJournalRow.laid W) : Glo W ∧ gsz ≤ W.heap.size := by
  rw [MakeChecks.laidMetH_plain _ _ _ (by kernel_rfl)] at hL
  have h4 := hL.tail.tail.tail.tail
  have h5 := h4.tail
  have hi : Tryd.prog.underlying 59 = some (.interface _) := Tryd.underlying59
  obtain ⟨u, v, hr⟩ := laid_iface h4 (show Tryd.prog.globalNamed "strconv.ErrRange" = some 2 by kernel_rfl) (show (Tryd.prog.globals[2]?).map (·.type) = some 59 by kernel_rfl) hi
  obtain ⟨u', v', hs⟩ := laid_iface h5 (show Tryd.prog.globalNamed "strconv.ErrSyntax" = some 1 by kernel_rfl) (show (Tryd.prog.globals[1]?).map (·.type) = some 59 by kernel_rfl) hi
  obtain ⟨m, hm⟩ : ∃ m, W.cell? ⟨0, 0, none⟩ = some (.int .i64 m) :=
    cell_of_shapedOpen_int (zero := #[.int .i64 0]) (t := 3) hsh (of_decide_eq_true (by kernel_rfl)) (by kernel_rfl) rfl (by kernel_rfl) (by kernel_rfl) Tryd.underlying3
  exact ⟨⟨⟨m, hm⟩, ⟨u', v', hs⟩, ⟨u, v, hr⟩⟩, Nat.succ_le_of_lt (Nat.max_lt.2 ⟨Nat.max_lt.2 ⟨cell_lt hs, cell_lt hr⟩, cell_lt hm⟩)⟩





































end Go.Proofs.YtgphlcdinejmdaaDoor

/- The laws and the listed variables, together. -/
namespace Go.Proofs.YtgphlcdinejmdaaDoor
end Go.Proofs.YtgphlcdinejmdaaDoor
