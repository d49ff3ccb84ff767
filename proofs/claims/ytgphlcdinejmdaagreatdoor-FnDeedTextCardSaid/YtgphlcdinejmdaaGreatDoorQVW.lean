/- DO, DJ, BW, ShlD, BJ, DW, RowD, RowE, RowG, GL, DWV: laid into one text. -/
import Derived.Test.YtgphlcdinejmdaaGreatDoorQVE
import Derived.Test.YtgphlcdinejmdaaGreatDoorQVF
import Derived.Test.YtgphlcdinejmdaaGreatDoorQVG
import Derived.Test.YtgphlcdinejmdaaGreatDoorQVS
import Derived.Test.YtgphlcdinejmdaaGreatDoorQVV
import Derived.Test.YtgphlcdinejmdaaGreatDoorProg
import Derived.Shelf.Strings.BuilderK
import Derived.Shelf.Lays
import Derived.BigCall
import Derived.ProofKit
import Derived.OpenShut
import Derived.ShutString
import Derived.ChangeOld
import Derived.Below
import Derived.Lib.SmallJoins
import Derived.Deep.Slices
import Derived.Deep.Strs
import Derived.ChangeMaps5
import Derived.HandedShaped
import Derived.Test.YtgphlcdinejmdaaGreatDoorRows
import Derived.Shelf.Vars
import Derived.Stop.LaidErr
import Derived.LaidMore

/- Both readers of deeds answer alike. -/
namespace Go.Proofs.YtgphlcdinejmdaaGreatDoor
set_option linter.unusedVariables false
set_option linter.unusedSimpArgs false
set_option maxRecDepth 20000
open Go.RowKit
open Go.Lib (decDigits)
/-- The deed that a reader returns, and whether there is one. -/
def RDd (s : List UInt8) (d : Dd) (b : Bool) : Prop := (b = true ∧ DOk s d.k d.n d.p) ∨ (b = false ∧ d = dZ ∧ ∀ k n p, ¬ DOk s k n p)
theorem Dd_ext {d e : Dd} (h1 : d.k = e.k) (h2 : d.n = e.n) (h3 : d.p = e.p) : d = e := by
  obtain ⟨a, b, c⟩ := d
  obtain ⟨a', b', c'⟩ := e
  dsimp only at h1 h2 h3
  rw [h1, h2, h3]
theorem no_dtx {s : List UInt8} (hs : s ≠ []) (h : ∀ k n p, ¬ DOk s k n p) (k n : Int) (p : Gt) : (dtx k n p == s) = false := by
  rw [Bool.eq_false_iff]
  intro e
  exact h _ _ _ ((dtx_eq hs).1 e)
theorem fnd_no {s : List UInt8} (hs : s ≠ []) (h : ∀ k n p, ¬ DOk s k n p) : ∀ L, fnd s L = (dZ, false)
  | [] => rfl
  | d :: L => by rw [fnd, no_dtx hs h, if_neg (by decide)]; exact fnd_no hs h L
theorem fnd_yes {s : List UInt8} (hs : s ≠ []) {d : Dd} (h : DOk s d.k d.n d.p) : ∀ L : List Dd, d ∈ L → fnd s L = (d, true)
  | e :: L, hm => by
    rw [fnd]
    by_cases h2 : (dtx e.k e.n e.p == s) = true
    · rw [if_pos h2]
      obtain ⟨a, b, c⟩ := d_uni ((dtx_eq hs).1 h2) h
      rw [Dd_ext a b c]
    · rw [if_neg h2]
      rcases List.mem_cons.1 hm with rfl | hm
      · exact absurd ((dtx_eq hs).2 h) h2
      · exact fnd_yes hs h L hm
/-- What stands behind the first space. -/
theorem cut_of {a b s : List UInt8} (ha : a.contains 32 = false) (e : s = a ++ 32 :: b) : Go.Lib.cut s [32] = (a, b, true) := by
  have hc : cutA 32 [] s = a :: cutA 32 [] b := by rw [e, cutA_app ha]; rfl
  have hb := (cutA_len 32 b []).1
  rcases ct_cases 32 s with ⟨_, h2⟩ | ⟨i, hi, h1, h2⟩
  · rw [hc] at h2
    have := congrArg List.length h2
    simp only [List.length_cons, List.length_nil] at this
    omega
  · rw [hc] at h2
    have h3 := (List.cons.inj h2).1
    have hl : a.length = i := by rw [h3, List.length_take]; omega
    rw [h1, ← h3]
    refine Prod.ext rfl (Prod.ext ?_ rfl)
    dsimp only
    rw [e, ← hl, show a.length + 1 = a.length + (32 :: ([] : List UInt8)).length from rfl, show a ++ 32 :: b = (a ++ [32]) ++ b by simp]
    rw [show a.length + (32 :: ([] : List UInt8)).length = (a ++ [32]).length by simp]
    exact List.drop_left
theorem cut_no {a : List UInt8} (ha : a.contains 32 = false) : Go.Lib.cut a [32] = (a, [], false) := by
  have hc : cutA 32 [] a = [a] := by rw [cutA_end ha]; rfl
  rcases ct_cases 32 a with ⟨h1, _⟩ | ⟨i, hi, h1, h2⟩
  · exact h1
  · rw [hc] at h2
    have := congrArg List.length h2
    have hb := (cutA_len 32 (a.drop (i + 1)) []).1
    simp only [List.length_cons, List.length_nil] at this
    omega
theorem bne_of (b : Bool) (h : b = false) : (!b) = true := by rw [h]; rfl
theorem bnt_of (b : Bool) (h : b = true) : (!b) = false := by rw [h]; rfl
theorem nm_ne {a : List UInt8} {k : Int} (h : ¬ a = dnm k) : (a == dnm k) = false := by rw [beq_eq_false_iff_ne]; exact h
/-- Whether a word names a kind. -/
theorem dnm_dec (a : List UInt8) : (∃ k : Int, (0 ≤ k ∧ k ≤ 4) ∧ a = dnm k) ∨ (¬ a = dnm 0 ∧ ¬ a = dnm 1 ∧ ¬ a = dnm 2 ∧ ¬ a = dnm 3 ∧ ¬ a = dnm 4) := by
  by_cases h0 : a = dnm 0
  · exact .inl ⟨0, by decide, h0⟩
  by_cases h1 : a = dnm 1
  · exact .inl ⟨1, by decide, h1⟩
  by_cases h2 : a = dnm 2
  · exact .inl ⟨2, by decide, h2⟩
  by_cases h3 : a = dnm 3
  · exact .inl ⟨3, by decide, h3⟩
  by_cases h4 : a = dnm 4
  · exact .inl ⟨4, by decide, h4⟩
  exact .inr ⟨h0, h1, h2, h3, h4⟩
/-- The program's reader, where no deed has the text. -/
theorem rdI_no (s : List UInt8) (hs : s.length ≤ 7000000) (h : ∀ k n p, ¬ DOk s k n p) : Kon Tryz.prog 10 [vS s] [] (tupD dZ false) [] [] := by
  by_cases hne : s = []
  · subst hne; exact k_rdI_nil
  have hne2 : (s == []) = false := by rw [beq_eq_false_iff_ne]; exact hne
  have hC := k_scut 32 s hs
  have hct := ct_cases 32 s
  rcases hx : Go.Lib.cut s [32] with ⟨a, b, f⟩
  rw [hx] at hC hct
  have hbl : b.length ≤ 7000000 := by
    rcases hct with ⟨h1, _⟩ | ⟨i, _, h1, _⟩
    · obtain ⟨rfl, h2⟩ := Prod.mk.inj h1
      rw [(Prod.mk.inj h2).1]; simp
    · rw [(Prod.mk.inj (Prod.mk.inj h1).2).1, List.length_drop]; omega
  have hn := fun k n p => bne_of _ (no_dtx hne h k n p)
  rcases dnm_dec a with ⟨k, hk, ha⟩ | ⟨h0, h1, h2, h3, h4⟩
  · have h' : k = 0 ∨ k = 1 ∨ k = 2 ∨ k = 3 ∨ k = 4 := by omega
    rcases h' with rfl | rfl | rfl | rfl | rfl
    · obtain ⟨n, e, he, _, hA⟩ := ex_atoi b hbl
      rcases he with rfl | rfl
      · exact k_rdI0Ntrue s a b f n hC ha hA hne2 (hn 0 n g0)
      · exact k_rdI0Etrue s a b f n hC ha hA hne2 (hn 0 n g0)
    · obtain ⟨n, e, he, _, hA⟩ := ex_atoi b hbl
      rcases he with rfl | rfl
      · exact k_rdI1Ntrue s a b f n hC ha hA hne2 (hn 1 n g0)
      · exact k_rdI1Etrue s a b f n hC ha hA hne2 (hn 1 n g0)
    · obtain ⟨p, q, _, _, hA⟩ := rg_ex b hbl
      exact k_rdI2true s a b f p q hC ha hA hne2 (hn 2 0 p)
    · exact k_rdI3true s a b f hC ha hne2 (hn 3 0 g0)
    · exact k_rdI4true s a b f hC ha hne2 (hn 4 0 g0)
  · exact k_rdIx s a b f hC (nm_ne (k := 0) h0) (nm_ne (k := 1) h1) (nm_ne (k := 2) h2) (nm_ne (k := 3) h3) (nm_ne (k := 4) h4) hne2
theorem dnm3 : (dnm 2).length = 3 := rfl
/-- Both readers, where a deed has the text. -/
theorem rd_yes (s : List UInt8) (hs : s.length ≤ 7000000) (d : Dd) (h : DOk s d.k d.n d.p) : Kon Tryz.prog 12 [vS s] [] (tupD d true) [] [] ∧ Kon Tryz.prog 10 [vS s] [] (tupD d true) [] [] := by
  have hne := h.2
  have hne2 : (s == []) = false := by rw [beq_eq_false_iff_ne]; exact hne
  have hC := k_scut 32 s hs
  have ht := bnt_of _ ((dtx_eq hne).2 h)
  have hG : ∃ p q, (4 < s.length → RG ((s.drop 4).take (s.length - 4)) p q ∧ Kon Tryz.prog 36 [vS ((s.drop 4).take (s.length - 4))] [] (tupG p q) [] []) := by
    obtain ⟨p, q, h1, h2, _⟩ := rg_ex ((s.drop 4).take (s.length - 4)) (by rw [List.length_take, List.length_drop]; omega)
    exact ⟨p, q, fun _ => ⟨h1, h2⟩⟩
  obtain ⟨p, q, hG⟩ := hG
  have hS := k_rdS s p q hs hne2 (fun hl => (hG hl).2)
  have fin : d ∈ lstD s p → Kon Tryz.prog 12 [vS s] [] (tupD d true) [] [] := fun hm => by
    rw [fnd_yes hne h _ hm] at hS
    exact hS
  clear hS
  obtain ⟨k, n, p'⟩ := d
  dsimp only at h ht
  rcases d_cases h with ⟨hk, rfl, hn, e, ec⟩ | ⟨rfl, rfl, hg, e, ec⟩ | ⟨hk, rfl, rfl, e, ec⟩
  · have hcut := cut_of (dnm_no k) e
    rw [hcut] at hC
    have hdx := dx_dg (x := n) (by omega)
    have hat : Go.Lib.atoiAll (dx n) = .ok n := by
      have := (dd2_of (n := n.toNat) (by omega)).2.1
      rw [this]; congr 1; omega
    have hdl : (dx n).length ≤ 7000000 := by
      have := (dd2_of (n := n.toNat) (by omega)).2.2.2.2
      show (decDigits n.toNat).length ≤ 7000000
      omega
    have hA := k_atoiOk (dx n) n hdl hat
    refine ⟨fin ?_, ?_⟩
    · unfold lstD
      rw [ec, if_pos (show [dnm k, dx n].length = 2 from rfl)]
      have e1 : dgs ([dnm k, dx n].getD 1 []) = n := hdx
      rw [e1]
      rcases hk with rfl | rfl <;> simp
    · rcases hk with rfl | rfl
      · exact k_rdI0Nfalse s _ _ _ n hC rfl hA hne2 ht
      · exact k_rdI1Nfalse s _ _ _ n hC rfl hA hne2 ht
  · have hcut := cut_of (dnm_no 2) e
    rw [hcut] at hC
    have hgl := gtT_len hg
    have hsl : 4 < s.length := by rw [e, List.length_append, dnm3, List.length_cons]; omega
    have hrest : (s.drop 4).take (s.length - 4) = gtT p' := by
      have h4 : s.drop 4 = gtT p' := by rw [e]; rfl
      rw [h4, List.take_of_length_le]
      rw [e, List.length_append, dnm3, List.length_cons]; omega
    obtain ⟨hRG, _⟩ := hG hsl
    rw [hrest] at hRG
    have hp : p = p' := by
      rcases hRG with ⟨_, h2⟩ | ⟨_, _, h2⟩
      · exact gk_uni h2 ⟨hg, rfl⟩
      · exact absurd ⟨hg, rfl⟩ (h2 p')
    subst hp
    obtain ⟨p2, q2, h2, _, hA⟩ := rg_ex (gtT p) (by omega)
    have hp2 : p2 = p := by
      rcases h2 with ⟨_, h2⟩ | ⟨_, _, h2⟩
      · exact gk_uni h2 ⟨hg, rfl⟩
      · exact absurd ⟨hg, rfl⟩ (h2 p)
    subst hp2
    refine ⟨fin ?_, k_rdI2false s _ _ _ p2 q2 hC rfl hA hne2 ht⟩
    unfold lstD
    rw [if_pos hsl]
    simp
  · have hcut := cut_no (dnm_no k)
    rw [← e] at hcut
    rw [hcut] at hC
    refine ⟨fin ?_, ?_⟩
    · unfold lstD
      rcases hk with rfl | rfl <;> simp
    · rcases hk with rfl | rfl
      · exact k_rdI3false s _ _ _ hC e hne2 ht
      · exact k_rdI4false s _ _ _ hC e hne2 ht
theorem rd_no (s : List UInt8) (hs : s.length ≤ 7000000) (h : ∀ k n p, ¬ DOk s k n p) : Kon Tryz.prog 12 [vS s] [] (tupD dZ false) [] [] := by
  by_cases hne : s = []
  · subst hne; exact k_rdS_nil
  have hne2 : (s == []) = false := by rw [beq_eq_false_iff_ne]; exact hne
  obtain ⟨p, q, _, h2, _⟩ := rg_ex ((s.drop 4).take (s.length - 4)) (by rw [List.length_take, List.length_drop]; omega)
  have hS := k_rdS s p q hs hne2 (fun _ => h2)
  rw [fnd_no hne h] at hS
  exact hS
theorem rd_all (s : List UInt8) : ∃ d b, RDd s d b := by
  by_cases h : ∃ d : Dd, DOk s d.k d.n d.p
  · obtain ⟨d, h⟩ := h; exact ⟨d, true, .inl ⟨rfl, h⟩⟩
  · exact ⟨dZ, false, .inr ⟨rfl, rfl, fun k n p hg => h ⟨⟨k, n, p⟩, hg⟩⟩⟩
theorem rd_ex (s : List UInt8) (hs : s.length ≤ 7000000) : ∃ d b, RDd s d b ∧ Kon Tryz.prog 12 [vS s] [] (tupD d b) [] [] ∧ Kon Tryz.prog 10 [vS s] [] (tupD d b) [] [] := by
  obtain ⟨d, b, h⟩ := rd_all s
  refine ⟨d, b, h, ?_⟩
  rcases h with ⟨rfl, h⟩ | ⟨rfl, rfl, h⟩
  · exact rd_yes s hs d h
  · exact ⟨rd_no s hs h, rdI_no s hs h⟩
end Go.Proofs.YtgphlcdinejmdaaGreatDoor

/- Journals: ReadJournal of both sides. -/
namespace Go.Proofs.YtgphlcdinejmdaaGreatDoor
set_option linter.unusedVariables false
set_option linter.unusedSimpArgs false
set_option maxRecDepth 20000
open Go.RowKit
open Go.Lib (decDigits)
attribute [local irreducible] runA runX AW
end Go.Proofs.YtgphlcdinejmdaaGreatDoor

/- strings.Builder: WriteByte and WriteString, at this program. -/
namespace Go.Proofs.YtgphlcdinejmdaaGreatDoor
set_option linter.unusedVariables false
set_option linter.unusedSimpArgs false
open Go.RowKit
end Go.Proofs.YtgphlcdinejmdaaGreatDoor

/- Contracts of Go's library at this program. -/
namespace Go.Proofs.YtgphlcdinejmdaaGreatDoor
set_option linter.unusedVariables false
open Go.Shelf Go.RowKit Go.Lib
end Go.Proofs.YtgphlcdinejmdaaGreatDoor

/- JournalText of the program: a walk over strings.Builder. -/
namespace Go.Proofs.YtgphlcdinejmdaaGreatDoor
set_option linter.unusedVariables false
set_option linter.unusedSimpArgs false
open Go.RowKit
end Go.Proofs.YtgphlcdinejmdaaGreatDoor

/- The laws FnDeedText, FnReadDeed, FnJournalText. -/
namespace Go.Proofs.YtgphlcdinejmdaaGreatDoor
set_option linter.unusedVariables false
set_option linter.unusedSimpArgs false
set_option maxRecDepth 20000
open Go.RowKit
attribute [local irreducible] runA runX AW
theorem gq_DW {H G : Prop} (k : H) (h : Hid H → G := by (intro hh; (first | (first | ((first | refine r_none ?_ | refine r_gt (by rfl) (by rfl) (by first | rfl | assumption | omega | (simp only [*, Bool.not_false, Bool.not_true]; first | done | fail) | (simp [*]; first | done | fail)) (by rfl) ?_ | refine r_gf (by rfl) (by rfl) (by first | rfl | assumption | omega | (simp only [*, Bool.not_false, Bool.not_true]; first | done | fail) | (simp [*]; first | done | fail)) (by rfl) ?_); (first | (first | refine r_slen (by rfl) Tryz.underlying9 (by rfl) ?_ | refine r_seq (by rfl) (by rfl) (by rfl) ?_ | refine r_sne (by rfl) (by rfl) (by rfl) ?_ | refine r_sadd (by rfl) (by rfl) (by simp only [List.length_append, List.length_cons, List.length_nil]; omega) (by rfl) ?_) | ((first | (refine z_op (by rfl) ?_; first | refine z_ok ?_ ?_ | refine z_ex ?_ (by first | exact ft_raw rfl rfl | ((first | refine ft_rp rfl rfl rfl ?_ | refine ft_row rfl rfl rfl ?_ | refine ft_rpF rfl rfl rfl ?_ | refine ft_rowF rfl rfl rfl ?_ | refine up_row rfl rfl ?_ | refine up_rowF rfl rfl rfl ?_ | refine ct_0 rfl ?_ | refine ct_r rfl rfl ?_ | refine ct_c rfl rfl rfl ?_ | refine cu_all rfl ?_ | refine cu_to rfl ?_ | refine cu_from rfl ?_ | refine cu_p rfl ?_ | fail); (first | omega | (simp only [List.length_append, List.length_replicate, List.length_cons, List.length_nil, List.length_set, List.length_take, List.length_drop, true_and]; omega))) | exact up_raw rfl | exact pk_t (by first | rfl | assumption | omega | (simp only [*, Bool.not_false, Bool.not_true]; first | done | fail) | (simp [*]; first | done | fail)) rfl | exact pk_f (by first | rfl | assumption | omega | (simp only [*, Bool.not_false, Bool.not_true]; first | done | fail) | (simp [*]; first | done | fail)) rfl | fail | exact rw_raw | exact pu_cv (fun w => rfl) (by omega) | exact pu_of (fun w => rfl) rfl | exact be_of (fun w => rfl) | exact nc_of (fun _ _ _ _ => rfl) rfl | exact bu_of (fun w => rfl) rfl | (first | exact pu_of (fun w => eq_deed _ _ _ _ _ _ _ _ _ _ _ _ _ _ w) rfl | exact pu_of (fun w => neq_deed _ _ _ _ _ _ _ _ _ _ _ _ _ _ w) rfl)) ?_) | ((first | refine q_callE wsT wsZ (by rfl) ?_ | refine q_callVE wsT (by rfl) (by rfl) ?_); refine ⟨_, _, _, (by first | assumption | exact k_alive), _, by rfl, ?_, ?_⟩)); focus (first | exact trivial | fail | exact rfl | (first | omega | (simp only [List.length_append, List.length_replicate, List.length_cons, List.length_nil, List.length_set, List.length_take, List.length_drop, true_and]; omega)) | exact cvB (fun w => rfl) | ((repeat' (first | exact rfl | exact cV_len _ | exact cV_ln rfl (by omega) | exact Cel.pos | omega | exact trivial | refine And.intro ?_ ?_)); done) | (simp [*]; done) | (simp; omega))) | fail)) | refine r_nt (by rfl) (by rfl) (by first | rfl | assumption | omega | (simp only [*, Bool.not_false, Bool.not_true]; first | done | fail) | (simp [*]; first | done | fail)) (by rfl) ?_ | refine r_nf (by rfl) (by rfl) (by first | rfl | assumption | omega | (simp only [*, Bool.not_false, Bool.not_true]; first | done | fail) | (simp [*]; first | done | fail)) (by rfl) ?_ | refine r_gu (by rfl) (by rfl) (by rfl) ?_ | refine r_nil ?_) | (first | refine aw_seq ?_ | refine aw_ct (by rfl) (by first | rfl | assumption | omega | (simp only [*, Bool.not_false, Bool.not_true]; first | done | fail) | (simp [*]; first | done | fail)) ?_ | refine aw_cf (by rfl) (by first | rfl | assumption | omega | (simp only [*, Bool.not_false, Bool.not_true]; first | done | fail) | (simp [*]; first | done | fail)) ?_ | refine aw_block ?_ | refine aw_region T0ok cfU_ok (by rfl) ?_ | refine aw_skip ?_ | refine aw_exit ?_ | refine ra_step ?_)); (repeat (first | (first | ((first | refine r_none ?_ | refine r_gt (by rfl) (by rfl) (by first | rfl | assumption | omega | (simp only [*, Bool.not_false, Bool.not_true]; first | done | fail) | (simp [*]; first | done | fail)) (by rfl) ?_ | refine r_gf (by rfl) (by rfl) (by first | rfl | assumption | omega | (simp only [*, Bool.not_false, Bool.not_true]; first | done | fail) | (simp [*]; first | done | fail)) (by rfl) ?_); (first | (first | refine r_slen (by rfl) Tryz.underlying9 (by rfl) ?_ | refine r_seq (by rfl) (by rfl) (by rfl) ?_ | refine r_sne (by rfl) (by rfl) (by rfl) ?_ | refine r_sadd (by rfl) (by rfl) (by simp only [List.length_append, List.length_cons, List.length_nil]; omega) (by rfl) ?_) | ((first | (refine z_op (by rfl) ?_; first | refine z_ok ?_ ?_ | refine z_ex ?_ (by first | exact ft_raw rfl rfl | ((first | refine ft_rp rfl rfl rfl ?_ | refine ft_row rfl rfl rfl ?_ | refine ft_rpF rfl rfl rfl ?_ | refine ft_rowF rfl rfl rfl ?_ | refine up_row rfl rfl ?_ | refine up_rowF rfl rfl rfl ?_ | refine ct_0 rfl ?_ | refine ct_r rfl rfl ?_ | refine ct_c rfl rfl rfl ?_ | refine cu_all rfl ?_ | refine cu_to rfl ?_ | refine cu_from rfl ?_ | refine cu_p rfl ?_ | fail); (first | omega | (simp only [List.length_append, List.length_replicate, List.length_cons, List.length_nil, List.length_set, List.length_take, List.length_drop, true_and]; omega))) | exact up_raw rfl | exact pk_t (by first | rfl | assumption | omega | (simp only [*, Bool.not_false, Bool.not_true]; first | done | fail) | (simp [*]; first | done | fail)) rfl | exact pk_f (by first | rfl | assumption | omega | (simp only [*, Bool.not_false, Bool.not_true]; first | done | fail) | (simp [*]; first | done | fail)) rfl | fail | exact rw_raw | exact pu_cv (fun w => rfl) (by omega) | exact pu_of (fun w => rfl) rfl | exact be_of (fun w => rfl) | exact nc_of (fun _ _ _ _ => rfl) rfl | exact bu_of (fun w => rfl) rfl | (first | exact pu_of (fun w => eq_deed _ _ _ _ _ _ _ _ _ _ _ _ _ _ w) rfl | exact pu_of (fun w => neq_deed _ _ _ _ _ _ _ _ _ _ _ _ _ _ w) rfl)) ?_) | ((first | refine q_callE wsT wsZ (by rfl) ?_ | refine q_callVE wsT (by rfl) (by rfl) ?_); refine ⟨_, _, _, (by first | assumption | exact k_alive), _, by rfl, ?_, ?_⟩)); focus (first | exact trivial | fail | exact rfl | (first | omega | (simp only [List.length_append, List.length_replicate, List.length_cons, List.length_nil, List.length_set, List.length_take, List.length_drop, true_and]; omega)) | exact cvB (fun w => rfl) | ((repeat' (first | exact rfl | exact cV_len _ | exact cV_ln rfl (by omega) | exact Cel.pos | omega | exact trivial | refine And.intro ?_ ?_)); done) | (simp [*]; done) | (simp; omega))) | fail)) | refine r_nt (by rfl) (by rfl) (by first | rfl | assumption | omega | (simp only [*, Bool.not_false, Bool.not_true]; first | done | fail) | (simp [*]; first | done | fail)) (by rfl) ?_ | refine r_nf (by rfl) (by rfl) (by first | rfl | assumption | omega | (simp only [*, Bool.not_false, Bool.not_true]; first | done | fail) | (simp [*]; first | done | fail)) (by rfl) ?_ | refine r_gu (by rfl) (by rfl) (by rfl) ?_ | refine r_nil ?_) | (first | refine aw_seq ?_ | refine aw_ct (by rfl) (by first | rfl | assumption | omega | (simp only [*, Bool.not_false, Bool.not_true]; first | done | fail) | (simp [*]; first | done | fail)) ?_ | refine aw_cf (by rfl) (by first | rfl | assumption | omega | (simp only [*, Bool.not_false, Bool.not_true]; first | done | fail) | (simp [*]; first | done | fail)) ?_ | refine aw_block ?_ | refine aw_region T0ok cfU_ok (by rfl) ?_ | refine aw_skip ?_ | refine aw_exit ?_ | refine ra_step ?_))); exact hh.out)) : G := h ⟨k⟩
theorem ga_DW {H G : Prop} (k : H) (h : Hid H → G := by (intro hh; (first | refine r_none ?_ | refine r_gt (by rfl) (by rfl) (by first | rfl | assumption | omega | (simp only [*, Bool.not_false, Bool.not_true]; first | done | fail) | (simp [*]; first | done | fail)) (by rfl) ?_ | refine r_gf (by rfl) (by rfl) (by first | rfl | assumption | omega | (simp only [*, Bool.not_false, Bool.not_true]; first | done | fail) | (simp [*]; first | done | fail)) (by rfl) ?_); refine z_op (by rfl) ?_; refine z_alV ?_ hh.out; focus (first | exact trivial | fail | exact rfl | (first | omega | (simp only [List.length_append, List.length_replicate, List.length_cons, List.length_nil, List.length_set, List.length_take, List.length_drop, true_and]; omega)) | exact cvB (fun w => rfl) | ((repeat' (first | exact rfl | exact cV_len _ | exact cV_ln rfl (by omega) | exact Cel.pos | omega | exact trivial | refine And.intro ?_ ?_)); done) | (simp [*]; done) | (simp; omega)))) : G := h ⟨k⟩
theorem k_lawDT (l : List UInt8) : Kon Tryz.prog 3 [roA l] [] (vB true) [] [] := by
  rcases Nat.lt_or_ge 1048576 l.length with h0 | h0
  · have hd : decide ((l.length : Int) > 1048576) = true := decide_eq_true (by omega)
    (refine kon_mk T0ok (fn := Tryz.f3) (c := Tryz.f3.body.get rfl) Tryz.func3 rfl (by rfl) (by rfl) (by rfl) ?_; intro hfit hfe)
    (repeat (first | refine gq_DW ?_ | (refine ga_DW ?_; intro _hq)))
    ((try refine aw_ret ?_); refine ret_auto2 (by rfl) (by rfl) (by rfl) (by repeat (first | exact trivial | refine ⟨by first | rfl | omega, ?_⟩)) ?_ (by repeat (first | exact trivial | refine ⟨by rfl, by rfl, ?_⟩)) (by repeat (first | exact trivial | refine ⟨by rfl, by rfl, ?_⟩)); try rfl)
  have hd : decide ((l.length : Int) > 1048576) = false := decide_eq_false (by omega)
  obtain ⟨d, hD⟩ := ex_dDT l (by omega)
  have hI := (k_dt d.k d.n d.p).1
  have hS := (k_dt d.k d.n d.p).2
  by_cases ht : dT d = []
  · have ht' : dtx d.k d.n d.p = [] := ht
    rw [ht'] at hI hS
    (refine kon_mk T0ok (fn := Tryz.f3) (c := Tryz.f3.body.get rfl) Tryz.func3 rfl (by rfl) (by rfl) (by rfl) ?_; intro hfit hfe)
    (repeat (first | refine gq_DW ?_ | (refine ga_DW ?_; intro _hq)))
    ((try refine aw_ret ?_); refine ret_auto2 (by rfl) (by rfl) (by rfl) (by repeat (first | exact trivial | refine ⟨by first | rfl | omega, ?_⟩)) ?_ (by repeat (first | exact trivial | refine ⟨by rfl, by rfl, ?_⟩)) (by repeat (first | exact trivial | refine ⟨by rfl, by rfl, ?_⟩)); try rfl)
  · have hlen := dtx_len d.k d.n d.p
    have hok : DOk (dtx d.k d.n d.p) d.k d.n d.p := ⟨rfl, ht⟩
    obtain ⟨e, b, hx, _, hR⟩ := rd_ex (dtx d.k d.n d.p) (by omega)
    rcases hx with ⟨rfl, h'⟩ | ⟨_, _, h'⟩
    · obtain ⟨a1, a2, a3⟩ := d_uni hok h'
      obtain rfl := dd_ext2 a1 a2 a3
      have h1 : (dtx d.k d.n d.p == []) = false := by rw [beq_eq_false_iff_ne]; exact ht
      clear hok h' ht a1 a2 a3
      generalize dtx d.k d.n d.p = t at *
      have h2 : (t != t) = false := by simp
      obtain ⟨k, n, ⟨pk, pa, pb, pc⟩⟩ := d
      have hq : (k == k && (n == n && (pk == pk && (pa == pa && (pb == pb && pc == pc))))) = true := by simp
      have hK : Kon Tryz.prog 3 [roA l] [] (vB (k == k && (n == n && (pk == pk && (pa == pa && (pb == pb && pc == pc)))))) [] [] := by
        (refine kon_mk T0ok (fn := Tryz.f3) (c := Tryz.f3.body.get rfl) Tryz.func3 rfl (by rfl) (by rfl) (by rfl) ?_; intro hfit hfe)
        (repeat (first | refine gq_DW ?_ | (refine ga_DW ?_; intro _hq)))
        ((try refine aw_ret ?_); refine ret_auto2 (by rfl) (by rfl) (by rfl) (by repeat (first | exact trivial | refine ⟨by first | rfl | omega, ?_⟩)) ?_ (by repeat (first | exact trivial | refine ⟨by rfl, by rfl, ?_⟩)) (by repeat (first | exact trivial | refine ⟨by rfl, by rfl, ?_⟩)); try rfl)
      rw [hq] at hK
      exact hK
    · exact absurd hok (h' _ _ _)
theorem k_lawRD (l : List UInt8) : Kon Tryz.prog 4 [roA l] [] (vB true) [] [] := by
  rcases Nat.lt_or_ge 1048576 l.length with h0 | h0
  · have hd : decide ((l.length : Int) > 1048576) = true := decide_eq_true (by omega)
    (refine kon_mk T0ok (fn := Tryz.f4) (c := Tryz.f4.body.get rfl) Tryz.func4 rfl (by rfl) (by rfl) (by rfl) ?_; intro hfit hfe)
    (repeat (first | refine gq_DW ?_ | (refine ga_DW ?_; intro _hq)))
    ((try refine aw_ret ?_); refine ret_auto2 (by rfl) (by rfl) (by rfl) (by repeat (first | exact trivial | refine ⟨by first | rfl | omega, ?_⟩)) ?_ (by repeat (first | exact trivial | refine ⟨by rfl, by rfl, ?_⟩)) (by repeat (first | exact trivial | refine ⟨by rfl, by rfl, ?_⟩)); try rfl)
  have hd : decide ((l.length : Int) > 1048576) = false := decide_eq_false (by omega)
  obtain ⟨s, hs, hD⟩ := ex_dRD l (by omega)
  obtain ⟨d, b, hx, hS, hI⟩ := rd_ex s (by omega)
  have hq : ∀ x : Int, (x == x) = true := fun x => by simp
  rcases hx with ⟨rfl, h⟩ | ⟨rfl, rfl, _⟩
  · have hT := (k_dt d.k d.n d.p).1
    rw [h.1] at hT
    obtain ⟨d2, b2, hx2, _, hM⟩ := rd_ex (s ++ [32]) (by simp; omega)
    have hb2 : b2 = false := by
      rcases hx2 with ⟨_, h2⟩ | ⟨h2, _⟩
      · exact absurd h2 (d_snoc h)
      · exact h2
    subst hb2
    clear hx2 h
    obtain ⟨k, n, ⟨pk, pa, pb, pc⟩⟩ := d
    have h2 : (s == s) = true := by simp
    have e1 := hq k
    have e2 := hq n
    have e3 := hq pk
    have e4 := hq pa
    have e5 := hq pb
    have e6 := hq pc
    (refine kon_mk T0ok (fn := Tryz.f4) (c := Tryz.f4.body.get rfl) Tryz.func4 rfl (by rfl) (by rfl) (by rfl) ?_; intro hfit hfe)
    (repeat (first | refine gq_DW ?_ | (refine ga_DW ?_; intro _hq)))
    ((try refine aw_ret ?_); refine ret_auto2 (by rfl) (by rfl) (by rfl) (by repeat (first | exact trivial | refine ⟨by first | rfl | omega, ?_⟩)) ?_ (by repeat (first | exact trivial | refine ⟨by rfl, by rfl, ?_⟩)) (by repeat (first | exact trivial | refine ⟨by rfl, by rfl, ?_⟩)); try rfl)
  · (refine kon_mk T0ok (fn := Tryz.f4) (c := Tryz.f4.body.get rfl) Tryz.func4 rfl (by rfl) (by rfl) (by rfl) ?_; intro hfit hfe)
    (repeat (first | refine gq_DW ?_ | (refine ga_DW ?_; intro _hq)))
    ((try refine aw_ret ?_); refine ret_auto2 (by rfl) (by rfl) (by rfl) (by repeat (first | exact trivial | refine ⟨by first | rfl | omega, ?_⟩)) ?_ (by repeat (first | exact trivial | refine ⟨by rfl, by rfl, ?_⟩)) (by repeat (first | exact trivial | refine ⟨by rfl, by rfl, ?_⟩)); try rfl)
end Go.Proofs.YtgphlcdinejmdaaGreatDoor

/- How arguments that came in read: slices of whatever elements. -/
namespace Go.Proofs.YtgphlcdinejmdaaGreatDoor
set_option linter.unusedVariables false
set_option linter.unusedSimpArgs false
open Go.ChangeShapes Go.WideShapes Go.ChangeAt Go.RowKit Go.Joins Go.Deep

theorem own : ownKnob Tryz.prog.godebug = none := by kernel_rfl
theorem laidOut : laidOutB Tryz.prog = true := by kernel_rfl
/-- The frame of a row's proof, from its walk: the arguments opened by the caller. -/
theorem row_end {H : Type} {enc : TypeId × Value → H} {W : World} {t : TypeId} {v : Value} {d : DataW H} {p : List MemPlace} (h : DataW.Trod enc Tryz.prog W 0 (fun _ => true) true t v d p) : ∀ x ∈ p, x.block < W.heap.size := by
  obtain ⟨m, hm⟩ := h; exact DataW.trod_lt m _ _ _ hm
theorem add_plain (b off j : Nat) : (⟨b, off, none⟩ : Addr).add j = ⟨b, off + j, none⟩ := by
  unfold Addr.add; split <;> simp_all
theorem list_of {α : Type} (p : Nat → α → Prop) (n : Nat) (h : ∀ j, j < n → ∃ v, p j v) : ∃ l : List α, l.length = n ∧ ∀ j (hj : j < l.length), p j l[j] := by
  induction n with
  | zero => exact ⟨[], rfl, fun j hj => by simp at hj⟩
  | succ n ih =>
    obtain ⟨l, hl, hp⟩ := ih fun j hj => h j (by omega)
    obtain ⟨v, hv⟩ := h n (by omega)
    refine ⟨l ++ [v], by simp [hl], fun j hj => ?_⟩
    by_cases hlt : j < l.length
    · rw [List.getElem_append_left hlt]; exact hp j hlt
    · have e : j = l.length := by simp at hj; omega
      subst e
      simp [hl, hv]
section
variable {H : Type} {enc : TypeId × Value → H} {P : Program} {w : World} {α : Type} [Cel α]
/-- Cells of a type are those of an element. -/
def OpensC (enc : TypeId × Value → H) (P : Program) (w : World) (e : TypeId) (α : Type) [Cel α] : Prop := ∀ n cs x, DataW.trod enc P w 0 (fun _ => true) true n e cs = some x → ∃ a : α, cs = Cel.f a
theorem mapM_get {α β : Type} {f : α → Option β} : ∀ {l : List α} {r : List β}, l.mapM f = some r → r.length = l.length ∧ ∀ (j : Nat) (x : α), l[j]? = some x → ∃ y, r[j]? = some y ∧ f x = some y
  | [], r, h => by
    simp at h; subst h; exact ⟨rfl, fun j x hj => by simp at hj⟩
  | a :: l, r, h => by
    rw [List.mapM_cons] at h
    cases ha : f a with
    | none => simp [ha] at h
    | some y =>
      cases hl : l.mapM f with
      | none => simp [ha, hl] at h
      | some r' =>
        simp [ha, hl] at h
        subst h
        obtain ⟨h1, h2⟩ := mapM_get hl
        refine ⟨by simp [h1], fun j x hj => ?_⟩
        cases j with
        | zero => simp at hj; subst hj; exact ⟨y, rfl, ha⟩
        | succ j => obtain ⟨z, hz, hf⟩ := h2 j x (by simpa using hj); exact ⟨z, by simpa using hz, hf⟩
theorem ro_of_trod {t e : TypeId} {fuel : Nat} {v : Value} {y : DataW H × List MemPlace} (ht : P.underlying t = some (.slice e)) (hc : P.cellsOf e = Cel.sz α) (ho : OpensC enc P w e α)
    (h : DataW.trod enc P w 0 (fun _ => true) true fuel t [v] = some y) : ∃ l : List α, Rep0 w (.g (.one (.ro (Cel.sz α) l.length (cV l)))) v := by
  rcases open_slice ht h with ⟨hcs, _⟩ | ⟨a, len, cap, m, n, D, Pl, hcs, _, hl, hm, hmm, rfl, hx⟩
  · simp at hcs
    subst hcs
    exact ⟨[], ⟨by simp, rfl⟩, none, 0, rfl, Nat.le_refl _, by unfold maxLen; omega, fun h => absurd h (Nat.lt_irrefl _)⟩
  · simp at hcs
    subst hcs
    simp at hmm
    subst hmm
    rw [hc] at hx
    obtain ⟨l, hll, hlp⟩ := list_of (fun j (u : α) => w.cells? 0 (a.add (j * Cel.sz α)) (Cel.sz α) = some (Cel.f u)) len fun j hj => by
      obtain ⟨cs', h1, h2⟩ := hx j (by omega)
      obtain ⟨u, rfl⟩ := ho _ _ _ h2
      exact ⟨u, h1⟩
    have hcell : ∀ (j o : Nat) (hj : j < l.length) (ho : o < Cel.sz α), ∃ x, (Cel.f l[j])[o]? = some x ∧ w.cell? ((a.add (j * Cel.sz α)).add o) = some x := by
      intro j o hj ho
      have h1 := hlp j hj
      unfold World.cells? at h1
      rw [if_pos (Nat.zero_le _)] at h1
      obtain ⟨_, h2⟩ := mapM_get h1
      obtain ⟨x, h3, h4⟩ := h2 o o (by simp [ho])
      exact ⟨x, h3, h4⟩
    refine ⟨l, ⟨by rw [cV_len], cV_one l⟩, some a, m, by rw [hll], by omega, hm, fun hn => ?_⟩
    obtain ⟨b, off, spot⟩ := a
    have hspot : spot = none := by
      obtain ⟨x, _, h2⟩ := hcell 0 0 hn Cel.pos
      have := World.cell?_spot h2
      simpa [Addr.add] using this
    subst hspot
    refine ⟨b, off, rfl, ?_, fun j x hj => ?_⟩
    · obtain ⟨x, _, h2⟩ := hcell 0 0 hn Cel.pos
      rw [add_plain, add_plain] at h2
      exact World.block_lt_of_cell? w _ h2
    · have hpos : 0 < Cel.sz α := Cel.pos
      have hlt : j < l.length * Cel.sz α := by rw [← cV_len]; exact (List.getElem?_eq_some_iff.1 hj).1
      have hdm := Nat.div_add_mod j (Cel.sz α)
      have hml := Nat.mod_lt j hpos
      have hdl : j / Cel.sz α < l.length := Nat.div_lt_of_lt_mul (by rw [Nat.mul_comm]; exact hlt)
      obtain ⟨y, h1, h2⟩ := hcell (j / Cel.sz α) (j % Cel.sz α) hdl hml
      rw [add_plain, add_plain] at h2
      have e1 : l.getD (j / Cel.sz α) Cel.no = l[j / Cel.sz α] := by simp [List.getD_eq_getElem?_getD, hdl]
      have h3 := cV_cell (l := l) (j := j / Cel.sz α) (o := j % Cel.sz α) (v := y) hdl (by rw [e1]; exact h1)
      have e2 : j / Cel.sz α * Cel.sz α + j % Cel.sz α = j := by rw [Nat.mul_comm]; exact hdm
      rw [e2, hj] at h3
      cases h3
      rw [show off + j = off + j / Cel.sz α * Cel.sz α + j % Cel.sz α by omega]
      exact h2
end
section
variable {H : Type} {enc : TypeId × Value → H} {P : Program} {w : World}
theorem opens_byte {e : TypeId} (he : P.underlying e = some (.int .u8)) : OpensC enc P w e UInt8 := by
  intro n cs x h
  obtain ⟨k, h1, _, hw⟩ := DataW.trod_int he h
  have h2 : 0 ≤ k ∧ k < 256 := by
    simp [Lit.wf, IntKind.min, IntKind.max, IntKind.signed, IntKind.bits] at hw
    omega
  refine ⟨UInt8.ofNat k.toNat, ?_⟩
  rw [h1]
  show [Value.int .u8 k] = [Value.int .u8 ((UInt8.ofNat k.toNat).toNat : Int)]
  simp only [UInt8.toNat_ofNat']
  rw [Nat.mod_eq_of_lt (by omega)]
  congr 2
  omega
theorem slice_shape {e t : TypeId} {v : Value} {d : DataW H} {ps : List MemPlace} {r : Reach} {b0 : Nat} (ht : P.underlying t = some (.slice e)) (hval : Value.okWide P w r b0 t v) (h : DataW.Trod enc P w 0 (fun _ => true) true t v d ps) : ∃ fuel y, DataW.trod enc P w 0 (fun _ => true) true fuel t [v] = some y := by
  obtain ⟨A, n, c, rfl⟩ := okWide_slice ht hval
  obtain ⟨fuel, hf⟩ := h
  exact ⟨fuel, _, hf⟩
/-- Bytes that came in. -/
theorem bytes_of_trod {e t : TypeId} {v : Value} {d : DataW H} {ps : List MemPlace} {r : Reach} {b0 : Nat} (ht : P.underlying t = some (.slice e)) (he : P.underlying e = some (.int .u8)) (hc : P.cellsOf e = 1) (hval : Value.okWide P w r b0 t v) (h : DataW.Trod enc P w 0 (fun _ => true) true t v d ps) :
    ∃ l : List UInt8, Rep0 w (roA l) v := by
  obtain ⟨fuel, y, hf⟩ := slice_shape ht hval h
  exact ro_of_trod (α := UInt8) ht hc (opens_byte he) hf
end
section
variable {H : Type} {enc : TypeId × Value → H} {P : Program} {w : World}
end
/-- A law answers true and leaves what was there, by its contract. -/
theorem law_of_kon {P : Program} {f : FuncId} {aa : List AV} (h : Kon P f aa [] (vB true) [] []) {vs : Array Value} {w : World} (hs : vs.size = aa.length) (hr : ∀ (j : Nat) (a : AV), aa[j]? = some a → ∃ z, vs[j]? = some z ∧ Rep0 w a z) (hgl : Glo w := by exact trivial) (hgz : gsz ≤ w.heap.size := by exact Nat.zero_le _) :
    Calls P f vs w fun e w' => e = .returned (.bool true) ∧ Below w.heap.size w w' := by
  obtain ⟨C, hC, hCe⟩ := h
  exact law_run hC hCe hs hr hgl hgz
end Go.Proofs.YtgphlcdinejmdaaGreatDoor

/- How benches that came in read. -/
namespace Go.Proofs.YtgphlcdinejmdaaGreatDoor
set_option linter.unusedVariables false
set_option linter.unusedSimpArgs false
open Go.ChangeShapes Go.WideShapes Go.ChangeAt Go.RowKit Go.Joins Go.Deep
section
variable {H : Type} {enc : TypeId × Value → H} {P : Program} {w : World}
end
end Go.Proofs.YtgphlcdinejmdaaGreatDoor

/- How statements and texts that came in read. -/
namespace Go.Proofs.YtgphlcdinejmdaaGreatDoor
set_option linter.unusedVariables false
set_option linter.unusedSimpArgs false
open Go.ChangeShapes Go.WideShapes Go.ChangeAt Go.RowKit Go.Joins Go.Deep Go.ChangeMaps
section
variable {H : Type} {enc : TypeId × Value → H} {P : Program} {w : World}
end
section
variable {H : Type} {enc : TypeId × Value → H}
/-- A row whose listed variables read as told, over worlds of the program's shape. -/
theorem handed_laid_shaped {a : Assume} {C : Checked} {os : Os} {f : FuncId} {fn : Func} {s : ChangeSpec} {conds : List PathCond} {apart fresh handsOn again : Bool} {X : World → Array Value → Prop}
    (hX : ∀ (w w' : World) (args : Array Value), w.heap = w'.heap → X w args → X w' args)
    (own : ownKnob C.prog.godebug = none) (started : os.Started) (noInit : C.prog.inits.idxOf? f = none) (hfn : C.prog.funcs[f]? = some fn)
    (witness : ∃ (w : World) (tape : Tape) (i : Input), w.os = os ∧ (w.forCall tape i).Shaped C.prog ∧ i.vars = [] ∧ Input.okWide C.prog (w.forCall tape i) .any w.heap.size f i ∧
      ((s.pre enc C.prog fn conds apart (w.forCall tape i).memory i.args ∧ X (w.forCall tape i).memory i.args) ∧ sizedMet enc C.prog fn (OpenSpec.ofChange s) apart (w.forCall tape i).memory i.args) ∧ a.holds C.prog (lone (Frame.enter C.prog f i.args .normal) [] (w.forCall tape i)))
    (contract : ∀ (W : World) (base : Nat) (args : Array Value) (ds gs : List (DataW H)) (before : List MemPlace),
      (∀ (j : Nat) t v, fn.params[j]? = some t → args[j]? = some v → Value.okWide C.prog W .any base t v) →
      DataW.Whole enc C.prog fn.params.toList s.vars apart W args.toList ds gs before →
      conds.all (PathCond.test C.prog ⟨fn.params.toList, ds, s.plain.varTypes C.prog, gs⟩) = true →
      W.ShapedOpen C.prog → X W args →
      Calls C.prog f args W fun e W' => ∃ v, e = .returned v ∧ s.post enc C.prog fn apart fresh handsOn again W args v W') :
    ReturnsInHanded a C os f .any (fun w args => (s.pre enc C.prog fn conds apart w args ∧ X w args) ∧ sizedMet enc C.prog fn (OpenSpec.ofChange s) apart w args) (s.post enc C.prog fn apart fresh handsOn again) := by
  refine returnsInHanded_of_calls own started noInit witness ?_
  intro w tape i _ hsh _ hok hpre hholds
  obtain ⟨_, _, _, fn', hfn', _, _, _, _, hval⟩ := hok
  have e : fn' = fn := Option.some.inj (hfn'.symm.trans hfn)
  subst e
  obtain ⟨⟨⟨ds, gs, before, hw, hc⟩, hx⟩, hz⟩ := hpre
  have hw' := DataW.Whole.of_heap (w' := w.forCall tape i) (by rfl) hw
  refine (contract (w.forCall tape i) w.heap.size i.args ds gs before hval hw' hc hsh (hX _ _ _ (by rfl) hx)).mono fun e W' ⟨v, he, hp⟩ => ?_
  subst he
  exact ChangeSpec.post_blind hp
end
end Go.Proofs.YtgphlcdinejmdaaGreatDoor

/- The listed variables as the contracts of the library ask for them. -/
namespace Go.Proofs.YtgphlcdinejmdaaGreatDoor
set_option linter.unusedVariables false
set_option linter.unusedSimpArgs false
open Go.ChangeShapes Go.WideShapes Go.ChangeAt Go.RowKit Go.Joins Go.Deep
theorem cell_lt {W : World} {g : Nat} {x : Value} (h : W.cell? ⟨g, 0, none⟩ = some x) : g < W.heap.size := by
  rcases Nat.lt_or_ge g W.heap.size with h1 | h1
  · exact h1
  · unfold World.cell? at h
    simp [Array.getElem?_eq_none h1] at h
theorem laid_iface {P : Program} {W : World} {n nm : String} {d : DataW Unit} {r : List (String × DataW Unit)} {g : Nat} {ti : TypeId} {ms : Array (String × TypeId)} (h : laidMet P ((n, .iface nm d) :: r) W)
    (hg : P.globalNamed n = some g) (ht : (P.globals[g]?).map (·.type) = some ti) (hi : P.underlying ti = some (.interface ms)) : ∃ u v, W.cell? ⟨g, 0, none⟩ = some (.iface u v) := by
  obtain ⟨ps, ⟨g0, t0, cs0, f0, p0, q0, hg0, ht0, hv0, hd0, _, _⟩, _, _⟩ := h
  obtain rfl := Option.some.inj (hg.symm.trans hg0)
  obtain rfl := Option.some.inj (ht.symm.trans ht0)
  obtain ⟨f1, u, v, hcs, _, _⟩ := iface_of_trod hi hd0
  have h0 := World.var?_cell hg0 hv0 0
  obtain ⟨l0⟩ := cs0
  have hl : l0 = [.iface u v] := by simpa using hcs
  subst hl
  exact ⟨u, v, by simpa using h0⟩





























































theorem glo_DeedText {W : World} (hsh : W.ShapedOpen Tryz.prog) (hL : laidMetH Tryz.prog Rows.fnDeedTextRow.laid W) : Glo W ∧ gsz ≤ W.heap.size := by
  rw [MakeChecks.laidMetH_plain _ _ _ (by kernel_rfl)] at hL
  have h4 := hL.tail.tail.tail.tail
  have h5 := h4.tail
  have hi : Tryz.prog.underlying 56 = some (.interface _) := Tryz.underlying56
  obtain ⟨u, v, hr⟩ := laid_iface h4 (show Tryz.prog.globalNamed "strconv.ErrRange" = some 2 by kernel_rfl) (show (Tryz.prog.globals[2]?).map (·.type) = some 56 by kernel_rfl) hi
  obtain ⟨u', v', hs⟩ := laid_iface h5 (show Tryz.prog.globalNamed "strconv.ErrSyntax" = some 1 by kernel_rfl) (show (Tryz.prog.globals[1]?).map (·.type) = some 56 by kernel_rfl) hi
  obtain ⟨m, hm⟩ : ∃ m, W.cell? ⟨0, 0, none⟩ = some (.int .i64 m) :=
    cell_of_shapedOpen_int (zero := #[.int .i64 0]) (t := 3) hsh (of_decide_eq_true (by kernel_rfl)) (by kernel_rfl) rfl (by kernel_rfl) (by kernel_rfl) Tryz.underlying3
  exact ⟨⟨⟨m, hm⟩, ⟨u', v', hs⟩, ⟨u, v, hr⟩⟩, Nat.succ_le_of_lt (Nat.max_lt.2 ⟨Nat.max_lt.2 ⟨cell_lt hs, cell_lt hr⟩, cell_lt hm⟩)⟩


theorem glo_ReadDeed {W : World} (hsh : W.ShapedOpen Tryz.prog) (hL : laidMetH Tryz.prog Rows.fnReadDeedRow.laid W) : Glo W ∧ gsz ≤ W.heap.size := by
  rw [MakeChecks.laidMetH_plain _ _ _ (by kernel_rfl)] at hL
  have h4 := hL.tail.tail.tail.tail
  have h5 := h4.tail
  have hi : Tryz.prog.underlying 56 = some (.interface _) := Tryz.underlying56
  obtain ⟨u, v, hr⟩ := laid_iface h4 (show Tryz.prog.globalNamed "strconv.ErrRange" = some 2 by kernel_rfl) (show (Tryz.prog.globals[2]?).map (·.type) = some 56 by kernel_rfl) hi
  obtain ⟨u', v', hs⟩ := laid_iface h5 (show Tryz.prog.globalNamed "strconv.ErrSyntax" = some 1 by kernel_rfl) (show (Tryz.prog.globals[1]?).map (·.type) = some 56 by kernel_rfl) hi
  obtain ⟨m, hm⟩ : ∃ m, W.cell? ⟨0, 0, none⟩ = some (.int .i64 m) :=
    cell_of_shapedOpen_int (zero := #[.int .i64 0]) (t := 3) hsh (of_decide_eq_true (by kernel_rfl)) (by kernel_rfl) rfl (by kernel_rfl) (by kernel_rfl) Tryz.underlying3
  exact ⟨⟨⟨m, hm⟩, ⟨u', v', hs⟩, ⟨u, v, hr⟩⟩, Nat.succ_le_of_lt (Nat.max_lt.2 ⟨Nat.max_lt.2 ⟨cell_lt hs, cell_lt hr⟩, cell_lt hm⟩)⟩


end Go.Proofs.YtgphlcdinejmdaaGreatDoor

/- The laws and the listed variables, together. -/
namespace Go.Proofs.YtgphlcdinejmdaaGreatDoor
end Go.Proofs.YtgphlcdinejmdaaGreatDoor
