/- LNB: laid into one text. -/
import Derived.Test.YtnenhckongccgaaGreatDoorQGZ

namespace Go.Proofs.YtnenhckongccgaaGreatDoor
set_option linter.unusedVariables false
set_option linter.unusedSimpArgs false
set_option maxRecDepth 20000
open Go.RowKit
attribute [local irreducible] runA runX AW
def wsTLB : WsT := (41, ([], true)) :: (10, ([], true)) :: wsT
theorem gq_LNB {H G : Prop} (k : H) (h : Hid H → G := by (intro hh; repeat1' (first | (first | (refine nxA ?_; (first | fail | ((first | (refine z_op (by rfl) ?_; first | refine z_ok ?_ ?_ | refine z_ex ?_ (by first | exact zL1 | ((first | refine mk_0 (List UInt8) rfl rfl ?_); exact zWW) | exact zL2 | exact rw_c (List UInt8) rfl | exact zL3 | fail) ?_) | ((first | refine q_callE wsTLB wsZ (by rfl) ?_ | refine q_callVE wsTLB (by rfl) (by rfl) ?_); refine ⟨_, _, _, (by first | assumption | exact k_copyS _ _ _ _ _ (by omega)), _, by rfl, ?_, ?_⟩)); focus (first | exact trivial | fail | exact zQZ)) | fail)) | refine swA ?_) | refine awA ?_); exact hh.out)) : G := h ⟨k⟩
theorem gs_LNB {H G : Prop} (k : H) (h : Hid H → G := by (intro hh; repeat1' (first | (refine nxA ?_; (first | fail | ((first | (refine z_op (by rfl) ?_; first | refine z_ok ?_ ?_ | refine z_ex ?_ (by first | exact zL1 | ((first | refine mk_0 (List UInt8) rfl rfl ?_); exact zWW) | exact zL2 | exact rw_c (List UInt8) rfl | exact zL3 | fail) ?_) | ((first | refine q_callE wsTLB wsZ (by rfl) ?_ | refine q_callVE wsTLB (by rfl) (by rfl) ?_); refine ⟨_, _, _, (by first | assumption | exact k_copyS _ _ _ _ _ (by omega)), _, by rfl, ?_, ?_⟩)); focus (first | exact trivial | fail | exact zQZ)) | fail)) | refine swA ?_); exact hh.out)) : G := h ⟨k⟩
noncomputable def sayN (n f : Int) (x : BS) (ls : List (List UInt8)) : Nat → BS × List (List UInt8)
  | 0 => (x, [])
  | k + 1 => ((lnF n f (sayN n f x ls k).1.1 (sayN n f x ls k).1.2.1 (sayN n f x ls k).1.2.2 (ls.getD k Cel.no)).1, (sayN n f x ls k).2 ++ [(lnF n f (sayN n f x ls k).1.1 (sayN n f x ls k).1.2.1 (sayN n f x ls k).1.2.2 (ls.getD k Cel.no)).2])
theorem sayN_ok {n f : Int} {x : BS} (h : bok n x.1 f x.2.1 (x.2.2 : Int) = true) (ls : List (List UInt8)) : ∀ k, bok n (sayN n f x ls k).1.1 f (sayN n f x ls k).1.2.1 ((sayN n f x ls k).1.2.2 : Int) = true
  | 0 => h
  | k + 1 => lnF_okB (sayN_ok h ls k) _
theorem sayN_len (n f : Int) (x : BS) (ls : List (List UInt8)) : ∀ k, (sayN n f x ls k).2.length = k
  | 0 => rfl
  | k + 1 => by rw [sayN, List.length_append, sayN_len n f x ls k]; rfl
abbrev syZ : AV := .tup [.agg [.v (.int .i64 0), .v (.slice none 0 0), .v (.int .i64 0), .v (.int .i64 0), .v (.int .i64 0)], .one (.v (.slice none 0 0))]
abbrev syI (n : Int) (l : List Gt) (f w a : Int) (ans : List (List UInt8)) : AV := .tup [.agg [.v (.int .i64 n), .sl 0 0 l.length, .v (.int .i64 f), .v (.int .i64 w), .v (.int .i64 a)], .one (.sl 1 0 ans.length)]
abbrev syS (n : Int) (l : List Gt) (f w a : Int) (ans : List (List UInt8)) : AV := .tup [.agg (bCr n l f w a), .one (roC ans)]
theorem k_syI0 (n : Int) (l : List Gt) (f w a : Int) (ls : List (List UInt8)) (hl : l.length ≤ 10000000) (hr : -9223372036854775808 ≤ n ∧ n ≤ 9223372036854775807) (h : bok n l f w a = false ∨ 40 < ls.length) (hdl : ls.length ≤ 10000000) : Kon Tryz.prog 17 [bG n l f w a, roA ls] [] syZ [] [] := by
  have hB := k_bv n l f w a (by omega) hr
  cases hb : bok n l f w a with
  | false =>
    rw [hb] at hB
    (refine kM Tryz.func17 rfl ?_; intro hfit hfe)
    (repeat (first | refine gq_LNB ?_ | (refine ga0A ?_; intro _hq)))
    (refine rtA ?_; try rfl)
  | true =>
    rw [hb] at hB
    have h40 : 40 < ls.length := by
      rcases h with h | h
      · rw [hb] at h; cases h
      · exact h
    have hd : decide ((ls.length : Int) > 40) = true := decide_eq_true (by omega)
    (refine kM Tryz.func17 rfl ?_; intro hfit hfe)
    (repeat (first | refine gq_LNB ?_ | (refine ga0A ?_; intro _hq)))
    (refine rtA ?_; try rfl)
theorem k_syS0 (n : Int) (l : List Gt) (f w a : Int) (ls : List (List UInt8)) (hl : l.length ≤ 10000000) (hr : -9223372036854775808 ≤ n ∧ n ≤ 9223372036854775807) (h : bok n l f w a = false ∨ 40 < ls.length) (hdl : ls.length ≤ 10000000) : Kon Tryz.prog 18 [bG n l f w a, roA ls] [] (.tup [.agg [.v (.int .i64 0), .v (.slice none 0 0), .v (.int .i64 0), .v (.int .i64 0), .v (.int .i64 0)], .one (roC ([] : List (List UInt8)))]) [] [] := by
  have hB := k_bvS n l f w a (by omega) hr
  cases hb : bok n l f w a with
  | false =>
    rw [hb] at hB
    (refine kM Tryz.func18 rfl ?_; intro hfit hfe)
    (repeat refine gcA ?_)
    (repeat (first | refine gs_LNB ?_ | (refine ga0A ?_; intro _hq)))
    (repeat refine gcA ?_)
    (repeat (first | refine gs_LNB ?_ | (refine ga0A ?_; intro _hq)))
    (refine aw_freeze 176 (by rfl) (by rfl) ?_; refine aw_slot 6 1 (by rfl) (by rfl) (by first | exact trivial | omega | exact cvB (fun w => rfl) | ((repeat (any_goals (first | exact rfl | exact cV_len _ | exact cV_ln rfl (by omega) | exact Cel.pos | omega | exact trivial | refine And.intro ?_ ?_))); first | done | fail) | (simp [*]; first | done | fail)) ?_)
    (repeat (first | refine gq_LNB ?_ | (refine ga0A ?_; intro _hq)))
    (refine rtA ?_; try rfl)
  | true =>
    rw [hb] at hB
    have h40 : 40 < ls.length := by
      rcases h with h | h
      · rw [hb] at h; cases h
      · exact h
    have hd : decide ((ls.length : Int) > 40) = true := decide_eq_true (by omega)
    (refine kM Tryz.func18 rfl ?_; intro hfit hfe)
    (repeat refine gcA ?_)
    (repeat (first | refine gs_LNB ?_ | (refine ga0A ?_; intro _hq)))
    (repeat refine gcA ?_)
    (repeat (first | refine gs_LNB ?_ | (refine ga0A ?_; intro _hq)))
    (refine aw_freeze 176 (by rfl) (by rfl) ?_; refine aw_slot 6 1 (by rfl) (by rfl) (by first | exact trivial | omega | exact cvB (fun w => rfl) | ((repeat (any_goals (first | exact rfl | exact cV_len _ | exact cV_ln rfl (by omega) | exact Cel.pos | omega | exact trivial | refine And.intro ?_ ?_))); first | done | fail) | (simp [*]; first | done | fail)) ?_)
    (repeat (first | refine gq_LNB ?_ | (refine ga0A ?_; intro _hq)))
    (refine rtA ?_; try rfl)
set_option maxHeartbeats 4000000 in
theorem kn_syI {n : Int} {l l' : List Gt} {f w w' : Int} {A A' : Nat} {ls ans : List (List UInt8)} (h : bok n l f w A = true) (hdl : ls.length ≤ 40) (hls : ∀ x ∈ ls, x.length ≤ 7000000) (hR : sayN n f (l, w, A) ls ls.length = ((l', w', A'), ans)) : Kon Tryz.prog 17 [bG n l f w (A : Int), roA ls] [] (syI n l' f w' (A' : Int) ans) [gRow l', tRow ans] [] := by
  have hnum := bok_nums n l f w A h
  have hB := k_bv n l f w A (by omega) (by omega)
  rw [h] at hB
  have hd40 : decide ((ls.length : Int) > 40) = false := decide_eq_false (by omega)
  have hok := sayN_ok (x := (l, w, A)) h ls
  have hlen := sayN_len n f (l, w, A) ls
  have hat : ∀ k, k < ls.length → (ls.getD k Cel.no).length ≤ 7000000 := fun k hk => by
    have e : ls.getD k Cel.no = ls[k] := by simp [List.getD_eq_getElem?_getD, hk]
    rw [e]; exact hls _ (List.getElem_mem hk)
  have hs0 : sayN n f (l, w, A) ls 0 = ((l, w, A), []) := rfl
  have hs1 : ∀ k, sayN n f (l, w, A) ls (k + 1) = ((lnF n f (sayN n f (l, w, A) ls k).1.1 (sayN n f (l, w, A) ls k).1.2.1 (sayN n f (l, w, A) ls k).1.2.2 (ls.getD k Cel.no)).1, (sayN n f (l, w, A) ls k).2 ++ [(lnF n f (sayN n f (l, w, A) ls k).1.1 (sayN n f (l, w, A) ls k).1.2.1 (sayN n f (l, w, A) ls k).1.2.2 (ls.getD k Cel.no)).2]) := fun k => rfl
  generalize sayN n f (l, w, A) ls = S at *
  clear hls
  (refine kM Tryz.func17 rfl ?_; intro hfit hfe)
  (repeat (first | refine gq_LNB ?_ | (refine ga0A ?_; intro _hq)))
  (refine aw_rd [2, 4, 23, 24] [64] (fun g : Nat × BS × List (List UInt8) => [(6, .g (.one (.sl 352 g.1 g.2.2.length))), (25, vI g.1)]) (fun g => [(32, (0, .box (bCr n g.2.1.1 f g.2.1.2.1 (g.2.1.2.2 : Int)))), (352, (g.1, tRow g.2.2))]) (fun g => g.1 ≤ ls.length ∧ S g.1 = g.2) (fun g => ls.length - g.1) (0, (l, w, A), []) (by rfl) (by rfl) ?_ (by rfl) zHE zHE ?_)
  · exact ⟨Nat.zero_le _, hs0⟩
  rintro ⟨k, ⟨x, v, B⟩, o⟩ ⟨hk, hS⟩
  dsimp only at hk hS ⊢
  have hb := hok k
  have hol := hlen k
  rw [hS] at hb hol
  dsimp only at hb hol
  rcases Nat.lt_or_ge k ls.length with h5 | h5
  · have hd : decide ((k : Int) < (ls.length : Int)) = true := decide_eq_true (by omega)
    have hS1 := hs1 k
    rw [hS] at hS1
    dsimp only at hS1
    rcases hL : lnF n f x v B (ls.getD (k : Int).toNat Cel.no) with ⟨⟨x2, v2, B2⟩, a⟩
    have hL2 : lnF n f x v B (ls.getD k Cel.no) = ((x2, v2, B2), a) := hL
    rw [hL2] at hS1
    have hK := kn_lineI hb (hat k h5) hL
    have hinv : k + 1 ≤ ls.length ∧ S (k + 1) = ((x2, v2, B2), o ++ [a]) := ⟨h5, hS1⟩
    clear hok hlen hs1 hS1 hS hL hL2 hR hat hs0 hb h
    (repeat (first | refine gq_LNB ?_ | (refine ga0A ?_; intro _hq)))
    exact ⟨(k + 1, (x2, v2, B2), o ++ [a]), hinv, ⟨by rfl, zHE, zHE⟩, (by first | omega | (dsimp only; omega))⟩
  · have hd : decide ((k : Int) < (ls.length : Int)) = false := decide_eq_false (by omega)
    obtain rfl : k = ls.length := by omega
    rw [hR] at hS
    obtain ⟨h1, h2⟩ := Prod.mk.inj hS
    obtain ⟨rfl, h3⟩ := Prod.mk.inj h1
    obtain ⟨rfl, rfl⟩ := Prod.mk.inj h3
    subst h2
    have hn' := bok_nums n l' f w' A' hb
    have hC := k_copyO n l' f w' A' (by omega)
    clear hok hlen hs1 hS hR hat hs0 hb h h1 h3
    (repeat (first | refine gq_LNB ?_ | (refine ga0A ?_; intro _hq)))
    (refine rtA ?_; try rfl)
set_option maxHeartbeats 4000000 in
theorem kn_syS {n : Int} {l l' : List Gt} {f w w' : Int} {A A' : Nat} {ls ans : List (List UInt8)} (h : bok n l f w A = true) (hdl : ls.length ≤ 40) (hls : ∀ x ∈ ls, x.length ≤ 7000000) (hR : sayN n f (l, w, A) ls ls.length = ((l', w', A'), ans)) : Kon Tryz.prog 18 [bG n l f w (A : Int), roA ls] [] (syS n l' f w' (A' : Int) ans) [] [] := by
  have hnum := bok_nums n l f w A h
  have hB := k_bvS n l f w A (by omega) (by omega)
  rw [h] at hB
  have hd40 : decide ((ls.length : Int) > 40) = false := decide_eq_false (by omega)
  have hok := sayN_ok (x := (l, w, A)) h ls
  have hlen := sayN_len n f (l, w, A) ls
  have hat : ∀ k, k < ls.length → (ls.getD k Cel.no).length ≤ 7000000 := fun k hk => by
    have e : ls.getD k Cel.no = ls[k] := by simp [List.getD_eq_getElem?_getD, hk]
    rw [e]; exact hls _ (List.getElem_mem hk)
  have hs0 : sayN n f (l, w, A) ls 0 = ((l, w, A), []) := rfl
  have hs1 : ∀ k, sayN n f (l, w, A) ls (k + 1) = ((lnF n f (sayN n f (l, w, A) ls k).1.1 (sayN n f (l, w, A) ls k).1.2.1 (sayN n f (l, w, A) ls k).1.2.2 (ls.getD k Cel.no)).1, (sayN n f (l, w, A) ls k).2 ++ [(lnF n f (sayN n f (l, w, A) ls k).1.1 (sayN n f (l, w, A) ls k).1.2.1 (sayN n f (l, w, A) ls k).1.2.2 (ls.getD k Cel.no)).2]) := fun k => rfl
  generalize sayN n f (l, w, A) ls = S at *
  clear hls
  (refine kM Tryz.func18 rfl ?_; intro hfit hfe)
  (repeat refine gcA ?_)
  (repeat (first | refine gs_LNB ?_ | (refine ga0A ?_; intro _hq)))
  (repeat refine gcA ?_)
  (repeat (first | refine gs_LNB ?_ | (refine ga0A ?_; intro _hq)))
  (repeat refine gcA ?_)
  (repeat (first | refine gs_LNB ?_ | (refine ga0A ?_; intro _hq)))
  (repeat refine gcA ?_)
  (repeat (first | refine gs_LNB ?_ | (refine ga0A ?_; intro _hq)))
  (refine aw_freeze 368 (by rfl) (by rfl) ?_; refine aw_box 112 1 (by rfl) (by rfl) (by first | exact trivial | ((repeat' (first | exact rfl | exact cV_len _ | exact cV_ln rfl (by omega) | exact Cel.pos | omega | exact trivial | refine And.intro ?_ ?_)); first | done | fail)) (by rfl) ?_)
  (repeat (first | refine gq_LNB ?_ | (refine ga0A ?_; intro _hq)))
  (refine aw_rd [1, 4] [64] (fun g : Nat × BS × List (List UInt8) => [(6, .g (.one (.sl 176 g.1 g.2.2.length))), (7, .g (.one (.ptr 112 0 0))), (8, vI g.1)]) (fun g => [(112, (0, .box (bCr n g.2.1.1 f g.2.1.2.1 (g.2.1.2.2 : Int)))), (176, (g.1, tRow g.2.2))]) (fun g => g.1 ≤ ls.length ∧ S g.1 = g.2) (fun g => ls.length - g.1) (0, (l, w, A), []) (by rfl) (by rfl) ?_ (by rfl) zHE zHE ?_)
  · exact ⟨Nat.zero_le _, hs0⟩
  rintro ⟨k, ⟨x, v, B⟩, o⟩ ⟨hk, hS⟩
  dsimp only at hk hS ⊢
  have hb := hok k
  have hol := hlen k
  rw [hS] at hb hol
  dsimp only at hb hol
  rcases Nat.lt_or_ge k ls.length with h5 | h5
  · have hd : decide ((k : Int) < (ls.length : Int)) = true := decide_eq_true (by omega)
    have hS1 := hs1 k
    rw [hS] at hS1
    dsimp only at hS1
    rcases hL : lnF n f x v B (ls.getD (k : Int).toNat Cel.no) with ⟨⟨x2, v2, B2⟩, a⟩
    have hL2 : lnF n f x v B (ls.getD k Cel.no) = ((x2, v2, B2), a) := hL
    rw [hL2] at hS1
    have hK := kn_lineS hb (hat k h5) hL
    have hinv : k + 1 ≤ ls.length ∧ S (k + 1) = ((x2, v2, B2), o ++ [a]) := ⟨h5, hS1⟩
    clear hok hlen hs1 hS1 hS hL hL2 hR hat hs0 hb h
    (repeat (first | refine gq_LNB ?_ | (refine ga0A ?_; intro _hq)))
    (refine aw_draw mixed T0ok cfU_ok [(144, [9, 10])] (by rfl) (by kernel_rfl) ?_)
    (repeat (first | refine gq_LNB ?_ | (refine ga0A ?_; intro _hq)))
    exact ⟨(k + 1, (x2, v2, B2), o ++ [a]), hinv, ⟨by rfl, zHE, zHE⟩, (by first | omega | (dsimp only; omega))⟩
  · have hd : decide ((k : Int) < (ls.length : Int)) = false := decide_eq_false (by omega)
    obtain rfl : k = ls.length := by omega
    rw [hR] at hS
    obtain ⟨h1, h2⟩ := Prod.mk.inj hS
    obtain ⟨rfl, h3⟩ := Prod.mk.inj h1
    obtain ⟨rfl, rfl⟩ := Prod.mk.inj h3
    subst h2
    clear hok hlen hs1 hS hR hat hs0 hb h h1 h3
    (repeat refine gcA ?_)
    (repeat (first | refine gs_LNB ?_ | (refine ga0A ?_; intro _hq)))
    (refine aw_freeze 176 (by rfl) (by rfl) ?_; refine aw_slot 6 1 (by rfl) (by rfl) (by first | exact trivial | omega | exact cvB (fun w => rfl) | ((repeat (any_goals (first | exact rfl | exact cV_len _ | exact cV_ln rfl (by omega) | exact Cel.pos | omega | exact trivial | refine And.intro ?_ ?_))); first | done | fail) | (simp [*]; first | done | fail)) ?_)
    (repeat (first | refine gq_LNB ?_ | (refine ga0A ?_; intro _hq)))
    (refine rtA ?_; try rfl)
end Go.Proofs.YtnenhckongccgaaGreatDoor
