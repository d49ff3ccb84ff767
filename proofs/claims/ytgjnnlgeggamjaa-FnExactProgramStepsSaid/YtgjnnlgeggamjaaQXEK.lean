/- PPE: laid into one text. -/
import Derived.Test.YtgjnnlgeggamjaaQXEG

namespace Go.Proofs.Ytgjnnlgeggamjaa
set_option linter.unusedVariables false
set_option linter.unusedSimpArgs false
def itV (f : List Int → List Int × Bool) : Nat → List Int → List Int × Bool
  | 0, r => (r, true)
  | n + 1, r => if (f r).2 = true then itV f n (f r).1 else f r
def rv : PS → List Int → List Int × Bool
  | .nil, r => (r, true)
  | .one l t, r => rv t (do1 l r)
  | .rep l e p t, r => if (itV (rv p) l.c.toNat r).2 = true then rv t (itV (rv p) l.c.toNat r).1 else itV (rv p) l.c.toNat r
  | .iff l m e p q t, r =>
    if (if (rg r l.a == l.c) = true then rv p r else rv q r).2 = true ∧ ((rg (if (rg r l.a == l.c) = true then rv p r else rv q r).1 e.a == e.c) == (rg r l.a == l.c)) = false then rv t (if (rg r l.a == l.c) = true then rv p r else rv q r).1
    else ((if (rg r l.a == l.c) = true then rv p r else rv q r).1, false)
def Rv (f : RS → Option RS) (g : List Int → List Int × Bool) : Prop := ∀ r n, match f (r, n) with | none => (g r).2 = false | some y => g r = (y.1, true)
theorem rv_it {f : RS → Option RS} {g : List Int → List Int × Bool} (h : Rv f g) : ∀ N, Rv (itO f N) (itV g N)
  | 0 => fun r n => rfl
  | N + 1 => fun r n => by
    have h1 := h r n
    rw [itO, itV]
    cases hf : f (r, n) with
    | none => rw [hf] at h1; dsimp only at h1; rw [Option.bind_none, if_neg (by rw [h1]; decide)]; exact h1
    | some y => rw [hf] at h1; dsimp only at h1; rw [Option.bind_some, h1, if_pos rfl]; exact rv_it h N y.1 y.2
theorem rv_rs : ∀ t : PS, Rv (rs t) (rv t)
  | .nil => fun r n => rfl
  | .one l t => fun r n => rv_rs t (do1 l r) (n + 1)
  | .rep l e p t => fun r n => by
    have h1 := rv_it (rv_rs p) l.c.toNat r n
    rw [rs, rv]
    cases hf : itO (rs p) l.c.toNat (r, n) with
    | none => rw [hf] at h1; dsimp only at h1; rw [Option.bind_none, if_neg (by rw [h1]; decide)]; exact h1
    | some y => rw [hf] at h1; dsimp only at h1; rw [Option.bind_some, h1, if_pos rfl]; exact rv_rs t y.1 y.2
  | .iff l m e p q t => fun r n => by
    rw [rs, rv]
    have h1 : match (if (rg r l.a == l.c) = true then rs p (r, n) else rs q (r, n)) with | none => (if (rg r l.a == l.c) = true then rv p r else rv q r).2 = false | some y => (if (rg r l.a == l.c) = true then rv p r else rv q r) = (y.1, true) := by
      cases (rg r l.a == l.c) with
      | true => exact rv_rs p r n
      | false => exact rv_rs q r n
    generalize hF : (if (rg r l.a == l.c) = true then rs p (r, n) else rs q (r, n)) = F at h1 ⊢
    generalize hG : (if (rg r l.a == l.c) = true then rv p r else rv q r) = G at h1 ⊢
    cases F with
    | none => dsimp only at h1; rw [if_neg (by rw [h1]; simp)]; rfl
    | some y =>
      dsimp only at h1
      subst h1
      rw [Option.bind_some]
      cases hb : ((rg y.1 e.a == e.c) == (rg r l.a == l.c)) with
      | true => rw [if_pos rfl, if_neg (by simp)]
      | false => rw [if_neg (by simp), if_pos ⟨rfl, rfl⟩]; exact rv_rs t y.1 y.2
theorem cls_at (pre : List Gt) (l e : Gt) (p : PS) (r : List Gt) (h : wf p) (he : e.k = 5 ∨ e.k = 7 ∨ e.k = 8) : cls (pre ++ (l :: (fl p ++ e :: r))) pre.length = pre.length + 1 + (fl p).length := by
  unfold cls
  have hd : (pre ++ (l :: (fl p ++ e :: r))).drop (pre.length + 1) = fl p ++ e :: r := by
    rw [show pre ++ (l :: (fl p ++ e :: r)) = (pre ++ [l]) ++ (fl p ++ e :: r) by simp]
    exact List.drop_left' (by simp)
  rw [hd, clo_fl _ _ _ h]
  have : clo (e :: r) 0 = 0 := by
    rw [clo, if_neg (by omega)]
    rcases he with he | he | he
    · rw [if_pos (.inl he), if_pos rfl]
    · rw [if_neg (by omega), if_pos he, if_pos rfl]
    · rw [if_pos (.inr he), if_pos rfl]
  rw [this]
  omega
end Go.Proofs.Ytgjnnlgeggamjaa
