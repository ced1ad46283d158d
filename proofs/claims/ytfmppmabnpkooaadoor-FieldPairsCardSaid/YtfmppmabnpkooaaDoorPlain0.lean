/- Cutting at a byte, and joining: plain laws. -/
import Derived.Test.YtfmppmabnpkooaaDoorCut
import Derived.Test.YtfmppmabnpkooaaDoorShelf
set_option linter.unusedSimpArgs false
set_option linter.unusedVariables false
namespace Go.Proofs.YtfmppmabnpkooaaDoor
open Go
theorem splitL_append (c : UInt8) : ∀ a b : List UInt8, splitL c (a ++ c :: b) = splitL c a ++ splitL c b
  | [], b => by simp [splitL]
  | x :: a, b => by
    have ih := splitL_append c a b
    rw [List.cons_append, splitL, splitL]
    by_cases h : x = c
    · rw [if_pos h, if_pos h, ih]; rfl
    · rw [if_neg h, if_neg h, ih]
      cases e : splitL c a with
      | nil => exact absurd e (splitL_ne_nil c a)
      | cons p ps => rfl

theorem join_cons2 (c : UInt8) (x : List UInt8) (y : List UInt8) (r : List (List UInt8)) : Lib.join (x :: y :: r) [c] = x ++ c :: Lib.join (y :: r) [c] := by
  rw [Lib.join_cons, Lib.join_cons]; simp [Lib.joinTail]

theorem join_splitL (c : UInt8) : ∀ l : List UInt8, Lib.join (splitL c l) [c] = l
  | [] => by simp [splitL, Lib.join_one]
  | x :: xs => by
    have ih := join_splitL c xs
    rw [splitL]
    cases e : splitL c xs with
    | nil => exact absurd e (splitL_ne_nil c xs)
    | cons p ps =>
      rw [e] at ih
      by_cases h : x = c
      · rw [if_pos h, join_cons2, ih, h]; rfl
      · rw [if_neg h]
        show Lib.join ((x :: p) :: ps) [c] = _
        cases ps with
        | nil => rw [Lib.join_one] at ih ⊢; rw [ih]
        | cons q qs => rw [join_cons2] at ih ⊢; rw [← ih]; rfl

theorem splitL_join (c : UInt8) : ∀ ps : List (List UInt8), ps ≠ [] → (∀ p ∈ ps, ∀ x ∈ p, x ≠ c) → splitL c (Lib.join ps [c]) = ps
  | [], h, _ => absurd rfl h
  | [p], _, h => by rw [Lib.join_one]; exact splitL_none c p (h p (by simp))
  | p :: q :: r, _, h => by
    rw [join_cons2, splitL_cut c p _ (h p (by simp)), splitL_join c (q :: r) (by simp) (fun y hy => h y (by simp [hy]))]

theorem join_append (c : UInt8) : ∀ (ps qs : List (List UInt8)), ps ≠ [] → qs ≠ [] → Lib.join (ps ++ qs) [c] = Lib.join ps [c] ++ c :: Lib.join qs [c]
  | [], _, h, _ => absurd rfl h
  | [p], qs, _, hq => by
    cases qs with
    | nil => exact absurd rfl hq
    | cons q r => rw [List.singleton_append, join_cons2, Lib.join_one]
  | p :: q :: r, qs, _, hq => by
    have ih := join_append c (q :: r) qs (by simp) hq
    rw [List.cons_append, List.cons_append, join_cons2, ← List.cons_append, ih, join_cons2]
    simp
end Go.Proofs.YtfmppmabnpkooaaDoor
