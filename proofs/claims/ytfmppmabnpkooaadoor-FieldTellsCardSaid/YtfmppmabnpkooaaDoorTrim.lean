/- Trimming and small letters in plain words. -/
import Derived.Test.YtfmppmabnpkooaaDoorName
import Derived.Test.YtfmppmabnpkooaaDoorGivenF
set_option linter.unusedSimpArgs false
set_option linter.unusedVariables false
namespace Go.Proofs.YtfmppmabnpkooaaDoor
open Go Go.RowKit

def isg (x : UInt8) : Bool := [32, 9].contains x
theorem trimL_eq (l : List UInt8) : trimL l = ((l.reverse.dropWhile isg).reverse).dropWhile isg := rfl

theorem drop_all (p : UInt8 → Bool) : ∀ (g x : List UInt8), (∀ y ∈ g, p y = true) → (g ++ x).dropWhile p = x.dropWhile p
  | [], _, _ => rfl
  | y :: g, x, h => by
    rw [List.cons_append, List.dropWhile_cons, if_pos (h y (by simp))]
    exact drop_all p g x (fun z hz => h z (by simp [hz]))
theorem drop_none (p : UInt8 → Bool) (x : UInt8) (l : List UInt8) (h : p x = false) : (x :: l).dropWhile p = x :: l := by
  rw [List.dropWhile_cons, if_neg (by simp [h])]
theorem drop_head (p : UInt8 → Bool) : ∀ l : List UInt8, l.dropWhile p = [] ∨ ∃ x r, l.dropWhile p = x :: r ∧ p x = false
  | [] => .inl rfl
  | x :: l => by
    rw [List.dropWhile_cons]
    by_cases h : p x = true
    · rw [if_pos h]; exact drop_head p l
    · rw [if_neg h]; exact .inr ⟨x, l, rfl, by simpa using h⟩

/-- What is left is nothing, or has no blank at either end. -/
theorem trim_cases (l : List UInt8) : trimL l = [] ∨ (∃ x r, trimL l = x :: r ∧ isg x = false) ∧ (∃ y q, trimL l = q ++ [y] ∧ isg y = false) := by
  rw [trimL_eq]
  rcases drop_head isg l.reverse with h | ⟨y, q, h, hy⟩
  · rw [h]; exact .inl rfl
  · rw [h]
    rcases drop_head isg (y :: q).reverse with h2 | ⟨x, r, h2, hx⟩
    · exact .inl h2
    · refine .inr ⟨⟨x, r, h2, hx⟩, ?_⟩
      obtain ⟨pre, hpre⟩ := List.dropWhile_suffix isg (l := (y :: q).reverse)
      rw [List.reverse_cons] at hpre h2 ⊢
      generalize hm : (q.reverse ++ [y]).dropWhile isg = m at hpre h2 ⊢
      subst h2
      have hl : (x :: r).getLast? = some y := by
        have := congrArg List.getLast? hpre
        rw [List.getLast?_append, List.getLast?_append] at this
        cases hr : (x :: r).getLast? with
        | none => simp at hr
        | some z => rw [hr] at this; simpa using this
      obtain ⟨q', hq'⟩ := List.getLast?_eq_some_iff.1 hl
      exact ⟨y, q', hq', hy⟩

theorem trim_twice (l : List UInt8) : trimL (trimL l) = trimL l := by
  rcases trim_cases l with h | ⟨⟨x, r, h1, hx⟩, ⟨y, q, h2, hy⟩⟩
  · rw [h]; rfl
  · have e : trimL (q ++ [y]) = q ++ [y] := by
      rw [trimL_eq, List.reverse_append, List.reverse_singleton, List.singleton_append, drop_none isg y _ hy, List.reverse_cons, List.reverse_reverse, show q ++ [y] = x :: r from h2.symm.trans h1, drop_none isg x r hx]
    rw [h2, e]

theorem trim_gaps (g l : List UInt8) (hg : ∀ y ∈ g, isg y = true) : trimL (g ++ l ++ g) = trimL l := by
  have hg' : ∀ y ∈ g.reverse, isg y = true := fun y hy => hg y (List.mem_reverse.1 hy)
  rw [trimL_eq, trimL_eq, List.reverse_append, List.reverse_append, drop_all isg g.reverse _ hg', List.dropWhile_append]
  cases h : l.reverse.dropWhile isg with
  | nil =>
    simp only [List.isEmpty_nil, if_true]
    have : g.reverse.dropWhile isg = [] := by
      have := drop_all isg g.reverse [] hg'
      rwa [List.append_nil] at this
    rw [this]
  | cons x r =>
    simp only [List.isEmpty_cons, Bool.false_eq_true, if_false]
    rw [List.reverse_append, List.reverse_reverse, drop_all isg g _ hg]

theorem lowB_twice (x : UInt8) : lowB (lowB x) = lowB x := by
  have h : ∀ n < 256, lowB (lowB (UInt8.ofNat n)) = lowB (UInt8.ofNat n) := by decide +kernel
  have := h x.toNat x.toNat_lt
  rwa [UInt8.ofNat_toNat] at this
theorem lowL_twice (l : List UInt8) : lowL (lowL l) = lowL l := by
  unfold lowL
  rw [List.map_map]
  exact List.map_congr_left fun x _ => lowB_twice x
theorem tokB_low (x : UInt8) : tokB (lowB x) = tokB x := by
  have h : ∀ n < 256, tokB (lowB (UInt8.ofNat n)) = tokB (UInt8.ofNat n) := by decide +kernel
  have := h x.toNat x.toNat_lt
  rwa [UInt8.ofNat_toNat] at this
theorem nameL_low (l : List UInt8) : nameL (lowL l) = nameL l := by
  unfold nameL lowL
  rw [List.all_map, List.length_map]
  congr 1
  exact List.all_congr rfl (fun x => tokB_low x)
end Go.Proofs.YtfmppmabnpkooaaDoor
