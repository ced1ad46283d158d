/- Plain laws on hosts, their labels and sites: no program in sight. -/
import Derived.Test.YtmelefiodhnlpaaDoorDomain
set_option linter.unusedSimpArgs false
set_option linter.unusedVariables false
namespace Go.Proofs.YtmelefiodhnlpaaDoor
open Go

theorem splitL_append (c : UInt8) : ∀ a b : List UInt8, splitL c (a ++ c :: b) = splitL c a ++ splitL c b
  | [], b => by simp [splitL]
  | x :: a, b => by
    have ih := splitL_append c a b
    rw [List.cons_append, splitL, splitL]
    by_cases h : x = c
    · rw [if_pos h, if_pos h, ih]; rfl
    · rw [if_neg h, if_neg h, ih]
      cases e : splitL c a with
      | nil => exact absurd e (splitL_ne_nil c a)
      | cons p ps => rfl

theorem join_cons2 (c : UInt8) (x : List UInt8) (y : List UInt8) (r : List (List UInt8)) : Lib.join (x :: y :: r) [c] = x ++ c :: Lib.join (y :: r) [c] := by
  rw [Lib.join_cons, Lib.join_cons]; simp [Lib.joinTail]

theorem join_splitL (c : UInt8) : ∀ l : List UInt8, Lib.join (splitL c l) [c] = l
  | [] => by simp [splitL, Lib.join_one]
  | x :: xs => by
    have ih := join_splitL c xs
    rw [splitL]
    cases e : splitL c xs with
    | nil => exact absurd e (splitL_ne_nil c xs)
    | cons p ps =>
      rw [e] at ih
      by_cases h : x = c
      · rw [if_pos h, join_cons2, ih, h]; rfl
      · rw [if_neg h]
        show Lib.join ((x :: p) :: ps) [c] = _
        cases ps with
        | nil => rw [Lib.join_one] at ih ⊢; rw [ih]
        | cons q qs => rw [join_cons2] at ih ⊢; rw [← ih]; rfl

theorem splitL_join (c : UInt8) : ∀ ps : List (List UInt8), ps ≠ [] → (∀ p ∈ ps, ∀ x ∈ p, x ≠ c) → splitL c (Lib.join ps [c]) = ps
  | [], h, _ => absurd rfl h
  | [p], _, h => by rw [Lib.join_one]; exact splitL_none c p (h p (by simp))
  | p :: q :: r, _, h => by
    rw [join_cons2, splitL_cut c p _ (h p (by simp)), splitL_join c (q :: r) (by simp) (fun y hy => h y (by simp [hy]))]

theorem join_append (c : UInt8) : ∀ (ps qs : List (List UInt8)), ps ≠ [] → qs ≠ [] → Lib.join (ps ++ qs) [c] = Lib.join ps [c] ++ c :: Lib.join qs [c]
  | [], _, h, _ => absurd rfl h
  | [p], qs, _, hq => by
    cases qs with
    | nil => exact absurd rfl hq
    | cons q r => rw [List.singleton_append, join_cons2, Lib.join_one]
  | p :: q :: r, qs, _, hq => by
    have ih := join_append c (q :: r) qs (by simp) hq
    rw [List.cons_append, List.cons_append, join_cons2, ← List.cons_append, ih, join_cons2]
    simp

theorem labelL_dot {l : List UInt8} (h : labelL l = true) : ∀ x ∈ l, x ≠ 46 := by
  unfold labelL at h
  simp only [Bool.and_eq_true] at h
  intro x hx e
  have := List.all_eq_true.1 h.1.1.1.1 x hx
  subst e
  exact absurd this (by decide)

theorem labelL_ne {l : List UInt8} (h : labelL l = true) : l ≠ [] := by
  rintro rfl; exact absurd h (by decide)

theorem hostL_iff (l : List UInt8) : hostL l = true ↔ (∀ p ∈ splitL 46 l, labelL p = true) ∧ l.length ≤ 60 := by
  unfold hostL
  simp [List.all_eq_true]

theorem labelsL_host {l : List UInt8} (h : hostL l = true) : labelsL l = splitL 46 l := by
  unfold labelsL; rw [if_pos h]

theorem underL_iff (a b : List UInt8) : underL a b = true ↔ hostL a = true ∧ hostL b = true ∧ (a = b ∨ (46 :: b) <:+ a) := by
  unfold underL
  simp [List.isSuffixOf_iff_suffix]

theorem underL_refl {a : List UInt8} (h : hostL a = true) : underL a a = true := (underL_iff a a).2 ⟨h, h, .inl rfl⟩

theorem underL_trans {a b c : List UInt8} (h : underL a b = true) (k : underL b c = true) : underL a c = true := by
  rw [underL_iff] at *
  obtain ⟨h1, h2, h3⟩ := h
  obtain ⟨k1, k2, k3⟩ := k
  refine ⟨h1, k2, ?_⟩
  rcases h3 with rfl | h3
  · exact k3
  · rcases k3 with rfl | k3
    · exact .inr h3
    · exact .inr (k3.trans ((List.suffix_cons 46 b).trans h3))

theorem underL_anti {a b : List UInt8} (h : underL a b = true) (k : underL b a = true) : a = b := by
  rw [underL_iff] at *
  rcases h.2.2 with e | e
  · exact e
  · rcases k.2.2 with f | f
    · exact f.symm
    · have := e.length_le
      have := f.length_le
      simp at *
      omega

/-- A site's labels, and that the whole is under it. -/
theorem site_facts {a : List UInt8} (h : hostL a = true) :
    hostL (siteL a) = true ∧ splitL 46 (siteL a) = (splitL 46 a).drop ((splitL 46 a).length - 2) ∧ underL a (siteL a) = true := by
  obtain ⟨h1, h2⟩ := (hostL_iff a).1 h
  have hne := splitL_ne_nil 46 a
  obtain ⟨ls, hls⟩ : ∃ ls, splitL 46 a = ls := ⟨_, rfl⟩
  have hj := join_splitL 46 a
  have hs : siteL a = Lib.join (ls.drop (ls.length - 2)) [46] := by unfold siteL; rw [labelsL_host h, hls]
  rw [hls] at hne h1 hj ⊢
  have hlen : 0 < ls.length := List.length_pos_iff.2 hne
  have hd : ls.drop (ls.length - 2) ≠ [] := by
    intro e; have := congrArg List.length e; simp at this; omega
  have hsp : splitL 46 (siteL a) = ls.drop (ls.length - 2) := by
    rw [hs]; exact splitL_join 46 _ hd (fun p hp => labelL_dot (h1 p (List.mem_of_mem_drop hp)))
  have hsuf : a = siteL a ∨ (46 :: siteL a) <:+ a := by
    by_cases ht : ls.take (ls.length - 2) = []
    · left
      have : ls.drop (ls.length - 2) = ls := by
        have := List.take_append_drop (ls.length - 2) ls
        rw [ht] at this; exact this
      rw [hs, this, hj]
    · right
      have e := join_append 46 _ _ ht hd
      rw [List.take_append_drop, hj] at e
      rw [hs]
      exact ⟨Lib.join (ls.take (ls.length - 2)) [46], e.symm⟩
  have hle : (siteL a).length ≤ 60 := by
    rcases hsuf with e | e
    · rw [← e]; exact h2
    · have := e.length_le; simp at this; omega
  have hh : hostL (siteL a) = true := (hostL_iff _).2 ⟨fun p hp => by rw [hsp] at hp; exact h1 p (List.mem_of_mem_drop hp), hle⟩
  exact ⟨hh, hsp, (underL_iff _ _).2 ⟨h, hh, hsuf⟩⟩

theorem site_eq {a : List UInt8} (h : hostL a = true) : siteL a = Lib.join ((splitL 46 a).drop ((splitL 46 a).length - 2)) [46] := by
  unfold siteL; rw [labelsL_host h]

theorem site_site {a : List UInt8} (h : hostL a = true) : siteL (siteL a) = siteL a := by
  obtain ⟨h1, h2, _⟩ := site_facts h
  have : ∀ l : List (List UInt8), (l.drop (l.length - 2)).drop ((l.drop (l.length - 2)).length - 2) = l.drop (l.length - 2) := fun l => by
    rw [List.drop_drop]; congr 1; simp; omega
  rw [site_eq h1, h2, this, ← site_eq h]

theorem site_under {a b : List UInt8} (h : underL a b = true) (h2 : 2 ≤ (splitL 46 b).length) : siteL a = siteL b := by
  obtain ⟨ha, hb, hs⟩ := (underL_iff _ _).1 h
  rcases hs with rfl | ⟨p, hp⟩
  · rfl
  · unfold siteL
    rw [labelsL_host ha, labelsL_host hb, ← hp, splitL_append]
    congr 1
    rw [List.length_append, show (splitL 46 p).length + (splitL 46 b).length - 2 = (splitL 46 p).length + ((splitL 46 b).length - 2) by omega, List.drop_append]
    simp
end Go.Proofs.YtmelefiodhnlpaaDoor
