/- DomainPairs, the plain law: what is under something that is under a third one is under that; of two that are under one another both are the same; what is under one of two labels has its site. -/
import Derived.Test.YtmelefiodhnlpaaDoorBCx1
import Derived.Test.YtmelefiodhnlpaaDoorPlain
import Derived.Test.YtmelefiodhnlpaaDoorLow
set_option linter.unusedSimpArgs false
set_option linter.unusedVariables false
namespace Go.Proofs.YtmelefiodhnlpaaDoor.Pure
open Go Go.RowKit Go.Proofs.YtmelefiodhnlpaaDoor Go.Proofs.YtmelefiodhnlpaaDoor.BC Go.Proofs.YtmelefiodhnlpaaDoorW.PrintMore Go.Proofs.YtmelefiodhnlpaaDoorW.PrintWords Go.Proofs.YtmelefiodhnlpaaDoorW.PrintLast

def labs : List ByteArray := [⟨#[97]⟩, ⟨#[98]⟩, ⟨#[97, 98]⟩, ⟨#[99]⟩]

theorem host_step (x : ByteArray) (hx : x ∈ labs) (s : ByteArray) (h : hostL s.data.toList = true) (hs : s.size ≤ 50) :
    hostL ((x ++ (⟨#[46]⟩ : ByteArray)) ++ s).data.toList = true ∧ ((x ++ (⟨#[46]⟩ : ByteArray)) ++ s).size ≤ s.size + 3 := by
  have hlab : labelL x.data.toList = true ∧ x.size ≤ 2 := by
    simp [labs] at hx
    rcases hx with rfl | rfl | rfl | rfl <;> decide
  have e : ((x ++ (⟨#[46]⟩ : ByteArray)) ++ s).data.toList = x.data.toList ++ 46 :: s.data.toList := by
    simp [ByteArray.data_append]
  have esz : ((x ++ (⟨#[46]⟩ : ByteArray)) ++ s).size = x.size + 1 + s.size := by
    rw [ByteArray.size_append, ByteArray.size_append]; rfl
  refine ⟨?_, by omega⟩
  rw [e, hostL_iff] at *
  rw [splitL_cut 46 _ _ (labelL_dot hlab.1)]
  refine ⟨fun p hp => ?_, ?_⟩
  · rcases List.mem_cons.1 hp with rfl | hp
    · exact hlab.1
    · exact h.1 p hp
  · have h1 := Lib.size_eq x
    have h2 := Lib.size_eq s
    simp only [List.length_append, List.length_cons]
    omega

theorem bits3 (x : Int) : 0 ≤ Go.bits .and .i64 x 3 ∧ Go.bits .and .i64 x 3 < 4 := by
  have h : Go.bits .and .i64 x 3 = x % 4 := bits_low x 2 (by decide)
  omega

theorem host_loop (n : Int) (m : Nat) (hm : (Int.tmod (wrap64 (Int.tdiv n 2)) 4) = m) (hm4 : m < 4) (d : Nat) : ∀ (k i : Nat) (s : ByteArray), i + d = m → d < k → hostL s.data.toList = true → s.size ≤ 50 - 3 * d →
    ∃ r, BB.moatlaw2_host.l0 k n s (i : Int) = some r ∧ hostL r.data.toList = true ∧ r.size ≤ s.size + 3 * d := by
  induction d with
  | zero =>
    intro k i s h1 hk hh hs
    obtain ⟨k, rfl⟩ : ∃ m, k = m + 1 := ⟨k - 1, by omega⟩
    refine ⟨s, ?_, hh, by omega⟩
    simp only [BB.moatlaw2_host.l0]
    rw [hm, if_neg (by omega)]
  | succ d ih =>
    intro k i s h1 hk hh hs
    obtain ⟨k, rfl⟩ : ∃ m, k = m + 1 := ⟨k - 1, by omega⟩
    have hw : wrap64 (2 * (i : Int)) = 2 * (i : Int) := by unfold wrap64; omega
    have hw2 : wrap64 ((i : Int) + 1) = ((i + 1 : Nat) : Int) := by unfold wrap64; omega
    simp only [BB.moatlaw2_host.l0]
    rw [hm, if_pos (by omega), hw]
    generalize shr .i64 (wrap64 (Int.tdiv n 8)) (2 * (i : Int)) = y
    obtain ⟨b1, b2⟩ := bits3 y
    simp only [Option.bind_some]
    obtain ⟨j, hj⟩ : ∃ j : Nat, Go.bits .and .i64 y 3 = j := ⟨(Go.bits .and .i64 y 3).toNat, by omega⟩
    rw [hj] at b2 ⊢
    have hmem : rdOf ByteArray.empty labs (j : Int) ∈ labs := by
      have : j = 0 ∨ j = 1 ∨ j = 2 ∨ j = 3 := by omega
      rcases this with rfl | rfl | rfl | rfl <;> simp [rdOf, labs]
    obtain ⟨g1, g2⟩ := host_step _ hmem s hh (by omega)
    have hsz : (rdOf ByteArray.empty labs (j : Int)).size ≤ 2 := by
      have := hmem; simp only [labs, List.mem_cons, List.mem_nil_iff, or_false] at this
      rcases this with e | e | e | e <;> rw [show rdOf ByteArray.empty labs (j : Int) = _ from e] <;> decide
    rw [if_pos (by omega), if_pos (by omega), show ([(⟨#[97]⟩ : ByteArray), ⟨#[98]⟩, ⟨#[97, 98]⟩, ⟨#[99]⟩]) = labs from rfl, if_pos (by show (j : Int) < 4; omega)]
    generalize rdOf ByteArray.empty labs (j : Int) = x at hsz g1 g2 ⊢
    rw [if_pos (by omega), if_pos (by rw [ByteArray.size_append]; show _ + 1 + _ ≤ _; omega), hw2]
    obtain ⟨r, hr, h2, h3⟩ := ih k (i + 1) _ (by omega) (by omega) g1 (by omega)
    exact ⟨r, hr, h2, by omega⟩

theorem host_ok (a : Int) : ∃ s, BB.moatlaw2_host.f 30 a = some s ∧ hostL s.data.toList = true ∧ s.size ≤ 50 := by
  have hl := lowN_lt a 4096 (by decide)
  unfold BB.moatlaw2_host.f
  rw [Low_f a 4096 (by decide) (by decide)]
  simp only [Option.bind_some]
  generalize lowN a 4096 = n at hl
  have h2 : Int.tmod (n : Int) 2 = ((n % 2 : Nat) : Int) := by rw [Int.tmod_eq_emod_of_nonneg (by omega)]; omega
  have hm : Int.tmod (wrap64 (Int.tdiv (n : Int) 2)) 4 = ((n / 2 % 4 : Nat) : Int) := by
    rw [Int.tdiv_eq_ediv_of_nonneg (by omega)]
    rw [show wrap64 ((n : Int) / 2) = ((n / 2 : Nat) : Int) by unfold wrap64; omega]
    rw [Int.tmod_eq_emod_of_nonneg (by omega)]; omega
  rw [h2, if_pos (by omega), if_pos (by show ((n % 2 : Nat) : Int) < 2; omega)]
  have hs : hostL (rdOf ByteArray.empty [(⟨#[99]⟩ : ByteArray), (⟨#[100]⟩ : ByteArray)] ((n % 2 : Nat) : Int)).data.toList = true ∧ (rdOf ByteArray.empty [(⟨#[99]⟩ : ByteArray), (⟨#[100]⟩ : ByteArray)] ((n % 2 : Nat) : Int)).size = 1 := by
    have : n % 2 = 0 ∨ n % 2 = 1 := by omega
    rcases this with e | e <;> rw [e] <;> exact ⟨by decide, rfl⟩
  obtain ⟨r, hr, h3, h4⟩ := host_loop n (n / 2 % 4) hm (by omega) (n / 2 % 4) 30 0 _ (by omega) (by omega) hs.1 (by omega)
  exact ⟨r, hr, h3, by omega⟩

theorem DomainPairs : moatlaw2_DomainPairs.Pure := by
  intro a b c _ _ _
  refine ⟨30, ?_⟩
  obtain ⟨x, hx, hxh, hxs⟩ := host_ok a
  obtain ⟨y, hy, hyh, hys⟩ := host_ok b
  obtain ⟨z, hz, hzh, hzs⟩ := host_ok c
  unfold moatlaw2_DomainPairs.f
  rw [hx, hy, hz]
  simp only [Option.bind_some]
  have hj1 : ∀ k, moatlaw2_DomainPairs.j1 (k + 1) x false = some true := by
    intro k
    obtain ⟨f1, f2, f3⟩ := site_facts hxh
    have hsl := site_len x.data.toList
    have hxz := Lib.size_eq x
    simp only [moatlaw2_DomainPairs.j1]
    rw [if_neg (by simp), Under_f x x (by omega) (by omega), underL_refl hxh]
    simp only [Option.bind_some, if_true]
    have hts : (⟨(siteL x.data.toList).toArray⟩ : ByteArray).size = (siteL x.data.toList).length := by rw [Lib.size_eq]
    rw [Site_f x (by omega)]
    simp only [Option.bind_some]
    rw [Under_f x _ (by omega) (by omega)]
    simp only [Option.bind_some]
    rw [f3]
    simp only [if_true]
    rw [Site_f _ (by omega)]
    simp only [Option.bind_some, Go.ByteArray.toList_eq]
    rw [site_site hxh, if_pos rfl]
    rfl
  have hj0 : ∀ k, moatlaw2_DomainPairs.j0 (k + 2) x y false = some true := by
    intro k
    simp only [moatlaw2_DomainPairs.j0]
    rw [if_neg (by simp), Under_f x y (by omega) (by omega)]
    simp only [Option.bind_some]
    cases hu : underL x.data.toList y.data.toList with
    | false => rw [if_neg (by simp)]; exact hj1 k
    | true =>
      rw [if_pos rfl, Labels_f y (by omega)]
      simp only [Option.bind_some]
      have hll := labels_list y
      generalize (if hostL y.data.toList = true then pieces 46 y else []) = ps at hll ⊢
      by_cases h2 : (ps.length : Int) ≥ 2
      · rw [if_pos h2, Site_f x (by omega), Site_f y (by omega)]
        simp only [Option.bind_some, Go.ByteArray.toList_eq]
        have hlen : ps.length = (splitL 46 y.data.toList).length := by
          have := congrArg List.length hll
          rw [List.length_map, labelsL_host hyh] at this
          exact this
        rw [site_under hu (by omega)]
        simp only [bne_self_eq_false]
        exact hj1 k
      · rw [if_neg h2]; exact hj1 k
  rw [Under_f x y (by omega) (by omega), Under_f y z (by omega) (by omega), Under_f x z (by omega) (by omega), Under_f y x (by omega) (by omega)]
  simp only [Option.bind_some, Go.ByteArray.toList_eq]
  cases h1 : underL x.data.toList y.data.toList with
  | false => exact hj0 28
  | true =>
    simp only [if_true]
    have hanti : underL y.data.toList x.data.toList = true → (x.data.toList != y.data.toList) = false := fun h => by
      rw [underL_anti h1 h]; simp
    cases h3 : underL y.data.toList z.data.toList with
    | false =>
      simp only [Bool.false_eq_true, if_false]
      cases h2 : underL y.data.toList x.data.toList with
      | false => exact hj0 28
      | true => rw [if_pos rfl, hanti h2]; exact hj0 28
    | true =>
      simp only [if_true]
      rw [underL_trans h1 h3]
      simp only [if_true]
      cases h2 : underL y.data.toList x.data.toList with
      | false => exact hj0 28
      | true => rw [if_pos rfl, hanti h2]; exact hj0 28
end Go.Proofs.YtmelefiodhnlpaaDoor.Pure
