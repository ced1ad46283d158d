/- JarNears, the plain law: who is of the same scheme and site as what is called is near, the user always, the stranger never. -/
import Derived.Test.YtmelefiodhnlpaaDoorBCx3
import Derived.Test.YtmelefiodhnlpaaDoorDomain
import Derived.Test.YtmelefiodhnlpaaDoorLow
set_option linter.unusedSimpArgs false
set_option linter.unusedVariables false
namespace Go.Proofs.YtmelefiodhnlpaaDoor.Pure
open Go Go.RowKit Go.Proofs.YtmelefiodhnlpaaDoor Go.Proofs.YtmelefiodhnlpaaDoor.BC Go.Proofs.YtmelefiodhnlpaaDoorW.PrintMore Go.Proofs.YtmelefiodhnlpaaDoorW.PrintWords Go.Proofs.YtmelefiodhnlpaaDoorW.PrintLast

def hs5 : List ByteArray := [(⟨#[97, 46, 116, 101, 115, 116]⟩ : ByteArray), (⟨#[98, 46, 97, 46, 116, 101, 115, 116]⟩ : ByteArray), (⟨#[99, 46, 98, 46, 97, 46, 116, 101, 115, 116]⟩ : ByteArray), (⟨#[98, 46, 116, 101, 115, 116]⟩ : ByteArray), (⟨#[116, 101, 115, 116]⟩ : ByteArray)]
def sc2 : List ByteArray := [(⟨#[104, 116, 116, 112]⟩ : ByteArray), (⟨#[104, 116, 116, 112, 115]⟩ : ByteArray)]
def sitesOf : List Int := [0, 0, 0, 1, 2]

theorem one_pair : ∀ n < 10, ∀ m < 10, BB.domain_SameSite.f ⟨#[]⟩ (rdOf ByteArray.empty sc2 ((n / 5 : Nat) : Int)) (rdOf ByteArray.empty hs5 ((n % 5 : Nat) : Int)) 0 ⟨#[]⟩ (rdOf ByteArray.empty sc2 ((m / 5 : Nat) : Int)) (rdOf ByteArray.empty hs5 ((m % 5 : Nat) : Int)) 0
    = some (decide (n / 5 = m / 5) && (rd sitesOf ((n % 5 : Nat) : Int) == rd sitesOf ((m % 5 : Nat) : Int))) := by decide +kernel

theorem same_port (a b c d e f : ByteArray) (p q : Int) : BB.domain_SameSite.f a b c p d e f q = BB.domain_SameSite.f a b c 0 d e f 0 := rfl

/-- The origins that were laid: each as its number says. -/
def Laid (l0 : List Int) (x9 : List BB.S32) : Prop := ∀ j : Nat, j < x9.length → (BB.rd_T32 x9 j).f0 = ⟨#[]⟩ ∧ (BB.rd_T32 x9 j).f1 = rdOf ByteArray.empty sc2 ((lowN (rd l0 j) 10 / 5 : Nat) : Int) ∧ (BB.rd_T32 x9 j).f2 = rdOf ByteArray.empty hs5 ((lowN (rd l0 j) 10 % 5 : Nat) : Int)

theorem near_in (l0 : List Int) (x9 : List BB.S32) (hl : Laid l0 x9) (b t : Nat) (hb : b < x9.length) (ht : t < x9.length) :
    BB.jar_Near.f b t x9 = some (decide (lowN (rd l0 b) 10 / 5 = lowN (rd l0 t) 10 / 5) && (rd sitesOf ((lowN (rd l0 b) 10 % 5 : Nat) : Int) == rd sitesOf ((lowN (rd l0 t) 10 % 5 : Nat) : Int))) := by
  obtain ⟨b0, b1, b2⟩ := hl b hb
  obtain ⟨t0, t1, t2⟩ := hl t ht
  have n1 := lowN_lt (rd l0 b) 10 (by decide)
  have n2 := lowN_lt (rd l0 t) 10 (by decide)
  unfold BB.jar_Near.f
  rw [if_neg (by omega), if_pos (by omega), if_pos (by omega), if_pos (by omega), if_pos (by omega), if_pos (by omega), if_pos (by omega), b0, b1, b2, t0, t1, t2, same_port]
  rw [one_pair _ (by omega) _ (by omega)]
  rfl

theorem near_out (x9 : List BB.S32) (b t : Int) (h : ¬ (0 ≤ b ∧ b < x9.length ∧ 0 ≤ t ∧ t < x9.length)) : BB.jar_Near.f b t x9 = some (b == (-2)) := by
  unfold BB.jar_Near.f
  by_cases h1 : b = -2
  · rw [if_pos h1, h1]; rfl
  · rw [if_neg h1]
    have e : (b == (-2)) = false := by simpa using h1
    rw [e]
    by_cases h2 : b ≥ 0
    · rw [if_pos h2]
      by_cases h3 : b < x9.length
      · rw [if_pos h3]
        by_cases h4 : t ≥ 0
        · rw [if_pos h4, if_neg (by omega)]
        · rw [if_neg h4]
      · rw [if_neg h3]
    · rw [if_neg h2]

theorem j1_yes (k : Nat) (l0 : List Int) (x9 : List BB.S32) (hl : Laid l0 x9) (hn : x9.length = l0.length) (b t : Int) (hb : 0 ≤ b ∧ b < l0.length) (ht : 0 ≤ t ∧ t < l0.length) (z : Bool) :
    moatlaw8_JarNears.j1 (k + 1) l0 sitesOf x9 b t z true = some true := by
  obtain ⟨b, rfl⟩ := Int.eq_ofNat_of_zero_le hb.1
  obtain ⟨t, rfl⟩ := Int.eq_ofNat_of_zero_le ht.1
  have n1 := lowN_lt (rd l0 b) 10 (by decide)
  have n2 := lowN_lt (rd l0 t) 10 (by decide)
  have hnear := near_in l0 x9 hl b t (by omega) (by omega)
  have hd : ∀ n : Nat, n < 10 → wrap64 (Int.tdiv (n : Int) 5) = ((n / 5 : Nat) : Int) ∧ Int.tmod (n : Int) 5 = ((n % 5 : Nat) : Int) := by
    intro n h
    rw [Int.tdiv_eq_ediv_of_nonneg (by omega), Int.tmod_eq_emod_of_nonneg (by omega)]
    refine ⟨?_, by omega⟩
    unfold wrap64; omega
  simp only [moatlaw8_JarNears.j1, if_true]
  rw [if_pos hb.1, if_pos hb.2, Low_f _ _ (by decide) (by decide)]
  rw [Option.bind_some]
  rw [if_pos ht.1, if_pos ht.2, Low_f _ _ (by decide) (by decide)]
  rw [Option.bind_some]
  rw [(hd _ (by omega)).1, (hd _ (by omega)).1, (hd _ (by omega)).2, (hd _ (by omega)).2, hnear]
  by_cases h : (((lowN (rd l0 b) 10 / 5 : Nat) : Int) = ((lowN (rd l0 t) 10 / 5 : Nat) : Int))
  · rw [if_pos h, if_pos (by omega), if_pos (by show _ < (5 : Int); omega), if_pos (by omega), if_pos (by show _ < (5 : Int); omega)]
    rw [decide_eq_true (by omega)]
    simp only [Option.bind_some, Bool.true_and, beq_self_eq_true, if_true]
    rfl
  · rw [if_neg h, decide_eq_false (by omega)]
    rfl

theorem j1_no (k : Nat) (l0 : List Int) (x9 : List BB.S32) (hn : x9.length = l0.length) (b t : Int) (h : ¬ (0 ≤ b ∧ b < l0.length ∧ 0 ≤ t ∧ t < l0.length)) :
    moatlaw8_JarNears.j1 (k + 1) l0 sitesOf x9 b t (b == (-2)) false = some true := by
  simp only [moatlaw8_JarNears.j1]
  rw [if_neg (by simp), near_out x9 b t (by rw [hn]; exact h)]
  simp only [Option.bind_some, beq_self_eq_true, if_true]
  rfl

theorem near_loop (l0 : List Int) (a1 a2 : Int) (hl : l0.length ≤ 6) : ∀ (d k : Nat) (x9 : List BB.S32), x9.length + d = l0.length → Laid l0 x9 →
    moatlaw8_JarNears.l0 (k + d + 2) l0 a1 a2 hs5 sitesOf x9 (x9.length : Int) = some true := by
  intro d
  induction d with
  | zero =>
    intro k x9 hd hx
    simp only [moatlaw8_JarNears.l0]
    rw [if_neg (by omega)]
    have w1 : wrap64 ((l0.length : Int) + 4) = (l0.length : Int) + 4 := by unfold wrap64; omega
    have w2 : wrap64 ((l0.length : Int) + 2) = (l0.length : Int) + 2 := by unfold wrap64; omega
    have q1 := lowN_lt a1 ((l0.length : Int) + 4) (by omega)
    have q2 := lowN_lt a2 ((l0.length : Int) + 2) (by omega)
    rw [w1, w2, Low_f _ _ (by omega) (by omega), Low_f _ _ (by omega) (by omega)]
    rw [Option.bind_some, Option.bind_some]
    generalize lowN a1 ((l0.length : Int) + 4) = b at q1 ⊢
    generalize lowN a2 ((l0.length : Int) + 2) = t at q2 ⊢
    have w3 : wrap64 ((b : Int) - 3) = (b : Int) - 3 := by unfold wrap64; omega
    have w4 : wrap64 ((t : Int) - 1) = (t : Int) - 1 := by unfold wrap64; omega
    rw [w3, w4]
    by_cases c1 : (b : Int) - 3 ≥ 0
    · rw [if_pos c1]
      by_cases c2 : (b : Int) - 3 < l0.length
      · rw [if_pos c2]
        by_cases c3 : (t : Int) - 1 ≥ 0
        · rw [if_pos c3]
          by_cases c4 : (t : Int) - 1 < l0.length
          · rw [decide_eq_true c4]
            exact j1_yes k l0 x9 hx (by omega) _ _ ⟨c1, c2⟩ ⟨c3, c4⟩ _
          · rw [decide_eq_false c4]
            exact j1_no k l0 x9 (by omega) _ _ (by omega)
        · rw [if_neg c3]; exact j1_no k l0 x9 (by omega) _ _ (by omega)
      · rw [if_neg c2]; exact j1_no k l0 x9 (by omega) _ _ (by omega)
    · rw [if_neg c1]; exact j1_no k l0 x9 (by omega) _ _ (by omega)
  | succ d ih =>
    intro k x9 hd hx
    have n1 := lowN_lt (rd l0 x9.length) 10 (by decide)
    rw [show k + (d + 1) + 2 = (k + d + 2) + 1 by omega]
    simp only [moatlaw8_JarNears.l0]
    rw [if_pos (by omega), if_pos (by omega), Low_f _ _ (by decide) (by decide)]
    rw [Option.bind_some, Option.bind_some]
    have e1 : wrap64 (Int.tdiv ((lowN (rd l0 x9.length) 10 : Nat) : Int) 5) = ((lowN (rd l0 x9.length) 10 / 5 : Nat) : Int) := by
      rw [Int.tdiv_eq_ediv_of_nonneg (by omega)]; unfold wrap64; omega
    have e2 : Int.tmod ((lowN (rd l0 x9.length) 10 : Nat) : Int) 5 = ((lowN (rd l0 x9.length) 10 % 5 : Nat) : Int) := by
      rw [Int.tmod_eq_emod_of_nonneg (by omega)]; omega
    rw [e1, e2, if_pos (by omega), if_pos (by show _ < (2 : Int); omega), if_pos (by omega), if_pos (by show _ < (5 : Int); omega), if_pos (by omega)]
    have w1 : wrap64 ((x9.length : Int) + 1) = ((x9.length + 1 : Nat) : Int) := by unfold wrap64; omega
    rw [w1]
    obtain ⟨y, hy⟩ : ∃ y : BB.S32, y = ⟨⟨#[]⟩, rdOf ByteArray.empty sc2 ((lowN (rd l0 x9.length) 10 / 5 : Nat) : Int), rdOf ByteArray.empty hs5 ((lowN (rd l0 x9.length) 10 % 5 : Nat) : Int), wrap64 (1 + (x9.length : Int))⟩ := ⟨_, rfl⟩
    have hlay : Laid l0 (x9 ++ [y]) := by
      intro j hj
      rw [List.length_append] at hj
      by_cases h : j < x9.length
      · have : BB.rd_T32 (x9 ++ [y]) (j : Int) = BB.rd_T32 x9 (j : Int) := by
          unfold BB.rd_T32
          simp [List.getD_eq_getElem?_getD, List.getElem?_append_left h]
        rw [this]; exact hx j h
      · obtain rfl : j = x9.length := by simp at hj; omega
        have : BB.rd_T32 (x9 ++ [y]) (x9.length : Int) = y := by
          unfold BB.rd_T32
          simp [List.getD_eq_getElem?_getD]
        rw [this, hy]
        exact ⟨rfl, rfl, rfl⟩
    have := ih k (x9 ++ [y]) (by simp; omega) hlay
    rw [List.length_append, hy] at this
    exact this

theorem JarNears : moatlaw8_JarNears.Pure := by
  intro l0 a1 a2 _ _ _ _ _
  by_cases h : (l0.length : Int) > 6
  · exact ⟨0, by unfold moatlaw8_JarNears.f; rw [if_pos h]; rfl⟩
  · refine ⟨0 + l0.length + 2, ?_⟩
    unfold moatlaw8_JarNears.f
    rw [if_neg h]
    exact near_loop l0 a1 a2 (by omega) l0.length 0 [] (by simp) (fun j hj => by cases hj)
end Go.Proofs.YtmelefiodhnlpaaDoor.Pure
