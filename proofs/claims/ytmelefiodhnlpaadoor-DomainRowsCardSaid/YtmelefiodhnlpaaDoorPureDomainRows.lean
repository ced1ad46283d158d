/- DomainRows, the plain law: of a row of labels each end is what the whole is under; its site is that of each end of two labels and more. -/
import Derived.Test.YtmelefiodhnlpaaDoorBRx1
import Derived.Test.YtmelefiodhnlpaaDoorPlain
import Derived.Test.YtmelefiodhnlpaaDoorLow
set_option linter.unusedSimpArgs false
set_option linter.unusedVariables false
namespace Go.Proofs.YtmelefiodhnlpaaDoor.Pure
open Go Go.RowKit Go.Proofs.YtmelefiodhnlpaaDoor Go.Proofs.YtmelefiodhnlpaaDoor.BR Go.Proofs.YtmelefiodhnlpaaDoorW.PrintMore Go.Proofs.YtmelefiodhnlpaaDoorW.PrintWords Go.Proofs.YtmelefiodhnlpaaDoorW.PrintLast

def labs7 : List ByteArray := [(⟨#[97]⟩ : ByteArray), (⟨#[98, 99]⟩ : ByteArray), (⟨#[100, 45, 101]⟩ : ByteArray), (⟨#[102, 48]⟩ : ByteArray), (⟨#[120, 121, 122]⟩ : ByteArray), (⟨#[101, 118, 105, 108]⟩ : ByteArray), (⟨#[116, 101, 115, 116]⟩ : ByteArray)]
def lb (x : Int) : ByteArray := rdOf ByteArray.empty labs7 (lowN x 7 : Int)
def la (x : Int) : List UInt8 := (lb x).data.toList

theorem lb_cases : ∀ n < 7, labelL (rdOf ByteArray.empty labs7 ((n : Nat) : Int)).data.toList = true ∧ (rdOf ByteArray.empty labs7 ((n : Nat) : Int)).size ≤ 4 := by decide +kernel
theorem lb_ok (x : Int) : labelL (la x) = true ∧ (lb x).size ≤ 4 := by
  have h := lowN_lt x 7 (by decide)
  exact lb_cases _ (by omega)
theorem la_len (x : Int) : (la x).length ≤ 4 := by
  have := (lb_ok x).2; have := Lib.size_eq (lb x); unfold la; omega

def T (l0 : List Int) (m : Nat) : List (List UInt8) := (l0.drop m).map la

theorem T_step (l0 : List Int) (m : Nat) (h : m < l0.length) : T l0 m = la (rd l0 m) :: T l0 (m + 1) := by
  unfold T rd
  rw [List.drop_eq_getElem_cons h, List.map_cons]
  simp [List.getD_eq_getElem?_getD, List.getElem?_eq_getElem h]

theorem T_end (l0 : List Int) : T l0 l0.length = [] := by simp [T]

theorem T_len (l0 : List Int) (m : Nat) : (T l0 m).length = l0.length - m := by simp [T]

theorem T_lab (l0 : List Int) (m : Nat) : ∀ p ∈ T l0 m, labelL p = true ∧ p.length ≤ 4 := by
  intro p hp
  obtain ⟨x, _, rfl⟩ := List.mem_map.1 hp
  exact ⟨(lb_ok x).1, la_len x⟩

theorem sum_four : ∀ l : List (List UInt8), (∀ p ∈ l, p.length ≤ 4) → (l.map List.length).sum ≤ 4 * l.length
  | [], _ => by simp
  | p :: l, h => by
    have := h p (by simp)
    have := sum_four l (fun q hq => h q (by simp [hq]))
    simp only [List.map_cons, List.sum_cons, List.length_cons]
    omega

theorem T_join_len (l0 : List Int) (m : Nat) : (Lib.join (T l0 m) [46]).length ≤ 5 * (l0.length - m) := by
  have h1 := join_le 46 (T l0 m)
  have h2 := sum_four (T l0 m) (fun p hp => (T_lab l0 m p hp).2)
  have h3 := T_len l0 m
  omega

theorem T_split (l0 : List Int) (m : Nat) (h : m < l0.length) : splitL 46 (Lib.join (T l0 m) [46]) = T l0 m :=
  splitL_join 46 _ (by rw [T_step l0 m h]; simp) (fun p hp => labelL_dot (T_lab l0 m p hp).1)

theorem T_host (l0 : List Int) (m : Nat) (h : m < l0.length) (h8 : l0.length ≤ 8) : hostL (Lib.join (T l0 m) [46]) = true := by
  rw [hostL_iff, T_split l0 m h]
  have := T_join_len l0 m
  exact ⟨fun p hp => (T_lab l0 m p hp).1, by omega⟩

theorem T_site (l0 : List Int) (m : Nat) (h : m + 2 ≤ l0.length) (h8 : l0.length ≤ 8) : siteL (Lib.join (T l0 m) [46]) = la (rd l0 (l0.length - 2 : Nat)) ++ 46 :: la (rd l0 (l0.length - 1 : Nat)) := by
  rw [site_eq (T_host l0 m (by omega) h8), T_split l0 m (by omega), T_len]
  have e : (T l0 m).drop (l0.length - m - 2) = T l0 (l0.length - 2) := by
    unfold T
    rw [← List.map_drop, List.drop_drop]
    congr 2
    omega
  rw [e, T_step l0 (l0.length - 2) (by omega), show l0.length - 2 + 1 = l0.length - 1 by omega, T_step l0 (l0.length - 1) (by omega), show l0.length - 1 + 1 = l0.length by omega, T_end, join_cons2, Lib.join_one]

theorem rows_j3 (l0 : List Int) (h2 : 2 ≤ l0.length) (h8 : l0.length ≤ 8) (k m : Nat) (hm : m < l0.length) (x6 : ByteArray) (hx : x6.data.toList = Lib.join (T l0 m) [46])
    (next : moatlaw2_DomainRows.l0 k l0 labs7 x6 ((m : Int) - 1) = some true) :
    moatlaw2_DomainRows.j3 (k + 1) l0 labs7 (m : Int) x6 false = some true := by
  have hw : wrap64 ((m : Int) - 1) = (m : Int) - 1 := by unfold wrap64; omega
  have hw1 : wrap64 ((l0.length : Int) - m) = (l0.length : Int) - m := by unfold wrap64; omega
  have hw2 : wrap64 ((l0.length : Int) - 2) = ((l0.length - 2 : Nat) : Int) := by unfold wrap64; omega
  have hw3 : wrap64 ((l0.length : Int) - 1) = ((l0.length - 1 : Nat) : Int) := by unfold wrap64; omega
  have hlen := T_join_len l0 m
  have hsz := Lib.size_eq x6
  rw [hx] at hsz
  simp only [moatlaw2_DomainRows.j3]
  rw [if_neg (by simp), hw, hw1]
  by_cases c : (l0.length : Int) - m ≥ 2
  · rw [if_pos c, Site_f x6 (by omega)]
    simp only [Option.bind_some]
    have n1 := lowN_lt (rd l0 (l0.length - 2 : Nat)) 7 (by decide)
    have n2 := lowN_lt (rd l0 (l0.length - 1 : Nat)) 7 (by decide)
    have z1 := (lb_ok (rd l0 (l0.length - 2 : Nat))).2
    have z2 := (lb_ok (rd l0 (l0.length - 1 : Nat))).2
    rw [hw2, hw3, if_pos (by omega), if_pos (by omega), Low_f _ 7 (by decide) (by decide)]
    simp only [Option.bind_some]
    rw [if_pos (by omega), if_pos (by show _ < (7 : Int); omega)]
    unfold lb at z1 z2
    rw [if_pos (by omega), if_pos (by omega), if_pos (by omega), Low_f _ 7 (by decide) (by decide)]
    simp only [Option.bind_some]
    rw [if_pos (by omega), if_pos (by show _ < (7 : Int); omega)]
    rw [if_pos (by rw [ByteArray.size_append]; show _ + 1 + _ ≤ _; omega)]
    have hsite := T_site l0 m (by omega) h8
    rw [hx, hsite]
    rw [if_pos (by
      simp only [Go.ByteArray.toList_eq, ByteArray.data_append, Array.toList_append, List.append_assoc]
      rfl)]
    exact next
  · rw [if_neg c]; exact next

theorem under_ends (x l : List UInt8) (h : hostL (x ++ 46 :: l) = true) (hl : hostL l = true) : underL (x ++ 46 :: l) l = true :=
  (underL_iff _ _).2 ⟨h, hl, .inr ⟨x, rfl⟩⟩

theorem under_longer (a b : List UInt8) (h : a.length < b.length) : underL a b = false := by
  rw [Bool.eq_false_iff]
  intro hu
  obtain ⟨_, _, rfl | ⟨p, hp⟩⟩ := (underL_iff _ _).1 hu
  · omega
  · have := congrArg List.length hp
    simp at this
    omega

theorem under_glued (c : UInt8) (b : List UInt8) (hc : c ≠ 46) : underL (c :: b) b = false := by
  rw [Bool.eq_false_iff]
  intro hu
  obtain ⟨_, _, e | ⟨p, hp⟩⟩ := (underL_iff _ _).1 hu
  · have := congrArg List.length e; simp at this
  · cases p with
    | nil => simp at hp; exact hc hp.symm
    | cons y p =>
      have := congrArg List.length hp
      simp at this
      omega

theorem rows_loop (l0 : List Int) (h2 : 2 ≤ l0.length) (h8 : l0.length ≤ 8) : ∀ (m k : Nat) (x4 : ByteArray), m ≤ l0.length → x4.data.toList = Lib.join (T l0 m) [46] →
    moatlaw2_DomainRows.l0 (k + 3 * m + 1) l0 labs7 x4 ((m : Int) - 1) = some true := by
  intro m
  induction m with
  | zero =>
    intro k x4 _ hx
    have hlen := T_join_len l0 0
    have hsz := Lib.size_eq x4
    rw [hx] at hsz
    have hh := T_host l0 0 (by omega) h8
    simp only [moatlaw2_DomainRows.l0]
    rw [if_neg (by omega), Under_f x4 x4 (by omega) (by omega), hx, underL_refl hh]
    simp only [Option.bind_some, if_true]
    rw [Labels_f x4 (by omega)]
    simp only [Option.bind_some]
    have hll := congrArg List.length (labels_list x4)
    rw [List.length_map, hx, labelsL_host hh, T_split l0 0 (by omega), T_len] at hll
    rw [hx]
    rw [if_pos (by omega)]
    rfl
  | succ m ih =>
    intro k x4 hm hx
    have hlen := T_join_len l0 (m + 1)
    have hlen0 := T_join_len l0 m
    have hsz := Lib.size_eq x4
    rw [hx] at hsz
    have n1 := lowN_lt (rd l0 m) 7 (by decide)
    have z1 := lb_ok (rd l0 m)
    have hst := T_step l0 m (by omega)
    have hh := T_host l0 m (by omega) h8
    have e1 : ((m + 1 : Nat) : Int) - 1 = m := by omega
    rw [e1, show k + 3 * (m + 1) + 1 = ((k + 3 * m + 1) + 1 + 1) + 1 by omega]
    simp only [moatlaw2_DomainRows.l0]
    rw [if_pos (by omega), if_pos (by omega), if_pos (by omega), Low_f _ 7 (by decide) (by decide)]
    simp only [Option.bind_some]
    rw [if_pos (by omega), if_pos (by show _ < (7 : Int); omega), show rdOf ByteArray.empty labs7 ((lowN (rd l0 m) 7 : Nat) : Int) = lb (rd l0 m) from rfl]
    by_cases c : x4.toList = []
    · rw [if_pos c]
      rw [Go.ByteArray.toList_eq, hx] at c
      have hx6 : (lb (rd l0 m)).data.toList = Lib.join (T l0 m) [46] := by
        rcases Nat.lt_or_ge (m + 1) l0.length with h | h
        · rw [T_step l0 (m + 1) h] at c
          have hne := labelL_ne (lb_ok (rd l0 (m + 1 : Nat))).1
          rw [Lib.join_cons] at c
          exact absurd (List.append_eq_nil_iff.1 c).1 hne
        · have e : m + 1 = l0.length := by omega
          rw [hst, e, T_end, Lib.join_one]; rfl
      simp only [moatlaw2_DomainRows.j2]
      rw [if_pos (by rw [Go.ByteArray.toList_eq, hx]; exact c)]
      exact rows_j3 l0 h2 h8 _ m (by omega) _ hx6 (ih k _ (by omega) hx6)
    · rw [if_neg c]
      have hm1 : m + 1 < l0.length := by
        rcases Nat.lt_or_ge (m + 1) l0.length with h | h
        · exact h
        · have e : m + 1 = l0.length := by omega
          rw [Go.ByteArray.toList_eq, hx, e, T_end] at c
          exact absurd rfl c
      rw [if_pos (by omega), if_pos (by rw [ByteArray.size_append]; show _ + 1 + _ ≤ _; omega)]
      have hx6 : ((lb (rd l0 m) ++ (⟨#[46]⟩ : ByteArray)) ++ x4).data.toList = Lib.join (T l0 m) [46] := by
        rw [hst, T_step l0 (m + 1) hm1, join_cons2, ← T_step l0 (m + 1) hm1, ← hx]
        simp [la, ByteArray.data_append]
      have hx6' : Lib.join (T l0 m) [46] = la (rd l0 m) ++ 46 :: Lib.join (T l0 (m + 1)) [46] := by
        rw [hst, T_step l0 (m + 1) hm1, join_cons2]
      generalize (lb (rd l0 m) ++ (⟨#[46]⟩ : ByteArray)) ++ x4 = x6 at hx6 ⊢
      have hsz6 := Lib.size_eq x6
      rw [hx6] at hsz6
      have hh1 := T_host l0 (m + 1) hm1 h8
      simp only [moatlaw2_DomainRows.j2]
      rw [if_neg c, Under_f x6 x4 (by omega) (by omega), Under_f x4 x6 (by omega) (by omega), hx, hx6]
      have u1 : underL (Lib.join (T l0 m) [46]) (Lib.join (T l0 (m + 1)) [46]) = true := by
        rw [hx6'] at hh ⊢
        exact under_ends _ _ hh hh1
      have u2 : underL (Lib.join (T l0 (m + 1)) [46]) (Lib.join (T l0 m) [46]) = false := by
        refine under_longer _ _ ?_
        rw [hx6']; simp; omega
      rw [u1, u2]
      simp only [Option.bind_some, if_true, Bool.false_eq_true, if_false]
      have hq : ((⟨#[113]⟩ : ByteArray) ++ x6).size = 1 + x6.size := by rw [ByteArray.size_append]; rfl
      rw [if_pos (by omega), Under_f _ x6 (by omega) (by omega)]
      have hq2 : ((⟨#[113]⟩ : ByteArray) ++ x6).data.toList = 113 :: x6.data.toList := by simp [ByteArray.data_append]
      rw [hq2, under_glued 113 _ (by decide)]
      simp only [Option.bind_some]
      exact rows_j3 l0 h2 h8 _ m (by omega) _ hx6 (ih k _ (by omega) hx6)

theorem DomainRows : moatlaw2_DomainRows.Pure := by
  intro l0 _ _ _
  refine ⟨(0 + 3 * l0.length + 1) + 1, ?_⟩
  unfold moatlaw2_DomainRows.f
  by_cases h2 : (l0.length : Int) < 2
  · rw [if_pos h2]; rfl
  · rw [if_neg h2]
    by_cases h8 : (l0.length : Int) > 8
    · rw [decide_eq_true h8]; rfl
    · rw [decide_eq_false h8]
      simp only [moatlaw2_DomainRows.j0]
      rw [if_neg (by simp), show wrap64 ((l0.length : Int) - 1) = (l0.length : Int) - 1 by unfold wrap64; omega]
      exact rows_loop l0 (by omega) (by omega) l0.length 0 _ (by omega) (by rw [T_end, Lib.join_nil])
end Go.Proofs.YtmelefiodhnlpaaDoor.Pure
