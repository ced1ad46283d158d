/- JarPaths, the plain law: a cookie's path fits itself, and what goes on behind it at a slash, and nothing else that only begins with it. -/
import Derived.Test.YtmelefiodhnlpaaDoorBPx1
import Derived.Test.YtmelefiodhnlpaaDoorJar
import Derived.Test.YtmelefiodhnlpaaDoorLow
set_option linter.unusedSimpArgs false
set_option linter.unusedVariables false
namespace Go.Proofs.YtmelefiodhnlpaaDoor.Pure
open Go Go.RowKit Go.Proofs.YtmelefiodhnlpaaDoor Go.Proofs.YtmelefiodhnlpaaDoor.BP Go.Proofs.YtmelefiodhnlpaaDoorW.PrintMore Go.Proofs.YtmelefiodhnlpaaDoorW.PrintWords Go.Proofs.YtmelefiodhnlpaaDoorW.PrintLast

def parts4 : List ByteArray := [(⟨#[97]⟩ : ByteArray), (⟨#[98, 98]⟩ : ByteArray), (⟨#[99, 46, 100]⟩ : ByteArray), (⟨#[101, 45, 102]⟩ : ByteArray)]
def pb (x : Int) : ByteArray := rdOf ByteArray.empty parts4 (lowN x 4 : Int)
def pl (x : Int) : List UInt8 := (pb x).data.toList

theorem pb_cases : ∀ n < 4, ((rdOf ByteArray.empty parts4 ((n : Nat) : Int)).data.toList.all (· != 47)) = true ∧ (rdOf ByteArray.empty parts4 ((n : Nat) : Int)).data.toList ≠ [] ∧ (rdOf ByteArray.empty parts4 ((n : Nat) : Int)).size ≤ 3 := by decide +kernel
theorem pb_ok (x : Int) : (pl x).all (· != 47) = true ∧ pl x ≠ [] ∧ (pb x).size ≤ 3 := by
  have h := lowN_lt x 4 (by decide)
  exact pb_cases _ (by omega)

/-- The path of the first m parts. -/
def P (l0 : List Int) (m : Nat) : List UInt8 := (l0.take m).flatMap fun x => 47 :: pl x

theorem P_zero (l0 : List Int) : P l0 0 = [] := rfl
theorem P_step (l0 : List Int) (m : Nat) (h : m < l0.length) : P l0 (m + 1) = P l0 m ++ 47 :: pl (rd l0 m) := by
  unfold P
  rw [List.take_succ_eq_append_getElem h, List.flatMap_append]
  congr 1
  simp [rd, List.getD_eq_getElem?_getD, List.getElem?_eq_getElem h]
theorem P_len (l0 : List Int) : ∀ m : Nat, m ≤ l0.length → (P l0 m).length ≤ 4 * m
  | 0, _ => by simp [P_zero]
  | m + 1, h => by
    have ih := P_len l0 m (by omega)
    have h3 := (pb_ok (rd l0 m)).2.2
    have hs := Lib.size_eq (pb (rd l0 m))
    rw [P_step l0 m (by omega)]
    simp only [List.length_append, List.length_cons]
    unfold pl
    omega
theorem P_last (l0 : List Int) (m : Nat) (h : m < l0.length) : [47].isSuffixOf (P l0 (m + 1)) = false := by
  rw [Bool.eq_false_iff]
  intro hs
  obtain ⟨q, hq⟩ := List.isSuffixOf_iff_suffix.1 hs
  rw [P_step l0 m h] at hq
  obtain ⟨ha, hne, _⟩ := pb_ok (rd l0 m)
  have h1 := congrArg List.getLast? hq
  rw [List.getLast?_append, List.getLast?_append, List.getLast?_singleton, List.getLast?_cons (a := 47) (l := pl (rd l0 m))] at h1
  obtain ⟨y, hy⟩ : ∃ y, (pl (rd l0 m)).getLast? = some y := by
    cases hh : (pl (rd l0 m)).getLast? with
    | none => exact absurd (List.getLast?_eq_none_iff.1 hh) hne
    | some y => exact ⟨y, rfl⟩
  rw [hy] at h1
  simp at h1
  have := List.all_eq_true.1 ha y (List.mem_of_getLast? hy)
  rw [← h1] at this
  exact absurd this (by decide)
theorem P_rest (l0 : List Int) (i : Nat) : ∀ d : Nat, i + d ≤ l0.length → ∃ r, P l0 (i + d) = P l0 i ++ r ∧ (r = [] ∨ r.head? = some 47)
  | 0, _ => ⟨[], by simp, .inl rfl⟩
  | d + 1, h => by
    obtain ⟨r, hr, hh⟩ := P_rest l0 i d (by omega)
    refine ⟨r ++ 47 :: pl (rd l0 (i + d : Nat)), ?_, ?_⟩
    · rw [show i + (d + 1) = (i + d) + 1 by omega, P_step l0 (i + d) (by omega), hr, List.append_assoc]
    · rcases hh with rfl | hh
      · right; rfl
      · right
        cases r with
        | nil => simp at hh
        | cons y r => simpa using hh

theorem way_on (e r : List UInt8) (h : r = [] ∨ r.head? = some 47) : wayL e (e ++ r) = true := by
  have hp : e.isPrefixOf (e ++ r) = true := List.isPrefixOf_iff_prefix.2 ⟨r, rfl⟩
  unfold wayL
  rw [hp, List.drop_append_of_le_length (Nat.le_refl _), List.drop_length, List.nil_append]
  rcases h with rfl | h
  · rfl
  · rw [h]; simp
theorem way_other (e r : List UInt8) (h : r ≠ []) (h2 : r.head? ≠ some 47) (hl : [47].isSuffixOf e = false) : wayL e (e ++ r) = false := by
  unfold wayL
  rw [List.drop_append_of_le_length (Nat.le_refl _), List.drop_length, List.nil_append, hl, decide_eq_false h, decide_eq_false h2]
  simp
theorem way_short (e p : List UInt8) (h : p.length < e.length) : wayL e p = false := by
  have hp : e.isPrefixOf p = false := by
    rw [Bool.eq_false_iff]
    intro hh
    have := (List.isPrefixOf_iff_prefix.1 hh).length_le
    omega
  unfold wayL
  rw [hp]; rfl

theorem suffix_last (l : List UInt8) (n : Nat) (h1 : 1 ≤ n) (h2 : n ≤ l.length) : [47].isSuffixOf (l.take n) = decide (l[n - 1]? = some 47) := by
  have hn : (l.take n).length = n := by simp; omega
  have hla : (l.take n).getLast? = l[n - 1]? := by
    rw [List.getLast?_eq_getElem?, hn, List.getElem?_take, if_pos (by omega)]
  rw [Bool.eq_iff_iff, decide_eq_true_iff, List.isSuffixOf_iff_suffix, ← hla]
  constructor
  · rintro ⟨q, hq⟩; rw [← hq]; simp
  · intro h
    obtain ⟨q, hq⟩ := List.getLast?_eq_some_iff.1 h
    exact ⟨q, hq.symm⟩

theorem way_cut (l : List UInt8) (n : Nat) (h1 : 1 ≤ n) (h2 : n ≤ l.length) : wayL (l.take n) l = (decide (n = l.length) || (decide (l[n - 1]? = some 47) || decide (l[n]? = some 47))) := by
  have hp : (l.take n).isPrefixOf l = true := List.isPrefixOf_iff_prefix.2 (List.take_prefix n l)
  have hn : (l.take n).length = n := by simp; omega
  unfold wayL
  rw [hp, hn, suffix_last l n h1 h2, List.head?_drop, Bool.true_and]
  congr 1
  rw [Bool.eq_iff_iff]
  simp
  omega

theorem bt_47 (s : ByteArray) (k : Nat) (h : k < s.size) : (bt s k = 47) ↔ s.data.toList[k]? = some 47 := by
  have hk : k < s.data.toList.length := by rw [← Lib.size_eq]; exact h
  rw [← bt_at s k (by simpa using h), List.getElem?_eq_getElem hk]
  simp only [Int.toNat_natCast]
  have e : s[k] = s.data.toList[k] := by simp [ByteArray.getElem_eq_getElem_data]
  rw [e]
  generalize s.data.toList[k] = y
  constructor
  · intro hh
    have : y.toNat = 47 := by omega
    exact congrArg some (UInt8.toNat_inj.1 this)
  · intro hh
    rw [Option.some.inj hh]; rfl

def aT : ByteArray := ⟨#[97, 46, 116, 101, 115, 116]⟩
theorem fits_way (k : Nat) (cp p : ByteArray) (hp : p.size ≤ 140737488355328) (hc : cp.size ≤ 140737488355328) :
    BB.jar_Fits.f (k + 1) ⟨#[]⟩ 0 ⟨#[]⟩ cp false false 0 aT ⟨#[]⟩ ⟨#[104, 116, 116, 112, 115]⟩ aT 443 p = some (wayL cp.data.toList p.data.toList) := by
  rw [Fits_f k _ _ _ cp _ _ _ aT _ _ aT _ p hp hc (by decide) (by decide)]
  rfl

/-- The paths that were laid. -/
def Ends (l0 : List Int) (m : Nat) (x6 : ByteArray) (x7 : List ByteArray) : Prop := x6.data.toList = P l0 m ∧ x7.length = m ∧ ∀ j : Nat, j < m → (rdOf ByteArray.empty x7 (j : Int)).data.toList = P l0 (j + 1)

theorem paths_end (l0 : List Int) (x1 : Int) (h0 : 0 < l0.length) (h5 : l0.length ≤ 5) (x6 : ByteArray) (x7 : List ByteArray) (hE : Ends l0 l0.length x6 x7) (k : Nat) :
    moatlaw8_JarPaths.l1 (k + 2) x1 x6 x7 (l0.length : Int) ⟨#[]⟩ ⟨#[104, 116, 116, 112, 115]⟩ aT 443 = some true := by
  obtain ⟨e6, e7, _⟩ := hE
  have hlen := P_len l0 l0.length (Nat.le_refl _)
  have hs := Lib.size_eq x6
  have hpos : 0 < x6.size := by
    rw [hs, e6]
    obtain ⟨m, hm⟩ : ∃ m, l0.length = m + 1 := ⟨l0.length - 1, by omega⟩
    rw [hm, P_step l0 m (by omega), List.length_append, List.length_cons]
    omega
  rw [← e6, ← hs] at hlen
  simp only [moatlaw8_JarPaths.l1]
  have hl := lowN_lt x1 (x6.size : Int) (by omega)
  rw [if_neg (by omega), Low_f x1 _ (by omega) (by omega)]
  rw [Option.bind_some]
  obtain ⟨n, hn⟩ : ∃ n : Nat, lowN x1 (x6.size : Int) + 1 = n := ⟨_, rfl⟩
  have hw : wrap64 (1 + (lowN x1 (x6.size : Int) : Int)) = (n : Int) := by unfold wrap64; omega
  have hsz : (x6.extract 0 n).size = n := by rw [ByteArray.size_extract]; omega
  have hcp : (x6.extract 0 n).data.toList = x6.data.toList.take n := by simp
  rw [hw]
  simp only [Int.toNat_natCast, hsz]
  have hway := way_cut x6.data.toList n (by omega) (by omega)
  rw [← hs] at hway
  have hf := fits_way k (x6.extract 0 n) x6 (by omega) (by omega)
  rw [hcp, hway] at hf
  rw [if_pos (by omega), if_pos (by omega)]
  rw [show (⟨#[97, 46, 116, 101, 115, 116]⟩ : ByteArray) = aT from rfl, hf]
  by_cases c : (n : Int) = x6.size
  · rw [if_pos c, decide_eq_true (show n = x6.size by omega)]
    rfl
  · rw [if_neg c, decide_eq_false (show ¬ n = x6.size by omega)]
    have hw2 : wrap64 ((n : Int) - 1) = ((n - 1 : Nat) : Int) := by unfold wrap64; omega
    rw [hw2, if_pos (by omega), if_pos (by omega)]
    have b1 := bt_47 (x6.extract 0 n) (n - 1) (by omega)
    rw [hcp, List.getElem?_take, if_pos (by omega)] at b1
    have b2 := bt_47 x6 n (by omega)
    by_cases c2 : bt (x6.extract 0 n) ((n - 1 : Nat) : Int) = 47
    · rw [if_pos c2, decide_eq_true (b1.1 c2)]
      rfl
    · rw [if_neg c2, decide_eq_false (fun hh => c2 (b1.2 hh)), if_pos (by omega), if_pos (by omega)]
      by_cases c3 : bt x6 (n : Int) = 47
      · rw [c3, decide_eq_true (b2.1 c3)]
        rfl
      · have e : (bt x6 (n : Int) == 47) = false := by simpa using c3
        rw [e, decide_eq_false (fun hh => c3 (b2.2 hh))]
        rfl

theorem paths_l1 (l0 : List Int) (x1 : Int) (h0 : 0 < l0.length) (h5 : l0.length ≤ 5) (x6 : ByteArray) (x7 : List ByteArray) (hE : Ends l0 l0.length x6 x7) : ∀ (d k i : Nat), i + d = l0.length →
    moatlaw8_JarPaths.l1 (k + d + 2) x1 x6 x7 (i : Int) ⟨#[]⟩ ⟨#[104, 116, 116, 112, 115]⟩ aT 443 = some true := by
  intro d
  induction d with
  | zero =>
    intro k i hi
    obtain rfl : i = l0.length := by omega
    exact paths_end l0 x1 h0 h5 x6 x7 hE k
  | succ d ih =>
    intro k i hi
    obtain ⟨e6, e7, eE⟩ := hE
    have hei := eE i (by omega)
    have hl1 := P_len l0 (i + 1) (by omega)
    have hl2 := P_len l0 l0.length (Nat.le_refl _)
    have hs6 := Lib.size_eq x6
    rw [e6] at hs6
    have hse := Lib.size_eq (rdOf ByteArray.empty x7 (i : Int))
    rw [hei] at hse
    rw [show k + (d + 1) + 2 = (k + d + 2) + 1 by omega]
    simp only [moatlaw8_JarPaths.l1]
    rw [show (⟨#[97, 46, 116, 101, 115, 116]⟩ : ByteArray) = aT from rfl]
    rw [if_pos (by omega), if_pos (by omega)]
    have q1 : wayL (P l0 (i + 1)) (P l0 l0.length) = true := by
      obtain ⟨r, hr, hh⟩ := P_rest l0 (i + 1) d (by omega)
      rw [show l0.length = i + 1 + d by omega, hr]
      exact way_on _ _ hh
    have q2 : wayL (P l0 (i + 1)) (P l0 (i + 1)) = true := by
      have := way_on (P l0 (i + 1)) [] (.inl rfl); rwa [List.append_nil] at this
    have q3 : wayL (P l0 (i + 1)) (P l0 (i + 1) ++ [47]) = true := way_on _ _ (.inr rfl)
    have q4 : wayL (P l0 (i + 1)) (P l0 (i + 1) ++ [120]) = false := way_other _ _ (by simp) (by decide) (P_last l0 i (by omega))
    have d1 : ∀ c : UInt8, (rdOf ByteArray.empty x7 (i : Int) ++ (⟨#[c]⟩ : ByteArray)).data.toList = P l0 (i + 1) ++ [c] := fun c => by
      rw [ByteArray.data_append, Array.toList_append, hei]
    have s1 : ∀ c : UInt8, (rdOf ByteArray.empty x7 (i : Int) ++ (⟨#[c]⟩ : ByteArray)).size = (P l0 (i + 1)).length + 1 := fun c => by
      rw [Lib.size_eq, d1]; simp
    have f1 := fits_way (k + d + 1) (rdOf ByteArray.empty x7 (i : Int)) x6 (by omega) (by omega)
    have f2 := fits_way (k + d + 1) (rdOf ByteArray.empty x7 (i : Int)) (rdOf ByteArray.empty x7 (i : Int)) (by omega) (by omega)
    have f3 := fits_way (k + d + 1) (rdOf ByteArray.empty x7 (i : Int)) (rdOf ByteArray.empty x7 (i : Int) ++ (⟨#[47]⟩ : ByteArray)) (by rw [s1]; omega) (by omega)
    have f4 := fits_way (k + d + 1) (rdOf ByteArray.empty x7 (i : Int)) (rdOf ByteArray.empty x7 (i : Int) ++ (⟨#[120]⟩ : ByteArray)) (by rw [s1]; omega) (by omega)
    rw [hei, e6, q1] at f1
    rw [hei, q2] at f2
    rw [hei, d1, q3] at f3
    rw [hei, d1, q4] at f4
    rw [f1, Option.bind_some, if_pos rfl, f2, Option.bind_some, if_pos rfl, if_pos (by omega), f3, Option.bind_some, if_pos rfl, f4, Option.bind_some, if_neg (by simp)]
    have hw : wrap64 ((i : Int) + 1) = ((i + 1 : Nat) : Int) := by unfold wrap64; omega
    rw [hw]
    by_cases c : (i : Int) > 0
    · rw [if_pos c]
      obtain ⟨m, rfl⟩ : ∃ m, i = m + 1 := ⟨i - 1, by omega⟩
      have hw2 : wrap64 (((m + 1 : Nat) : Int) - 1) = (m : Int) := by unfold wrap64; omega
      rw [hw2, if_pos (by omega), if_pos (by omega)]
      have hem := eE m (by omega)
      have hsm := Lib.size_eq (rdOf ByteArray.empty x7 (m : Int))
      rw [hem] at hsm
      have hlm := P_len l0 (m + 1) (by omega)
      have f5 := fits_way (k + d + 1) (rdOf ByteArray.empty x7 ((m + 1 : Nat) : Int)) (rdOf ByteArray.empty x7 (m : Int)) (by omega) (by omega)
      rw [hei, hem, way_short _ _ (by rw [P_step l0 (m + 1) (by omega)]; simp)] at f5
      rw [f5, Option.bind_some, if_neg (by simp)]
      exact ih k (m + 1 + 1) (by omega)
    · rw [if_neg c]
      exact ih k (i + 1) (by omega)

theorem paths_l0 (l0 : List Int) (x1 : Int) (h0 : 0 < l0.length) (h5 : l0.length ≤ 5) : ∀ (d k m : Nat) (x6 : ByteArray) (x7 : List ByteArray), m + d = l0.length → Ends l0 m x6 x7 →
    moatlaw8_JarPaths.l0 (k + l0.length + 2 + d + 1) l0 x1 x6 x7 (m : Int) ⟨#[]⟩ ⟨#[104, 116, 116, 112, 115]⟩ aT 443 = some true := by
  intro d
  induction d with
  | zero =>
    intro k m x6 x7 hm hE
    obtain rfl : m = l0.length := by omega
    simp only [moatlaw8_JarPaths.l0]
    rw [if_neg (by omega)]
    exact paths_l1 l0 x1 h0 h5 x6 x7 hE l0.length k 0 (by omega)
  | succ d ih =>
    intro k m x6 x7 hm hE
    obtain ⟨e6, e7, eE⟩ := hE
    have hl := P_len l0 m (by omega)
    have hs := Lib.size_eq x6
    rw [e6] at hs
    have n1 := lowN_lt (rd l0 m) 4 (by decide)
    have z1 := (pb_ok (rd l0 m)).2.2
    rw [show k + l0.length + 2 + (d + 1) + 1 = (k + l0.length + 2 + d + 1) + 1 by omega]
    simp only [moatlaw8_JarPaths.l0]
    have hcat : (x6 ++ (⟨#[47]⟩ : ByteArray)).size = x6.size + 1 := by rw [ByteArray.size_append]; rfl
    rw [if_pos (by omega), if_pos (by omega), Option.bind_some, if_pos (by omega), Low_f _ 4 (by decide) (by decide), Option.bind_some, if_pos (by omega), if_pos (by show _ < (4 : Int); omega),
      show ([(⟨#[97]⟩ : ByteArray), (⟨#[98, 98]⟩ : ByteArray), (⟨#[99, 46, 100]⟩ : ByteArray), (⟨#[101, 45, 102]⟩ : ByteArray)] : List ByteArray) = parts4 from rfl,
      show rdOf ByteArray.empty parts4 ((lowN (rd l0 m) 4 : Nat) : Int) = pb (rd l0 m) from rfl, if_pos (by omega), if_pos (by omega)]
    have hw : wrap64 ((m : Int) + 1) = ((m + 1 : Nat) : Int) := by unfold wrap64; omega
    rw [hw]
    have hd : ((x6 ++ (⟨#[47]⟩ : ByteArray)) ++ pb (rd l0 m)).data.toList = P l0 (m + 1) := by
      rw [P_step l0 m (by omega), ← e6]
      simp [ByteArray.data_append, pl]
    generalize (x6 ++ (⟨#[47]⟩ : ByteArray)) ++ pb (rd l0 m) = y at hd ⊢
    refine ih k (m + 1) y (x7 ++ [y]) (by omega) ⟨hd, by simp [e7], fun j hj => ?_⟩
    by_cases hjm : j < m
    · rw [← eE j hjm]
      congr 2
      unfold rdOf
      simp [List.getD_eq_getElem?_getD, List.getElem?_append_left (by rw [e7]; exact hjm : j < x7.length)]
    · obtain rfl : j = m := by omega
      rw [← hd]
      congr 2
      unfold rdOf
      simp [List.getD_eq_getElem?_getD, ← e7]

theorem JarPaths : moatlaw8_JarPaths.Pure := by
  intro l0 a1 _ _ _ _
  by_cases h5 : (l0.length : Int) > 5
  · exact ⟨2, by unfold moatlaw8_JarPaths.f; rw [if_pos h5]; rfl⟩
  · by_cases h0 : (l0.length : Int) = 0
    · exact ⟨2, by unfold moatlaw8_JarPaths.f; rw [if_neg h5, h0]; rfl⟩
    · refine ⟨0 + l0.length + 2 + l0.length + 1 + 1, ?_⟩
      unfold moatlaw8_JarPaths.f
      have e : ((l0.length : Int) == 0) = false := by simpa using h0
      rw [if_neg h5, e]
      simp only [moatlaw8_JarPaths.j0]
      rw [if_neg (by simp)]
      exact paths_l0 l0 a1 (by omega) (by omega) l0.length 0 0 _ [] (by omega) ⟨by rw [P_zero], rfl, fun j hj => by omega⟩
end Go.Proofs.YtmelefiodhnlpaaDoor.Pure
