/- The package domain in plain words, over lists of bytes; what the printed functions answer. -/
import Derived.Test.YtmelefiodhnlpaaDoorBBx1
import Derived.Laws.Strings
set_option linter.unusedSimpArgs false
set_option linter.unusedVariables false
namespace Go.Proofs.YtmelefiodhnlpaaDoor
open Go Go.RowKit Go.Proofs.YtmelefiodhnlpaaDoorW.PrintWords Go.Proofs.YtmelefiodhnlpaaDoorW.PrintLast Go.Proofs.YtmelefiodhnlpaaDoorW.PrintMore

def labelsL (a : List UInt8) : List (List UInt8) := if hostL a then splitL 46 a else []
def siteL (a : List UInt8) : List UInt8 := Lib.join ((labelsL a).drop ((labelsL a).length - 2)) [46]
def underL (a b : List UInt8) : Bool := hostL a && (hostL b && (decide (a = b) || (46 :: b).isSuffixOf a))
def sameSiteL (s1 h1 s2 h2 : List UInt8) : Bool := decide (s1 = s2) && (decide (siteL h1 = siteL h2) && decide (siteL h1 ≠ []))

theorem HasSuffix_f (a b : ByteArray) (ha : a.size ≤ 281474976710656) (hb : b.size ≤ 281474976710656) :
    BB.strings_HasSuffix.f a b = some (b.data.toList.isSuffixOf a.data.toList) := by
  have h1 := Lib.size_eq a
  have h2 := Lib.size_eq b
  unfold BB.strings_HasSuffix.f BB.stringslite_HasSuffix.f
  by_cases h : b.size ≤ a.size
  · have hw : wrap64 ((a.size : Int) - (b.size : Int)) = ((a.size - b.size : Nat) : Int) := by unfold wrap64; omega
    rw [if_pos (by omega), hw, if_pos (by omega), if_pos (by omega)]
    simp only [Option.bind_some, Int.toNat_natCast]
    rw [Go.ByteArray.toList_eq, Go.ByteArray.toList_eq, extract_list, List.take_of_length_le (by simp)]
    congr 1
    rw [Bool.eq_iff_iff, beq_iff_eq, List.isSuffixOf_iff_suffix, List.suffix_iff_eq_drop, ← h1, ← h2]
    exact eq_comm
  · rw [if_neg (by omega)]
    simp only [Option.bind_some]
    congr 1
    symm
    rw [← Bool.not_eq_true, List.isSuffixOf_iff_suffix]
    intro hs
    have := hs.length_le
    omega

theorem host_f (a : ByteArray) (ha : a.size ≤ 140737488355328) : url_Host.f a = some (hostL a.data.toList) := if_pos ha

theorem Under_f (a b : ByteArray) (ha : a.size ≤ 140737488355328) (hb : b.size ≤ 140737488355328) : BB.domain_Under.f a b = some (underL a.data.toList b.data.toList) := by
  unfold BB.domain_Under.f underL
  rw [host_f a ha, host_f b hb]
  simp only [Option.bind_some]
  cases hostL a.data.toList with
  | false => rfl
  | true =>
    cases hostL b.data.toList with
    | false => rfl
    | true =>
      simp only [if_true, Bool.true_and]
      rw [Go.ByteArray.toList_eq, Go.ByteArray.toList_eq]
      by_cases h : a.data.toList = b.data.toList
      · rw [if_pos h, decide_eq_true h]; rfl
      · rw [if_neg h, decide_eq_false h, if_pos (by omega), HasSuffix_f a _ (by omega) (by rw [ByteArray.size_append]; show 1 + b.size ≤ _; omega)]
        simp only [Option.bind_some, Bool.false_or]
        congr 2

theorem Labels_f (a : ByteArray) (ha : a.size < 4294967281) : BB.domain_Labels.f a = some (if hostL a.data.toList then pieces 46 a else []) := by
  unfold BB.domain_Labels.f
  rw [host_f a (by omega)]
  simp only [Option.bind_some]
  cases hostL a.data.toList with
  | false => rfl
  | true =>
    simp only [if_true]
    unfold strings_Split.f
    rw [if_pos ⟨rfl, ha⟩]
    rfl

theorem labels_list (a : ByteArray) : (if hostL a.data.toList then pieces 46 a else []).map (·.data.toList) = labelsL a.data.toList := by
  unfold labelsL
  split
  · exact pieces_split 46 a
  · rfl

theorem join_le (c : UInt8) : ∀ (l : List (List UInt8)), (Lib.join l [c]).length ≤ (l.map List.length).sum + l.length
  | [] => by simp [Lib.join_nil]
  | [x] => by simp [Lib.join_one]
  | x :: y :: r => by
    have ih := join_le c (y :: r)
    have e : Lib.join (x :: y :: r) [c] = x ++ c :: Lib.join (y :: r) [c] := by
      rw [Lib.join_cons, Lib.join_cons]; simp [Lib.joinTail]
    rw [e]
    simp only [List.length_append, List.length_cons, List.map_cons, List.sum_cons] at ih ⊢
    omega

theorem splitL_sum (c : UInt8) : ∀ l : List UInt8, ((splitL c l).map List.length).sum + (splitL c l).length = l.length + 1
  | [] => rfl
  | x :: xs => by
    have ih := splitL_sum c xs
    unfold splitL
    split
    · simp only [List.map_cons, List.sum_cons, List.length_nil, List.length_cons]; omega
    · split
      · rename_i e; exact absurd e (splitL_ne_nil c xs)
      · rename_i p ps e
        rw [e] at ih
        simp only [List.map_cons, List.sum_cons, List.length_cons] at ih ⊢
        omega

theorem sum_drop (l : List (List UInt8)) (n : Nat) : ((l.drop n).map List.length).sum + (l.drop n).length ≤ (l.map List.length).sum + l.length := by
  induction l generalizing n with
  | nil => simp
  | cons x r ih =>
    cases n with
    | zero => simp
    | succ n =>
      have := ih n
      simp only [List.drop_succ_cons, List.map_cons, List.sum_cons, List.length_cons]
      omega

theorem labels_len (a : List UInt8) : ((labelsL a).map List.length).sum + (labelsL a).length ≤ a.length + 1 := by
  unfold labelsL
  split
  · rw [splitL_sum]; exact Nat.le_refl _
  · simp

theorem site_len (a : List UInt8) : (siteL a).length ≤ a.length + 1 := by
  unfold siteL
  have h1 := join_le 46 ((labelsL a).drop ((labelsL a).length - 2))
  have h2 := sum_drop (labelsL a) ((labelsL a).length - 2)
  have h3 := labels_len a
  omega

theorem Site_f (a : ByteArray) (ha : a.size < 4294967281) : BB.domain_Site.f a = some ⟨(siteL a.data.toList).toArray⟩ := by
  have hl := labels_list a
  have hlen := labels_len a.data.toList
  have hsz := Lib.size_eq a
  have hsite := site_len a.data.toList
  unfold BB.domain_Site.f
  rw [Labels_f a ha]
  simp only [Option.bind_some]
  generalize hp : (if hostL a.data.toList then pieces 46 a else []) = ps at hl ⊢
  have hpl : ps.length = (labelsL a.data.toList).length := by rw [← hl, List.length_map]
  have hmx : mx (wrap64 ((ps.length : Int) - 2)) 0 = ((ps.length - 2 : Nat) : Int) := by
    have : wrap64 ((ps.length : Int) - 2) = (ps.length : Int) - 2 := by unfold wrap64; omega
    rw [this]; unfold mx; split <;> omega
  rw [hmx, if_pos (by omega), if_pos (by omega)]
  have hj : Lib.join ((ps.drop (ps.length - 2)).map (·.data.toList)) [46] = siteL a.data.toList := by
    unfold siteL; rw [List.map_drop, hl, hpl]
  unfold strings_Join.f
  simp only [Int.toNat_natCast]
  rw [if_pos ⟨by simp; omega, by show (Lib.join _ [46]).length ≤ _; rw [hj]; omega⟩]
  simp only [Option.bind_some]
  unfold joinB
  rw [show (Lib.join ((ps.drop (ps.length - 2)).map (·.data.toList)) (⟨#[46]⟩ : ByteArray).data.toList) = siteL a.data.toList from hj]

theorem SameSite_f (n1 s1 h1 n2 s2 h2 : ByteArray) (p1 p2 : Int) (ha : h1.size < 4294967281) (hb : h2.size < 4294967281) :
    BB.domain_SameSite.f n1 s1 h1 p1 n2 s2 h2 p2 = some (sameSiteL s1.data.toList h1.data.toList s2.data.toList h2.data.toList) := by
  unfold BB.domain_SameSite.f sameSiteL
  rw [Site_f h1 ha, Site_f h2 hb]
  simp only [Option.bind_some, Go.ByteArray.toList_eq]
  by_cases e : s1.data.toList = s2.data.toList
  · rw [if_pos e, decide_eq_true e]
    by_cases e2 : siteL h1.data.toList = siteL h2.data.toList
    · rw [if_pos e2, decide_eq_true e2]
      congr 1
      rw [Bool.eq_iff_iff]
      simp
    · rw [if_neg e2, decide_eq_false e2]; rfl
  · rw [if_neg e, decide_eq_false e]; rfl
end Go.Proofs.YtmelefiodhnlpaaDoor
