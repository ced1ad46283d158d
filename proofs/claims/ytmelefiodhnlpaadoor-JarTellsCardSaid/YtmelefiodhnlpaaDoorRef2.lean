/- moatref2, moatref8 in plain words: what the packages domain, jar answer. -/
import Derived.Test.YtmelefiodhnlpaaDoorRef1
import Derived.Test.YtmelefiodhnlpaaDoorJar
set_option linter.unusedSimpArgs false
set_option linter.unusedVariables false
namespace Go.Proofs.YtmelefiodhnlpaaDoor
open Go Go.RowKit Go.Proofs.YtmelefiodhnlpaaDoorW.PrintWords Go.Proofs.YtmelefiodhnlpaaDoorW.PrintLast Go.Proofs.YtmelefiodhnlpaaDoorW.PrintMore

theorem hostL_dot (b : List UInt8) : hostL (46 :: b) = false := by
  have h := splitL_cut 46 [] b (by simp)
  rw [List.nil_append] at h
  unfold hostL
  rw [h]
  rfl

theorem under_tail (a b : List UInt8) (h : b.length + 1 < a.length) : (46 :: b).isSuffixOf a = (decide (a.drop (a.length - b.length) = b) && decide (a[a.length - b.length - 1]'(by omega) = 46)) := by
  rw [Bool.eq_iff_iff, List.isSuffixOf_iff_suffix, List.suffix_iff_eq_drop, Bool.and_eq_true, decide_eq_true_eq, decide_eq_true_eq]
  have e : a.drop (a.length - (46 :: b).length) = a[a.length - b.length - 1]'(by omega) :: a.drop (a.length - b.length) := by
    rw [List.length_cons, show a.length - (b.length + 1) = a.length - b.length - 1 by omega, List.drop_eq_getElem_cons (by omega), show a.length - b.length - 1 + 1 = a.length - b.length by omega]
  rw [e, List.cons.injEq]
  exact ⟨fun h => ⟨h.2.symm, h.1.symm⟩, fun h => ⟨h.2.symm, h.1.symm⟩⟩

theorem under_head (a b : List UInt8) (ha : hostL a = true) (h : ¬ b.length + 1 < a.length) : (46 :: b).isSuffixOf a = false := by
  rw [← Bool.not_eq_true, List.isSuffixOf_iff_suffix]
  rintro ⟨p, hp⟩
  have hl := congrArg List.length hp
  simp only [List.length_append, List.length_cons] at hl
  have : p = [] := List.eq_nil_of_length_eq_zero (by omega)
  subst this
  rw [List.nil_append] at hp
  rw [← hp, hostL_dot] at ha
  cases ha

theorem RefUnder_f (k : Nat) (a b : ByteArray) (ha : a.size ≤ 1000000) (hb : b.size ≤ 1000000) (hk : 3 * a.size + 3 * b.size + 10 < k) : BE.moatref2_Under.f k a b = some (underL a.data.toList b.data.toList) := by
  have h1 := Lib.size_eq a
  have h2 := Lib.size_eq b
  unfold BE.moatref2_Under.f underL
  rw [RefHost_f k a ha (by omega), RefHost_f k b hb (by omega)]
  simp only [Option.bind_some, Go.ByteArray.toList_eq]
  cases hA : hostL a.data.toList with
  | false => rfl
  | true =>
    rw [if_pos rfl, Bool.true_and]
    cases hB : hostL b.data.toList with
    | false => rfl
    | true =>
      rw [if_pos rfl, Bool.true_and]
      by_cases he : a.data.toList = b.data.toList
      · rw [if_pos he, decide_eq_true he]; rfl
      · rw [if_neg he, decide_eq_false he, Bool.false_or]
        have w1 : wrap64 ((b.size : Int) + 1) = (b.size : Int) + 1 := by unfold wrap64; omega
        have w2 : wrap64 ((a.size : Int) - (b.size : Int)) = (a.size : Int) - (b.size : Int) := by unfold wrap64; omega
        rw [w1, w2]
        by_cases hl : b.size + 1 < a.size
        · have w3 : wrap64 ((a.size : Int) - (b.size : Int) - 1) = ((a.size - b.size - 1 : Nat) : Int) := by unfold wrap64; omega
          have w4 : ((a.size : Int) - (b.size : Int)).toNat = a.size - b.size := by omega
          rw [w3, w4, if_pos (by omega), if_pos (by omega), if_pos (by omega), under_tail _ _ (by omega)]
          have hx : (a.extract (a.size - b.size) a.size).data.toList = a.data.toList.drop (a.data.toList.length - b.data.toList.length) := by
            rw [extract_list, List.take_of_length_le (by rw [List.length_drop]; omega), h1, h2]
          rw [hx]
          by_cases hd : a.data.toList.drop (a.data.toList.length - b.data.toList.length) = b.data.toList
          · rw [if_pos hd, decide_eq_true hd, Bool.true_and, if_pos (by omega), if_pos (by omega), bt_toNat a (a.size - b.size - 1) (by omega)]
            have hg : a.data.toList[a.size - b.size - 1]'(by omega) = a.data.toList[a.data.toList.length - b.data.toList.length - 1]'(by omega) := by first | (congr 1; omega) | congr 1
            rw [hg]
            generalize a.data.toList[a.data.toList.length - b.data.toList.length - 1]'(by omega) = c
            congr 1
            rw [Bool.eq_iff_iff, beq_iff_eq, decide_eq_true_eq]
            exact ⟨fun h => UInt8.toNat_inj.1 (by have : (46 : UInt8).toNat = 46 := rfl; omega), fun h => by rw [h]; rfl⟩
          · rw [if_neg hd, decide_eq_false hd]; rfl
        · rw [if_neg (by omega), under_head _ _ hA (by omega)]

theorem RefLabels_f (k : Nat) (a : ByteArray) (ha : a.size ≤ 1000000) (hk : 3 * a.size + 10 < k) : BE.moatref2_Labels.f k a = some (if hostL a.data.toList then pieces 46 a else []) := by
  unfold BE.moatref2_Labels.f
  rw [RefHost_f k a ha hk]
  simp only [Option.bind_some]
  cases hostL a.data.toList with
  | false => rfl
  | true =>
    rw [if_pos rfl, show BE.moatref1_Cut.f k a 46 = some (pieces 46 a) from RefCut_f k a 46 (by omega) (by omega)]
    rfl

theorem RefSite_f (k : Nat) (a : ByteArray) (ha : a.size ≤ 1000000) (hk : 3 * a.size + 10 < k) : BE.moatref2_Site.f k a = some ⟨(siteL a.data.toList).toArray⟩ := by
  have hl := labels_list a
  have hsz := Lib.size_eq a
  have hps : ∀ x ∈ (if hostL a.data.toList then pieces 46 a else []), x.size ≤ 1000000 := fun x hx => by
    split at hx
    · have := piece_size 46 _ _ _ hx; omega
    · cases hx
  have hone : (if hostL a.data.toList then pieces 46 a else []).length = 1 → siteL a.data.toList = a.data.toList := fun h => by
    unfold siteL
    have h1 : (labelsL a.data.toList).length = 1 := by rw [← hl, List.length_map]; exact h
    unfold labelsL at h1 ⊢
    split at h1
    · rename_i hh
      rw [if_pos hh, h1]
      exact join_splitL 46 _
    · simp at h1
  have hcnt : (if hostL a.data.toList then pieces 46 a else []).length ≤ 1000001 := by
    split
    · have h2 := congrArg List.length (pieces_split 46 a)
      rw [List.length_map, splitL_length] at h2
      have h3 := count_size a 46
      omega
    · simp
  unfold BE.moatref2_Site.f
  rw [RefLabels_f k a ha hk]
  simp only [Option.bind_some]
  generalize (if hostL a.data.toList then pieces 46 a else []) = ps at hl hps hone hcnt ⊢
  have hpl : ps.length = (labelsL a.data.toList).length := by rw [← hl, List.length_map]
  by_cases h2 : ps.length < 2
  · rw [if_pos (by omega)]
    by_cases h1 : ps.length = 1
    · rw [if_pos (by omega)]
      exact congrArg some (bytes_of _ _ (by rw [hone h1]))
    · rw [if_neg (by omega)]
      refine congrArg some (bytes_of _ _ ?_)
      have : labelsL a.data.toList = [] := List.eq_nil_of_length_eq_zero (by omega)
      show ([] : List UInt8) = siteL a.data.toList
      unfold siteL
      rw [this]; rfl
  · have w1 : wrap64 ((ps.length : Int) - 2) = ((ps.length - 2 : Nat) : Int) := by unfold wrap64; omega
    have w2 : wrap64 ((ps.length : Int) - 1) = ((ps.length - 1 : Nat) : Int) := by unfold wrap64; omega
    have r1 : rdOf ByteArray.empty ps ((ps.length - 2 : Nat) : Int) = ps[ps.length - 2]'(by omega) := by
      have : ps.length - 2 < ps.length := by omega
      simp only [rdOf, Int.toNat_natCast, List.getD_eq_getElem?_getD, List.getElem?_eq_getElem this, Option.getD_some]
    have r2 : rdOf ByteArray.empty ps ((ps.length - 1 : Nat) : Int) = ps[ps.length - 1]'(by omega) := by
      have : ps.length - 1 < ps.length := by omega
      simp only [rdOf, Int.toNat_natCast, List.getD_eq_getElem?_getD, List.getElem?_eq_getElem this, Option.getD_some]
    have s1 := hps _ (List.getElem_mem (show ps.length - 2 < ps.length by omega))
    have s2 := hps _ (List.getElem_mem (show ps.length - 1 < ps.length by omega))
    rw [if_neg (by omega), w1, w2, r1, r2, if_pos (by omega), if_pos (by omega), if_pos (by omega), if_pos (by omega), if_pos (by omega), if_pos (by
      rw [ByteArray.size_append, show (⟨#[46]⟩ : ByteArray).size = 1 from rfl]
      omega)]
    refine congrArg some (bytes_of _ _ ?_)
    have e : (labelsL a.data.toList).drop ((labelsL a.data.toList).length - 2) = [(ps[ps.length - 2]'(by omega)).data.toList, (ps[ps.length - 1]'(by omega)).data.toList] := by
      rw [← hpl, ← hl, ← List.map_drop, List.drop_eq_getElem_cons (by omega), List.drop_eq_getElem_cons (by omega), List.drop_of_length_le (by omega)]
      have hx : ps.length - 2 + 1 = ps.length - 1 := by omega
      simp only [List.map_cons, List.map_nil, hx]
    show _ = siteL a.data.toList
    unfold siteL
    rw [e, join_cons2, Lib.join_one]
    simp

theorem RefSameSite_f (k : Nat) (n1 s1 h1 n2 s2 h2 : ByteArray) (p1 p2 : Int) (ha : h1.size ≤ 1000000) (hb : h2.size ≤ 1000000) (hk : 3 * h1.size + 3 * h2.size + 10 < k) :
    BE.moatref2_SameSite.f k n1 s1 h1 p1 n2 s2 h2 p2 = some (sameSiteL s1.data.toList h1.data.toList s2.data.toList h2.data.toList) := by
  unfold BE.moatref2_SameSite.f sameSiteL
  rw [RefSite_f k h1 ha (by omega), RefSite_f k h2 hb (by omega)]
  simp only [Option.bind_some, Go.ByteArray.toList_eq]
  by_cases e : s1.data.toList = s2.data.toList
  · rw [if_pos e, decide_eq_true e]
    by_cases e2 : siteL h1.data.toList = siteL h2.data.toList
    · rw [if_pos e2, decide_eq_true e2]
      congr 1
      rw [Bool.eq_iff_iff]
      simp
    · rw [if_neg e2, decide_eq_false e2]; rfl
  · rw [if_neg e, decide_eq_false e]; rfl

theorem RefHead_f (a b : ByteArray) : BE.moatref1_Head.f a b = some (if b.data.toList.isPrefixOf a.data.toList then (a.extract b.size a.size, true) else (a, false)) := by
  have h1 := Lib.size_eq a
  have h2 := Lib.size_eq b
  unfold BE.moatref1_Head.f
  by_cases hl : a.size < b.size
  · rw [if_pos (by omega)]
    rw [if_neg]
    intro h
    have := prefix_size h
    omega
  · rw [if_neg (by omega), if_pos (by omega), if_pos (by omega)]
    simp only [Int.toNat_natCast, Go.ByteArray.toList_eq]
    rw [extract_list]
    simp only [List.drop_zero, Nat.sub_zero]
    have e : (a.data.toList.take b.size = b.data.toList) ↔ b.data.toList.isPrefixOf a.data.toList = true := by
      rw [List.isPrefixOf_iff_prefix, List.prefix_iff_eq_take, ← h2]
      exact eq_comm
    by_cases hp : b.data.toList.isPrefixOf a.data.toList = true
    · rw [if_pos (e.2 hp), if_pos hp]
    · rw [if_neg (fun h => hp (e.1 h)), if_neg hp]

theorem RefGoes_f (n : ByteArray) (o : Int) (d cp : ByteArray) (s h : Bool) (m : Int) (near top : Bool) (method : ByteArray) :
    BE.moatref8_Goes.f n o d cp s h m near top method = some (goesL m near top method.data.toList) := by
  unfold BE.moatref8_Goes.f goesL
  simp only [Go.ByteArray.toList_eq]
  have hh : (method.data.toList == [72, 69, 65, 68]) = decide (method.data.toList = [72, 69, 65, 68]) := by rw [Bool.eq_iff_iff]; simp
  rw [hh]
  cases near with
  | true => simp
  | false =>
    by_cases h1 : m = 1
    · rw [if_neg (by simp), if_pos h1, decide_eq_true h1]; rfl
    · rw [if_neg (by simp), if_neg h1, decide_eq_false h1]
      by_cases h2 : m = 2
      · rw [if_pos h2, decide_eq_true h2]
        cases top with
        | false => rfl
        | true =>
          by_cases h3 : method.data.toList = [71, 69, 84]
          · rw [if_pos rfl, if_pos h3, decide_eq_true h3]; rfl
          · rw [if_pos rfl, if_neg h3, decide_eq_false h3]; rfl
      · rw [if_neg h2, decide_eq_false h2]; rfl
end Go.Proofs.YtmelefiodhnlpaaDoor
