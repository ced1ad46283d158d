/- FieldTrims, the plain law: with blanks, tabs at both ends a text is trimmed to the same; small letters stay; a name is one in small letters, too. -/
import Derived.Test.YtfmppmabnpkooaaDoorBHx1
import Derived.Test.YtfmppmabnpkooaaDoorTrim
import Derived.Test.YtfmppmabnpkooaaDoorLowF
set_option linter.unusedSimpArgs false
set_option linter.unusedVariables false
namespace Go.Proofs.YtfmppmabnpkooaaDoor.Pure
open Go Go.RowKit Go.Proofs.YtfmppmabnpkooaaDoor Go.Proofs.YtfmppmabnpkooaaDoor.BH Go.Proofs.YtfmppmabnpkooaaDoorW.PrintMore Go.Proofs.YtfmppmabnpkooaaDoorW.PrintWords Go.Proofs.YtfmppmabnpkooaaDoorW.PrintLast

def gaps5 : List ByteArray := [(⟨#[]⟩ : ByteArray), (⟨#[32]⟩ : ByteArray), (⟨#[9]⟩ : ByteArray), (⟨#[32, 9, 32]⟩ : ByteArray), (⟨#[9, 9]⟩ : ByteArray)]
theorem gap_cases : ∀ n < 5, ((rdOf ByteArray.empty gaps5 ((n : Nat) : Int)).data.toList.all isg) = true ∧ (rdOf ByteArray.empty gaps5 ((n : Nat) : Int)).size ≤ 3 := by decide +kernel

theorem Trim_f (s : ByteArray) (hs : s.size ≤ 140737488355328) : BF.field_Trim.f s = some ⟨(trimL s.data.toList).toArray⟩ := by
  unfold BF.field_Trim.f strings_Trim.f
  rw [if_pos ⟨rfl, hs⟩]; rfl
theorem Lower_f (s : ByteArray) (hs : s.size ≤ 140737488355328) : field_Lower.f s = some ⟨(lowL s.data.toList).toArray⟩ := if_pos hs

theorem bt_ne (c : UInt8) (h : isg c = false) : ¬ ((c.toNat : Int) = 32) ∧ ¬ ((c.toNat : Int) = 9) := by
  have h2 : ∀ n < 256, isg (UInt8.ofNat n) = false → ¬ (((UInt8.ofNat n).toNat : Int) = 32) ∧ ¬ (((UInt8.ofNat n).toNat : Int) = 9) := by decide +kernel
  have := h2 c.toNat c.toNat_lt
  rw [UInt8.ofNat_toNat] at this
  exact this h

theorem FieldTrims : moatlaw3_FieldTrims.Pure := by
  intro a0 a1 _ _
  refine ⟨a0.size + 1, ?_⟩
  unfold moatlaw3_FieldTrims.f
  by_cases h200 : (a0.size : Int) > 200
  · rw [if_pos h200]; rfl
  · rw [if_neg h200, Option.bind_some, Low_f a1 5 (by decide) (by decide), Option.bind_some]
    have hl := lowN_lt a1 5 (by decide)
    rw [if_pos (by omega), if_pos (by show _ < (5 : Int); omega), show ([(⟨#[]⟩ : ByteArray), (⟨#[32]⟩ : ByteArray), (⟨#[9]⟩ : ByteArray), (⟨#[32, 9, 32]⟩ : ByteArray), (⟨#[9, 9]⟩ : ByteArray)] : List ByteArray) = gaps5 from rfl]
    obtain ⟨hg1, hg2⟩ := gap_cases _ (by omega : lowN a1 5 < 5)
    generalize rdOf ByteArray.empty gaps5 ((lowN a1 5 : Nat) : Int) = g at hg1 hg2 ⊢
    have hg : ∀ y ∈ g.data.toList, isg y = true := List.all_eq_true.1 hg1
    have hcat : (g ++ a0).size = g.size + a0.size := ByteArray.size_append
    have hcat2 : ((g ++ a0) ++ g).size = g.size + a0.size + g.size := by rw [ByteArray.size_append, ByteArray.size_append]
    have hT : ((g ++ a0) ++ g).data.toList = g.data.toList ++ a0.data.toList ++ g.data.toList := by simp [ByteArray.data_append]
    have hsz := Lib.size_eq a0
    have htl : (trimL a0.data.toList).length ≤ a0.size := by
      rw [hsz, trimL_eq]
      have h1 := (List.dropWhile_sublist isg (l := (a0.data.toList.reverse.dropWhile isg).reverse)).length_le
      have h2 := (List.dropWhile_sublist isg (l := a0.data.toList.reverse)).length_le
      simp only [List.length_reverse] at h1 h2
      omega
    obtain ⟨t, ht⟩ : ∃ t : ByteArray, (⟨(trimL a0.data.toList).toArray⟩ : ByteArray) = t := ⟨_, rfl⟩
    have htd : t.data.toList = trimL a0.data.toList := by rw [← ht]
    have hts : t.size = (trimL a0.data.toList).length := by rw [Lib.size_eq, htd]
    obtain ⟨u, hu⟩ : ∃ u : ByteArray, (⟨(lowL a0.data.toList).toArray⟩ : ByteArray) = u := ⟨_, rfl⟩
    have hud : u.data.toList = lowL a0.data.toList := by rw [← hu]
    have hus : u.size = a0.size := by rw [Lib.size_eq, hud, hsz]; simp [lowL]
    rw [Trim_f a0 (by omega), Option.bind_some, Lower_f a0 (by omega), Option.bind_some, ht, hu, if_pos (by omega), if_pos (by omega), Trim_f _ (by omega), Option.bind_some, hT, trim_gaps _ _ hg, ht, if_pos rfl,
      Trim_f t (by omega), Option.bind_some, htd, trim_twice, ht, if_pos rfl, Lower_f u (by omega), Option.bind_some, hud, lowL_twice, hu, if_pos rfl, if_pos (by omega),
      Name_f _ a0 (by omega) (by omega), Option.bind_some, Name_f _ u (by omega) (by omega), Option.bind_some, hud, nameL_low, if_neg (by simp)]
    rcases trim_cases a0.data.toList with h | ⟨⟨x, r, h1, hx⟩, ⟨y, q, h2, hy⟩⟩
    · rw [if_pos (by rw [Go.ByteArray.toList_eq, htd, h])]; rfl
    · have hpos : 0 < t.size := by rw [hts, h1]; simp
      rw [if_neg (by rw [Go.ByteArray.toList_eq, htd, h1]; simp), if_pos (by omega)]
      have hw : wrap64 ((t.size : Int) - 1) = ((t.size - 1 : Nat) : Int) := by unfold wrap64; omega
      have b0 : bt t ((0 : Nat) : Int) = (x.toNat : Int) := by
        rw [bt_toNat t 0 hpos]
        simp only [htd, h1, List.getElem_cons_zero]
      have b1 : bt t ((t.size - 1 : Nat) : Int) = (y.toNat : Int) := by
        have hlq : t.size = q.length + 1 := by rw [hts, h2]; simp
        rw [bt_toNat t (t.size - 1) (by omega)]
        have : t.data.toList[t.size - 1]? = some y := by
          rw [htd, h2, hlq]; simp
        rw [List.getElem?_eq_getElem (by rw [← Lib.size_eq]; omega)] at this
        rw [Option.some.inj this]
      rw [show bt t 0 = (x.toNat : Int) from b0, if_neg (bt_ne x hx).1, if_neg (bt_ne x hx).2, hw, if_pos (by omega), if_pos (by omega), b1, if_neg (bt_ne y hy).1, if_neg (bt_ne y hy).2]
      rfl
end Go.Proofs.YtfmppmabnpkooaaDoor.Pure
