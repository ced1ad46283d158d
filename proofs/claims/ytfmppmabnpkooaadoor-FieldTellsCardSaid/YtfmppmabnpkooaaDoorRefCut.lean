/- moatref1.Cut, moatref3.List in plain words: the pieces; the list that they are. -/
import Derived.Test.YtfmppmabnpkooaaDoorRefTrim
import Derived.Test.YtfmppmabnpkooaaDoorRefLower
set_option linter.unusedSimpArgs false
set_option linter.unusedVariables false
namespace Go.Proofs.YtfmppmabnpkooaaDoor
open Go Go.RowKit Go.Proofs.YtfmppmabnpkooaaDoorW.PrintWords Go.Proofs.YtfmppmabnpkooaaDoorW.PrintLast Go.Proofs.YtfmppmabnpkooaaDoorW.PrintMore

theorem texts_inj : ∀ a b : List ByteArray, a.map (·.data.toList) = b.map (·.data.toList) → a = b
  | [], [], _ => rfl
  | [], _ :: _, h => by cases h
  | _ :: _, [], h => by cases h
  | x :: a, y :: b, h => by
    simp only [List.map_cons, List.cons.injEq] at h
    rw [texts_inj a b h.2, bytes_of x y h.1]

theorem byte_eq (a c : UInt8) : ((a.toNat : Int) = (c.toNat : Int)) ↔ a = c :=
  ⟨fun h => UInt8.toNat_inj.1 (by omega), fun h => by rw [h]⟩

theorem ref_cut (s : ByteArray) (c : UInt8) (hs : s.size ≤ 1099511627776) : ∀ (d k : Nat) (acc : List ByteArray) (a p : Nat), p + d = s.size → a ≤ p → acc.length ≤ a → (∀ x ∈ (s.data.toList.drop a).take (p - a), x ≠ c) →
    ∃ r, BG.moatref1_Cut.l0 (k + d + 2) s (c.toNat : Int) acc (a : Int) (p : Int) = some r ∧ r.map (·.data.toList) = acc.map (·.data.toList) ++ splitL c (s.data.toList.drop a)
  | 0, k, acc, a, p, hp, ha, hacc, hno => by
    have hl := Lib.size_eq s
    have hw : wrap64 ((p : Int) + 1) = (p : Int) + 1 := by unfold wrap64; omega
    refine ⟨acc ++ [s.extract a p], ?_, ?_⟩
    · rw [show k + 0 + 2 = (k + 1) + 1 from rfl, BG.moatref1_Cut.l0.eq_2, if_pos (by omega), if_pos (by omega), if_pos (by omega), if_pos (by omega), if_pos (by omega), hw, BG.moatref1_Cut.l0.eq_2, if_neg (by omega)]
      rfl
    · rw [List.map_append, List.map_singleton, extract_list]
      rw [List.take_of_length_le (by rw [List.length_drop]; omega)] at hno ⊢
      rw [splitL_none c _ hno]
  | d + 1, k, acc, a, p, hp, ha, hacc, hno => by
    have hl := Lib.size_eq s
    have hpl : p < s.data.toList.length := by omega
    have hw : wrap64 ((p : Int) + 1) = ((p + 1 : Nat) : Int) := by unfold wrap64; omega
    have hb := bt_toNat s p (by omega)
    have hgrow : (s.data.toList.drop a).take (p + 1 - a) = (s.data.toList.drop a).take (p - a) ++ [s.data.toList[p]] := by
      rw [show p + 1 - a = (p - a) + 1 by omega, List.take_succ_eq_append_getElem (by rw [List.length_drop]; omega)]
      congr 2
      rw [List.getElem_drop]
      congr 1
      omega
    have hcut : s.data.toList.drop a = (s.data.toList.drop a).take (p - a) ++ s.data.toList[p] :: s.data.toList.drop (p + 1) := by
      have h1 := List.take_append_drop (p - a) (s.data.toList.drop a)
      rw [List.drop_drop, show a + (p - a) = p by omega, List.drop_eq_getElem_cons hpl] at h1
      exact h1.symm
    rw [show k + (d + 1) + 2 = (k + d + 2) + 1 by omega, BG.moatref1_Cut.l0.eq_2, if_pos (by omega), if_neg (by omega), if_pos (by omega), if_pos (by omega), hb, hw]
    by_cases hc : s.data.toList[p] = c
    · rw [if_pos ((byte_eq _ c).2 hc), if_pos (by omega), if_pos (by omega), if_pos (by omega)]
      obtain ⟨r, h1, h2⟩ := ref_cut s c hs d k (acc ++ [s.extract a p]) (p + 1) (p + 1) (by omega) (Nat.le_refl _) (by simp; omega) (by simp)
      refine ⟨r, by simpa using h1, ?_⟩
      rw [hc] at hcut
      have hs2 : splitL c (s.data.toList.drop a) = (s.data.toList.drop a).take (p - a) :: splitL c (s.data.toList.drop (p + 1)) := (congrArg (splitL c) hcut).trans (splitL_cut c _ _ hno)
      rw [h2, List.map_append, List.map_singleton, extract_list, hs2, List.append_assoc]
      rfl
    · rw [if_neg (fun h => hc ((byte_eq _ c).1 h))]
      obtain ⟨r, h1, h2⟩ := ref_cut s c hs d k acc a (p + 1) (by omega) (by omega) hacc (by
        rw [hgrow]
        intro x hx
        rcases List.mem_append.1 hx with h | h
        · exact hno x h
        · rw [List.mem_singleton.1 h]; exact hc)
      exact ⟨r, h1, h2⟩

theorem RefCut_f (k : Nat) (s : ByteArray) (c : UInt8) (hs : s.size ≤ 1099511627776) (hk : s.size + 1 < k) : BG.moatref1_Cut.f k s (c.toNat : Int) = some (pieces c s) := by
  obtain ⟨m, rfl⟩ : ∃ m, k = m + s.size + 2 := ⟨k - s.size - 2, by omega⟩
  obtain ⟨r, h1, h2⟩ := ref_cut s c hs s.size m [] 0 0 (by omega) (Nat.le_refl _) (by simp) (by simp)
  have e : r = pieces c s := texts_inj _ _ (by rw [h2, pieces_split]; simp)
  rw [← e]
  exact h1
end Go.Proofs.YtfmppmabnpkooaaDoor
