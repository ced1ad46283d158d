/- moatref3.List in plain words: the same list as the package field's. -/
import Derived.Test.YtfmppmabnpkooaaDoorRefCut
import Derived.Test.YtfmppmabnpkooaaDoorList
set_option linter.unusedSimpArgs false
set_option linter.unusedVariables false
namespace Go.Proofs.YtfmppmabnpkooaaDoor
open Go Go.RowKit Go.Proofs.YtfmppmabnpkooaaDoorW.PrintWords Go.Proofs.YtfmppmabnpkooaaDoorW.PrintLast Go.Proofs.YtfmppmabnpkooaaDoorW.PrintMore

theorem item_bytes (x : ByteArray) (hx : x.size ≤ 1099511627776) (k : Nat) (hk : 3 * x.size + 10 < k) :
    ∃ t, BG.moatref3_Trim.f k x = some t ∧ moatref3_Lower.f t = some (itemB x) ∧ BG.moatref3_Name.f k (itemB x) = some (nameL (itemL x.data.toList)) := by
  refine ⟨⟨(trimL x.data.toList).toArray⟩, RefTrim_f k x (by omega) (by omega), ?_, ?_⟩
  · unfold moatref3_Lower.f
    rw [if_pos]
    · rfl
    · rw [Lib.size_eq] at hx ⊢
      have := trimL_len x.data.toList
      show (trimL x.data.toList).length ≤ _
      omega
  · have := itemB_size x
    exact RefName_f k (itemB x) (by omega) (by omega)

theorem outs_miss' (x : ByteArray) (ps : List ByteArray) (h : itemL x.data.toList = []) : outs (x :: ps) = outs ps := by simp [outs, itemB, h]
theorem outs_hit' (x : ByteArray) (ps : List ByteArray) (h : itemL x.data.toList ≠ []) : outs (x :: ps) = itemB x :: outs ps := by simp [outs, itemB, h]
theorem ref_list (ps : List ByteArray) (M : Nat) (hM : ∀ x ∈ ps, x.size ≤ 1099511627776 ∧ 3 * x.size + 10 < M) (hl : ps.length ≤ 1099511627777) : ∀ (d k i : Nat) (acc : List ByteArray), i + d = ps.length → acc.length ≤ i →
    BG.moatref3_List.l0 (k + d + M + 1) ps acc (i : Int) = some (if (ps.drop i).all itemOk then (acc ++ outs (ps.drop i), true) else ([], false))
  | 0, k, i, acc, hi, _ => by
    rw [BG.moatref3_List.l0.eq_2, if_neg (by omega), List.drop_of_length_le (by omega)]
    simp [outs]
  | d + 1, k, i, acc, hi, hacc => by
    have hil : i < ps.length := by omega
    have hw : wrap64 ((i : Int) + 1) = ((i + 1 : Nat) : Int) := by unfold wrap64; omega
    have hrd : rdOf ByteArray.empty ps (i : Int) = ps[i] := by simp [rdOf, List.getD_eq_getElem?_getD, List.getElem?_eq_getElem hil]
    obtain ⟨h1, h2⟩ := hM ps[i] (List.getElem_mem hil)
    obtain ⟨t, e1, e2, e3⟩ := item_bytes ps[i] h1 (k + (d + 1) + M) (by omega)
    have hd : ps.drop i = ps[i] :: ps.drop (i + 1) := List.drop_eq_getElem_cons hil
    have ih := fun acc h => ref_list ps M hM hl d k (i + 1) acc (by omega) h
    rw [show k + d + M + 1 = k + (d + 1) + M by omega] at ih
    rw [BG.moatref3_List.l0.eq_2, if_pos (by omega), if_pos (by omega), hrd, e1]
    simp only [Option.bind_some]
    rw [e2]
    simp only [Option.bind_some]
    rw [e3, hd, hw]
    simp only [Option.bind_some, Go.ByteArray.toList_eq]
    rw [show (itemB ps[i]).data.toList = itemL ps[i].data.toList from rfl]
    by_cases hE : itemL ps[i].data.toList = []
    · rw [if_pos hE, ih acc (by omega)]
      have : itemOk ps[i] = true := by simp [itemOk, hE]
      rw [show (ps[i] :: List.drop (i + 1) ps).all itemOk = (List.drop (i + 1) ps).all itemOk by rw [List.all_cons, this, Bool.true_and], outs_miss' _ _ hE]
    · rw [if_neg hE]
      cases hN : nameL (itemL ps[i].data.toList) with
      | true =>
        have : itemOk ps[i] = true := by simp [itemOk, hN]
        rw [if_pos rfl, if_pos (by omega), ih _ (by simp; omega), show (ps[i] :: List.drop (i + 1) ps).all itemOk = (List.drop (i + 1) ps).all itemOk by rw [List.all_cons, this, Bool.true_and], outs_hit' _ _ hE, List.append_assoc]
        rfl
      | false =>
        have : itemOk ps[i] = false := by simp [itemOk, hN, hE]
        rw [if_neg (by simp), show (ps[i] :: List.drop (i + 1) ps).all itemOk = false by rw [List.all_cons, this, Bool.false_and]]
        rfl

theorem RefList_f (k : Nat) (s : ByteArray) (hs : s.size ≤ 1000000) (hk : 8 * s.size + 40 < k) : BG.moatref3_List.f k s = some (listF (pieces 44 s)) := by
  have hcnt : (pieces 44 s).length ≤ s.size + 1 := by
    have h2 := congrArg List.length (pieces_split 44 s)
    rw [List.length_map, splitL_length] at h2
    have h3 := count_size s 44
    omega
  obtain ⟨m, rfl⟩ : ∃ m, k = m + (pieces 44 s).length + (3 * s.size + 11) + 1 := ⟨k - (pieces 44 s).length - (3 * s.size + 11) - 1, by omega⟩
  unfold BG.moatref3_List.f
  rw [show BG.moatref1_Cut.f (m + (pieces 44 s).length + (3 * s.size + 11) + 1) s 44 = some (pieces 44 s) from RefCut_f _ s 44 (by omega) (by omega)]
  simp only [Option.bind_some]
  have := ref_list (pieces 44 s) (3 * s.size + 11) (fun x hx => by have := piece_size 44 _ _ _ hx; omega) (by omega) (pieces 44 s).length m 0 [] (by omega) (by simp)
  rw [List.drop_zero, List.nil_append] at this
  exact this
end Go.Proofs.YtfmppmabnpkooaaDoor
