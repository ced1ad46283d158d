/- moatref1, moatref2 in plain words: what the packages url, domain answer. -/
import Derived.Test.YtmelefiodhnlpaaDoorBEx4
import Derived.Test.YtmelefiodhnlpaaDoorPlain
set_option linter.unusedSimpArgs false
set_option linter.unusedVariables false
namespace Go.Proofs.YtmelefiodhnlpaaDoor
open Go Go.RowKit Go.Proofs.YtmelefiodhnlpaaDoorW.PrintWords Go.Proofs.YtmelefiodhnlpaaDoorW.PrintLast Go.Proofs.YtmelefiodhnlpaaDoorW.PrintMore

theorem bytes_of (s t : ByteArray) (h : s.data.toList = t.data.toList) : s = t := ByteArray.ext (Array.toList_inj.1 h)
theorem bt_toNat (s : ByteArray) (j : Nat) (h : j < s.size) : bt s j = ((s.data.toList[j]'(by rw [← Lib.size_eq]; exact h)).toNat : Int) := bt_list s j (by rw [← Lib.size_eq]; exact h)
theorem texts_inj : ∀ a b : List ByteArray, a.map (·.data.toList) = b.map (·.data.toList) → a = b
  | [], [], _ => rfl
  | [], _ :: _, h => by cases h
  | _ :: _, [], h => by cases h
  | x :: a, y :: b, h => by
    simp only [List.map_cons, List.cons.injEq] at h
    rw [texts_inj a b h.2, bytes_of x y h.1]

theorem byte_eq (a c : UInt8) : ((a.toNat : Int) = (c.toNat : Int)) ↔ a = c :=
  ⟨fun h => UInt8.toNat_inj.1 (by omega), fun h => by rw [h]⟩

theorem ref_cut (s : ByteArray) (c : UInt8) (hs : s.size ≤ 1099511627776) : ∀ (d k : Nat) (acc : List ByteArray) (a p : Nat), p + d = s.size → a ≤ p → acc.length ≤ a → (∀ x ∈ (s.data.toList.drop a).take (p - a), x ≠ c) →
    ∃ r, BE.moatref1_Cut.l0 (k + d + 2) s (c.toNat : Int) acc (a : Int) (p : Int) = some r ∧ r.map (·.data.toList) = acc.map (·.data.toList) ++ splitL c (s.data.toList.drop a)
  | 0, k, acc, a, p, hp, ha, hacc, hno => by
    have hl := Lib.size_eq s
    have hw : wrap64 ((p : Int) + 1) = (p : Int) + 1 := by unfold wrap64; omega
    refine ⟨acc ++ [s.extract a p], ?_, ?_⟩
    · rw [show k + 0 + 2 = (k + 1) + 1 from rfl, BE.moatref1_Cut.l0.eq_2, if_pos (by omega), if_pos (by omega), if_pos (by omega), if_pos (by omega), if_pos (by omega), hw, BE.moatref1_Cut.l0.eq_2, if_neg (by omega)]
      rfl
    · rw [List.map_append, List.map_singleton, extract_list]
      rw [List.take_of_length_le (by rw [List.length_drop]; omega)] at hno ⊢
      rw [splitL_none c _ hno]
  | d + 1, k, acc, a, p, hp, ha, hacc, hno => by
    have hl := Lib.size_eq s
    have hpl : p < s.data.toList.length := by omega
    have hw : wrap64 ((p : Int) + 1) = ((p + 1 : Nat) : Int) := by unfold wrap64; omega
    have hb := bt_toNat s p (by omega)
    have hgrow : (s.data.toList.drop a).take (p + 1 - a) = (s.data.toList.drop a).take (p - a) ++ [s.data.toList[p]] := by
      rw [show p + 1 - a = (p - a) + 1 by omega, List.take_succ_eq_append_getElem (by rw [List.length_drop]; omega)]
      congr 2
      rw [List.getElem_drop]
      congr 1
      omega
    have hcut : s.data.toList.drop a = (s.data.toList.drop a).take (p - a) ++ s.data.toList[p] :: s.data.toList.drop (p + 1) := by
      have h1 := List.take_append_drop (p - a) (s.data.toList.drop a)
      rw [List.drop_drop, show a + (p - a) = p by omega, List.drop_eq_getElem_cons hpl] at h1
      exact h1.symm
    rw [show k + (d + 1) + 2 = (k + d + 2) + 1 by omega, BE.moatref1_Cut.l0.eq_2, if_pos (by omega), if_neg (by omega), if_pos (by omega), if_pos (by omega), hb, hw]
    by_cases hc : s.data.toList[p] = c
    · rw [if_pos ((byte_eq _ c).2 hc), if_pos (by omega), if_pos (by omega), if_pos (by omega)]
      obtain ⟨r, h1, h2⟩ := ref_cut s c hs d k (acc ++ [s.extract a p]) (p + 1) (p + 1) (by omega) (Nat.le_refl _) (by simp; omega) (by simp)
      refine ⟨r, by simpa using h1, ?_⟩
      rw [hc] at hcut
      have hs2 : splitL c (s.data.toList.drop a) = (s.data.toList.drop a).take (p - a) :: splitL c (s.data.toList.drop (p + 1)) := (congrArg (splitL c) hcut).trans (splitL_cut c _ _ hno)
      rw [h2, List.map_append, List.map_singleton, extract_list, hs2, List.append_assoc]
      rfl
    · rw [if_neg (fun h => hc ((byte_eq _ c).1 h))]
      obtain ⟨r, h1, h2⟩ := ref_cut s c hs d k acc a (p + 1) (by omega) (by omega) hacc (by
        rw [hgrow]
        intro x hx
        rcases List.mem_append.1 hx with h | h
        · exact hno x h
        · rw [List.mem_singleton.1 h]; exact hc)
      exact ⟨r, h1, h2⟩

theorem RefCut_f (k : Nat) (s : ByteArray) (c : UInt8) (hs : s.size ≤ 1099511627776) (hk : s.size + 1 < k) : BE.moatref1_Cut.f k s (c.toNat : Int) = some (pieces c s) := by
  obtain ⟨m, rfl⟩ : ∃ m, k = m + s.size + 2 := ⟨k - s.size - 2, by omega⟩
  obtain ⟨r, h1, h2⟩ := ref_cut s c hs s.size m [] 0 0 (by omega) (Nat.le_refl _) (by simp) (by simp)
  have e : r = pieces c s := texts_inj _ _ (by rw [h2, pieces_split]; simp)
  rw [← e]
  exact h1

/-! ### label, Host -/
theorem ref_label_step (k : Nat) (s : ByteArray) (j : Nat) (h : j < s.size) (hs : s.size ≤ 1099511627776) :
    BE.moatref1_label.l0 (k + 1) s (j : Int) = if okAt s.data.toList j = true then BE.moatref1_label.l0 k s ((j + 1 : Nat) : Int) else some false := by
  have hb := bt_toNat s j h
  have hl : j < s.data.toList.length := by rw [← Lib.size_eq]; exact h
  have hsz := Lib.size_eq s
  have hw : wrap64 ((j : Int) + 1) = ((j + 1 : Nat) : Int) := by unfold wrap64; omega
  have hw2 : wrap64 ((s.size : Int) - 1) = (s.size : Int) - 1 := by unfold wrap64; omega
  have hok : okAt s.data.toList j = (plainB s.data.toList[j] || (s.data.toList[j] == 45 && decide (j ≠ 0) && decide (j ≠ s.data.toList.length - 1))) := by
    unfold okAt; rw [List.getElem?_eq_getElem hl]
  rw [BE.moatref1_label.l0.eq_2, hb, hw, hw2, hok]
  generalize s.data.toList[j] = c
  have e45 : (c == 45) = decide (c.toNat = 45) := by
    rw [Bool.eq_iff_iff]
    simp only [beq_iff_eq, decide_eq_true_eq]
    exact ⟨fun e => by rw [e]; rfl, fun e => UInt8.toNat_inj.1 e⟩
  rw [e45]
  unfold plainB
  rw [if_pos (by omega), if_pos (by omega)]
  generalize BE.moatref1_label.l0 k s ((j + 1 : Nat) : Int) = nx
  have g1 : ((c.toNat : Int) ≥ 97) ↔ 97 ≤ c.toNat := by omega
  have g2 : ((c.toNat : Int) ≤ 122) ↔ c.toNat ≤ 122 := by omega
  have g3 : ((c.toNat : Int) ≥ 48) ↔ 48 ≤ c.toNat := by omega
  have g4 : ((c.toNat : Int) ≤ 57) ↔ c.toNat ≤ 57 := by omega
  have g5 : ((c.toNat : Int) = 45) ↔ c.toNat = 45 := by omega
  have g6 : ((j : Int) > 0) ↔ j ≠ 0 := by omega
  have g7 : ((j : Int) < (s.size : Int) - 1) ↔ j ≠ s.data.toList.length - 1 := by omega
  simp only [g1, g2, g3, g4, g5, g6, g7]
  generalize c.toNat = n
  clear g1 g2 g3 g4 g5 g6 g7 hok hb hw hw2 e45
  by_cases h1 : 97 ≤ n <;> by_cases h2 : n ≤ 122 <;> by_cases h3 : 48 ≤ n <;> by_cases h4 : n ≤ 57 <;> by_cases h5 : n = 45 <;> by_cases h6 : j ≠ 0 <;> by_cases h7 : j ≠ s.data.toList.length - 1 <;>
    first | (exfalso; omega) | simp [h1, h2, h3, h4, h5, h6, h7]

theorem ref_label_loop (s : ByteArray) (hs : s.size ≤ 1099511627776) : ∀ (d k j : Nat), j + d = s.size →
    BE.moatref1_label.l0 (k + d + 1) s (j : Int) = some ((List.range' j d).all (okAt s.data.toList) && (decide (1 ≤ s.size) && decide (s.size ≤ 20)))
  | 0, k, j, h => by
    rw [show k + 0 + 1 = k + 1 from rfl, BE.moatref1_label.l0.eq_2, if_neg (by omega)]
    by_cases h1 : 1 ≤ s.size
    · rw [if_pos (by omega)]
      simp only [List.range'_zero, List.all_nil, Bool.true_and, h1, decide_true, Option.some.injEq]
      rw [decide_eq_decide]; omega
    · rw [if_neg (by omega)]; simp [h1]
  | d + 1, k, j, h => by
    rw [show k + (d + 1) + 1 = (k + d + 1) + 1 by omega, ref_label_step _ s j (by omega) hs, List.range'_succ, List.all_cons]
    cases okAt s.data.toList j with
    | true => rw [if_pos rfl, ref_label_loop s hs d k (j + 1) (by omega), Bool.true_and]
    | false => rw [if_neg (by simp)]; rfl
theorem RefLabel_f (k : Nat) (s : ByteArray) (hs : s.size ≤ 1099511627776) (hk : s.size < k) : BE.moatref1_label.f k s = some (labelL s.data.toList) := by
  obtain ⟨m, rfl⟩ : ∃ m, k = m + s.size + 1 := ⟨k - s.size - 1, by omega⟩
  unfold BE.moatref1_label.f
  have := ref_label_loop s hs s.size m 0 (by omega)
  rw [show ((0 : Nat) : Int) = 0 from rfl] at this
  rw [this]
  have h2 := label_all s.data.toList
  rw [← Lib.size_eq] at h2
  rw [h2]
  unfold labelL
  rw [← Lib.size_eq]
  simp only [Bool.and_assoc]

theorem ref_host_loop (s : ByteArray) (ps : List ByteArray) (M : Nat) (hM : ∀ x ∈ ps, x.size ≤ 1099511627776 ∧ x.size < M) (hl : ps.length ≤ 1099511627777) : ∀ (d k i : Nat), i + d = ps.length →
    BE.moatref1_Host.l0 (k + d + M + 1) s ps (i : Int) = some ((ps.drop i).all (fun x => labelL x.data.toList) && decide (s.size ≤ 60))
  | 0, k, i, hi => by
    rw [BE.moatref1_Host.l0.eq_2, if_neg (by omega), List.drop_of_length_le (by omega)]
    simp only [List.all_nil, Bool.true_and, Option.some.injEq]
    rw [decide_eq_decide]; omega
  | d + 1, k, i, hi => by
    have hil : i < ps.length := by omega
    have hw : wrap64 ((i : Int) + 1) = ((i + 1 : Nat) : Int) := by unfold wrap64; omega
    have hrd : rdOf ByteArray.empty ps (i : Int) = ps[i] := by simp [rdOf, List.getD_eq_getElem?_getD, List.getElem?_eq_getElem hil]
    obtain ⟨h1, h2⟩ := hM ps[i] (List.getElem_mem hil)
    have hd : ps.drop i = ps[i] :: ps.drop (i + 1) := List.drop_eq_getElem_cons hil
    have ih := ref_host_loop s ps M hM hl d k (i + 1) (by omega)
    rw [show k + d + M + 1 = k + (d + 1) + M by omega] at ih
    rw [BE.moatref1_Host.l0.eq_2, if_pos (by omega), if_pos (by omega), hrd, RefLabel_f _ _ h1 (by omega), hd, hw]
    simp only [Option.bind_some, List.all_cons]
    cases labelL ps[i].data.toList with
    | true => rw [if_pos rfl, ih, Bool.true_and]
    | false => rw [if_neg (by simp)]; rfl
theorem RefHost_f (k : Nat) (s : ByteArray) (hs : s.size ≤ 1000000) (hk : 3 * s.size + 10 < k) : BE.moatref1_Host.f k s = some (hostL s.data.toList) := by
  have hcnt : (pieces 46 s).length ≤ s.size + 1 := by
    have h2 := congrArg List.length (pieces_split 46 s)
    rw [List.length_map, splitL_length] at h2
    have h3 := count_size s 46
    omega
  obtain ⟨m, rfl⟩ : ∃ m, k = m + (pieces 46 s).length + (s.size + 1) + 1 := ⟨k - (pieces 46 s).length - (s.size + 1) - 1, by omega⟩
  unfold BE.moatref1_Host.f
  rw [show BE.moatref1_Cut.f (m + (pieces 46 s).length + (s.size + 1) + 1) s 46 = some (pieces 46 s) from RefCut_f _ s 46 (by omega) (by omega)]
  simp only [Option.bind_some]
  have := ref_host_loop s (pieces 46 s) (s.size + 1) (fun x hx => by have := piece_size 46 _ _ _ hx; omega) (by omega) (pieces 46 s).length m 0 (by omega)
  rw [List.drop_zero, host_pieces] at this
  rw [show ((0 : Nat) : Int) = 0 from rfl] at this
  rw [this]
  unfold hostL
  rw [← Lib.size_eq]
end Go.Proofs.YtmelefiodhnlpaaDoor
