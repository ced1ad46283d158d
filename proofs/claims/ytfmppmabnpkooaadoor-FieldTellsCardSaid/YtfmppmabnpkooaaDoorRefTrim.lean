/- moatref3.Trim in plain words: first from the left, then from the right: the same as trimL. -/
import Derived.Test.YtfmppmabnpkooaaDoorRefField
set_option linter.unusedSimpArgs false
set_option linter.unusedVariables false
namespace Go.Proofs.YtfmppmabnpkooaaDoor
open Go Go.RowKit Go.Proofs.YtfmppmabnpkooaaDoorW.PrintWords Go.Proofs.YtfmppmabnpkooaaDoorW.PrintLast Go.Proofs.YtfmppmabnpkooaaDoorW.PrintMore

def dl (l : List UInt8) : List UInt8 := l.dropWhile isg
def dr (l : List UInt8) : List UInt8 := (l.reverse.dropWhile isg).reverse
theorem dr_snoc (l : List UInt8) (x : UInt8) : dr (l ++ [x]) = if isg x then dr l else l ++ [x] := by
  unfold dr
  rw [List.reverse_append, List.reverse_singleton, List.singleton_append, List.dropWhile_cons]
  split <;> simp
theorem dr_nil : dr [] = [] := rfl

/-- Everything is blank ahead, or something stands. -/
theorem all_or (l : List UInt8) : (∀ x ∈ l, isg x = true) ∨ ∃ x ∈ l, isg x = false := by
  by_cases h : ∀ x ∈ l, isg x = true
  · exact .inl h
  · obtain ⟨x, hx⟩ := Classical.not_forall.1 h
    obtain ⟨hm, hn⟩ := Classical.not_imp.1 hx
    exact .inr ⟨x, hm, by simpa using hn⟩
theorem dr_all (l : List UInt8) (h : ∀ x ∈ l, isg x = true) : dr l = [] := by
  unfold dr
  have := drop_all isg l.reverse [] (fun y hy => h y (List.mem_reverse.1 hy))
  rw [List.append_nil] at this
  rw [this]; rfl
theorem dl_all (l : List UInt8) (h : ∀ x ∈ l, isg x = true) : dl l = [] := by
  have := drop_all isg l [] h
  rw [List.append_nil] at this
  exact this
theorem dr_append (g m : List UInt8) (h : ∃ x ∈ m, isg x = false) : dr (g ++ m) = g ++ dr m := by
  unfold dr
  rw [List.reverse_append, List.dropWhile_append]
  cases hd : m.reverse.dropWhile isg with
  | nil =>
    obtain ⟨x, hx, hn⟩ := h
    have : ∀ y ∈ m.reverse, isg y = true := by
      intro y hy
      have hsplit := List.takeWhile_append_dropWhile (p := isg) (l := m.reverse)
      rw [hd, List.append_nil] at hsplit
      rw [← hsplit] at hy
      exact List.all_eq_true.1 (List.all_takeWhile (p := isg) (l := m.reverse)) y hy
    have := this x (List.mem_reverse.2 hx)
    rw [hn] at this; cases this
  | cons y r => simp
theorem trim_swap (l : List UInt8) : dr (dl l) = trimL l := by
  rw [trimL_eq]
  show dr (dl l) = dl (dr l)
  have hsplit := List.takeWhile_append_dropWhile (p := isg) (l := l)
  have hg : ∀ y ∈ l.takeWhile isg, isg y = true := fun y hy => List.all_eq_true.1 (List.all_takeWhile (p := isg) (l := l)) y hy
  show dr (l.dropWhile isg) = dl (dr l)
  rcases all_or (l.dropWhile isg) with h | h
  · have hall : ∀ x ∈ l, isg x = true := by
      intro x hx
      rw [← hsplit] at hx
      rcases List.mem_append.1 hx with h1 | h1
      · exact hg x h1
      · exact h x h1
    rw [dr_all _ h, dr_all l hall]; rfl
  · have e : dr l = l.takeWhile isg ++ dr (l.dropWhile isg) := by
      have := dr_append (l.takeWhile isg) (l.dropWhile isg) h
      rw [hsplit] at this
      exact this
    rw [e]
    unfold dl
    rw [drop_all isg _ _ hg]
    rcases drop_head isg l with h1 | ⟨x, r, h1, hx⟩
    · rw [h1] at h; obtain ⟨x, hx, _⟩ := h; cases hx
    · rw [h1]
      have : dr (x :: r) = x :: dr r := by
        rcases all_or r with h2 | h2
        · have e2 : dr ([] ++ [x] ++ r) = [x] := by
            unfold dr
            rw [List.nil_append, List.reverse_append, drop_all isg r.reverse _ (fun y hy => h2 y (List.mem_reverse.1 hy)), List.reverse_singleton, drop_none isg x [] hx]; rfl
          rw [dr_all r h2]; exact e2
        · exact dr_append [x] r h2
      rw [this, drop_none isg x _ hx]

theorem isg_iff (c : UInt8) : isg c = true ↔ ((c.toNat : Int) = 32 ∨ (c.toNat : Int) = 9) := by
  have h : ∀ n < 256, (isg (UInt8.ofNat n) = true) ↔ (((UInt8.ofNat n).toNat : Int) = 32 ∨ ((UInt8.ofNat n).toNat : Int) = 9) := by decide +kernel
  have := h c.toNat c.toNat_lt
  rwa [UInt8.ofNat_toNat] at this

theorem bytes_of (s t : ByteArray) (h : s.data.toList = t.data.toList) : s = t := ByteArray.ext (Array.toList_inj.1 h)
theorem ref_l1 : ∀ (d k : Nat) (s : ByteArray), s.size = d → d ≤ 140737488355328 → BG.moatref3_Trim.l1 (k + d + 1) s = some ⟨(dr s.data.toList).toArray⟩
  | 0, k, s, h, _ => by
    have hn : s.data.toList = [] := List.eq_nil_of_length_eq_zero (by rw [← Lib.size_eq]; exact h)
    rw [show k + 0 + 1 = k + 1 from rfl, BG.moatref3_Trim.l1.eq_2, if_neg (by omega)]
    exact congrArg some (bytes_of _ _ (by rw [hn]; rfl))
  | d + 1, k, s, h, hd => by
    have hl : s.data.toList.length = d + 1 := by rw [← Lib.size_eq]; exact h
    have hw : wrap64 ((s.size : Int) - 1) = ((d : Nat) : Int) := by unfold wrap64; omega
    have hb := bt_toNat s d (by omega)
    have hs : s.data.toList = s.data.toList.take d ++ [s.data.toList[d]'(by omega)] := by
      rw [← List.take_succ_eq_append_getElem (by omega), List.take_of_length_le (by omega)]
    have hx : (s.extract 0 d).data.toList = s.data.toList.take d := by simp
    have hxs : (s.extract 0 d).size = d := by rw [Lib.size_eq, hx]; simp; omega
    have ih := ref_l1 d k (s.extract 0 d) hxs (by omega)
    rw [hx] at ih
    rw [show k + (d + 1) + 1 = (k + d + 1) + 1 by omega, BG.moatref3_Trim.l1.eq_2, hw, if_pos (by omega), if_pos (by omega), if_pos (by omega), hb]
    generalize hc : s.data.toList[d]'(by omega) = c at hs
    rw [Int.toNat_natCast]
    by_cases g : isg c = true
    · have e : dr s.data.toList = dr (s.data.toList.take d) := by
        have := dr_snoc (s.data.toList.take d) c
        rw [← hs, if_pos g] at this
        exact this
      rw [e, ← ih]
      rcases (isg_iff c).1 g with g1 | g1
      · rw [if_pos g1, if_pos (by omega)]
      · rw [if_neg (by omega), if_pos g1, if_pos (by omega)]
    · have g2 : ¬ ((c.toNat : Int) = 32 ∨ (c.toNat : Int) = 9) := fun hh => g ((isg_iff c).2 hh)
      rw [if_neg (by omega), if_neg (by omega)]
      refine congrArg some (bytes_of _ _ ?_)
      have := dr_snoc (s.data.toList.take d) c
      rw [← hs, if_neg g] at this
      rw [this]

theorem ref_l0 : ∀ (d k : Nat) (s : ByteArray), s.size = d → d ≤ 140737488355328 → BG.moatref3_Trim.l0 (k + 2 * d + 3) s = some ⟨(dr (dl s.data.toList)).toArray⟩
  | 0, k, s, h, _ => by
    have hn : s.data.toList = [] := List.eq_nil_of_length_eq_zero (by rw [← Lib.size_eq]; exact h)
    rw [show k + 2 * 0 + 3 = (k + 0 + 1) + 1 + 1 from rfl, BG.moatref3_Trim.l0.eq_2, if_neg (by omega), BG.moatref3_Trim.j1.eq_2, ref_l1 0 k s h (by omega), hn]
    rfl
  | d + 1, k, s, h, hd => by
    have hl : s.data.toList.length = d + 1 := by rw [← Lib.size_eq]; exact h
    have hb := bt_toNat s 0 (by omega)
    have hs : s.data.toList = (s.data.toList[0]'(by omega)) :: s.data.toList.drop 1 := by
      have := List.drop_eq_getElem_cons (l := s.data.toList) (i := 0) (by omega)
      simpa using this
    have hx : (s.extract 1 s.size).data.toList = s.data.toList.drop 1 := by
      rw [extract_list, List.take_of_length_le (by rw [List.length_drop]; omega)]
    have hxs : (s.extract 1 s.size).size = d := by rw [Lib.size_eq, hx, List.length_drop]; omega
    have ih := ref_l0 d k (s.extract 1 s.size) hxs (by omega)
    rw [hx] at ih
    have ih' : BG.moatref3_Trim.l0 (k + 2 * (d + 1) + 2) (s.extract 1 s.size) = some ⟨(dr (dl (s.data.toList.drop 1))).toArray⟩ := by
      have := ref_l0 d (k + 1) (s.extract 1 s.size) hxs (by omega)
      rw [hx] at this
      rw [show k + 2 * (d + 1) + 2 = k + 1 + 2 * d + 3 by omega]
      exact this
    rw [show k + 2 * (d + 1) + 3 = (k + 2 * (d + 1) + 2) + 1 by omega, BG.moatref3_Trim.l0.eq_2, if_pos (by omega), if_pos (by omega), show bt s 0 = _ from hb]
    generalize hc : s.data.toList[0]'(by omega) = c at hs
    by_cases g : isg c = true
    · have e : dl s.data.toList = dl (s.data.toList.drop 1) := by
        unfold dl
        conv => lhs; rw [hs]
        rw [List.dropWhile_cons, if_pos g]
      rw [e, ← ih']
      rcases (isg_iff c).1 g with g1 | g1
      · rw [if_pos g1, if_pos (by omega)]
      · rw [if_neg (by omega), if_pos g1, if_pos (by omega)]
    · have g2 : ¬ ((c.toNat : Int) = 32 ∨ (c.toNat : Int) = 9) := fun hh => g ((isg_iff c).2 hh)
      have e : dl s.data.toList = s.data.toList := by
        unfold dl
        rw [hs]
        exact drop_none isg c _ (by simpa using g)
      rw [if_neg (by omega), if_neg (by omega), show k + 2 * (d + 1) + 2 = ((k + d + 1) + (d + 1) + 1) + 1 by omega, BG.moatref3_Trim.j1.eq_2, ref_l1 (d + 1) (k + d + 1) s h hd, e]

theorem RefTrim_f (k : Nat) (s : ByteArray) (hs : s.size ≤ 140737488355328) (hk : 2 * s.size + 2 < k) : BG.moatref3_Trim.f k s = some ⟨(trimL s.data.toList).toArray⟩ := by
  obtain ⟨m, rfl⟩ : ∃ m, k = m + 2 * s.size + 3 := ⟨k - 2 * s.size - 3, by omega⟩
  unfold BG.moatref3_Trim.f
  rw [ref_l0 s.size m s rfl hs, trim_swap]
end Go.Proofs.YtfmppmabnpkooaaDoor
