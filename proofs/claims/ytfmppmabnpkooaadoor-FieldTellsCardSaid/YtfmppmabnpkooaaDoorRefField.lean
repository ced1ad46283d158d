/- The document's own answers of chapter 3 in plain words: the same as the package field's. -/
import Derived.Test.YtfmppmabnpkooaaDoorBGx2
import Derived.Test.YtfmppmabnpkooaaDoorTrim
import Derived.Test.YtfmppmabnpkooaaDoorList
set_option linter.unusedSimpArgs false
set_option linter.unusedVariables false
namespace Go.Proofs.YtfmppmabnpkooaaDoor
open Go Go.RowKit Go.Proofs.YtfmppmabnpkooaaDoorW.PrintWords Go.Proofs.YtfmppmabnpkooaaDoorW.PrintLast Go.Proofs.YtfmppmabnpkooaaDoorW.PrintMore

/-! ### Name -/
theorem ref_j1 (k : Nat) (s : ByteArray) (j : Int) (c : UInt8) (ok : Bool) :
    BG.moatref3_Name.j1 (k + 2) s j (c.toNat : Int) ok = if (signsL.contains c || ok) = true then BG.moatref3_Name.l0 k s (wrap64 (j + 1)) else some false := by
  rw [BG.moatref3_Name.j1.eq_2]
  simp only [BG.moatref3_Name.j2.eq_2]
  generalize BG.moatref3_Name.l0 k s (wrap64 (j + 1)) = X
  have h : ∀ n < 256, ∀ v : Int, v = ((UInt8.ofNat n).toNat : Int) → (signsL.contains (UInt8.ofNat n) = (v == 33 || (v == 35 || (v == 36 || (v == 37 || (v == 38 || (v == 39 || (v == 42 || (v == 43 || (v == 45 || (v == 46 || (v == 94 || (v == 95 || (v == 124 || (v == 126 || v == 96)))))))))))))) ) := by
    have h2 : ∀ n < 256, (signsL.contains (UInt8.ofNat n) = (((UInt8.ofNat n).toNat : Int) == 33 || (((UInt8.ofNat n).toNat : Int) == 35 || (((UInt8.ofNat n).toNat : Int) == 36 || (((UInt8.ofNat n).toNat : Int) == 37 || (((UInt8.ofNat n).toNat : Int) == 38 || (((UInt8.ofNat n).toNat : Int) == 39 || (((UInt8.ofNat n).toNat : Int) == 42 || (((UInt8.ofNat n).toNat : Int) == 43 || (((UInt8.ofNat n).toNat : Int) == 45 || (((UInt8.ofNat n).toNat : Int) == 46 || (((UInt8.ofNat n).toNat : Int) == 94 || (((UInt8.ofNat n).toNat : Int) == 95 || (((UInt8.ofNat n).toNat : Int) == 124 || (((UInt8.ofNat n).toNat : Int) == 126 || ((UInt8.ofNat n).toNat : Int) == 96)))))))))))))) ) := by decide +kernel
    intro n hn v hv
    rw [hv]; exact h2 n hn
  have hc := h c.toNat c.toNat_lt (c.toNat : Int) (by rw [UInt8.ofNat_toNat])
  rw [UInt8.ofNat_toNat] at hc
  rw [hc]
  generalize (c.toNat : Int) = v
  clear hc h
  by_cases h1 : v = 33
  · subst h1; simp
  by_cases h2 : v = 35
  · subst h2; simp
  by_cases h3 : v = 36
  · subst h3; simp
  by_cases h4 : v = 37
  · subst h4; simp
  by_cases h5 : v = 38
  · subst h5; simp
  by_cases h6 : v = 39
  · subst h6; simp
  by_cases h7 : v = 42
  · subst h7; simp
  by_cases h8 : v = 43
  · subst h8; simp
  by_cases h9 : v = 45
  · subst h9; simp
  by_cases h10 : v = 46
  · subst h10; simp
  by_cases h11 : v = 94
  · subst h11; simp
  by_cases h12 : v = 95
  · subst h12; simp
  by_cases h13 : v = 124
  · subst h13; simp
  by_cases h14 : v = 126
  · subst h14; simp
  by_cases h15 : v = 96
  · subst h15; simp
  have e : ∀ a : Int, ¬ v = a → (v == a) = false := fun a h => by simpa using h
  rw [if_neg h1, if_neg h2, if_neg h3, if_neg h4, if_neg h5, if_neg h6, if_neg h7, if_neg h8, if_neg h9, if_neg h10, if_neg h11, if_neg h12, if_neg h13, if_neg h14,
    e _ h1, e _ h2, e _ h3, e _ h4, e _ h5, e _ h6, e _ h7, e _ h8, e _ h9, e _ h10, e _ h11, e _ h12, e _ h13, e _ h14, e _ h15]
  simp

theorem ref_name_step (k : Nat) (s : ByteArray) (j : Nat) (h : j < s.size) (hj : s.size ≤ 140737488355328) :
    BG.moatref3_Name.l0 (k + 3) s (j : Int) = if tokB (s.data.toList[j]'(by rw [← Lib.size_eq]; exact h)) then BG.moatref3_Name.l0 k s ((j + 1 : Nat) : Int) else some false := by
  have hb := bt_toNat s j h
  rw [BG.moatref3_Name.l0.eq_2, hb]
  generalize s.data.toList[j]'(by rw [← Lib.size_eq]; exact h) = c
  rw [if_pos (by omega), if_pos (by omega)]
  simp only [ref_j1]
  have hw : wrap64 ((j : Int) + 1) = ((j + 1 : Nat) : Int) := by unfold wrap64; omega
  rw [hw]
  generalize BG.moatref3_Name.l0 k s ((j + 1 : Nat) : Int) = nx
  unfold tokB
  have i1 : ((c.toNat : Int) ≥ 97) ↔ 97 ≤ c.toNat := by omega
  have i2 : ((c.toNat : Int) ≤ 122) ↔ c.toNat ≤ 122 := by omega
  have i3 : ((c.toNat : Int) ≥ 65) ↔ 65 ≤ c.toNat := by omega
  have i4 : ((c.toNat : Int) ≤ 90) ↔ c.toNat ≤ 90 := by omega
  have i5 : ((c.toNat : Int) ≥ 48) ↔ 48 ≤ c.toNat := by omega
  have i6 : ((c.toNat : Int) ≤ 57) ↔ c.toNat ≤ 57 := by omega
  simp only [i1, i2, i3, i4, i5, i6]
  generalize signsL.contains c = sg
  by_cases h1 : 97 ≤ c.toNat <;> by_cases h2 : c.toNat ≤ 122 <;> by_cases h3 : 65 ≤ c.toNat <;> by_cases h4 : c.toNat ≤ 90 <;> by_cases h5 : 48 ≤ c.toNat <;> by_cases h6 : c.toNat ≤ 57 <;>
    first | (exfalso; omega) | simp [h1, h2, h3, h4, h5, h6]

theorem ref_name_loop (s : ByteArray) (hs : s.size ≤ 140737488355328) : ∀ (d k j : Nat), j + d = s.size →
    BG.moatref3_Name.l0 (k + 3 * d + 1) s (j : Int) = some ((s.data.toList.drop j).all tokB && (decide (1 ≤ s.size) && decide (s.size ≤ 40))) := by
  intro d
  induction d with
  | zero =>
    intro k j h
    rw [show k + 3 * 0 + 1 = k + 1 from rfl, BG.moatref3_Name.l0.eq_2, if_neg (by omega), List.drop_of_length_le (by rw [← Lib.size_eq]; omega)]
    by_cases h1 : (s.size : Int) ≥ 1
    · rw [if_pos h1, decide_eq_true (show 1 ≤ s.size by omega)]
      show _ = some (true && (true && _))
      rw [Bool.true_and, Bool.true_and]
      congr 1
      exact decide_eq_decide.2 (by omega)
    · rw [if_neg h1, decide_eq_false (show ¬ 1 ≤ s.size by omega)]; rfl
  | succ d ih =>
    intro k j h
    have hl : j < s.data.toList.length := by rw [← Lib.size_eq]; omega
    rw [show k + 3 * (d + 1) + 1 = (k + 3 * d + 1) + 3 by omega, ref_name_step _ s j (by omega) hs, List.drop_eq_getElem_cons hl, List.all_cons]
    cases tokB s.data.toList[j] with
    | true => rw [if_pos rfl, ih k (j + 1) (by omega), Bool.true_and]
    | false => rw [if_neg (by simp)]; rfl

theorem RefName_f (k : Nat) (s : ByteArray) (hs : s.size ≤ 140737488355328) (hk : 3 * s.size < k) : BG.moatref3_Name.f k s = some (nameL s.data.toList) := by
  obtain ⟨m, rfl⟩ : ∃ m, k = m + 3 * s.size + 1 := ⟨k - 3 * s.size - 1, by omega⟩
  have := ref_name_loop s hs s.size m 0 (by omega)
  rw [List.drop_zero] at this
  unfold nameL
  rw [← Lib.size_eq]
  exact this
end Go.Proofs.YtfmppmabnpkooaaDoor
