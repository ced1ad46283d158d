/- field.Name in plain words: each byte is a letter, a digit or one of the signs; from 1 to 40 bytes. -/
import Derived.Test.YtfmppmabnpkooaaDoorBFx1
import Derived.Test.YtfmppmabnpkooaaDoorLower
set_option linter.unusedSimpArgs false
set_option linter.unusedVariables false
namespace Go.Proofs.YtfmppmabnpkooaaDoor
open Go Go.RowKit Go.Proofs.YtfmppmabnpkooaaDoorW.PrintWords Go.Proofs.YtfmppmabnpkooaaDoorW.PrintLast Go.Proofs.YtfmppmabnpkooaaDoorW.PrintMore

def signsL : List UInt8 := [33, 35, 36, 37, 38, 39, 42, 43, 45, 46, 94, 95, 124, 126, 96]
def tokB (c : UInt8) : Bool := (decide (97 ≤ c.toNat) && decide (c.toNat ≤ 122)) || ((decide (65 ≤ c.toNat) && decide (c.toNat ≤ 90)) || ((decide (48 ≤ c.toNat) && decide (c.toNat ≤ 57)) || signsL.contains c))
def nameL (l : List UInt8) : Bool := l.all tokB && (decide (1 ≤ l.length) && decide (l.length ≤ 40))

theorem signs_index (c : UInt8) : (Lib.indexByte signsL c < 0) ↔ signsL.contains c = false := by
  have h : ∀ n < 256, (Lib.indexByte signsL (UInt8.ofNat n) < 0) ↔ signsL.contains (UInt8.ofNat n) = false := by decide +kernel
  have := h c.toNat c.toNat_lt
  rwa [UInt8.ofNat_toNat] at this

theorem bt_toNat (s : ByteArray) (j : Nat) (h : j < s.size) : bt s j = ((s.data.toList[j]'(by rw [← Lib.size_eq]; exact h)).toNat : Int) := by
  rw [← bt_at s j (by simpa using h)]
  simp [ByteArray.getElem_eq_getElem_data]

theorem name_end (k : Nat) (s : ByteArray) (j : Nat) (h : s.size ≤ j) : BF.field_Name.l0 (k + 1) s (s.size : Int) (j : Int) = some (decide (1 ≤ s.size) && decide (s.size ≤ 40)) := by
  simp only [BF.field_Name.l0]
  rw [if_neg (by omega)]
  by_cases h1 : (s.size : Int) ≥ 1
  · rw [if_pos h1, decide_eq_true (show 1 ≤ s.size by omega), Bool.true_and]
    congr 1
    exact decide_eq_decide.2 (by omega)
  · rw [if_neg h1, decide_eq_false (show ¬ 1 ≤ s.size by omega)]; rfl

theorem name_step (k : Nat) (s : ByteArray) (j : Nat) (h : j < s.size) (hj : s.size ≤ 140737488355328) :
    BF.field_Name.l0 (k + 1) s (s.size : Int) (j : Int) = if tokB (s.data.toList[j]'(by rw [← Lib.size_eq]; exact h)) then BF.field_Name.l0 k s (s.size : Int) ((j + 1 : Nat) : Int) else some false := by
  have hb := bt_toNat s j h
  simp only [BF.field_Name.l0]
  have hw : wrap64 ((j : Int) + 1) = ((j + 1 : Nat) : Int) := by unfold wrap64; omega
  rw [if_pos (by omega), if_pos (by omega), if_pos (by omega), hw, hb]
  generalize s.data.toList[j]'(by rw [← Lib.size_eq]; exact h) = c
  generalize BF.field_Name.l0 k s (s.size : Int) ((j + 1 : Nat) : Int) = nx
  have hi := signs_index c
  have hc : ((c.toNat : Int)).toNat.toUInt8 = c := by simp
  unfold strings_IndexByte.f
  rw [hc, show (⟨#[33, 35, 36, 37, 38, 39, 42, 43, 45, 46, 94, 95, 124, 126, 96]⟩ : ByteArray).data.toList = signsL from rfl]
  simp only [Option.bind_some]
  unfold tokB
  by_cases s1 : Lib.indexByte signsL c < 0
  · rw [hi.1 s1]
    simp only [if_pos s1, Bool.or_false]
    have i1 : ((c.toNat : Int) < 97) ↔ c.toNat < 97 := by omega
    have i2 : ((c.toNat : Int) > 122) ↔ 122 < c.toNat := by omega
    have i3 : ((c.toNat : Int) < 65) ↔ c.toNat < 65 := by omega
    have i4 : ((c.toNat : Int) > 90) ↔ 90 < c.toNat := by omega
    have i5 : ((c.toNat : Int) < 48) ↔ c.toNat < 48 := by omega
    have i6 : ((c.toNat : Int) > 57) ↔ 57 < c.toNat := by omega
    have j1 : (97 ≤ c.toNat) ↔ ¬ c.toNat < 97 := by omega
    have j2 : (c.toNat ≤ 122) ↔ ¬ 122 < c.toNat := by omega
    have j3 : (65 ≤ c.toNat) ↔ ¬ c.toNat < 65 := by omega
    have j4 : (c.toNat ≤ 90) ↔ ¬ 90 < c.toNat := by omega
    have j5 : (48 ≤ c.toNat) ↔ ¬ c.toNat < 48 := by omega
    have j6 : (c.toNat ≤ 57) ↔ ¬ 57 < c.toNat := by omega
    simp only [i1, i2, i3, i4, i5, i6, j1, j2, j3, j4, j5, j6]
    have o1 : c.toNat < 65 → c.toNat < 97 := by omega
    have o2 : c.toNat < 48 → c.toNat < 65 := by omega
    clear i1 i2 i3 i4 i5 i6 j1 j2 j3 j4 j5 j6 hi hb hc s1
    by_cases h1 : c.toNat < 97 <;> by_cases h2 : 122 < c.toNat <;> by_cases h3 : c.toNat < 65 <;> by_cases h4 : 90 < c.toNat <;> by_cases h5 : c.toNat < 48 <;> by_cases h6 : 57 < c.toNat <;> first | (exfalso; omega) | simp only [h1, h2, h3, h4, h5, h6, if_true, if_false, decide_true, decide_false, not_true_eq_false, not_false_eq_true, Bool.and_true, Bool.and_false, Bool.or_true, Bool.or_false, Bool.true_and, Bool.false_and, Bool.true_or, Bool.false_or, Bool.false_eq_true, ite_self]
  · have : signsL.contains c = true := by cases hh : signsL.contains c with | true => rfl | false => exact absurd (hi.2 hh) s1
    rw [this]
    simp only [if_neg s1, Bool.or_true, if_true, ite_self]

theorem name_loop (s : ByteArray) (hs : s.size ≤ 140737488355328) : ∀ (d k j : Nat), j + d = s.size →
    BF.field_Name.l0 (k + d + 1) s (s.size : Int) (j : Int) = some ((s.data.toList.drop j).all tokB && (decide (1 ≤ s.size) && decide (s.size ≤ 40))) := by
  intro d
  induction d with
  | zero =>
    intro k j h
    rw [show k + 0 + 1 = k + 1 from rfl, name_end k s j (by omega), List.drop_of_length_le (by rw [← Lib.size_eq]; omega)]
    rfl
  | succ d ih =>
    intro k j h
    have hl : j < s.data.toList.length := by rw [← Lib.size_eq]; omega
    rw [show k + (d + 1) + 1 = (k + d + 1) + 1 by omega, name_step _ s j (by omega) hs, List.drop_eq_getElem_cons hl, List.all_cons]
    cases tokB s.data.toList[j] with
    | true => rw [if_pos rfl, ih k (j + 1) (by omega), Bool.true_and]
    | false => rw [if_neg (by simp)]; rfl

theorem Name_f (k : Nat) (s : ByteArray) (hs : s.size ≤ 140737488355328) (hk : s.size < k) : BF.field_Name.f k s = some (nameL s.data.toList) := by
  obtain ⟨m, rfl⟩ : ∃ m, k = m + s.size + 1 := ⟨k - s.size - 1, by omega⟩
  have := name_loop s hs s.size m 0 (by omega)
  rw [List.drop_zero] at this
  unfold nameL
  rw [← Lib.size_eq]
  exact this
end Go.Proofs.YtfmppmabnpkooaaDoor
