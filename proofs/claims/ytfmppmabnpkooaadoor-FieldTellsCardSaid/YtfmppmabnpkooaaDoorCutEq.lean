/- strings.Cut at one byte in plain words: what stands ahead of the first such byte, and behind it. -/
import Derived.Test.YtfmppmabnpkooaaDoorBFx1
import Derived.Test.YtfmppmabnpkooaaDoorCut
set_option linter.unusedSimpArgs false
set_option linter.unusedVariables false
namespace Go.Proofs.YtfmppmabnpkooaaDoor
open Go Go.RowKit Go.Proofs.YtfmppmabnpkooaaDoorW.PrintWords Go.Proofs.YtfmppmabnpkooaaDoorW.PrintLast Go.Proofs.YtfmppmabnpkooaaDoorW.PrintMore

def cutA (c : UInt8) (l : List UInt8) : List UInt8 := l.takeWhile (· != c)
def cutZ (c : UInt8) (l : List UInt8) : List UInt8 := (l.dropWhile (· != c)).drop 1

theorem cut_none (c : UInt8) : ∀ l : List UInt8, (∀ x ∈ l, x ≠ c) → cutA c l = l ∧ cutZ c l = []
  | [], _ => ⟨rfl, rfl⟩
  | x :: l, h => by
    have hx : (x != c) = true := by simpa using h x (by simp)
    obtain ⟨h1, h2⟩ := cut_none c l (fun y hy => h y (by simp [hy]))
    unfold cutA cutZ at *
    rw [List.takeWhile_cons, List.dropWhile_cons, if_pos hx, if_pos hx, h1, h2]
    exact ⟨rfl, rfl⟩
theorem cut_at (c : UInt8) (b : List UInt8) : ∀ a : List UInt8, (∀ x ∈ a, x ≠ c) → cutA c (a ++ c :: b) = a ∧ cutZ c (a ++ c :: b) = b
  | [], _ => by simp [cutA, cutZ]
  | x :: a, h => by
    have hx : (x != c) = true := by simpa using h x (by simp)
    obtain ⟨h1, h2⟩ := cut_at c b a (fun y hy => h y (by simp [hy]))
    unfold cutA cutZ at *
    rw [List.cons_append, List.takeWhile_cons, List.dropWhile_cons, if_pos hx, if_pos hx, h1, h2]
    exact ⟨rfl, rfl⟩
theorem cutA_len (c : UInt8) (l : List UInt8) : (cutA c l).length ≤ l.length := (List.takeWhile_sublist _).length_le
theorem cutZ_len (c : UInt8) (l : List UInt8) : (cutZ c l).length ≤ l.length := by
  unfold cutZ
  rw [List.length_drop]
  have := (List.dropWhile_sublist (· != c) (l := l)).length_le
  omega

theorem Cut_f (s : ByteArray) (c : UInt8) (hs : s.size ≤ 140737488355328) : ∃ b, BF.strings_Cut.f s ⟨#[c]⟩ = some (⟨(cutA c s.data.toList).toArray⟩, ⟨(cutZ c s.data.toList).toArray⟩, b) := by
  have hsz := Lib.size_eq s
  unfold BF.strings_Cut.f BF.stringslite_Cut.f stringslite_Index.f
  rw [if_pos (show (⟨#[c]⟩ : ByteArray).size = 1 from rfl), show ((⟨#[c]⟩ : ByteArray).data.toList.headD 0) = c from rfl]
  simp only [Option.bind_some]
  have hone : ((⟨#[c]⟩ : ByteArray).size : Int) = 1 := rfl
  rcases indexByte_cases s.data.toList c with ⟨h1, h2⟩ | ⟨i, h1, h2, h3, h4⟩
  · obtain ⟨e1, e2⟩ := cut_none c _ h2
    rw [h1, if_neg (by omega), e1, e2]
    exact ⟨false, rfl⟩
  · have hw : wrap64 ((i : Int) + 1) = ((i + 1 : Nat) : Int) := by unfold wrap64; omega
    obtain ⟨e1, e2⟩ := cut_at c (s.data.toList.drop (i + 1)) _ h4
    rw [← h3] at e1 e2
    rw [h1, if_pos (by omega), if_pos (by omega), if_pos (by omega), hone, hw, if_pos (by omega), if_pos (by omega), e1, e2]
    refine ⟨true, ?_⟩
    simp only [Option.bind_some, Int.toNat_natCast]
    have x1 : s.extract 0 i = ⟨(s.data.toList.take i).toArray⟩ := by
      apply ByteArray.ext
      apply Array.toList_inj.1
      rw [extract_list]; simp
    have x2 : s.extract (i + 1) s.size = ⟨(s.data.toList.drop (i + 1)).toArray⟩ := by
      apply ByteArray.ext
      apply Array.toList_inj.1
      rw [extract_list, List.take_of_length_le (by rw [List.length_drop]; omega)]
    rw [x1, x2]
theorem cut_calls (s : ByteArray) (c : UInt8) (hs : s.size ≤ 140737488355328) : ∃ b, ∀ w, Calls Tryd.prog 57 #[.string s, .string ⟨#[c]⟩] w fun e w' =>
    e = .returned (.tuple #[.string ⟨(cutA c s.data.toList).toArray⟩, .string ⟨(cutZ c s.data.toList).toArray⟩, .bool b]) ∧ Drawn0 w w' := by
  obtain ⟨b, h⟩ := Cut_f s c hs
  exact ⟨b, fun w => BF.strings_Cut.calls s ⟨#[c]⟩ _ _ _ w h⟩
end Go.Proofs.YtfmppmabnpkooaaDoor
