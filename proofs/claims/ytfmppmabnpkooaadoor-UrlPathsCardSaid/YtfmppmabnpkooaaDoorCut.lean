/- Plain words: a text cut at each byte c, the pieces in order. No program in sight. -/
import Derived.Lib.IndexLaws
import Derived.Lib.CutLaws
import Derived.Lib.Strings
set_option linter.unusedSimpArgs false
set_option linter.unusedVariables false
namespace Go.Proofs.YtfmppmabnpkooaaDoor
open Go

/-- A list of bytes cut at each c. -/
def splitL (c : UInt8) : List UInt8 → List (List UInt8)
  | [] => [[]]
  | x :: xs => if x = c then [] :: splitL c xs else match splitL c xs with
    | [] => [[x]]
    | p :: ps => (x :: p) :: ps

theorem splitL_ne_nil (c : UInt8) : ∀ l : List UInt8, splitL c l ≠ []
  | [] => by simp [splitL]
  | x :: xs => by
    unfold splitL
    split
    · simp
    · split <;> simp

theorem splitL_none (c : UInt8) : ∀ l : List UInt8, (∀ x ∈ l, x ≠ c) → splitL c l = [l]
  | [], _ => rfl
  | x :: xs, h => by
    rw [splitL, if_neg (h x (by simp)), splitL_none c xs (fun y hy => h y (by simp [hy]))]

theorem splitL_cut (c : UInt8) : ∀ (a b : List UInt8), (∀ x ∈ a, x ≠ c) → splitL c (a ++ c :: b) = a :: splitL c b
  | [], b, _ => by simp [splitL]
  | x :: a, b, h => by
    rw [List.cons_append, splitL, if_neg (h x (by simp)), splitL_cut c a b (fun y hy => h y (by simp [hy]))]

theorem splitL_length (c : UInt8) : ∀ l : List UInt8, (splitL c l).length = l.count c + 1
  | [] => rfl
  | x :: xs => by
    have ih := splitL_length c xs
    unfold splitL
    by_cases h : x = c
    · rw [if_pos h]; simp [ih, h]
    · rw [if_neg h, List.count_cons_of_ne h]
      split
      · rename_i e; exact absurd e (splitL_ne_nil c xs)
      · rename_i p ps e; rw [e] at ih; simpa using ih

/-- The text cut at each c, as the walk meets it. -/
def cutB (c : UInt8) : Nat → ByteArray → List ByteArray
  | 0, s => [s]
  | k + 1, s => if Lib.indexByte s.data.toList c < 0 then [s] else s.extract 0 (Lib.indexByte s.data.toList c).toNat :: cutB c k (s.extract ((Lib.indexByte s.data.toList c).toNat + 1) s.size)

def pieces (c : UInt8) (s : ByteArray) : List ByteArray := cutB c s.size s

theorem extract_list (s : ByteArray) (a b : Nat) : (s.extract a b).data.toList = (s.data.toList.drop a).take (b - a) := Lib.extract_data s a b

theorem indexByte_cases (l : List UInt8) (c : UInt8) : (Lib.indexByte l c = -1 ∧ ∀ x ∈ l, x ≠ c) ∨ ∃ i : Nat, Lib.indexByte l c = i ∧ i < l.length ∧ l = l.take i ++ c :: l.drop (i + 1) ∧ ∀ x ∈ l.take i, x ≠ c := by
  have hge := Lib.indexByte_ge l c
  by_cases h : Lib.indexByte l c = -1
  · refine .inl ⟨h, fun x hx e => ?_⟩
    obtain ⟨k, hk, hk'⟩ := List.getElem_of_mem hx
    exact Lib.indexByte_none h k (by rw [List.getElem?_eq_getElem hk, hk', e])
  · obtain ⟨i, hi⟩ : ∃ i : Nat, Lib.indexByte l c = i := ⟨(Lib.indexByte l c).toNat, by omega⟩
    obtain ⟨h1, h2⟩ := Lib.indexByte_some hi
    obtain ⟨hlt, hget⟩ := List.getElem?_eq_some_iff.1 h1
    refine .inr ⟨i, hi, hlt, ?_, fun x hx e => ?_⟩
    · rw [← hget, ← List.drop_eq_getElem_cons hlt, List.take_append_drop]
    · obtain ⟨k, hk, hk'⟩ := List.getElem_of_mem hx
      rw [List.length_take] at hk
      rw [List.getElem_take] at hk'
      exact h2 k (by omega) (by rw [List.getElem?_eq_getElem (by omega), hk', e])

theorem cutB_split (c : UInt8) : ∀ (k : Nat) (s : ByteArray), s.size ≤ k → (cutB c k s).map (·.data.toList) = splitL c s.data.toList
  | 0, s, h => by
    have e : s.data.toList = [] := List.eq_nil_of_length_eq_zero (by have := Lib.size_eq s; omega)
    simp [cutB, e, splitL]
  | k + 1, s, h => by
    rcases indexByte_cases s.data.toList c with ⟨h1, h2⟩ | ⟨i, h1, hlt, h2, h3⟩
    · rw [cutB, if_pos (by omega), splitL_none c _ h2]; rfl
    · rw [cutB, if_neg (by omega), List.map_cons, h1]
      have hs : s.data.toList.length = s.size := (Lib.size_eq s).symm
      have e1 : (s.extract 0 ((i : Int).toNat)).data.toList = s.data.toList.take i := by
        rw [extract_list]; simp
      have e2 : (s.extract ((i : Int).toNat + 1) s.size).data.toList = s.data.toList.drop (i + 1) := by
        rw [extract_list, List.take_of_length_le (by simp)]; simp
      rw [cutB_split c k _ (by rw [Lib.size_eq, e2]; simp only [List.length_drop]; omega), e1, e2]
      conv => rhs; rw [h2]
      rw [splitL_cut c _ _ h3]

theorem pieces_split (c : UInt8) (s : ByteArray) : (pieces c s).map (·.data.toList) = splitL c s.data.toList := cutB_split c _ s (Nat.le_refl _)

theorem size_zero_list {s : ByteArray} (h : s.size = 0) : s.data.toList = [] := List.eq_nil_of_length_eq_zero (by have := Lib.size_eq s; omega)

theorem cutB_none (c : UInt8) (k : Nat) (s : ByteArray) (h : Lib.indexByte s.data.toList c < 0) : cutB c k s = [s] := by
  cases k with
  | zero => rfl
  | succ k => rw [cutB, if_pos h]

theorem tail_size (s : ByteArray) (i : Nat) (h : i < s.size) : (s.extract (i + 1) s.size).size = s.size - (i + 1) := by
  have hs : s.data.toList.length = s.size := (Lib.size_eq s).symm
  rw [Lib.size_eq (s.extract _ _), extract_list, List.length_take, List.length_drop]; omega

theorem count_tail (s : ByteArray) (c : UInt8) (i : Nat) (hlt : i < s.data.toList.length) (h : s.data.toList = s.data.toList.take i ++ c :: s.data.toList.drop (i + 1)) (hn : ∀ x ∈ s.data.toList.take i, x ≠ c) :
    s.data.toList.count c = (s.extract (i + 1) s.size).data.toList.count c + 1 := by
  have hs : s.data.toList.length = s.size := (Lib.size_eq s).symm
  have e2 : (s.extract (i + 1) s.size).data.toList = s.data.toList.drop (i + 1) := by
    rw [extract_list, List.take_of_length_le (by simp)]
  rw [e2]
  conv => lhs; rw [h]
  rw [List.count_append, List.count_cons_self, List.count_eq_zero_of_not_mem (fun hm => hn c hm rfl)]
  omega

theorem count_miss (s : ByteArray) (c : UInt8) (h : s.data.toList.count c = 0) : Lib.indexByte s.data.toList c < 0 := by
  rcases indexByte_cases s.data.toList c with ⟨h1, _⟩ | ⟨i, h1, hlt, h2, h3⟩
  · omega
  · have := count_tail s c i hlt h2 h3
    omega

/-- The cut, at enough rounds, is one. -/
theorem cutB_more (c : UInt8) : ∀ (k j : Nat) (s : ByteArray), s.data.toList.count c ≤ k → s.data.toList.count c ≤ j → cutB c k s = cutB c j s := by
  intro k
  induction k with
  | zero =>
    intro j s h _
    have h0 := count_miss s c (by omega)
    rw [cutB_none c 0 s h0, cutB_none c j s h0]
  | succ k ih =>
    intro j s h h2
    rcases indexByte_cases s.data.toList c with ⟨h1, _⟩ | ⟨i, h1, hlt, h3, h4⟩
    · rw [cutB_none c _ s (by omega), cutB_none c _ s (by omega)]
    · have ht := count_tail s c i hlt h3 h4
      obtain ⟨j, rfl⟩ : ∃ m, j = m + 1 := ⟨j - 1, by omega⟩
      rw [cutB, cutB, if_neg (by omega), if_neg (by omega), h1]
      simp only [Int.toNat_natCast]
      rw [ih j _ (by omega) (by omega)]

theorem count_size (s : ByteArray) (c : UInt8) : s.data.toList.count c ≤ s.size := by
  have := List.count_le_length (a := c) (l := s.data.toList)
  rw [Lib.size_eq]; exact this

theorem pieces_miss (c : UInt8) (s : ByteArray) (h : Lib.indexByte s.data.toList c < 0) : pieces c s = [s] := by
  unfold pieces
  cases s.size with
  | zero => rfl
  | succ k => rw [cutB, if_pos h]

theorem pieces_hit (c : UInt8) (s : ByteArray) (i : Nat) (h : Lib.indexByte s.data.toList c = i) : pieces c s = s.extract 0 i :: pieces c (s.extract (i + 1) s.size) := by
  rcases indexByte_cases s.data.toList c with ⟨h1, _⟩ | ⟨j, h1, hlt, _, _⟩
  · omega
  · obtain rfl : i = j := by omega
    have hs : s.data.toList.length = s.size := (Lib.size_eq s).symm
    unfold pieces
    obtain ⟨k, hk⟩ : ∃ k, s.size = k + 1 := ⟨s.size - 1, by omega⟩
    have ht := tail_size s i (by omega)
    conv => lhs; rw [hk]
    rw [cutB, if_neg (by omega), h1]
    simp only [Int.toNat_natCast]
    have hc := count_size (s.extract (i + 1) s.size) c
    rw [cutB_more c k _ _ (by omega) hc]

end Go.Proofs.YtfmppmabnpkooaaDoor
