/- FieldLists, the plain law: names with commas and blanks between are a list of them, in small letters; with one that is none they are no list. -/
import Derived.Test.YtfmppmabnpkooaaDoorBIx1
import Derived.Test.YtfmppmabnpkooaaDoorTrim
import Derived.Test.YtfmppmabnpkooaaDoorPlain0
import Derived.Test.YtfmppmabnpkooaaDoorLowF
set_option linter.unusedSimpArgs false
set_option linter.unusedVariables false
namespace Go.Proofs.YtfmppmabnpkooaaDoor.Pure
open Go Go.RowKit Go.Proofs.YtfmppmabnpkooaaDoor Go.Proofs.YtfmppmabnpkooaaDoor.BI Go.Proofs.YtfmppmabnpkooaaDoorW.PrintMore Go.Proofs.YtfmppmabnpkooaaDoorW.PrintWords Go.Proofs.YtfmppmabnpkooaaDoorW.PrintLast

def gapA : List ByteArray := [(⟨#[]⟩ : ByteArray), (⟨#[32]⟩ : ByteArray), (⟨#[9]⟩ : ByteArray), (⟨#[32, 32]⟩ : ByteArray)]
def gapB : List ByteArray := [(⟨#[]⟩ : ByteArray), (⟨#[32]⟩ : ByteArray), (⟨#[44]⟩ : ByteArray), (⟨#[9, 32, 44]⟩ : ByteArray)]
def names6 : List ByteArray := [(⟨#[88, 45, 84, 111, 107, 101, 110]⟩ : ByteArray), (⟨#[97, 99, 99, 101, 112, 116]⟩ : ByteArray), (⟨#[97]⟩ : ByteArray), (⟨#[67, 111, 110, 116, 101, 110, 116, 45, 84, 121, 112, 101]⟩ : ByteArray), (⟨#[33, 120]⟩ : ByteArray), (⟨#[90, 57]⟩ : ByteArray)]
def low6 : List ByteArray := [(⟨#[120, 45, 116, 111, 107, 101, 110]⟩ : ByteArray), (⟨#[97, 99, 99, 101, 112, 116]⟩ : ByteArray), (⟨#[97]⟩ : ByteArray), (⟨#[99, 111, 110, 116, 101, 110, 116, 45, 116, 121, 112, 101]⟩ : ByteArray), (⟨#[33, 120]⟩ : ByteArray), (⟨#[122, 57]⟩ : ByteArray)]
def rb (l : List ByteArray) (n : Nat) : ByteArray := rdOf ByteArray.empty l ((n : Nat) : Int)

/-- What the pieces of a text are read as. -/
def itemsL (q : List (List UInt8)) : List (List UInt8) := (q.map itemL).filter fun y => decide (y ≠ [])
def okL (q : List (List UInt8)) : Bool := q.all fun x => decide (itemL x = []) || nameL (itemL x)

def chunkB (a n b : Nat) : Bool :=
  decide (itemsL (splitL 44 ((rb gapA a).data.toList ++ (rb names6 n).data.toList ++ (rb gapB b).data.toList)) = [(rb low6 n).data.toList]) && (okL (splitL 44 ((rb gapA a).data.toList ++ (rb names6 n).data.toList ++ (rb gapB b).data.toList)) &&
    (decide ((rb gapA a).size ≤ 2) && (decide ((rb names6 n).size ≤ 12) && decide ((rb gapB b).size ≤ 3))))
theorem chunk_all : ∀ a < 4, ∀ n < 6, ∀ b < 4, chunkB a n b = true := by decide +kernel
theorem chunk_cases : ∀ a < 4, ∀ n < 6, ∀ b < 4,
    itemsL (splitL 44 ((rb gapA a).data.toList ++ (rb names6 n).data.toList ++ (rb gapB b).data.toList)) = [(rb low6 n).data.toList] ∧ okL (splitL 44 ((rb gapA a).data.toList ++ (rb names6 n).data.toList ++ (rb gapB b).data.toList)) = true ∧
    (rb gapA a).size ≤ 2 ∧ (rb names6 n).size ≤ 12 ∧ (rb gapB b).size ≤ 3 := by
  intro a ha n hn b hb
  have := chunk_all a ha n hn b hb
  simpa only [chunkB, Bool.and_eq_true, decide_eq_true_eq] using this

theorem list_of (s : ByteArray) : (listF (pieces 44 s)).2 = okL (splitL 44 s.data.toList) ∧ (okL (splitL 44 s.data.toList) = true → (listF (pieces 44 s)).1.map (·.data.toList) = itemsL (splitL 44 s.data.toList)) ∧ (okL (splitL 44 s.data.toList) = false → (listF (pieces 44 s)).1 = []) := by
  have h1 : (pieces 44 s).all itemOk = okL (splitL 44 s.data.toList) := by
    unfold okL
    rw [← pieces_split, List.all_map]; rfl
  have h2 : (outs (pieces 44 s)).map (·.data.toList) = itemsL (splitL 44 s.data.toList) := by
    unfold outs itemsL
    rw [← pieces_split, List.map_map, List.filter_map, List.map_map, List.filter_map]
    rfl
  unfold listF
  rw [h1]
  cases okL (splitL 44 s.data.toList) with
  | true => exact ⟨rfl, fun _ => h2, fun h => by cases h⟩
  | false => exact ⟨rfl, fun h => (by cases h), fun _ => rfl⟩

theorem bytes_inj : ∀ a b : List ByteArray, a.map (·.data.toList) = b.map (·.data.toList) → a = b
  | [], [], _ => rfl
  | [], _ :: _, h => by cases h
  | _ :: _, [], h => by cases h
  | x :: a, y :: b, h => by
    simp only [List.map_cons, List.cons.injEq] at h
    rw [bytes_inj a b h.2, show x = y from ByteArray.ext (Array.toList_inj.1 h.1)]

theorem texts_same (l : List ByteArray) (hl : l.length ≤ 1000000) : ∀ (d k i : Nat), i + d = l.length → BF.moatlaw0_SameTexts.l0 (k + d + 1) l l (i : Int) = some true := by
  intro d
  induction d with
  | zero =>
    intro k i h
    rw [show k + 0 + 1 = k + 1 from rfl]
    simp only [BF.moatlaw0_SameTexts.l0]
    rw [if_neg (by omega)]
  | succ d ih =>
    intro k i h
    rw [show k + (d + 1) + 1 = (k + d + 1) + 1 by omega]
    rw [BF.moatlaw0_SameTexts.l0.eq_2, if_pos (by omega), if_pos (by omega), if_pos (by omega), if_pos rfl, show wrap64 ((i : Int) + 1) = ((i + 1 : Nat) : Int) by unfold wrap64; omega]
    exact ih k (i + 1) (by omega)
theorem SameTexts_f (l : List ByteArray) (hl : l.length ≤ 1000000) (k : Nat) : BF.moatlaw0_SameTexts.f (k + l.length + 1) l l = some true := by
  unfold BF.moatlaw0_SameTexts.f
  rw [if_pos rfl]
  exact texts_same l hl l.length k 0 (by omega)

/-- What has been laid so far. -/
structure Laid (m : Nat) (s : ByteArray) (want : List ByteArray) : Prop where
  cut : ∃ q, (∀ rest, splitL 44 (s.data.toList ++ rest) = q ++ splitL 44 rest) ∧ itemsL q = want.map (·.data.toList) ∧ okL q = true
  size : s.size ≤ 18 * m
  len : want.length = m

theorem laid_step {m : Nat} {s : ByteArray} {want : List ByteArray} (h : Laid m s want) (a n b : Nat) (ha : a < 4) (hn : n < 6) (hb : b < 4) :
    Laid (m + 1) ((((s ++ rb gapA a) ++ rb names6 n) ++ rb gapB b) ++ (⟨#[44]⟩ : ByteArray)) (want ++ [rb low6 n]) := by
  obtain ⟨q, h1, h2, h3⟩ := h.cut
  obtain ⟨c1, c2, c3, c4, c5⟩ := chunk_cases a ha n hn b hb
  refine ⟨⟨q ++ splitL 44 ((rb gapA a).data.toList ++ (rb names6 n).data.toList ++ (rb gapB b).data.toList), ?_, ?_, ?_⟩, ?_, by simp [h.len]⟩
  · intro rest
    have e : ((((s ++ rb gapA a) ++ rb names6 n) ++ rb gapB b) ++ (⟨#[44]⟩ : ByteArray)).data.toList ++ rest = s.data.toList ++ (((rb gapA a).data.toList ++ (rb names6 n).data.toList ++ (rb gapB b).data.toList) ++ 44 :: rest) := by
      simp [ByteArray.data_append, List.append_assoc]
    rw [e, h1, splitL_append]
    exact (List.append_assoc _ _ _).symm
  · unfold itemsL at *
    rw [List.map_append, List.filter_append, h2, c1, List.map_append]
    rfl
  · unfold okL at *
    rw [List.all_append, h3, c2]; rfl
  · have hs := h.size
    have e : ((((s ++ rb gapA a) ++ rb names6 n) ++ rb gapB b) ++ (⟨#[44]⟩ : ByteArray)).size = s.size + (rb gapA a).size + (rb names6 n).size + (rb gapB b).size + 1 := by
      rw [ByteArray.size_append, ByteArray.size_append, ByteArray.size_append, ByteArray.size_append]; rfl
    omega

theorem lists_end {m : Nat} (hm : m ≤ 10) {s : ByteArray} {want : List ByteArray} (h : Laid m s want) (bad : Bool) (k : Nat) :
    (if bad = true then (if s.size + 3 ≤ 9223372036854775807 then (moatlaw3_FieldLists.j1 (k + 12) bad (s ++ (⟨#[97, 32, 98]⟩ : ByteArray)) want) else none) else (moatlaw3_FieldLists.j1 (k + 12) bad s want)) = some true := by
  obtain ⟨q, h1, h2, h3⟩ := h.cut
  have hs := h.size
  have hl := h.len
  cases bad with
  | true =>
    rw [if_pos rfl, if_pos (by omega)]
    have hd : (s ++ (⟨#[97, 32, 98]⟩ : ByteArray)).data.toList = s.data.toList ++ [97, 32, 98] := by simp [ByteArray.data_append]
    obtain ⟨f1, _, f3⟩ := list_of (s ++ (⟨#[97, 32, 98]⟩ : ByteArray))
    have hno : okL (splitL 44 (s ++ (⟨#[97, 32, 98]⟩ : ByteArray)).data.toList) = false := by
      rw [hd, h1]
      unfold okL
      rw [List.all_append, show ((splitL 44 [97, 32, 98]).all fun x => decide (itemL x = []) || nameL (itemL x)) = false by decide +kernel, Bool.and_false]
    rw [hno] at f1
    have hF : field_List.f (s ++ (⟨#[97, 32, 98]⟩ : ByteArray)) = some ([], false) := by
      unfold field_List.f
      rw [if_pos (by rw [ByteArray.size_append]; show _ + 3 ≤ _; omega), ← f1, ← f3 hno]
    rw [show k + 12 = (k + 11) + 1 from rfl]
    simp only [moatlaw3_FieldLists.j1]
    rw [hF]
    rfl
  | false =>
    rw [if_neg (by simp)]
    obtain ⟨f1, f2, _⟩ := list_of s
    have hcut := h1 []
    rw [List.append_nil] at hcut
    have hyes : okL (splitL 44 s.data.toList) = true := by
      rw [hcut]
      unfold okL at *
      rw [List.all_append, h3]; decide +kernel
    rw [hyes] at f1
    have hw : (listF (pieces 44 s)).1 = want := by
      refine bytes_inj _ _ ?_
      rw [f2 hyes, hcut, ← h2]
      unfold itemsL
      rw [List.map_append, List.filter_append, show ((splitL 44 []).map itemL).filter (fun y => decide (y ≠ [])) = [] by decide +kernel, List.append_nil]
    have hF : field_List.f s = some (want, true) := by
      unfold field_List.f
      rw [if_pos (by omega), ← f1, ← hw]
    rw [show k + 12 = (k + 11) + 1 from rfl]
    simp only [moatlaw3_FieldLists.j1]
    rw [hF, Option.bind_some, if_neg (by simp), if_pos rfl]
    have hst := SameTexts_f want (by omega) (k + 10 - want.length)
    rw [show k + 10 - want.length + want.length + 1 = k + 11 by omega] at hst
    rw [hst]
    rfl

theorem bits4 (x : Int) : ∃ j : Nat, j < 4 ∧ Go.bits .and .i64 x 3 = (j : Int) := by
  have h : Go.bits .and .i64 x 3 = x % 4 := bits_low x 2 (by decide)
  exact ⟨(x % 4).toNat, by omega, by omega⟩

theorem lists_loop (l0 : List Int) (a1 : Int) (bad : Bool) (hl : l0.length ≤ 10) : ∀ (d k m : Nat) (s : ByteArray) (want : List ByteArray), m + d = l0.length → Laid m s want →
    moatlaw3_FieldLists.l0 (k + 12 + d + 1) l0 a1 bad names6 low6 s want (m : Int) = some true := by
  intro d
  induction d with
  | zero =>
    intro k m s want hm h
    rw [show k + 12 + 0 + 1 = (k + 12) + 1 from rfl]
    rw [moatlaw3_FieldLists.l0.eq_2, if_neg (by omega)]
    exact lists_end (by omega) h bad k
  | succ d ih =>
    intro k m s want hm h
    have hs := h.size
    have hn := lowN_lt (rd l0 m) 6 (by decide)
    rw [show k + 12 + (d + 1) + 1 = (k + 12 + d + 1) + 1 by omega]
    rw [moatlaw3_FieldLists.l0.eq_2]
    have w1 : wrap64 (2 * (m : Int)) = 2 * (m : Int) := by unfold wrap64; omega
    have w2 : wrap64 ((m : Int) + 3) = (m : Int) + 3 := by unfold wrap64; omega
    have w3 : wrap64 ((m : Int) + 1) = ((m + 1 : Nat) : Int) := by unfold wrap64; omega
    obtain ⟨a, ha, ea⟩ := bits4 (shr .i64 a1 (2 * (m : Int)))
    obtain ⟨b, hb, eb⟩ := bits4 (shr .i64 a1 ((m : Int) + 3))
    obtain ⟨c1, c2, c3, c4, c5⟩ := chunk_cases a ha (lowN (rd l0 m) 6) (by omega) b hb
    rw [w1, w2, w3, ea, eb, if_pos (by omega), if_pos (by omega), Low_f _ 6 (by decide) (by decide), Option.bind_some, Option.bind_some,
      show ([(⟨#[]⟩ : ByteArray), (⟨#[32]⟩ : ByteArray), (⟨#[9]⟩ : ByteArray), (⟨#[32, 32]⟩ : ByteArray)] : List ByteArray) = gapA from rfl]
    rw [show rdOf ByteArray.empty gapA ((a : Nat) : Int) = rb gapA a from rfl, show rdOf ByteArray.empty names6 ((lowN (rd l0 m) 6 : Nat) : Int) = rb names6 (lowN (rd l0 m) 6) from rfl, show rdOf ByteArray.empty low6 ((lowN (rd l0 m) 6 : Nat) : Int) = rb low6 (lowN (rd l0 m) 6) from rfl]
    have z1 : (s ++ rb gapA a).size = s.size + (rb gapA a).size := ByteArray.size_append
    have z2 : ((s ++ rb gapA a) ++ rb names6 (lowN (rd l0 m) 6)).size = s.size + (rb gapA a).size + (rb names6 (lowN (rd l0 m) 6)).size := by rw [ByteArray.size_append, z1]
    have z3 : (((s ++ rb gapA a) ++ rb names6 (lowN (rd l0 m) 6)) ++ rb gapB b).size = s.size + (rb gapA a).size + (rb names6 (lowN (rd l0 m) 6)).size + (rb gapB b).size := by rw [ByteArray.size_append, z2]
    rw [if_pos (by omega), if_pos (by omega), if_pos (by show _ < (4 : Int); omega), if_pos (by omega), if_pos (by omega), if_pos (by show _ < (6 : Int); omega), if_pos (by omega), Option.bind_some,
      show ([(⟨#[]⟩ : ByteArray), (⟨#[32]⟩ : ByteArray), (⟨#[44]⟩ : ByteArray), (⟨#[9, 32, 44]⟩ : ByteArray)] : List ByteArray) = gapB from rfl, show rdOf ByteArray.empty gapB ((b : Nat) : Int) = rb gapB b from rfl,
      if_pos (by omega), if_pos (by omega), if_pos (by show _ < (4 : Int); omega), if_pos (by omega), if_pos (by omega), if_pos (by show _ < (6 : Int); omega), if_pos (by rw [h.len]; omega)]
    exact ih k (m + 1) _ _ (by omega) (laid_step h a (lowN (rd l0 m) 6) b ha (by omega) hb)

theorem FieldLists : moatlaw3_FieldLists.Pure := by
  intro l0 a1 bad _ _ _ _
  by_cases h : (l0.length : Int) > 10
  · exact ⟨0, by unfold moatlaw3_FieldLists.f; rw [if_pos h]; rfl⟩
  · refine ⟨0 + 12 + l0.length + 1, ?_⟩
    unfold moatlaw3_FieldLists.f
    rw [if_neg h]
    exact lists_loop l0 a1 bad (by omega) l0.length 0 0 _ [] (by omega) ⟨⟨[], fun rest => by simp, rfl, rfl⟩, by decide, rfl⟩
end Go.Proofs.YtfmppmabnpkooaaDoor.Pure
