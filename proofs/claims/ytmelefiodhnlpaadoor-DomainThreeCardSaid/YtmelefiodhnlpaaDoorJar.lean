/- The package jar in plain words; what the printed functions answer. -/
import Derived.Test.YtmelefiodhnlpaaDoorBBx2
import Derived.Test.YtmelefiodhnlpaaDoorBBx3
import Derived.Test.YtmelefiodhnlpaaDoorPlain
set_option linter.unusedSimpArgs false
set_option linter.unusedVariables false
namespace Go.Proofs.YtmelefiodhnlpaaDoor
open Go Go.RowKit Go.Proofs.YtmelefiodhnlpaaDoorW.PrintWords Go.Proofs.YtmelefiodhnlpaaDoorW.PrintLast Go.Proofs.YtmelefiodhnlpaaDoorW.PrintMore

def wayL (cp p : List UInt8) : Bool := cp.isPrefixOf p && (decide (p.drop cp.length = []) || ([47].isSuffixOf cp || decide ((p.drop cp.length).head? = some 47)))
def hostFits (dom host th : List UInt8) : Bool := decide (th = host) || (decide (dom ≠ []) && underL th dom)
def fitsL (dom cp : List UInt8) (secure : Bool) (host scheme th p : List UInt8) : Bool :=
  hostFits dom host th && ((!secure || decide (scheme = [104, 116, 116, 112, 115])) && wayL cp p)

theorem HasPrefix_f (a b : ByteArray) : BB.stringslite_HasPrefix.f a b = some (b.data.toList.isPrefixOf a.data.toList) := by
  have h1 := Lib.size_eq a
  have h2 := Lib.size_eq b
  unfold BB.stringslite_HasPrefix.f
  by_cases h : b.size ≤ a.size
  · rw [if_pos (by omega), if_pos (by omega), if_pos (by omega)]
    simp only [Int.toNat_natCast]
    rw [Go.ByteArray.toList_eq, Go.ByteArray.toList_eq, extract_list]
    congr 1
    rw [Bool.eq_iff_iff, beq_iff_eq, List.isPrefixOf_iff_prefix, List.prefix_iff_eq_take, ← h2]
    simp only [List.drop_zero, Nat.sub_zero]
    exact eq_comm
  · rw [if_neg (by omega)]
    congr 1
    symm
    rw [← Bool.not_eq_true, List.isPrefixOf_iff_prefix]
    intro hs
    have := hs.length_le
    omega

theorem prefix_size {a b : ByteArray} (h : b.data.toList.isPrefixOf a.data.toList = true) : b.size ≤ a.size := by
  have := (List.isPrefixOf_iff_prefix.1 h).length_le
  rw [Lib.size_eq a, Lib.size_eq b]; exact this

theorem CutPrefix_f (a b : ByteArray) : BB.strings_CutPrefix.f a b = some (if b.data.toList.isPrefixOf a.data.toList then (a.extract b.size a.size, true) else (a, false)) := by
  unfold BB.strings_CutPrefix.f BB.stringslite_CutPrefix.f
  rw [HasPrefix_f]
  simp only [Option.bind_some]
  cases h : b.data.toList.isPrefixOf a.data.toList with
  | false => rfl
  | true =>
    have hs := prefix_size h
    simp only [if_true]
    rw [if_pos (by omega), if_pos (by omega)]
    rfl

theorem fits_j0 (k : Nat) (p : ByteArray) (bad : Bool) (n : ByteArray) (o : Int) (d cp : ByteArray) (s h : Bool) (m : Int) (hp : p.size ≤ 281474976710656) (hc : cp.size ≤ 281474976710656) :
    BB.jar_Fits.j0 (k + 1) p bad n o d cp s h m = some (!bad && wayL cp.data.toList p.data.toList) := by
  simp only [BB.jar_Fits.j0]
  cases bad with
  | true => rfl
  | false =>
    rw [if_neg (by simp), CutPrefix_f]
    simp only [Option.bind_some]
    unfold wayL
    cases hx : cp.data.toList.isPrefixOf p.data.toList with
    | false => rfl
    | true =>
      have hs := prefix_size hx
      have hsz := Lib.size_eq p
      have hcz := Lib.size_eq cp
      have he : (p.extract cp.size p.size).data.toList = p.data.toList.drop cp.data.toList.length := by
        rw [extract_list, List.take_of_length_le (by simp), ← hcz]
      have hes : (p.extract cp.size p.size).size = (p.data.toList.drop cp.data.toList.length).length := by rw [Lib.size_eq, he]
      simp only [if_true, Go.ByteArray.toList_eq]
      rw [he]
      by_cases h0 : p.data.toList.drop cp.data.toList.length = []
      · rw [if_pos h0, decide_eq_true h0]; rfl
      · rw [if_neg h0, decide_eq_false h0, HasSuffix_f cp _ hc (by decide)]
        simp only [Option.bind_some]
        cases hq : (⟨#[47]⟩ : ByteArray).data.toList.isSuffixOf cp.data.toList with
        | true =>
          have hq' : [47].isSuffixOf cp.data.toList = true := hq
          rw [if_pos rfl]; rfl
        | false =>
          have hq' : [47].isSuffixOf cp.data.toList = false := hq
          have hpos : 0 < (p.data.toList.drop cp.data.toList.length).length := List.length_pos_iff.2 h0
          rw [if_neg (by simp), if_pos (by omega)]
          have hb : bt (p.extract cp.size p.size) 0 = ((p.data.toList.drop cp.data.toList.length)[0].toNat : Int) := by
            have hlt : 0 < (p.extract cp.size p.size).size := by omega
            rw [← bt_at _ 0 (by simpa using hlt)]
            have : (p.extract cp.size p.size)[(0 : Int).toNat]'(by simpa using hlt) = (p.data.toList.drop cp.data.toList.length)[0] := by
              show (p.extract cp.size p.size).data[0]'_ = _
              rw [← Array.getElem_toList]
              simp only [he]
            rw [this]
          rw [hb, List.head?_eq_getElem?, List.getElem?_eq_getElem hpos]
          generalize (p.data.toList.drop cp.data.toList.length)[0] = x
          simp only [Bool.false_or, Bool.not_false, Bool.true_and, Option.some.injEq]
          rw [Bool.eq_iff_iff, beq_iff_eq, decide_eq_true_eq]
          constructor
          · intro e; exact UInt8.toNat_inj.1 (by have : (47 : UInt8).toNat = 47 := rfl; omega)
          · rintro rfl; rfl

theorem Fits_f (k : Nat) (n : ByteArray) (o : Int) (d cp : ByteArray) (s h : Bool) (m : Int) (host tn ts th : ByteArray) (tp : Int) (p : ByteArray)
    (hp : p.size ≤ 140737488355328) (hc : cp.size ≤ 140737488355328) (ht : th.size ≤ 140737488355328) (hd : d.size ≤ 140737488355328) :
    BB.jar_Fits.f (k + 1) n o d cp s h m host tn ts th tp p = some (fitsL d.data.toList cp.data.toList s host.data.toList ts.data.toList th.data.toList p.data.toList) := by
  have hj : ∀ bad, BB.jar_Fits.j0 (k + 1) p bad n o d cp s h m = some (!bad && wayL cp.data.toList p.data.toList) := fun bad => fits_j0 k p bad n o d cp s h m (by omega) (by omega)
  have hsch : (!(ts.data.toList != [104, 116, 116, 112, 115])) = decide (ts.data.toList = [104, 116, 116, 112, 115]) := by
    rw [Bool.eq_iff_iff]; simp
  unfold BB.jar_Fits.f fitsL hostFits
  simp only [hj, Go.ByteArray.toList_eq, hsch]
  by_cases h1 : th.data.toList = host.data.toList
  · rw [if_pos h1, decide_eq_true h1]
    cases s <;> simp
  · rw [if_neg h1, decide_eq_false h1]
    by_cases h2 : d.data.toList = []
    · rw [if_pos h2]; simp [h2]
    · rw [if_neg h2, Under_f th d ht hd]
      simp only [Option.bind_some]
      cases underL th.data.toList d.data.toList <;> cases s <;> simp [h2]

theorem Visible_f (k : Nat) (n : ByteArray) (o : Int) (d cp : ByteArray) (s h : Bool) (m : Int) (host tn ts th : ByteArray) (tp : Int) (p : ByteArray)
    (hp : p.size ≤ 140737488355328) (hc : cp.size ≤ 140737488355328) (ht : th.size ≤ 140737488355328) (hd : d.size ≤ 140737488355328) :
    BB.jar_Visible.f (k + 1) n o d cp s h m host tn ts th tp p = some (fitsL d.data.toList cp.data.toList s host.data.toList ts.data.toList th.data.toList p.data.toList && !h) := by
  unfold BB.jar_Visible.f
  rw [Fits_f k n o d cp s h m host tn ts th tp p hp hc ht hd]
  simp only [Option.bind_some]
  cases fitsL d.data.toList cp.data.toList s host.data.toList ts.data.toList th.data.toList p.data.toList <;> simp

def goesL (same : Int) (near top : Bool) (method : List UInt8) : Bool :=
  near || (decide (same = 1) || (decide (same = 2) && (top && (decide (method = [71, 69, 84]) || decide (method = [72, 69, 65, 68])))))

theorem Goes_f (n : ByteArray) (o : Int) (d cp : ByteArray) (s h : Bool) (m : Int) (near top : Bool) (method : ByteArray) :
    BB.jar_Goes.f n o d cp s h m near top method = some (goesL m near top method.data.toList) := by
  unfold BB.jar_Goes.f goesL
  simp only [Go.ByteArray.toList_eq]
  have hh : (method.data.toList == [72, 69, 65, 68]) = decide (method.data.toList = [72, 69, 65, 68]) := by rw [Bool.eq_iff_iff]; simp
  rw [hh]
  cases near with
  | true => simp
  | false =>
    by_cases h1 : m = 1
    · rw [if_neg (by simp), if_pos h1, decide_eq_true h1]; rfl
    · rw [if_neg (by simp), if_neg h1, decide_eq_false h1]
      by_cases h2 : m = 2
      · rw [if_pos h2, decide_eq_true h2]
        cases top with
        | false => rfl
        | true =>
          by_cases h3 : method.data.toList = [71, 69, 84]
          · rw [if_pos rfl, if_pos h3, decide_eq_true h3]; rfl
          · rw [if_pos rfl, if_neg h3, decide_eq_false h3]; rfl
      · rw [if_neg h2, decide_eq_false h2]; rfl
end Go.Proofs.YtmelefiodhnlpaaDoor
