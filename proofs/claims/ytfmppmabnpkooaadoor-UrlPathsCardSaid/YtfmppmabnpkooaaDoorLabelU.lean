/- url.label in plain words: small letters, digits, and - neither first nor last; from 1 to 20 bytes. -/
import Derived.Test.YtfmppmabnpkooaaDoorBUx2
import Derived.Test.YtfmppmabnpkooaaDoorCut
set_option linter.unusedSimpArgs false
set_option linter.unusedVariables false
namespace Go.Proofs.YtfmppmabnpkooaaDoor
open Go Go.RowKit Go.Proofs.YtfmppmabnpkooaaDoorW.PrintWords Go.Proofs.YtfmppmabnpkooaaDoorW.PrintLast Go.Proofs.YtfmppmabnpkooaaDoorW.PrintMore

def plainB (c : UInt8) : Bool := (decide (97 ≤ c.toNat) && decide (c.toNat ≤ 122)) || (decide (48 ≤ c.toNat) && decide (c.toNat ≤ 57))
def labelL (l : List UInt8) : Bool := l.all (fun c => plainB c || c == 45) && l.head? != some 45 && l.getLast? != some 45 && decide (1 ≤ l.length) && decide (l.length ≤ 20)

theorem bt_list (s : ByteArray) (i : Nat) (h : i < s.data.toList.length) : bt s (i : Int) = (s.data.toList[i].toNat : Int) := by
  have hs : s.data.toList.length = s.size := (Lib.size_eq s).symm
  rw [← bt_at s i (by simp; omega)]
  rfl

theorem plain_f (c : UInt8) : BU.url_plain.f (c.toNat : Int) = some (plainB c) := by
  unfold BU.url_plain.f plainB
  generalize c.toNat = n
  repeat' split
  all_goals (refine congrArg some ?_; rw [Bool.eq_iff_iff]; simp only [Bool.or_eq_true, Bool.and_eq_true, decide_eq_true_eq, Bool.false_eq_true, eq_self, true_iff, false_iff])
  all_goals omega

/-- A byte of a label, at its place. -/
def okAt (l : List UInt8) (i : Nat) : Bool := match l[i]? with
  | none => true
  | some c => plainB c || (c == 45 && decide (i ≠ 0) && decide (i ≠ l.length - 1))

theorem label_loop (s : ByteArray) (hn : s.size ≤ 140737488355328) (d : Nat) : ∀ (k i : Nat), i ≤ s.size → s.size - i = d → d < k →
    BU.url_label.l0 k s (s.size : Int) (i : Int) = some (((List.range' i d).all (okAt s.data.toList)) && decide (1 ≤ s.size) && decide (s.size ≤ 20)) := by
  have hs : s.data.toList.length = s.size := (Lib.size_eq s).symm
  induction d with
  | zero =>
    intro k i h1 h2 hk
    obtain ⟨k, rfl⟩ : ∃ m, k = m + 1 := ⟨k - 1, by omega⟩
    simp only [BU.url_label.l0]
    rw [if_neg (by omega)]
    by_cases h : (s.size : Int) ≥ 1
    · rw [if_pos h]
      refine congrArg some ?_
      rw [Bool.eq_iff_iff]
      simp only [List.range'_zero, List.all_nil, Bool.true_and, Bool.and_eq_true, decide_eq_true_eq]
      omega
    · rw [if_neg h]
      refine congrArg some ?_
      rw [Bool.eq_iff_iff]
      simp only [List.range'_zero, List.all_nil, Bool.true_and, Bool.and_eq_true, decide_eq_true_eq, Bool.false_eq_true, eq_self, true_iff, false_iff]
      omega
  | succ d ih =>
    intro k i h1 h2 hk
    obtain ⟨k, rfl⟩ : ∃ m, k = m + 1 := ⟨k - 1, by omega⟩
    have hlt : i < s.data.toList.length := by omega
    have hw : wrap64 ((i : Int) + 1) = ((i + 1 : Nat) : Int) := by unfold wrap64; omega
    have hw2 : wrap64 ((s.size : Int) - 1) = (s.size : Int) - 1 := by unfold wrap64; omega
    have hih := ih k (i + 1) (by omega) (by omega) (by omega)
    have hok : okAt s.data.toList i = (plainB s.data.toList[i] || (s.data.toList[i] == 45 && decide (i ≠ 0) && decide (i ≠ s.data.toList.length - 1))) := by
      unfold okAt; rw [List.getElem?_eq_getElem hlt]
    simp only [BU.url_label.l0]
    rw [if_pos (show (i : Int) < (s.size : Int) by omega), if_pos (show (0 : Int) ≤ (i : Int) by omega), if_pos (show (i : Int) < (s.size : Int) by omega), bt_list s i hlt, plain_f]
    simp only [Option.bind_some]
    rw [hw, hw2, hih, List.range'_succ, List.all_cons, hok]
    generalize hc : s.data.toList[i] = c
    cases hp : plainB c with
    | true => simp
    | false =>
      by_cases h45 : (c.toNat : Int) = 45
      · have e : c = 45 := UInt8.toNat_inj.1 (by have : (45 : UInt8).toNat = 45 := rfl; omega)
        rw [if_neg (by simp), if_pos h45]
        subst e
        by_cases hi0 : i = 0
        · rw [if_pos (by omega)]; simp [hi0]
        · rw [if_neg (by omega)]
          by_cases hil : (i : Int) = (s.size : Int) - 1
          · rw [if_pos hil]; have : i = s.data.toList.length - 1 := by omega
            simp [this]
          · rw [if_neg hil]; have : ¬ i = s.data.toList.length - 1 := by omega
            simp only [Bool.false_or, beq_self_eq_true, Bool.true_and]
            rw [decide_eq_true (show i ≠ 0 from hi0), decide_eq_true (show i ≠ s.data.toList.length - 1 from this)]
            rfl
      · have e : (c == 45) = false := by
          rw [beq_eq_false_iff_ne]; intro e; subst e; exact h45 rfl
        rw [if_neg (by simp), if_neg h45]; simp [e]

theorem label_all (l : List UInt8) : ((List.range' 0 l.length).all (okAt l)) = (l.all (fun c => plainB c || c == 45) && ((l.head? != some 45) && (l.getLast? != some 45))) := by
  rw [Bool.eq_iff_iff]
  simp only [List.all_eq_true, List.mem_range'_1, Bool.and_eq_true, bne_iff_ne, ne_eq]
  constructor
  · intro h
    have get : ∀ (i : Nat) (hi : i < l.length), okAt l i = true := fun i hi => h i ⟨Nat.zero_le _, by omega⟩
    have ok : ∀ (i : Nat) (hi : i < l.length), (plainB l[i] || (l[i] == 45 && decide (i ≠ 0) && decide (i ≠ l.length - 1))) = true := fun i hi => by
      have := get i hi; unfold okAt at this; rwa [List.getElem?_eq_getElem hi] at this
    refine ⟨fun c hc => ?_, fun e => ?_, fun e => ?_⟩
    · obtain ⟨i, hi, rfl⟩ := List.getElem_of_mem hc
      have := ok i hi
      cases hp : plainB l[i] <;> simp_all
    · cases l with
      | nil => cases e
      | cons x xs =>
        simp at e; subst e
        have := ok 0 (by simp)
        simp [plainB] at this
    · rw [List.getLast?_eq_getElem?] at e
      obtain ⟨hl, he⟩ := List.getElem?_eq_some_iff.1 e
      have := ok (l.length - 1) hl
      rw [he] at this
      simp [plainB] at this
  · rintro ⟨h, hh, ht⟩ i ⟨_, hi⟩
    have hi : i < l.length := by omega
    unfold okAt; rw [List.getElem?_eq_getElem hi]
    have := h l[i] (List.getElem_mem hi)
    cases hp : plainB l[i] with
    | true => simp [hp]
    | false =>
      rw [hp] at this
      have e : l[i] = 45 := by simpa using this
      have h0 : i ≠ 0 := fun e0 => hh (by subst e0; rw [List.head?_eq_getElem?, List.getElem?_eq_getElem hi, e])
      have h1 : i ≠ l.length - 1 := fun e1 => ht (by rw [List.getLast?_eq_getElem?, ← e1, List.getElem?_eq_getElem hi, e])
      simp [e, h0, h1]

theorem label_f (s : ByteArray) (hn : s.size ≤ 140737488355328) : BU.url_label.f (s.size + 1) s = some (labelL s.data.toList) := by
  have hs : s.data.toList.length = s.size := (Lib.size_eq s).symm
  unfold BU.url_label.f
  have := label_loop s hn s.size (s.size + 1) 0 (Nat.zero_le _) rfl (by omega)
  rw [show ((0 : Nat) : Int) = 0 from rfl] at this
  rw [this, ← hs, label_all]
  unfold labelL
  simp only [Bool.and_assoc]

theorem label_calls (s : ByteArray) (hn : s.size ≤ 140737488355328) (w : World) :
    Calls Tryd.prog 68 #[.string s] w fun e w' => e = .returned (.bool (labelL s.data.toList)) ∧ Drawn0 w w' :=
  BU.url_label.calls _ s _ w (label_f s hn)
end Go.Proofs.YtfmppmabnpkooaaDoor
