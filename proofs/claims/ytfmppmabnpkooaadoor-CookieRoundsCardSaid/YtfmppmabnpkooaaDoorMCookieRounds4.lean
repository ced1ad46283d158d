/- CookieRounds: part 4 of its proof: BFx1, Lower, Name, Pieces, List, CutEq, Round, Pairs, Pairs2, BUx0, BUx1, BUx2, LabelU, HostU, LowF, CkNat, CkF, CkFl, CkRun, CkRnd. -/
import Derived.Test.YtfmppmabnpkooaaDoorMCookieRounds3
import Derived.Laws.IdiomStrings
import Derived.Deep.LoopGhost
import Derived.WalkKit
import Derived.Below
import Derived.RangeFuncBox
import Derived.Maps.AppendAt
import Derived.RangeFuncCalls
import Derived.OrdersIn
import Derived.Test.YtfmppmabnpkooaaDoorProg
import Derived.Deep.Draws
import Derived.Deep.AppendLies
import Derived.OwnWalk
import Derived.Laws.BytesArg
import Derived.Laws.MakeOwn
import Derived.Laws.OwnMore
import Derived.Deep.OwnRows
import Derived.Tactics
import Derived.Lib.ConvBytes
import Derived.Laws.Slices
import Derived.KernelRfl
import Derived.RowKit3
import Derived.Deep.QuietTactic
import Derived.BigQuiet
import Derived.WideLaws
import Derived.Deep.DeepCutAuto
import Derived.Deep.CutBlock
import Derived.Deep.RegionHeld3
import Derived.Laws.Rows
import Derived.Lib.AppendStr
import Derived.ArgAppend
import Derived.Laws.IdiomCopy
import Derived.OrdersHeld
import Derived.Laws.BitsLemmas
import Derived.RowKit
import Derived.Test.YtfmppmabnpkooaaDoorMCookieRounds0
import Derived.Test.YtfmppmabnpkooaaDoorMCookieRounds1
import Derived.Test.YtfmppmabnpkooaaDoorMCookieRounds2
section
-- Printed for this claim by the kit's print.py over given contracts (wip/myprint.py). Not trusted: Lean checks it.
namespace Go.Proofs.YtfmppmabnpkooaaDoor.BF
open Go.RowKit Go.Proofs.YtfmppmabnpkooaaDoorW.PrintWords Go.Proofs.YtfmppmabnpkooaaDoorW.PrintLast Go.Proofs.YtfmppmabnpkooaaDoorW.PrintMore
attribute [local go_sem] max2_int min2_int max_two min_two max_three min_three max_four min_four   -- for this text's walks alone
set_option linter.unusedVariables false
set_option linter.unusedSimpArgs false

/-! ### field_Name: function 24 -/
def field_Name.l0 : Nat → ByteArray → Int → Int → Option (Bool)
  | 0, _, _, _ => none
  | k + 1, x0, x6, x7 => if x7 < x6 then (if 0 ≤ x7 then (if x7 < (x0.size : Int) then (if (bt x0 x7) < 97 then (if (bt x0 x7) < 65 then (if (bt x0 x7) < 48 then ((strings_IndexByte.f (⟨#[33, 35, 36, 37, 38, 39, 42, 43, 45, 46, 94, 95, 124, 126, 96]⟩ : ByteArray) (bt x0 x7)).bind fun t101 => (if t101 < 0 then (some false) else (field_Name.l0 k x0 x6 (wrap64 (x7 + 1))))) else (if (bt x0 x7) > 57 then ((strings_IndexByte.f (⟨#[33, 35, 36, 37, 38, 39, 42, 43, 45, 46, 94, 95, 124, 126, 96]⟩ : ByteArray) (bt x0 x7)).bind fun t102 => (if t102 < 0 then (some false) else (field_Name.l0 k x0 x6 (wrap64 (x7 + 1))))) else (field_Name.l0 k x0 x6 (wrap64 (x7 + 1))))) else (if (bt x0 x7) > 90 then (if (bt x0 x7) < 48 then ((strings_IndexByte.f (⟨#[33, 35, 36, 37, 38, 39, 42, 43, 45, 46, 94, 95, 124, 126, 96]⟩ : ByteArray) (bt x0 x7)).bind fun t103 => (if t103 < 0 then (some false) else (field_Name.l0 k x0 x6 (wrap64 (x7 + 1))))) else (if (bt x0 x7) > 57 then ((strings_IndexByte.f (⟨#[33, 35, 36, 37, 38, 39, 42, 43, 45, 46, 94, 95, 124, 126, 96]⟩ : ByteArray) (bt x0 x7)).bind fun t104 => (if t104 < 0 then (some false) else (field_Name.l0 k x0 x6 (wrap64 (x7 + 1))))) else (field_Name.l0 k x0 x6 (wrap64 (x7 + 1))))) else (field_Name.l0 k x0 x6 (wrap64 (x7 + 1))))) else (if (bt x0 x7) > 122 then (if (bt x0 x7) < 65 then (if (bt x0 x7) < 48 then ((strings_IndexByte.f (⟨#[33, 35, 36, 37, 38, 39, 42, 43, 45, 46, 94, 95, 124, 126, 96]⟩ : ByteArray) (bt x0 x7)).bind fun t105 => (if t105 < 0 then (some false) else (field_Name.l0 k x0 x6 (wrap64 (x7 + 1))))) else (if (bt x0 x7) > 57 then ((strings_IndexByte.f (⟨#[33, 35, 36, 37, 38, 39, 42, 43, 45, 46, 94, 95, 124, 126, 96]⟩ : ByteArray) (bt x0 x7)).bind fun t106 => (if t106 < 0 then (some false) else (field_Name.l0 k x0 x6 (wrap64 (x7 + 1))))) else (field_Name.l0 k x0 x6 (wrap64 (x7 + 1))))) else (if (bt x0 x7) > 90 then (if (bt x0 x7) < 48 then ((strings_IndexByte.f (⟨#[33, 35, 36, 37, 38, 39, 42, 43, 45, 46, 94, 95, 124, 126, 96]⟩ : ByteArray) (bt x0 x7)).bind fun t107 => (if t107 < 0 then (some false) else (field_Name.l0 k x0 x6 (wrap64 (x7 + 1))))) else (if (bt x0 x7) > 57 then ((strings_IndexByte.f (⟨#[33, 35, 36, 37, 38, 39, 42, 43, 45, 46, 94, 95, 124, 126, 96]⟩ : ByteArray) (bt x0 x7)).bind fun t108 => (if t108 < 0 then (some false) else (field_Name.l0 k x0 x6 (wrap64 (x7 + 1))))) else (field_Name.l0 k x0 x6 (wrap64 (x7 + 1))))) else (field_Name.l0 k x0 x6 (wrap64 (x7 + 1))))) else (field_Name.l0 k x0 x6 (wrap64 (x7 + 1))))) else (none)) else (none)) else (if (x0.size : Int) ≥ 1 then (some (decide ((x0.size : Int) ≤ 40))) else (some false))
def field_Name.f (k : Nat) (a0 : ByteArray) : Option (Bool) := field_Name.l0 k a0 (a0.size : Int) 0
theorem field_Name.mono_l : ∀ k, (∀ y0 y1 y2, LeO (field_Name.l0 k y0 y1 y2) (field_Name.l0 (k + 1) y0 y1 y2))
  | 0 => fun _ _ _ r h => by simp [field_Name.l0] at h
  | k + 1 => by
    have ih0 := field_Name.mono_l k
    · intro y0 y1 y2
      unfold field_Name.l0
      repeat' first
      | (with_reducible exact ih0 _ _ _)
      | (with_reducible exact LeO.refl _)
      | (with_reducible exact LeO.none _)
      | (with_reducible refine LeO.ite ?_ ?_)
      | (with_reducible refine LeO.bind ?_ (fun _ => ?_))
      | exact ih0 _ _ _
      | exact LeO.none _
      | refine LeO.ite ?_ ?_
      | refine LeO.bind ?_ (fun _ => ?_)
theorem field_Name.mono : ∀ a0 k, LeO (field_Name.f k a0) (field_Name.f (k + 1) a0) := by
  intro a0 k
  have ih0 := field_Name.mono_l k
  unfold field_Name.f
  repeat' first
      | (with_reducible exact ih0 _ _ _)
      | (with_reducible exact LeO.refl _)
      | (with_reducible exact LeO.none _)
      | (with_reducible refine LeO.ite ?_ ?_)
      | (with_reducible refine LeO.bind ?_ (fun _ => ?_))
      | exact ih0 _ _ _
      | exact LeO.none _
      | refine LeO.ite ?_ ?_
      | refine LeO.bind ?_ (fun _ => ?_)
set_option maxHeartbeats 2000000 in
set_option maxRecDepth 100000 in
theorem field_Name.calls (k : Nat) (a0 : ByteArray) (r : Bool) (w : World) (h : field_Name.f k a0 = some r) :
    Calls Tryd.prog 24 #[.string a0] w fun e w' => e = .returned (.bool r) ∧ Drawn0 w w' := by
  have H : (field_Name.l0 k a0 (a0.size : Int) 0) = some r := h
  clear h
  have H' := Aside0.mk H
  clear H
  go_enter Tryd.func24, Tryd.ntmps24
  go_wp2
  go_loopg [7] k (fun kq v7 w' => ∃ (x7_1 : Int), v7 = .int .i64 x7_1 ∧ Aside0 (field_Name.l0 kq a0 (a0.size : Int) x7_1 = some r) ∧ Aside0 (kq ≤ k) ∧ Drawn0 w w')
  case atStart => exact ⟨(0), (by first | rfl | (simp; done) | (simp [*]; done) | (simp [isEmpty_bne, isEmpty_beq]; done) | (simp [*, isEmpty_bne, isEmpty_beq]; done)), H', ⟨Nat.le_refl _⟩, by repeat (first | exact Drawn0.refl _ | apply Drawn0.step)⟩
  case round =>
    clear H'
    obtain ⟨x7_1, rfl, HA, HK1, ⟨m1, rfl⟩⟩ := hrel
    cases gk with
    | zero => exact absurd HA.out (by simp [field_Name.l0])
    | succ k1 =>
      have H := HA.out
      clear HA
      simp only [field_Name.l0] at H
      by_cases c2 : x7_1 < (a0.size : Int)
      · rw [if_pos c2] at H
        have c2b0 : decide (x7_1 < (a0.size : Int)) = true := decide_eq_true c2
        clear c2
        by_cases c3 : 0 ≤ x7_1
        · rw [if_pos c3] at H
          have c3b0 : decide (0 ≤ x7_1) = true := decide_eq_true c3
          clear c3
          by_cases c4 : x7_1 < (a0.size : Int)
          · rw [if_pos c4] at H
            have c4b0 : decide (x7_1 < (a0.size : Int)) = true := decide_eq_true c4
            clear c4
            by_cases c6 : (bt a0 x7_1) < 97
            · rw [if_pos c6] at H
              have c6b0 : decide ((bt a0 x7_1) < 97) = true := decide_eq_true c6
              clear c6
              by_cases c7 : (bt a0 x7_1) < 65
              · rw [if_pos c7] at H
                have c7b0 : decide ((bt a0 x7_1) < 65) = true := decide_eq_true c7
                clear c7
                by_cases c8 : (bt a0 x7_1) < 48
                · rw [if_pos c8] at H
                  have c8b0 : decide ((bt a0 x7_1) < 48) = true := decide_eq_true c8
                  clear c8
                  replace H := Option.bind_eq_some_iff.mp H
                  obtain ⟨t101, A90, H⟩ := H
                  replace H : (if t101 < 0 then (some false) else (field_Name.l0 k1 a0 (a0.size : Int) (wrap64 (x7_1 + 1)))) = some r := H
                  have A9 := Aside0.mk A90
                  clear A90
                  by_cases c10 : t101 < 0
                  · rw [if_pos c10] at H
                    have c10b0 : decide (t101 < 0) = true := decide_eq_true c10
                    clear c10
                    obtain rfl := Option.some.inj H
                    have p5 : 0 ≤ (x7_1 : Int) := of_decide_eq_true (by first | (with_reducible assumption) | assumption)
                    have q5 : x7_1 < (a0.size : Int) := of_decide_eq_true (by first | (with_reducible assumption) | assumption)
                    have hx5 := bt_at a0 x7_1
                    replace p5 := eq_true p5
                    replace q5 := eq_true q5
                    go_wp2_with (first | (go_at_call 58; (with_reducible refine (strings_IndexByte.calls (⟨#[33, 35, 36, 37, 38, 39, 42, 43, 45, 46, 94, 95, 124, 126, 96]⟩ : ByteArray) (bt a0 x7_1) t101 _ A9.out).mono ?_); rintro e w' ⟨rfl, ⟨nd, rfl⟩⟩))
                    go_ret
                    exact ⟨by first | rfl | (simp; done) | (simp [*]; done) | (simp [isEmpty_bne, isEmpty_beq]; done) | (simp [*, isEmpty_bne, isEmpty_beq]; done), by repeat (first | exact Drawn0.refl _ | apply Drawn0.step)⟩
                  · rw [if_neg c10] at H
                    have c10b0 : decide (t101 < 0) = false := decide_eq_false c10
                    clear c10
                    have H' := Aside0.mk H
                    clear H
                    have p5 : 0 ≤ (x7_1 : Int) := of_decide_eq_true (by first | (with_reducible assumption) | assumption)
                    have q5 : x7_1 < (a0.size : Int) := of_decide_eq_true (by first | (with_reducible assumption) | assumption)
                    have hx5 := bt_at a0 x7_1
                    replace p5 := eq_true p5
                    replace q5 := eq_true q5
                    go_wp2_with (first | (go_at_call 58; (with_reducible refine (strings_IndexByte.calls (⟨#[33, 35, 36, 37, 38, 39, 42, 43, 45, 46, 94, 95, 124, 126, 96]⟩ : ByteArray) (bt a0 x7_1) t101 _ A9.out).mono ?_); rintro e w' ⟨rfl, ⟨nd, rfl⟩⟩))
                    go_roundg k1
                    case measure => have := HK1.out; omega
                    case rel => exact ⟨(wrap64 (x7_1 + 1)), (by first | rfl | (simp; done) | (simp [*]; done) | (simp [isEmpty_bne, isEmpty_beq]; done) | (simp [*, isEmpty_bne, isEmpty_beq]; done)), H', ⟨by have := HK1.out; omega⟩, by repeat (first | exact Drawn0.refl _ | apply Drawn0.step)⟩
                · rw [if_neg c8] at H
                  have c8b0 : decide ((bt a0 x7_1) < 48) = false := decide_eq_false c8
                  clear c8
                  by_cases c11 : (bt a0 x7_1) > 57
                  · rw [if_pos c11] at H
                    have c11b0 : decide (57 < (bt a0 x7_1)) = true := decide_eq_true c11
                    clear c11
                    replace H := Option.bind_eq_some_iff.mp H
                    obtain ⟨t102, A120, H⟩ := H
                    replace H : (if t102 < 0 then (some false) else (field_Name.l0 k1 a0 (a0.size : Int) (wrap64 (x7_1 + 1)))) = some r := H
                    have A12 := Aside0.mk A120
                    clear A120
                    by_cases c13 : t102 < 0
                    · rw [if_pos c13] at H
                      have c13b0 : decide (t102 < 0) = true := decide_eq_true c13
                      clear c13
                      obtain rfl := Option.some.inj H
                      have p5 : 0 ≤ (x7_1 : Int) := of_decide_eq_true (by first | (with_reducible assumption) | assumption)
                      have q5 : x7_1 < (a0.size : Int) := of_decide_eq_true (by first | (with_reducible assumption) | assumption)
                      have hx5 := bt_at a0 x7_1
                      replace p5 := eq_true p5
                      replace q5 := eq_true q5
                      go_wp2_with (first | (go_at_call 58; (with_reducible refine (strings_IndexByte.calls (⟨#[33, 35, 36, 37, 38, 39, 42, 43, 45, 46, 94, 95, 124, 126, 96]⟩ : ByteArray) (bt a0 x7_1) t102 _ A12.out).mono ?_); rintro e w' ⟨rfl, ⟨nd, rfl⟩⟩))
                      go_ret
                      exact ⟨by first | rfl | (simp; done) | (simp [*]; done) | (simp [isEmpty_bne, isEmpty_beq]; done) | (simp [*, isEmpty_bne, isEmpty_beq]; done), by repeat (first | exact Drawn0.refl _ | apply Drawn0.step)⟩
                    · rw [if_neg c13] at H
                      have c13b0 : decide (t102 < 0) = false := decide_eq_false c13
                      clear c13
                      have H' := Aside0.mk H
                      clear H
                      have p5 : 0 ≤ (x7_1 : Int) := of_decide_eq_true (by first | (with_reducible assumption) | assumption)
                      have q5 : x7_1 < (a0.size : Int) := of_decide_eq_true (by first | (with_reducible assumption) | assumption)
                      have hx5 := bt_at a0 x7_1
                      replace p5 := eq_true p5
                      replace q5 := eq_true q5
                      go_wp2_with (first | (go_at_call 58; (with_reducible refine (strings_IndexByte.calls (⟨#[33, 35, 36, 37, 38, 39, 42, 43, 45, 46, 94, 95, 124, 126, 96]⟩ : ByteArray) (bt a0 x7_1) t102 _ A12.out).mono ?_); rintro e w' ⟨rfl, ⟨nd, rfl⟩⟩))
                      go_roundg k1
                      case measure => have := HK1.out; omega
                      case rel => exact ⟨(wrap64 (x7_1 + 1)), (by first | rfl | (simp; done) | (simp [*]; done) | (simp [isEmpty_bne, isEmpty_beq]; done) | (simp [*, isEmpty_bne, isEmpty_beq]; done)), H', ⟨by have := HK1.out; omega⟩, by repeat (first | exact Drawn0.refl _ | apply Drawn0.step)⟩
                  · rw [if_neg c11] at H
                    have c11b0 : decide (57 < (bt a0 x7_1)) = false := decide_eq_false c11
                    clear c11
                    have H' := Aside0.mk H
                    clear H
                    have p5 : 0 ≤ (x7_1 : Int) := of_decide_eq_true (by first | (with_reducible assumption) | assumption)
                    have q5 : x7_1 < (a0.size : Int) := of_decide_eq_true (by first | (with_reducible assumption) | assumption)
                    have hx5 := bt_at a0 x7_1
                    replace p5 := eq_true p5
                    replace q5 := eq_true q5
                    go_wp2
                    go_roundg k1
                    case measure => have := HK1.out; omega
                    case rel => exact ⟨(wrap64 (x7_1 + 1)), (by first | rfl | (simp; done) | (simp [*]; done) | (simp [isEmpty_bne, isEmpty_beq]; done) | (simp [*, isEmpty_bne, isEmpty_beq]; done)), H', ⟨by have := HK1.out; omega⟩, by repeat (first | exact Drawn0.refl _ | apply Drawn0.step)⟩
              · rw [if_neg c7] at H
                have c7b0 : decide ((bt a0 x7_1) < 65) = false := decide_eq_false c7
                clear c7
                by_cases c14 : (bt a0 x7_1) > 90
                · rw [if_pos c14] at H
                  have c14b0 : decide (90 < (bt a0 x7_1)) = true := decide_eq_true c14
                  clear c14
                  by_cases c15 : (bt a0 x7_1) < 48
                  · rw [if_pos c15] at H
                    have c15b0 : decide ((bt a0 x7_1) < 48) = true := decide_eq_true c15
                    clear c15
                    replace H := Option.bind_eq_some_iff.mp H
                    obtain ⟨t103, A160, H⟩ := H
                    replace H : (if t103 < 0 then (some false) else (field_Name.l0 k1 a0 (a0.size : Int) (wrap64 (x7_1 + 1)))) = some r := H
                    have A16 := Aside0.mk A160
                    clear A160
                    by_cases c17 : t103 < 0
                    · rw [if_pos c17] at H
                      have c17b0 : decide (t103 < 0) = true := decide_eq_true c17
                      clear c17
                      obtain rfl := Option.some.inj H
                      have p5 : 0 ≤ (x7_1 : Int) := of_decide_eq_true (by first | (with_reducible assumption) | assumption)
                      have q5 : x7_1 < (a0.size : Int) := of_decide_eq_true (by first | (with_reducible assumption) | assumption)
                      have hx5 := bt_at a0 x7_1
                      replace p5 := eq_true p5
                      replace q5 := eq_true q5
                      go_wp2_with (first | (go_at_call 58; (with_reducible refine (strings_IndexByte.calls (⟨#[33, 35, 36, 37, 38, 39, 42, 43, 45, 46, 94, 95, 124, 126, 96]⟩ : ByteArray) (bt a0 x7_1) t103 _ A16.out).mono ?_); rintro e w' ⟨rfl, ⟨nd, rfl⟩⟩))
                      go_ret
                      exact ⟨by first | rfl | (simp; done) | (simp [*]; done) | (simp [isEmpty_bne, isEmpty_beq]; done) | (simp [*, isEmpty_bne, isEmpty_beq]; done), by repeat (first | exact Drawn0.refl _ | apply Drawn0.step)⟩
                    · rw [if_neg c17] at H
                      have c17b0 : decide (t103 < 0) = false := decide_eq_false c17
                      clear c17
                      have H' := Aside0.mk H
                      clear H
                      have p5 : 0 ≤ (x7_1 : Int) := of_decide_eq_true (by first | (with_reducible assumption) | assumption)
                      have q5 : x7_1 < (a0.size : Int) := of_decide_eq_true (by first | (with_reducible assumption) | assumption)
                      have hx5 := bt_at a0 x7_1
                      replace p5 := eq_true p5
                      replace q5 := eq_true q5
                      go_wp2_with (first | (go_at_call 58; (with_reducible refine (strings_IndexByte.calls (⟨#[33, 35, 36, 37, 38, 39, 42, 43, 45, 46, 94, 95, 124, 126, 96]⟩ : ByteArray) (bt a0 x7_1) t103 _ A16.out).mono ?_); rintro e w' ⟨rfl, ⟨nd, rfl⟩⟩))
                      go_roundg k1
                      case measure => have := HK1.out; omega
                      case rel => exact ⟨(wrap64 (x7_1 + 1)), (by first | rfl | (simp; done) | (simp [*]; done) | (simp [isEmpty_bne, isEmpty_beq]; done) | (simp [*, isEmpty_bne, isEmpty_beq]; done)), H', ⟨by have := HK1.out; omega⟩, by repeat (first | exact Drawn0.refl _ | apply Drawn0.step)⟩
                  · rw [if_neg c15] at H
                    have c15b0 : decide ((bt a0 x7_1) < 48) = false := decide_eq_false c15
                    clear c15
                    by_cases c18 : (bt a0 x7_1) > 57
                    · rw [if_pos c18] at H
                      have c18b0 : decide (57 < (bt a0 x7_1)) = true := decide_eq_true c18
                      clear c18
                      replace H := Option.bind_eq_some_iff.mp H
                      obtain ⟨t104, A190, H⟩ := H
                      replace H : (if t104 < 0 then (some false) else (field_Name.l0 k1 a0 (a0.size : Int) (wrap64 (x7_1 + 1)))) = some r := H
                      have A19 := Aside0.mk A190
                      clear A190
                      by_cases c20 : t104 < 0
                      · rw [if_pos c20] at H
                        have c20b0 : decide (t104 < 0) = true := decide_eq_true c20
                        clear c20
                        obtain rfl := Option.some.inj H
                        have p5 : 0 ≤ (x7_1 : Int) := of_decide_eq_true (by first | (with_reducible assumption) | assumption)
                        have q5 : x7_1 < (a0.size : Int) := of_decide_eq_true (by first | (with_reducible assumption) | assumption)
                        have hx5 := bt_at a0 x7_1
                        replace p5 := eq_true p5
                        replace q5 := eq_true q5
                        go_wp2_with (first | (go_at_call 58; (with_reducible refine (strings_IndexByte.calls (⟨#[33, 35, 36, 37, 38, 39, 42, 43, 45, 46, 94, 95, 124, 126, 96]⟩ : ByteArray) (bt a0 x7_1) t104 _ A19.out).mono ?_); rintro e w' ⟨rfl, ⟨nd, rfl⟩⟩))
                        go_ret
                        exact ⟨by first | rfl | (simp; done) | (simp [*]; done) | (simp [isEmpty_bne, isEmpty_beq]; done) | (simp [*, isEmpty_bne, isEmpty_beq]; done), by repeat (first | exact Drawn0.refl _ | apply Drawn0.step)⟩
                      · rw [if_neg c20] at H
                        have c20b0 : decide (t104 < 0) = false := decide_eq_false c20
                        clear c20
                        have H' := Aside0.mk H
                        clear H
                        have p5 : 0 ≤ (x7_1 : Int) := of_decide_eq_true (by first | (with_reducible assumption) | assumption)
                        have q5 : x7_1 < (a0.size : Int) := of_decide_eq_true (by first | (with_reducible assumption) | assumption)
                        have hx5 := bt_at a0 x7_1
                        replace p5 := eq_true p5
                        replace q5 := eq_true q5
                        go_wp2_with (first | (go_at_call 58; (with_reducible refine (strings_IndexByte.calls (⟨#[33, 35, 36, 37, 38, 39, 42, 43, 45, 46, 94, 95, 124, 126, 96]⟩ : ByteArray) (bt a0 x7_1) t104 _ A19.out).mono ?_); rintro e w' ⟨rfl, ⟨nd, rfl⟩⟩))
                        go_roundg k1
                        case measure => have := HK1.out; omega
                        case rel => exact ⟨(wrap64 (x7_1 + 1)), (by first | rfl | (simp; done) | (simp [*]; done) | (simp [isEmpty_bne, isEmpty_beq]; done) | (simp [*, isEmpty_bne, isEmpty_beq]; done)), H', ⟨by have := HK1.out; omega⟩, by repeat (first | exact Drawn0.refl _ | apply Drawn0.step)⟩
                    · rw [if_neg c18] at H
                      have c18b0 : decide (57 < (bt a0 x7_1)) = false := decide_eq_false c18
                      clear c18
                      have H' := Aside0.mk H
                      clear H
                      have p5 : 0 ≤ (x7_1 : Int) := of_decide_eq_true (by first | (with_reducible assumption) | assumption)
                      have q5 : x7_1 < (a0.size : Int) := of_decide_eq_true (by first | (with_reducible assumption) | assumption)
                      have hx5 := bt_at a0 x7_1
                      replace p5 := eq_true p5
                      replace q5 := eq_true q5
                      go_wp2
                      go_roundg k1
                      case measure => have := HK1.out; omega
                      case rel => exact ⟨(wrap64 (x7_1 + 1)), (by first | rfl | (simp; done) | (simp [*]; done) | (simp [isEmpty_bne, isEmpty_beq]; done) | (simp [*, isEmpty_bne, isEmpty_beq]; done)), H', ⟨by have := HK1.out; omega⟩, by repeat (first | exact Drawn0.refl _ | apply Drawn0.step)⟩
                · rw [if_neg c14] at H
                  have c14b0 : decide (90 < (bt a0 x7_1)) = false := decide_eq_false c14
                  clear c14
                  have H' := Aside0.mk H
                  clear H
                  have p5 : 0 ≤ (x7_1 : Int) := of_decide_eq_true (by first | (with_reducible assumption) | assumption)
                  have q5 : x7_1 < (a0.size : Int) := of_decide_eq_true (by first | (with_reducible assumption) | assumption)
                  have hx5 := bt_at a0 x7_1
                  replace p5 := eq_true p5
                  replace q5 := eq_true q5
                  go_wp2
                  go_roundg k1
                  case measure => have := HK1.out; omega
                  case rel => exact ⟨(wrap64 (x7_1 + 1)), (by first | rfl | (simp; done) | (simp [*]; done) | (simp [isEmpty_bne, isEmpty_beq]; done) | (simp [*, isEmpty_bne, isEmpty_beq]; done)), H', ⟨by have := HK1.out; omega⟩, by repeat (first | exact Drawn0.refl _ | apply Drawn0.step)⟩
            · rw [if_neg c6] at H
              have c6b0 : decide ((bt a0 x7_1) < 97) = false := decide_eq_false c6
              clear c6
              by_cases c21 : (bt a0 x7_1) > 122
              · rw [if_pos c21] at H
                have c21b0 : decide (122 < (bt a0 x7_1)) = true := decide_eq_true c21
                clear c21
                by_cases c22 : (bt a0 x7_1) < 65
                · rw [if_pos c22] at H
                  have c22b0 : decide ((bt a0 x7_1) < 65) = true := decide_eq_true c22
                  clear c22
                  by_cases c23 : (bt a0 x7_1) < 48
                  · rw [if_pos c23] at H
                    have c23b0 : decide ((bt a0 x7_1) < 48) = true := decide_eq_true c23
                    clear c23
                    replace H := Option.bind_eq_some_iff.mp H
                    obtain ⟨t105, A240, H⟩ := H
                    replace H : (if t105 < 0 then (some false) else (field_Name.l0 k1 a0 (a0.size : Int) (wrap64 (x7_1 + 1)))) = some r := H
                    have A24 := Aside0.mk A240
                    clear A240
                    by_cases c25 : t105 < 0
                    · rw [if_pos c25] at H
                      have c25b0 : decide (t105 < 0) = true := decide_eq_true c25
                      clear c25
                      obtain rfl := Option.some.inj H
                      have p5 : 0 ≤ (x7_1 : Int) := of_decide_eq_true (by first | (with_reducible assumption) | assumption)
                      have q5 : x7_1 < (a0.size : Int) := of_decide_eq_true (by first | (with_reducible assumption) | assumption)
                      have hx5 := bt_at a0 x7_1
                      replace p5 := eq_true p5
                      replace q5 := eq_true q5
                      go_wp2_with (first | (go_at_call 58; (with_reducible refine (strings_IndexByte.calls (⟨#[33, 35, 36, 37, 38, 39, 42, 43, 45, 46, 94, 95, 124, 126, 96]⟩ : ByteArray) (bt a0 x7_1) t105 _ A24.out).mono ?_); rintro e w' ⟨rfl, ⟨nd, rfl⟩⟩))
                      go_ret
                      exact ⟨by first | rfl | (simp; done) | (simp [*]; done) | (simp [isEmpty_bne, isEmpty_beq]; done) | (simp [*, isEmpty_bne, isEmpty_beq]; done), by repeat (first | exact Drawn0.refl _ | apply Drawn0.step)⟩
                    · rw [if_neg c25] at H
                      have c25b0 : decide (t105 < 0) = false := decide_eq_false c25
                      clear c25
                      have H' := Aside0.mk H
                      clear H
                      have p5 : 0 ≤ (x7_1 : Int) := of_decide_eq_true (by first | (with_reducible assumption) | assumption)
                      have q5 : x7_1 < (a0.size : Int) := of_decide_eq_true (by first | (with_reducible assumption) | assumption)
                      have hx5 := bt_at a0 x7_1
                      replace p5 := eq_true p5
                      replace q5 := eq_true q5
                      go_wp2_with (first | (go_at_call 58; (with_reducible refine (strings_IndexByte.calls (⟨#[33, 35, 36, 37, 38, 39, 42, 43, 45, 46, 94, 95, 124, 126, 96]⟩ : ByteArray) (bt a0 x7_1) t105 _ A24.out).mono ?_); rintro e w' ⟨rfl, ⟨nd, rfl⟩⟩))
                      go_roundg k1
                      case measure => have := HK1.out; omega
                      case rel => exact ⟨(wrap64 (x7_1 + 1)), (by first | rfl | (simp; done) | (simp [*]; done) | (simp [isEmpty_bne, isEmpty_beq]; done) | (simp [*, isEmpty_bne, isEmpty_beq]; done)), H', ⟨by have := HK1.out; omega⟩, by repeat (first | exact Drawn0.refl _ | apply Drawn0.step)⟩
                  · rw [if_neg c23] at H
                    have c23b0 : decide ((bt a0 x7_1) < 48) = false := decide_eq_false c23
                    clear c23
                    by_cases c26 : (bt a0 x7_1) > 57
                    · rw [if_pos c26] at H
                      have c26b0 : decide (57 < (bt a0 x7_1)) = true := decide_eq_true c26
                      clear c26
                      replace H := Option.bind_eq_some_iff.mp H
                      obtain ⟨t106, A270, H⟩ := H
                      replace H : (if t106 < 0 then (some false) else (field_Name.l0 k1 a0 (a0.size : Int) (wrap64 (x7_1 + 1)))) = some r := H
                      have A27 := Aside0.mk A270
                      clear A270
                      by_cases c28 : t106 < 0
                      · rw [if_pos c28] at H
                        have c28b0 : decide (t106 < 0) = true := decide_eq_true c28
                        clear c28
                        obtain rfl := Option.some.inj H
                        have p5 : 0 ≤ (x7_1 : Int) := of_decide_eq_true (by first | (with_reducible assumption) | assumption)
                        have q5 : x7_1 < (a0.size : Int) := of_decide_eq_true (by first | (with_reducible assumption) | assumption)
                        have hx5 := bt_at a0 x7_1
                        replace p5 := eq_true p5
                        replace q5 := eq_true q5
                        go_wp2_with (first | (go_at_call 58; (with_reducible refine (strings_IndexByte.calls (⟨#[33, 35, 36, 37, 38, 39, 42, 43, 45, 46, 94, 95, 124, 126, 96]⟩ : ByteArray) (bt a0 x7_1) t106 _ A27.out).mono ?_); rintro e w' ⟨rfl, ⟨nd, rfl⟩⟩))
                        go_ret
                        exact ⟨by first | rfl | (simp; done) | (simp [*]; done) | (simp [isEmpty_bne, isEmpty_beq]; done) | (simp [*, isEmpty_bne, isEmpty_beq]; done), by repeat (first | exact Drawn0.refl _ | apply Drawn0.step)⟩
                      · rw [if_neg c28] at H
                        have c28b0 : decide (t106 < 0) = false := decide_eq_false c28
                        clear c28
                        have H' := Aside0.mk H
                        clear H
                        have p5 : 0 ≤ (x7_1 : Int) := of_decide_eq_true (by first | (with_reducible assumption) | assumption)
                        have q5 : x7_1 < (a0.size : Int) := of_decide_eq_true (by first | (with_reducible assumption) | assumption)
                        have hx5 := bt_at a0 x7_1
                        replace p5 := eq_true p5
                        replace q5 := eq_true q5
                        go_wp2_with (first | (go_at_call 58; (with_reducible refine (strings_IndexByte.calls (⟨#[33, 35, 36, 37, 38, 39, 42, 43, 45, 46, 94, 95, 124, 126, 96]⟩ : ByteArray) (bt a0 x7_1) t106 _ A27.out).mono ?_); rintro e w' ⟨rfl, ⟨nd, rfl⟩⟩))
                        go_roundg k1
                        case measure => have := HK1.out; omega
                        case rel => exact ⟨(wrap64 (x7_1 + 1)), (by first | rfl | (simp; done) | (simp [*]; done) | (simp [isEmpty_bne, isEmpty_beq]; done) | (simp [*, isEmpty_bne, isEmpty_beq]; done)), H', ⟨by have := HK1.out; omega⟩, by repeat (first | exact Drawn0.refl _ | apply Drawn0.step)⟩
                    · rw [if_neg c26] at H
                      have c26b0 : decide (57 < (bt a0 x7_1)) = false := decide_eq_false c26
                      clear c26
                      have H' := Aside0.mk H
                      clear H
                      have p5 : 0 ≤ (x7_1 : Int) := of_decide_eq_true (by first | (with_reducible assumption) | assumption)
                      have q5 : x7_1 < (a0.size : Int) := of_decide_eq_true (by first | (with_reducible assumption) | assumption)
                      have hx5 := bt_at a0 x7_1
                      replace p5 := eq_true p5
                      replace q5 := eq_true q5
                      go_wp2
                      go_roundg k1
                      case measure => have := HK1.out; omega
                      case rel => exact ⟨(wrap64 (x7_1 + 1)), (by first | rfl | (simp; done) | (simp [*]; done) | (simp [isEmpty_bne, isEmpty_beq]; done) | (simp [*, isEmpty_bne, isEmpty_beq]; done)), H', ⟨by have := HK1.out; omega⟩, by repeat (first | exact Drawn0.refl _ | apply Drawn0.step)⟩
                · rw [if_neg c22] at H
                  have c22b0 : decide ((bt a0 x7_1) < 65) = false := decide_eq_false c22
                  clear c22
                  by_cases c29 : (bt a0 x7_1) > 90
                  · rw [if_pos c29] at H
                    have c29b0 : decide (90 < (bt a0 x7_1)) = true := decide_eq_true c29
                    clear c29
                    by_cases c30 : (bt a0 x7_1) < 48
                    · rw [if_pos c30] at H
                      have c30b0 : decide ((bt a0 x7_1) < 48) = true := decide_eq_true c30
                      clear c30
                      replace H := Option.bind_eq_some_iff.mp H
                      obtain ⟨t107, A310, H⟩ := H
                      replace H : (if t107 < 0 then (some false) else (field_Name.l0 k1 a0 (a0.size : Int) (wrap64 (x7_1 + 1)))) = some r := H
                      have A31 := Aside0.mk A310
                      clear A310
                      by_cases c32 : t107 < 0
                      · rw [if_pos c32] at H
                        have c32b0 : decide (t107 < 0) = true := decide_eq_true c32
                        clear c32
                        obtain rfl := Option.some.inj H
                        have p5 : 0 ≤ (x7_1 : Int) := of_decide_eq_true (by first | (with_reducible assumption) | assumption)
                        have q5 : x7_1 < (a0.size : Int) := of_decide_eq_true (by first | (with_reducible assumption) | assumption)
                        have hx5 := bt_at a0 x7_1
                        replace p5 := eq_true p5
                        replace q5 := eq_true q5
                        go_wp2_with (first | (go_at_call 58; (with_reducible refine (strings_IndexByte.calls (⟨#[33, 35, 36, 37, 38, 39, 42, 43, 45, 46, 94, 95, 124, 126, 96]⟩ : ByteArray) (bt a0 x7_1) t107 _ A31.out).mono ?_); rintro e w' ⟨rfl, ⟨nd, rfl⟩⟩))
                        go_ret
                        exact ⟨by first | rfl | (simp; done) | (simp [*]; done) | (simp [isEmpty_bne, isEmpty_beq]; done) | (simp [*, isEmpty_bne, isEmpty_beq]; done), by repeat (first | exact Drawn0.refl _ | apply Drawn0.step)⟩
                      · rw [if_neg c32] at H
                        have c32b0 : decide (t107 < 0) = false := decide_eq_false c32
                        clear c32
                        have H' := Aside0.mk H
                        clear H
                        have p5 : 0 ≤ (x7_1 : Int) := of_decide_eq_true (by first | (with_reducible assumption) | assumption)
                        have q5 : x7_1 < (a0.size : Int) := of_decide_eq_true (by first | (with_reducible assumption) | assumption)
                        have hx5 := bt_at a0 x7_1
                        replace p5 := eq_true p5
                        replace q5 := eq_true q5
                        go_wp2_with (first | (go_at_call 58; (with_reducible refine (strings_IndexByte.calls (⟨#[33, 35, 36, 37, 38, 39, 42, 43, 45, 46, 94, 95, 124, 126, 96]⟩ : ByteArray) (bt a0 x7_1) t107 _ A31.out).mono ?_); rintro e w' ⟨rfl, ⟨nd, rfl⟩⟩))
                        go_roundg k1
                        case measure => have := HK1.out; omega
                        case rel => exact ⟨(wrap64 (x7_1 + 1)), (by first | rfl | (simp; done) | (simp [*]; done) | (simp [isEmpty_bne, isEmpty_beq]; done) | (simp [*, isEmpty_bne, isEmpty_beq]; done)), H', ⟨by have := HK1.out; omega⟩, by repeat (first | exact Drawn0.refl _ | apply Drawn0.step)⟩
                    · rw [if_neg c30] at H
                      have c30b0 : decide ((bt a0 x7_1) < 48) = false := decide_eq_false c30
                      clear c30
                      by_cases c33 : (bt a0 x7_1) > 57
                      · rw [if_pos c33] at H
                        have c33b0 : decide (57 < (bt a0 x7_1)) = true := decide_eq_true c33
                        clear c33
                        replace H := Option.bind_eq_some_iff.mp H
                        obtain ⟨t108, A340, H⟩ := H
                        replace H : (if t108 < 0 then (some false) else (field_Name.l0 k1 a0 (a0.size : Int) (wrap64 (x7_1 + 1)))) = some r := H
                        have A34 := Aside0.mk A340
                        clear A340
                        by_cases c35 : t108 < 0
                        · rw [if_pos c35] at H
                          have c35b0 : decide (t108 < 0) = true := decide_eq_true c35
                          clear c35
                          obtain rfl := Option.some.inj H
                          have p5 : 0 ≤ (x7_1 : Int) := of_decide_eq_true (by first | (with_reducible assumption) | assumption)
                          have q5 : x7_1 < (a0.size : Int) := of_decide_eq_true (by first | (with_reducible assumption) | assumption)
                          have hx5 := bt_at a0 x7_1
                          replace p5 := eq_true p5
                          replace q5 := eq_true q5
                          go_wp2_with (first | (go_at_call 58; (with_reducible refine (strings_IndexByte.calls (⟨#[33, 35, 36, 37, 38, 39, 42, 43, 45, 46, 94, 95, 124, 126, 96]⟩ : ByteArray) (bt a0 x7_1) t108 _ A34.out).mono ?_); rintro e w' ⟨rfl, ⟨nd, rfl⟩⟩))
                          go_ret
                          exact ⟨by first | rfl | (simp; done) | (simp [*]; done) | (simp [isEmpty_bne, isEmpty_beq]; done) | (simp [*, isEmpty_bne, isEmpty_beq]; done), by repeat (first | exact Drawn0.refl _ | apply Drawn0.step)⟩
                        · rw [if_neg c35] at H
                          have c35b0 : decide (t108 < 0) = false := decide_eq_false c35
                          clear c35
                          have H' := Aside0.mk H
                          clear H
                          have p5 : 0 ≤ (x7_1 : Int) := of_decide_eq_true (by first | (with_reducible assumption) | assumption)
                          have q5 : x7_1 < (a0.size : Int) := of_decide_eq_true (by first | (with_reducible assumption) | assumption)
                          have hx5 := bt_at a0 x7_1
                          replace p5 := eq_true p5
                          replace q5 := eq_true q5
                          go_wp2_with (first | (go_at_call 58; (with_reducible refine (strings_IndexByte.calls (⟨#[33, 35, 36, 37, 38, 39, 42, 43, 45, 46, 94, 95, 124, 126, 96]⟩ : ByteArray) (bt a0 x7_1) t108 _ A34.out).mono ?_); rintro e w' ⟨rfl, ⟨nd, rfl⟩⟩))
                          go_roundg k1
                          case measure => have := HK1.out; omega
                          case rel => exact ⟨(wrap64 (x7_1 + 1)), (by first | rfl | (simp; done) | (simp [*]; done) | (simp [isEmpty_bne, isEmpty_beq]; done) | (simp [*, isEmpty_bne, isEmpty_beq]; done)), H', ⟨by have := HK1.out; omega⟩, by repeat (first | exact Drawn0.refl _ | apply Drawn0.step)⟩
                      · rw [if_neg c33] at H
                        have c33b0 : decide (57 < (bt a0 x7_1)) = false := decide_eq_false c33
                        clear c33
                        have H' := Aside0.mk H
                        clear H
                        have p5 : 0 ≤ (x7_1 : Int) := of_decide_eq_true (by first | (with_reducible assumption) | assumption)
                        have q5 : x7_1 < (a0.size : Int) := of_decide_eq_true (by first | (with_reducible assumption) | assumption)
                        have hx5 := bt_at a0 x7_1
                        replace p5 := eq_true p5
                        replace q5 := eq_true q5
                        go_wp2
                        go_roundg k1
                        case measure => have := HK1.out; omega
                        case rel => exact ⟨(wrap64 (x7_1 + 1)), (by first | rfl | (simp; done) | (simp [*]; done) | (simp [isEmpty_bne, isEmpty_beq]; done) | (simp [*, isEmpty_bne, isEmpty_beq]; done)), H', ⟨by have := HK1.out; omega⟩, by repeat (first | exact Drawn0.refl _ | apply Drawn0.step)⟩
                  · rw [if_neg c29] at H
                    have c29b0 : decide (90 < (bt a0 x7_1)) = false := decide_eq_false c29
                    clear c29
                    have H' := Aside0.mk H
                    clear H
                    have p5 : 0 ≤ (x7_1 : Int) := of_decide_eq_true (by first | (with_reducible assumption) | assumption)
                    have q5 : x7_1 < (a0.size : Int) := of_decide_eq_true (by first | (with_reducible assumption) | assumption)
                    have hx5 := bt_at a0 x7_1
                    replace p5 := eq_true p5
                    replace q5 := eq_true q5
                    go_wp2
                    go_roundg k1
                    case measure => have := HK1.out; omega
                    case rel => exact ⟨(wrap64 (x7_1 + 1)), (by first | rfl | (simp; done) | (simp [*]; done) | (simp [isEmpty_bne, isEmpty_beq]; done) | (simp [*, isEmpty_bne, isEmpty_beq]; done)), H', ⟨by have := HK1.out; omega⟩, by repeat (first | exact Drawn0.refl _ | apply Drawn0.step)⟩
              · rw [if_neg c21] at H
                have c21b0 : decide (122 < (bt a0 x7_1)) = false := decide_eq_false c21
                clear c21
                have H' := Aside0.mk H
                clear H
                have p5 : 0 ≤ (x7_1 : Int) := of_decide_eq_true (by first | (with_reducible assumption) | assumption)
                have q5 : x7_1 < (a0.size : Int) := of_decide_eq_true (by first | (with_reducible assumption) | assumption)
                have hx5 := bt_at a0 x7_1
                replace p5 := eq_true p5
                replace q5 := eq_true q5
                go_wp2
                go_roundg k1
                case measure => have := HK1.out; omega
                case rel => exact ⟨(wrap64 (x7_1 + 1)), (by first | rfl | (simp; done) | (simp [*]; done) | (simp [isEmpty_bne, isEmpty_beq]; done) | (simp [*, isEmpty_bne, isEmpty_beq]; done)), H', ⟨by have := HK1.out; omega⟩, by repeat (first | exact Drawn0.refl _ | apply Drawn0.step)⟩
          · rw [if_neg c4] at H
            exact absurd H (by simp)
        · rw [if_neg c3] at H
          exact absurd H (by simp)
      · rw [if_neg c2] at H
        have c2b0 : decide (x7_1 < (a0.size : Int)) = false := decide_eq_false c2
        clear c2
        by_cases c36 : (a0.size : Int) ≥ 1
        · rw [if_pos c36] at H
          have c36b0 : decide (1 ≤ (a0.size : Int)) = true := decide_eq_true c36
          have c36b1 : decide (1 ≤ a0.size) = true := decide_eq_true (by omega)
          clear c36
          obtain rfl := Option.some.inj H
          go_wp2
          go_ret
          exact ⟨by first | rfl | (simp; done) | (simp [*]; done) | (simp [isEmpty_bne, isEmpty_beq]; done) | (simp [*, isEmpty_bne, isEmpty_beq]; done), by repeat (first | exact Drawn0.refl _ | apply Drawn0.step)⟩
        · rw [if_neg c36] at H
          have c36b0 : decide (1 ≤ (a0.size : Int)) = false := decide_eq_false c36
          have c36b1 : decide (1 ≤ a0.size) = false := decide_eq_false (by omega)
          clear c36
          obtain rfl := Option.some.inj H
          go_wp2
          go_ret
          exact ⟨by first | rfl | (simp; done) | (simp [*]; done) | (simp [isEmpty_bne, isEmpty_beq]; done) | (simp [*, isEmpty_bne, isEmpty_beq]; done), by repeat (first | exact Drawn0.refl _ | apply Drawn0.step)⟩

-- NOT PRINTED: function 26 (field_Lower)

/-! ### field_Trim: function 28 -/
def field_Trim.f (a0 : ByteArray) : Option (ByteArray) := (strings_Trim.f a0 (⟨#[32, 9]⟩ : ByteArray)).bind fun t109 => (some t109)
set_option maxHeartbeats 2000000 in
set_option maxRecDepth 100000 in
theorem field_Trim.calls (a0 : ByteArray) (r : ByteArray) (w : World) (h : field_Trim.f a0 = some r) :
    Calls Tryd.prog 28 #[.string a0] w fun e w' => e = .returned (.string r) ∧ Below w.heap.size w w' := by
  have HB := Aside0.mk (Below.refl w.heap.size w)
  have H : ((strings_Trim.f a0 (⟨#[32, 9]⟩ : ByteArray)).bind fun t109 => (some t109)) = some r := h
  clear h
  replace H := Option.bind_eq_some_iff.mp H
  obtain ⟨t109, A20, H⟩ := H
  replace H : (some t109) = some r := H
  have A2 := Aside0.mk A20
  clear A20
  obtain rfl := Option.some.inj H
  go_enter Tryd.func28, Tryd.ntmps28
  go_wp2_with (first | ((with_reducible refine gate_callee (f := 59) rfl ?_); refine goesL_ (some 4) rfl rfl Tryd.func59 (by kernel_rfl) rfl #[.string a0, .string (⟨#[32, 9]⟩ : ByteArray)] rfl (by (try simp only [List.map_toArray, List.map_cons, List.map_nil]); first | done | rfl | (simp only [List.length_drop, List.length_take]; rfl)) ?_; (with_reducible refine (strings_Trim.calls a0 (⟨#[32, 9]⟩ : ByteArray) t109 _ A2.out).mono ?_); rintro e w3 ⟨rfl, hb⟩; refine ⟨_, rfl, ?_⟩; have n0_ := Aside0.mk (below_step (by repeat (first | (with_reducible first | exact HB.out | apply below_alloc | apply pw_below_drewN | apply below_drew1) | exact HB.out)) hb); clear HB; have HB := n0_; clear n0_; (try clear hb); (try clear hb2); (try clear hk); (try clear hi)))
  go_ret
  exact ⟨by first | rfl | (simp [errW_none, errW_some] <;> rfl) | (simp [*, errW_none, errW_some] <;> rfl) | (simp [isEmpty_bne, isEmpty_beq, errW_none, errW_some]; done) | (simp [*, isEmpty_bne, isEmpty_beq, errW_none, errW_some]; done), by repeat (first | (with_reducible first | exact HB.out | apply below_alloc | apply pw_below_drewN | apply below_drew1) | exact HB.out)⟩

/-! ### stringslite_Cut: function 78 -/
def stringslite_Cut.f (a0 : ByteArray) (a1 : ByteArray) : Option (ByteArray × ByteArray × Bool) := (stringslite_Index.f a0 a1).bind fun t110 => (if t110 ≥ 0 then (if 0 ≤ t110 then (if t110 ≤ (a0.size : Int) then (if 0 ≤ (wrap64 (t110 + (a1.size : Int))) then (if (wrap64 (t110 + (a1.size : Int))) ≤ (a0.size : Int) then (some (a0.extract 0 (t110 : Int).toNat, a0.extract ((wrap64 (t110 + (a1.size : Int))) : Int).toNat a0.size, true)) else (none)) else (none)) else (none)) else (none)) else (some (a0, (⟨#[]⟩ : ByteArray), false)))
set_option maxHeartbeats 2000000 in
set_option maxRecDepth 100000 in
theorem stringslite_Cut.calls (a0 : ByteArray) (a1 : ByteArray) (r1 : ByteArray) (r2 : ByteArray) (r3 : Bool) (w : World) (h : stringslite_Cut.f a0 a1 = some (r1, r2, r3)) :
    Calls Tryd.prog 78 #[.string a0, .string a1] w fun e w' => e = .returned (.tuple #[.string r1, .string r2, .bool r3]) ∧ Drawn0 w w' := by
  have H : ((stringslite_Index.f a0 a1).bind fun t110 => (if t110 ≥ 0 then (if 0 ≤ t110 then (if t110 ≤ (a0.size : Int) then (if 0 ≤ (wrap64 (t110 + (a1.size : Int))) then (if (wrap64 (t110 + (a1.size : Int))) ≤ (a0.size : Int) then (some (a0.extract 0 (t110 : Int).toNat, a0.extract ((wrap64 (t110 + (a1.size : Int))) : Int).toNat a0.size, true)) else (none)) else (none)) else (none)) else (none)) else (some (a0, (⟨#[]⟩ : ByteArray), false)))) = some (r1, r2, r3) := h
  clear h
  replace H := Option.bind_eq_some_iff.mp H
  obtain ⟨t110, A30, H⟩ := H
  replace H : (if t110 ≥ 0 then (if 0 ≤ t110 then (if t110 ≤ (a0.size : Int) then (if 0 ≤ (wrap64 (t110 + (a1.size : Int))) then (if (wrap64 (t110 + (a1.size : Int))) ≤ (a0.size : Int) then (some (a0.extract 0 (t110 : Int).toNat, a0.extract ((wrap64 (t110 + (a1.size : Int))) : Int).toNat a0.size, true)) else (none)) else (none)) else (none)) else (none)) else (some (a0, (⟨#[]⟩ : ByteArray), false))) = some (r1, r2, r3) := H
  have A3 := Aside0.mk A30
  clear A30
  by_cases c4 : t110 ≥ 0
  · rw [if_pos c4] at H
    have c4b0 : decide (0 ≤ t110) = true := decide_eq_true c4
    clear c4
    by_cases c5 : 0 ≤ t110
    · rw [if_pos c5] at H
      have c5b0 := eq_true c5
      have c5b1 : decide (0 ≤ t110) = true := decide_eq_true c5
      clear c5
      by_cases c6 : t110 ≤ (a0.size : Int)
      · rw [if_pos c6] at H
        have c6b0 := eq_true c6
        have c6b1 : decide (t110 ≤ (a0.size : Int)) = true := decide_eq_true c6
        clear c6
        obtain ⟨ji7, hji7⟩ : ∃ j_ : Int, (wrap64 (t110 + (a1.size : Int))) = j_ := ⟨_, rfl⟩
        replace H : (if 0 ≤ (ji7) then (if (ji7) ≤ (a0.size : Int) then (some (a0.extract 0 (t110 : Int).toNat, a0.extract ((ji7) : Int).toNat a0.size, true)) else (none)) else (none)) = some (r1, r2, r3) := by first | (rw [hji7] at H; exact H) | (simp only [hji7] at H ⊢; exact H)
        (try rw [hji7] at A3)
        have hji7w : (IntKind.i64.wrap (t110 + (a1.size : Int))) = ji7 := (i64_w _).trans hji7
        by_cases c8 : 0 ≤ (ji7)
        · rw [if_pos c8] at H
          have c8b0 := eq_true c8
          have c8b1 : decide (0 ≤ (ji7)) = true := decide_eq_true c8
          clear c8
          by_cases c9 : (ji7) ≤ (a0.size : Int)
          · rw [if_pos c9] at H
            have c9b0 := eq_true c9
            have c9b1 : decide ((ji7) ≤ (a0.size : Int)) = true := decide_eq_true c9
            clear c9
            simp only [Option.some.injEq, Prod.mk.injEq] at H
            obtain ⟨rfl, rfl, rfl⟩ := H
            go_enter Tryd.func78, Tryd.ntmps78
            go_wp2_with (first | (go_at_call 102; (with_reducible refine (stringslite_Index.calls a0 a1 t110 _ A3.out).mono ?_); rintro e w' ⟨rfl, ⟨nd, rfl⟩⟩; (try first | exact ⟨rfl, _, World.drewN_drewN _ _ _⟩ | exact ⟨rfl, _, Eq.trans (World.drewN_drewN _ _ _) (congrArg (World.drewN _) (Nat.add_assoc _ _ _))⟩)))
            repeat (go_quiet (first | (go_at_call 102; (with_reducible refine (stringslite_Index.calls a0 a1 t110 _ A3.out).mono ?_); rintro e w' ⟨rfl, ⟨nd, rfl⟩⟩; (try first | exact ⟨rfl, _, World.drewN_drewN _ _ _⟩ | exact ⟨rfl, _, Eq.trans (World.drewN_drewN _ _ _) (congrArg (World.drewN _) (Nat.add_assoc _ _ _))⟩))); try go_wp2_with (first | (go_at_call 102; (with_reducible refine (stringslite_Index.calls a0 a1 t110 _ A3.out).mono ?_); rintro e w' ⟨rfl, ⟨nd, rfl⟩⟩; (try first | exact ⟨rfl, _, World.drewN_drewN _ _ _⟩ | exact ⟨rfl, _, Eq.trans (World.drewN_drewN _ _ _) (congrArg (World.drewN _) (Nat.add_assoc _ _ _))⟩))))
            go_ret3
            exact ⟨by first | rfl | (simp; done) | (simp only [← hji7] <;> (first | rfl | simp)) | (simp [*]; done), by repeat (first | exact Drawn0.refl _ | apply Drawn0.step)⟩
          · rw [if_neg c9] at H
            exact absurd H (by simp)
        · rw [if_neg c8] at H
          exact absurd H (by simp)
      · rw [if_neg c6] at H
        exact absurd H (by simp)
    · rw [if_neg c5] at H
      exact absurd H (by simp)
  · rw [if_neg c4] at H
    have c4b0 : decide (0 ≤ t110) = false := decide_eq_false c4
    clear c4
    simp only [Option.some.injEq, Prod.mk.injEq] at H
    obtain ⟨rfl, rfl, rfl⟩ := H
    go_enter Tryd.func78, Tryd.ntmps78
    go_wp2_with (first | (go_at_call 102; (with_reducible refine (stringslite_Index.calls a0 a1 t110 _ A3.out).mono ?_); rintro e w' ⟨rfl, ⟨nd, rfl⟩⟩; (try first | exact ⟨rfl, _, World.drewN_drewN _ _ _⟩ | exact ⟨rfl, _, Eq.trans (World.drewN_drewN _ _ _) (congrArg (World.drewN _) (Nat.add_assoc _ _ _))⟩)))
    repeat (go_quiet (first | (go_at_call 102; (with_reducible refine (stringslite_Index.calls a0 a1 t110 _ A3.out).mono ?_); rintro e w' ⟨rfl, ⟨nd, rfl⟩⟩; (try first | exact ⟨rfl, _, World.drewN_drewN _ _ _⟩ | exact ⟨rfl, _, Eq.trans (World.drewN_drewN _ _ _) (congrArg (World.drewN _) (Nat.add_assoc _ _ _))⟩))); try go_wp2_with (first | (go_at_call 102; (with_reducible refine (stringslite_Index.calls a0 a1 t110 _ A3.out).mono ?_); rintro e w' ⟨rfl, ⟨nd, rfl⟩⟩; (try first | exact ⟨rfl, _, World.drewN_drewN _ _ _⟩ | exact ⟨rfl, _, Eq.trans (World.drewN_drewN _ _ _) (congrArg (World.drewN _) (Nat.add_assoc _ _ _))⟩))))
    go_ret3
    exact ⟨by first | rfl | (simp; done) | (simp [*]; done) | (simp [isEmpty_bne, isEmpty_beq]; done) | (simp [*, isEmpty_bne, isEmpty_beq]; done), by repeat (first | exact Drawn0.refl _ | apply Drawn0.step)⟩

/-! ### strings_Cut: function 57 -/
def strings_Cut.f (a0 : ByteArray) (a1 : ByteArray) : Option (ByteArray × ByteArray × Bool) := (stringslite_Cut.f a0 a1).bind fun bt111 => (some (bt111.1, bt111.2.1, bt111.2.2))
set_option maxHeartbeats 2000000 in
set_option maxRecDepth 100000 in
theorem strings_Cut.calls (a0 : ByteArray) (a1 : ByteArray) (r1 : ByteArray) (r2 : ByteArray) (r3 : Bool) (w : World) (h : strings_Cut.f a0 a1 = some (r1, r2, r3)) :
    Calls Tryd.prog 57 #[.string a0, .string a1] w fun e w' => e = .returned (.tuple #[.string r1, .string r2, .bool r3]) ∧ Drawn0 w w' := by
  have H : ((stringslite_Cut.f a0 a1).bind fun bt111 => (some (bt111.1, bt111.2.1, bt111.2.2))) = some (r1, r2, r3) := h
  clear h
  replace H := Option.bind_eq_some_iff.mp H
  obtain ⟨⟨t111, t112, t113⟩, A30, H⟩ := H
  replace H : (some (t111, t112, t113)) = some (r1, r2, r3) := H
  have A3 := Aside0.mk A30
  clear A30
  simp only [Option.some.injEq, Prod.mk.injEq] at H
  obtain ⟨rfl, rfl, rfl⟩ := H
  go_enter Tryd.func57, Tryd.ntmps57
  go_wp2_with (first | ((with_reducible refine gate_callee (f := 78) rfl ?_); refine goesL_ (some 9) rfl rfl Tryd.func78 (by kernel_rfl) rfl #[.string a0, .string a1] rfl (by (try simp only [List.map_toArray, List.map_cons, List.map_nil]); first | done | rfl | (simp only [List.length_drop, List.length_take]; rfl)) ?_; (with_reducible refine (stringslite_Cut.calls a0 a1 t111 t112 t113 _ A3.out).mono ?_); rintro e w' ⟨rfl, ⟨nd, rfl⟩⟩; refine ⟨_, rfl, ?_⟩))
  go_ret3
  exact ⟨by first | rfl | (simp; done) | (simp [*]; done) | (simp [isEmpty_bne, isEmpty_beq]; done) | (simp [*, isEmpty_bne, isEmpty_beq]; done), by repeat (first | exact Drawn0.refl _ | apply Drawn0.step)⟩

/-! ### moatlaw0_Low: function 30 -/
def moatlaw0_Low.f (a0 : Int) (a1 : Int) : Option (Int) := if (IntKind.u64.wrap (a1)) = 0 then (none) else (some (wrap64 (Int.tmod (IntKind.u64.wrap (a0)) (IntKind.u64.wrap (a1)))))
set_option maxHeartbeats 2000000 in
set_option maxRecDepth 100000 in
theorem moatlaw0_Low.calls (a0 : Int) (a1 : Int) (r : Int) (w : World) (h : moatlaw0_Low.f a0 a1 = some r) :
    Calls Tryd.prog 30 #[.int .i64 a0, .int .i64 a1] w fun e w' => e = .returned (.int .i64 r) ∧ Drawn0 w w' := by
  have H : (if (IntKind.u64.wrap (a1)) = 0 then (none) else (some (wrap64 (Int.tmod (IntKind.u64.wrap (a0)) (IntKind.u64.wrap (a1)))))) = some r := h
  clear h
  by_cases c3 : (IntKind.u64.wrap (a1)) = 0
  · rw [if_pos c3] at H
    exact absurd H (by simp)
  · rw [if_neg c3] at H
    have c3b0 : ((IntKind.u64.wrap (a1)) == 0) = false := beq_eq_false_iff_ne.mpr c3
    have c3b1 : ((IntKind.u64.wrap (a1)) != 0) = true := bne_iff_ne.mpr c3
    obtain rfl := Option.some.inj H
    go_enter Tryd.func30, Tryd.ntmps30
    go_wp2
    go_ret
    exact ⟨by first | rfl | (simp; done) | (simp [*]; done) | (simp [isEmpty_bne, isEmpty_beq]; done) | (simp [*, isEmpty_bne, isEmpty_beq]; done), by repeat (first | exact Drawn0.refl _ | apply Drawn0.step)⟩

/-! ### moatlaw0_SameTexts: function 22 -/
def moatlaw0_SameTexts.l0 : Nat → List ByteArray → List ByteArray → Int → Option (Bool)
  | 0, _, _, _ => none
  | k + 1, x0, x1, x5 => if x5 < (x0.length : Int) then (if 0 ≤ x5 then (if x5 < (x1.length : Int) then (if (rdOf ByteArray.empty x0 x5).toList = (rdOf ByteArray.empty x1 x5).toList then (moatlaw0_SameTexts.l0 k x0 x1 (wrap64 (x5 + 1))) else (some false)) else (none)) else (none)) else (some true)
def moatlaw0_SameTexts.f (k : Nat) (l0 : List ByteArray) (l1 : List ByteArray) : Option (Bool) := if (l0.length : Int) = (l1.length : Int) then (moatlaw0_SameTexts.l0 k l0 l1 0) else (some false)
theorem moatlaw0_SameTexts.mono_l : ∀ k, (∀ y0 y1 y2, LeO (moatlaw0_SameTexts.l0 k y0 y1 y2) (moatlaw0_SameTexts.l0 (k + 1) y0 y1 y2))
  | 0 => fun _ _ _ r h => by simp [moatlaw0_SameTexts.l0] at h
  | k + 1 => by
    have ih0 := moatlaw0_SameTexts.mono_l k
    · intro y0 y1 y2
      unfold moatlaw0_SameTexts.l0
      repeat' first
      | (with_reducible exact ih0 _ _ _)
      | (with_reducible exact LeO.refl _)
      | (with_reducible exact LeO.none _)
      | (with_reducible refine LeO.ite ?_ ?_)
      | (with_reducible refine LeO.bind ?_ (fun _ => ?_))
      | exact ih0 _ _ _
      | exact LeO.none _
      | refine LeO.ite ?_ ?_
      | refine LeO.bind ?_ (fun _ => ?_)
theorem moatlaw0_SameTexts.mono : ∀ a0 a1 k, LeO (moatlaw0_SameTexts.f k a0 a1) (moatlaw0_SameTexts.f (k + 1) a0 a1) := by
  intro a0 a1 k
  have ih0 := moatlaw0_SameTexts.mono_l k
  unfold moatlaw0_SameTexts.f
  repeat' first
      | (with_reducible exact ih0 _ _ _)
      | (with_reducible exact LeO.refl _)
      | (with_reducible exact LeO.none _)
      | (with_reducible refine LeO.ite ?_ ?_)
      | (with_reducible refine LeO.bind ?_ (fun _ => ?_))
      | exact ih0 _ _ _
      | exact LeO.none _
      | refine LeO.ite ?_ ?_
      | refine LeO.bind ?_ (fun _ => ?_)
set_option maxHeartbeats 2000000 in
set_option maxRecDepth 100000 in
theorem moatlaw0_SameTexts.calls (k : Nat) (A0 : Option Addr) (c0 : Nat) (l0 : List ByteArray) (A1 : Option Addr) (c1 : Nat) (l1 : List ByteArray) (r : Bool) (w : World) (hr0 : Kd.C Kd.string w A0 l0.length l0) (hc0 : l0.length ≤ c0) (hr1 : Kd.C Kd.string w A1 l1.length l1) (hc1 : l1.length ≤ c1) (h : moatlaw0_SameTexts.f k l0 l1 = some r) :
    Calls Tryd.prog 22 #[.slice A0 l0.length c0, .slice A1 l1.length c1] w fun e w' => e = .returned (.bool r) ∧ Drawn0 w w' := by
  have HR0 := Aside0.mk hr0
  have HC0 := Aside0.mk hc0
  clear hr0 hc0
  have HR1 := Aside0.mk hr1
  have HC1 := Aside0.mk hc1
  clear hr1 hc1
  have H : (if (l0.length : Int) = (l1.length : Int) then (moatlaw0_SameTexts.l0 k l0 l1 0) else (some false)) = some r := h
  clear h
  by_cases c3 : (l0.length : Int) = (l1.length : Int)
  · rw [if_pos c3] at H
    have c3b0 : ((l0.length : Int) == (l1.length : Int)) = true := beq_iff_eq.mpr c3
    have c3b1 : ((l0.length : Int) != (l1.length : Int)) = false := bne_eq_false_iff_eq.mpr c3
    have c3b2 : (l0.length == l1.length) = true := by first | simpa using c3 | (simp at c3 ⊢; omega)
    clear c3
    have H' := Aside0.mk H
    clear H
    go_enter Tryd.func22, Tryd.ntmps22
    go_wp2
    repeat (go_quiet (fail); try go_wp2)
    go_loopg [5] k (fun kq v5 w' => ∃ (x5_1 : Int), v5 = .int .i64 x5_1 ∧ Aside0 (moatlaw0_SameTexts.l0 kq l0 l1 x5_1 = some r) ∧ Aside0 (kq ≤ k) ∧ Drawn0 w w')
    case atStart => exact ⟨(0), (by first | rfl | (simp; done) | (simp [*]; done) | (simp [isEmpty_bne, isEmpty_beq]; done) | (simp [*, isEmpty_bne, isEmpty_beq]; done)), H', ⟨Nat.le_refl _⟩, by repeat (first | exact Drawn0.refl _ | apply Drawn0.step)⟩
    case round =>
      clear H'
      try clear c1
      try clear c2
      try clear p2
      try clear c3
      try clear c3b0
      try clear c3b1
      try clear c3b2
      obtain ⟨x5_1, rfl, HA, HK1, ⟨m1, rfl⟩⟩ := hrel
      cases gk with
      | zero => exact absurd HA.out (by simp [moatlaw0_SameTexts.l0])
      | succ k1 =>
        have H := HA.out
        clear HA
        simp only [moatlaw0_SameTexts.l0] at H
        by_cases c4 : x5_1 < (l0.length : Int)
        · rw [if_pos c4] at H
          have c4b0 : decide (x5_1 < (l0.length : Int)) = true := decide_eq_true c4
          clear c4
          by_cases c5 : 0 ≤ x5_1
          · rw [if_pos c5] at H
            have c5b0 : decide (0 ≤ x5_1) = true := decide_eq_true c5
            clear c5
            by_cases c6 : x5_1 < (l1.length : Int)
            · rw [if_pos c6] at H
              have c6b0 : decide (x5_1 < (l1.length : Int)) = true := decide_eq_true c6
              clear c6
              by_cases c7 : (rdOf ByteArray.empty l0 x5_1).toList = (rdOf ByteArray.empty l1 x5_1).toList
              · rw [if_pos c7] at H
                have c7b0 : ((rdOf ByteArray.empty l0 x5_1).toList == (rdOf ByteArray.empty l1 x5_1).toList) = true := beq_iff_eq.mpr c7
                have c7b1 : ((rdOf ByteArray.empty l0 x5_1).toList != (rdOf ByteArray.empty l1 x5_1).toList) = false := bne_eq_false_iff_eq.mpr c7
                clear c7
                have H' := Aside0.mk H
                clear H
                have p114 : 0 ≤ (x5_1 : Int) := of_decide_eq_true (by first | (with_reducible assumption) | assumption)
                have q114 : x5_1 < (l0.length : Int) := of_decide_eq_true (by first | (with_reducible assumption) | assumption)
                obtain ⟨ad114, e114, hx114_0⟩ := Kd.at_string HR0.out x5_1 p114 q114
                cases e114
                replace p114 := eq_true p114
                replace q114 := eq_true q114
                have p115 : 0 ≤ (x5_1 : Int) := of_decide_eq_true (by first | (with_reducible assumption) | assumption)
                have q115 : x5_1 < (l1.length : Int) := of_decide_eq_true (by first | (with_reducible assumption) | assumption)
                obtain ⟨ad115, e115, hx115_0⟩ := Kd.at_string HR1.out x5_1 p115 q115
                cases e115
                replace p115 := eq_true p115
                replace q115 := eq_true q115
                go_wp2
                repeat (go_quiet (fail); try go_wp2)
                go_roundg k1
                case measure => have := HK1.out; omega
                case rel => exact ⟨(wrap64 (x5_1 + 1)), (by first | rfl | (simp; done) | (simp [*]; done) | (simp [isEmpty_bne, isEmpty_beq]; done) | (simp [*, isEmpty_bne, isEmpty_beq]; done)), H', ⟨by have := HK1.out; omega⟩, by repeat (first | exact Drawn0.refl _ | apply Drawn0.step)⟩
              · rw [if_neg c7] at H
                have c7b0 : ((rdOf ByteArray.empty l0 x5_1).toList == (rdOf ByteArray.empty l1 x5_1).toList) = false := beq_eq_false_iff_ne.mpr c7
                have c7b1 : ((rdOf ByteArray.empty l0 x5_1).toList != (rdOf ByteArray.empty l1 x5_1).toList) = true := bne_iff_ne.mpr c7
                obtain rfl := Option.some.inj H
                have p114 : 0 ≤ (x5_1 : Int) := of_decide_eq_true (by first | (with_reducible assumption) | assumption)
                have q114 : x5_1 < (l0.length : Int) := of_decide_eq_true (by first | (with_reducible assumption) | assumption)
                obtain ⟨ad114, e114, hx114_0⟩ := Kd.at_string HR0.out x5_1 p114 q114
                cases e114
                replace p114 := eq_true p114
                replace q114 := eq_true q114
                have p115 : 0 ≤ (x5_1 : Int) := of_decide_eq_true (by first | (with_reducible assumption) | assumption)
                have q115 : x5_1 < (l1.length : Int) := of_decide_eq_true (by first | (with_reducible assumption) | assumption)
                obtain ⟨ad115, e115, hx115_0⟩ := Kd.at_string HR1.out x5_1 p115 q115
                cases e115
                replace p115 := eq_true p115
                replace q115 := eq_true q115
                go_wp2
                repeat (go_quiet (fail); try go_wp2)
                go_ret
                exact ⟨by first | rfl | (simp; done) | (simp [*]; done) | (simp [isEmpty_bne, isEmpty_beq]; done) | (simp [*, isEmpty_bne, isEmpty_beq]; done), by repeat (first | exact Drawn0.refl _ | apply Drawn0.step)⟩
            · rw [if_neg c6] at H
              exact absurd H (by simp)
          · rw [if_neg c5] at H
            exact absurd H (by simp)
        · rw [if_neg c4] at H
          have c4b0 : decide (x5_1 < (l0.length : Int)) = false := decide_eq_false c4
          clear c4
          obtain rfl := Option.some.inj H
          go_wp2
          repeat (go_quiet (fail); try go_wp2)
          go_ret
          exact ⟨by first | rfl | (simp; done) | (simp [*]; done) | (simp [isEmpty_bne, isEmpty_beq]; done) | (simp [*, isEmpty_bne, isEmpty_beq]; done), by repeat (first | exact Drawn0.refl _ | apply Drawn0.step)⟩
  · rw [if_neg c3] at H
    have c3b0 : ((l0.length : Int) == (l1.length : Int)) = false := beq_eq_false_iff_ne.mpr c3
    have c3b1 : ((l0.length : Int) != (l1.length : Int)) = true := bne_iff_ne.mpr c3
    have c3b2 : (l0.length == l1.length) = false := by first | simpa using c3 | (simp at c3 ⊢; omega)
    obtain rfl := Option.some.inj H
    go_enter Tryd.func22, Tryd.ntmps22
    go_wp2
    repeat (go_quiet (fail); try go_wp2)
    go_ret
    exact ⟨by first | rfl | (simp; done) | (simp [*]; done) | (simp [isEmpty_bne, isEmpty_beq]; done) | (simp [*, isEmpty_bne, isEmpty_beq]; done), by repeat (first | exact Drawn0.refl _ | apply Drawn0.step)⟩

end Go.Proofs.YtfmppmabnpkooaaDoor.BF
end
section
/- field.Lower, moatref3.Lower: a text's capital letters as small ones: the two walks, and their contracts in the print's form. -/
set_option linter.unusedSimpArgs false
set_option linter.unusedVariables false
namespace Go.Proofs.YtfmppmabnpkooaaDoor
open Go Go.RowKit Go.Shelf Go.Proofs Go.Proofs.YtfmppmabnpkooaaDoorW.PrintWords Go.Proofs.YtfmppmabnpkooaaDoorW.PrintLast Go.Proofs.YtfmppmabnpkooaaDoorW.PrintMore

def lowB (c : UInt8) : UInt8 := if 65 ≤ c.toNat ∧ c.toNat ≤ 90 then c + 32 else c
def lowL (l : List UInt8) : List UInt8 := l.map lowB
def lowTo (l : List UInt8) (j : Nat) : List UInt8 := lowL (l.take j) ++ l.drop j

theorem lowTo_zero (l : List UInt8) : lowTo l 0 = l := by simp [lowTo, lowL]
theorem lowTo_all (l : List UInt8) : lowTo l l.length = lowL l := by simp [lowTo, lowL]
theorem lowTo_len (l : List UInt8) (j : Nat) : (lowTo l j).length = l.length := by simp [lowTo, lowL]; omega
theorem lowTo_at (l : List UInt8) (j : Nat) (h : j < l.length) : (lowTo l j)[j]? = some l[j] := by
  unfold lowTo lowL
  rw [List.getElem?_append_right (by simp; omega)]
  simp [List.getElem?_drop, Nat.min_eq_left (Nat.le_of_lt h), h]
theorem lowTo_step (l : List UInt8) (j : Nat) (h : j < l.length) : lowTo l (j + 1) = (lowTo l j).set j (lowB l[j]) := by
  apply List.ext_getElem?
  intro i
  unfold lowTo lowL
  rw [List.getElem?_set]
  simp only [List.getElem?_append, List.length_map, List.length_take, List.getElem?_map, List.getElem?_take, List.getElem?_drop, List.length_append, List.length_drop]
  by_cases h1 : i = j
  · subst h1
    have h3 : i < min i l.length + (l.length - i) := by omega
    simp [h, Nat.min_eq_left (Nat.succ_le_of_lt h), h3]
  · rw [if_neg (Ne.symm h1)]
    by_cases h2 : i < j
    · rw [if_pos (by omega), if_pos (by omega), if_pos (by omega), if_pos (by omega)]
    · rw [if_neg (by omega), if_neg (by omega)]
      congr 1
      omega

theorem lowB_up (x : UInt8) (h : 65 ≤ x.toNat) (h2 : x.toNat ≤ 90) : ((lowB x).toNat : Int) = (x.toNat : Int) - 65 + 97 := by
  unfold lowB
  rw [if_pos ⟨h, h2⟩, UInt8.toNat_add]
  simp
  omega
theorem lowB_other (x : UInt8) (h : ¬ (65 ≤ x.toNat ∧ x.toNat ≤ 90)) : lowB x = x := if_neg h
theorem lowTo_stay (l : List UInt8) (j : Nat) (x : UInt8) (h : (lowTo l j)[j]? = some x) (h2 : lowTo l (j + 1) = (lowTo l j).set j (lowB x)) (h3 : lowB x = x) : lowTo l (j + 1) = lowTo l j := by
  obtain ⟨hl, rfl⟩ := List.getElem?_eq_some_iff.1 h
  rw [h2, h3]
  exact List.set_getElem_self hl

/-- A block of the walk's own that holds these bytes, none of them frozen. -/
def ByteRow (w : World) (b : Nat) (l : List UInt8) : Prop := ∀ (i : Nat) x, l[i]? = some x → w.cell? ⟨b, i, none⟩ = some (.int .u8 (x.toNat : Int)) ∧ w.frozen? ⟨b, i, none⟩ = false

theorem ByteRow.set {w : World} {b : Nat} {l : List UInt8} (h : ByteRow w b l) (j : Nat) (hj : j < l.length) (y : UInt8) : ByteRow (w.setCell ⟨b, j, none⟩ (.int .u8 (y.toNat : Int))) b (l.set j y) := by
  intro i x hx
  rw [List.getElem?_set] at hx
  by_cases e : j = i
  · subst e
    rw [if_pos rfl, if_pos hj] at hx
    obtain rfl := Option.some.inj hx
    obtain ⟨h1, h2⟩ := h j _ (List.getElem?_eq_getElem hj)
    exact ⟨World.cell?_setCell_same _ _ _ h1, (World.frozen?_setCell _ _ _ _).trans h2⟩
  · rw [if_neg e] at hx
    obtain ⟨h1, h2⟩ := h i x hx
    exact ⟨(World.cell?_setCell_other _ _ _ _ (fun hh => e (congrArg Addr.off hh))).trans h1, (World.frozen?_setCell _ _ _ _).trans h2⟩

theorem byteRow_new (w : World) (s : ByteArray) (cap : Nat) (t : TypeId) (n : Nat) (hn : s.size ≤ n) : ByteRow (w.alloc (.cells (bytesRow s cap) t (n, n + 1))) w.heap.size s.data.toList := by
  intro i x hx
  obtain ⟨hi, rfl⟩ := List.getElem?_eq_some_iff.1 hx
  have hi' : i < s.data.size := by simpa using hi
  refine ⟨?_, ?_⟩
  · rw [World.cell?_alloc_mark, bytesRow_at s cap i hi']
    simp
  · rw [World.frozen?_alloc_mark]
    have : i < n := Nat.lt_of_lt_of_le hi' hn
    simp; omega

theorem grownCap_le (w : World) (s : ByteArray) (t : TypeId) : s.size ≤ grownCap w s.size 0 t := by
  exact grownCap_ge w s.size 0 t

set_option maxRecDepth 100000 in
set_option maxHeartbeats 2000000 in
theorem Lower_calls (s : ByteArray) (hn : s.size ≤ 140737488355328) (w : World) :
    Calls Tryd.prog 26 #[.string s] w fun e w' => e = .returned (.string ⟨(lowL s.data.toList).toArray⟩) ∧ Below w.heap.size w w' := by
  have hsz := Lib.size_eq s
  obtain ⟨C, cap, hcap, hrow, hconv⟩ : ∃ C cap, s.size ≤ cap ∧ ByteRow (w.drew.alloc (.cells C 5 (C.size, C.size + 1))) w.heap.size s.data.toList ∧
      (convert 9 57 (.string s)).run Tryd.prog w = .ok (.slice (some ⟨w.heap.size, 0, none⟩) s.size cap) (w.drew.alloc (.cells C 5 (C.size, C.size + 1))) :=
    ⟨_, _, grownCap_le w s 5, byteRow_new w.drew s _ 5 _ (by simp [bytesRow]), run_bytes_of_string (P := Tryd.prog) w 9 57 5 s Tryd.underlying9 Tryd.underlying57 Tryd.underlying5⟩
  clear hsz
  go_enter Tryd.func26, Tryd.ntmps26
  have hbel : Below w.heap.size w (w.drew.alloc (.cells C 5 (C.size, C.size + 1))) := (below_drew1 (Below.refl _ w)).alloc (by simp) _
  go_wp2_with fail
  clear hconv
  rw [show w.drew.alloc (.cells C 5 (C.size, C.size + 1)) = (w.alloc (.cells C 5 (C.size, C.size + 1))).drew from rfl] at hrow hbel
  generalize (w.alloc (.cells C 5 (C.size, C.size + 1))).drew = W0 at hrow hbel ⊢
  go_loopg [10] s.size (fun k v10 wr => ∃ j : Nat, v10 = .int .i64 j ∧ j + k = s.size ∧ Aside0 (ByteRow wr w.heap.size (lowTo s.data.toList j)) ∧ Aside0 (Below w.heap.size w wr))
  case atStart => exact ⟨0, rfl, by omega, ⟨by rw [lowTo_zero]; exact hrow⟩, ⟨hbel⟩⟩
  case round =>
    obtain ⟨j, rfl, hjk, hrw, hbw⟩ := hrel
    by_cases hj : j < s.size
    · have hjl : j < s.data.toList.length := by rw [← Lib.size_eq]; exact hj
      have hat := Aside0.mk (lowTo_at _ j hjl)
      obtain ⟨hc, hf⟩ := hrw.out j _ hat.out
      have hstep := Aside0.mk (lowTo_step s.data.toList j hjl)
      have hjl' := Aside0.mk (show j < (lowTo s.data.toList j).length by rw [lowTo_len]; exact hjl)
      generalize s.data.toList[j] = x at hc hstep hat
      clear hjl
      by_cases hlo : 65 ≤ x.toNat
      · by_cases hhi : x.toNat ≤ 90
        · go_wp2
          go_roundg (s.size - (j + 1))
          case measure => omega
          case rel =>
            have hset := hrw.out.set j hjl'.out (lowB x)
            rw [lowB_up x hlo hhi, ← hstep.out] at hset
            exact ⟨j + 1, rfl, by omega, ⟨hset⟩, ⟨hbw.out.setCell (p := ⟨w.heap.size, j, none⟩) (Nat.le_refl _) _⟩⟩
        · go_wp2
          go_roundg (s.size - (j + 1))
          case measure => omega
          case rel => exact ⟨j + 1, rfl, by omega, ⟨by rw [lowTo_stay _ j x hat.out hstep.out (lowB_other x (by omega))]; exact hrw.out⟩, hbw⟩
      · go_wp2
        go_roundg (s.size - (j + 1))
        case measure => omega
        case rel => exact ⟨j + 1, rfl, by omega, ⟨by rw [lowTo_stay _ j x hat.out hstep.out (lowB_other x (by omega))]; exact hrw.out⟩, hbw⟩
    · have hall : lowTo s.data.toList j = lowL s.data.toList := by
        rw [← lowTo_all, ← Lib.size_eq]; congr 1; omega
      have hback : (convert 57 9 (.slice (some ⟨w.heap.size, 0, none⟩) s.size cap)).run Tryd.prog wr = .ok (.string ⟨(lowL s.data.toList).toArray⟩) wr := by
        have hlen : (lowL s.data.toList).length = s.size := by rw [lowL, List.length_map, Lib.size_eq]
        have := run_convert_bytes_back (P := Tryd.prog) wr 57 9 5 ⟨w.heap.size, 0, none⟩ cap (lowL s.data.toList) Tryd.underlying57 Tryd.underlying5 Tryd.underlying9
          (fun i hi => by
            have := (hrw.out i ((lowL s.data.toList)[i]) (by rw [hall]; exact List.getElem?_eq_getElem hi)).1
            rw [show (⟨w.heap.size, 0, none⟩ : Addr).add i = ⟨w.heap.size, i, none⟩ by cases i <;> simp [Addr.add]]
            exact this)
        rw [hlen] at this
        exact this
      clear hall
      go_wp2
      go_ret
      exact ⟨rfl, hbw.out⟩

def field_Lower.f (a0 : ByteArray) : Option ByteArray := if a0.size ≤ 140737488355328 then some ⟨(lowL a0.data.toList).toArray⟩ else none
theorem field_Lower.calls (a0 : ByteArray) (r : ByteArray) (w : World) (h : field_Lower.f a0 = some r) :
    Calls Tryd.prog 26 #[.string a0] w fun e w' => e = .returned (.string r) ∧ Below w.heap.size w w' := by
  unfold field_Lower.f at h
  split at h
  · rename_i h1
    obtain rfl := Option.some.inj h
    exact Lower_calls a0 h1 w
  · cases h
end Go.Proofs.YtfmppmabnpkooaaDoor
end
section
/- field.Name in plain words: each byte is a letter, a digit or one of the signs; from 1 to 40 bytes. -/
set_option linter.unusedSimpArgs false
set_option linter.unusedVariables false
namespace Go.Proofs.YtfmppmabnpkooaaDoor
open Go Go.RowKit Go.Proofs.YtfmppmabnpkooaaDoorW.PrintWords Go.Proofs.YtfmppmabnpkooaaDoorW.PrintLast Go.Proofs.YtfmppmabnpkooaaDoorW.PrintMore

end Go.Proofs.YtfmppmabnpkooaaDoor
end
section
/- A piece between separators is no longer than the whole. -/
namespace Go.Proofs.YtfmppmabnpkooaaDoor
open Go
theorem piece_size (c : UInt8) : ∀ (k : Nat) (s x : ByteArray), x ∈ cutB c k s → x.size ≤ s.size
  | 0, s, x, h => by simp [cutB] at h; rw [h]; exact Nat.le_refl _
  | k + 1, s, x, h => by
    unfold cutB at h
    split at h
    · simp at h; rw [h]; exact Nat.le_refl _
    · rcases List.mem_cons.1 h with rfl | h
      · simp; omega
      · have := piece_size c k _ x h
        simp at this
        omega
end Go.Proofs.YtfmppmabnpkooaaDoor
end
section
/- field.List in plain words: what stands between commas, trimmed, in small letters, without the empty ones; none if one of them is no name. -/
set_option linter.unusedSimpArgs false
set_option linter.unusedVariables false
namespace Go.Proofs.YtfmppmabnpkooaaDoor
open Go Go.RowKit Go.Shelf Go.Proofs Go.Proofs.YtfmppmabnpkooaaDoorW.PrintWords Go.Proofs.YtfmppmabnpkooaaDoorW.PrintLast Go.Proofs.YtfmppmabnpkooaaDoorW.PrintMore
attribute [local go_sem] Oper.semAt_some

/-- A box that holds a slice with a row of its own, beyond the iterator's block. -/
theorem BoxOwn.holds {β : Type} {bs B b base : Nat} {t e : TypeId} {size : Nat} (k : β → Nat) (f : β → List Value) (hb : b ≠ bs) (hbase : bs < base) :
    BoxOwn bs B (fun s W => ∃ v, Boxed W b t v ∧ W.ownsRow base e size v (k s) (f s)) := by
  rintro s W W' row ⟨v, hv, hrow⟩ hg hr
  refine ⟨v, boxBlock_kept hg hr hv rfl hb, hrow.kept hg ?_⟩
  rcases hrow.2 with ⟨rfl, _⟩ | ⟨g, cap, cur, rfl, hgb, hh, _⟩
  · exact .inl rfl
  · refine .inr fun e' => ?_
    rcases hr g (by simpa [Value.ownBlock] using e'.symm) with h | ⟨_, o, ho, hc⟩
    · omega
    · rw [hh] at ho; cases ho; cases hc

theorem ownsRow_lower {W : World} {base base' : Nat} {e : TypeId} {size : Nat} {v : Value} {k : Nat} {xs : List Value} (h : W.ownsRow base e size v k xs) (hb : base' ≤ base) : W.ownsRow base' e size v k xs := by
  refine ⟨h.1, ?_⟩
  rcases h.2 with hn | ⟨g, cap, cur, hv, hbg, rest⟩
  · exact .inl hn
  · exact .inr ⟨g, cap, cur, hv, Nat.le_trans hb hbg, rest⟩

theorem keepsFrom_below {B : Nat} {W W' : World} (h : Below W.heap.size W W') : KeepsFrom B W W' :=
  ⟨h.size, fun k o _ hk _ => (h.block k (Array.getElem?_eq_some_iff.1 hk).1).trans hk⟩
theorem boxed_below {W W' : World} {b : Nat} {t : TypeId} {v : Value} (h : Boxed W b t v) (hb : Below W.heap.size W W') : Boxed W' b t v := (hb.block b h.lt).trans h
theorem ownsRow_below {W W' : World} {base : Nat} {e : TypeId} {size : Nat} {v : Value} {k : Nat} {xs : List Value} (h : W.ownsRow base e size v k xs) (hb : Below W.heap.size W W') : W'.ownsRow base e size v k xs := by
  refine own_move h fun j hj => hb.block j ?_
  obtain ⟨cells, hc⟩ := own_typed h j hj
  exact (Array.getElem?_eq_some_iff.1 hc).1

/-- One piece as it stands in the list. -/
def itemL (l : List UInt8) : List UInt8 := lowL (trimL l)
def itemB (x : ByteArray) : ByteArray := ⟨(itemL x.data.toList).toArray⟩
theorem trimL_len (l : List UInt8) : (trimL l).length ≤ l.length := by
  unfold trimL Lib.trimS Lib.trimLeftS Lib.trimRightS
  have h1 := (List.dropWhile_sublist (fun x => [32, 9].contains x) (l := (l.reverse.dropWhile fun x => [32, 9].contains x).reverse)).length_le
  have h2 := (List.dropWhile_sublist (fun x => [32, 9].contains x) (l := l.reverse)).length_le
  simp only [List.length_reverse] at h1 h2
  exact Nat.le_trans h1 h2

theorem trim_calls (x : ByteArray) (hx : x.size ≤ 140737488355328) (w : World) :
    Calls Tryd.prog 28 #[.string x] w fun e w' => e = .returned (.string ⟨(trimL x.data.toList).toArray⟩) ∧ Below w.heap.size w w' :=
  BF.field_Trim.calls x _ w (by unfold BF.field_Trim.f strings_Trim.f; rw [if_pos ⟨rfl, hx⟩]; rfl)
theorem item_calls (x : ByteArray) (hx : x.size ≤ 140737488355328) (w : World) :
    Calls Tryd.prog 26 #[.string ⟨(trimL x.data.toList).toArray⟩] w fun e w' => e = .returned (.string (itemB x)) ∧ Below w.heap.size w w' :=
  Lower_calls ⟨(trimL x.data.toList).toArray⟩ (by rw [Lib.size_eq] at *; exact Nat.le_trans (trimL_len x.data.toList) hx) w
end Go.Proofs.YtfmppmabnpkooaaDoor
end
section
/- strings.Cut at one byte in plain words: what stands ahead of the first such byte, and behind it. -/
set_option linter.unusedSimpArgs false
set_option linter.unusedVariables false
namespace Go.Proofs.YtfmppmabnpkooaaDoor
open Go Go.RowKit Go.Proofs.YtfmppmabnpkooaaDoorW.PrintWords Go.Proofs.YtfmppmabnpkooaaDoorW.PrintLast Go.Proofs.YtfmppmabnpkooaaDoorW.PrintMore

def cutA (c : UInt8) (l : List UInt8) : List UInt8 := l.takeWhile (· != c)
def cutZ (c : UInt8) (l : List UInt8) : List UInt8 := (l.dropWhile (· != c)).drop 1

theorem cut_none (c : UInt8) : ∀ l : List UInt8, (∀ x ∈ l, x ≠ c) → cutA c l = l ∧ cutZ c l = []
  | [], _ => ⟨rfl, rfl⟩
  | x :: l, h => by
    have hx : (x != c) = true := by simpa using h x (by simp)
    obtain ⟨h1, h2⟩ := cut_none c l (fun y hy => h y (by simp [hy]))
    unfold cutA cutZ at *
    rw [List.takeWhile_cons, List.dropWhile_cons, if_pos hx, if_pos hx, h1, h2]
    exact ⟨rfl, rfl⟩
theorem cut_at (c : UInt8) (b : List UInt8) : ∀ a : List UInt8, (∀ x ∈ a, x ≠ c) → cutA c (a ++ c :: b) = a ∧ cutZ c (a ++ c :: b) = b
  | [], _ => by simp [cutA, cutZ]
  | x :: a, h => by
    have hx : (x != c) = true := by simpa using h x (by simp)
    obtain ⟨h1, h2⟩ := cut_at c b a (fun y hy => h y (by simp [hy]))
    unfold cutA cutZ at *
    rw [List.cons_append, List.takeWhile_cons, List.dropWhile_cons, if_pos hx, if_pos hx, h1, h2]
    exact ⟨rfl, rfl⟩
theorem cutA_len (c : UInt8) (l : List UInt8) : (cutA c l).length ≤ l.length := (List.takeWhile_sublist _).length_le
theorem cutZ_len (c : UInt8) (l : List UInt8) : (cutZ c l).length ≤ l.length := by
  unfold cutZ
  rw [List.length_drop]
  have := (List.dropWhile_sublist (· != c) (l := l)).length_le
  omega

theorem Cut_f (s : ByteArray) (c : UInt8) (hs : s.size ≤ 140737488355328) : ∃ b, BF.strings_Cut.f s ⟨#[c]⟩ = some (⟨(cutA c s.data.toList).toArray⟩, ⟨(cutZ c s.data.toList).toArray⟩, b) := by
  have hsz := Lib.size_eq s
  unfold BF.strings_Cut.f BF.stringslite_Cut.f stringslite_Index.f
  rw [if_pos (show (⟨#[c]⟩ : ByteArray).size = 1 from rfl), show ((⟨#[c]⟩ : ByteArray).data.toList.headD 0) = c from rfl]
  simp only [Option.bind_some]
  have hone : ((⟨#[c]⟩ : ByteArray).size : Int) = 1 := rfl
  rcases indexByte_cases s.data.toList c with ⟨h1, h2⟩ | ⟨i, h1, h2, h3, h4⟩
  · obtain ⟨e1, e2⟩ := cut_none c _ h2
    rw [h1, if_neg (by omega), e1, e2]
    exact ⟨false, rfl⟩
  · have hw : wrap64 ((i : Int) + 1) = ((i + 1 : Nat) : Int) := by unfold wrap64; omega
    obtain ⟨e1, e2⟩ := cut_at c (s.data.toList.drop (i + 1)) _ h4
    rw [← h3] at e1 e2
    rw [h1, if_pos (by omega), if_pos (by omega), if_pos (by omega), hone, hw, if_pos (by omega), if_pos (by omega), e1, e2]
    refine ⟨true, ?_⟩
    simp only [Option.bind_some, Int.toNat_natCast]
    have x1 : s.extract 0 i = ⟨(s.data.toList.take i).toArray⟩ := by
      apply ByteArray.ext
      apply Array.toList_inj.1
      rw [extract_list]; simp
    have x2 : s.extract (i + 1) s.size = ⟨(s.data.toList.drop (i + 1)).toArray⟩ := by
      apply ByteArray.ext
      apply Array.toList_inj.1
      rw [extract_list, List.take_of_length_le (by rw [List.length_drop]; omega)]
    rw [x1, x2]
theorem cut_calls (s : ByteArray) (c : UInt8) (hs : s.size ≤ 140737488355328) : ∃ b, ∀ w, Calls Tryd.prog 57 #[.string s, .string ⟨#[c]⟩] w fun e w' =>
    e = .returned (.tuple #[.string ⟨(cutA c s.data.toList).toArray⟩, .string ⟨(cutZ c s.data.toList).toArray⟩, .bool b]) ∧ Drawn0 w w' := by
  obtain ⟨b, h⟩ := Cut_f s c hs
  exact ⟨b, fun w => BF.strings_Cut.calls s ⟨#[c]⟩ _ _ _ w h⟩
end Go.Proofs.YtfmppmabnpkooaaDoor
end
section
/- A region that draws its order, inside a round of a range over an iterator: what is proved of it outside of rounds holds there too, if it defers nothing. -/
set_option linter.unusedSimpArgs false
set_option linter.unusedVariables false
namespace Go.Proofs.YtfmppmabnpkooaaDoor
open Go

theorem rows_in {P : Program} {row : String} {args : Array Value} {w : World} {R : Value → World → Prop} {l n : Nat} (h : Rows P row args w R) : RowsIn (Fence.wide.inRound l) n P row args w R :=
  fun c cs _ => let ⟨v, w', r, s⟩ := h c cs; ⟨v, w', r, stepsIn_wide.2 s⟩

theorem oper_in {P : Program} {o : Oper} {a : Act} {w : World} {K K' : Act → World → Prop} {Q : Exit → Act → World → Prop} {l n : Nat} (hd : ∀ c, o.op ≠ .defer c)
    (hK : ∀ a w, K a w → K' a w) (h : o.wp P a w K Q) : o.wpIn (Fence.wide.inRound l) n P a w K' Q := by
  refine ⟨fun _ _ => trivial, ?_⟩
  rw [Oper.semAt_eq _ _ _ hd]
  unfold Oper.wp at h
  generalize (execOp a.eval o).run P w = R at h ⊢
  rcases R with ⟨nx, w'⟩ | ⟨hh, w'⟩
  · cases nx with
    | value v => exact hK _ _ h
    | skip => exact hK _ _ h
    | defer d => exact hK _ _ h
    | enter f args =>
      refine ⟨fun hdep => by simp [Fence.wide] at hdep, CallsIn.inRound l (callsIn_wide.2 (Calls.mono (show Calls P f args w' _ from h) ?_))⟩
      intro e w'' he
      cases e with
      | returned v => exact hK _ _ he
      | panicked c => exact he
      | outgrown => exact he
    | row row args =>
      refine ⟨fun hdep => by simp [Fence.wide] at hdep, rows_in (Rows.mono (show Rows P row args w' _ from h) fun v w'' he => hK _ _ he)⟩
    | _ => exact (h : False).elim
  · cases hh with
    | panic v => exact h
    | _ => exact (h : False).elim

theorem any_in {P : Program} {md : Region.Mode} {ops : Array Oper} {Q : Exit → Act → World → Prop} {l n : Nat} (hd : ∀ (i : Nat) (o : Oper) c, ops[i]? = some o → o.op ≠ .defer c) (hlo : ¬ LetsOut Q) :
    ∀ (fuel : Nat) (listed : Array Bool) (a : Act) (w : World), wpAny P md ops Q fuel listed a w → wpAnyIn (Fence.wide.inRound l) n P md ops Q fuel listed a w := by
  intro fuel
  induction fuel with
  | zero => exact fun listed a w h => h
  | succ fuel ih =>
    intro listed a w h
    refine ⟨h.1, fun i hi => ?_⟩
    have hw := h.2 i hi
    unfold wpOp at hw
    unfold wpOpIn
    cases ho : ops[i]? with
    | none => rw [ho] at hw; exact ih _ _ _ hw
    | some o =>
      rw [ho] at hw
      by_cases hwant : Region.wanted o (yielded ops a.tmps) = true
      · simp only [hwant, if_true] at hw ⊢
        exact oper_in (hd i o · ho) (ih _) (hw.resolve_right fun h => hlo h.2)
      · simp only [hwant, if_false, Bool.false_eq_true] at hw ⊢
        exact ⟨fun _ _ => trivial, ih _ _ _ hw⟩

/-- The start of a drawn region, as the print's words walk it, inside a round. -/
theorem start_in {P : Program} {ops : Array Oper} {Q : Exit → Act → World → Prop} {S : World → Prop} {ds : List Nat} {l n0 id n : Nat} {a : Act} {w : World} (lst : Array Bool) (hm : P.follows .mixedOrders = true)
    (hd : (ops.toList.all fun o => match o.op with | .defer _ => false | _ => true) = true) (hlo : ¬ LetsOut Q) (hn : ops.size = n) (hl : Array.replicate n false = lst) (hS : S w.drew)
    (h : S w.drew → Go.Proofs.YtfmppmabnpkooaaDoorW.PrintLast.wpAnyLast P .any ops Q S ds n lst a w.drew) : (Code.region id ops true).wpIn (Fence.wide.inRound l) n0 P Q a w := by
  subst hn
  subst hl
  refine wpIn_region_any hm (any_in (fun i o c ho e => ?_) hlo _ _ _ _ (Go.Proofs.YtfmppmabnpkooaaDoorW.PrintLast.wpAny_of_last _ _ _ _ (h hS)))
  have := List.all_eq_true.1 hd o (by simpa using Array.mem_of_getElem? ho)
  rw [e] at this
  cases this
end Go.Proofs.YtfmppmabnpkooaaDoor
end
section
/- field.Pairs in plain words: what stands between semicolons, trimmed: a name (in small letters) and a value. -/
set_option linter.unusedSimpArgs false
set_option linter.unusedVariables false
namespace Go.Proofs.YtfmppmabnpkooaaDoor
open Go Go.RowKit Go.Shelf Go.Proofs Go.Proofs.YtfmppmabnpkooaaDoorW.PrintWords Go.Proofs.YtfmppmabnpkooaaDoorW.PrintLast Go.Proofs.YtfmppmabnpkooaaDoorW.PrintMore
attribute [local go_sem] Oper.semAt_some

/-- One piece as it stands in the pairs. -/
def pairB (x : ByteArray) : ByteArray × ByteArray := (⟨(lowL (trimL (cutA 61 (trimL x.data.toList)))).toArray⟩, ⟨(trimL (cutZ 61 (trimL x.data.toList))).toArray⟩)
def pairsF (ps : List ByteArray) : List (ByteArray × ByteArray) := (ps.filter fun x => decide (trimL x.data.toList ≠ [])).map pairB
def pairCells (p : ByteArray × ByteArray) : List Value := [.string p.1, .string p.2]

theorem pairs_hit (pre : List ByteArray) (x : ByteArray) (h : trimL x.data.toList ≠ []) : pairsF (pre ++ [x]) = pairsF pre ++ [pairB x] := by
  simp [pairsF, h]
theorem pairs_miss (pre : List ByteArray) (x : ByteArray) (h : trimL x.data.toList = []) : pairsF (pre ++ [x]) = pairsF pre := by
  simp [pairsF, h]
theorem pairs_len (pre : List ByteArray) : (pairsF pre).length ≤ pre.length := by
  unfold pairsF
  rw [List.length_map]
  exact List.length_filter_le _ _

theorem Pairs_info : (Tryd.prog.info? 29).map (fun i => (i.zero, i.size, i.bytes)) = some (some (.agg #[.string ⟨#[]⟩, .string ⟨#[]⟩]), 2, 32) := by kernel_rfl

end Go.Proofs.YtfmppmabnpkooaaDoor
end
section
/- (an empty row is nil) field.Pairs in plain words: what stands between semicolons, trimmed: a name (in small letters) and a value. -/
set_option linter.unusedSimpArgs false
set_option linter.unusedVariables false
namespace Go.Proofs.YtfmppmabnpkooaaDoor
open Go Go.RowKit Go.Shelf Go.Proofs Go.Proofs.YtfmppmabnpkooaaDoorW.PrintWords Go.Proofs.YtfmppmabnpkooaaDoorW.PrintLast Go.Proofs.YtfmppmabnpkooaaDoorW.PrintMore
attribute [local go_sem] Oper.semAt_some

/-- One piece as it stands in the pairs. -/
theorem BoxOwn.imp {bs B b : Nat} {t : TypeId} (hne : b ≠ bs) : BoxOwn bs B (fun (pre : List ByteArray) W => pairsF pre = [] → Boxed W b t (.slice none 0 0)) :=
  fun s W W' row hs hg hr e => boxBlock_kept hg hr (hs e) rfl hne
set_option maxRecDepth 100000 in
set_option maxHeartbeats 4000000 in
theorem Pairs_calls2 (s : ByteArray) (hn : s.size ≤ 1099511627776) (w : World) :
    Calls Tryd.prog 20 #[.string s] w fun e w' => ∃ v, e = .returned v ∧ w'.ownsRow w.heap.size 29 2 v (pairsF (pieces 59 s)).length ((pairsF (pieces 59 s)).flatMap pairCells) ∧ Below w.heap.size w w' ∧ (pairsF (pieces 59 s) = [] → v = .slice none 0 0) := by
  refine (callsIn_wide (n := 4)).1 ?_
  refine callsIn_of_wp_marks Tryd.func20 rfl trivial ?_ rfl
  simp only [Tryd.ntmps20, List.size_toArray, List.length_cons, List.length_nil, Nat.reduceAdd, Nat.reduceSub, Array.replicate_succ, Array.replicate_zero, List.push_toArray, List.append_toArray, List.nil_append, List.cons_append]
  gi_wp2_with (refine ⟨trivial, ?_⟩; gi_at_call 55; refine (callsIn_wide.2 (SplitSeq_any _ _ _)).mono ?_; rintro e w' ⟨rfl, rfl⟩)
  obtain ⟨W0, hW0⟩ : ∃ W0, (((w.alloc (.cells #[.slice none 0 0] 26)).alloc (.cells #[.string s] 9)).alloc (.cells #[.string ⟨#[59]⟩] 9)).alloc (.cells #[.int .i64 0] 3) = W0 := ⟨_, rfl⟩
  have hs0 : W0.heap.size = w.heap.size + 4 := by rw [← hW0]; simp
  have hbx : Boxes (w.heap.size + 1) 59 s W0 := by
    have := boxes_new s 59 (w.alloc (.cells #[.slice none 0 0] 26)); rw [World.size_alloc] at this; rw [← hW0]; exact this
  have hbl : Below w.heap.size w W0 := by
    rw [← hW0]; exact ((((Below.refl _ w).alloc (Nat.le_refl _) _).alloc (by simp) _).alloc (by simp; omega) _).alloc (by simp; omega) _
  have hk2 : Boxed W0 w.heap.size 26 (.slice none 0 0) := by
    rw [← hW0]; exact (((Boxed.new w _ _).alloc _).alloc _).alloc _
  rw [hW0]
  clear hW0
  have hsz := Lib.hid (Lib.size_eq s)
  refine wpIn_rangeBox rfl (by omega) (gf := 99) rfl trivial (enters_of Tryd.func99 (by kernel_rfl) rfl) (bs := w.heap.size + 1) (lo := w.heap.size + 1) (xs0 := pieces 59 s)
    (splitSeq1_box _ (by omega) _ _ _ _ (by omega) (by omega) hbx) (by omega) (by omega) rfl
    (fun pre W => (∃ v, Boxed W w.heap.size 26 v ∧ W.ownsRow (w.heap.size + 4) 29 2 v (pairsF pre).length ((pairsF pre).flatMap pairCells)) ∧ Below w.heap.size w W ∧ (pairsF pre = [] → Boxed W w.heap.size 26 (.slice none 0 0)))
    (fun c pre W => False)
    ((BoxOwn.holds (fun pre => (pairsF pre).length) (fun pre => (pairsF pre).flatMap pairCells) (by omega) (by omega)).and ((BoxOwn.below (Nat.le_refl _) (by omega) (by omega)).and (BoxOwn.imp (by omega))))
    (fun c => BoxOwn.pure)
    ⟨⟨_, hk2, World.ownsRow_nil _ _ _ _⟩, hbl, fun _ => hk2⟩
    (fun x => { tmps := #[.string s, undef, .slice none 0 0, .pointer (some ⟨w.heap.size, 0, none⟩), .string x, undef, undef, undef, .string s, .func (.func 99) #[] #[.pointer (some ⟨w.heap.size + 1 + 1, 0, none⟩), .pointer (some ⟨w.heap.size + 1, 0, none⟩), .pointer (some ⟨w.heap.size + 1 + 2, 0, none⟩)], .string x, undef, undef, undef, undef, undef, undef, undef, undef, undef, undef, undef, undef, undef, undef, undef, undef, undef, undef, undef, undef], defers := [] }) ?assign ?body ?done ?stop
  case assign =>
    intro l x W K hK
    gi_wp2
    exact hK
  case body =>
    rintro l pre x W ⟨⟨v, hv, hrow⟩, hb, hnil⟩ hpre hle
    have hx : x.size ≤ 140737488355328 := by
      have : x ∈ pieces 59 s := hpre.subset (by simp)
      have := piece_size 59 _ _ _ this
      omega
    have hlen : (pairsF pre).length + 1 ≤ 1099511627777 := by
      have h1 := hpre.length_le
      have h2 := congrArg List.length (pieces_split 59 s)
      rw [List.length_map, splitL_length] at h2
      have h3 := count_size s 59
      have h4 := pairs_len pre
      simp only [List.length_append, List.length_cons, List.length_nil] at h1
      omega
    obtain ⟨T, hT⟩ : ∃ T : ByteArray, (⟨(trimL x.data.toList).toArray⟩ : ByteArray) = T := ⟨_, rfl⟩
    have hTl : T.data.toList = trimL x.data.toList := by rw [← hT]
    have hTs : T.size ≤ 140737488355328 := by
      have := trimL_len x.data.toList
      rw [Lib.size_eq] at hx ⊢
      rw [hTl]; omega
    have hTc := trim_calls x hx
    rw [hT] at hTc
    by_cases hE : trimL x.data.toList = []
    · have hE1 : (T.toList == ([] : List UInt8)) = true := by rw [Go.ByteArray.toList_eq, hTl]; exact beq_iff_eq.2 hE
      have hE2 : T.toList.isEmpty = true := by rw [Go.ByteArray.toList_eq, hTl]; exact List.isEmpty_iff.2 hE
      gi_wp2_with (first
        | (refine ⟨trivial, ?_⟩; gi_at_call 28; refine (CallsIn.inRound l (callsIn_wide.2 (hTc _))).mono ?_; rintro e w1 ⟨rfl, hb3⟩))
      refine ⟨keepsFrom_below hb3, KeepB.below hb3 (by omega), ⟨v, (boxed_below hv hb3), ?_⟩, hb.trans (hb3.mono hb.size), fun e => boxed_below (hnil (by rw [← pairs_miss pre x hE]; exact e)) hb3⟩
      rw [pairs_miss pre x hE]; exact ownsRow_below hrow hb3
    · have hE1 : (T.toList == ([] : List UInt8)) = false := by rw [Go.ByteArray.toList_eq, hTl]; exact beq_eq_false_iff_ne.2 hE
      have hE2 : T.toList.isEmpty = false := by rw [Go.ByteArray.toList_eq, hTl]; exact Bool.eq_false_iff.2 fun h => hE (List.isEmpty_iff.1 h)
      obtain ⟨bc, hcut⟩ := cut_calls T 61 hTs
      obtain ⟨A, hA⟩ : ∃ A : ByteArray, (⟨(cutA 61 T.data.toList).toArray⟩ : ByteArray) = A := ⟨_, rfl⟩
      obtain ⟨Z, hZ⟩ : ∃ Z : ByteArray, (⟨(cutZ 61 T.data.toList).toArray⟩ : ByteArray) = Z := ⟨_, rfl⟩
      rw [hA, hZ] at hcut
      have hAl : A.data.toList = cutA 61 (trimL x.data.toList) := by rw [← hA, hTl]
      have hZl : Z.data.toList = cutZ 61 (trimL x.data.toList) := by rw [← hZ, hTl]
      have hAs : A.size ≤ 140737488355328 := by
        have := cutA_len 61 (trimL x.data.toList)
        rw [Lib.size_eq] at hTs ⊢
        rw [hAl]; rw [hTl] at hTs; omega
      have hZs : Z.size ≤ 140737488355328 := by
        have := cutZ_len 61 (trimL x.data.toList)
        rw [Lib.size_eq] at hTs ⊢
        rw [hZl]; rw [hTl] at hTs; omega
      have hA1 := trim_calls A hAs
      have hA2 := item_calls A hAs
      have hZ1 := trim_calls Z hZs
      have hpair : pairB x = (itemB A, ⟨(trimL Z.data.toList).toArray⟩) := by unfold pairB itemB itemL; rw [hAl, hZl]
      have HP := Lib.hid hpair
      clear hpair hAl hZl hA hZ hT hTl hTs
      gi_wp2_with (first
        | (refine ⟨trivial, ?_⟩; gi_at_call 28; refine (CallsIn.inRound l (callsIn_wide.2 (hTc _))).mono ?_; rintro e w1 ⟨rfl, hb1⟩)
        | (refine ⟨trivial, ?_⟩; gi_at_call 57; refine (CallsIn.inRound l (callsIn_wide.2 (hcut _))).mono ?_; rintro e w3 ⟨rfl, ⟨nd, rfl⟩⟩; have hb3 := pw_below_drewN hb1 nd; clear hb1; generalize World.drewN _ nd = w3 at *))
      have hv3 := boxed_below hv hb3
      refine start_in (n := 10) (S := fun w' => w'.cell? ⟨w.heap.size, 0, none⟩ = some v) (ds := [9]) #[false, false, false, false, false, false, false, false, false, false] (by kernel_rfl) rfl (by rintro ⟨a, w, h⟩; exact h) rfl rfl hv3.cell (fun hHeld => ?_)
      have hb4 := below_drew1 hb3
      clear hb3 hv3
      generalize World.drew w3 = w4 at *
      refine pure_ (i := 1) (N := some 22) (v := ?_) (a' := ?_) #[false, true, false, false, false, false, false, false, false, false] rfl rfl (by kernel_rfl) (fun _ _ _ h => h) (Or.inl ⟨by rfl, ?_⟩) ?_ ?_
      rotate_left
      · intro w'
        go_simp
        with_reducible rfl
      rotate_left
      · simp only [Act.put, List.setIfInBounds_toArray, List.set_cons_zero, List.set_cons_succ]
        rfl
      refine pure_ (i := 4) (N := some 25) (v := ?_) (a' := ?_) #[false, true, false, false, true, false, false, false, false, false] rfl rfl (by kernel_rfl) (fun _ _ _ h => h) (Or.inl ⟨by rfl, ?_⟩) ?_ ?_
      rotate_left
      · intro w'
        go_simp
        with_reducible rfl
      rotate_left
      · simp only [Act.put, List.setIfInBounds_toArray, List.set_cons_zero, List.set_cons_succ]
        rfl
      refine take_ (i := 0) (N := some 21) (v := ?_) (a' := ?_) #[true, true, false, false, true, false, false, false, false, false] rfl rfl (by kernel_rfl) (fun _ _ _ h => h) (Or.inl ⟨by rfl, ?_⟩) hHeld ?_ ?_
      rotate_left
      · rintro w' s0
        go_simp
        with_reducible rfl
      rotate_left
      · simp only [Act.put, List.setIfInBounds_toArray, List.set_cons_zero, List.set_cons_succ]
        rfl
      refine one_ (i := 2) (N := some 23) #[true, true, true, false, true, false, false, false, false, false] rfl rfl (by kernel_rfl) (by decide) (fun K hK => ?_)
      refine goes_ Tryd.func28 (by kernel_rfl) rfl #[.string A] (by rfl) rfl rfl (by (try simp only [List.map_toArray, List.map_cons, List.map_nil]); first | done | rfl) ?_
      refine (hA1 _).mono ?_
      rintro e w5 ⟨rfl, hbn⟩
      refine ⟨_, rfl, ?_⟩
      have hbw5 := hb4.trans (hbn.mono hb4.size)
      clear hbn
      refine hK.out _ _ (boxed_below hv hbw5).cell (fun hHeld => ?_)
      clear hK K
      refine norm_ (a' := ?_) ?_ ?_
      rotate_left
      · show Act.put _ (some 23) _ = _
        simp only [Act.put, List.setIfInBounds_toArray, List.set_cons_zero, List.set_cons_succ]
        rfl
      refine one_ (i := 3) (N := some 24) #[true, true, true, true, true, false, false, false, false, false] rfl rfl (by kernel_rfl) (by decide) (fun K hK => ?_)
      refine goes_ Tryd.func26 (by kernel_rfl) rfl #[.string _] (by rfl) rfl rfl (by (try simp only [List.map_toArray, List.map_cons, List.map_nil]); first | done | rfl) ?_
      refine (hA2 _).mono ?_
      rintro e w6 ⟨rfl, hbn⟩
      refine ⟨_, rfl, ?_⟩
      have hbw6 := hbw5.trans (hbn.mono hbw5.size)
      clear hbn
      refine hK.out _ _ (boxed_below hv hbw6).cell (fun hHeld => ?_)
      clear hK K
      refine norm_ (a' := ?_) ?_ ?_
      rotate_left
      · show Act.put _ (some 24) _ = _
        simp only [Act.put, List.setIfInBounds_toArray, List.set_cons_zero, List.set_cons_succ]
        rfl
      refine one_ (i := 5) (N := some 26) #[true, true, true, true, true, true, false, false, false, false] rfl rfl (by kernel_rfl) (by decide) (fun K hK => ?_)
      refine goes_ Tryd.func28 (by kernel_rfl) rfl #[.string Z] (by rfl) rfl rfl (by (try simp only [List.map_toArray, List.map_cons, List.map_nil]); first | done | rfl) ?_
      refine (hZ1 _).mono ?_
      rintro e w7 ⟨rfl, hbn⟩
      refine ⟨_, rfl, ?_⟩
      have hbw7 := hbw6.trans (hbn.mono hbw6.size)
      clear hbn
      refine hK.out _ _ (boxed_below hv hbw7).cell (fun hHeld => ?_)
      clear hK K
      refine norm_ (a' := ?_) ?_ ?_
      rotate_left
      · show Act.put _ (some 26) _ = _
        simp only [Act.put, List.setIfInBounds_toArray, List.set_cons_zero, List.set_cons_succ]
        rfl
      refine pure_ (i := 6) (N := some 27) (v := ?_) (a' := ?_) #[true, true, true, true, true, true, true, false, false, false] rfl rfl (by kernel_rfl) (fun _ _ _ h => h) (Or.inl ⟨by rfl, ?_⟩) ?_ ?_
      rotate_left
      · intro w'
        go_simp
        with_reducible rfl
      rotate_left
      · simp only [Act.put, List.setIfInBounds_toArray, List.set_cons_zero, List.set_cons_succ]
        rfl
      refine one_ (i := 7) (N := some 28) #[true, true, true, true, true, true, true, true, false, false] rfl rfl (by kernel_rfl) (by decide) (fun K hK => ?_)
      go_simp
      have hv7 := boxed_below hv hbw7
      have hr7 := ownsRow_below hrow hbw7
      have hs7 := hbw7.size
      refine hK.out _ _ (hv7.alloc _).cell (fun hHeld => ?_)
      clear hK K
      refine one_ (i := 8) (N := some 29) #[true, true, true, true, true, true, true, true, true, false] rfl rfl (by kernel_rfl) (by decide) (fun K hK => ?_)
      refine step_append_cells (w0 := w7) (W := w7) (w.heap.size + 4) (by rfl) (.tmp 21) (.tmp 28) 26 29 (.agg #[.string ⟨#[]⟩, .string ⟨#[]⟩]) 2 32 rfl Tryd.underlying26 Pairs_info (by rfl) (by decide) (by decide) v _ _ [.string (itemB A), .string ⟨(trimL Z.data.toList).toArray⟩] (by rfl) (by rfl) rfl (by simp [Value.oneCell']) hr7 (Below.refl _ _) (by omega) (by omega) ?_
      intro v1 w8 hown8 _ hg8 _
      obtain ⟨g', cap', rfl⟩ := ownsRow_succ hown8
      have hv8 := hv7.kept hg8 (hv7.not_row (by decide) hr7)
      refine hK.out _ _ hv8.cell (fun hHeld => ?_)
      clear hK K
      have hc8 := hv8.cell
      have hf8 := hv8.frozen
      refine last_ (i := 9) (N := none) #[true, true, true, true, true, true, true, true, true, true] rfl rfl (by kernel_rfl) (by decide) (fun K hK => ?_)
      go_simp
      refine hK.out _ _ ?_
      clear hK K
      refine done_ (by kernel_rfl) ?_
      have hset := KeepsOthers.setCell w8 ⟨w.heap.size, 0, none⟩ (.slice (some ⟨g', 0, none⟩) ((pairsF pre).length + 1) cap')
      have hrg : ∀ r, v.ownBlock = some r → w.heap.size + 4 ≤ r ∧ ∃ o : Obj, w7.heap[r]? = some o ∧ o.isCells = true := by
        intro r e
        rcases hr7.2 with ⟨rfl, _⟩ | ⟨g, cap, cur, rfl, hgb, hh, _⟩
        · simp [Value.ownBlock] at e
        · obtain rfl : g = r := by simpa [Value.ownBlock] using e
          exact ⟨hgb, _, hh, rfl⟩
      have hk8 : KeepsOthers w7 w8 := KeepsOthers.of_grownBy hg8 fun j o ej hj => by
        obtain ⟨_, o', ho', hc'⟩ := hrg j ej
        rw [hj] at ho'; cases ho'; exact hc'
      have hb8 : Below w.heap.size w w8 := (hb.trans (hbw7.mono hb.size)).grown hg8 (by omega) (fun r e => by have := (hrg r e).1; omega)
      refine ⟨(keepsFrom_below hbw7).trans ((hk8.trans hset).from _), ((KeepB.below hbw7 (by omega)).trans ((KeepB.grown hg8 (by omega) (fun r e => by have := (hrg r e).1; omega)).trans (KeepB.setCell _ _ _ (.inl (by simp))))), ⟨_, hv8.set _, ?_⟩, hb8.setCell (p := ⟨w.heap.size, 0, none⟩) (Nat.le_refl _) _, fun e => by rw [pairs_hit pre x hE] at e; simp at e⟩
      rw [pairs_hit pre x hE, HP.out]
      have hr6 := hown8.kept (grownBy_setCell' w8 w.heap.size (.slice (some ⟨g', 0, none⟩) ((pairsF pre).length + 1) cap')) (.inr (hv8.not_row (by decide) hown8).symm)
      simpa [pairCells] using hr6
  case done =>
    rintro D W hD ⟨⟨v, hv, hrow⟩, hb, hnil⟩ hK
    have hnv : pairsF (pieces 59 s) = [] → v = .slice none 0 0 := fun e => by
      have h1 := hnil e
      have h2 : some (Obj.cells #[v] 26 (0, 0)) = some (Obj.cells #[.slice none 0 0] 26 (0, 0)) := hv.symm.trans h1
      simpa using h2
    obtain ⟨oa, k0, c0, rfl⟩ : ∃ oa k0 c0, v = .slice oa k0 c0 := by
      rcases hrow.2 with ⟨rfl, _⟩ | ⟨g, cap, cur, rfl, _, _, _⟩
      · exact ⟨_, _, _, rfl⟩
      · exact ⟨_, _, _, rfl⟩
    have e2 := hv.cell
    have HR := Lib.hid hrow
    clear hrow
    gi_wp2
    refine ⟨by simp, .inl ⟨_, _, rfl, run_takeDeferred hK, ?_⟩⟩
    exact ⟨_, results_tmp rfl _ _ _, _, rfl, ownsRow_lower (ownsRow_putObj HR.out _ hK rfl) (by omega), hb.trans (belowK_b (w := w) (Nat.le_refl _) _ D _ _ (by omega) hK rfl rfl), by exact hnv⟩
  case stop => rintro D c pre W hD hpre h _; exact h.elim
end Go.Proofs.YtfmppmabnpkooaaDoor
end
section
-- Printed for this claim by the kit's print.py over given contracts (wip/myprint.py). Not trusted: Lean checks it.
namespace Go.Proofs.YtfmppmabnpkooaaDoor.BU
open Go.RowKit Go.Proofs.YtfmppmabnpkooaaDoorW.PrintWords Go.Proofs.YtfmppmabnpkooaaDoorW.PrintLast Go.Proofs.YtfmppmabnpkooaaDoorW.PrintMore
attribute [local go_sem] max2_int min2_int max_two min_two max_three min_three max_four min_four   -- for this text's walks alone
set_option linter.unusedVariables false
set_option linter.unusedSimpArgs false



def errW : Option Int → Value
  | none => .nilIface
  | some c => .iface 0 (.int .i64 c)
theorem errW_none : errW none = .nilIface := rfl
theorem errW_some (c : Int) : errW (some c) = .iface 0 (.int .i64 c) := rfl

-- the values' own types

end Go.Proofs.YtfmppmabnpkooaaDoor.BU
end
section
-- Printed for this claim by the kit's print.py over given contracts (wip/myprint.py). Not trusted: Lean checks it.
namespace Go.Proofs.YtfmppmabnpkooaaDoor.BU
open Go.RowKit Go.Proofs.YtfmppmabnpkooaaDoorW.PrintWords Go.Proofs.YtfmppmabnpkooaaDoorW.PrintLast Go.Proofs.YtfmppmabnpkooaaDoorW.PrintMore
attribute [local go_sem] max2_int min2_int max_two min_two max_three min_three max_four min_four   -- for this text's walks alone
set_option linter.unusedVariables false
set_option linter.unusedSimpArgs false

/-! ### url_plain: function 70 -/
def url_plain.f (a0 : Int) : Option (Bool) := if a0 ≥ 97 then (if a0 ≤ 122 then (some true) else (if a0 ≥ 48 then (some (decide (a0 ≤ 57))) else (some false))) else (if a0 ≥ 48 then (some (decide (a0 ≤ 57))) else (some false))
set_option maxHeartbeats 2000000 in
set_option maxRecDepth 100000 in
theorem url_plain.calls (a0 : Int) (r : Bool) (w : World) (h : url_plain.f a0 = some r) :
    Calls Tryd.prog 70 #[.int .u8 a0] w fun e w' => e = .returned (.bool r) ∧ Drawn0 w w' := by
  have H : (if a0 ≥ 97 then (if a0 ≤ 122 then (some true) else (if a0 ≥ 48 then (some (decide (a0 ≤ 57))) else (some false))) else (if a0 ≥ 48 then (some (decide (a0 ≤ 57))) else (some false))) = some r := h
  clear h
  by_cases c2 : a0 ≥ 97
  · rw [if_pos c2] at H
    have c2b0 : decide (97 ≤ a0) = true := decide_eq_true c2
    clear c2
    by_cases c3 : a0 ≤ 122
    · rw [if_pos c3] at H
      have c3b0 : decide (a0 ≤ 122) = true := decide_eq_true c3
      clear c3
      obtain rfl := Option.some.inj H
      go_enter Tryd.func70, Tryd.ntmps70
      go_wp2
      go_ret
      exact ⟨by first | rfl | (simp; done) | (simp [*]; done) | (simp [isEmpty_bne, isEmpty_beq]; done) | (simp [*, isEmpty_bne, isEmpty_beq]; done), by repeat (first | exact Drawn0.refl _ | apply Drawn0.step)⟩
    · rw [if_neg c3] at H
      have c3b0 : decide (a0 ≤ 122) = false := decide_eq_false c3
      clear c3
      by_cases c4 : a0 ≥ 48
      · rw [if_pos c4] at H
        have c4b0 : decide (48 ≤ a0) = true := decide_eq_true c4
        clear c4
        obtain rfl := Option.some.inj H
        go_enter Tryd.func70, Tryd.ntmps70
        go_wp2
        go_ret
        exact ⟨by first | rfl | (simp; done) | (simp [*]; done) | (simp [isEmpty_bne, isEmpty_beq]; done) | (simp [*, isEmpty_bne, isEmpty_beq]; done), by repeat (first | exact Drawn0.refl _ | apply Drawn0.step)⟩
      · rw [if_neg c4] at H
        have c4b0 : decide (48 ≤ a0) = false := decide_eq_false c4
        clear c4
        obtain rfl := Option.some.inj H
        go_enter Tryd.func70, Tryd.ntmps70
        go_wp2
        go_ret
        exact ⟨by first | rfl | (simp; done) | (simp [*]; done) | (simp [isEmpty_bne, isEmpty_beq]; done) | (simp [*, isEmpty_bne, isEmpty_beq]; done), by repeat (first | exact Drawn0.refl _ | apply Drawn0.step)⟩
  · rw [if_neg c2] at H
    have c2b0 : decide (97 ≤ a0) = false := decide_eq_false c2
    clear c2
    by_cases c5 : a0 ≥ 48
    · rw [if_pos c5] at H
      have c5b0 : decide (48 ≤ a0) = true := decide_eq_true c5
      clear c5
      obtain rfl := Option.some.inj H
      go_enter Tryd.func70, Tryd.ntmps70
      go_wp2
      go_ret
      exact ⟨by first | rfl | (simp; done) | (simp [*]; done) | (simp [isEmpty_bne, isEmpty_beq]; done) | (simp [*, isEmpty_bne, isEmpty_beq]; done), by repeat (first | exact Drawn0.refl _ | apply Drawn0.step)⟩
    · rw [if_neg c5] at H
      have c5b0 : decide (48 ≤ a0) = false := decide_eq_false c5
      clear c5
      obtain rfl := Option.some.inj H
      go_enter Tryd.func70, Tryd.ntmps70
      go_wp2
      go_ret
      exact ⟨by first | rfl | (simp; done) | (simp [*]; done) | (simp [isEmpty_bne, isEmpty_beq]; done) | (simp [*, isEmpty_bne, isEmpty_beq]; done), by repeat (first | exact Drawn0.refl _ | apply Drawn0.step)⟩

end Go.Proofs.YtfmppmabnpkooaaDoor.BU
end
section
-- Printed for this claim by the kit's print.py over given contracts (wip/myprint.py). Not trusted: Lean checks it.
namespace Go.Proofs.YtfmppmabnpkooaaDoor.BU
open Go.RowKit Go.Proofs.YtfmppmabnpkooaaDoorW.PrintWords Go.Proofs.YtfmppmabnpkooaaDoorW.PrintLast Go.Proofs.YtfmppmabnpkooaaDoorW.PrintMore
attribute [local go_sem] max2_int min2_int max_two min_two max_three min_three max_four min_four   -- for this text's walks alone
set_option linter.unusedVariables false
set_option linter.unusedSimpArgs false

/-! ### url_label: function 68 -/
def url_label.l0 : Nat → ByteArray → Int → Int → Option (Bool)
  | 0, _, _, _ => none
  | k + 1, x0, x5, x6 => if x6 < x5 then (if 0 ≤ x6 then (if x6 < (x0.size : Int) then ((url_plain.f (bt x0 x6)).bind fun t101 => (if t101 = true then (url_label.l0 k x0 x5 (wrap64 (x6 + 1))) else (if (bt x0 x6) = 45 then (if x6 = 0 then (some false) else (if x6 = (wrap64 ((x0.size : Int) - 1)) then (some false) else (url_label.l0 k x0 x5 (wrap64 (x6 + 1))))) else (some false)))) else (none)) else (none)) else (if (x0.size : Int) ≥ 1 then (some (decide ((x0.size : Int) ≤ 20))) else (some false))
def url_label.f (k : Nat) (a0 : ByteArray) : Option (Bool) := url_label.l0 k a0 (a0.size : Int) 0
theorem url_label.mono_l : ∀ k, (∀ y0 y1 y2, LeO (url_label.l0 k y0 y1 y2) (url_label.l0 (k + 1) y0 y1 y2))
  | 0 => fun _ _ _ r h => by simp [url_label.l0] at h
  | k + 1 => by
    have ih0 := url_label.mono_l k
    · intro y0 y1 y2
      unfold url_label.l0
      repeat' first
      | (with_reducible exact ih0 _ _ _)
      | (with_reducible exact LeO.refl _)
      | (with_reducible exact LeO.none _)
      | (with_reducible refine LeO.ite ?_ ?_)
      | (with_reducible refine LeO.bind ?_ (fun _ => ?_))
      | exact ih0 _ _ _
      | exact LeO.none _
      | refine LeO.ite ?_ ?_
      | refine LeO.bind ?_ (fun _ => ?_)
theorem url_label.mono : ∀ a0 k, LeO (url_label.f k a0) (url_label.f (k + 1) a0) := by
  intro a0 k
  have ih0 := url_label.mono_l k
  unfold url_label.f
  repeat' first
      | (with_reducible exact ih0 _ _ _)
      | (with_reducible exact LeO.refl _)
      | (with_reducible exact LeO.none _)
      | (with_reducible refine LeO.ite ?_ ?_)
      | (with_reducible refine LeO.bind ?_ (fun _ => ?_))
      | exact ih0 _ _ _
      | exact LeO.none _
      | refine LeO.ite ?_ ?_
      | refine LeO.bind ?_ (fun _ => ?_)
set_option maxHeartbeats 2000000 in
set_option maxRecDepth 100000 in
theorem url_label.calls (k : Nat) (a0 : ByteArray) (r : Bool) (w : World) (h : url_label.f k a0 = some r) :
    Calls Tryd.prog 68 #[.string a0] w fun e w' => e = .returned (.bool r) ∧ Drawn0 w w' := by
  have H : (url_label.l0 k a0 (a0.size : Int) 0) = some r := h
  clear h
  have H' := Aside0.mk H
  clear H
  go_enter Tryd.func68, Tryd.ntmps68
  go_wp2
  go_loopg [6] k (fun kq v6 w' => ∃ (x6_1 : Int), v6 = .int .i64 x6_1 ∧ Aside0 (url_label.l0 kq a0 (a0.size : Int) x6_1 = some r) ∧ Aside0 (kq ≤ k) ∧ Drawn0 w w')
  case atStart => exact ⟨(0), (by first | rfl | (simp; done) | (simp [*]; done) | (simp [isEmpty_bne, isEmpty_beq]; done) | (simp [*, isEmpty_bne, isEmpty_beq]; done)), H', ⟨Nat.le_refl _⟩, by repeat (first | exact Drawn0.refl _ | apply Drawn0.step)⟩
  case round =>
    clear H'
    obtain ⟨x6_1, rfl, HA, HK1, ⟨m1, rfl⟩⟩ := hrel
    cases gk with
    | zero => exact absurd HA.out (by simp [url_label.l0])
    | succ k1 =>
      have H := HA.out
      clear HA
      simp only [url_label.l0] at H
      by_cases c2 : x6_1 < (a0.size : Int)
      · rw [if_pos c2] at H
        have c2b0 : decide (x6_1 < (a0.size : Int)) = true := decide_eq_true c2
        clear c2
        by_cases c3 : 0 ≤ x6_1
        · rw [if_pos c3] at H
          have c3b0 : decide (0 ≤ x6_1) = true := decide_eq_true c3
          clear c3
          by_cases c4 : x6_1 < (a0.size : Int)
          · rw [if_pos c4] at H
            have c4b0 : decide (x6_1 < (a0.size : Int)) = true := decide_eq_true c4
            clear c4
            replace H := Option.bind_eq_some_iff.mp H
            obtain ⟨t101, A60, H⟩ := H
            replace H : (if t101 = true then (url_label.l0 k1 a0 (a0.size : Int) (wrap64 (x6_1 + 1))) else (if (bt a0 x6_1) = 45 then (if x6_1 = 0 then (some false) else (if x6_1 = (wrap64 ((a0.size : Int) - 1)) then (some false) else (url_label.l0 k1 a0 (a0.size : Int) (wrap64 (x6_1 + 1))))) else (some false))) = some r := H
            have A6 := Aside0.mk A60
            clear A60
            by_cases c7 : t101 = true
            · subst c7
              have H1 : (url_label.l0 k1 a0 (a0.size : Int) (wrap64 (x6_1 + 1))) = some r := by rw [if_pos rfl] at H; exact H
              clear H
              have H := H1
              clear H1
              have H' := Aside0.mk H
              clear H
              have p5 : 0 ≤ (x6_1 : Int) := of_decide_eq_true (by first | (with_reducible assumption) | assumption)
              have q5 : x6_1 < (a0.size : Int) := of_decide_eq_true (by first | (with_reducible assumption) | assumption)
              have hx5 := bt_at a0 x6_1
              replace p5 := eq_true p5
              replace q5 := eq_true q5
              go_wp2_with (first | ((with_reducible refine gate_callee (f := 70) rfl ?_); refine goesL_ (some 12) rfl rfl Tryd.func70 (by kernel_rfl) rfl #[.int .u8 (bt a0 x6_1)] rfl (by (try simp only [List.map_toArray, List.map_cons, List.map_nil]); first | done | rfl | (simp only [List.length_drop, List.length_take]; rfl)) ?_; (with_reducible refine (url_plain.calls (bt a0 x6_1) true _ A6.out).mono ?_); rintro e w' ⟨rfl, ⟨nd, rfl⟩⟩; refine ⟨_, rfl, ?_⟩))
              go_roundg k1
              case measure => have := HK1.out; omega
              case rel => exact ⟨(wrap64 (x6_1 + 1)), (by first | rfl | (simp; done) | (simp [*]; done) | (simp [isEmpty_bne, isEmpty_beq]; done) | (simp [*, isEmpty_bne, isEmpty_beq]; done)), H', ⟨by have := HK1.out; omega⟩, by repeat (first | exact Drawn0.refl _ | apply Drawn0.step)⟩
            · replace c7 := Bool.eq_false_iff.mpr c7
              subst c7
              have H1 : (if (bt a0 x6_1) = 45 then (if x6_1 = 0 then (some false) else (if x6_1 = (wrap64 ((a0.size : Int) - 1)) then (some false) else (url_label.l0 k1 a0 (a0.size : Int) (wrap64 (x6_1 + 1))))) else (some false)) = some r := by rw [if_neg (show ¬ (false = true) by decide)] at H; exact H
              clear H
              have H := H1
              clear H1
              by_cases c9 : (bt a0 x6_1) = 45
              · rw [if_pos c9] at H
                have c9b0 : ((bt a0 x6_1) == 45) = true := beq_iff_eq.mpr c9
                have c9b1 : ((bt a0 x6_1) != 45) = false := bne_eq_false_iff_eq.mpr c9
                clear c9
                by_cases c10 : x6_1 = 0
                · rw [if_pos c10] at H
                  have c10b0 : (x6_1 == 0) = true := beq_iff_eq.mpr c10
                  have c10b1 : (x6_1 != 0) = false := bne_eq_false_iff_eq.mpr c10
                  clear c10
                  obtain rfl := Option.some.inj H
                  have p5 : 0 ≤ (x6_1 : Int) := of_decide_eq_true (by first | (with_reducible assumption) | assumption)
                  have q5 : x6_1 < (a0.size : Int) := of_decide_eq_true (by first | (with_reducible assumption) | assumption)
                  have hx5 := bt_at a0 x6_1
                  replace p5 := eq_true p5
                  replace q5 := eq_true q5
                  go_wp2_with (first | ((with_reducible refine gate_callee (f := 70) rfl ?_); refine goesL_ (some 12) rfl rfl Tryd.func70 (by kernel_rfl) rfl #[.int .u8 (bt a0 x6_1)] rfl (by (try simp only [List.map_toArray, List.map_cons, List.map_nil]); first | done | rfl | (simp only [List.length_drop, List.length_take]; rfl)) ?_; (with_reducible refine (url_plain.calls (bt a0 x6_1) false _ A6.out).mono ?_); rintro e w' ⟨rfl, ⟨nd, rfl⟩⟩; refine ⟨_, rfl, ?_⟩; have p8 : 0 ≤ (x6_1 : Int) := of_decide_eq_true (by first | (with_reducible assumption) | assumption); have q8 : x6_1 < (a0.size : Int) := of_decide_eq_true (by first | (with_reducible assumption) | assumption); have hx8 := bt_at a0 x6_1; replace p8 := eq_true p8; replace q8 := eq_true q8))
                  go_ret
                  exact ⟨by first | rfl | (simp; done) | (simp [*]; done) | (simp [isEmpty_bne, isEmpty_beq]; done) | (simp [*, isEmpty_bne, isEmpty_beq]; done), by repeat (first | exact Drawn0.refl _ | apply Drawn0.step)⟩
                · rw [if_neg c10] at H
                  have c10b0 : (x6_1 == 0) = false := beq_eq_false_iff_ne.mpr c10
                  have c10b1 : (x6_1 != 0) = true := bne_iff_ne.mpr c10
                  by_cases c11 : x6_1 = (wrap64 ((a0.size : Int) - 1))
                  · rw [if_pos c11] at H
                    have c11b0 : (x6_1 == (wrap64 ((a0.size : Int) - 1))) = true := beq_iff_eq.mpr c11
                    have c11b1 : (x6_1 != (wrap64 ((a0.size : Int) - 1))) = false := bne_eq_false_iff_eq.mpr c11
                    clear c11
                    obtain rfl := Option.some.inj H
                    have p5 : 0 ≤ (x6_1 : Int) := of_decide_eq_true (by first | (with_reducible assumption) | assumption)
                    have q5 : x6_1 < (a0.size : Int) := of_decide_eq_true (by first | (with_reducible assumption) | assumption)
                    have hx5 := bt_at a0 x6_1
                    replace p5 := eq_true p5
                    replace q5 := eq_true q5
                    go_wp2_with (first | ((with_reducible refine gate_callee (f := 70) rfl ?_); refine goesL_ (some 12) rfl rfl Tryd.func70 (by kernel_rfl) rfl #[.int .u8 (bt a0 x6_1)] rfl (by (try simp only [List.map_toArray, List.map_cons, List.map_nil]); first | done | rfl | (simp only [List.length_drop, List.length_take]; rfl)) ?_; (with_reducible refine (url_plain.calls (bt a0 x6_1) false _ A6.out).mono ?_); rintro e w' ⟨rfl, ⟨nd, rfl⟩⟩; refine ⟨_, rfl, ?_⟩; have p8 : 0 ≤ (x6_1 : Int) := of_decide_eq_true (by first | (with_reducible assumption) | assumption); have q8 : x6_1 < (a0.size : Int) := of_decide_eq_true (by first | (with_reducible assumption) | assumption); have hx8 := bt_at a0 x6_1; replace p8 := eq_true p8; replace q8 := eq_true q8))
                    go_ret
                    exact ⟨by first | rfl | (simp; done) | (simp [*]; done) | (simp [isEmpty_bne, isEmpty_beq]; done) | (simp [*, isEmpty_bne, isEmpty_beq]; done), by repeat (first | exact Drawn0.refl _ | apply Drawn0.step)⟩
                  · rw [if_neg c11] at H
                    have c11b0 : (x6_1 == (wrap64 ((a0.size : Int) - 1))) = false := beq_eq_false_iff_ne.mpr c11
                    have c11b1 : (x6_1 != (wrap64 ((a0.size : Int) - 1))) = true := bne_iff_ne.mpr c11
                    have H' := Aside0.mk H
                    clear H
                    have p5 : 0 ≤ (x6_1 : Int) := of_decide_eq_true (by first | (with_reducible assumption) | assumption)
                    have q5 : x6_1 < (a0.size : Int) := of_decide_eq_true (by first | (with_reducible assumption) | assumption)
                    have hx5 := bt_at a0 x6_1
                    replace p5 := eq_true p5
                    replace q5 := eq_true q5
                    go_wp2_with (first | ((with_reducible refine gate_callee (f := 70) rfl ?_); refine goesL_ (some 12) rfl rfl Tryd.func70 (by kernel_rfl) rfl #[.int .u8 (bt a0 x6_1)] rfl (by (try simp only [List.map_toArray, List.map_cons, List.map_nil]); first | done | rfl | (simp only [List.length_drop, List.length_take]; rfl)) ?_; (with_reducible refine (url_plain.calls (bt a0 x6_1) false _ A6.out).mono ?_); rintro e w' ⟨rfl, ⟨nd, rfl⟩⟩; refine ⟨_, rfl, ?_⟩; have p8 : 0 ≤ (x6_1 : Int) := of_decide_eq_true (by first | (with_reducible assumption) | assumption); have q8 : x6_1 < (a0.size : Int) := of_decide_eq_true (by first | (with_reducible assumption) | assumption); have hx8 := bt_at a0 x6_1; replace p8 := eq_true p8; replace q8 := eq_true q8))
                    go_roundg k1
                    case measure => have := HK1.out; omega
                    case rel => exact ⟨(wrap64 (x6_1 + 1)), (by first | rfl | (simp; done) | (simp [*]; done) | (simp [isEmpty_bne, isEmpty_beq]; done) | (simp [*, isEmpty_bne, isEmpty_beq]; done)), H', ⟨by have := HK1.out; omega⟩, by repeat (first | exact Drawn0.refl _ | apply Drawn0.step)⟩
              · rw [if_neg c9] at H
                have c9b0 : ((bt a0 x6_1) == 45) = false := beq_eq_false_iff_ne.mpr c9
                have c9b1 : ((bt a0 x6_1) != 45) = true := bne_iff_ne.mpr c9
                obtain rfl := Option.some.inj H
                have p5 : 0 ≤ (x6_1 : Int) := of_decide_eq_true (by first | (with_reducible assumption) | assumption)
                have q5 : x6_1 < (a0.size : Int) := of_decide_eq_true (by first | (with_reducible assumption) | assumption)
                have hx5 := bt_at a0 x6_1
                replace p5 := eq_true p5
                replace q5 := eq_true q5
                go_wp2_with (first | ((with_reducible refine gate_callee (f := 70) rfl ?_); refine goesL_ (some 12) rfl rfl Tryd.func70 (by kernel_rfl) rfl #[.int .u8 (bt a0 x6_1)] rfl (by (try simp only [List.map_toArray, List.map_cons, List.map_nil]); first | done | rfl | (simp only [List.length_drop, List.length_take]; rfl)) ?_; (with_reducible refine (url_plain.calls (bt a0 x6_1) false _ A6.out).mono ?_); rintro e w' ⟨rfl, ⟨nd, rfl⟩⟩; refine ⟨_, rfl, ?_⟩; have p8 : 0 ≤ (x6_1 : Int) := of_decide_eq_true (by first | (with_reducible assumption) | assumption); have q8 : x6_1 < (a0.size : Int) := of_decide_eq_true (by first | (with_reducible assumption) | assumption); have hx8 := bt_at a0 x6_1; replace p8 := eq_true p8; replace q8 := eq_true q8))
                go_ret
                exact ⟨by first | rfl | (simp; done) | (simp [*]; done) | (simp [isEmpty_bne, isEmpty_beq]; done) | (simp [*, isEmpty_bne, isEmpty_beq]; done), by repeat (first | exact Drawn0.refl _ | apply Drawn0.step)⟩
          · rw [if_neg c4] at H
            exact absurd H (by simp)
        · rw [if_neg c3] at H
          exact absurd H (by simp)
      · rw [if_neg c2] at H
        have c2b0 : decide (x6_1 < (a0.size : Int)) = false := decide_eq_false c2
        clear c2
        by_cases c12 : (a0.size : Int) ≥ 1
        · rw [if_pos c12] at H
          have c12b0 : decide (1 ≤ (a0.size : Int)) = true := decide_eq_true c12
          have c12b1 : decide (1 ≤ a0.size) = true := decide_eq_true (by omega)
          clear c12
          obtain rfl := Option.some.inj H
          go_wp2
          go_ret
          exact ⟨by first | rfl | (simp; done) | (simp [*]; done) | (simp [isEmpty_bne, isEmpty_beq]; done) | (simp [*, isEmpty_bne, isEmpty_beq]; done), by repeat (first | exact Drawn0.refl _ | apply Drawn0.step)⟩
        · rw [if_neg c12] at H
          have c12b0 : decide (1 ≤ (a0.size : Int)) = false := decide_eq_false c12
          have c12b1 : decide (1 ≤ a0.size) = false := decide_eq_false (by omega)
          clear c12
          obtain rfl := Option.some.inj H
          go_wp2
          go_ret
          exact ⟨by first | rfl | (simp; done) | (simp [*]; done) | (simp [isEmpty_bne, isEmpty_beq]; done) | (simp [*, isEmpty_bne, isEmpty_beq]; done), by repeat (first | exact Drawn0.refl _ | apply Drawn0.step)⟩

end Go.Proofs.YtfmppmabnpkooaaDoor.BU
end
section
/- url.label in plain words: small letters, digits, and - neither first nor last; from 1 to 20 bytes. -/
set_option linter.unusedSimpArgs false
set_option linter.unusedVariables false
namespace Go.Proofs.YtfmppmabnpkooaaDoor
open Go Go.RowKit Go.Proofs.YtfmppmabnpkooaaDoorW.PrintWords Go.Proofs.YtfmppmabnpkooaaDoorW.PrintLast Go.Proofs.YtfmppmabnpkooaaDoorW.PrintMore

def plainB (c : UInt8) : Bool := (decide (97 ≤ c.toNat) && decide (c.toNat ≤ 122)) || (decide (48 ≤ c.toNat) && decide (c.toNat ≤ 57))
def labelL (l : List UInt8) : Bool := l.all (fun c => plainB c || c == 45) && l.head? != some 45 && l.getLast? != some 45 && decide (1 ≤ l.length) && decide (l.length ≤ 20)

theorem bt_list (s : ByteArray) (i : Nat) (h : i < s.data.toList.length) : bt s (i : Int) = (s.data.toList[i].toNat : Int) := by
  have hs : s.data.toList.length = s.size := (Lib.size_eq s).symm
  rw [← bt_at s i (by simp; omega)]
  rfl

theorem plain_f (c : UInt8) : BU.url_plain.f (c.toNat : Int) = some (plainB c) := by
  unfold BU.url_plain.f plainB
  generalize c.toNat = n
  repeat' split
  all_goals (refine congrArg some ?_; rw [Bool.eq_iff_iff]; simp only [Bool.or_eq_true, Bool.and_eq_true, decide_eq_true_eq, Bool.false_eq_true, eq_self, true_iff, false_iff])
  all_goals omega

/-- A byte of a label, at its place. -/
def okAt (l : List UInt8) (i : Nat) : Bool := match l[i]? with
  | none => true
  | some c => plainB c || (c == 45 && decide (i ≠ 0) && decide (i ≠ l.length - 1))

theorem label_loop (s : ByteArray) (hn : s.size ≤ 140737488355328) (d : Nat) : ∀ (k i : Nat), i ≤ s.size → s.size - i = d → d < k →
    BU.url_label.l0 k s (s.size : Int) (i : Int) = some (((List.range' i d).all (okAt s.data.toList)) && decide (1 ≤ s.size) && decide (s.size ≤ 20)) := by
  have hs : s.data.toList.length = s.size := (Lib.size_eq s).symm
  induction d with
  | zero =>
    intro k i h1 h2 hk
    obtain ⟨k, rfl⟩ : ∃ m, k = m + 1 := ⟨k - 1, by omega⟩
    simp only [BU.url_label.l0]
    rw [if_neg (by omega)]
    by_cases h : (s.size : Int) ≥ 1
    · rw [if_pos h]
      refine congrArg some ?_
      rw [Bool.eq_iff_iff]
      simp only [List.range'_zero, List.all_nil, Bool.true_and, Bool.and_eq_true, decide_eq_true_eq]
      omega
    · rw [if_neg h]
      refine congrArg some ?_
      rw [Bool.eq_iff_iff]
      simp only [List.range'_zero, List.all_nil, Bool.true_and, Bool.and_eq_true, decide_eq_true_eq, Bool.false_eq_true, eq_self, true_iff, false_iff]
      omega
  | succ d ih =>
    intro k i h1 h2 hk
    obtain ⟨k, rfl⟩ : ∃ m, k = m + 1 := ⟨k - 1, by omega⟩
    have hlt : i < s.data.toList.length := by omega
    have hw : wrap64 ((i : Int) + 1) = ((i + 1 : Nat) : Int) := by unfold wrap64; omega
    have hw2 : wrap64 ((s.size : Int) - 1) = (s.size : Int) - 1 := by unfold wrap64; omega
    have hih := ih k (i + 1) (by omega) (by omega) (by omega)
    have hok : okAt s.data.toList i = (plainB s.data.toList[i] || (s.data.toList[i] == 45 && decide (i ≠ 0) && decide (i ≠ s.data.toList.length - 1))) := by
      unfold okAt; rw [List.getElem?_eq_getElem hlt]
    simp only [BU.url_label.l0]
    rw [if_pos (show (i : Int) < (s.size : Int) by omega), if_pos (show (0 : Int) ≤ (i : Int) by omega), if_pos (show (i : Int) < (s.size : Int) by omega), bt_list s i hlt, plain_f]
    simp only [Option.bind_some]
    rw [hw, hw2, hih, List.range'_succ, List.all_cons, hok]
    generalize hc : s.data.toList[i] = c
    cases hp : plainB c with
    | true => simp
    | false =>
      by_cases h45 : (c.toNat : Int) = 45
      · have e : c = 45 := UInt8.toNat_inj.1 (by have : (45 : UInt8).toNat = 45 := rfl; omega)
        rw [if_neg (by simp), if_pos h45]
        subst e
        by_cases hi0 : i = 0
        · rw [if_pos (by omega)]; simp [hi0]
        · rw [if_neg (by omega)]
          by_cases hil : (i : Int) = (s.size : Int) - 1
          · rw [if_pos hil]; have : i = s.data.toList.length - 1 := by omega
            simp [this]
          · rw [if_neg hil]; have : ¬ i = s.data.toList.length - 1 := by omega
            simp only [Bool.false_or, beq_self_eq_true, Bool.true_and]
            rw [decide_eq_true (show i ≠ 0 from hi0), decide_eq_true (show i ≠ s.data.toList.length - 1 from this)]
            rfl
      · have e : (c == 45) = false := by
          rw [beq_eq_false_iff_ne]; intro e; subst e; exact h45 rfl
        rw [if_neg (by simp), if_neg h45]; simp [e]

theorem label_all (l : List UInt8) : ((List.range' 0 l.length).all (okAt l)) = (l.all (fun c => plainB c || c == 45) && ((l.head? != some 45) && (l.getLast? != some 45))) := by
  rw [Bool.eq_iff_iff]
  simp only [List.all_eq_true, List.mem_range'_1, Bool.and_eq_true, bne_iff_ne, ne_eq]
  constructor
  · intro h
    have get : ∀ (i : Nat) (hi : i < l.length), okAt l i = true := fun i hi => h i ⟨Nat.zero_le _, by omega⟩
    have ok : ∀ (i : Nat) (hi : i < l.length), (plainB l[i] || (l[i] == 45 && decide (i ≠ 0) && decide (i ≠ l.length - 1))) = true := fun i hi => by
      have := get i hi; unfold okAt at this; rwa [List.getElem?_eq_getElem hi] at this
    refine ⟨fun c hc => ?_, fun e => ?_, fun e => ?_⟩
    · obtain ⟨i, hi, rfl⟩ := List.getElem_of_mem hc
      have := ok i hi
      cases hp : plainB l[i] <;> simp_all
    · cases l with
      | nil => cases e
      | cons x xs =>
        simp at e; subst e
        have := ok 0 (by simp)
        simp [plainB] at this
    · rw [List.getLast?_eq_getElem?] at e
      obtain ⟨hl, he⟩ := List.getElem?_eq_some_iff.1 e
      have := ok (l.length - 1) hl
      rw [he] at this
      simp [plainB] at this
  · rintro ⟨h, hh, ht⟩ i ⟨_, hi⟩
    have hi : i < l.length := by omega
    unfold okAt; rw [List.getElem?_eq_getElem hi]
    have := h l[i] (List.getElem_mem hi)
    cases hp : plainB l[i] with
    | true => simp [hp]
    | false =>
      rw [hp] at this
      have e : l[i] = 45 := by simpa using this
      have h0 : i ≠ 0 := fun e0 => hh (by subst e0; rw [List.head?_eq_getElem?, List.getElem?_eq_getElem hi, e])
      have h1 : i ≠ l.length - 1 := fun e1 => ht (by rw [List.getLast?_eq_getElem?, ← e1, List.getElem?_eq_getElem hi, e])
      simp [e, h0, h1]

theorem label_f (s : ByteArray) (hn : s.size ≤ 140737488355328) : BU.url_label.f (s.size + 1) s = some (labelL s.data.toList) := by
  have hs : s.data.toList.length = s.size := (Lib.size_eq s).symm
  unfold BU.url_label.f
  have := label_loop s hn s.size (s.size + 1) 0 (Nat.zero_le _) rfl (by omega)
  rw [show ((0 : Nat) : Int) = 0 from rfl] at this
  rw [this, ← hs, label_all]
  unfold labelL
  simp only [Bool.and_assoc]

theorem label_calls (s : ByteArray) (hn : s.size ≤ 140737488355328) (w : World) :
    Calls Tryd.prog 68 #[.string s] w fun e w' => e = .returned (.bool (labelL s.data.toList)) ∧ Drawn0 w w' :=
  BU.url_label.calls _ s _ w (label_f s hn)
end Go.Proofs.YtfmppmabnpkooaaDoor
end
section
/- url.Host in plain words: each piece between the dots is a label; at most 60 bytes. -/
set_option linter.unusedSimpArgs false
set_option linter.unusedVariables false
namespace Go.Proofs.YtfmppmabnpkooaaDoor
open Go Go.RowKit Go.Shelf Go.Proofs Go.Proofs.YtfmppmabnpkooaaDoorW.PrintWords Go.Proofs.YtfmppmabnpkooaaDoorW.PrintLast Go.Proofs.YtfmppmabnpkooaaDoorW.PrintMore
attribute [local go_sem] Oper.semAt_some

def hostL (l : List UInt8) : Bool := (splitL 46 l).all labelL && decide (l.length ≤ 60)

theorem host_pieces (s : ByteArray) : ((pieces 46 s).all fun x => labelL x.data.toList) = (splitL 46 s.data.toList).all labelL := by
  rw [← pieces_split, List.all_map]; rfl

theorem pieceU_size (c : UInt8) : ∀ (k : Nat) (s x : ByteArray), x ∈ cutB c k s → x.size ≤ s.size
  | 0, s, x, h => by simp [cutB] at h; rw [h]; exact Nat.le_refl _
  | k + 1, s, x, h => by
    unfold cutB at h
    split at h
    · simp at h; rw [h]; exact Nat.le_refl _
    · rcases List.mem_cons.1 h with rfl | h
      · simp; omega
      · have := pieceU_size c k _ x h
        simp at this
        omega

set_option maxRecDepth 100000 in
set_option maxHeartbeats 2000000 in
theorem Host_calls (s : ByteArray) (hn : s.size ≤ 140737488355328) (w : World) :
    Calls Tryd.prog 41 #[.string s] w fun e w' => e = .returned (.bool (hostL s.data.toList)) ∧ Below w.heap.size w w' := by
  refine (callsIn_wide (n := 4)).1 ?_
  refine callsIn_of_wp_marks Tryd.func41 rfl trivial ?_ rfl
  simp only [Tryd.ntmps41, List.size_toArray, List.length_cons, List.length_nil, Nat.reduceAdd, Nat.reduceSub, Array.replicate_succ, Array.replicate_zero, List.push_toArray, List.append_toArray, List.nil_append, List.cons_append]
  gi_wp2_with (refine ⟨trivial, ?_⟩; gi_at_call 55; refine (callsIn_wide.2 (SplitSeq_any _ _ _)).mono ?_; rintro e w' ⟨rfl, rfl⟩)
  obtain ⟨W0, hW0⟩ : ∃ W0, (((w.alloc (.cells #[.bool false] 4)).alloc (.cells #[.string s] 9)).alloc (.cells #[.string ⟨#[46]⟩] 9)).alloc (.cells #[.int .i64 0] 3) = W0 := ⟨_, rfl⟩
  have hs0 : W0.heap.size = w.heap.size + 4 := by rw [← hW0]; simp
  have hbx : Boxes (w.heap.size + 1) 46 s W0 := by
    have := boxes_new s 46 (w.alloc (.cells #[.bool false] 4)); rw [World.size_alloc] at this; rw [← hW0]; exact this
  have hbl : Below w.heap.size w W0 := by
    rw [← hW0]; exact ((((Below.refl _ w).alloc (Nat.le_refl _) _).alloc (by simp) _).alloc (by simp; omega) _).alloc (by simp; omega) _
  have hbk : W0.heap[w.heap.size]? = some (.cells #[.bool false] 4 (0, 0)) := by
    rw [← hW0]; exact (((Below.heap_alloc _ _ _ (by simp; omega)).trans (Below.heap_alloc _ _ _ (by simp; omega))).trans (Below.heap_alloc _ _ _ (by simp))).trans (World.alloc_heap_new w _)
  rw [hW0]
  clear hW0
  refine wpIn_rangeBox rfl (by omega) (gf := 99) rfl trivial (enters_of Tryd.func99 (by kernel_rfl) rfl) (bs := w.heap.size + 1) (lo := w.heap.size + 1) (xs0 := pieces 46 s)
    (splitSeq1_box _ (by omega) _ _ _ _ (by omega) (by omega) hbx) (by omega) (by omega) rfl
    (fun pre W => (W.heap[w.heap.size]? = some (.cells #[.bool false] 4 (0, 0)) ∧ Below w.heap.size w W) ∧ ∀ x ∈ pre, labelL x.data.toList = true)
    (fun c pre W => (W.heap[w.heap.size]? = some (.cells #[.bool false] 4 (0, 0)) ∧ Below w.heap.size w W) ∧ c = .ret ∧ ∃ x ∈ pre, labelL x.data.toList = false)
    (((BoxOwn.block (f := fun _ => .cells #[.bool false] 4 (0, 0)) (fun _ => rfl) (by omega)).and (BoxOwn.below (Nat.le_refl _) (by omega) (by omega))).and BoxOwn.pure)
    (fun c => ((BoxOwn.block (f := fun _ => .cells #[.bool false] 4 (0, 0)) (fun _ => rfl) (by omega)).and (BoxOwn.below (Nat.le_refl _) (by omega) (by omega))).and BoxOwn.pure)
    ⟨⟨hbk, hbl⟩, by simp⟩
    (fun x => { tmps := #[.string s, undef, .pointer (some ⟨w.heap.size, 0, none⟩), .string x, .string s, .func (.func 99) #[] #[.pointer (some ⟨w.heap.size + 1 + 1, 0, none⟩), .pointer (some ⟨w.heap.size + 1, 0, none⟩), .pointer (some ⟨w.heap.size + 1 + 2, 0, none⟩)], .string x, undef, undef, undef, undef, undef, undef], defers := [] }) ?assign ?body ?done ?stop
  case assign =>
    intro l x W K hK
    gi_wp2
    exact hK
  case body =>
    rintro l pre x W ⟨⟨hk, hb⟩, hall⟩ hpre hle
    have hx : x.size ≤ 140737488355328 := by
      have : x ∈ pieces 46 s := hpre.subset (by simp)
      have := pieceU_size 46 _ _ _ this
      omega
    have hcell : W.cell? ⟨w.heap.size, 0, none⟩ = some (.bool false) := by simp [World.cell?, hk]
    have hfr : W.frozen? ⟨w.heap.size, 0, none⟩ = false := by simp [World.frozen?, hk]
    cases hL : labelL x.data.toList with
    | true =>
      have HL := Lib.hid hL
      clear hL
      gi_wp2_with (refine ⟨trivial, ?_⟩; gi_at_call 68; refine (CallsIn.inRound l (callsIn_wide.2 (label_calls x hx _))).mono ?_; rintro e w' ⟨rfl, ⟨nd, rfl⟩⟩; rw [HL.out])
      exact ⟨⟨Nat.le_refl _, fun _ _ _ h _ => h⟩, fun _ _ _ => rfl, ⟨hk, pw_below_drewN hb _⟩, fun y hy => by rcases List.mem_append.1 hy with h | h; exact hall y h; (simp at h; rw [h]; exact HL.out)⟩
    | false =>
      have HL := Lib.hid hL
      clear hL
      gi_wp2_with (refine ⟨trivial, ?_⟩; gi_at_call 68; refine (CallsIn.inRound l (callsIn_wide.2 (label_calls x hx _))).mono ?_; rintro e w' ⟨rfl, ⟨nd, rfl⟩⟩; rw [HL.out])
      exact ⟨(keepsFrom_drewN _ W nd).trans ((KeepsOthers.setCell (W.drewN nd) _ _).from _), ⟨one_set (W := W.drewN nd) hk _, (pw_below_drewN hb nd).setCell (p := ⟨w.heap.size, 0, none⟩) (Nat.le_refl _) _⟩, rfl, x, by simp, HL.out⟩
  case done =>
    rintro D W hD ⟨⟨hk, hb⟩, hall⟩ hK
    have hcell := one_cell hk
    have hfr := one_free hk
    have hv : hostL s.data.toList = decide ((s.size : Int) ≤ 60) := by
      have h1 : ((pieces 46 s).all fun x => labelL x.data.toList) = true := List.all_eq_true.2 hall
      rw [host_pieces] at h1
      unfold hostL
      rw [h1, ← Lib.size_eq, Bool.true_and]
      exact decide_eq_decide.2 (by omega)
    have HV := Lib.hid hv
    clear hv
    gi_wp2
    have hk2 := one_set hk (.bool (decide ((s.size : Int) ≤ 60)))
    have hK2 := (KeepsOthers.setCell W ⟨w.heap.size, 0, none⟩ (.bool (decide ((s.size : Int) ≤ 60)))).same D _ hK rfl
    have hb2 := hb.setCell (p := ⟨w.heap.size, 0, none⟩) (Nat.le_refl _) (.bool (decide ((s.size : Int) ≤ 60)))
    refine ⟨by simp, .inl ⟨_, _, rfl, run_takeDeferred hK2, ?_⟩⟩
    have hc5 := cell_kept (one_cell hk2) (grownBy_putObj' _ D (.deferred none)) (fun r e => by cases e; exact ⟨_, hK2, rfl⟩)
    refine ⟨.bool (decide ((s.size : Int) ≤ 60)), ?_, by rw [HV.out], hb2.trans (belowK_b (w := w) (Nat.le_refl _) _ D _ _ (by omega) hK2 rfl rfl)⟩
    simp [results, Tryd.f41, go_sem, hc5]
  case stop =>
    rintro D c pre W hD hpre ⟨⟨hk, hb⟩, rfl, x, hx, hxl⟩ hK
    have hv : hostL s.data.toList = false := by
      have h1 : ((pieces 46 s).all fun x => labelL x.data.toList) = false := by
        rw [← Bool.not_eq_true, List.all_eq_true]
        intro h
        have := h x (hpre.subset hx)
        rw [hxl] at this
        cases this
      rw [host_pieces] at h1
      unfold hostL
      rw [h1, Bool.false_and]
    have HV := Lib.hid hv
    clear hv
    gi_wp2
    refine ⟨by simp, .inl ⟨_, _, rfl, run_takeDeferred hK, ?_⟩⟩
    have hc5 := cell_kept (one_cell hk) (grownBy_putObj' _ D (.deferred none)) (fun r e => by cases e; exact ⟨_, hK, rfl⟩)
    refine ⟨.bool false, ?_, by rw [HV.out], hb.trans (belowK_b (w := w) (Nat.le_refl _) _ D _ _ (by omega) hK rfl rfl)⟩
    simp [results, Tryd.f41, go_sem, hc5]
end Go.Proofs.YtfmppmabnpkooaaDoor
end
section
/- moatlaw0.Low: a number from 0 to below n. -/
set_option linter.unusedSimpArgs false
set_option linter.unusedVariables false
namespace Go.Proofs.YtfmppmabnpkooaaDoor
open Go Go.RowKit Go.Proofs.YtfmppmabnpkooaaDoorW.PrintWords Go.Proofs.YtfmppmabnpkooaaDoorW.PrintLast Go.Proofs.YtfmppmabnpkooaaDoorW.PrintMore

theorem wrap_u64_pos (n : Int) (h : 0 < n) (h2 : n ≤ 9223372036854775807) : IntKind.u64.wrap n = n := by
  simp only [IntKind.wrap, IntKind.signed, IntKind.bits]
  simp
  omega

theorem wrap_u64_nonneg (n : Int) : 0 ≤ IntKind.u64.wrap n ∧ IntKind.u64.wrap n < 18446744073709551616 := by
  simp only [IntKind.wrap, IntKind.signed, IntKind.bits]
  simp
  omega

def lowN (a n : Int) : Nat := (IntKind.u64.wrap a % n).toNat

theorem lowN_lt (a n : Int) (h : 0 < n) : (lowN a n : Int) < n := by
  unfold lowN
  have := Int.emod_lt_of_pos (IntKind.u64.wrap a) h
  have := Int.emod_nonneg (IntKind.u64.wrap a) (Int.ne_of_gt h)
  omega

theorem Low_f (a n : Int) (h : 0 < n) (h2 : n ≤ 9223372036854775807) : BF.moatlaw0_Low.f a n = some (lowN a n : Int) := by
  unfold BF.moatlaw0_Low.f
  have hw := wrap_u64_nonneg a
  rw [wrap_u64_pos n h h2, if_neg (by omega)]
  have h1 := Int.emod_lt_of_pos (IntKind.u64.wrap a) h
  have h3 := Int.emod_nonneg (IntKind.u64.wrap a) (Int.ne_of_gt h)
  congr 1
  rw [Int.tmod_eq_emod_of_nonneg hw.1]
  unfold lowN wrap64
  omega

end Go.Proofs.YtfmppmabnpkooaaDoor
end
section
/- Chapter 7, by the quick engine: what is given of functions; what is known of the world. -/
set_option autoImplicit false
set_option linter.unusedSimpArgs false
set_option linter.unusedVariables false
namespace Go.Proofs.YtfmppmabnpkooaaDoor
open Go Go.RowKit Go.Proofs.YtfmppmabnpkooaaDoor.Abs

/-! ### field.Pairs -/
def pairV (l : List UInt8) : List Value := [.string ⟨⟨lowL (trimL (cutA 61 l))⟩⟩, .string ⟨⟨trimL (cutZ 61 l)⟩⟩]
noncomputable def pairsN : List (List UInt8) → Nat
  | [] => 0
  | x :: r => match trimL x with
    | [] => pairsN r
    | _ :: _ => pairsN r + 1
noncomputable def pairsV : List (List UInt8) → List Value
  | [] => []
  | x :: r => match trimL x with
    | [] => pairsV r
    | y :: z => pairV (y :: z) ++ pairsV r
theorem pairsV_eq : ∀ ps : List ByteArray, (pairsF ps).length = pairsN (ps.map (·.data.toList)) ∧ (pairsF ps).flatMap pairCells = pairsV (ps.map (·.data.toList))
  | [] => ⟨rfl, rfl⟩
  | x :: r => by
    obtain ⟨h1, h2⟩ := pairsV_eq r
    rw [List.map_cons]
    unfold pairsN pairsV
    cases ht : trimL x.data.toList with
    | nil =>
      have e : pairsF (x :: r) = pairsF r := by
        unfold pairsF
        rw [List.filter_cons_of_neg (by simp [ht])]
      rw [e]
      exact ⟨h1, h2⟩
    | cons y z =>
      have e : pairsF (x :: r) = pairB x :: pairsF r := by
        unfold pairsF
        rw [List.filter_cons_of_pos (by simp [ht])]
        rfl
      rw [e]
      refine ⟨by rw [List.length_cons, h1], ?_⟩
      rw [List.flatMap_cons, h2]
      unfold pairB pairCells pairV
      rw [ht]
theorem pairs_flat : ∀ ps : List (List UInt8), (pairsV ps).all flat = true
  | [] => rfl
  | x :: r => by
    unfold pairsV
    split
    · exact pairs_flat r
    · rw [List.all_append, pairs_flat r]; rfl
noncomputable def sPairs : List Value → NTree (Nat × List Value × Option Bool)
  | [.string s] => .br (Nat.ble s.size 1099511627776) (.ret (pairsN (splitL 59 s.data.toList), pairsV (splitL 59 s.data.toList), none)) .none
  | _ => .none
theorem br_run {α : Type} {b : Bool} {x : NTree α} {r : α} (h : (NTree.br b x .none).run = some r) : b = true ∧ x.run = some r := by
  cases b with
  | true => exact ⟨rfl, h⟩
  | false => cases h
theorem sPairs_ok {base : Nat} {w0 : Abs.Start} : NatOk Tryd.prog base w0 20 (natRow 29 sPairs) := by
  refine natRow_ok (size := 2) (by kernel_rfl) fun args n xs t h => ?_
  unfold sPairs at h
  split at h
  · rename_i s
    obtain ⟨h1, h⟩ := br_run h
    cases h
    refine ⟨rfl, pairs_flat _, fun w _ => ?_⟩
    refine (Pairs_calls2 s (Nat.le_of_ble_eq_true h1) w).mono fun e w' hq => ?_
    obtain ⟨v, rfl, hr, hb, hnil⟩ := hq
    obtain ⟨e1, e2⟩ := pairsV_eq (pieces 59 s)
    rw [pieces_split] at e1 e2
    rw [e1, e2] at hr
    exact ⟨v, rfl, hr, hb, fun h0 => hnil (List.eq_nil_of_length_eq_zero (by rw [e1]; exact h0))⟩
  · cases h

/-! ### Texts -/
noncomputable def sLower : List Value → NTree Value
  | [.string s] => .br (Nat.ble s.size 140737488355328) (.ret (.string ⟨⟨lowL s.data.toList⟩⟩)) .none
  | _ => .none
theorem sLower_ok {base : Nat} {w0 : Abs.Start} : NatOk Tryd.prog base w0 26 (natFlat sLower) := by
  refine natFlat_ok fun args v hv => ?_
  unfold sLower at hv
  split at hv
  · rename_i s
    obtain ⟨h1, hv⟩ := br_run hv
    cases hv
    exact ⟨rfl, rfl, fun w _ => Lower_calls s (Nat.le_of_ble_eq_true h1) w⟩
  · cases hv
noncomputable def sHost2 : List Value → NTree Value
  | [.string s] => .br (Nat.ble s.size 140737488355328) (.ret (.bool (hostL s.data.toList))) .none
  | _ => .none
theorem sHost2_ok {base : Nat} {w0 : Abs.Start} : NatOk Tryd.prog base w0 41 (natFlat sHost2) := by
  refine natFlat_ok fun args v hv => ?_
  unfold sHost2 at hv
  split at hv
  · rename_i s
    obtain ⟨h1, hv⟩ := br_run hv
    cases hv
    exact ⟨rfl, rfl, fun w _ => Host_calls s (Nat.le_of_ble_eq_true h1) w⟩
  · cases hv
/-- strings.Split. -/
noncomputable def sSplit : List Value → NTree (Nat × List Value × Option Bool)
  | [.string s, .string sep] => .br (Nat.ble s.size 4294967280) (.br (Nat.ble 1 sep.size) (.ret (Lib.countB s sep + 1, (Lib.splitK sep.data.toList 0 (Lib.countB s sep) s.data.toList).map fun l => .string ⟨⟨l⟩⟩, none)) .none) .none
  | _ => .none
theorem sSplit_ok {w : World} {ι0 : Nat → Option Abs.Loc} {m : Int} (hm : w.cell? ⟨3, 0, none⟩ = some (.int .i64 m)) : NatOk Tryd.prog w.heap.size ⟨w, ι0⟩ 108 (natRow 9 sSplit) := by
  refine natRow_ok (size := 1) (by kernel_rfl) fun args n xs t h => ?_
  unfold sSplit at h
  split at h
  · rename_i s sep
    obtain ⟨h1, h⟩ := br_run h
    obtain ⟨h2, h⟩ := br_run h
    cases h
    have h1 := Nat.le_of_ble_eq_true h1
    have h2 := Nat.le_of_ble_eq_true h2
    refine ⟨rfl, ?_, fun w' hb => ?_⟩
    · rw [List.all_map]
      exact List.all_eq_true.2 fun _ _ => rfl
    · have hlt : 3 < w.heap.size := by
        apply Classical.byContradiction
        intro hn
        have : w.heap[3]? = none := Array.getElem?_eq_none (by omega)
        simp [World.cell?, this] at hm
      have hm' : w'.cell? ⟨3, 0, none⟩ = some (.int .i64 m) := by
        rw [← hm]
        exact hb.cell hlt
      refine (Tryd.strings_Split s sep m w' (by omega) hm' h2).mono fun e w2 hq => ?_
      obtain ⟨rfl, rfl⟩ := hq
      have hall := Lib.splitB_all sep h2 0 (Lib.countB s sep) s rfl
      have hmap : ((Lib.splitB sep 0 (Lib.countB s sep) s).map Value.string) = (Lib.splitK sep.data.toList 0 (Lib.countB s sep) s.data.toList).map fun l => .string ⟨⟨l⟩⟩ := by
        rw [← Lib.splitB_data, List.map_map]
        rfl
      refine ⟨_, rfl, ?_, (Below.refl _ w').alloc (Nat.le_refl _) _, fun h0 => by omega⟩
      have hcn : Lib.countB s sep ≤ s.size := Lib.countB_le sep h2 s.size s (Nat.le_refl _)
      refine ⟨by rw [← hmap, List.length_map, hall]; exact (Nat.mul_one _).symm, .inr ⟨w'.heap.size, Lib.countB s sep + 1, _, rfl, Nat.le_refl _, Abs.alloc_new w' _, Nat.le_refl _, ?_, by simp [hall], ?_⟩⟩
      · unfold maxLen
        omega
      · rw [List.take_of_length_le (by simp [hall]), hmap]
  · cases h

/-! ### strings.Join -/
noncomputable def strsOf : List Value → Option (List (List UInt8))
  | [] => some []
  | .string s :: r => match strsOf r with
    | some l => some (s.data.toList :: l)
    | none => none
  | _ => none
theorem strsOf_get : ∀ {l : List Value} {ss : List (List UInt8)}, strsOf l = some ss → ∀ j : Nat, l[j]? = (ss[j]?).map fun s => Value.string ⟨⟨s⟩⟩
  | [], ss, h, j => by cases h; rfl
  | .string s :: r, ss, h, j => by
    unfold strsOf at h
    split at h
    · rename_i l hl
      cases h
      cases j with
      | zero => rfl
      | succ j => rw [List.getElem?_cons_succ, List.getElem?_cons_succ]; exact strsOf_get hl j
    · cases h
noncomputable def nJoin : Native := fun args h =>
  match args with
  | [.slice (some ⟨id, off, none⟩) len c, .string sep] => match h.t.get id with
    | some (.cells cs e wr) => match strsOf (takeL (dropL cs off) len) with
      | some ss => .br (Nat.beq (lenL ss) len) (.br (Nat.ble 1 len) (.br (Nat.ble len 140737488355328) (.br (Nat.ble (lenL (Lib.join ss sep.data.toList)) 140737488355328) (.ret (.ret (.string ⟨⟨Lib.join ss sep.data.toList⟩⟩), h)) .none) .none) .none) .none
      | none => .none
    | _ => .none
  | _ => .none
theorem nJoin_ok {base : Nat} {w0 : Abs.Start} : NatOk Tryd.prog base w0 63 nJoin := by
  intro args h r h' hg
  unfold nJoin at hg
  split at hg
  rotate_left
  · cases hg
  rename_i id off len c sep
  split at hg
  rotate_left
  · cases hg
  rename_i cs e wr hget
  split at hg
  rotate_left
  · cases hg
  rename_i ss hss
  obtain ⟨h1, hg⟩ := br_run hg
  obtain ⟨h2, hg⟩ := br_run hg
  obtain ⟨h3, hg⟩ := br_run hg
  obtain ⟨h4, hg⟩ := br_run hg
  cases hg
  rw [Nat.beq_eq, lenL_eq] at h1
  have h2 := Nat.le_of_ble_eq_true h2
  have h3 := Nat.le_of_ble_eq_true h3
  have h4 := Nat.le_of_ble_eq_true h4
  rw [lenL_eq] at h4
  refine ⟨Nat.le_refl _, fun ι w args' hI hr hgl hf => ?_⟩
  match args', hr with
  | [x', y'], ⟨hx, hy, _⟩ =>
  cases hy with
  | string _ =>
  cases hx with
  | slice _ _ _ _ cap i ra hi hl hc hx =>
  rcases hx with ⟨rfl, hle⟩ | ⟨h0, _⟩
  rotate_left
  · omega
  obtain ⟨arr, fz, a1, a2, a3, a4, a5, a6⟩ := hI.cells_at hi hget
  have hj := Tryd.strings_Join i.rb (i.δ + off) cap (ss.map fun s => (⟨⟨s⟩⟩ : ByteArray)) sep w (fun j x hx => by
    rw [List.getElem?_map] at hx
    obtain ⟨s, hs, rfl⟩ := Option.map_eq_some_iff.1 hx
    have hg := strsOf_get hss j
    rw [hs, takeL_eq, dropL_eq, List.getElem?_take] at hg
    split at hg
    · rw [List.getElem?_drop] at hg
      obtain ⟨v, hv, hrel⟩ := a5 _ _ hg
      cases hrel
      rw [Abs.cell_of a1, Nat.add_assoc]
      exact hv
    · cases hg) (hI.lt id i hi) (by rw [List.length_map]; omega) (by rw [List.length_map]; omega) (by
      have e : (ss.map fun s => (⟨⟨s⟩⟩ : ByteArray)).map (·.data.toList) = ss := by rw [List.map_map]; exact List.map_id _
      rw [e]; exact h4)
  have e : (ss.map fun s => (⟨⟨s⟩⟩ : ByteArray)).map (·.data.toList) = ss := by rw [List.map_map]; exact List.map_id _
  rw [e, List.length_map, h1] at hj
  refine hj.mono fun e w' hq => ?_
  obtain ⟨rfl, hb⟩ := hq
  exact ⟨ι, Turn.refl _ _ _, hI.still hb, _, rfl, .string _⟩

/-! ### A number that is told by its name -/
noncomputable def sLow (T : List (Nat × Nat × Nat)) : List Value → Option Value
  | [.complex .f32 id 0, .int .i64 (.ofNat n)] => go id n T
  | _ => none
where go (id n : Nat) : List (Nat × Nat × Nat) → Option Value
  | [] => none
  | (i, m, v) :: r => bif Nat.beq i id && Nat.beq m n then some (.int .i64 (.ofNat v)) else go id n r
noncomputable def natLow (T : List (Nat × Nat × Nat)) : Native := fun args h => match sLow T args with
  | some v => .ret (.ret v, h)
  | none => .none
theorem sLow_go {T : List (Nat × Nat × Nat)} {id n : Nat} {v : Value} : sLow.go id n T = some v → ∃ k, (id, n, k) ∈ T ∧ v = .int .i64 (.ofNat k) := by
  induction T with
  | nil => intro h; cases h
  | cons x r ih =>
    obtain ⟨i, m, k⟩ := x
    intro h
    unfold sLow.go at h
    cases hb : Nat.beq i id && Nat.beq m n with
    | true =>
      rw [hb] at h
      cases h
      rw [Bool.and_eq_true, Nat.beq_eq, Nat.beq_eq] at hb
      obtain ⟨rfl, rfl⟩ := hb
      exact ⟨k, List.mem_cons_self, rfl⟩
    | false =>
      rw [hb] at h
      obtain ⟨k, h1, h2⟩ := ih h
      exact ⟨k, List.mem_cons_of_mem _ h1, h2⟩
theorem natLow_ok {base : Nat} {w0 : Abs.Start} {T : List (Nat × Nat × Nat)} (hT : ∀ id n k, (id, n, k) ∈ T → ∃ z, w0.ι id = some (tokLoc z) ∧ 0 < n ∧ n ≤ 9223372036854775807 ∧ lowN z n = k) : NatOk Tryd.prog base w0 30 (natLow T) := by
  intro args h r h' hg
  unfold natLow at hg
  split at hg
  rotate_left
  · cases hg
  rename_i v hv
  cases hg
  refine ⟨Nat.le_refl _, fun ι w args' hI hr hgl hf => ?_⟩
  unfold sLow at hv
  split at hv
  rotate_left
  · cases hv
  rename_i id n
  obtain ⟨k, hmem, rfl⟩ := sLow_go hv
  obtain ⟨z, hz, hn0, hn1, hk⟩ := hT id n k hmem
  match args', hr with
  | [x', y'], ⟨hx, hy, _⟩ =>
  cases hx with
  | tok _ i hi =>
  cases hy with
  | int _ _ =>
  rw [hI.init id _ hz] at hi
  cases hi
  rw [tokLoc_z]
  have hc := BF.moatlaw0_Low.calls z (Int.ofNat n) (lowN z n : Int) w (Low_f z n (by omega) (by omega))
  refine hc.mono fun e w' hq => ?_
  obtain ⟨rfl, n', rfl⟩ := hq
  have hb : Below w.heap.size w (w.drewN n') := Below.trans (Below.refl _ _) ⟨rfl, rfl, rfl, Nat.le_refl _, fun _ _ => rfl⟩
  exact ⟨ι, Turn.refl _ _ _, hI.still hb, _, rfl, by rw [hk]; exact .int .i64 (k : Int)⟩
end Go.Proofs.YtfmppmabnpkooaaDoor
end
section
/- Functions of the program as terms of the quick engine; each is what its code comes to. -/
set_option autoImplicit false
set_option linter.unusedVariables false
set_option maxRecDepth 100000
namespace Go.Proofs.YtfmppmabnpkooaaDoor
open Go Go.RowKit Go.Proofs.YtfmppmabnpkooaaDoor.Abs
noncomputable def F32 (R : Ops) (C : Callees) : FnT 2 := fun v1 v2 v3 kr => R.al 39 [(.string ⟨⟨[]⟩⟩), (.int .i64 (.ofNat 0)), (.string ⟨⟨[]⟩⟩), (.string ⟨⟨[]⟩⟩), (.bool false), (.bool false), (.int .i64 (.ofNat 0))] v3 fun v4 v5 => R.bd 39 [(3, (.string ⟨⟨[47]⟩⟩)), (6, (.int .i64 (.ofNat 2)))] fun v6 => R.al 39 [(.string ⟨⟨[]⟩⟩), (.int .i64 (.ofNat 0)), (.string ⟨⟨[]⟩⟩), (.string ⟨⟨[]⟩⟩), (.bool false), (.bool false), (.int .i64 (.ofNat 0))] v5 fun v7 v8 => R.sn 7 v8 v7 v6 fun v9 va => R.mm va fun vb vc => R.jn (fun Jd : Cur (Hp → Bool) 0 => C 20 1 v2 vc fun ve vf => R.lv ve fun vg => R.jn (fun Jh : Cur (Hp → Bool) 0 => R.lp 2 (fun Ji vj vk vl => R.bi .lss vk vg fun vm => R.jn (fun Jn : Cur (Hp → Bool) 0 => R.br vm (Jn vl) (Jh vl)) fun vo => R.jn (fun Jp : Cur (Hp → Bool) 1 => R.jn (fun Jq : Cur (Hp → Bool) 1 => R.xs 2 ve vk fun vr => R.ln 2 vo vr fun vs => R.al 29 [(.string ⟨⟨[]⟩⟩), (.string ⟨⟨[]⟩⟩)] vo fun vt vu => R.sn 2 vu vt vs fun vv vw => R.jn (fun Jx : Cur (Hp → Bool) 1 => R.xa 2 1 vt (.int .i64 (.ofNat 0)) fun vy => R.l1 vw vy fun vz => R.lk 72 vw vb vz false fun v10 => R.jn (fun J11 : Cur (Hp → Bool) 1 => R.gd false v10 (R.xa 2 1 vt (.int .i64 (.ofNat 0)) fun v12 => R.l1 vw v12 fun v13 => R.xa 2 1 vt (.int .i64 (.ofNat 1)) fun v14 => R.l1 vw v14 fun v15 => C 60 4 v7 v1 v13 v15 vw fun v16 v17 => R.nt v16 fun v18 => J11 v18 v17) (J11 undef vw)) fun v19 v1a => R.pk v10 (.bool true) v19 fun v1b => R.br v1b (R.bd 39 [] fun v1c => R.sn 7 v1a v4 v1c fun v1d v1e => R.ln 7 v1e v4 fun v1f => kr (.tuple ⟨[v1f, (.bool false)]⟩) v1e) (Jx vj v1a)) fun v1g v1h => R.xa 2 1 vt (.int .i64 (.ofNat 0)) fun v1i => R.l1 v1h v1i fun v1j => R.up 72 v1h vb v1j (.bool true) fun v1k v1l => Jq v1g v1l) fun v1m v1n => Jp v1m v1n) fun v1o v1p => R.bi .add vk (.int .i64 (.ofNat 1)) fun v1q => Ji v1o v1q v1p) fuel (.bool false) (.int .i64 (.ofNat 0)) vf) fun v1r => Jd v1r) fun v1s => R.jn (fun J1t : Cur (Hp → Bool) 0 => C 41 1 v1 v1s fun v1u v1v => R.nt v1u fun v1w => R.jn (fun J1x : Cur (Hp → Bool) 1 => R.gd false v1w (R.fa 6 v7 fun v1y => R.l1 v1v v1y fun v1z => R.bi .eql v1z (.int .i64 (.ofNat 1)) fun v20 => J1x v20 v1v) (J1x undef v1v)) fun v21 v22 => R.jn (fun J23 : Cur (Hp → Bool) 1 => R.gd true v21 (R.fa 4 v7 fun v24 => R.l1 v22 v24 fun v25 => R.nt v25 fun v26 => J23 v26 v22) (J23 undef v22)) fun v27 v28 => R.jn (fun J29 : Cur (Hp → Bool) 1 => R.gd false v1w (R.pk v21 v27 (.bool false) fun v2a => J29 v2a v28) (J29 undef v28)) fun v2b v2c => R.pk v1w (.bool true) v2b fun v2d => R.br v2d (R.bd 39 [] fun v2e => R.sn 7 v2c v4 v2e fun v2f v2g => R.ln 7 v2g v4 fun v2h => kr (.tuple ⟨[v2h, (.bool false)]⟩) v2g) (J1t v2c)) fun v2i => R.ln 7 v2i v7 fun v2j => R.sn 7 v2i v4 v2j fun v2k v2l => R.ln 7 v2l v4 fun v2m => kr (.tuple ⟨[v2m, (.bool true)]⟩) v2l
theorem F32_eq (R : Ops) (C : Callees) : F32 R C = fnOf Tryd.prog R C 2 Tryd.f32 (bodyOf Tryd.prog 32) := by kernel_rfl

noncomputable def F34 (R : Ops) (C : Callees) : FnT 1 := fun v1 v2 kr => R.bx 39 v2 v1 fun v3 v4 => R.jn (fun J5 : Cur (Hp → Bool) 1 => R.fa 2 v3 fun v6 => R.l1 v4 v6 fun v7 => R.bs .neq v7 (.string ⟨⟨[]⟩⟩) fun v8 => R.br v8 (R.fa 2 v3 fun v9 => R.l1 v4 v9 fun va => R.bs .add (.string ⟨⟨[68,111,109,97,105,110,61]⟩⟩) va fun vb => R.bl 23 1 [(0, vb)] v4 fun vc vd => R.bt vd .append ⟨[23, 23]⟩ [(.slice none 0 0), vc] fun ve vf => J5 ve vf) (J5 (.slice none 0 0) v4)) fun vg vh => R.fa 3 v3 fun vi => R.l1 vh vi fun vj => R.bs .add (.string ⟨⟨[80,97,116,104,61]⟩⟩) vj fun vk => R.bl 23 1 [(0, vk)] vh fun vl vm => R.bt vm .append ⟨[23, 23]⟩ [vg, vl] fun vn vo => R.jn (fun Jp : Cur (Hp → Bool) 1 => R.fa 4 v3 fun vq => R.l1 vo vq fun vr => R.br vr (R.bl 23 1 [(0, (.string ⟨⟨[83,101,99,117,114,101]⟩⟩))] vo fun vs vt => R.bt vt .append ⟨[23, 23]⟩ [vn, vs] fun vu vv => Jp vu vv) (Jp vn vo)) fun vw vx => R.jn (fun Jy : Cur (Hp → Bool) 1 => R.fa 5 v3 fun vz => R.l1 vx vz fun v10 => R.br v10 (R.bl 23 1 [(0, (.string ⟨⟨[72,116,116,112,79,110,108,121]⟩⟩))] vx fun v11 v12 => R.bt v12 .append ⟨[23, 23]⟩ [vw, v11] fun v13 v14 => Jy v13 v14) (Jy vw vx)) fun v15 v16 => R.jn (fun J17 : Cur (Hp → Bool) 1 => R.fa 6 v3 fun v18 => R.l1 v16 v18 fun v19 => R.bi .geq v19 (.int .i64 (.ofNat 1)) fun v1a => R.jn (fun J1b : Cur (Hp → Bool) 1 => R.gd true v1a (R.fa 6 v3 fun v1c => R.l1 v16 v1c fun v1d => R.bi .leq v1d (.int .i64 (.ofNat 3)) fun v1e => J1b v1e v16) (J1b undef v16)) fun v1f v1g => R.pk v1a v1f (.bool false) fun v1h => R.br v1h (R.fa 6 v3 fun v1i => R.l1 v1g v1i fun v1j => R.gl 0 v1g fun v1k => R.xa 4 1 v1k v1j fun v1l => R.l1 v1g v1l fun v1m => R.bs .add (.string ⟨⟨[83,97,109,101,83,105,116,101,61]⟩⟩) v1m fun v1n => R.bl 23 1 [(0, v1n)] v1g fun v1o v1p => R.bt v1p .append ⟨[23, 23]⟩ [v15, v1o] fun v1q v1r => J17 v1q v1r) (J17 v15 v1g)) fun v1s v1t => C 63 2 v1s (.string ⟨⟨[59,32]⟩⟩) v1t fun v1u v1v => kr v1u v1v
theorem F34_eq (R : Ops) (C : Callees) : F34 R C = fnOf Tryd.prog R C 1 Tryd.f34 (bodyOf Tryd.prog 34) := by kernel_rfl

noncomputable def F60 (R : Ops) (C : Callees) : FnT 4 := fun v1 v2 v3 v4 v5 kr => R.jn (fun J6 : Cur (Hp → Bool) 0 => R.jn (fun J7 : Cur (Hp → Bool) 0 => R.bs .eql v3 (.string ⟨⟨[100,111,109,97,105,110]⟩⟩) fun v8 => R.br v8 (R.nk v1 (R.fa 2 v1 fun v9 => R.s1 v5 v9 v4 fun va vb => C 87 2 v2 v4 vb fun vc vd => R.jn (fun Je : Cur (Hp → Bool) 1 => R.gd true vc (C 88 1 v4 vd fun vf vg => R.lv vf fun vh => R.bi .geq vh (.int .i64 (.ofNat 2)) fun vi => Je vi vg) (Je undef vd)) fun vj vk => R.pk vc vj (.bool false) fun vl => kr vl vk)) (R.bs .eql v3 (.string ⟨⟨[112,97,116,104]⟩⟩) fun vm => R.br vm (R.nk v1 (R.fa 3 v1 fun vn => R.s1 v5 vn v4 fun vo vp => C 43 1 v4 vp fun vq vr => kr vq vr)) (R.bs .eql v3 (.string ⟨⟨[115,101,99,117,114,101]⟩⟩) fun vs => R.br vs (R.nk v1 (R.fa 4 v1 fun vt => R.s1 v5 vt (.bool true) fun vu vv => R.bs .eql v4 (.string ⟨⟨[]⟩⟩) fun vw => kr vw vv)) (R.bs .eql v3 (.string ⟨⟨[104,116,116,112,111,110,108,121]⟩⟩) fun vx => R.br vx (R.nk v1 (R.fa 5 v1 fun vy => R.s1 v5 vy (.bool true) fun vz v10 => R.bs .eql v4 (.string ⟨⟨[]⟩⟩) fun v11 => kr v11 v10)) (R.bs .eql v3 (.string ⟨⟨[115,97,109,101,115,105,116,101]⟩⟩) fun v12 => R.br v12 (R.gl 0 v5 fun v13 => R.ln 4 v5 v13 fun v14 => R.jn (fun J15 : Cur (Hp → Bool) 0 => R.lp 2 (fun J16 v17 v18 v19 => R.bi .lss v18 (.int .i64 (.ofNat 4)) fun v1a => R.jn (fun J1b : Cur (Hp → Bool) 0 => R.br v1a (J1b v19) (J15 v19)) fun v1c => R.jn (fun J1d : Cur (Hp → Bool) 1 => R.jn (fun J1e : Cur (Hp → Bool) 1 => R.a1 4 1 v14 v18 fun v1f => R.bs .neq v1f (.string ⟨⟨[]⟩⟩) fun v1g => R.jn (fun J1h : Cur (Hp → Bool) 1 => R.gd true v1g (C 26 1 v1f v1c fun v1i v1j => C 26 1 v4 v1j fun v1k v1l => R.bs .eql v1i v1k fun v1m => J1h v1m v1l) (J1h undef v1c)) fun v1n v1o => R.pk v1g v1n (.bool false) fun v1p => R.br v1p (R.nk v1 (R.fa 6 v1 fun v1q => R.s1 v1o v1q v18 fun v1r v1s => kr (.bool true) v1s)) (J1e v17 v1o)) fun v1t v1u => J1d v1t v1u) fun v1v v1w => R.bi .add v18 (.int .i64 (.ofNat 1)) fun v1x => J16 v1v v1x v1w) fuel (.bool false) (.int .i64 (.ofNat 0)) v5) fun v1y => J7 v1y) (J7 v5)))))) fun v1z => J6 v1z) fun v20 => kr (.bool false) v20
theorem F60_eq (R : Ops) (C : Callees) : F60 R C = fnOf Tryd.prog R C 4 Tryd.f60 (bodyOf Tryd.prog 60) := by kernel_rfl

noncomputable def F43 (R : Ops) (C : Callees) : FnT 1 := fun v1 v2 kr => R.jn (fun J3 : Cur (Hp → Bool) 0 => R.ls v1 fun v4 => R.jn (fun J5 : Cur (Hp → Bool) 0 => R.lp 2 (fun J6 v7 v8 v9 => R.bi .lss v8 v4 fun va => R.jn (fun Jb : Cur (Hp → Bool) 0 => R.br va (Jb v9) (J5 v9)) fun vc => R.jn (fun Jd : Cur (Hp → Bool) 1 => R.jn (fun Je : Cur (Hp → Bool) 1 => R.ix v1 v8 fun vf => C 70 1 vf vc fun vg vh => R.nt vg fun vi => R.jn (fun Jj : Cur (Hp → Bool) 1 => R.gd true vi (R.ix v1 v8 fun vk => R.bi .neq vk (.int .u8 (.ofNat 47)) fun vl => Jj vl vh) (Jj undef vh)) fun vm vn => R.pk vi vm (.bool false) fun vo => R.jn (fun Jp : Cur (Hp → Bool) 1 => R.gd true vo (R.ix v1 v8 fun vq => R.bi .neq vq (.int .u8 (.ofNat 45)) fun vr => Jp vr vn) (Jp undef vn)) fun vs vt => R.pk vo vs (.bool false) fun vu => R.jn (fun Jv : Cur (Hp → Bool) 1 => R.gd true vu (R.ix v1 v8 fun vw => R.bi .neq vw (.int .u8 (.ofNat 95)) fun vx => Jv vx vt) (Jv undef vt)) fun vy vz => R.pk vu vy (.bool false) fun v10 => R.jn (fun J11 : Cur (Hp → Bool) 1 => R.gd true v10 (R.ix v1 v8 fun v12 => R.bi .neq v12 (.int .u8 (.ofNat 46)) fun v13 => J11 v13 vz) (J11 undef vz)) fun v14 v15 => R.pk v10 v14 (.bool false) fun v16 => R.br v16 (kr (.bool false) v15) (Je v7 v15)) fun v17 v18 => Jd v17 v18) fun v19 v1a => R.bi .add v8 (.int .i64 (.ofNat 1)) fun v1b => J6 v19 v1b v1a) fuel (.bool false) (.int .i64 (.ofNat 0)) v2) fun v1c => J3 v1c) fun v1d => R.bs .neq v1 (.string ⟨⟨[]⟩⟩) fun v1e => R.jn (fun J1f : Cur (Hp → Bool) 1 => R.gd true v1e (R.ix v1 (.int .i64 (.ofNat 0)) fun v1g => R.bi .eql v1g (.int .u8 (.ofNat 47)) fun v1h => J1f v1h v1d) (J1f undef v1d)) fun v1i v1j => R.pk v1e v1i (.bool false) fun v1k => R.jn (fun J1l : Cur (Hp → Bool) 1 => R.gd true v1k (R.ls v1 fun v1m => R.bi .leq v1m (.int .i64 (.ofNat 60)) fun v1n => J1l v1n v1j) (J1l undef v1j)) fun v1o v1p => R.pk v1k v1o (.bool false) fun v1q => kr v1q v1p
theorem F43_eq (R : Ops) (C : Callees) : F43 R C = fnOf Tryd.prog R C 1 Tryd.f43 (bodyOf Tryd.prog 43) := by kernel_rfl

noncomputable def F70 (R : Ops) (C : Callees) : FnT 1 := fun v1 v2 kr => R.bi .geq v1 (.int .u8 (.ofNat 97)) fun v3 => R.jn (fun J4 : Cur (Hp → Bool) 1 => R.gd true v3 (R.bi .leq v1 (.int .u8 (.ofNat 122)) fun v5 => J4 v5 v2) (J4 undef v2)) fun v6 v7 => R.pk v3 v6 (.bool false) fun v8 => R.jn (fun J9 : Cur (Hp → Bool) 1 => R.gd false v8 (R.bi .geq v1 (.int .u8 (.ofNat 48)) fun va => J9 va v7) (J9 undef v7)) fun vb vc => R.jn (fun Jd : Cur (Hp → Bool) 1 => R.gd true vb (R.bi .leq v1 (.int .u8 (.ofNat 57)) fun ve => Jd ve vc) (Jd undef vc)) fun vf vg => R.jn (fun Jh : Cur (Hp → Bool) 1 => R.gd false v8 (R.pk vb vf (.bool false) fun vi => Jh vi vg) (Jh undef vg)) fun vj vk => R.pk v8 (.bool true) vj fun vl => kr vl vk
theorem F70_eq (R : Ops) (C : Callees) : F70 R C = fnOf Tryd.prog R C 1 Tryd.f70 (bodyOf Tryd.prog 70) := by kernel_rfl

noncomputable def F87 (R : Ops) (C : Callees) : FnT 2 := fun v1 v2 v3 kr => C 41 1 v1 v3 fun v4 v5 => R.jn (fun J6 : Cur (Hp → Bool) 1 => R.gd true v4 (C 41 1 v2 v5 fun v7 v8 => J6 v7 v8) (J6 undef v5)) fun v9 va => R.pk v4 v9 (.bool false) fun vb => R.jn (fun Jc : Cur (Hp → Bool) 1 => R.gd true vb (R.bs .eql v1 v2 fun vd => Jc vd va) (Jc undef va)) fun ve vf => R.jn (fun Jg : Cur (Hp → Bool) 1 => R.gd false ve (R.bs .add (.string ⟨⟨[46]⟩⟩) v2 fun vh => C 107 2 v1 vh vf fun vi vj => Jg vi vj) (Jg undef vf)) fun vk vl => R.jn (fun Jm : Cur (Hp → Bool) 1 => R.gd true vb (R.pk ve (.bool true) vk fun vn => Jm vn vl) (Jm undef vl)) fun vo vp => R.pk vb vo (.bool false) fun vq => kr vq vp
theorem F87_eq (R : Ops) (C : Callees) : F87 R C = fnOf Tryd.prog R C 2 Tryd.f87 (bodyOf Tryd.prog 87) := by kernel_rfl

noncomputable def F88 (R : Ops) (C : Callees) : FnT 1 := fun v1 v2 kr => R.jn (fun J3 : Cur (Hp → Bool) 0 => C 41 1 v1 v2 fun v4 v5 => R.nt v4 fun v6 => R.br v6 (kr (.slice none 0 0) v5) (J3 v5)) fun v7 => C 108 2 v1 (.string ⟨⟨[46]⟩⟩) v7 fun v8 v9 => kr v8 v9
theorem F88_eq (R : Ops) (C : Callees) : F88 R C = fnOf Tryd.prog R C 1 Tryd.f88 (bodyOf Tryd.prog 88) := by kernel_rfl

noncomputable def F126 (R : Ops) (C : Callees) : FnT 2 := fun v1 v2 v3 kr => R.ls v1 fun v4 => R.ls v2 fun v5 => R.bi .geq v4 v5 fun v6 => R.jn (fun J7 : Cur (Hp → Bool) 1 => R.gd true v6 (R.ls v1 fun v8 => R.ls v2 fun v9 => R.bi .sub v8 v9 fun va => R.ss v1 (some va) none fun vb => R.bs .eql vb v2 fun vc => J7 vc v3) (J7 undef v3)) fun vd ve => R.pk v6 vd (.bool false) fun vf => kr vf ve
theorem F126_eq (R : Ops) (C : Callees) : F126 R C = fnOf Tryd.prog R C 2 Tryd.f126 (bodyOf Tryd.prog 126) := by kernel_rfl

noncomputable def F107 (R : Ops) (C : Callees) : FnT 2 := fun v1 v2 v3 kr => C 126 2 v1 v2 v3 fun v4 v5 => kr v4 v5
theorem F107_eq (R : Ops) (C : Callees) : F107 R C = fnOf Tryd.prog R C 2 Tryd.f107 (bodyOf Tryd.prog 107) := by kernel_rfl

theorem F32_ent {G : GivenT} (hG : G 32 = none) : EntOk Tryd.prog G 32 ⟨2, F32 (theOps Tryd.prog)⟩ := ent_of_fn F32_eq Tryd.func32 (by kernel_rfl) hG
theorem F34_ent {G : GivenT} (hG : G 34 = none) : EntOk Tryd.prog G 34 ⟨1, F34 (theOps Tryd.prog)⟩ := ent_of_fn F34_eq Tryd.func34 (by kernel_rfl) hG
theorem F60_ent {G : GivenT} (hG : G 60 = none) : EntOk Tryd.prog G 60 ⟨4, F60 (theOps Tryd.prog)⟩ := ent_of_fn F60_eq Tryd.func60 (by kernel_rfl) hG
theorem F43_ent {G : GivenT} (hG : G 43 = none) : EntOk Tryd.prog G 43 ⟨1, F43 (theOps Tryd.prog)⟩ := ent_of_fn F43_eq Tryd.func43 (by kernel_rfl) hG
theorem F70_ent {G : GivenT} (hG : G 70 = none) : EntOk Tryd.prog G 70 ⟨1, F70 (theOps Tryd.prog)⟩ := ent_of_fn F70_eq Tryd.func70 (by kernel_rfl) hG
theorem F87_ent {G : GivenT} (hG : G 87 = none) : EntOk Tryd.prog G 87 ⟨2, F87 (theOps Tryd.prog)⟩ := ent_of_fn F87_eq Tryd.func87 (by kernel_rfl) hG
theorem F88_ent {G : GivenT} (hG : G 88 = none) : EntOk Tryd.prog G 88 ⟨1, F88 (theOps Tryd.prog)⟩ := ent_of_fn F88_eq Tryd.func88 (by kernel_rfl) hG
theorem F126_ent {G : GivenT} (hG : G 126 = none) : EntOk Tryd.prog G 126 ⟨2, F126 (theOps Tryd.prog)⟩ := ent_of_fn F126_eq Tryd.func126 (by kernel_rfl) hG
theorem F107_ent {G : GivenT} (hG : G 107 = none) : EntOk Tryd.prog G 107 ⟨2, F107 (theOps Tryd.prog)⟩ := ent_of_fn F107_eq Tryd.func107 (by kernel_rfl) hG
def fsF : List Nat := [32, 34, 60, 43, 70, 87, 88, 126, 107]
noncomputable def tabF : Tr Ent := (Tr.set (Tr.set (Tr.set (Tr.set (Tr.set (Tr.set (Tr.set (Tr.set (Tr.set .nil 32 (some ⟨2, F32 (theOps Tryd.prog)⟩)) 34 (some ⟨1, F34 (theOps Tryd.prog)⟩)) 60 (some ⟨4, F60 (theOps Tryd.prog)⟩)) 43 (some ⟨1, F43 (theOps Tryd.prog)⟩)) 70 (some ⟨1, F70 (theOps Tryd.prog)⟩)) 87 (some ⟨2, F87 (theOps Tryd.prog)⟩)) 88 (some ⟨1, F88 (theOps Tryd.prog)⟩)) 126 (some ⟨2, F126 (theOps Tryd.prog)⟩)) 107 (some ⟨2, F107 (theOps Tryd.prog)⟩))
theorem tabF_ok {G : GivenT} (h : ∀ g, g ∈ fsF → G g = none) : TabOk Tryd.prog G tabF := (TabOk.add (TabOk.add (TabOk.add (TabOk.add (TabOk.add (TabOk.add (TabOk.add (TabOk.add (TabOk.add .nil (F32_ent (h 32 (by decide)))) (F34_ent (h 34 (by decide)))) (F60_ent (h 60 (by decide)))) (F43_ent (h 43 (by decide)))) (F70_ent (h 70 (by decide)))) (F87_ent (h 87 (by decide)))) (F88_ent (h 88 (by decide)))) (F126_ent (h 126 (by decide)))) (F107_ent (h 107 (by decide))))
end Go.Proofs.YtfmppmabnpkooaaDoor
end
section
/- Functions of the program as terms of the quick engine; each is what its code comes to. -/
set_option autoImplicit false
set_option linter.unusedVariables false
set_option maxRecDepth 100000
namespace Go.Proofs.YtfmppmabnpkooaaDoor
open Go Go.RowKit Go.Proofs.YtfmppmabnpkooaaDoor.Abs
noncomputable def L31 (R : Ops) (C : Callees) : FnT 0 := fun v1 kr => C 32 2 (.string ⟨⟨[97,46,98,46,116,101,115,116]⟩⟩) (.string ⟨⟨[68,111,109,97,105,110,61,98,46,116,101,115,116,59,32,83,101,99,117,114,101,59,32,83,97,109,101,83,105,116,101,61,110,111,110,101]⟩⟩) v1 fun v2 v3 => R.ex 0 v2 fun v4 => R.ex 1 v2 fun v5 => R.al 39 [(.string ⟨⟨[]⟩⟩), (.int .i64 (.ofNat 0)), (.string ⟨⟨[]⟩⟩), (.string ⟨⟨[]⟩⟩), (.bool false), (.bool false), (.int .i64 (.ofNat 0))] v3 fun v6 v7 => R.sn 7 v7 v6 v4 fun v8 v9 => C 32 2 (.string ⟨⟨[97,46,116,101,115,116]⟩⟩) (.string ⟨⟨[83,101,99,117,114,101,61,49]⟩⟩) v9 fun va vb => R.ex 0 va fun vc => R.ex 1 va fun vd => R.al 39 [(.string ⟨⟨[]⟩⟩), (.int .i64 (.ofNat 0)), (.string ⟨⟨[]⟩⟩), (.string ⟨⟨[]⟩⟩), (.bool false), (.bool false), (.int .i64 (.ofNat 0))] vb fun ve vf => R.sn 7 vf ve vc fun vg vh => R.jn (fun Ji : Cur (Hp → Bool) 1 => R.gd true v5 (R.nt vd fun vj => Ji vj vh) (Ji undef vh)) fun vk vl => R.pk v5 vk (.bool false) fun vm => R.jn (fun Jn : Cur (Hp → Bool) 1 => R.gd true vm (R.ln 7 vl v6 fun vo => R.bd 39 [(2, (.string ⟨⟨[98,46,116,101,115,116]⟩⟩)), (3, (.string ⟨⟨[47]⟩⟩)), (4, (.bool true)), (6, (.int .i64 (.ofNat 1)))] fun vp => R.bv .eql 39 (.tmp 19) (.tmp 20) vo vp fun vq => Jn vq vl) (Jn undef vl)) fun vr vs => R.pk vm vr (.bool false) fun vt => R.jn (fun Ju : Cur (Hp → Bool) 1 => R.gd true vt (R.ln 7 vs v6 fun vv => C 34 1 vv vs fun vw vx => R.bs .eql vw (.string ⟨⟨[68,111,109,97,105,110,61,98,46,116,101,115,116,59,32,80,97,116,104,61,47,59,32,83,101,99,117,114,101,59,32,83,97,109,101,83,105,116,101,61,78,111,110,101]⟩⟩) fun vy => Ju vy vx) (Ju undef vs)) fun vz v10 => R.pk vt vz (.bool false) fun v11 => kr v11 v10
theorem L31_eq (R : Ops) (C : Callees) : L31 R C = fnOf Tryd.prog R C 0 Tryd.f31 (bodyOf Tryd.prog 31) := by kernel_rfl

noncomputable def L9 (R : Ops) (C : Callees) : FnT 2 := fun v1 v2 v3 kr => R.bl 23 16 [(0, (.string ⟨⟨[83,101,99,117,114,101,61]⟩⟩)), (1, (.string ⟨⟨[83,101,99,117,114,101,61,49]⟩⟩)), (2, (.string ⟨⟨[72,116,116,112,79,110,108,121,61,120]⟩⟩)), (3, (.string ⟨⟨[83,97,109,101,83,105,116,101]⟩⟩)), (4, (.string ⟨⟨[83,97,109,101,83,105,116,101,61]⟩⟩)), (5, (.string ⟨⟨[83,97,109,101,83,105,116,101,61,110,111]⟩⟩)), (6, (.string ⟨⟨[80,97,116,104]⟩⟩)), (7, (.string ⟨⟨[80,97,116,104,61,120]⟩⟩)), (8, (.string ⟨⟨[80,97,116,104,61,47,65]⟩⟩)), (9, (.string ⟨⟨[68,111,109,97,105,110,61]⟩⟩)), (10, (.string ⟨⟨[68,111,109,97,105,110,61,116,101,115,116]⟩⟩)), (11, (.string ⟨⟨[68,111,109,97,105,110,61,98,46,116,101,115,116]⟩⟩)), (12, (.string ⟨⟨[68,111,109,97,105,110,61,99,46,97,46,116,101,115,116]⟩⟩)), (13, (.string ⟨⟨[77,97,120,45,65,103,101,61,53]⟩⟩)), (14, (.string ⟨⟨[61,120]⟩⟩)), (15, (.string ⟨⟨[83,97,109,101,83,105,116,101,61,78,111,110,101]⟩⟩))] v3 fun v4 v5 => C 30 2 v1 (.int .i64 (.ofNat 16)) v5 fun v6 v7 => R.bl 23 4 [(0, (.string ⟨⟨[]⟩⟩)), (1, (.string ⟨⟨[59,32,72,116,116,112,79,110,108,121]⟩⟩)), (2, (.string ⟨⟨[59,32,80,97,116,104,61,47,120]⟩⟩)), (3, (.string ⟨⟨[59,32,68,111,109,97,105,110,61,97,46,116,101,115,116]⟩⟩))] v7 fun v8 v9 => C 30 2 v2 (.int .i64 (.ofNat 4)) v9 fun va vb => R.xs 1 v8 va fun vc => R.l1 vb vc fun vd => R.jn (fun Je : Cur (Hp → Bool) 1 => R.bi .eql v6 (.int .i64 (.ofNat 2)) fun vf => R.jn (fun Jg : Cur (Hp → Bool) 1 => R.gd true vf (C 30 2 v2 (.int .i64 (.ofNat 4)) vb fun vh vi => R.bi .eql vh (.int .i64 (.ofNat 1)) fun vj => Jg vj vi) (Jg undef vb)) fun vk vl => R.pk vf vk (.bool false) fun vm => R.jn (fun Jn : Cur (Hp → Bool) 1 => R.gd false vm (R.bi .geq v6 (.int .i64 (.ofNat 6)) fun vo => Jn vo vl) (Jn undef vl)) fun vp vq => R.jn (fun Jr : Cur (Hp → Bool) 1 => R.gd true vp (R.bi .leq v6 (.int .i64 (.ofNat 8)) fun vs => Jr vs vq) (Jr undef vq)) fun vt vu => R.jn (fun Jv : Cur (Hp → Bool) 1 => R.gd false vm (R.pk vp vt (.bool false) fun vw => Jv vw vu) (Jv undef vu)) fun vx vy => R.jn (fun Jz : Cur (Hp → Bool) 1 => R.gd true vx (C 30 2 v2 (.int .i64 (.ofNat 4)) vy fun v10 v11 => R.bi .eql v10 (.int .i64 (.ofNat 2)) fun v12 => Jz v12 v11) (Jz undef vy)) fun v13 v14 => R.jn (fun J15 : Cur (Hp → Bool) 1 => R.gd false vm (R.pk vx v13 (.bool false) fun v16 => J15 v16 v14) (J15 undef v14)) fun v17 v18 => R.pk vm (.bool true) v17 fun v19 => R.jn (fun J1a : Cur (Hp → Bool) 1 => R.gd false v19 (R.bi .geq v6 (.int .i64 (.ofNat 9)) fun v1b => J1a v1b v18) (J1a undef v18)) fun v1c v1d => R.jn (fun J1e : Cur (Hp → Bool) 1 => R.gd true v1c (R.bi .leq v6 (.int .i64 (.ofNat 12)) fun v1f => J1e v1f v1d) (J1e undef v1d)) fun v1g v1h => R.jn (fun J1i : Cur (Hp → Bool) 1 => R.gd false v19 (R.pk v1c v1g (.bool false) fun v1j => J1i v1j v1h) (J1i undef v1h)) fun v1k v1l => R.jn (fun J1m : Cur (Hp → Bool) 1 => R.gd true v1k (C 30 2 v2 (.int .i64 (.ofNat 4)) v1l fun v1n v1o => R.bi .eql v1n (.int .i64 (.ofNat 3)) fun v1p => J1m v1p v1o) (J1m undef v1l)) fun v1q v1r => R.jn (fun J1s : Cur (Hp → Bool) 1 => R.gd false v19 (R.pk v1k v1q (.bool false) fun v1t => J1s v1t v1r) (J1s undef v1r)) fun v1u v1v => R.pk v19 (.bool true) v1u fun v1w => R.br v1w (Je (.string ⟨⟨[]⟩⟩) v1v) (Je vd v1v)) fun v1x v1y => R.xs 1 v4 v6 fun v1z => R.l1 v1y v1z fun v20 => R.bs .add v20 v1x fun v21 => C 32 2 (.string ⟨⟨[120,46,97,46,116,101,115,116]⟩⟩) v21 v1y fun v22 v23 => R.ex 0 v22 fun v24 => R.ex 1 v22 fun v25 => R.al 39 [(.string ⟨⟨[]⟩⟩), (.int .i64 (.ofNat 0)), (.string ⟨⟨[]⟩⟩), (.string ⟨⟨[]⟩⟩), (.bool false), (.bool false), (.int .i64 (.ofNat 0))] v23 fun v26 v27 => R.sn 7 v27 v26 v24 fun v28 v29 => C 32 2 (.string ⟨⟨[120,46,97,46,116,101,115,116]⟩⟩) v1x v29 fun v2a v2b => R.ex 0 v2a fun v2c => R.ex 1 v2a fun v2d => R.al 39 [(.string ⟨⟨[]⟩⟩), (.int .i64 (.ofNat 0)), (.string ⟨⟨[]⟩⟩), (.string ⟨⟨[]⟩⟩), (.bool false), (.bool false), (.int .i64 (.ofNat 0))] v2b fun v2e v2f => R.sn 7 v2f v2e v2c fun v2g v2h => R.bi .eql v6 (.int .i64 (.ofNat 0)) fun v2i => R.bv .eql 4 (.tmp 68) (.tmp 70) v25 v2i fun v2j => R.jn (fun J2k : Cur (Hp → Bool) 1 => R.gd true v2j (J2k v25 v2h) (J2k undef v2h)) fun v2l v2m => R.jn (fun J2n : Cur (Hp → Bool) 1 => R.gd false v2l (R.ln 7 v2m v26 fun v2o => R.bd 39 [] fun v2p => R.bv .eql 39 (.tmp 75) (.tmp 76) v2o v2p fun v2q => J2n v2q v2m) (J2n undef v2m)) fun v2r v2s => R.jn (fun J2t : Cur (Hp → Bool) 1 => R.gd true v2j (R.pk v2l (.bool true) v2r fun v2u => J2t v2u v2s) (J2t undef v2s)) fun v2v v2w => R.pk v2j v2v (.bool false) fun v2x => R.jn (fun J2y : Cur (Hp → Bool) 1 => R.gd true v2x (J2y v2d v2w) (J2y undef v2w)) fun v2z v30 => R.pk v2x v2z (.bool false) fun v31 => R.jn (fun J32 : Cur (Hp → Bool) 1 => R.gd true v31 (C 31 0 v30 fun v33 v34 => J32 v33 v34) (J32 undef v30)) fun v35 v36 => R.pk v31 v35 (.bool false) fun v37 => kr v37 v36
theorem L9_eq (R : Ops) (C : Callees) : L9 R C = fnOf Tryd.prog R C 2 Tryd.f9 (bodyOf Tryd.prog 9) := by kernel_rfl

noncomputable def L8 (R : Ops) (C : Callees) : FnT 5 := fun v1 v2 v3 v4 v5 v6 kr => R.bl 23 3 [(0, (.string ⟨⟨[]⟩⟩)), (1, (.string ⟨⟨[98,46,116,101,115,116]⟩⟩)), (2, (.string ⟨⟨[97,46,98,46,116,101,115,116]⟩⟩))] v6 fun v7 v8 => R.bl 23 3 [(0, (.string ⟨⟨[47]⟩⟩)), (1, (.string ⟨⟨[47,120]⟩⟩)), (2, (.string ⟨⟨[47,120,47,121,46,122]⟩⟩))] v8 fun v9 va => R.bv .and 3 (.tmp 34) (.const (.int .i64 (.ofNat 1))) v4 (.int .i64 (.ofNat 1)) fun vb => R.bi .eql vb (.int .i64 (.ofNat 1)) fun vc => R.bv .and 3 (.tmp 42) (.const (.int .i64 (.ofNat 2))) v4 (.int .i64 (.ofNat 2)) fun vd => R.bi .eql vd (.int .i64 (.ofNat 2)) fun ve => R.al 39 [(.string ⟨⟨[]⟩⟩), (.int .i64 (.ofNat 0)), (.string ⟨⟨[]⟩⟩), (.string ⟨⟨[]⟩⟩), (.bool false), (.bool false), (.int .i64 (.ofNat 0))] va fun vf vg => C 30 2 v1 (.int .i64 (.ofNat 3)) vg fun vh vi => R.xs 1 v7 vh fun vj => R.l1 vi vj fun vk => R.bo (R.l1 vi vj fun vl => R.eq vl vk) (C 30 2 v2 (.int .i64 (.ofNat 3)) vi fun vm vn => R.xs 1 v9 vm fun vo => R.l1 vn vo fun vp => R.bo (R.l1 vn vo fun vq => R.eq vq vp) (R.bo (R.l1 vn vj fun vr => R.eq vr vk) (C 30 2 v3 (.int .i64 (.ofNat 3)) vn fun vs vt => R.bi .add (.int .i64 (.ofNat 1)) vs fun vu => R.jn (fun Jv : KVH => R.gd false vc (Jv v3 vt) (Jv undef vt)) fun vw vx => R.bo (R.l1 vx vo fun vy => R.eq vy vp) (R.bo (R.l1 vx vj fun vz => R.eq vz vk) (R.jn (fun J10 : KVH => R.gd false vc (C 30 2 vw (.int .i64 (.ofNat 3)) vx J10) (J10 undef vx)) fun v11 v12 => R.jn (fun J13 : KVH => R.gd false vc (R.bi .eql v11 (.int .i64 (.ofNat 0)) fun v14 => J13 v14 v12) (J13 undef v12)) fun v15 v16 => R.pk vc (.bool true) v15 fun v17 => R.bd 39 [(2, vk), (3, vp), (6, vu), (4, v17), (5, ve)] fun v18 => R.bo (R.l1 v16 vo fun v19 => R.eq v19 vp) (R.bo (R.l1 v16 vj fun v1a => R.eq v1a vk) (R.sn 7 v16 vf v18 fun v1b v1c => R.ln 7 v1c vf fun v1d => C 34 1 v1d v1c fun v1e v1f => C 32 2 (.string ⟨⟨[97,46,98,46,116,101,115,116]⟩⟩) v1e v1f fun v1g v1h => R.ex 0 v1g fun v1i => R.ex 1 v1g fun v1j => R.al 39 [(.string ⟨⟨[]⟩⟩), (.int .i64 (.ofNat 0)), (.string ⟨⟨[]⟩⟩), (.string ⟨⟨[]⟩⟩), (.bool false), (.bool false), (.int .i64 (.ofNat 0))] v1h fun v1k v1l => R.sn 7 v1l v1k v1i fun v1m v1n => R.jn (fun J1o : Cur (Hp → Bool) 1 => R.nt v1j fun v1p => R.jn (fun J1q : Cur (Hp → Bool) 1 => R.gd false v1p (R.ln 7 v1n v1k fun v1r => R.ln 7 v1n vf fun v1s => R.bv .neq 39 (.tmp 55) (.tmp 56) v1r v1s fun v1t => J1q v1t v1n) (J1q undef v1n)) fun v1u v1v => R.pk v1p (.bool true) v1u fun v1w => R.br v1w (kr (.bool false) v1v) (J1o (.bool false) v1v)) fun v1x v1y => R.fa 3 vf fun v1z => R.l1 v1y v1z fun v20 => R.bs .add (.string ⟨⟨[80,65,84,72,32,61,32]⟩⟩) v20 fun v21 => R.bl 23 4 [(0, (.string ⟨⟨[]⟩⟩)), (1, (.string ⟨⟨[78,79,78,69]⟩⟩)), (2, (.string ⟨⟨[108,97,120]⟩⟩)), (3, (.string ⟨⟨[83,116,82,105,67,116]⟩⟩))] v1y fun v22 v23 => R.fa 6 vf fun v24 => R.l1 v23 v24 fun v25 => R.xs 1 v22 v25 fun v26 => R.l1 v23 v26 fun v27 => R.bs .add (.string ⟨⟨[115,97,109,101,115,105,116,101,61]⟩⟩) v27 fun v28 => R.bl 23 2 [(0, v21), (1, v28)] v23 fun v29 v2a => R.bo (R.l1 v2a v26 fun v2b => R.eq v2b v27) (R.bo (R.l1 v2a v24 fun v2c => R.eq v2c v25) (R.bo (R.l1 v2a v1z fun v2d => R.eq v2d v20) (R.jn (fun J2e : Cur (Hp → Bool) 1 => R.fa 2 vf fun v2f => R.l1 v2a v2f fun v2g => R.bs .neq v2g (.string ⟨⟨[]⟩⟩) fun v2h => R.br v2h (R.fa 2 vf fun v2i => R.l1 v2a v2i fun v2j => R.bs .add (.string ⟨⟨[68,111,109,97,105,110,61]⟩⟩) v2j fun v2k => R.bl 23 1 [(0, v2k)] v2a fun v2l v2m => R.bt v2m .append ⟨[23, 23]⟩ [v29, v2l] fun v2n v2o => J2e v2n v2o) (J2e v29 v2a)) fun v2p v2q => R.jn (fun J2r : Cur (Hp → Bool) 1 => R.fa 4 vf fun v2s => R.l1 v2q v2s fun v2t => R.br v2t (R.bl 23 1 [(0, (.string ⟨⟨[83,69,67,85,82,69]⟩⟩))] v2q fun v2u v2v => R.bt v2v .append ⟨[23, 23]⟩ [v2p, v2u] fun v2w v2x => J2r v2w v2x) (J2r v2p v2q)) fun v2y v2z => R.jn (fun J30 : Cur (Hp → Bool) 1 => R.fa 5 vf fun v31 => R.l1 v2z v31 fun v32 => R.br v32 (R.bl 23 1 [(0, (.string ⟨⟨[104,116,116,112,111,110,108,121]⟩⟩))] v2z fun v33 v34 => R.bt v34 .append ⟨[23, 23]⟩ [v2y, v33] fun v35 v36 => J30 v35 v36) (J30 v2y v2z)) fun v37 v38 => R.jn (fun J39 : Cur (Hp → Bool) 1 => R.jn (fun J3a : Cur (Hp → Bool) 1 => R.lp 2 (fun J3b v3c v3d v3e => R.jn (fun J3f : Cur (Hp → Bool) 0 => R.lv v37 fun v3g => R.bi .lss v3d v3g fun v3h => R.br v3h (J3f v3e) (J3a v3c v3e)) fun v3i => R.jn (fun J3j : Cur (Hp → Bool) 1 => R.jn (fun J3k : Cur (Hp → Bool) 1 => R.bs .add v3c (.string ⟨⟨[32,59]⟩⟩) fun v3l => C 30 2 v5 (.int .i64 (.ofNat 5)) v3i fun v3m v3n => R.bi .add v3d v3m fun v3o => R.lv v37 fun v3p => R.bi .rem v3o v3p fun v3q => R.xs 1 v37 v3q fun v3r => R.l1 v3n v3r fun v3s => R.bs .add v3l v3s fun v3t => J3k v3t v3n) fun v3u v3v => J3j v3u v3v) fun v3w v3x => R.bi .add v3d (.int .i64 (.ofNat 1)) fun v3y => J3b v3w v3y v3x) fuel (.string ⟨⟨[]⟩⟩) (.int .i64 (.ofNat 0)) v38) fun v3z v40 => J39 v3z v40) fun v41 v42 => C 32 2 (.string ⟨⟨[97,46,98,46,116,101,115,116]⟩⟩) v41 v42 fun v43 v44 => R.ex 0 v43 fun v45 => R.ex 1 v43 fun v46 => R.al 39 [(.string ⟨⟨[]⟩⟩), (.int .i64 (.ofNat 0)), (.string ⟨⟨[]⟩⟩), (.string ⟨⟨[]⟩⟩), (.bool false), (.bool false), (.int .i64 (.ofNat 0))] v44 fun v47 v48 => R.sn 7 v48 v47 v45 fun v49 v4a => R.bs .add v41 (.string ⟨⟨[59,32,112,97,116,104,61,47]⟩⟩) fun v4b => C 32 2 (.string ⟨⟨[97,46,98,46,116,101,115,116]⟩⟩) v4b v4a fun v4c v4d => R.ex 0 v4c fun v4e => R.ex 1 v4c fun v4f => R.al 39 [(.string ⟨⟨[]⟩⟩), (.int .i64 (.ofNat 0)), (.string ⟨⟨[]⟩⟩), (.string ⟨⟨[]⟩⟩), (.bool false), (.bool false), (.int .i64 (.ofNat 0))] v4d fun v4g v4h => R.sn 7 v4h v4g v4e fun v4i v4j => R.jn (fun J4k : Cur (Hp → Bool) 1 => R.gd true v46 (R.ln 7 v4j v47 fun v4l => R.ln 7 v4j vf fun v4m => R.bv .eql 39 (.tmp 120) (.tmp 121) v4l v4m fun v4n => J4k v4n v4j) (J4k undef v4j)) fun v4o v4p => R.pk v46 v4o (.bool false) fun v4q => R.jn (fun J4r : Cur (Hp → Bool) 1 => R.gd true v4q (R.nt v4f fun v4s => J4r v4s v4p) (J4r undef v4p)) fun v4t v4u => R.pk v4q v4t (.bool false) fun v4v => R.jn (fun J4w : Cur (Hp → Bool) 1 => R.gd true v4v (C 31 0 v4u fun v4x v4y => J4w v4x v4y) (J4w undef v4u)) fun v4z v50 => R.pk v4v v4z (.bool false) fun v51 => kr v51 v50))))))))))
theorem L8_eq (R : Ops) (C : Callees) : L8 R C = fnOf Tryd.prog R C 5 Tryd.f8 (bodyOf Tryd.prog 8) := by kernel_rfl

theorem L31_ent {G : GivenT} (hG : G 31 = none) : EntOk Tryd.prog G 31 ⟨0, L31 (theOps Tryd.prog)⟩ := ent_of_fn L31_eq Tryd.func31 (by kernel_rfl) hG
theorem L9_ent {G : GivenT} (hG : G 9 = none) : EntOk Tryd.prog G 9 ⟨2, L9 (theOps Tryd.prog)⟩ := ent_of_fn L9_eq Tryd.func9 (by kernel_rfl) hG
theorem L8_ent {G : GivenT} (hG : G 8 = none) : EntOk Tryd.prog G 8 ⟨5, L8 (theOps Tryd.prog)⟩ := ent_of_fn L8_eq Tryd.func8 (by kernel_rfl) hG
end Go.Proofs.YtfmppmabnpkooaaDoor
end
section
/- Chapter 7, by the quick engine: its awake; CookieBad. -/
set_option autoImplicit false
set_option linter.unusedSimpArgs false
set_option linter.unusedVariables false
namespace Go.Proofs.YtfmppmabnpkooaaDoor
open Go Go.RowKit Go.Proofs.YtfmppmabnpkooaaDoor.Abs

def samesL : List (List UInt8) := [[], [78, 111, 110, 101], [76, 97, 120], [83, 116, 114, 105, 99, 116]]
noncomputable def samesC : List Value := [.string ⟨⟨[]⟩⟩, .string ⟨⟨[78, 111, 110, 101]⟩⟩, .string ⟨⟨[76, 97, 120]⟩⟩, .string ⟨⟨[83, 116, 114, 105, 99, 116]⟩⟩]
/-- What is known of the world. -/
def CkWorld (w : World) : Prop := VarCells w 0 samesC ∧ ∃ m, w.cell? ⟨3, 0, none⟩ = some (.int .i64 m)
theorem cellW_lt {w : World} {b off : Nat} {v : Value} (h : w.cell? ⟨b, off, none⟩ = some v) : b < w.heap.size := by
  apply Classical.byContradiction
  intro hn
  have : w.heap[b]? = none := Array.getElem?_eq_none (by omega)
  simp [World.cell?, this] at h
theorem CkWorld.below {w w' : World} (h : CkWorld w) (hb : Below w.heap.size w w') : CkWorld w' := by
  obtain ⟨h1, m, h2⟩ := h
  refine ⟨h1.below hb, m, ?_⟩
  rw [← h2]
  exact hb.cell (cellW_lt h2)
noncomputable def sTrue : List Value → NTree Value
  | [] => .ret (.bool true)
  | _ => .none
noncomputable def GK0 : GivenT := gAdd 20 (natRow 29 sPairs) (gAdd 41 (natFlat sHost2) (gAdd 26 (natFlat sLower) (gAdd 108 (natRow 9 sSplit) (gAdd 63 nJoin gNone))))
theorem GK0_ok {w : World} {ι0 : Nat → Option Abs.Loc} (h : CkWorld w) : GivenOk Tryd.prog w.heap.size ⟨w, ι0⟩ GK0 := by
  obtain ⟨_, m, hm⟩ := h
  exact ((((GivenOk.none.add nJoin_ok).add (sSplit_ok hm)).add sLower_ok).add sHost2_ok).add sPairs_ok
noncomputable def addN (n f : Nat) (g : Native) (T : Tr Ent) : Tr Ent := T.set f (some ⟨n, natF n g⟩)
theorem addN_ok {P : Program} {G : GivenT} {T : Tr Ent} {n f : Nat} {g : Native} (hT : TabOk P G T) (hG : G f = some g) : TabOk P G (addN n f g T) := hT.add (natF_ok hG)
noncomputable def tabK0 : Tr Ent := addN 1 20 (natRow 29 sPairs) (addN 1 41 (natFlat sHost2) (addN 1 26 (natFlat sLower) (addN 2 108 (natRow 9 sSplit) (addN 2 63 nJoin (Tr.set tabF 31 (some ⟨0, L31 (theOps Tryd.prog)⟩))))))
noncomputable def hK (e : Nat) : Hp := ⟨Tr.nil.set 0 (some (.cells samesC e false)), 13⟩
noncomputable def kTrue (v : Value) (h : Hp) : Bool :=
  match v with
  | .bool b => b
  | _ => false
theorem kTrue_ok {v : Value} {h : Hp} (hk : kTrue v h = true) : v = .bool true := by
  unfold kTrue at hk
  split at hk
  · rw [hk]
  · cases hk
theorem tabK0_ok : TabOk Tryd.prog GK0 tabK0 :=
  addN_ok (addN_ok (addN_ok (addN_ok (addN_ok (TabOk.add (tabF_ok (by decide +kernel)) (L31_ent rfl)) rfl) rfl) rfl) rfl) rfl
set_option maxRecDepth 1000000 in
theorem awake7_run (e : Nat) : app noF 0 (knot tabK0 60 31 0) [] (hK e) kTrue = true := by kernel_rfl
theorem noNG_prog : noNG Tryd.prog = true := by kernel_rfl
/-- The start: what is known of the world, and numbers by their names. -/
theorem CkWorld.inv {w : World} (h : CkWorld w) (z1 z2 : Int) : ∃ e ι, Inv Tryd.prog w.heap.size ⟨w, ι⟩ ι (hK e).t.get w ∧ (∀ id, 13 ≤ id → ι id = none) ∧ ι 11 = some (tokLoc z1) ∧ ι 12 = some (tokLoc z2) := by
  obtain ⟨h1, m, h2⟩ := h
  obtain ⟨e, i, hI⟩ := Inv.know_var (Inv.start w) (P := Tryd.prog) (of_decide_eq_true (by kernel_rfl)) rfl h1 (by rfl) (fun id j o' h => by cases h)
  have hw : 0 < w.heap.size := Nat.lt_of_le_of_lt (Nat.zero_le _) (cellW_lt h2)
  have hI1 := hI.name (m := 11) rfl rfl (of_decide_eq_true (by kernel_rfl)) hw z1
  have hI2 := hI1.name (m := 12) rfl rfl (of_decide_eq_true (by kernel_rfl)) hw z2
  refine ⟨e, fupd (fupd (fupd (fun _ => none) 0 (some i)) 11 (some (tokLoc z1))) 12 (some (tokLoc z2)), ?_, fun id hid => ?_, rfl, rfl⟩
  · have hf := hI2.fix
    have he : (hK e).t.get = fupd (fun _ => none) 0 (some (.cells samesC e false)) := by
      unfold hK
      rw [Tr.get_set_fun]
      rfl
    rw [he]
    exact hf
  · rw [fupd_ne _ _ _ _ (by omega), fupd_ne _ _ _ _ (by omega), fupd_ne _ _ _ _ (by omega)]
theorem awake7_calls {w : World} (h : CkWorld w) : Calls Tryd.prog 31 #[] w fun e w' => e = .returned (.bool true) ∧ Below w.heap.size w w' := by
  obtain ⟨e, ι, hI, hf, _⟩ := h.inv 0 0
  obtain ⟨v, h', j, hc, hk⟩ := call_of_knot tabK0_ok (awake7_run e)
  obtain rfl := kTrue_ok hk
  exact law_of_call (args' := []) noNG_prog (adraw_ok noNG_prog (by kernel_rfl)) (GK0_ok h) hc hI trivial (of_decide_eq_true (by kernel_rfl)) hf

/-! ### CookieBad -/
theorem sTrue7_ok {w : World} {ι0 : Nat → Option Abs.Loc} (h : CkWorld w) : NatOk Tryd.prog w.heap.size ⟨w, ι0⟩ 31 (natFlat sTrue) := by
  refine natFlat_ok fun args v hv => ?_
  unfold sTrue at hv
  split at hv
  · cases hv
    exact ⟨rfl, rfl, fun w' hb => awake7_calls (h.below hb)⟩
  · cases hv
noncomputable def T9 (i j : Nat) : List (Nat × Nat × Nat) := [(11, 16, i), (12, 4, j)]
noncomputable def G9 (i j : Nat) : GivenT := gAdd 31 (natFlat sTrue) (gAdd 30 (natLow (T9 i j)) GK0)
noncomputable def tab9 (i j : Nat) : Tr Ent := addN 0 31 (natFlat sTrue) (addN 2 30 (natLow (T9 i j)) (addN 1 20 (natRow 29 sPairs) (addN 1 41 (natFlat sHost2) (addN 1 26 (natFlat sLower) (addN 2 108 (natRow 9 sSplit) (addN 2 63 nJoin (Tr.set tabF 9 (some ⟨2, L9 (theOps Tryd.prog)⟩))))))))
theorem tab9_ok (i j : Nat) : TabOk Tryd.prog (G9 i j) (tab9 i j) :=
  addN_ok (addN_ok (addN_ok (addN_ok (addN_ok (addN_ok (addN_ok (TabOk.add (tabF_ok (by intro g hg; simp only [fsF, List.mem_cons, List.not_mem_nil, or_false] at hg; rcases hg with rfl | rfl | rfl | rfl | rfl | rfl | rfl | rfl | rfl <;> rfl)) (L9_ent rfl)) rfl) rfl) rfl) rfl) rfl) rfl) rfl
noncomputable def allB (f : Nat → Bool) (n : Nat) : Bool := Nat.rec (motive := fun _ => Bool) true (fun k ih => Bool.rec (motive := fun _ => Bool) false ih (f k)) n
theorem allB_ok {f : Nat → Bool} : ∀ {n : Nat}, allB f n = true → ∀ i, i < n → f i = true
  | 0, _, i, hi => by omega
  | n + 1, h, i, hi => by
    have h' : Bool.rec (motive := fun _ => Bool) false (allB f n) (f n) = true := h
    cases hf : f n with
    | false => rw [hf] at h'; cases h'
    | true =>
      rw [hf] at h'
      by_cases e : i = n
      · rw [e]; exact hf
      · exact allB_ok (show allB f n = true from h') i (by omega)
set_option maxRecDepth 1000000 in
theorem cookieBad_run (e : Nat) : allB (fun i => allB (fun j => app noF 2 (knot (tab9 i j) 60 9 2) [.complex .f32 11 0, .complex .f32 12 0] (hK e) kTrue) 4) 16 = true := by kernel_rfl
theorem moatlaw7_CookieBad.walk (z1 z2 : Int) (w : World) (h : CkWorld w) : Calls Tryd.prog 9 #[.int .i64 z1, .int .i64 z2] w fun e w' => e = .returned (.bool true) ∧ Below w.heap.size w w' := by
  obtain ⟨e, ι, hI, hf, h11, h12⟩ := h.inv z1 z2
  have hi : lowN z1 16 < 16 := by have := lowN_lt z1 16 (by decide); omega
  have hj : lowN z2 4 < 4 := by have := lowN_lt z2 4 (by decide); omega
  have hr := allB_ok (allB_ok (cookieBad_run e) _ hi) _ hj
  obtain ⟨v, h', j, hc, hk⟩ := call_of_knot (tab9_ok _ _) hr
  obtain rfl := kTrue_ok hk
  refine law_of_call (args' := [.int .i64 z1, .int .i64 z2]) noNG_prog (adraw_ok noNG_prog (by kernel_rfl)) (((GK0_ok h).add (natLow_ok ?_)).add (sTrue7_ok h)) hc hI ?_ (of_decide_eq_true (by kernel_rfl)) hf
  · intro id n k hm
    simp only [T9, List.mem_cons, Prod.mk.injEq, List.not_mem_nil, or_false] at hm
    rcases hm with ⟨rfl, rfl, rfl⟩ | ⟨rfl, rfl, rfl⟩
    · exact ⟨z1, h11, by decide, by decide, rfl⟩
    · exact ⟨z2, h12, by decide, by decide, rfl⟩
  · have t1 := VRel.tok (ι := ι) 11 _ h11
    have t2 := VRel.tok (ι := ι) 12 _ h12
    rw [tokLoc_z] at t1 t2
    exact ⟨t1, t2, trivial⟩
end Go.Proofs.YtfmppmabnpkooaaDoor
end
section
/- Chapter 7, by the quick engine: CookieRounds. -/
set_option autoImplicit false
set_option linter.unusedSimpArgs false
set_option linter.unusedVariables false
namespace Go.Proofs.YtfmppmabnpkooaaDoor
open Go Go.RowKit Go.Proofs.YtfmppmabnpkooaaDoor.Abs

noncomputable def hK4 (e : Nat) : Hp := ⟨Tr.nil.set 0 (some (.cells samesC e false)), 15⟩
theorem CkWorld.inv4 {w : World} (h : CkWorld w) (z1 z2 z3 z4 : Int) : ∃ e ι, Inv Tryd.prog w.heap.size ⟨w, ι⟩ ι (hK4 e).t.get w ∧ (∀ id, 15 ≤ id → ι id = none) ∧ ι 11 = some (tokLoc z1) ∧ ι 12 = some (tokLoc z2) ∧ ι 13 = some (tokLoc z3) ∧ ι 14 = some (tokLoc z4) := by
  obtain ⟨h1, m, h2⟩ := h
  obtain ⟨e, i, hI⟩ := Inv.know_var (Inv.start w) (P := Tryd.prog) (of_decide_eq_true (by kernel_rfl)) rfl h1 (by rfl) (fun id j o' h => by cases h)
  have hw : 0 < w.heap.size := Nat.lt_of_le_of_lt (Nat.zero_le _) (cellW_lt h2)
  have hI1 := hI.name (m := 11) rfl rfl (of_decide_eq_true (by kernel_rfl)) hw z1
  have hI2 := hI1.name (m := 12) rfl rfl (of_decide_eq_true (by kernel_rfl)) hw z2
  have hI3 := hI2.name (m := 13) rfl rfl (of_decide_eq_true (by kernel_rfl)) hw z3
  have hI4 := hI3.name (m := 14) rfl rfl (of_decide_eq_true (by kernel_rfl)) hw z4
  refine ⟨e, fupd (fupd (fupd (fupd (fupd (fun _ => none) 0 (some i)) 11 (some (tokLoc z1))) 12 (some (tokLoc z2))) 13 (some (tokLoc z3))) 14 (some (tokLoc z4)), ?_, fun id hid => ?_, rfl, rfl, rfl, rfl⟩
  · have hf := hI4.fix
    have he : (hK4 e).t.get = fupd (fun _ => none) 0 (some (.cells samesC e false)) := by
      unfold hK4
      rw [Tr.get_set_fun]
      rfl
    rw [he]
    exact hf
  · rw [fupd_ne _ _ _ _ (by omega), fupd_ne _ _ _ _ (by omega), fupd_ne _ _ _ _ (by omega), fupd_ne _ _ _ _ (by omega), fupd_ne _ _ _ _ (by omega)]
noncomputable def T8 (i j k l : Nat) : List (Nat × Nat × Nat) := [(11, 3, i), (12, 3, j), (13, 3, k), (14, 5, l)]
noncomputable def G8 (i j k l : Nat) : GivenT := gAdd 31 (natFlat sTrue) (gAdd 30 (natLow (T8 i j k l)) GK0)
noncomputable def tab8 (i j k l : Nat) : Tr Ent := addN 0 31 (natFlat sTrue) (addN 2 30 (natLow (T8 i j k l)) (addN 1 20 (natRow 29 sPairs) (addN 1 41 (natFlat sHost2) (addN 1 26 (natFlat sLower) (addN 2 108 (natRow 9 sSplit) (addN 2 63 nJoin (Tr.set tabF 8 (some ⟨5, L8 (theOps Tryd.prog)⟩))))))))
theorem tab8_ok (i j k l : Nat) : TabOk Tryd.prog (G8 i j k l) (tab8 i j k l) :=
  addN_ok (addN_ok (addN_ok (addN_ok (addN_ok (addN_ok (addN_ok (TabOk.add (tabF_ok (by intro g hg; simp only [fsF, List.mem_cons, List.not_mem_nil, or_false] at hg; rcases hg with rfl | rfl | rfl | rfl | rfl | rfl | rfl | rfl | rfl <;> rfl)) (L8_ent rfl)) rfl) rfl) rfl) rfl) rfl) rfl) rfl
noncomputable def one8 (e i j k b l : Nat) : Bool := app noF 5 (knot (tab8 i j k l) 60 8 5) [.complex .f32 11 0, .complex .f32 12 0, .complex .f32 13 0, .complex .f64 2 b, .complex .f32 14 0] (hK4 e) kTrue
noncomputable def dom8 (e i : Nat) : Bool := allB (fun j => allB (fun k => allB (fun b => allB (fun l => one8 e i j k b l) 5) 4) 3) 3
end Go.Proofs.YtfmppmabnpkooaaDoor
end
