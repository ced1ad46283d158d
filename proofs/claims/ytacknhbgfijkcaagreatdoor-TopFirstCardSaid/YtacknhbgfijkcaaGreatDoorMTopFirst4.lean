/- TopFirst: part 4 of its proof: BFx1, Lower, Name, Pieces, List, CutEq, Round, Pairs, Pairs2, BUx0, BUx1, BUx2, LabelU, HostU, LowF, CkNat, KnownQ, Reg, Known, KnownA. -/
import Derived.Test.YtacknhbgfijkcaaGreatDoorMTopFirst3
import Derived.Laws.IdiomStrings
import Derived.Deep.LoopGhost
import Derived.WalkKit
import Derived.Below
import Derived.RangeFuncBox
import Derived.Maps.AppendAt
import Derived.RangeFuncCalls
import Derived.OrdersIn
import Derived.Test.YtacknhbgfijkcaaGreatDoorProg
import Derived.Deep.Draws
import Derived.Deep.AppendLies
import Derived.OwnWalk
import Derived.Laws.BytesArg
import Derived.Laws.MakeOwn
import Derived.Laws.OwnMore
import Derived.Deep.OwnRows
import Derived.Tactics
import Derived.Lib.ConvBytes
import Derived.Laws.Slices
import Derived.KernelRfl
import Derived.RowKit3
import Derived.Deep.QuietTactic
import Derived.BigQuiet
import Derived.WideLaws
import Derived.Deep.DeepCutAuto
import Derived.Deep.CutBlock
import Derived.Deep.RegionHeld3
import Derived.Laws.Rows
import Derived.Lib.AppendStr
import Derived.ArgAppend
import Derived.Laws.IdiomCopy
import Derived.OrdersHeld
import Derived.Laws.BitsLemmas
import Derived.RowKit
import Derived.Test.YtacknhbgfijkcaaGreatDoorMTopFirst2
import Derived.Laws.AppendOwn
import Derived.Maps.RangeRun
import Derived.Test.YtacknhbgfijkcaaGreatDoorMTopFirst0
import Derived.Test.YtacknhbgfijkcaaGreatDoorMTopFirst1
set_option linter.unusedSimpArgs false
set_option linter.unusedVariables false
set_option linter.unusedSectionVars false
section
namespace Go.Proofs.YtacknhbgfijkcaaGreatDoor.BF
open Go.RowKit Go.Proofs.YtacknhbgfijkcaaGreatDoorW.PrintWords Go.Proofs.YtacknhbgfijkcaaGreatDoorW.PrintLast Go.Proofs.YtacknhbgfijkcaaGreatDoorW.PrintMore
attribute [local go_sem] max2_int min2_int max_two min_two max_three min_three max_four min_four
def field_Name.l0 : Nat → ByteArray → Int → Int → Option (Bool)
 | 0, _, _, _ => none
 | k + 1, x0, x6, x7 => if x7 < x6 then (if 0 ≤ x7 then (if x7 < (x0.size : Int) then (if (bt x0 x7) < 97 then (if (bt x0 x7) < 65 then (if (bt x0 x7) < 48 then ((strings_IndexByte.f (⟨#[33, 35, 36, 37, 38, 39, 42, 43, 45, 46, 94, 95, 124, 126, 96]⟩ : ByteArray) (bt x0 x7)).bind fun t101 => (if t101 < 0 then (some false) else (field_Name.l0 k x0 x6 (wrap64 (x7 + 1))))) else (if (bt x0 x7) > 57 then ((strings_IndexByte.f (⟨#[33, 35, 36, 37, 38, 39, 42, 43, 45, 46, 94, 95, 124, 126, 96]⟩ : ByteArray) (bt x0 x7)).bind fun t102 => (if t102 < 0 then (some false) else (field_Name.l0 k x0 x6 (wrap64 (x7 + 1))))) else (field_Name.l0 k x0 x6 (wrap64 (x7 + 1))))) else (if (bt x0 x7) > 90 then (if (bt x0 x7) < 48 then ((strings_IndexByte.f (⟨#[33, 35, 36, 37, 38, 39, 42, 43, 45, 46, 94, 95, 124, 126, 96]⟩ : ByteArray) (bt x0 x7)).bind fun t103 => (if t103 < 0 then (some false) else (field_Name.l0 k x0 x6 (wrap64 (x7 + 1))))) else (if (bt x0 x7) > 57 then ((strings_IndexByte.f (⟨#[33, 35, 36, 37, 38, 39, 42, 43, 45, 46, 94, 95, 124, 126, 96]⟩ : ByteArray) (bt x0 x7)).bind fun t104 => (if t104 < 0 then (some false) else (field_Name.l0 k x0 x6 (wrap64 (x7 + 1))))) else (field_Name.l0 k x0 x6 (wrap64 (x7 + 1))))) else (field_Name.l0 k x0 x6 (wrap64 (x7 + 1))))) else (if (bt x0 x7) > 122 then (if (bt x0 x7) < 65 then (if (bt x0 x7) < 48 then ((strings_IndexByte.f (⟨#[33, 35, 36, 37, 38, 39, 42, 43, 45, 46, 94, 95, 124, 126, 96]⟩ : ByteArray) (bt x0 x7)).bind fun t105 => (if t105 < 0 then (some false) else (field_Name.l0 k x0 x6 (wrap64 (x7 + 1))))) else (if (bt x0 x7) > 57 then ((strings_IndexByte.f (⟨#[33, 35, 36, 37, 38, 39, 42, 43, 45, 46, 94, 95, 124, 126, 96]⟩ : ByteArray) (bt x0 x7)).bind fun t106 => (if t106 < 0 then (some false) else (field_Name.l0 k x0 x6 (wrap64 (x7 + 1))))) else (field_Name.l0 k x0 x6 (wrap64 (x7 + 1))))) else (if (bt x0 x7) > 90 then (if (bt x0 x7) < 48 then ((strings_IndexByte.f (⟨#[33, 35, 36, 37, 38, 39, 42, 43, 45, 46, 94, 95, 124, 126, 96]⟩ : ByteArray) (bt x0 x7)).bind fun t107 => (if t107 < 0 then (some false) else (field_Name.l0 k x0 x6 (wrap64 (x7 + 1))))) else (if (bt x0 x7) > 57 then ((strings_IndexByte.f (⟨#[33, 35, 36, 37, 38, 39, 42, 43, 45, 46, 94, 95, 124, 126, 96]⟩ : ByteArray) (bt x0 x7)).bind fun t108 => (if t108 < 0 then (some false) else (field_Name.l0 k x0 x6 (wrap64 (x7 + 1))))) else (field_Name.l0 k x0 x6 (wrap64 (x7 + 1))))) else (field_Name.l0 k x0 x6 (wrap64 (x7 + 1))))) else (field_Name.l0 k x0 x6 (wrap64 (x7 + 1))))) else (none)) else (none)) else (if (x0.size : Int) ≥ 1 then (some (decide ((x0.size : Int) ≤ 40))) else (some false))
def field_Name.f (k : Nat) (a0 : ByteArray) : Option (Bool):=field_Name.l0 k a0 (a0.size : Int) 0
theorem field_Name.mono_l : ∀ k, (∀ y0 y1 y2, LeO (field_Name.l0 k y0 y1 y2) (field_Name.l0 (k + 1) y0 y1 y2))
 | 0 => fun _ _ _ r h => by simp [field_Name.l0] at h
 | k + 1 => by
   have ih0:=field_Name.mono_l k
   · intro y0 y1 y2
     unfold field_Name.l0
     repeat' first
     | (with_reducible exact ih0 _ _ _)
     | (with_reducible exact LeO.refl _)
     | (with_reducible exact LeO.none _)
     | (with_reducible refine LeO.ite ?_ ?_)
     | (with_reducible refine LeO.bind ?_ (fun _ => ?_))
     | exact ih0 _ _ _
     | exact LeO.none _
     | refine LeO.ite ?_ ?_
     | refine LeO.bind ?_ (fun _ => ?_)
theorem field_Name.mono : ∀ a0 k, LeO (field_Name.f k a0) (field_Name.f (k + 1) a0):=by
 intro a0 k
 have ih0:=field_Name.mono_l k
 unfold field_Name.f
 repeat' first
     | (with_reducible exact ih0 _ _ _)
     | (with_reducible exact LeO.refl _)
     | (with_reducible exact LeO.none _)
     | (with_reducible refine LeO.ite ?_ ?_)
     | (with_reducible refine LeO.bind ?_ (fun _ => ?_))
     | exact ih0 _ _ _
     | exact LeO.none _
     | refine LeO.ite ?_ ?_
     | refine LeO.bind ?_ (fun _ => ?_)
set_option maxHeartbeats 2000000 in
set_option maxRecDepth 100000 in
theorem field_Name.calls (k : Nat) (a0 : ByteArray) (r : Bool) (w : World) (h : field_Name.f k a0 = some r) :
   Calls Tryz.prog 137 #[.string a0] w fun e w' => e = .returned (.bool r) ∧ Drawn0 w w':=by
 have H : (field_Name.l0 k a0 (a0.size : Int) 0) = some r:=h
 clear h
 have H':=Aside0.mk H
 clear H
 go_enter Tryz.func137, Tryz.ntmps137
 go_wp2
 go_loopg [7] k (fun kq v7 w' => ∃ (x7_1 : Int), v7 = .int .i64 x7_1 ∧ Aside0 (field_Name.l0 kq a0 (a0.size : Int) x7_1 = some r) ∧ Aside0 (kq ≤ k) ∧ Drawn0 w w')
 case atStart => exact ⟨(0), (by first | rfl | (simp; done) | (simp [*]; done) | (simp [isEmpty_bne, isEmpty_beq]; done) | (simp [*, isEmpty_bne, isEmpty_beq]; done)), H', ⟨Nat.le_refl _⟩, by repeat (first | exact Drawn0.refl _ | apply Drawn0.step)⟩
 case round =>
   clear H'
   try clear c1
   obtain ⟨x7_1, rfl, HA, HK1, ⟨m1, rfl⟩⟩:=hrel
   cases gk with
   | zero => exact absurd HA.out (by simp [field_Name.l0])
   | succ k1 =>
     have H:=HA.out
     clear HA
     simp only [field_Name.l0] at H
     by_cases c2 : x7_1 < (a0.size : Int)
     · rw [if_pos c2] at H
       have c2b0 : decide (x7_1 < (a0.size : Int)) = true:=decide_eq_true c2
       clear c2
       by_cases c3 : 0 ≤ x7_1
       · rw [if_pos c3] at H
         have c3b0 : decide (0 ≤ x7_1) = true:=decide_eq_true c3
         clear c3
         by_cases c4 : x7_1 < (a0.size : Int)
         · rw [if_pos c4] at H
           have c4b0 : decide (x7_1 < (a0.size : Int)) = true:=decide_eq_true c4
           clear c4
           by_cases c6 : (bt a0 x7_1) < 97
           · rw [if_pos c6] at H
             have c6b0 : decide ((bt a0 x7_1) < 97) = true:=decide_eq_true c6
             clear c6
             by_cases c7 : (bt a0 x7_1) < 65
             · rw [if_pos c7] at H
               have c7b0 : decide ((bt a0 x7_1) < 65) = true:=decide_eq_true c7
               clear c7
               by_cases c8 : (bt a0 x7_1) < 48
               · rw [if_pos c8] at H
                 have c8b0 : decide ((bt a0 x7_1) < 48) = true:=decide_eq_true c8
                 clear c8
                 replace H:=Option.bind_eq_some_iff.mp H
                 obtain ⟨t101, A90, H⟩:=H
                 replace H : (if t101 < 0 then (some false) else (field_Name.l0 k1 a0 (a0.size : Int) (wrap64 (x7_1 + 1)))) = some r:=H
                 have A9:=Aside0.mk A90
                 clear A90
                 by_cases c10 : t101 < 0
                 · rw [if_pos c10] at H
                   have c10b0 : decide (t101 < 0) = true:=decide_eq_true c10
                   clear c10
                   obtain rfl:=Option.some.inj H
                   have p5 : 0 ≤ (x7_1 : Int):=of_decide_eq_true (by first | (with_reducible assumption) | assumption)
                   have q5 : x7_1 < (a0.size : Int):=of_decide_eq_true (by first | (with_reducible assumption) | assumption)
                   have hx5:=bt_at a0 x7_1
                   replace p5:=eq_true p5
                   replace q5:=eq_true q5
                   go_wp2_with (first | (go_at_call 208; (with_reducible refine (strings_IndexByte.calls (⟨#[33, 35, 36, 37, 38, 39, 42, 43, 45, 46, 94, 95, 124, 126, 96]⟩ : ByteArray) (bt a0 x7_1) t101 _ A9.out).mono ?_); rintro e w' ⟨rfl, ⟨nd, rfl⟩⟩))
                   go_ret
                   exact ⟨by first | rfl | (simp; done) | (simp [*]; done) | (simp [isEmpty_bne, isEmpty_beq]; done) | (simp [*, isEmpty_bne, isEmpty_beq]; done), by repeat (first | exact Drawn0.refl _ | apply Drawn0.step)⟩
                 · rw [if_neg c10] at H
                   have c10b0 : decide (t101 < 0) = false:=decide_eq_false c10
                   clear c10
                   have H':=Aside0.mk H
                   clear H
                   have p5 : 0 ≤ (x7_1 : Int):=of_decide_eq_true (by first | (with_reducible assumption) | assumption)
                   have q5 : x7_1 < (a0.size : Int):=of_decide_eq_true (by first | (with_reducible assumption) | assumption)
                   have hx5:=bt_at a0 x7_1
                   replace p5:=eq_true p5
                   replace q5:=eq_true q5
                   go_wp2_with (first | (go_at_call 208; (with_reducible refine (strings_IndexByte.calls (⟨#[33, 35, 36, 37, 38, 39, 42, 43, 45, 46, 94, 95, 124, 126, 96]⟩ : ByteArray) (bt a0 x7_1) t101 _ A9.out).mono ?_); rintro e w' ⟨rfl, ⟨nd, rfl⟩⟩))
                   go_roundg k1
                   case measure => have:=HK1.out; omega
                   case rel => exact ⟨(wrap64 (x7_1 + 1)), (by first | rfl | (simp; done) | (simp [*]; done) | (simp [isEmpty_bne, isEmpty_beq]; done) | (simp [*, isEmpty_bne, isEmpty_beq]; done)), H', ⟨by have:=HK1.out; omega⟩, by repeat (first | exact Drawn0.refl _ | apply Drawn0.step)⟩
               · rw [if_neg c8] at H
                 have c8b0 : decide ((bt a0 x7_1) < 48) = false:=decide_eq_false c8
                 clear c8
                 by_cases c11 : (bt a0 x7_1) > 57
                 · rw [if_pos c11] at H
                   have c11b0 : decide (57 < (bt a0 x7_1)) = true:=decide_eq_true c11
                   clear c11
                   replace H:=Option.bind_eq_some_iff.mp H
                   obtain ⟨t102, A120, H⟩:=H
                   replace H : (if t102 < 0 then (some false) else (field_Name.l0 k1 a0 (a0.size : Int) (wrap64 (x7_1 + 1)))) = some r:=H
                   have A12:=Aside0.mk A120
                   clear A120
                   by_cases c13 : t102 < 0
                   · rw [if_pos c13] at H
                     have c13b0 : decide (t102 < 0) = true:=decide_eq_true c13
                     clear c13
                     obtain rfl:=Option.some.inj H
                     have p5 : 0 ≤ (x7_1 : Int):=of_decide_eq_true (by first | (with_reducible assumption) | assumption)
                     have q5 : x7_1 < (a0.size : Int):=of_decide_eq_true (by first | (with_reducible assumption) | assumption)
                     have hx5:=bt_at a0 x7_1
                     replace p5:=eq_true p5
                     replace q5:=eq_true q5
                     go_wp2_with (first | (go_at_call 208; (with_reducible refine (strings_IndexByte.calls (⟨#[33, 35, 36, 37, 38, 39, 42, 43, 45, 46, 94, 95, 124, 126, 96]⟩ : ByteArray) (bt a0 x7_1) t102 _ A12.out).mono ?_); rintro e w' ⟨rfl, ⟨nd, rfl⟩⟩))
                     go_ret
                     exact ⟨by first | rfl | (simp; done) | (simp [*]; done) | (simp [isEmpty_bne, isEmpty_beq]; done) | (simp [*, isEmpty_bne, isEmpty_beq]; done), by repeat (first | exact Drawn0.refl _ | apply Drawn0.step)⟩
                   · rw [if_neg c13] at H
                     have c13b0 : decide (t102 < 0) = false:=decide_eq_false c13
                     clear c13
                     have H':=Aside0.mk H
                     clear H
                     have p5 : 0 ≤ (x7_1 : Int):=of_decide_eq_true (by first | (with_reducible assumption) | assumption)
                     have q5 : x7_1 < (a0.size : Int):=of_decide_eq_true (by first | (with_reducible assumption) | assumption)
                     have hx5:=bt_at a0 x7_1
                     replace p5:=eq_true p5
                     replace q5:=eq_true q5
                     go_wp2_with (first | (go_at_call 208; (with_reducible refine (strings_IndexByte.calls (⟨#[33, 35, 36, 37, 38, 39, 42, 43, 45, 46, 94, 95, 124, 126, 96]⟩ : ByteArray) (bt a0 x7_1) t102 _ A12.out).mono ?_); rintro e w' ⟨rfl, ⟨nd, rfl⟩⟩))
                     go_roundg k1
                     case measure => have:=HK1.out; omega
                     case rel => exact ⟨(wrap64 (x7_1 + 1)), (by first | rfl | (simp; done) | (simp [*]; done) | (simp [isEmpty_bne, isEmpty_beq]; done) | (simp [*, isEmpty_bne, isEmpty_beq]; done)), H', ⟨by have:=HK1.out; omega⟩, by repeat (first | exact Drawn0.refl _ | apply Drawn0.step)⟩
                 · rw [if_neg c11] at H
                   have c11b0 : decide (57 < (bt a0 x7_1)) = false:=decide_eq_false c11
                   clear c11
                   have H':=Aside0.mk H
                   clear H
                   have p5 : 0 ≤ (x7_1 : Int):=of_decide_eq_true (by first | (with_reducible assumption) | assumption)
                   have q5 : x7_1 < (a0.size : Int):=of_decide_eq_true (by first | (with_reducible assumption) | assumption)
                   have hx5:=bt_at a0 x7_1
                   replace p5:=eq_true p5
                   replace q5:=eq_true q5
                   go_wp2
                   go_roundg k1
                   case measure => have:=HK1.out; omega
                   case rel => exact ⟨(wrap64 (x7_1 + 1)), (by first | rfl | (simp; done) | (simp [*]; done) | (simp [isEmpty_bne, isEmpty_beq]; done) | (simp [*, isEmpty_bne, isEmpty_beq]; done)), H', ⟨by have:=HK1.out; omega⟩, by repeat (first | exact Drawn0.refl _ | apply Drawn0.step)⟩
             · rw [if_neg c7] at H
               have c7b0 : decide ((bt a0 x7_1) < 65) = false:=decide_eq_false c7
               clear c7
               by_cases c14 : (bt a0 x7_1) > 90
               · rw [if_pos c14] at H
                 have c14b0 : decide (90 < (bt a0 x7_1)) = true:=decide_eq_true c14
                 clear c14
                 by_cases c15 : (bt a0 x7_1) < 48
                 · rw [if_pos c15] at H
                   have c15b0 : decide ((bt a0 x7_1) < 48) = true:=decide_eq_true c15
                   clear c15
                   replace H:=Option.bind_eq_some_iff.mp H
                   obtain ⟨t103, A160, H⟩:=H
                   replace H : (if t103 < 0 then (some false) else (field_Name.l0 k1 a0 (a0.size : Int) (wrap64 (x7_1 + 1)))) = some r:=H
                   have A16:=Aside0.mk A160
                   clear A160
                   by_cases c17 : t103 < 0
                   · rw [if_pos c17] at H
                     have c17b0 : decide (t103 < 0) = true:=decide_eq_true c17
                     clear c17
                     obtain rfl:=Option.some.inj H
                     have p5 : 0 ≤ (x7_1 : Int):=of_decide_eq_true (by first | (with_reducible assumption) | assumption)
                     have q5 : x7_1 < (a0.size : Int):=of_decide_eq_true (by first | (with_reducible assumption) | assumption)
                     have hx5:=bt_at a0 x7_1
                     replace p5:=eq_true p5
                     replace q5:=eq_true q5
                     go_wp2_with (first | (go_at_call 208; (with_reducible refine (strings_IndexByte.calls (⟨#[33, 35, 36, 37, 38, 39, 42, 43, 45, 46, 94, 95, 124, 126, 96]⟩ : ByteArray) (bt a0 x7_1) t103 _ A16.out).mono ?_); rintro e w' ⟨rfl, ⟨nd, rfl⟩⟩))
                     go_ret
                     exact ⟨by first | rfl | (simp; done) | (simp [*]; done) | (simp [isEmpty_bne, isEmpty_beq]; done) | (simp [*, isEmpty_bne, isEmpty_beq]; done), by repeat (first | exact Drawn0.refl _ | apply Drawn0.step)⟩
                   · rw [if_neg c17] at H
                     have c17b0 : decide (t103 < 0) = false:=decide_eq_false c17
                     clear c17
                     have H':=Aside0.mk H
                     clear H
                     have p5 : 0 ≤ (x7_1 : Int):=of_decide_eq_true (by first | (with_reducible assumption) | assumption)
                     have q5 : x7_1 < (a0.size : Int):=of_decide_eq_true (by first | (with_reducible assumption) | assumption)
                     have hx5:=bt_at a0 x7_1
                     replace p5:=eq_true p5
                     replace q5:=eq_true q5
                     go_wp2_with (first | (go_at_call 208; (with_reducible refine (strings_IndexByte.calls (⟨#[33, 35, 36, 37, 38, 39, 42, 43, 45, 46, 94, 95, 124, 126, 96]⟩ : ByteArray) (bt a0 x7_1) t103 _ A16.out).mono ?_); rintro e w' ⟨rfl, ⟨nd, rfl⟩⟩))
                     go_roundg k1
                     case measure => have:=HK1.out; omega
                     case rel => exact ⟨(wrap64 (x7_1 + 1)), (by first | rfl | (simp; done) | (simp [*]; done) | (simp [isEmpty_bne, isEmpty_beq]; done) | (simp [*, isEmpty_bne, isEmpty_beq]; done)), H', ⟨by have:=HK1.out; omega⟩, by repeat (first | exact Drawn0.refl _ | apply Drawn0.step)⟩
                 · rw [if_neg c15] at H
                   have c15b0 : decide ((bt a0 x7_1) < 48) = false:=decide_eq_false c15
                   clear c15
                   by_cases c18 : (bt a0 x7_1) > 57
                   · rw [if_pos c18] at H
                     have c18b0 : decide (57 < (bt a0 x7_1)) = true:=decide_eq_true c18
                     clear c18
                     replace H:=Option.bind_eq_some_iff.mp H
                     obtain ⟨t104, A190, H⟩:=H
                     replace H : (if t104 < 0 then (some false) else (field_Name.l0 k1 a0 (a0.size : Int) (wrap64 (x7_1 + 1)))) = some r:=H
                     have A19:=Aside0.mk A190
                     clear A190
                     by_cases c20 : t104 < 0
                     · rw [if_pos c20] at H
                       have c20b0 : decide (t104 < 0) = true:=decide_eq_true c20
                       clear c20
                       obtain rfl:=Option.some.inj H
                       have p5 : 0 ≤ (x7_1 : Int):=of_decide_eq_true (by first | (with_reducible assumption) | assumption)
                       have q5 : x7_1 < (a0.size : Int):=of_decide_eq_true (by first | (with_reducible assumption) | assumption)
                       have hx5:=bt_at a0 x7_1
                       replace p5:=eq_true p5
                       replace q5:=eq_true q5
                       go_wp2_with (first | (go_at_call 208; (with_reducible refine (strings_IndexByte.calls (⟨#[33, 35, 36, 37, 38, 39, 42, 43, 45, 46, 94, 95, 124, 126, 96]⟩ : ByteArray) (bt a0 x7_1) t104 _ A19.out).mono ?_); rintro e w' ⟨rfl, ⟨nd, rfl⟩⟩))
                       go_ret
                       exact ⟨by first | rfl | (simp; done) | (simp [*]; done) | (simp [isEmpty_bne, isEmpty_beq]; done) | (simp [*, isEmpty_bne, isEmpty_beq]; done), by repeat (first | exact Drawn0.refl _ | apply Drawn0.step)⟩
                     · rw [if_neg c20] at H
                       have c20b0 : decide (t104 < 0) = false:=decide_eq_false c20
                       clear c20
                       have H':=Aside0.mk H
                       clear H
                       have p5 : 0 ≤ (x7_1 : Int):=of_decide_eq_true (by first | (with_reducible assumption) | assumption)
                       have q5 : x7_1 < (a0.size : Int):=of_decide_eq_true (by first | (with_reducible assumption) | assumption)
                       have hx5:=bt_at a0 x7_1
                       replace p5:=eq_true p5
                       replace q5:=eq_true q5
                       go_wp2_with (first | (go_at_call 208; (with_reducible refine (strings_IndexByte.calls (⟨#[33, 35, 36, 37, 38, 39, 42, 43, 45, 46, 94, 95, 124, 126, 96]⟩ : ByteArray) (bt a0 x7_1) t104 _ A19.out).mono ?_); rintro e w' ⟨rfl, ⟨nd, rfl⟩⟩))
                       go_roundg k1
                       case measure => have:=HK1.out; omega
                       case rel => exact ⟨(wrap64 (x7_1 + 1)), (by first | rfl | (simp; done) | (simp [*]; done) | (simp [isEmpty_bne, isEmpty_beq]; done) | (simp [*, isEmpty_bne, isEmpty_beq]; done)), H', ⟨by have:=HK1.out; omega⟩, by repeat (first | exact Drawn0.refl _ | apply Drawn0.step)⟩
                   · rw [if_neg c18] at H
                     have c18b0 : decide (57 < (bt a0 x7_1)) = false:=decide_eq_false c18
                     clear c18
                     have H':=Aside0.mk H
                     clear H
                     have p5 : 0 ≤ (x7_1 : Int):=of_decide_eq_true (by first | (with_reducible assumption) | assumption)
                     have q5 : x7_1 < (a0.size : Int):=of_decide_eq_true (by first | (with_reducible assumption) | assumption)
                     have hx5:=bt_at a0 x7_1
                     replace p5:=eq_true p5
                     replace q5:=eq_true q5
                     go_wp2
                     go_roundg k1
                     case measure => have:=HK1.out; omega
                     case rel => exact ⟨(wrap64 (x7_1 + 1)), (by first | rfl | (simp; done) | (simp [*]; done) | (simp [isEmpty_bne, isEmpty_beq]; done) | (simp [*, isEmpty_bne, isEmpty_beq]; done)), H', ⟨by have:=HK1.out; omega⟩, by repeat (first | exact Drawn0.refl _ | apply Drawn0.step)⟩
               · rw [if_neg c14] at H
                 have c14b0 : decide (90 < (bt a0 x7_1)) = false:=decide_eq_false c14
                 clear c14
                 have H':=Aside0.mk H
                 clear H
                 have p5 : 0 ≤ (x7_1 : Int):=of_decide_eq_true (by first | (with_reducible assumption) | assumption)
                 have q5 : x7_1 < (a0.size : Int):=of_decide_eq_true (by first | (with_reducible assumption) | assumption)
                 have hx5:=bt_at a0 x7_1
                 replace p5:=eq_true p5
                 replace q5:=eq_true q5
                 go_wp2
                 go_roundg k1
                 case measure => have:=HK1.out; omega
                 case rel => exact ⟨(wrap64 (x7_1 + 1)), (by first | rfl | (simp; done) | (simp [*]; done) | (simp [isEmpty_bne, isEmpty_beq]; done) | (simp [*, isEmpty_bne, isEmpty_beq]; done)), H', ⟨by have:=HK1.out; omega⟩, by repeat (first | exact Drawn0.refl _ | apply Drawn0.step)⟩
           · rw [if_neg c6] at H
             have c6b0 : decide ((bt a0 x7_1) < 97) = false:=decide_eq_false c6
             clear c6
             by_cases c21 : (bt a0 x7_1) > 122
             · rw [if_pos c21] at H
               have c21b0 : decide (122 < (bt a0 x7_1)) = true:=decide_eq_true c21
               clear c21
               by_cases c22 : (bt a0 x7_1) < 65
               · rw [if_pos c22] at H
                 have c22b0 : decide ((bt a0 x7_1) < 65) = true:=decide_eq_true c22
                 clear c22
                 by_cases c23 : (bt a0 x7_1) < 48
                 · rw [if_pos c23] at H
                   have c23b0 : decide ((bt a0 x7_1) < 48) = true:=decide_eq_true c23
                   clear c23
                   replace H:=Option.bind_eq_some_iff.mp H
                   obtain ⟨t105, A240, H⟩:=H
                   replace H : (if t105 < 0 then (some false) else (field_Name.l0 k1 a0 (a0.size : Int) (wrap64 (x7_1 + 1)))) = some r:=H
                   have A24:=Aside0.mk A240
                   clear A240
                   by_cases c25 : t105 < 0
                   · rw [if_pos c25] at H
                     have c25b0 : decide (t105 < 0) = true:=decide_eq_true c25
                     clear c25
                     obtain rfl:=Option.some.inj H
                     have p5 : 0 ≤ (x7_1 : Int):=of_decide_eq_true (by first | (with_reducible assumption) | assumption)
                     have q5 : x7_1 < (a0.size : Int):=of_decide_eq_true (by first | (with_reducible assumption) | assumption)
                     have hx5:=bt_at a0 x7_1
                     replace p5:=eq_true p5
                     replace q5:=eq_true q5
                     go_wp2_with (first | (go_at_call 208; (with_reducible refine (strings_IndexByte.calls (⟨#[33, 35, 36, 37, 38, 39, 42, 43, 45, 46, 94, 95, 124, 126, 96]⟩ : ByteArray) (bt a0 x7_1) t105 _ A24.out).mono ?_); rintro e w' ⟨rfl, ⟨nd, rfl⟩⟩))
                     go_ret
                     exact ⟨by first | rfl | (simp; done) | (simp [*]; done) | (simp [isEmpty_bne, isEmpty_beq]; done) | (simp [*, isEmpty_bne, isEmpty_beq]; done), by repeat (first | exact Drawn0.refl _ | apply Drawn0.step)⟩
                   · rw [if_neg c25] at H
                     have c25b0 : decide (t105 < 0) = false:=decide_eq_false c25
                     clear c25
                     have H':=Aside0.mk H
                     clear H
                     have p5 : 0 ≤ (x7_1 : Int):=of_decide_eq_true (by first | (with_reducible assumption) | assumption)
                     have q5 : x7_1 < (a0.size : Int):=of_decide_eq_true (by first | (with_reducible assumption) | assumption)
                     have hx5:=bt_at a0 x7_1
                     replace p5:=eq_true p5
                     replace q5:=eq_true q5
                     go_wp2_with (first | (go_at_call 208; (with_reducible refine (strings_IndexByte.calls (⟨#[33, 35, 36, 37, 38, 39, 42, 43, 45, 46, 94, 95, 124, 126, 96]⟩ : ByteArray) (bt a0 x7_1) t105 _ A24.out).mono ?_); rintro e w' ⟨rfl, ⟨nd, rfl⟩⟩))
                     go_roundg k1
                     case measure => have:=HK1.out; omega
                     case rel => exact ⟨(wrap64 (x7_1 + 1)), (by first | rfl | (simp; done) | (simp [*]; done) | (simp [isEmpty_bne, isEmpty_beq]; done) | (simp [*, isEmpty_bne, isEmpty_beq]; done)), H', ⟨by have:=HK1.out; omega⟩, by repeat (first | exact Drawn0.refl _ | apply Drawn0.step)⟩
                 · rw [if_neg c23] at H
                   have c23b0 : decide ((bt a0 x7_1) < 48) = false:=decide_eq_false c23
                   clear c23
                   by_cases c26 : (bt a0 x7_1) > 57
                   · rw [if_pos c26] at H
                     have c26b0 : decide (57 < (bt a0 x7_1)) = true:=decide_eq_true c26
                     clear c26
                     replace H:=Option.bind_eq_some_iff.mp H
                     obtain ⟨t106, A270, H⟩:=H
                     replace H : (if t106 < 0 then (some false) else (field_Name.l0 k1 a0 (a0.size : Int) (wrap64 (x7_1 + 1)))) = some r:=H
                     have A27:=Aside0.mk A270
                     clear A270
                     by_cases c28 : t106 < 0
                     · rw [if_pos c28] at H
                       have c28b0 : decide (t106 < 0) = true:=decide_eq_true c28
                       clear c28
                       obtain rfl:=Option.some.inj H
                       have p5 : 0 ≤ (x7_1 : Int):=of_decide_eq_true (by first | (with_reducible assumption) | assumption)
                       have q5 : x7_1 < (a0.size : Int):=of_decide_eq_true (by first | (with_reducible assumption) | assumption)
                       have hx5:=bt_at a0 x7_1
                       replace p5:=eq_true p5
                       replace q5:=eq_true q5
                       go_wp2_with (first | (go_at_call 208; (with_reducible refine (strings_IndexByte.calls (⟨#[33, 35, 36, 37, 38, 39, 42, 43, 45, 46, 94, 95, 124, 126, 96]⟩ : ByteArray) (bt a0 x7_1) t106 _ A27.out).mono ?_); rintro e w' ⟨rfl, ⟨nd, rfl⟩⟩))
                       go_ret
                       exact ⟨by first | rfl | (simp; done) | (simp [*]; done) | (simp [isEmpty_bne, isEmpty_beq]; done) | (simp [*, isEmpty_bne, isEmpty_beq]; done), by repeat (first | exact Drawn0.refl _ | apply Drawn0.step)⟩
                     · rw [if_neg c28] at H
                       have c28b0 : decide (t106 < 0) = false:=decide_eq_false c28
                       clear c28
                       have H':=Aside0.mk H
                       clear H
                       have p5 : 0 ≤ (x7_1 : Int):=of_decide_eq_true (by first | (with_reducible assumption) | assumption)
                       have q5 : x7_1 < (a0.size : Int):=of_decide_eq_true (by first | (with_reducible assumption) | assumption)
                       have hx5:=bt_at a0 x7_1
                       replace p5:=eq_true p5
                       replace q5:=eq_true q5
                       go_wp2_with (first | (go_at_call 208; (with_reducible refine (strings_IndexByte.calls (⟨#[33, 35, 36, 37, 38, 39, 42, 43, 45, 46, 94, 95, 124, 126, 96]⟩ : ByteArray) (bt a0 x7_1) t106 _ A27.out).mono ?_); rintro e w' ⟨rfl, ⟨nd, rfl⟩⟩))
                       go_roundg k1
                       case measure => have:=HK1.out; omega
                       case rel => exact ⟨(wrap64 (x7_1 + 1)), (by first | rfl | (simp; done) | (simp [*]; done) | (simp [isEmpty_bne, isEmpty_beq]; done) | (simp [*, isEmpty_bne, isEmpty_beq]; done)), H', ⟨by have:=HK1.out; omega⟩, by repeat (first | exact Drawn0.refl _ | apply Drawn0.step)⟩
                   · rw [if_neg c26] at H
                     have c26b0 : decide (57 < (bt a0 x7_1)) = false:=decide_eq_false c26
                     clear c26
                     have H':=Aside0.mk H
                     clear H
                     have p5 : 0 ≤ (x7_1 : Int):=of_decide_eq_true (by first | (with_reducible assumption) | assumption)
                     have q5 : x7_1 < (a0.size : Int):=of_decide_eq_true (by first | (with_reducible assumption) | assumption)
                     have hx5:=bt_at a0 x7_1
                     replace p5:=eq_true p5
                     replace q5:=eq_true q5
                     go_wp2
                     go_roundg k1
                     case measure => have:=HK1.out; omega
                     case rel => exact ⟨(wrap64 (x7_1 + 1)), (by first | rfl | (simp; done) | (simp [*]; done) | (simp [isEmpty_bne, isEmpty_beq]; done) | (simp [*, isEmpty_bne, isEmpty_beq]; done)), H', ⟨by have:=HK1.out; omega⟩, by repeat (first | exact Drawn0.refl _ | apply Drawn0.step)⟩
               · rw [if_neg c22] at H
                 have c22b0 : decide ((bt a0 x7_1) < 65) = false:=decide_eq_false c22
                 clear c22
                 by_cases c29 : (bt a0 x7_1) > 90
                 · rw [if_pos c29] at H
                   have c29b0 : decide (90 < (bt a0 x7_1)) = true:=decide_eq_true c29
                   clear c29
                   by_cases c30 : (bt a0 x7_1) < 48
                   · rw [if_pos c30] at H
                     have c30b0 : decide ((bt a0 x7_1) < 48) = true:=decide_eq_true c30
                     clear c30
                     replace H:=Option.bind_eq_some_iff.mp H
                     obtain ⟨t107, A310, H⟩:=H
                     replace H : (if t107 < 0 then (some false) else (field_Name.l0 k1 a0 (a0.size : Int) (wrap64 (x7_1 + 1)))) = some r:=H
                     have A31:=Aside0.mk A310
                     clear A310
                     by_cases c32 : t107 < 0
                     · rw [if_pos c32] at H
                       have c32b0 : decide (t107 < 0) = true:=decide_eq_true c32
                       clear c32
                       obtain rfl:=Option.some.inj H
                       have p5 : 0 ≤ (x7_1 : Int):=of_decide_eq_true (by first | (with_reducible assumption) | assumption)
                       have q5 : x7_1 < (a0.size : Int):=of_decide_eq_true (by first | (with_reducible assumption) | assumption)
                       have hx5:=bt_at a0 x7_1
                       replace p5:=eq_true p5
                       replace q5:=eq_true q5
                       go_wp2_with (first | (go_at_call 208; (with_reducible refine (strings_IndexByte.calls (⟨#[33, 35, 36, 37, 38, 39, 42, 43, 45, 46, 94, 95, 124, 126, 96]⟩ : ByteArray) (bt a0 x7_1) t107 _ A31.out).mono ?_); rintro e w' ⟨rfl, ⟨nd, rfl⟩⟩))
                       go_ret
                       exact ⟨by first | rfl | (simp; done) | (simp [*]; done) | (simp [isEmpty_bne, isEmpty_beq]; done) | (simp [*, isEmpty_bne, isEmpty_beq]; done), by repeat (first | exact Drawn0.refl _ | apply Drawn0.step)⟩
                     · rw [if_neg c32] at H
                       have c32b0 : decide (t107 < 0) = false:=decide_eq_false c32
                       clear c32
                       have H':=Aside0.mk H
                       clear H
                       have p5 : 0 ≤ (x7_1 : Int):=of_decide_eq_true (by first | (with_reducible assumption) | assumption)
                       have q5 : x7_1 < (a0.size : Int):=of_decide_eq_true (by first | (with_reducible assumption) | assumption)
                       have hx5:=bt_at a0 x7_1
                       replace p5:=eq_true p5
                       replace q5:=eq_true q5
                       go_wp2_with (first | (go_at_call 208; (with_reducible refine (strings_IndexByte.calls (⟨#[33, 35, 36, 37, 38, 39, 42, 43, 45, 46, 94, 95, 124, 126, 96]⟩ : ByteArray) (bt a0 x7_1) t107 _ A31.out).mono ?_); rintro e w' ⟨rfl, ⟨nd, rfl⟩⟩))
                       go_roundg k1
                       case measure => have:=HK1.out; omega
                       case rel => exact ⟨(wrap64 (x7_1 + 1)), (by first | rfl | (simp; done) | (simp [*]; done) | (simp [isEmpty_bne, isEmpty_beq]; done) | (simp [*, isEmpty_bne, isEmpty_beq]; done)), H', ⟨by have:=HK1.out; omega⟩, by repeat (first | exact Drawn0.refl _ | apply Drawn0.step)⟩
                   · rw [if_neg c30] at H
                     have c30b0 : decide ((bt a0 x7_1) < 48) = false:=decide_eq_false c30
                     clear c30
                     by_cases c33 : (bt a0 x7_1) > 57
                     · rw [if_pos c33] at H
                       have c33b0 : decide (57 < (bt a0 x7_1)) = true:=decide_eq_true c33
                       clear c33
                       replace H:=Option.bind_eq_some_iff.mp H
                       obtain ⟨t108, A340, H⟩:=H
                       replace H : (if t108 < 0 then (some false) else (field_Name.l0 k1 a0 (a0.size : Int) (wrap64 (x7_1 + 1)))) = some r:=H
                       have A34:=Aside0.mk A340
                       clear A340
                       by_cases c35 : t108 < 0
                       · rw [if_pos c35] at H
                         have c35b0 : decide (t108 < 0) = true:=decide_eq_true c35
                         clear c35
                         obtain rfl:=Option.some.inj H
                         have p5 : 0 ≤ (x7_1 : Int):=of_decide_eq_true (by first | (with_reducible assumption) | assumption)
                         have q5 : x7_1 < (a0.size : Int):=of_decide_eq_true (by first | (with_reducible assumption) | assumption)
                         have hx5:=bt_at a0 x7_1
                         replace p5:=eq_true p5
                         replace q5:=eq_true q5
                         go_wp2_with (first | (go_at_call 208; (with_reducible refine (strings_IndexByte.calls (⟨#[33, 35, 36, 37, 38, 39, 42, 43, 45, 46, 94, 95, 124, 126, 96]⟩ : ByteArray) (bt a0 x7_1) t108 _ A34.out).mono ?_); rintro e w' ⟨rfl, ⟨nd, rfl⟩⟩))
                         go_ret
                         exact ⟨by first | rfl | (simp; done) | (simp [*]; done) | (simp [isEmpty_bne, isEmpty_beq]; done) | (simp [*, isEmpty_bne, isEmpty_beq]; done), by repeat (first | exact Drawn0.refl _ | apply Drawn0.step)⟩
                       · rw [if_neg c35] at H
                         have c35b0 : decide (t108 < 0) = false:=decide_eq_false c35
                         clear c35
                         have H':=Aside0.mk H
                         clear H
                         have p5 : 0 ≤ (x7_1 : Int):=of_decide_eq_true (by first | (with_reducible assumption) | assumption)
                         have q5 : x7_1 < (a0.size : Int):=of_decide_eq_true (by first | (with_reducible assumption) | assumption)
                         have hx5:=bt_at a0 x7_1
                         replace p5:=eq_true p5
                         replace q5:=eq_true q5
                         go_wp2_with (first | (go_at_call 208; (with_reducible refine (strings_IndexByte.calls (⟨#[33, 35, 36, 37, 38, 39, 42, 43, 45, 46, 94, 95, 124, 126, 96]⟩ : ByteArray) (bt a0 x7_1) t108 _ A34.out).mono ?_); rintro e w' ⟨rfl, ⟨nd, rfl⟩⟩))
                         go_roundg k1
                         case measure => have:=HK1.out; omega
                         case rel => exact ⟨(wrap64 (x7_1 + 1)), (by first | rfl | (simp; done) | (simp [*]; done) | (simp [isEmpty_bne, isEmpty_beq]; done) | (simp [*, isEmpty_bne, isEmpty_beq]; done)), H', ⟨by have:=HK1.out; omega⟩, by repeat (first | exact Drawn0.refl _ | apply Drawn0.step)⟩
                     · rw [if_neg c33] at H
                       have c33b0 : decide (57 < (bt a0 x7_1)) = false:=decide_eq_false c33
                       clear c33
                       have H':=Aside0.mk H
                       clear H
                       have p5 : 0 ≤ (x7_1 : Int):=of_decide_eq_true (by first | (with_reducible assumption) | assumption)
                       have q5 : x7_1 < (a0.size : Int):=of_decide_eq_true (by first | (with_reducible assumption) | assumption)
                       have hx5:=bt_at a0 x7_1
                       replace p5:=eq_true p5
                       replace q5:=eq_true q5
                       go_wp2
                       go_roundg k1
                       case measure => have:=HK1.out; omega
                       case rel => exact ⟨(wrap64 (x7_1 + 1)), (by first | rfl | (simp; done) | (simp [*]; done) | (simp [isEmpty_bne, isEmpty_beq]; done) | (simp [*, isEmpty_bne, isEmpty_beq]; done)), H', ⟨by have:=HK1.out; omega⟩, by repeat (first | exact Drawn0.refl _ | apply Drawn0.step)⟩
                 · rw [if_neg c29] at H
                   have c29b0 : decide (90 < (bt a0 x7_1)) = false:=decide_eq_false c29
                   clear c29
                   have H':=Aside0.mk H
                   clear H
                   have p5 : 0 ≤ (x7_1 : Int):=of_decide_eq_true (by first | (with_reducible assumption) | assumption)
                   have q5 : x7_1 < (a0.size : Int):=of_decide_eq_true (by first | (with_reducible assumption) | assumption)
                   have hx5:=bt_at a0 x7_1
                   replace p5:=eq_true p5
                   replace q5:=eq_true q5
                   go_wp2
                   go_roundg k1
                   case measure => have:=HK1.out; omega
                   case rel => exact ⟨(wrap64 (x7_1 + 1)), (by first | rfl | (simp; done) | (simp [*]; done) | (simp [isEmpty_bne, isEmpty_beq]; done) | (simp [*, isEmpty_bne, isEmpty_beq]; done)), H', ⟨by have:=HK1.out; omega⟩, by repeat (first | exact Drawn0.refl _ | apply Drawn0.step)⟩
             · rw [if_neg c21] at H
               have c21b0 : decide (122 < (bt a0 x7_1)) = false:=decide_eq_false c21
               clear c21
               have H':=Aside0.mk H
               clear H
               have p5 : 0 ≤ (x7_1 : Int):=of_decide_eq_true (by first | (with_reducible assumption) | assumption)
               have q5 : x7_1 < (a0.size : Int):=of_decide_eq_true (by first | (with_reducible assumption) | assumption)
               have hx5:=bt_at a0 x7_1
               replace p5:=eq_true p5
               replace q5:=eq_true q5
               go_wp2
               go_roundg k1
               case measure => have:=HK1.out; omega
               case rel => exact ⟨(wrap64 (x7_1 + 1)), (by first | rfl | (simp; done) | (simp [*]; done) | (simp [isEmpty_bne, isEmpty_beq]; done) | (simp [*, isEmpty_bne, isEmpty_beq]; done)), H', ⟨by have:=HK1.out; omega⟩, by repeat (first | exact Drawn0.refl _ | apply Drawn0.step)⟩
         · rw [if_neg c4] at H
           exact absurd H (by simp)
       · rw [if_neg c3] at H
         exact absurd H (by simp)
     · rw [if_neg c2] at H
       have c2b0 : decide (x7_1 < (a0.size : Int)) = false:=decide_eq_false c2
       clear c2
       by_cases c36 : (a0.size : Int) ≥ 1
       · rw [if_pos c36] at H
         have c36b0 : decide (1 ≤ (a0.size : Int)) = true:=decide_eq_true c36
         have c36b1 : decide (1 ≤ a0.size) = true:=decide_eq_true (by omega)
         clear c36
         obtain rfl:=Option.some.inj H
         go_wp2
         go_ret
         exact ⟨by first | rfl | (simp; done) | (simp [*]; done) | (simp [isEmpty_bne, isEmpty_beq]; done) | (simp [*, isEmpty_bne, isEmpty_beq]; done), by repeat (first | exact Drawn0.refl _ | apply Drawn0.step)⟩
       · rw [if_neg c36] at H
         have c36b0 : decide (1 ≤ (a0.size : Int)) = false:=decide_eq_false c36
         have c36b1 : decide (1 ≤ a0.size) = false:=decide_eq_false (by omega)
         clear c36
         obtain rfl:=Option.some.inj H
         go_wp2
         go_ret
         exact ⟨by first | rfl | (simp; done) | (simp [*]; done) | (simp [isEmpty_bne, isEmpty_beq]; done) | (simp [*, isEmpty_bne, isEmpty_beq]; done), by repeat (first | exact Drawn0.refl _ | apply Drawn0.step)⟩
def field_Trim.f (a0 : ByteArray) : Option (ByteArray):=(strings_Trim.f a0 (⟨#[32, 9]⟩ : ByteArray)).bind fun t109 => (some t109)
set_option maxHeartbeats 2000000 in
set_option maxRecDepth 100000 in
theorem field_Trim.calls (a0 : ByteArray) (r : ByteArray) (w : World) (h : field_Trim.f a0 = some r) :
   Calls Tryz.prog 136 #[.string a0] w fun e w' => e = .returned (.string r) ∧ Below w.heap.size w w':=by
 have HB:=Aside0.mk (Below.refl w.heap.size w)
 have H : ((strings_Trim.f a0 (⟨#[32, 9]⟩ : ByteArray)).bind fun t109 => (some t109)) = some r:=h
 clear h
 replace H:=Option.bind_eq_some_iff.mp H
 obtain ⟨t109, A20, H⟩:=H
 replace H : (some t109) = some r:=H
 have A2:=Aside0.mk A20
 clear A20
 obtain rfl:=Option.some.inj H
 go_enter Tryz.func136, Tryz.ntmps136
 go_wp2_with (first | ((with_reducible refine gate_callee (f:=224) rfl ?_); refine goesL_ (some 4) rfl rfl Tryz.func224 (by kernel_rfl) rfl #[.string a0, .string (⟨#[32, 9]⟩ : ByteArray)] rfl (by (try simp only [List.map_toArray, List.map_cons, List.map_nil]); first | done | rfl | (simp only [List.length_drop, List.length_take]; rfl)) ?_; (with_reducible refine (strings_Trim.calls a0 (⟨#[32, 9]⟩ : ByteArray) t109 _ A2.out).mono ?_); rintro e w3 ⟨rfl, hb⟩; refine ⟨_, rfl, ?_⟩; have n0_:=Aside0.mk (below_step (by repeat (first | (with_reducible first | exact HB.out | apply below_alloc | apply pw_below_drewN | apply below_drew1) | exact HB.out)) hb); clear HB; have HB:=n0_; clear n0_; (try clear hb); (try clear hb2); (try clear hk); (try clear hi)))
 go_ret
 exact ⟨by first | rfl | (simp [errW_none, errW_some] <;> rfl) | (simp [*, errW_none, errW_some] <;> rfl) | (simp [isEmpty_bne, isEmpty_beq, errW_none, errW_some]; done) | (simp [*, isEmpty_bne, isEmpty_beq, errW_none, errW_some]; done), by repeat (first | (with_reducible first | exact HB.out | apply below_alloc | apply pw_below_drewN | apply below_drew1) | exact HB.out)⟩
def stringslite_Cut.f (a0 : ByteArray) (a1 : ByteArray) : Option (ByteArray × ByteArray × Bool):=(stringslite_Index.f a0 a1).bind fun t110 => (if t110 ≥ 0 then (if 0 ≤ t110 then (if t110 ≤ (a0.size : Int) then (if 0 ≤ (wrap64 (t110 + (a1.size : Int))) then (if (wrap64 (t110 + (a1.size : Int))) ≤ (a0.size : Int) then (some (a0.extract 0 (t110 : Int).toNat, a0.extract ((wrap64 (t110 + (a1.size : Int))) : Int).toNat a0.size, true)) else (none)) else (none)) else (none)) else (none)) else (some (a0, (⟨#[]⟩ : ByteArray), false)))
set_option maxHeartbeats 2000000 in
set_option maxRecDepth 100000 in
theorem stringslite_Cut.calls (a0 : ByteArray) (a1 : ByteArray) (r1 : ByteArray) (r2 : ByteArray) (r3 : Bool) (w : World) (h : stringslite_Cut.f a0 a1 = some (r1, r2, r3)) :
   Calls Tryz.prog 53 #[.string a0, .string a1] w fun e w' => e = .returned (.tuple #[.string r1, .string r2, .bool r3]) ∧ Drawn0 w w':=by
 have H : ((stringslite_Index.f a0 a1).bind fun t110 => (if t110 ≥ 0 then (if 0 ≤ t110 then (if t110 ≤ (a0.size : Int) then (if 0 ≤ (wrap64 (t110 + (a1.size : Int))) then (if (wrap64 (t110 + (a1.size : Int))) ≤ (a0.size : Int) then (some (a0.extract 0 (t110 : Int).toNat, a0.extract ((wrap64 (t110 + (a1.size : Int))) : Int).toNat a0.size, true)) else (none)) else (none)) else (none)) else (none)) else (some (a0, (⟨#[]⟩ : ByteArray), false)))) = some (r1, r2, r3):=h
 clear h
 replace H:=Option.bind_eq_some_iff.mp H
 obtain ⟨t110, A30, H⟩:=H
 replace H : (if t110 ≥ 0 then (if 0 ≤ t110 then (if t110 ≤ (a0.size : Int) then (if 0 ≤ (wrap64 (t110 + (a1.size : Int))) then (if (wrap64 (t110 + (a1.size : Int))) ≤ (a0.size : Int) then (some (a0.extract 0 (t110 : Int).toNat, a0.extract ((wrap64 (t110 + (a1.size : Int))) : Int).toNat a0.size, true)) else (none)) else (none)) else (none)) else (none)) else (some (a0, (⟨#[]⟩ : ByteArray), false))) = some (r1, r2, r3):=H
 have A3:=Aside0.mk A30
 clear A30
 by_cases c4 : t110 ≥ 0
 · rw [if_pos c4] at H
   have c4b0 : decide (0 ≤ t110) = true:=decide_eq_true c4
   clear c4
   by_cases c5 : 0 ≤ t110
   · rw [if_pos c5] at H
     have c5b0:=eq_true c5
     have c5b1 : decide (0 ≤ t110) = true:=decide_eq_true c5
     clear c5
     by_cases c6 : t110 ≤ (a0.size : Int)
     · rw [if_pos c6] at H
       have c6b0:=eq_true c6
       have c6b1 : decide (t110 ≤ (a0.size : Int)) = true:=decide_eq_true c6
       clear c6
       obtain ⟨ji7, hji7⟩ : ∃ j_ : Int, (wrap64 (t110 + (a1.size : Int))) = j_:=⟨_, rfl⟩
       replace H : (if 0 ≤ (ji7) then (if (ji7) ≤ (a0.size : Int) then (some (a0.extract 0 (t110 : Int).toNat, a0.extract ((ji7) : Int).toNat a0.size, true)) else (none)) else (none)) = some (r1, r2, r3):=by first | (rw [hji7] at H; exact H) | (simp only [hji7] at H ⊢; exact H)
       (try rw [hji7] at A3)
       have hji7w : (IntKind.i64.wrap (t110 + (a1.size : Int))) = ji7:=(i64_w _).trans hji7
       by_cases c8 : 0 ≤ (ji7)
       · rw [if_pos c8] at H
         have c8b0:=eq_true c8
         have c8b1 : decide (0 ≤ (ji7)) = true:=decide_eq_true c8
         clear c8
         by_cases c9 : (ji7) ≤ (a0.size : Int)
         · rw [if_pos c9] at H
           have c9b0:=eq_true c9
           have c9b1 : decide ((ji7) ≤ (a0.size : Int)) = true:=decide_eq_true c9
           clear c9
           simp only [Option.some.injEq, Prod.mk.injEq] at H
           obtain ⟨rfl, rfl, rfl⟩:=H
           go_enter Tryz.func53, Tryz.ntmps53
           go_wp2_with (first | (go_at_call 110; (with_reducible refine (stringslite_Index.calls a0 a1 t110 _ A3.out).mono ?_); rintro e w' ⟨rfl, ⟨nd, rfl⟩⟩; (try first | exact ⟨rfl, _, World.drewN_drewN _ _ _⟩ | exact ⟨rfl, _, Eq.trans (World.drewN_drewN _ _ _) (congrArg (World.drewN _) (Nat.add_assoc _ _ _))⟩)))
           repeat (go_quiet (first | (go_at_call 110; (with_reducible refine (stringslite_Index.calls a0 a1 t110 _ A3.out).mono ?_); rintro e w' ⟨rfl, ⟨nd, rfl⟩⟩; (try first | exact ⟨rfl, _, World.drewN_drewN _ _ _⟩ | exact ⟨rfl, _, Eq.trans (World.drewN_drewN _ _ _) (congrArg (World.drewN _) (Nat.add_assoc _ _ _))⟩))); try go_wp2_with (first | (go_at_call 110; (with_reducible refine (stringslite_Index.calls a0 a1 t110 _ A3.out).mono ?_); rintro e w' ⟨rfl, ⟨nd, rfl⟩⟩; (try first | exact ⟨rfl, _, World.drewN_drewN _ _ _⟩ | exact ⟨rfl, _, Eq.trans (World.drewN_drewN _ _ _) (congrArg (World.drewN _) (Nat.add_assoc _ _ _))⟩))))
           go_ret3
           exact ⟨by first | rfl | (simp; done) | (simp only [← hji7] <;> (first | rfl | simp)) | (simp [*]; done), by repeat (first | exact Drawn0.refl _ | apply Drawn0.step)⟩
         · rw [if_neg c9] at H
           exact absurd H (by simp)
       · rw [if_neg c8] at H
         exact absurd H (by simp)
     · rw [if_neg c6] at H
       exact absurd H (by simp)
   · rw [if_neg c5] at H
     exact absurd H (by simp)
 · rw [if_neg c4] at H
   have c4b0 : decide (0 ≤ t110) = false:=decide_eq_false c4
   clear c4
   simp only [Option.some.injEq, Prod.mk.injEq] at H
   obtain ⟨rfl, rfl, rfl⟩:=H
   go_enter Tryz.func53, Tryz.ntmps53
   go_wp2_with (first | (go_at_call 110; (with_reducible refine (stringslite_Index.calls a0 a1 t110 _ A3.out).mono ?_); rintro e w' ⟨rfl, ⟨nd, rfl⟩⟩; (try first | exact ⟨rfl, _, World.drewN_drewN _ _ _⟩ | exact ⟨rfl, _, Eq.trans (World.drewN_drewN _ _ _) (congrArg (World.drewN _) (Nat.add_assoc _ _ _))⟩)))
   repeat (go_quiet (first | (go_at_call 110; (with_reducible refine (stringslite_Index.calls a0 a1 t110 _ A3.out).mono ?_); rintro e w' ⟨rfl, ⟨nd, rfl⟩⟩; (try first | exact ⟨rfl, _, World.drewN_drewN _ _ _⟩ | exact ⟨rfl, _, Eq.trans (World.drewN_drewN _ _ _) (congrArg (World.drewN _) (Nat.add_assoc _ _ _))⟩))); try go_wp2_with (first | (go_at_call 110; (with_reducible refine (stringslite_Index.calls a0 a1 t110 _ A3.out).mono ?_); rintro e w' ⟨rfl, ⟨nd, rfl⟩⟩; (try first | exact ⟨rfl, _, World.drewN_drewN _ _ _⟩ | exact ⟨rfl, _, Eq.trans (World.drewN_drewN _ _ _) (congrArg (World.drewN _) (Nat.add_assoc _ _ _))⟩))))
   go_ret3
   exact ⟨by first | rfl | (simp; done) | (simp [*]; done) | (simp [isEmpty_bne, isEmpty_beq]; done) | (simp [*, isEmpty_bne, isEmpty_beq]; done), by repeat (first | exact Drawn0.refl _ | apply Drawn0.step)⟩
def strings_Cut.f (a0 : ByteArray) (a1 : ByteArray) : Option (ByteArray × ByteArray × Bool):=(stringslite_Cut.f a0 a1).bind fun bt111 => (some (bt111.1, bt111.2.1, bt111.2.2))
set_option maxHeartbeats 2000000 in
set_option maxRecDepth 100000 in
theorem strings_Cut.calls (a0 : ByteArray) (a1 : ByteArray) (r1 : ByteArray) (r2 : ByteArray) (r3 : Bool) (w : World) (h : strings_Cut.f a0 a1 = some (r1, r2, r3)) :
   Calls Tryz.prog 32 #[.string a0, .string a1] w fun e w' => e = .returned (.tuple #[.string r1, .string r2, .bool r3]) ∧ Drawn0 w w':=by
 have H : ((stringslite_Cut.f a0 a1).bind fun bt111 => (some (bt111.1, bt111.2.1, bt111.2.2))) = some (r1, r2, r3):=h
 clear h
 replace H:=Option.bind_eq_some_iff.mp H
 obtain ⟨⟨t111, t112, t113⟩, A30, H⟩:=H
 replace H : (some (t111, t112, t113)) = some (r1, r2, r3):=H
 have A3:=Aside0.mk A30
 clear A30
 simp only [Option.some.injEq, Prod.mk.injEq] at H
 obtain ⟨rfl, rfl, rfl⟩:=H
 go_enter Tryz.func32, Tryz.ntmps32
 go_wp2_with (first | ((with_reducible refine gate_callee (f:=53) rfl ?_); refine goesL_ (some 9) rfl rfl Tryz.func53 (by kernel_rfl) rfl #[.string a0, .string a1] rfl (by (try simp only [List.map_toArray, List.map_cons, List.map_nil]); first | done | rfl | (simp only [List.length_drop, List.length_take]; rfl)) ?_; (with_reducible refine (stringslite_Cut.calls a0 a1 t111 t112 t113 _ A3.out).mono ?_); rintro e w' ⟨rfl, ⟨nd, rfl⟩⟩; refine ⟨_, rfl, ?_⟩))
 go_ret3
 exact ⟨by first | rfl | (simp; done) | (simp [*]; done) | (simp [isEmpty_bne, isEmpty_beq]; done) | (simp [*, isEmpty_bne, isEmpty_beq]; done), by repeat (first | exact Drawn0.refl _ | apply Drawn0.step)⟩
def moatlaw0_Low.f (a0 : Int) (a1 : Int) : Option (Int):=if (IntKind.u64.wrap (a1)) = 0 then (none) else (some (wrap64 (Int.tmod (IntKind.u64.wrap (a0)) (IntKind.u64.wrap (a1)))))
set_option maxHeartbeats 2000000 in
set_option maxRecDepth 100000 in
theorem moatlaw0_Low.calls (a0 : Int) (a1 : Int) (r : Int) (w : World) (h : moatlaw0_Low.f a0 a1 = some r) :
   Calls Tryz.prog 9 #[.int .i64 a0, .int .i64 a1] w fun e w' => e = .returned (.int .i64 r) ∧ Drawn0 w w':=by
 have H : (if (IntKind.u64.wrap (a1)) = 0 then (none) else (some (wrap64 (Int.tmod (IntKind.u64.wrap (a0)) (IntKind.u64.wrap (a1)))))) = some r:=h
 clear h
 by_cases c3 : (IntKind.u64.wrap (a1)) = 0
 · rw [if_pos c3] at H
   exact absurd H (by simp)
 · rw [if_neg c3] at H
   have c3b0 : ((IntKind.u64.wrap (a1)) == 0) = false:=beq_eq_false_iff_ne.mpr c3
   have c3b1 : ((IntKind.u64.wrap (a1)) != 0) = true:=bne_iff_ne.mpr c3
   obtain rfl:=Option.some.inj H
   go_enter Tryz.func9, Tryz.ntmps9
   go_wp2
   go_ret
   exact ⟨by first | rfl | (simp; done) | (simp [*]; done) | (simp [isEmpty_bne, isEmpty_beq]; done) | (simp [*, isEmpty_bne, isEmpty_beq]; done), by repeat (first | exact Drawn0.refl _ | apply Drawn0.step)⟩
end Go.Proofs.YtacknhbgfijkcaaGreatDoor.BF
end
section
/- field.Lower, moatref3.Lower: a text's capital letters as small ones: the two walks, and their contracts in the print's form. -/
namespace Go.Proofs.YtacknhbgfijkcaaGreatDoor
open Go Go.RowKit Go.Shelf Go.Proofs Go.Proofs.YtacknhbgfijkcaaGreatDoorW.PrintWords Go.Proofs.YtacknhbgfijkcaaGreatDoorW.PrintLast Go.Proofs.YtacknhbgfijkcaaGreatDoorW.PrintMore
def lowB (c : UInt8) : UInt8:=if 65 ≤ c.toNat ∧ c.toNat ≤ 90 then c + 32 else c
def lowL (l : List UInt8) : List UInt8:=l.map lowB
def lowTo (l : List UInt8) (j : Nat) : List UInt8:=lowL (l.take j) ++ l.drop j
theorem lowTo_zero (l : List UInt8) : lowTo l 0 = l:=by simp [lowTo, lowL]
theorem lowTo_all (l : List UInt8) : lowTo l l.length = lowL l:=by simp [lowTo, lowL]
theorem lowTo_len (l : List UInt8) (j : Nat) : (lowTo l j).length = l.length:=by simp [lowTo, lowL]; omega
theorem lowTo_at (l : List UInt8) (j : Nat) (h : j < l.length) : (lowTo l j)[j]? = some l[j]:=by
 unfold lowTo lowL
 rw [List.getElem?_append_right (by simp; omega)]
 simp [List.getElem?_drop, Nat.min_eq_left (Nat.le_of_lt h), h]
theorem lowTo_step (l : List UInt8) (j : Nat) (h : j < l.length) : lowTo l (j + 1) = (lowTo l j).set j (lowB l[j]):=by
 apply List.ext_getElem?
 intro i
 unfold lowTo lowL
 rw [List.getElem?_set]
 simp only [List.getElem?_append, List.length_map, List.length_take, List.getElem?_map, List.getElem?_take, List.getElem?_drop, List.length_append, List.length_drop]
 by_cases h1 : i = j
 · subst h1
   have h3 : i < min i l.length + (l.length - i):=by omega
   simp [h, Nat.min_eq_left (Nat.succ_le_of_lt h), h3]
 · rw [if_neg (Ne.symm h1)]
   by_cases h2 : i < j
   · rw [if_pos (by omega), if_pos (by omega), if_pos (by omega), if_pos (by omega)]
   · rw [if_neg (by omega), if_neg (by omega)]
     congr 1
     omega
theorem lowB_up (x : UInt8) (h : 65 ≤ x.toNat) (h2 : x.toNat ≤ 90) : ((lowB x).toNat : Int) = (x.toNat : Int) - 65 + 97:=by
 unfold lowB
 rw [if_pos ⟨h, h2⟩, UInt8.toNat_add]
 simp
 omega
theorem lowB_other (x : UInt8) (h : ¬ (65 ≤ x.toNat ∧ x.toNat ≤ 90)) : lowB x = x:=if_neg h
theorem lowTo_stay (l : List UInt8) (j : Nat) (x : UInt8) (h : (lowTo l j)[j]? = some x) (h2 : lowTo l (j + 1) = (lowTo l j).set j (lowB x)) (h3 : lowB x = x) : lowTo l (j + 1) = lowTo l j:=by
 obtain ⟨hl, rfl⟩:=List.getElem?_eq_some_iff.1 h
 rw [h2, h3]
 exact List.set_getElem_self hl
def ByteRow (w : World) (b : Nat) (l : List UInt8) : Prop:=∀ (i : Nat) x, l[i]? = some x → w.cell? ⟨b, i, none⟩ = some (.int .u8 (x.toNat : Int)) ∧ w.frozen? ⟨b, i, none⟩ = false
theorem ByteRow.set {w : World} {b : Nat} {l : List UInt8} (h : ByteRow w b l) (j : Nat) (hj : j < l.length) (y : UInt8) : ByteRow (w.setCell ⟨b, j, none⟩ (.int .u8 (y.toNat : Int))) b (l.set j y):=by
 intro i x hx
 rw [List.getElem?_set] at hx
 by_cases e : j = i
 · subst e
   rw [if_pos rfl, if_pos hj] at hx
   obtain rfl:=Option.some.inj hx
   obtain ⟨h1, h2⟩:=h j _ (List.getElem?_eq_getElem hj)
   exact ⟨World.cell?_setCell_same _ _ _ h1, (World.frozen?_setCell _ _ _ _).trans h2⟩
 · rw [if_neg e] at hx
   obtain ⟨h1, h2⟩:=h i x hx
   exact ⟨(World.cell?_setCell_other _ _ _ _ (fun hh => e (congrArg Addr.off hh))).trans h1, (World.frozen?_setCell _ _ _ _).trans h2⟩
theorem byteRow_new (w : World) (s : ByteArray) (cap : Nat) (t : TypeId) (n : Nat) (hn : s.size ≤ n) : ByteRow (w.alloc (.cells (bytesRow s cap) t (n, n + 1))) w.heap.size s.data.toList:=by
 intro i x hx
 obtain ⟨hi, rfl⟩:=List.getElem?_eq_some_iff.1 hx
 have hi' : i < s.data.size:=by simpa using hi
 refine ⟨?_, ?_⟩
 · rw [World.cell?_alloc_mark, bytesRow_at s cap i hi']
   simp
 · rw [World.frozen?_alloc_mark]
   have : i < n:=Nat.lt_of_lt_of_le hi' hn
   simp; omega
theorem grownCap_le (w : World) (s : ByteArray) (t : TypeId) : s.size ≤ grownCap w s.size 0 t:=by
 exact grownCap_ge w s.size 0 t
set_option maxRecDepth 100000 in
set_option maxHeartbeats 2000000 in
theorem Lower_calls (s : ByteArray) (hn : s.size ≤ 140737488355328) (w : World) :
   Calls Tryz.prog 71 #[.string s] w fun e w' => e = .returned (.string ⟨(lowL s.data.toList).toArray⟩) ∧ Below w.heap.size w w':=by
 have hsz:=Lib.size_eq s
 obtain ⟨C, cap, hcap, hrow, hconv⟩ : ∃ C cap, s.size ≤ cap ∧ ByteRow (w.drew.alloc (.cells C 5 (C.size, C.size + 1))) w.heap.size s.data.toList ∧
     (convert 9 97 (.string s)).run Tryz.prog w = .ok (.slice (some ⟨w.heap.size, 0, none⟩) s.size cap) (w.drew.alloc (.cells C 5 (C.size, C.size + 1))) :=
   ⟨_, _, grownCap_le w s 5, byteRow_new w.drew s _ 5 _ (by simp [bytesRow]), run_bytes_of_string (P:=Tryz.prog) w 9 97 5 s Tryz.underlying9 Tryz.underlying97 Tryz.underlying5⟩
 clear hsz
 go_enter Tryz.func71, Tryz.ntmps71
 have hbel : Below w.heap.size w (w.drew.alloc (.cells C 5 (C.size, C.size + 1))):=(below_drew1 (Below.refl _ w)).alloc (by simp) _
 go_wp2_with fail
 clear hconv
 rw [show w.drew.alloc (.cells C 5 (C.size, C.size + 1)) = (w.alloc (.cells C 5 (C.size, C.size + 1))).drew from rfl] at hrow hbel
 generalize (w.alloc (.cells C 5 (C.size, C.size + 1))).drew = W0 at hrow hbel ⊢
 go_loopg [10] s.size (fun k v10 wr => ∃ j : Nat, v10 = .int .i64 j ∧ j + k = s.size ∧ Aside0 (ByteRow wr w.heap.size (lowTo s.data.toList j)) ∧ Aside0 (Below w.heap.size w wr))
 case atStart => exact ⟨0, rfl, by omega, ⟨by rw [lowTo_zero]; exact hrow⟩, ⟨hbel⟩⟩
 case round =>
   obtain ⟨j, rfl, hjk, hrw, hbw⟩:=hrel
   by_cases hj : j < s.size
   · have hjl : j < s.data.toList.length:=by rw [← Lib.size_eq]; exact hj
     have hat:=Aside0.mk (lowTo_at _ j hjl)
     obtain ⟨hc, hf⟩:=hrw.out j _ hat.out
     have hstep:=Aside0.mk (lowTo_step s.data.toList j hjl)
     have hjl':=Aside0.mk (show j < (lowTo s.data.toList j).length by rw [lowTo_len]; exact hjl)
     generalize s.data.toList[j] = x at hc hstep hat
     clear hjl
     by_cases hlo : 65 ≤ x.toNat
     · by_cases hhi : x.toNat ≤ 90
       · go_wp2
         go_roundg (s.size - (j + 1))
         case measure => omega
         case rel =>
           have hset:=hrw.out.set j hjl'.out (lowB x)
           rw [lowB_up x hlo hhi, ← hstep.out] at hset
           exact ⟨j + 1, rfl, by omega, ⟨hset⟩, ⟨hbw.out.setCell (p:=⟨w.heap.size, j, none⟩) (Nat.le_refl _) _⟩⟩
       · go_wp2
         go_roundg (s.size - (j + 1))
         case measure => omega
         case rel => exact ⟨j + 1, rfl, by omega, ⟨by rw [lowTo_stay _ j x hat.out hstep.out (lowB_other x (by omega))]; exact hrw.out⟩, hbw⟩
     · go_wp2
       go_roundg (s.size - (j + 1))
       case measure => omega
       case rel => exact ⟨j + 1, rfl, by omega, ⟨by rw [lowTo_stay _ j x hat.out hstep.out (lowB_other x (by omega))]; exact hrw.out⟩, hbw⟩
   · have hall : lowTo s.data.toList j = lowL s.data.toList:=by
       rw [← lowTo_all, ← Lib.size_eq]; congr 1; omega
     have hback : (convert 97 9 (.slice (some ⟨w.heap.size, 0, none⟩) s.size cap)).run Tryz.prog wr = .ok (.string ⟨(lowL s.data.toList).toArray⟩) wr:=by
       have hlen : (lowL s.data.toList).length = s.size:=by rw [lowL, List.length_map, Lib.size_eq]
       have:=run_convert_bytes_back (P:=Tryz.prog) wr 97 9 5 ⟨w.heap.size, 0, none⟩ cap (lowL s.data.toList) Tryz.underlying97 Tryz.underlying5 Tryz.underlying9
         (fun i hi => by
           have:=(hrw.out i ((lowL s.data.toList)[i]) (by rw [hall]; exact List.getElem?_eq_getElem hi)).1
           rw [show (⟨w.heap.size, 0, none⟩ : Addr).add i = ⟨w.heap.size, i, none⟩ by cases i <;> simp [Addr.add]]
           exact this)
       rw [hlen] at this
       exact this
     clear hall
     go_wp2
     go_ret
     exact ⟨rfl, hbw.out⟩
def field_Lower.f (a0 : ByteArray) : Option ByteArray:=if a0.size ≤ 140737488355328 then some ⟨(lowL a0.data.toList).toArray⟩ else none
theorem field_Lower.calls (a0 : ByteArray) (r : ByteArray) (w : World) (h : field_Lower.f a0 = some r) :
   Calls Tryz.prog 71 #[.string a0] w fun e w' => e = .returned (.string r) ∧ Below w.heap.size w w':=by
 unfold field_Lower.f at h
 split at h
 · rename_i h1
   obtain rfl:=Option.some.inj h
   exact Lower_calls a0 h1 w
 · cases h
end Go.Proofs.YtacknhbgfijkcaaGreatDoor
end
section
/- field.Name in plain words: each byte is a letter, a digit or one of the signs; from 1 to 40 bytes. -/
namespace Go.Proofs.YtacknhbgfijkcaaGreatDoor
open Go Go.RowKit Go.Proofs.YtacknhbgfijkcaaGreatDoorW.PrintWords Go.Proofs.YtacknhbgfijkcaaGreatDoorW.PrintLast Go.Proofs.YtacknhbgfijkcaaGreatDoorW.PrintMore
end Go.Proofs.YtacknhbgfijkcaaGreatDoor
end
section
/- A piece between separators is no longer than the whole. -/
namespace Go.Proofs.YtacknhbgfijkcaaGreatDoor
open Go
theorem piece_size (c : UInt8) : ∀ (k : Nat) (s x : ByteArray), x ∈ cutB c k s → x.size ≤ s.size
 | 0, s, x, h => by simp [cutB] at h; rw [h]; exact Nat.le_refl _
 | k + 1, s, x, h => by
   unfold cutB at h
   split at h
   · simp at h; rw [h]; exact Nat.le_refl _
   · rcases List.mem_cons.1 h with rfl | h
     · simp; omega
     · have:=piece_size c k _ x h
       simp at this
       omega
end Go.Proofs.YtacknhbgfijkcaaGreatDoor
end
section
/- field.List in plain words: what stands between commas, trimmed, in small letters, without the empty ones; none if one of them is no name. -/
namespace Go.Proofs.YtacknhbgfijkcaaGreatDoor
open Go Go.RowKit Go.Shelf Go.Proofs Go.Proofs.YtacknhbgfijkcaaGreatDoorW.PrintWords Go.Proofs.YtacknhbgfijkcaaGreatDoorW.PrintLast Go.Proofs.YtacknhbgfijkcaaGreatDoorW.PrintMore
attribute [local go_sem] Oper.semAt_some
theorem BoxOwn.holds {β : Type} {bs B b base : Nat} {t e : TypeId} {size : Nat} (k : β → Nat) (f : β → List Value) (hb : b ≠ bs) (hbase : bs < base) :
   BoxOwn bs B (fun s W => ∃ v, Boxed W b t v ∧ W.ownsRow base e size v (k s) (f s)):=by
 rintro s W W' row ⟨v, hv, hrow⟩ hg hr
 refine ⟨v, boxBlock_kept hg hr hv rfl hb, hrow.kept hg ?_⟩
 rcases hrow.2 with ⟨rfl, _⟩ | ⟨g, cap, cur, rfl, hgb, hh, _⟩
 · exact .inl rfl
 · refine .inr fun e' => ?_
   rcases hr g (by simpa [Value.ownBlock] using e'.symm) with h | ⟨_, o, ho, hc⟩
   · omega
   · rw [hh] at ho; cases ho; cases hc
theorem ownsRow_lower {W : World} {base base' : Nat} {e : TypeId} {size : Nat} {v : Value} {k : Nat} {xs : List Value} (h : W.ownsRow base e size v k xs) (hb : base' ≤ base) : W.ownsRow base' e size v k xs:=by
 refine ⟨h.1, ?_⟩
 rcases h.2 with hn | ⟨g, cap, cur, hv, hbg, rest⟩
 · exact .inl hn
 · exact .inr ⟨g, cap, cur, hv, Nat.le_trans hb hbg, rest⟩
theorem keepsFrom_below {B : Nat} {W W' : World} (h : Below W.heap.size W W') : KeepsFrom B W W' :=
 ⟨h.size, fun k o _ hk _ => (h.block k (Array.getElem?_eq_some_iff.1 hk).1).trans hk⟩
theorem boxed_below {W W' : World} {b : Nat} {t : TypeId} {v : Value} (h : Boxed W b t v) (hb : Below W.heap.size W W') : Boxed W' b t v:=(hb.block b h.lt).trans h
theorem ownsRow_below {W W' : World} {base : Nat} {e : TypeId} {size : Nat} {v : Value} {k : Nat} {xs : List Value} (h : W.ownsRow base e size v k xs) (hb : Below W.heap.size W W') : W'.ownsRow base e size v k xs:=by
 refine own_move h fun j hj => hb.block j ?_
 obtain ⟨cells, hc⟩:=own_typed h j hj
 exact (Array.getElem?_eq_some_iff.1 hc).1
def itemL (l : List UInt8) : List UInt8:=lowL (trimL l)
def itemB (x : ByteArray) : ByteArray:=⟨(itemL x.data.toList).toArray⟩
def outs (ps : List ByteArray) : List ByteArray:=(ps.map itemB).filter fun y => decide (y.data.toList ≠ [])
theorem trimL_len (l : List UInt8) : (trimL l).length ≤ l.length:=by
 unfold trimL Lib.trimS Lib.trimLeftS Lib.trimRightS
 have h1:=(List.dropWhile_sublist (fun x => [32, 9].contains x) (l:=(l.reverse.dropWhile fun x => [32, 9].contains x).reverse)).length_le
 have h2:=(List.dropWhile_sublist (fun x => [32, 9].contains x) (l:=l.reverse)).length_le
 simp only [List.length_reverse] at h1 h2
 exact Nat.le_trans h1 h2
theorem trim_calls (x : ByteArray) (hx : x.size ≤ 140737488355328) (w : World) :
   Calls Tryz.prog 136 #[.string x] w fun e w' => e = .returned (.string ⟨(trimL x.data.toList).toArray⟩) ∧ Below w.heap.size w w' :=
 BF.field_Trim.calls x _ w (by unfold BF.field_Trim.f strings_Trim.f; rw [if_pos ⟨rfl, hx⟩]; rfl)
theorem item_calls (x : ByteArray) (hx : x.size ≤ 140737488355328) (w : World) :
   Calls Tryz.prog 71 #[.string ⟨(trimL x.data.toList).toArray⟩] w fun e w' => e = .returned (.string (itemB x)) ∧ Below w.heap.size w w' :=
 Lower_calls ⟨(trimL x.data.toList).toArray⟩ (by rw [Lib.size_eq] at *; exact Nat.le_trans (trimL_len x.data.toList) hx) w
end Go.Proofs.YtacknhbgfijkcaaGreatDoor
end
section
/- strings.Cut at one byte in plain words: what stands ahead of the first such byte, and behind it. -/
namespace Go.Proofs.YtacknhbgfijkcaaGreatDoor
open Go Go.RowKit Go.Proofs.YtacknhbgfijkcaaGreatDoorW.PrintWords Go.Proofs.YtacknhbgfijkcaaGreatDoorW.PrintLast Go.Proofs.YtacknhbgfijkcaaGreatDoorW.PrintMore
def cutA (c : UInt8) (l : List UInt8) : List UInt8:=l.takeWhile (· != c)
def cutZ (c : UInt8) (l : List UInt8) : List UInt8:=(l.dropWhile (· != c)).drop 1
theorem cut_none (c : UInt8) : ∀ l : List UInt8, (∀ x ∈ l, x ≠ c) → cutA c l = l ∧ cutZ c l = []
 | [], _ => ⟨rfl, rfl⟩
 | x :: l, h => by
   have hx : (x != c) = true:=by simpa using h x (by simp)
   obtain ⟨h1, h2⟩:=cut_none c l (fun y hy => h y (by simp [hy]))
   unfold cutA cutZ at *
   rw [List.takeWhile_cons, List.dropWhile_cons, if_pos hx, if_pos hx, h1, h2]
   exact ⟨rfl, rfl⟩
theorem cut_at (c : UInt8) (b : List UInt8) : ∀ a : List UInt8, (∀ x ∈ a, x ≠ c) → cutA c (a ++ c :: b) = a ∧ cutZ c (a ++ c :: b) = b
 | [], _ => by simp [cutA, cutZ]
 | x :: a, h => by
   have hx : (x != c) = true:=by simpa using h x (by simp)
   obtain ⟨h1, h2⟩:=cut_at c b a (fun y hy => h y (by simp [hy]))
   unfold cutA cutZ at *
   rw [List.cons_append, List.takeWhile_cons, List.dropWhile_cons, if_pos hx, if_pos hx, h1, h2]
   exact ⟨rfl, rfl⟩
theorem cutA_len (c : UInt8) (l : List UInt8) : (cutA c l).length ≤ l.length:=(List.takeWhile_sublist _).length_le
theorem cutZ_len (c : UInt8) (l : List UInt8) : (cutZ c l).length ≤ l.length:=by
 unfold cutZ
 rw [List.length_drop]
 have:=(List.dropWhile_sublist (· != c) (l:=l)).length_le
 omega
theorem Cut_f (s : ByteArray) (c : UInt8) (hs : s.size ≤ 140737488355328) : ∃ b, BF.strings_Cut.f s ⟨#[c]⟩ = some (⟨(cutA c s.data.toList).toArray⟩, ⟨(cutZ c s.data.toList).toArray⟩, b):=by
 have hsz:=Lib.size_eq s
 unfold BF.strings_Cut.f BF.stringslite_Cut.f stringslite_Index.f
 rw [if_pos (show (⟨#[c]⟩ : ByteArray).size = 1 from rfl), show ((⟨#[c]⟩ : ByteArray).data.toList.headD 0) = c from rfl]
 simp only [Option.bind_some]
 have hone : ((⟨#[c]⟩ : ByteArray).size : Int) = 1:=rfl
 rcases indexByte_cases s.data.toList c with ⟨h1, h2⟩ | ⟨i, h1, h2, h3, h4⟩
 · obtain ⟨e1, e2⟩:=cut_none c _ h2
   rw [h1, if_neg (by omega), e1, e2]
   exact ⟨false, rfl⟩
 · have hw : wrap64 ((i : Int) + 1) = ((i + 1 : Nat) : Int):=by unfold wrap64; omega
   obtain ⟨e1, e2⟩:=cut_at c (s.data.toList.drop (i + 1)) _ h4
   rw [← h3] at e1 e2
   rw [h1, if_pos (by omega), if_pos (by omega), if_pos (by omega), hone, hw, if_pos (by omega), if_pos (by omega), e1, e2]
   refine ⟨true, ?_⟩
   simp only [Option.bind_some, Int.toNat_natCast]
   have x1 : s.extract 0 i = ⟨(s.data.toList.take i).toArray⟩:=by
     apply ByteArray.ext
     apply Array.toList_inj.1
     rw [extract_list]; simp
   have x2 : s.extract (i + 1) s.size = ⟨(s.data.toList.drop (i + 1)).toArray⟩:=by
     apply ByteArray.ext
     apply Array.toList_inj.1
     rw [extract_list, List.take_of_length_le (by rw [List.length_drop]; omega)]
   rw [x1, x2]
theorem cut_calls (s : ByteArray) (c : UInt8) (hs : s.size ≤ 140737488355328) : ∃ b, ∀ w, Calls Tryz.prog 32 #[.string s, .string ⟨#[c]⟩] w fun e w' =>
   e = .returned (.tuple #[.string ⟨(cutA c s.data.toList).toArray⟩, .string ⟨(cutZ c s.data.toList).toArray⟩, .bool b]) ∧ Drawn0 w w':=by
 obtain ⟨b, h⟩:=Cut_f s c hs
 exact ⟨b, fun w => BF.strings_Cut.calls s ⟨#[c]⟩ _ _ _ w h⟩
end Go.Proofs.YtacknhbgfijkcaaGreatDoor
end
section
/- A region that draws its order, inside a round of a range over an iterator: what is proved of it outside of rounds holds there too, if it defers nothing. -/
namespace Go.Proofs.YtacknhbgfijkcaaGreatDoor
open Go
theorem rows_in {P : Program} {row : String} {args : Array Value} {w : World} {R : Value → World → Prop} {l n : Nat} (h : Rows P row args w R) : RowsIn (Fence.wide.inRound l) n P row args w R :=
 fun c cs _ => let ⟨v, w', r, s⟩:=h c cs; ⟨v, w', r, stepsIn_wide.2 s⟩
theorem oper_in {P : Program} {o : Oper} {a : Act} {w : World} {K K' : Act → World → Prop} {Q : Exit → Act → World → Prop} {l n : Nat} (hd : ∀ c, o.op ≠ .defer c)
   (hK : ∀ a w, K a w → K' a w) (h : o.wp P a w K Q) : o.wpIn (Fence.wide.inRound l) n P a w K' Q:=by
 refine ⟨fun _ _ => trivial, ?_⟩
 rw [Oper.semAt_eq _ _ _ hd]
 unfold Oper.wp at h
 generalize (execOp a.eval o).run P w = R at h ⊢
 rcases R with ⟨nx, w'⟩ | ⟨hh, w'⟩
 · cases nx with
   | value v => exact hK _ _ h
   | skip => exact hK _ _ h
   | defer d => exact hK _ _ h
   | enter f args =>
     refine ⟨fun hdep => by simp [Fence.wide] at hdep, CallsIn.inRound l (callsIn_wide.2 (Calls.mono (show Calls P f args w' _ from h) ?_))⟩
     intro e w'' he
     cases e with
     | returned v => exact hK _ _ he
     | panicked c => exact he
     | outgrown => exact he
   | row row args =>
     refine ⟨fun hdep => by simp [Fence.wide] at hdep, rows_in (Rows.mono (show Rows P row args w' _ from h) fun v w'' he => hK _ _ he)⟩
   | _ => exact (h : False).elim
 · cases hh with
   | panic v => exact h
   | _ => exact (h : False).elim
theorem any_in {P : Program} {md : Region.Mode} {ops : Array Oper} {Q : Exit → Act → World → Prop} {l n : Nat} (hd : ∀ (i : Nat) (o : Oper) c, ops[i]? = some o → o.op ≠ .defer c) (hlo : ¬ LetsOut Q) :
   ∀ (fuel : Nat) (listed : Array Bool) (a : Act) (w : World), wpAny P md ops Q fuel listed a w → wpAnyIn (Fence.wide.inRound l) n P md ops Q fuel listed a w:=by
 intro fuel
 induction fuel with
 | zero => exact fun listed a w h => h
 | succ fuel ih =>
   intro listed a w h
   refine ⟨h.1, fun i hi => ?_⟩
   have hw:=h.2 i hi
   unfold wpOp at hw
   unfold wpOpIn
   cases ho : ops[i]? with
   | none => rw [ho] at hw; exact ih _ _ _ hw
   | some o =>
     rw [ho] at hw
     by_cases hwant : Region.wanted o (yielded ops a.tmps) = true
     · simp only [hwant, if_true] at hw ⊢
       exact oper_in (hd i o · ho) (ih _) (hw.resolve_right fun h => hlo h.2)
     · simp only [hwant, if_false, Bool.false_eq_true] at hw ⊢
       exact ⟨fun _ _ => trivial, ih _ _ _ hw⟩
theorem start_in {P : Program} {ops : Array Oper} {Q : Exit → Act → World → Prop} {S : World → Prop} {ds : List Nat} {l n0 id n : Nat} {a : Act} {w : World} (lst : Array Bool) (hm : P.follows .mixedOrders = true)
   (hd : (ops.toList.all fun o => match o.op with | .defer _ => false | _ => true) = true) (hlo : ¬ LetsOut Q) (hn : ops.size = n) (hl : Array.replicate n false = lst) (hS : S w.drew)
   (h : S w.drew → Go.Proofs.YtacknhbgfijkcaaGreatDoorW.PrintLast.wpAnyLast P .any ops Q S ds n lst a w.drew) : (Code.region id ops true).wpIn (Fence.wide.inRound l) n0 P Q a w:=by
 subst hn
 subst hl
 refine wpIn_region_any hm (any_in (fun i o c ho e => ?_) hlo _ _ _ _ (Go.Proofs.YtacknhbgfijkcaaGreatDoorW.PrintLast.wpAny_of_last _ _ _ _ (h hS)))
 have:=List.all_eq_true.1 hd o (by simpa using Array.mem_of_getElem? ho)
 rw [e] at this
 cases this
end Go.Proofs.YtacknhbgfijkcaaGreatDoor
end
section
/- field.Pairs in plain words: what stands between semicolons, trimmed: a name (in small letters) and a value. -/
namespace Go.Proofs.YtacknhbgfijkcaaGreatDoor
open Go Go.RowKit Go.Shelf Go.Proofs Go.Proofs.YtacknhbgfijkcaaGreatDoorW.PrintWords Go.Proofs.YtacknhbgfijkcaaGreatDoorW.PrintLast Go.Proofs.YtacknhbgfijkcaaGreatDoorW.PrintMore
attribute [local go_sem] Oper.semAt_some
def pairB (x : ByteArray) : ByteArray × ByteArray:=(⟨(lowL (trimL (cutA 61 (trimL x.data.toList)))).toArray⟩, ⟨(trimL (cutZ 61 (trimL x.data.toList))).toArray⟩)
def pairsF (ps : List ByteArray) : List (ByteArray × ByteArray):=(ps.filter fun x => decide (trimL x.data.toList ≠ [])).map pairB
def pairCells (p : ByteArray × ByteArray) : List Value:=[.string p.1, .string p.2]
theorem pairs_hit (pre : List ByteArray) (x : ByteArray) (h : trimL x.data.toList ≠ []) : pairsF (pre ++ [x]) = pairsF pre ++ [pairB x]:=by
 simp [pairsF, h]
theorem pairs_miss (pre : List ByteArray) (x : ByteArray) (h : trimL x.data.toList = []) : pairsF (pre ++ [x]) = pairsF pre:=by
 simp [pairsF, h]
theorem pairs_len (pre : List ByteArray) : (pairsF pre).length ≤ pre.length:=by
 unfold pairsF
 rw [List.length_map]
 exact List.length_filter_le _ _
theorem Pairs_info : (Tryz.prog.info? 229).map (fun i => (i.zero, i.size, i.bytes)) = some (some (.agg #[.string ⟨#[]⟩, .string ⟨#[]⟩]), 2, 32):=by kernel_rfl
end Go.Proofs.YtacknhbgfijkcaaGreatDoor
end
section
/- (an empty row is nil) field.Pairs in plain words: what stands between semicolons, trimmed: a name (in small letters) and a value. -/
namespace Go.Proofs.YtacknhbgfijkcaaGreatDoor
open Go Go.RowKit Go.Shelf Go.Proofs Go.Proofs.YtacknhbgfijkcaaGreatDoorW.PrintWords Go.Proofs.YtacknhbgfijkcaaGreatDoorW.PrintLast Go.Proofs.YtacknhbgfijkcaaGreatDoorW.PrintMore
attribute [local go_sem] Oper.semAt_some
theorem BoxOwn.imp {bs B b : Nat} {t : TypeId} (hne : b ≠ bs) : BoxOwn bs B (fun (pre : List ByteArray) W => pairsF pre = [] → Boxed W b t (.slice none 0 0)) :=
 fun s W W' row hs hg hr e => boxBlock_kept hg hr (hs e) rfl hne
set_option maxRecDepth 100000 in
set_option maxHeartbeats 4000000 in
theorem Pairs_calls2 (s : ByteArray) (hn : s.size ≤ 1099511627776) (w : World) :
   Calls Tryz.prog 126 #[.string s] w fun e w' => ∃ v, e = .returned v ∧ w'.ownsRow w.heap.size 229 2 v (pairsF (pieces 59 s)).length ((pairsF (pieces 59 s)).flatMap pairCells) ∧ Below w.heap.size w w' ∧ (pairsF (pieces 59 s) = [] → v = .slice none 0 0):=by
 refine (callsIn_wide (n:=4)).1 ?_
 refine callsIn_of_wp_marks Tryz.func126 rfl trivial ?_ rfl
 simp only [Tryz.ntmps126, List.size_toArray, List.length_cons, List.length_nil, Nat.reduceAdd, Nat.reduceSub, Array.replicate_succ, Array.replicate_zero, List.push_toArray, List.append_toArray, List.nil_append, List.cons_append]
 gi_wp2_with (refine ⟨trivial, ?_⟩; gi_at_call 135; refine (callsIn_wide.2 (SplitSeq_any _ _ _)).mono ?_; rintro e w' ⟨rfl, rfl⟩)
 obtain ⟨W0, hW0⟩ : ∃ W0, (((w.alloc (.cells #[.slice none 0 0] 227)).alloc (.cells #[.string s] 9)).alloc (.cells #[.string ⟨#[59]⟩] 9)).alloc (.cells #[.int .i64 0] 3) = W0:=⟨_, rfl⟩
 have hs0 : W0.heap.size = w.heap.size + 4:=by rw [← hW0]; simp
 have hbx : Boxes (w.heap.size + 1) 59 s W0:=by
   have:=boxes_new s 59 (w.alloc (.cells #[.slice none 0 0] 227)); rw [World.size_alloc] at this; rw [← hW0]; exact this
 have hbl : Below w.heap.size w W0:=by
   rw [← hW0]; exact ((((Below.refl _ w).alloc (Nat.le_refl _) _).alloc (by simp) _).alloc (by simp; omega) _).alloc (by simp; omega) _
 have hk2 : Boxed W0 w.heap.size 227 (.slice none 0 0):=by
   rw [← hW0]; exact (((Boxed.new w _ _).alloc _).alloc _).alloc _
 rw [hW0]
 clear hW0
 have hsz:=Lib.hid (Lib.size_eq s)
 refine wpIn_rangeBox rfl (by omega) (gf:=274) rfl trivial (enters_of Tryz.func274 (by kernel_rfl) rfl) (bs:=w.heap.size + 1) (lo:=w.heap.size + 1) (xs0:=pieces 59 s)
   (splitSeq1_box _ (by omega) _ _ _ _ (by omega) (by omega) hbx) (by omega) (by omega) rfl
   (fun pre W => (∃ v, Boxed W w.heap.size 227 v ∧ W.ownsRow (w.heap.size + 4) 229 2 v (pairsF pre).length ((pairsF pre).flatMap pairCells)) ∧ Below w.heap.size w W ∧ (pairsF pre = [] → Boxed W w.heap.size 227 (.slice none 0 0)))
   (fun c pre W => False)
   ((BoxOwn.holds (fun pre => (pairsF pre).length) (fun pre => (pairsF pre).flatMap pairCells) (by omega) (by omega)).and ((BoxOwn.below (Nat.le_refl _) (by omega) (by omega)).and (BoxOwn.imp (by omega))))
   (fun c => BoxOwn.pure)
   ⟨⟨_, hk2, World.ownsRow_nil _ _ _ _⟩, hbl, fun _ => hk2⟩
   (fun x => { tmps:=#[.string s, undef, .slice none 0 0, .pointer (some ⟨w.heap.size, 0, none⟩), .string x, undef, undef, undef, .string s, .func (.func 274) #[] #[.pointer (some ⟨w.heap.size + 1 + 1, 0, none⟩), .pointer (some ⟨w.heap.size + 1, 0, none⟩), .pointer (some ⟨w.heap.size + 1 + 2, 0, none⟩)], .string x, undef, undef, undef, undef, undef, undef, undef, undef, undef, undef, undef, undef, undef, undef, undef, undef, undef, undef, undef, undef], defers:=[] }) ?assign ?body ?done ?stop
 case assign =>
   intro l x W K hK
   gi_wp2
   exact hK
 case body =>
   rintro l pre x W ⟨⟨v, hv, hrow⟩, hb, hnil⟩ hpre hle
   have hx : x.size ≤ 140737488355328:=by
     have : x ∈ pieces 59 s:=hpre.subset (by simp)
     have:=piece_size 59 _ _ _ this
     omega
   have hlen : (pairsF pre).length + 1 ≤ 1099511627777:=by
     have h1:=hpre.length_le
     have h2:=congrArg List.length (pieces_split 59 s)
     rw [List.length_map, splitL_length] at h2
     have h3:=count_size s 59
     have h4:=pairs_len pre
     simp only [List.length_append, List.length_cons, List.length_nil] at h1
     omega
   obtain ⟨T, hT⟩ : ∃ T : ByteArray, (⟨(trimL x.data.toList).toArray⟩ : ByteArray) = T:=⟨_, rfl⟩
   have hTl : T.data.toList = trimL x.data.toList:=by rw [← hT]
   have hTs : T.size ≤ 140737488355328:=by
     have:=trimL_len x.data.toList
     rw [Lib.size_eq] at hx ⊢
     rw [hTl]; omega
   have hTc:=trim_calls x hx
   rw [hT] at hTc
   by_cases hE : trimL x.data.toList = []
   · have hE1 : (T.toList == ([] : List UInt8)) = true:=by rw [Go.ByteArray.toList_eq, hTl]; exact beq_iff_eq.2 hE
     have hE2 : T.toList.isEmpty = true:=by rw [Go.ByteArray.toList_eq, hTl]; exact List.isEmpty_iff.2 hE
     gi_wp2_with (first
       | (refine ⟨trivial, ?_⟩; gi_at_call 136; refine (CallsIn.inRound l (callsIn_wide.2 (hTc _))).mono ?_; rintro e w1 ⟨rfl, hb3⟩))
     refine ⟨keepsFrom_below hb3, KeepB.below hb3 (by omega), ⟨v, (boxed_below hv hb3), ?_⟩, hb.trans (hb3.mono hb.size), fun e => boxed_below (hnil (by rw [← pairs_miss pre x hE]; exact e)) hb3⟩
     rw [pairs_miss pre x hE]; exact ownsRow_below hrow hb3
   · have hE1 : (T.toList == ([] : List UInt8)) = false:=by rw [Go.ByteArray.toList_eq, hTl]; exact beq_eq_false_iff_ne.2 hE
     have hE2 : T.toList.isEmpty = false:=by rw [Go.ByteArray.toList_eq, hTl]; exact Bool.eq_false_iff.2 fun h => hE (List.isEmpty_iff.1 h)
     obtain ⟨bc, hcut⟩:=cut_calls T 61 hTs
     obtain ⟨A, hA⟩ : ∃ A : ByteArray, (⟨(cutA 61 T.data.toList).toArray⟩ : ByteArray) = A:=⟨_, rfl⟩
     obtain ⟨Z, hZ⟩ : ∃ Z : ByteArray, (⟨(cutZ 61 T.data.toList).toArray⟩ : ByteArray) = Z:=⟨_, rfl⟩
     rw [hA, hZ] at hcut
     have hAl : A.data.toList = cutA 61 (trimL x.data.toList):=by rw [← hA, hTl]
     have hZl : Z.data.toList = cutZ 61 (trimL x.data.toList):=by rw [← hZ, hTl]
     have hAs : A.size ≤ 140737488355328:=by
       have:=cutA_len 61 (trimL x.data.toList)
       rw [Lib.size_eq] at hTs ⊢
       rw [hAl]; rw [hTl] at hTs; omega
     have hZs : Z.size ≤ 140737488355328:=by
       have:=cutZ_len 61 (trimL x.data.toList)
       rw [Lib.size_eq] at hTs ⊢
       rw [hZl]; rw [hTl] at hTs; omega
     have hA1:=trim_calls A hAs
     have hA2:=item_calls A hAs
     have hZ1:=trim_calls Z hZs
     have hpair : pairB x = (itemB A, ⟨(trimL Z.data.toList).toArray⟩):=by unfold pairB itemB itemL; rw [hAl, hZl]
     have HP:=Lib.hid hpair
     clear hpair hAl hZl hA hZ hT hTl hTs
     gi_wp2_with (first
       | (refine ⟨trivial, ?_⟩; gi_at_call 136; refine (CallsIn.inRound l (callsIn_wide.2 (hTc _))).mono ?_; rintro e w1 ⟨rfl, hb1⟩)
       | (refine ⟨trivial, ?_⟩; gi_at_call 32; refine (CallsIn.inRound l (callsIn_wide.2 (hcut _))).mono ?_; rintro e w3 ⟨rfl, ⟨nd, rfl⟩⟩; have hb3:=pw_below_drewN hb1 nd; clear hb1; generalize World.drewN _ nd = w3 at *))
     have hv3:=boxed_below hv hb3
     refine start_in (n:=10) (S:=fun w' => w'.cell? ⟨w.heap.size, 0, none⟩ = some v) (ds:=[9]) #[false, false, false, false, false, false, false, false, false, false] (by kernel_rfl) rfl (by rintro ⟨a, w, h⟩; exact h) rfl rfl hv3.cell (fun hHeld => ?_)
     have hb4:=below_drew1 hb3
     clear hb3 hv3
     generalize World.drew w3 = w4 at *
     refine pure_ (i:=1) (N:=some 22) (v:=?_) (a':=?_) #[false, true, false, false, false, false, false, false, false, false] rfl rfl (by kernel_rfl) (fun _ _ _ h => h) (Or.inl ⟨by rfl, ?_⟩) ?_ ?_
     rotate_left
     · intro w'
       go_simp
       with_reducible rfl
     rotate_left
     · simp only [Act.put, List.setIfInBounds_toArray, List.set_cons_zero, List.set_cons_succ]
       rfl
     refine pure_ (i:=4) (N:=some 25) (v:=?_) (a':=?_) #[false, true, false, false, true, false, false, false, false, false] rfl rfl (by kernel_rfl) (fun _ _ _ h => h) (Or.inl ⟨by rfl, ?_⟩) ?_ ?_
     rotate_left
     · intro w'
       go_simp
       with_reducible rfl
     rotate_left
     · simp only [Act.put, List.setIfInBounds_toArray, List.set_cons_zero, List.set_cons_succ]
       rfl
     refine take_ (i:=0) (N:=some 21) (v:=?_) (a':=?_) #[true, true, false, false, true, false, false, false, false, false] rfl rfl (by kernel_rfl) (fun _ _ _ h => h) (Or.inl ⟨by rfl, ?_⟩) hHeld ?_ ?_
     rotate_left
     · rintro w' s0
       go_simp
       with_reducible rfl
     rotate_left
     · simp only [Act.put, List.setIfInBounds_toArray, List.set_cons_zero, List.set_cons_succ]
       rfl
     refine one_ (i:=2) (N:=some 23) #[true, true, true, false, true, false, false, false, false, false] rfl rfl (by kernel_rfl) (by decide) (fun K hK => ?_)
     refine goes_ Tryz.func136 (by kernel_rfl) rfl #[.string A] (by rfl) rfl rfl (by (try simp only [List.map_toArray, List.map_cons, List.map_nil]); first | done | rfl) ?_
     refine (hA1 _).mono ?_
     rintro e w5 ⟨rfl, hbn⟩
     refine ⟨_, rfl, ?_⟩
     have hbw5:=hb4.trans (hbn.mono hb4.size)
     clear hbn
     refine hK.out _ _ (boxed_below hv hbw5).cell (fun hHeld => ?_)
     clear hK K
     refine norm_ (a':=?_) ?_ ?_
     rotate_left
     · show Act.put _ (some 23) _ = _
       simp only [Act.put, List.setIfInBounds_toArray, List.set_cons_zero, List.set_cons_succ]
       rfl
     refine one_ (i:=3) (N:=some 24) #[true, true, true, true, true, false, false, false, false, false] rfl rfl (by kernel_rfl) (by decide) (fun K hK => ?_)
     refine goes_ Tryz.func71 (by kernel_rfl) rfl #[.string _] (by rfl) rfl rfl (by (try simp only [List.map_toArray, List.map_cons, List.map_nil]); first | done | rfl) ?_
     refine (hA2 _).mono ?_
     rintro e w6 ⟨rfl, hbn⟩
     refine ⟨_, rfl, ?_⟩
     have hbw6:=hbw5.trans (hbn.mono hbw5.size)
     clear hbn
     refine hK.out _ _ (boxed_below hv hbw6).cell (fun hHeld => ?_)
     clear hK K
     refine norm_ (a':=?_) ?_ ?_
     rotate_left
     · show Act.put _ (some 24) _ = _
       simp only [Act.put, List.setIfInBounds_toArray, List.set_cons_zero, List.set_cons_succ]
       rfl
     refine one_ (i:=5) (N:=some 26) #[true, true, true, true, true, true, false, false, false, false] rfl rfl (by kernel_rfl) (by decide) (fun K hK => ?_)
     refine goes_ Tryz.func136 (by kernel_rfl) rfl #[.string Z] (by rfl) rfl rfl (by (try simp only [List.map_toArray, List.map_cons, List.map_nil]); first | done | rfl) ?_
     refine (hZ1 _).mono ?_
     rintro e w7 ⟨rfl, hbn⟩
     refine ⟨_, rfl, ?_⟩
     have hbw7:=hbw6.trans (hbn.mono hbw6.size)
     clear hbn
     refine hK.out _ _ (boxed_below hv hbw7).cell (fun hHeld => ?_)
     clear hK K
     refine norm_ (a':=?_) ?_ ?_
     rotate_left
     · show Act.put _ (some 26) _ = _
       simp only [Act.put, List.setIfInBounds_toArray, List.set_cons_zero, List.set_cons_succ]
       rfl
     refine pure_ (i:=6) (N:=some 27) (v:=?_) (a':=?_) #[true, true, true, true, true, true, true, false, false, false] rfl rfl (by kernel_rfl) (fun _ _ _ h => h) (Or.inl ⟨by rfl, ?_⟩) ?_ ?_
     rotate_left
     · intro w'
       go_simp
       with_reducible rfl
     rotate_left
     · simp only [Act.put, List.setIfInBounds_toArray, List.set_cons_zero, List.set_cons_succ]
       rfl
     refine one_ (i:=7) (N:=some 28) #[true, true, true, true, true, true, true, true, false, false] rfl rfl (by kernel_rfl) (by decide) (fun K hK => ?_)
     go_simp
     have hv7:=boxed_below hv hbw7
     have hr7:=ownsRow_below hrow hbw7
     have hs7:=hbw7.size
     refine hK.out _ _ (hv7.alloc _).cell (fun hHeld => ?_)
     clear hK K
     refine one_ (i:=8) (N:=some 29) #[true, true, true, true, true, true, true, true, true, false] rfl rfl (by kernel_rfl) (by decide) (fun K hK => ?_)
     refine step_append_cells (w0:=w7) (W:=w7) (w.heap.size + 4) (by rfl) (.tmp 21) (.tmp 28) 227 229 (.agg #[.string ⟨#[]⟩, .string ⟨#[]⟩]) 2 32 rfl Tryz.underlying227 Pairs_info (by rfl) (by decide) (by decide) v _ _ [.string (itemB A), .string ⟨(trimL Z.data.toList).toArray⟩] (by rfl) (by rfl) rfl (by simp [Value.oneCell']) hr7 (Below.refl _ _) (by omega) (by omega) ?_
     intro v1 w8 hown8 _ hg8 _
     obtain ⟨g', cap', rfl⟩:=ownsRow_succ hown8
     have hv8:=hv7.kept hg8 (hv7.not_row (by decide) hr7)
     refine hK.out _ _ hv8.cell (fun hHeld => ?_)
     clear hK K
     have hc8:=hv8.cell
     have hf8:=hv8.frozen
     refine last_ (i:=9) (N:=none) #[true, true, true, true, true, true, true, true, true, true] rfl rfl (by kernel_rfl) (by decide) (fun K hK => ?_)
     go_simp
     refine hK.out _ _ ?_
     clear hK K
     refine done_ (by kernel_rfl) ?_
     have hset:=KeepsOthers.setCell w8 ⟨w.heap.size, 0, none⟩ (.slice (some ⟨g', 0, none⟩) ((pairsF pre).length + 1) cap')
     have hrg : ∀ r, v.ownBlock = some r → w.heap.size + 4 ≤ r ∧ ∃ o : Obj, w7.heap[r]? = some o ∧ o.isCells = true:=by
       intro r e
       rcases hr7.2 with ⟨rfl, _⟩ | ⟨g, cap, cur, rfl, hgb, hh, _⟩
       · simp [Value.ownBlock] at e
       · obtain rfl : g = r:=by simpa [Value.ownBlock] using e
         exact ⟨hgb, _, hh, rfl⟩
     have hk8 : KeepsOthers w7 w8:=KeepsOthers.of_grownBy hg8 fun j o ej hj => by
       obtain ⟨_, o', ho', hc'⟩:=hrg j ej
       rw [hj] at ho'; cases ho'; exact hc'
     have hb8 : Below w.heap.size w w8:=(hb.trans (hbw7.mono hb.size)).grown hg8 (by omega) (fun r e => by have:=(hrg r e).1; omega)
     refine ⟨(keepsFrom_below hbw7).trans ((hk8.trans hset).from _), ((KeepB.below hbw7 (by omega)).trans ((KeepB.grown hg8 (by omega) (fun r e => by have:=(hrg r e).1; omega)).trans (KeepB.setCell _ _ _ (.inl (by simp))))), ⟨_, hv8.set _, ?_⟩, hb8.setCell (p:=⟨w.heap.size, 0, none⟩) (Nat.le_refl _) _, fun e => by rw [pairs_hit pre x hE] at e; simp at e⟩
     rw [pairs_hit pre x hE, HP.out]
     have hr6:=hown8.kept (grownBy_setCell' w8 w.heap.size (.slice (some ⟨g', 0, none⟩) ((pairsF pre).length + 1) cap')) (.inr (hv8.not_row (by decide) hown8).symm)
     simpa [pairCells] using hr6
 case done =>
   rintro D W hD ⟨⟨v, hv, hrow⟩, hb, hnil⟩ hK
   have hnv : pairsF (pieces 59 s) = [] → v = .slice none 0 0:=fun e => by
     have h1:=hnil e
     have h2 : some (Obj.cells #[v] 227 (0, 0)) = some (Obj.cells #[.slice none 0 0] 227 (0, 0)):=hv.symm.trans h1
     simpa using h2
   obtain ⟨oa, k0, c0, rfl⟩ : ∃ oa k0 c0, v = .slice oa k0 c0:=by
     rcases hrow.2 with ⟨rfl, _⟩ | ⟨g, cap, cur, rfl, _, _, _⟩
     · exact ⟨_, _, _, rfl⟩
     · exact ⟨_, _, _, rfl⟩
   have e2:=hv.cell
   have HR:=Lib.hid hrow
   clear hrow
   gi_wp2
   refine ⟨by simp, .inl ⟨_, _, rfl, run_takeDeferred hK, ?_⟩⟩
   exact ⟨_, results_tmp rfl _ _ _, _, rfl, ownsRow_lower (ownsRow_putObj HR.out _ hK rfl) (by omega), hb.trans (belowK_b (w:=w) (Nat.le_refl _) _ D _ _ (by omega) hK rfl rfl), by exact hnv⟩
 case stop => rintro D c pre W hD hpre h _; exact h.elim
end Go.Proofs.YtacknhbgfijkcaaGreatDoor
end
section
namespace Go.Proofs.YtacknhbgfijkcaaGreatDoor.BU
open Go.RowKit Go.Proofs.YtacknhbgfijkcaaGreatDoorW.PrintWords Go.Proofs.YtacknhbgfijkcaaGreatDoorW.PrintLast Go.Proofs.YtacknhbgfijkcaaGreatDoorW.PrintMore
attribute [local go_sem] max2_int min2_int max_two min_two max_three min_three max_four min_four
def errW : Option Int → Value
 | none => .nilIface
 | some c => .iface 0 (.int .i64 c)
theorem errW_none : errW none = .nilIface:=rfl
theorem errW_some (c : Int) : errW (some c) = .iface 0 (.int .i64 c):=rfl
end Go.Proofs.YtacknhbgfijkcaaGreatDoor.BU
end
section
namespace Go.Proofs.YtacknhbgfijkcaaGreatDoor.BU
open Go.RowKit Go.Proofs.YtacknhbgfijkcaaGreatDoorW.PrintWords Go.Proofs.YtacknhbgfijkcaaGreatDoorW.PrintLast Go.Proofs.YtacknhbgfijkcaaGreatDoorW.PrintMore
attribute [local go_sem] max2_int min2_int max_two min_two max_three min_three max_four min_four
def url_plain.f (a0 : Int) : Option (Bool):=if a0 ≥ 97 then (if a0 ≤ 122 then (some true) else (if a0 ≥ 48 then (some (decide (a0 ≤ 57))) else (some false))) else (if a0 ≥ 48 then (some (decide (a0 ≤ 57))) else (some false))
set_option maxHeartbeats 2000000 in
set_option maxRecDepth 100000 in
theorem url_plain.calls (a0 : Int) (r : Bool) (w : World) (h : url_plain.f a0 = some r) :
   Calls Tryz.prog 131 #[.int .u8 a0] w fun e w' => e = .returned (.bool r) ∧ Drawn0 w w':=by
 have H : (if a0 ≥ 97 then (if a0 ≤ 122 then (some true) else (if a0 ≥ 48 then (some (decide (a0 ≤ 57))) else (some false))) else (if a0 ≥ 48 then (some (decide (a0 ≤ 57))) else (some false))) = some r:=h
 clear h
 by_cases c2 : a0 ≥ 97
 · rw [if_pos c2] at H
   have c2b0 : decide (97 ≤ a0) = true:=decide_eq_true c2
   clear c2
   by_cases c3 : a0 ≤ 122
   · rw [if_pos c3] at H
     have c3b0 : decide (a0 ≤ 122) = true:=decide_eq_true c3
     clear c3
     obtain rfl:=Option.some.inj H
     go_enter Tryz.func131, Tryz.ntmps131
     go_wp2
     go_ret
     exact ⟨by first | rfl | (simp; done) | (simp [*]; done) | (simp [isEmpty_bne, isEmpty_beq]; done) | (simp [*, isEmpty_bne, isEmpty_beq]; done), by repeat (first | exact Drawn0.refl _ | apply Drawn0.step)⟩
   · rw [if_neg c3] at H
     have c3b0 : decide (a0 ≤ 122) = false:=decide_eq_false c3
     clear c3
     by_cases c4 : a0 ≥ 48
     · rw [if_pos c4] at H
       have c4b0 : decide (48 ≤ a0) = true:=decide_eq_true c4
       clear c4
       obtain rfl:=Option.some.inj H
       go_enter Tryz.func131, Tryz.ntmps131
       go_wp2
       go_ret
       exact ⟨by first | rfl | (simp; done) | (simp [*]; done) | (simp [isEmpty_bne, isEmpty_beq]; done) | (simp [*, isEmpty_bne, isEmpty_beq]; done), by repeat (first | exact Drawn0.refl _ | apply Drawn0.step)⟩
     · rw [if_neg c4] at H
       have c4b0 : decide (48 ≤ a0) = false:=decide_eq_false c4
       clear c4
       obtain rfl:=Option.some.inj H
       go_enter Tryz.func131, Tryz.ntmps131
       go_wp2
       go_ret
       exact ⟨by first | rfl | (simp; done) | (simp [*]; done) | (simp [isEmpty_bne, isEmpty_beq]; done) | (simp [*, isEmpty_bne, isEmpty_beq]; done), by repeat (first | exact Drawn0.refl _ | apply Drawn0.step)⟩
 · rw [if_neg c2] at H
   have c2b0 : decide (97 ≤ a0) = false:=decide_eq_false c2
   clear c2
   by_cases c5 : a0 ≥ 48
   · rw [if_pos c5] at H
     have c5b0 : decide (48 ≤ a0) = true:=decide_eq_true c5
     clear c5
     obtain rfl:=Option.some.inj H
     go_enter Tryz.func131, Tryz.ntmps131
     go_wp2
     go_ret
     exact ⟨by first | rfl | (simp; done) | (simp [*]; done) | (simp [isEmpty_bne, isEmpty_beq]; done) | (simp [*, isEmpty_bne, isEmpty_beq]; done), by repeat (first | exact Drawn0.refl _ | apply Drawn0.step)⟩
   · rw [if_neg c5] at H
     have c5b0 : decide (48 ≤ a0) = false:=decide_eq_false c5
     clear c5
     obtain rfl:=Option.some.inj H
     go_enter Tryz.func131, Tryz.ntmps131
     go_wp2
     go_ret
     exact ⟨by first | rfl | (simp; done) | (simp [*]; done) | (simp [isEmpty_bne, isEmpty_beq]; done) | (simp [*, isEmpty_bne, isEmpty_beq]; done), by repeat (first | exact Drawn0.refl _ | apply Drawn0.step)⟩
end Go.Proofs.YtacknhbgfijkcaaGreatDoor.BU
end
section
namespace Go.Proofs.YtacknhbgfijkcaaGreatDoor.BU
open Go.RowKit Go.Proofs.YtacknhbgfijkcaaGreatDoorW.PrintWords Go.Proofs.YtacknhbgfijkcaaGreatDoorW.PrintLast Go.Proofs.YtacknhbgfijkcaaGreatDoorW.PrintMore
attribute [local go_sem] max2_int min2_int max_two min_two max_three min_three max_four min_four
def url_label.l0 : Nat → ByteArray → Int → Int → Option (Bool)
 | 0, _, _, _ => none
 | k + 1, x0, x5, x6 => if x6 < x5 then (if 0 ≤ x6 then (if x6 < (x0.size : Int) then ((url_plain.f (bt x0 x6)).bind fun t101 => (if t101 = true then (url_label.l0 k x0 x5 (wrap64 (x6 + 1))) else (if (bt x0 x6) = 45 then (if x6 = 0 then (some false) else (if x6 = (wrap64 ((x0.size : Int) - 1)) then (some false) else (url_label.l0 k x0 x5 (wrap64 (x6 + 1))))) else (some false)))) else (none)) else (none)) else (if (x0.size : Int) ≥ 1 then (some (decide ((x0.size : Int) ≤ 20))) else (some false))
def url_label.f (k : Nat) (a0 : ByteArray) : Option (Bool):=url_label.l0 k a0 (a0.size : Int) 0
theorem url_label.mono_l : ∀ k, (∀ y0 y1 y2, LeO (url_label.l0 k y0 y1 y2) (url_label.l0 (k + 1) y0 y1 y2))
 | 0 => fun _ _ _ r h => by simp [url_label.l0] at h
 | k + 1 => by
   have ih0:=url_label.mono_l k
   · intro y0 y1 y2
     unfold url_label.l0
     repeat' first
     | (with_reducible exact ih0 _ _ _)
     | (with_reducible exact LeO.refl _)
     | (with_reducible exact LeO.none _)
     | (with_reducible refine LeO.ite ?_ ?_)
     | (with_reducible refine LeO.bind ?_ (fun _ => ?_))
     | exact ih0 _ _ _
     | exact LeO.none _
     | refine LeO.ite ?_ ?_
     | refine LeO.bind ?_ (fun _ => ?_)
theorem url_label.mono : ∀ a0 k, LeO (url_label.f k a0) (url_label.f (k + 1) a0):=by
 intro a0 k
 have ih0:=url_label.mono_l k
 unfold url_label.f
 repeat' first
     | (with_reducible exact ih0 _ _ _)
     | (with_reducible exact LeO.refl _)
     | (with_reducible exact LeO.none _)
     | (with_reducible refine LeO.ite ?_ ?_)
     | (with_reducible refine LeO.bind ?_ (fun _ => ?_))
     | exact ih0 _ _ _
     | exact LeO.none _
     | refine LeO.ite ?_ ?_
     | refine LeO.bind ?_ (fun _ => ?_)
set_option maxHeartbeats 2000000 in
set_option maxRecDepth 100000 in
theorem url_label.calls (k : Nat) (a0 : ByteArray) (r : Bool) (w : World) (h : url_label.f k a0 = some r) :
   Calls Tryz.prog 216 #[.string a0] w fun e w' => e = .returned (.bool r) ∧ Drawn0 w w':=by
 have H : (url_label.l0 k a0 (a0.size : Int) 0) = some r:=h
 clear h
 have H':=Aside0.mk H
 clear H
 go_enter Tryz.func216, Tryz.ntmps216
 go_wp2
 go_loopg [6] k (fun kq v6 w' => ∃ (x6_1 : Int), v6 = .int .i64 x6_1 ∧ Aside0 (url_label.l0 kq a0 (a0.size : Int) x6_1 = some r) ∧ Aside0 (kq ≤ k) ∧ Drawn0 w w')
 case atStart => exact ⟨(0), (by first | rfl | (simp; done) | (simp [*]; done) | (simp [isEmpty_bne, isEmpty_beq]; done) | (simp [*, isEmpty_bne, isEmpty_beq]; done)), H', ⟨Nat.le_refl _⟩, by repeat (first | exact Drawn0.refl _ | apply Drawn0.step)⟩
 case round =>
   clear H'
   obtain ⟨x6_1, rfl, HA, HK1, ⟨m1, rfl⟩⟩:=hrel
   cases gk with
   | zero => exact absurd HA.out (by simp [url_label.l0])
   | succ k1 =>
     have H:=HA.out
     clear HA
     simp only [url_label.l0] at H
     by_cases c2 : x6_1 < (a0.size : Int)
     · rw [if_pos c2] at H
       have c2b0 : decide (x6_1 < (a0.size : Int)) = true:=decide_eq_true c2
       clear c2
       by_cases c3 : 0 ≤ x6_1
       · rw [if_pos c3] at H
         have c3b0 : decide (0 ≤ x6_1) = true:=decide_eq_true c3
         clear c3
         by_cases c4 : x6_1 < (a0.size : Int)
         · rw [if_pos c4] at H
           have c4b0 : decide (x6_1 < (a0.size : Int)) = true:=decide_eq_true c4
           clear c4
           replace H:=Option.bind_eq_some_iff.mp H
           obtain ⟨t101, A60, H⟩:=H
           replace H : (if t101 = true then (url_label.l0 k1 a0 (a0.size : Int) (wrap64 (x6_1 + 1))) else (if (bt a0 x6_1) = 45 then (if x6_1 = 0 then (some false) else (if x6_1 = (wrap64 ((a0.size : Int) - 1)) then (some false) else (url_label.l0 k1 a0 (a0.size : Int) (wrap64 (x6_1 + 1))))) else (some false))) = some r:=H
           have A6:=Aside0.mk A60
           clear A60
           by_cases c7 : t101 = true
           · subst c7
             have H1 : (url_label.l0 k1 a0 (a0.size : Int) (wrap64 (x6_1 + 1))) = some r:=by rw [if_pos rfl] at H; exact H
             clear H
             have H:=H1
             clear H1
             have H':=Aside0.mk H
             clear H
             have p5 : 0 ≤ (x6_1 : Int):=of_decide_eq_true (by first | (with_reducible assumption) | assumption)
             have q5 : x6_1 < (a0.size : Int):=of_decide_eq_true (by first | (with_reducible assumption) | assumption)
             have hx5:=bt_at a0 x6_1
             replace p5:=eq_true p5
             replace q5:=eq_true q5
             go_wp2_with (first | ((with_reducible refine gate_callee (f:=131) rfl ?_); refine goesL_ (some 12) rfl rfl Tryz.func131 (by kernel_rfl) rfl #[.int .u8 (bt a0 x6_1)] rfl (by (try simp only [List.map_toArray, List.map_cons, List.map_nil]); first | done | rfl | (simp only [List.length_drop, List.length_take]; rfl)) ?_; (with_reducible refine (url_plain.calls (bt a0 x6_1) true _ A6.out).mono ?_); rintro e w' ⟨rfl, ⟨nd, rfl⟩⟩; refine ⟨_, rfl, ?_⟩))
             go_roundg k1
             case measure => have:=HK1.out; omega
             case rel => exact ⟨(wrap64 (x6_1 + 1)), (by first | rfl | (simp; done) | (simp [*]; done) | (simp [isEmpty_bne, isEmpty_beq]; done) | (simp [*, isEmpty_bne, isEmpty_beq]; done)), H', ⟨by have:=HK1.out; omega⟩, by repeat (first | exact Drawn0.refl _ | apply Drawn0.step)⟩
           · replace c7:=Bool.eq_false_iff.mpr c7
             subst c7
             have H1 : (if (bt a0 x6_1) = 45 then (if x6_1 = 0 then (some false) else (if x6_1 = (wrap64 ((a0.size : Int) - 1)) then (some false) else (url_label.l0 k1 a0 (a0.size : Int) (wrap64 (x6_1 + 1))))) else (some false)) = some r:=by rw [if_neg (show ¬ (false = true) by decide)] at H; exact H
             clear H
             have H:=H1
             clear H1
             by_cases c9 : (bt a0 x6_1) = 45
             · rw [if_pos c9] at H
               have c9b0 : ((bt a0 x6_1) == 45) = true:=beq_iff_eq.mpr c9
               have c9b1 : ((bt a0 x6_1) != 45) = false:=bne_eq_false_iff_eq.mpr c9
               clear c9
               by_cases c10 : x6_1 = 0
               · rw [if_pos c10] at H
                 have c10b0 : (x6_1 == 0) = true:=beq_iff_eq.mpr c10
                 have c10b1 : (x6_1 != 0) = false:=bne_eq_false_iff_eq.mpr c10
                 clear c10
                 obtain rfl:=Option.some.inj H
                 have p5 : 0 ≤ (x6_1 : Int):=of_decide_eq_true (by first | (with_reducible assumption) | assumption)
                 have q5 : x6_1 < (a0.size : Int):=of_decide_eq_true (by first | (with_reducible assumption) | assumption)
                 have hx5:=bt_at a0 x6_1
                 replace p5:=eq_true p5
                 replace q5:=eq_true q5
                 go_wp2_with (first | ((with_reducible refine gate_callee (f:=131) rfl ?_); refine goesL_ (some 12) rfl rfl Tryz.func131 (by kernel_rfl) rfl #[.int .u8 (bt a0 x6_1)] rfl (by (try simp only [List.map_toArray, List.map_cons, List.map_nil]); first | done | rfl | (simp only [List.length_drop, List.length_take]; rfl)) ?_; (with_reducible refine (url_plain.calls (bt a0 x6_1) false _ A6.out).mono ?_); rintro e w' ⟨rfl, ⟨nd, rfl⟩⟩; refine ⟨_, rfl, ?_⟩; have p8 : 0 ≤ (x6_1 : Int):=of_decide_eq_true (by first | (with_reducible assumption) | assumption); have q8 : x6_1 < (a0.size : Int):=of_decide_eq_true (by first | (with_reducible assumption) | assumption); have hx8:=bt_at a0 x6_1; replace p8:=eq_true p8; replace q8:=eq_true q8))
                 go_ret
                 exact ⟨by first | rfl | (simp; done) | (simp [*]; done) | (simp [isEmpty_bne, isEmpty_beq]; done) | (simp [*, isEmpty_bne, isEmpty_beq]; done), by repeat (first | exact Drawn0.refl _ | apply Drawn0.step)⟩
               · rw [if_neg c10] at H
                 have c10b0 : (x6_1 == 0) = false:=beq_eq_false_iff_ne.mpr c10
                 have c10b1 : (x6_1 != 0) = true:=bne_iff_ne.mpr c10
                 by_cases c11 : x6_1 = (wrap64 ((a0.size : Int) - 1))
                 · rw [if_pos c11] at H
                   have c11b0 : (x6_1 == (wrap64 ((a0.size : Int) - 1))) = true:=beq_iff_eq.mpr c11
                   have c11b1 : (x6_1 != (wrap64 ((a0.size : Int) - 1))) = false:=bne_eq_false_iff_eq.mpr c11
                   clear c11
                   obtain rfl:=Option.some.inj H
                   have p5 : 0 ≤ (x6_1 : Int):=of_decide_eq_true (by first | (with_reducible assumption) | assumption)
                   have q5 : x6_1 < (a0.size : Int):=of_decide_eq_true (by first | (with_reducible assumption) | assumption)
                   have hx5:=bt_at a0 x6_1
                   replace p5:=eq_true p5
                   replace q5:=eq_true q5
                   go_wp2_with (first | ((with_reducible refine gate_callee (f:=131) rfl ?_); refine goesL_ (some 12) rfl rfl Tryz.func131 (by kernel_rfl) rfl #[.int .u8 (bt a0 x6_1)] rfl (by (try simp only [List.map_toArray, List.map_cons, List.map_nil]); first | done | rfl | (simp only [List.length_drop, List.length_take]; rfl)) ?_; (with_reducible refine (url_plain.calls (bt a0 x6_1) false _ A6.out).mono ?_); rintro e w' ⟨rfl, ⟨nd, rfl⟩⟩; refine ⟨_, rfl, ?_⟩; have p8 : 0 ≤ (x6_1 : Int):=of_decide_eq_true (by first | (with_reducible assumption) | assumption); have q8 : x6_1 < (a0.size : Int):=of_decide_eq_true (by first | (with_reducible assumption) | assumption); have hx8:=bt_at a0 x6_1; replace p8:=eq_true p8; replace q8:=eq_true q8))
                   go_ret
                   exact ⟨by first | rfl | (simp; done) | (simp [*]; done) | (simp [isEmpty_bne, isEmpty_beq]; done) | (simp [*, isEmpty_bne, isEmpty_beq]; done), by repeat (first | exact Drawn0.refl _ | apply Drawn0.step)⟩
                 · rw [if_neg c11] at H
                   have c11b0 : (x6_1 == (wrap64 ((a0.size : Int) - 1))) = false:=beq_eq_false_iff_ne.mpr c11
                   have c11b1 : (x6_1 != (wrap64 ((a0.size : Int) - 1))) = true:=bne_iff_ne.mpr c11
                   have H':=Aside0.mk H
                   clear H
                   have p5 : 0 ≤ (x6_1 : Int):=of_decide_eq_true (by first | (with_reducible assumption) | assumption)
                   have q5 : x6_1 < (a0.size : Int):=of_decide_eq_true (by first | (with_reducible assumption) | assumption)
                   have hx5:=bt_at a0 x6_1
                   replace p5:=eq_true p5
                   replace q5:=eq_true q5
                   go_wp2_with (first | ((with_reducible refine gate_callee (f:=131) rfl ?_); refine goesL_ (some 12) rfl rfl Tryz.func131 (by kernel_rfl) rfl #[.int .u8 (bt a0 x6_1)] rfl (by (try simp only [List.map_toArray, List.map_cons, List.map_nil]); first | done | rfl | (simp only [List.length_drop, List.length_take]; rfl)) ?_; (with_reducible refine (url_plain.calls (bt a0 x6_1) false _ A6.out).mono ?_); rintro e w' ⟨rfl, ⟨nd, rfl⟩⟩; refine ⟨_, rfl, ?_⟩; have p8 : 0 ≤ (x6_1 : Int):=of_decide_eq_true (by first | (with_reducible assumption) | assumption); have q8 : x6_1 < (a0.size : Int):=of_decide_eq_true (by first | (with_reducible assumption) | assumption); have hx8:=bt_at a0 x6_1; replace p8:=eq_true p8; replace q8:=eq_true q8))
                   go_roundg k1
                   case measure => have:=HK1.out; omega
                   case rel => exact ⟨(wrap64 (x6_1 + 1)), (by first | rfl | (simp; done) | (simp [*]; done) | (simp [isEmpty_bne, isEmpty_beq]; done) | (simp [*, isEmpty_bne, isEmpty_beq]; done)), H', ⟨by have:=HK1.out; omega⟩, by repeat (first | exact Drawn0.refl _ | apply Drawn0.step)⟩
             · rw [if_neg c9] at H
               have c9b0 : ((bt a0 x6_1) == 45) = false:=beq_eq_false_iff_ne.mpr c9
               have c9b1 : ((bt a0 x6_1) != 45) = true:=bne_iff_ne.mpr c9
               obtain rfl:=Option.some.inj H
               have p5 : 0 ≤ (x6_1 : Int):=of_decide_eq_true (by first | (with_reducible assumption) | assumption)
               have q5 : x6_1 < (a0.size : Int):=of_decide_eq_true (by first | (with_reducible assumption) | assumption)
               have hx5:=bt_at a0 x6_1
               replace p5:=eq_true p5
               replace q5:=eq_true q5
               go_wp2_with (first | ((with_reducible refine gate_callee (f:=131) rfl ?_); refine goesL_ (some 12) rfl rfl Tryz.func131 (by kernel_rfl) rfl #[.int .u8 (bt a0 x6_1)] rfl (by (try simp only [List.map_toArray, List.map_cons, List.map_nil]); first | done | rfl | (simp only [List.length_drop, List.length_take]; rfl)) ?_; (with_reducible refine (url_plain.calls (bt a0 x6_1) false _ A6.out).mono ?_); rintro e w' ⟨rfl, ⟨nd, rfl⟩⟩; refine ⟨_, rfl, ?_⟩; have p8 : 0 ≤ (x6_1 : Int):=of_decide_eq_true (by first | (with_reducible assumption) | assumption); have q8 : x6_1 < (a0.size : Int):=of_decide_eq_true (by first | (with_reducible assumption) | assumption); have hx8:=bt_at a0 x6_1; replace p8:=eq_true p8; replace q8:=eq_true q8))
               go_ret
               exact ⟨by first | rfl | (simp; done) | (simp [*]; done) | (simp [isEmpty_bne, isEmpty_beq]; done) | (simp [*, isEmpty_bne, isEmpty_beq]; done), by repeat (first | exact Drawn0.refl _ | apply Drawn0.step)⟩
         · rw [if_neg c4] at H
           exact absurd H (by simp)
       · rw [if_neg c3] at H
         exact absurd H (by simp)
     · rw [if_neg c2] at H
       have c2b0 : decide (x6_1 < (a0.size : Int)) = false:=decide_eq_false c2
       clear c2
       by_cases c12 : (a0.size : Int) ≥ 1
       · rw [if_pos c12] at H
         have c12b0 : decide (1 ≤ (a0.size : Int)) = true:=decide_eq_true c12
         have c12b1 : decide (1 ≤ a0.size) = true:=decide_eq_true (by omega)
         clear c12
         obtain rfl:=Option.some.inj H
         go_wp2
         go_ret
         exact ⟨by first | rfl | (simp; done) | (simp [*]; done) | (simp [isEmpty_bne, isEmpty_beq]; done) | (simp [*, isEmpty_bne, isEmpty_beq]; done), by repeat (first | exact Drawn0.refl _ | apply Drawn0.step)⟩
       · rw [if_neg c12] at H
         have c12b0 : decide (1 ≤ (a0.size : Int)) = false:=decide_eq_false c12
         have c12b1 : decide (1 ≤ a0.size) = false:=decide_eq_false (by omega)
         clear c12
         obtain rfl:=Option.some.inj H
         go_wp2
         go_ret
         exact ⟨by first | rfl | (simp; done) | (simp [*]; done) | (simp [isEmpty_bne, isEmpty_beq]; done) | (simp [*, isEmpty_bne, isEmpty_beq]; done), by repeat (first | exact Drawn0.refl _ | apply Drawn0.step)⟩
end Go.Proofs.YtacknhbgfijkcaaGreatDoor.BU
end
section
/- url.label in plain words: small letters, digits, and - neither first nor last; from 1 to 20 bytes. -/
namespace Go.Proofs.YtacknhbgfijkcaaGreatDoor
open Go Go.RowKit Go.Proofs.YtacknhbgfijkcaaGreatDoorW.PrintWords Go.Proofs.YtacknhbgfijkcaaGreatDoorW.PrintLast Go.Proofs.YtacknhbgfijkcaaGreatDoorW.PrintMore
def plainB (c : UInt8) : Bool:=(decide (97 ≤ c.toNat) && decide (c.toNat ≤ 122)) || (decide (48 ≤ c.toNat) && decide (c.toNat ≤ 57))
def labelL (l : List UInt8) : Bool:=l.all (fun c => plainB c || c == 45) && l.head? != some 45 && l.getLast? != some 45 && decide (1 ≤ l.length) && decide (l.length ≤ 20)
theorem bt_list (s : ByteArray) (i : Nat) (h : i < s.data.toList.length) : bt s (i : Int) = (s.data.toList[i].toNat : Int):=by
 have hs : s.data.toList.length = s.size:=(Lib.size_eq s).symm
 rw [← bt_at s i (by simp; omega)]
 rfl
theorem plain_f (c : UInt8) : BU.url_plain.f (c.toNat : Int) = some (plainB c):=by
 unfold BU.url_plain.f plainB
 generalize c.toNat = n
 repeat' split
 all_goals (refine congrArg some ?_; rw [Bool.eq_iff_iff]; simp only [Bool.or_eq_true, Bool.and_eq_true, decide_eq_true_eq, Bool.false_eq_true, eq_self, true_iff, false_iff])
 all_goals omega
def okAt (l : List UInt8) (i : Nat) : Bool:=match l[i]? with
 | none => true
 | some c => plainB c || (c == 45 && decide (i ≠ 0) && decide (i ≠ l.length - 1))
theorem label_loop (s : ByteArray) (hn : s.size ≤ 140737488355328) (d : Nat) : ∀ (k i : Nat), i ≤ s.size → s.size - i = d → d < k →
   BU.url_label.l0 k s (s.size : Int) (i : Int) = some (((List.range' i d).all (okAt s.data.toList)) && decide (1 ≤ s.size) && decide (s.size ≤ 20)):=by
 have hs : s.data.toList.length = s.size:=(Lib.size_eq s).symm
 induction d with
 | zero =>
   intro k i h1 h2 hk
   obtain ⟨k, rfl⟩ : ∃ m, k = m + 1:=⟨k - 1, by omega⟩
   simp only [BU.url_label.l0]
   rw [if_neg (by omega)]
   by_cases h : (s.size : Int) ≥ 1
   · rw [if_pos h]
     refine congrArg some ?_
     rw [Bool.eq_iff_iff]
     simp only [List.range'_zero, List.all_nil, Bool.true_and, Bool.and_eq_true, decide_eq_true_eq]
     omega
   · rw [if_neg h]
     refine congrArg some ?_
     rw [Bool.eq_iff_iff]
     simp only [List.range'_zero, List.all_nil, Bool.true_and, Bool.and_eq_true, decide_eq_true_eq, Bool.false_eq_true, eq_self, true_iff, false_iff]
     omega
 | succ d ih =>
   intro k i h1 h2 hk
   obtain ⟨k, rfl⟩ : ∃ m, k = m + 1:=⟨k - 1, by omega⟩
   have hlt : i < s.data.toList.length:=by omega
   have hw : wrap64 ((i : Int) + 1) = ((i + 1 : Nat) : Int):=by unfold wrap64; omega
   have hw2 : wrap64 ((s.size : Int) - 1) = (s.size : Int) - 1:=by unfold wrap64; omega
   have hih:=ih k (i + 1) (by omega) (by omega) (by omega)
   have hok : okAt s.data.toList i = (plainB s.data.toList[i] || (s.data.toList[i] == 45 && decide (i ≠ 0) && decide (i ≠ s.data.toList.length - 1))):=by
     unfold okAt; rw [List.getElem?_eq_getElem hlt]
   simp only [BU.url_label.l0]
   rw [if_pos (show (i : Int) < (s.size : Int) by omega), if_pos (show (0 : Int) ≤ (i : Int) by omega), if_pos (show (i : Int) < (s.size : Int) by omega), bt_list s i hlt, plain_f]
   simp only [Option.bind_some]
   rw [hw, hw2, hih, List.range'_succ, List.all_cons, hok]
   generalize hc : s.data.toList[i] = c
   cases hp : plainB c with
   | true => simp
   | false =>
     by_cases h45 : (c.toNat : Int) = 45
     · have e : c = 45:=UInt8.toNat_inj.1 (by have : (45 : UInt8).toNat = 45:=rfl; omega)
       rw [if_neg (by simp), if_pos h45]
       subst e
       by_cases hi0 : i = 0
       · rw [if_pos (by omega)]; simp [hi0]
       · rw [if_neg (by omega)]
         by_cases hil : (i : Int) = (s.size : Int) - 1
         · rw [if_pos hil]; have : i = s.data.toList.length - 1:=by omega
           simp [this]
         · rw [if_neg hil]; have : ¬ i = s.data.toList.length - 1:=by omega
           simp only [Bool.false_or, beq_self_eq_true, Bool.true_and]
           rw [decide_eq_true (show i ≠ 0 from hi0), decide_eq_true (show i ≠ s.data.toList.length - 1 from this)]
           rfl
     · have e : (c == 45) = false:=by
         rw [beq_eq_false_iff_ne]; intro e; subst e; exact h45 rfl
       rw [if_neg (by simp), if_neg h45]; simp [e]
theorem label_all (l : List UInt8) : ((List.range' 0 l.length).all (okAt l)) = (l.all (fun c => plainB c || c == 45) && ((l.head? != some 45) && (l.getLast? != some 45))):=by
 rw [Bool.eq_iff_iff]
 simp only [List.all_eq_true, List.mem_range'_1, Bool.and_eq_true, bne_iff_ne, ne_eq]
 constructor
 · intro h
   have get : ∀ (i : Nat) (hi : i < l.length), okAt l i = true:=fun i hi => h i ⟨Nat.zero_le _, by omega⟩
   have ok : ∀ (i : Nat) (hi : i < l.length), (plainB l[i] || (l[i] == 45 && decide (i ≠ 0) && decide (i ≠ l.length - 1))) = true:=fun i hi => by
     have:=get i hi; unfold okAt at this; rwa [List.getElem?_eq_getElem hi] at this
   refine ⟨fun c hc => ?_, fun e => ?_, fun e => ?_⟩
   · obtain ⟨i, hi, rfl⟩:=List.getElem_of_mem hc
     have:=ok i hi
     cases hp : plainB l[i] <;> simp_all
   · cases l with
     | nil => cases e
     | cons x xs =>
       simp at e; subst e
       have:=ok 0 (by simp)
       simp [plainB] at this
   · rw [List.getLast?_eq_getElem?] at e
     obtain ⟨hl, he⟩:=List.getElem?_eq_some_iff.1 e
     have:=ok (l.length - 1) hl
     rw [he] at this
     simp [plainB] at this
 · rintro ⟨h, hh, ht⟩ i ⟨_, hi⟩
   have hi : i < l.length:=by omega
   unfold okAt; rw [List.getElem?_eq_getElem hi]
   have:=h l[i] (List.getElem_mem hi)
   cases hp : plainB l[i] with
   | true => simp [hp]
   | false =>
     rw [hp] at this
     have e : l[i] = 45:=by simpa using this
     have h0 : i ≠ 0:=fun e0 => hh (by subst e0; rw [List.head?_eq_getElem?, List.getElem?_eq_getElem hi, e])
     have h1 : i ≠ l.length - 1:=fun e1 => ht (by rw [List.getLast?_eq_getElem?, ← e1, List.getElem?_eq_getElem hi, e])
     simp [e, h0, h1]
theorem label_f (s : ByteArray) (hn : s.size ≤ 140737488355328) : BU.url_label.f (s.size + 1) s = some (labelL s.data.toList):=by
 have hs : s.data.toList.length = s.size:=(Lib.size_eq s).symm
 unfold BU.url_label.f
 have:=label_loop s hn s.size (s.size + 1) 0 (Nat.zero_le _) rfl (by omega)
 rw [show ((0 : Nat) : Int) = 0 from rfl] at this
 rw [this, ← hs, label_all]
 unfold labelL
 simp only [Bool.and_assoc]
theorem label_calls (s : ByteArray) (hn : s.size ≤ 140737488355328) (w : World) :
   Calls Tryz.prog 216 #[.string s] w fun e w' => e = .returned (.bool (labelL s.data.toList)) ∧ Drawn0 w w' :=
 BU.url_label.calls _ s _ w (label_f s hn)
end Go.Proofs.YtacknhbgfijkcaaGreatDoor
end
section
/- url.Host in plain words: each piece between the dots is a label; at most 60 bytes. -/
namespace Go.Proofs.YtacknhbgfijkcaaGreatDoor
open Go Go.RowKit Go.Shelf Go.Proofs Go.Proofs.YtacknhbgfijkcaaGreatDoorW.PrintWords Go.Proofs.YtacknhbgfijkcaaGreatDoorW.PrintLast Go.Proofs.YtacknhbgfijkcaaGreatDoorW.PrintMore
attribute [local go_sem] Oper.semAt_some
def hostL (l : List UInt8) : Bool:=(splitL 46 l).all labelL && decide (l.length ≤ 60)
theorem host_pieces (s : ByteArray) : ((pieces 46 s).all fun x => labelL x.data.toList) = (splitL 46 s.data.toList).all labelL:=by
 rw [← pieces_split, List.all_map]; rfl
theorem pieceU_size (c : UInt8) : ∀ (k : Nat) (s x : ByteArray), x ∈ cutB c k s → x.size ≤ s.size
 | 0, s, x, h => by simp [cutB] at h; rw [h]; exact Nat.le_refl _
 | k + 1, s, x, h => by
   unfold cutB at h
   split at h
   · simp at h; rw [h]; exact Nat.le_refl _
   · rcases List.mem_cons.1 h with rfl | h
     · simp; omega
     · have:=pieceU_size c k _ x h
       simp at this
       omega
set_option maxRecDepth 100000 in
set_option maxHeartbeats 2000000 in
theorem Host_calls (s : ByteArray) (hn : s.size ≤ 140737488355328) (w : World) :
   Calls Tryz.prog 125 #[.string s] w fun e w' => e = .returned (.bool (hostL s.data.toList)) ∧ Below w.heap.size w w':=by
 refine (callsIn_wide (n:=4)).1 ?_
 refine callsIn_of_wp_marks Tryz.func125 rfl trivial ?_ rfl
 simp only [Tryz.ntmps125, List.size_toArray, List.length_cons, List.length_nil, Nat.reduceAdd, Nat.reduceSub, Array.replicate_succ, Array.replicate_zero, List.push_toArray, List.append_toArray, List.nil_append, List.cons_append]
 gi_wp2_with (refine ⟨trivial, ?_⟩; gi_at_call 135; refine (callsIn_wide.2 (SplitSeq_any _ _ _)).mono ?_; rintro e w' ⟨rfl, rfl⟩)
 obtain ⟨W0, hW0⟩ : ∃ W0, (((w.alloc (.cells #[.bool false] 4)).alloc (.cells #[.string s] 9)).alloc (.cells #[.string ⟨#[46]⟩] 9)).alloc (.cells #[.int .i64 0] 3) = W0:=⟨_, rfl⟩
 have hs0 : W0.heap.size = w.heap.size + 4:=by rw [← hW0]; simp
 have hbx : Boxes (w.heap.size + 1) 46 s W0:=by
   have:=boxes_new s 46 (w.alloc (.cells #[.bool false] 4)); rw [World.size_alloc] at this; rw [← hW0]; exact this
 have hbl : Below w.heap.size w W0:=by
   rw [← hW0]; exact ((((Below.refl _ w).alloc (Nat.le_refl _) _).alloc (by simp) _).alloc (by simp; omega) _).alloc (by simp; omega) _
 have hbk : W0.heap[w.heap.size]? = some (.cells #[.bool false] 4 (0, 0)):=by
   rw [← hW0]; exact (((Below.heap_alloc _ _ _ (by simp; omega)).trans (Below.heap_alloc _ _ _ (by simp; omega))).trans (Below.heap_alloc _ _ _ (by simp))).trans (World.alloc_heap_new w _)
 rw [hW0]
 clear hW0
 refine wpIn_rangeBox rfl (by omega) (gf:=274) rfl trivial (enters_of Tryz.func274 (by kernel_rfl) rfl) (bs:=w.heap.size + 1) (lo:=w.heap.size + 1) (xs0:=pieces 46 s)
   (splitSeq1_box _ (by omega) _ _ _ _ (by omega) (by omega) hbx) (by omega) (by omega) rfl
   (fun pre W => (W.heap[w.heap.size]? = some (.cells #[.bool false] 4 (0, 0)) ∧ Below w.heap.size w W) ∧ ∀ x ∈ pre, labelL x.data.toList = true)
   (fun c pre W => (W.heap[w.heap.size]? = some (.cells #[.bool false] 4 (0, 0)) ∧ Below w.heap.size w W) ∧ c = .ret ∧ ∃ x ∈ pre, labelL x.data.toList = false)
   (((BoxOwn.block (f:=fun _ => .cells #[.bool false] 4 (0, 0)) (fun _ => rfl) (by omega)).and (BoxOwn.below (Nat.le_refl _) (by omega) (by omega))).and BoxOwn.pure)
   (fun c => ((BoxOwn.block (f:=fun _ => .cells #[.bool false] 4 (0, 0)) (fun _ => rfl) (by omega)).and (BoxOwn.below (Nat.le_refl _) (by omega) (by omega))).and BoxOwn.pure)
   ⟨⟨hbk, hbl⟩, by simp⟩
   (fun x => { tmps:=#[.string s, undef, .pointer (some ⟨w.heap.size, 0, none⟩), .string x, .string s, .func (.func 274) #[] #[.pointer (some ⟨w.heap.size + 1 + 1, 0, none⟩), .pointer (some ⟨w.heap.size + 1, 0, none⟩), .pointer (some ⟨w.heap.size + 1 + 2, 0, none⟩)], .string x, undef, undef, undef, undef, undef, undef], defers:=[] }) ?assign ?body ?done ?stop
 case assign =>
   intro l x W K hK
   gi_wp2
   exact hK
 case body =>
   rintro l pre x W ⟨⟨hk, hb⟩, hall⟩ hpre hle
   have hx : x.size ≤ 140737488355328:=by
     have : x ∈ pieces 46 s:=hpre.subset (by simp)
     have:=pieceU_size 46 _ _ _ this
     omega
   have hcell : W.cell? ⟨w.heap.size, 0, none⟩ = some (.bool false):=by simp [World.cell?, hk]
   have hfr : W.frozen? ⟨w.heap.size, 0, none⟩ = false:=by simp [World.frozen?, hk]
   cases hL : labelL x.data.toList with
   | true =>
     have HL:=Lib.hid hL
     clear hL
     gi_wp2_with (refine ⟨trivial, ?_⟩; gi_at_call 216; refine (CallsIn.inRound l (callsIn_wide.2 (label_calls x hx _))).mono ?_; rintro e w' ⟨rfl, ⟨nd, rfl⟩⟩; rw [HL.out])
     exact ⟨⟨Nat.le_refl _, fun _ _ _ h _ => h⟩, fun _ _ _ => rfl, ⟨hk, pw_below_drewN hb _⟩, fun y hy => by rcases List.mem_append.1 hy with h | h; exact hall y h; (simp at h; rw [h]; exact HL.out)⟩
   | false =>
     have HL:=Lib.hid hL
     clear hL
     gi_wp2_with (refine ⟨trivial, ?_⟩; gi_at_call 216; refine (CallsIn.inRound l (callsIn_wide.2 (label_calls x hx _))).mono ?_; rintro e w' ⟨rfl, ⟨nd, rfl⟩⟩; rw [HL.out])
     exact ⟨(keepsFrom_drewN _ W nd).trans ((KeepsOthers.setCell (W.drewN nd) _ _).from _), ⟨one_set (W:=W.drewN nd) hk _, (pw_below_drewN hb nd).setCell (p:=⟨w.heap.size, 0, none⟩) (Nat.le_refl _) _⟩, rfl, x, by simp, HL.out⟩
 case done =>
   rintro D W hD ⟨⟨hk, hb⟩, hall⟩ hK
   have hcell:=one_cell hk
   have hfr:=one_free hk
   have hv : hostL s.data.toList = decide ((s.size : Int) ≤ 60):=by
     have h1 : ((pieces 46 s).all fun x => labelL x.data.toList) = true:=List.all_eq_true.2 hall
     rw [host_pieces] at h1
     unfold hostL
     rw [h1, ← Lib.size_eq, Bool.true_and]
     exact decide_eq_decide.2 (by omega)
   have HV:=Lib.hid hv
   clear hv
   gi_wp2
   have hk2:=one_set hk (.bool (decide ((s.size : Int) ≤ 60)))
   have hK2:=(KeepsOthers.setCell W ⟨w.heap.size, 0, none⟩ (.bool (decide ((s.size : Int) ≤ 60)))).same D _ hK rfl
   have hb2:=hb.setCell (p:=⟨w.heap.size, 0, none⟩) (Nat.le_refl _) (.bool (decide ((s.size : Int) ≤ 60)))
   refine ⟨by simp, .inl ⟨_, _, rfl, run_takeDeferred hK2, ?_⟩⟩
   have hc5:=cell_kept (one_cell hk2) (grownBy_putObj' _ D (.deferred none)) (fun r e => by cases e; exact ⟨_, hK2, rfl⟩)
   refine ⟨.bool (decide ((s.size : Int) ≤ 60)), ?_, by rw [HV.out], hb2.trans (belowK_b (w:=w) (Nat.le_refl _) _ D _ _ (by omega) hK2 rfl rfl)⟩
   simp [results, Tryz.f125, go_sem, hc5]
 case stop =>
   rintro D c pre W hD hpre ⟨⟨hk, hb⟩, rfl, x, hx, hxl⟩ hK
   have hv : hostL s.data.toList = false:=by
     have h1 : ((pieces 46 s).all fun x => labelL x.data.toList) = false:=by
       rw [← Bool.not_eq_true, List.all_eq_true]
       intro h
       have:=h x (hpre.subset hx)
       rw [hxl] at this
       cases this
     rw [host_pieces] at h1
     unfold hostL
     rw [h1, Bool.false_and]
   have HV:=Lib.hid hv
   clear hv
   gi_wp2
   refine ⟨by simp, .inl ⟨_, _, rfl, run_takeDeferred hK, ?_⟩⟩
   have hc5:=cell_kept (one_cell hk) (grownBy_putObj' _ D (.deferred none)) (fun r e => by cases e; exact ⟨_, hK, rfl⟩)
   refine ⟨.bool false, ?_, by rw [HV.out], hb.trans (belowK_b (w:=w) (Nat.le_refl _) _ D _ _ (by omega) hK rfl rfl)⟩
   simp [results, Tryz.f125, go_sem, hc5]
end Go.Proofs.YtacknhbgfijkcaaGreatDoor
end
section
/- moatlaw0.Low: a number from 0 to below n. -/
namespace Go.Proofs.YtacknhbgfijkcaaGreatDoor
open Go Go.RowKit Go.Proofs.YtacknhbgfijkcaaGreatDoorW.PrintWords Go.Proofs.YtacknhbgfijkcaaGreatDoorW.PrintLast Go.Proofs.YtacknhbgfijkcaaGreatDoorW.PrintMore
theorem wrap_u64_pos (n : Int) (h : 0 < n) (h2 : n ≤ 9223372036854775807) : IntKind.u64.wrap n = n:=by
 simp only [IntKind.wrap, IntKind.signed, IntKind.bits]
 simp
 omega
theorem wrap_u64_nonneg (n : Int) : 0 ≤ IntKind.u64.wrap n ∧ IntKind.u64.wrap n < 18446744073709551616:=by
 simp only [IntKind.wrap, IntKind.signed, IntKind.bits]
 simp
 omega
def lowN (a n : Int) : Nat:=(IntKind.u64.wrap a % n).toNat
theorem lowN_lt (a n : Int) (h : 0 < n) : (lowN a n : Int) < n:=by
 unfold lowN
 have:=Int.emod_lt_of_pos (IntKind.u64.wrap a) h
 have:=Int.emod_nonneg (IntKind.u64.wrap a) (Int.ne_of_gt h)
 omega
theorem Low_f (a n : Int) (h : 0 < n) (h2 : n ≤ 9223372036854775807) : BF.moatlaw0_Low.f a n = some (lowN a n : Int):=by
 unfold BF.moatlaw0_Low.f
 have hw:=wrap_u64_nonneg a
 rw [wrap_u64_pos n h h2, if_neg (by omega)]
 have h1:=Int.emod_lt_of_pos (IntKind.u64.wrap a) h
 have h3:=Int.emod_nonneg (IntKind.u64.wrap a) (Int.ne_of_gt h)
 congr 1
 rw [Int.tmod_eq_emod_of_nonneg hw.1]
 unfold lowN wrap64
 omega
end Go.Proofs.YtacknhbgfijkcaaGreatDoor
end
section
/- Chapter 7, by the quick engine: what is given of functions; what is known of the world. -/
namespace Go.Proofs.YtacknhbgfijkcaaGreatDoor
open Go Go.RowKit Go.Proofs.YtacknhbgfijkcaaGreatDoor.Abs
def pairV (l : List UInt8) : List Value:=[.string ⟨⟨lowL (trimL (cutA 61 l))⟩⟩, .string ⟨⟨trimL (cutZ 61 l)⟩⟩]
noncomputable def pairsN : List (List UInt8) → Nat
 | [] => 0
 | x :: r => match trimL x with
   | [] => pairsN r
   | _ :: _ => pairsN r + 1
noncomputable def pairsV : List (List UInt8) → List Value
 | [] => []
 | x :: r => match trimL x with
   | [] => pairsV r
   | y :: z => pairV (y :: z) ++ pairsV r
theorem pairsV_eq : ∀ ps : List ByteArray, (pairsF ps).length = pairsN (ps.map (·.data.toList)) ∧ (pairsF ps).flatMap pairCells = pairsV (ps.map (·.data.toList))
 | [] => ⟨rfl, rfl⟩
 | x :: r => by
   obtain ⟨h1, h2⟩:=pairsV_eq r
   rw [List.map_cons]
   unfold pairsN pairsV
   cases ht : trimL x.data.toList with
   | nil =>
     have e : pairsF (x :: r) = pairsF r:=by
       unfold pairsF
       rw [List.filter_cons_of_neg (by simp [ht])]
     rw [e]
     exact ⟨h1, h2⟩
   | cons y z =>
     have e : pairsF (x :: r) = pairB x :: pairsF r:=by
       unfold pairsF
       rw [List.filter_cons_of_pos (by simp [ht])]
       rfl
     rw [e]
     refine ⟨by rw [List.length_cons, h1], ?_⟩
     rw [List.flatMap_cons, h2]
     unfold pairB pairCells pairV
     rw [ht]
theorem pairs_flat : ∀ ps : List (List UInt8), (pairsV ps).all flat = true
 | [] => rfl
 | x :: r => by
   unfold pairsV
   split
   · exact pairs_flat r
   · rw [List.all_append, pairs_flat r]; rfl
noncomputable def sPairs : List Value → NTree (Nat × List Value × Option Bool)
 | [.string s] => .br (Nat.ble s.size 1099511627776) (.ret (pairsN (splitL 59 s.data.toList), pairsV (splitL 59 s.data.toList), none)) .none
 | _ => .none
theorem br_run {α : Type} {b : Bool} {x : NTree α} {r : α} (h : (NTree.br b x .none).run = some r) : b = true ∧ x.run = some r:=by
 cases b with
 | true => exact ⟨rfl, h⟩
 | false => cases h
theorem sPairs_ok {base : Nat} {w0 : Abs.Start} : NatOk Tryz.prog base w0 126 (natRow 229 sPairs):=by
 refine natRow_ok (size:=2) (by kernel_rfl) fun args n xs t h => ?_
 unfold sPairs at h
 split at h
 · rename_i s
   obtain ⟨h1, h⟩:=br_run h
   cases h
   refine ⟨rfl, pairs_flat _, fun w _ => ?_⟩
   refine (Pairs_calls2 s (Nat.le_of_ble_eq_true h1) w).mono fun e w' hq => ?_
   obtain ⟨v, rfl, hr, hb, hnil⟩:=hq
   obtain ⟨e1, e2⟩:=pairsV_eq (pieces 59 s)
   rw [pieces_split] at e1 e2
   rw [e1, e2] at hr
   exact ⟨v, rfl, hr, hb, fun h0 => hnil (List.eq_nil_of_length_eq_zero (by rw [e1]; exact h0))⟩
 · cases h
noncomputable def sLower : List Value → NTree Value
 | [.string s] => .br (Nat.ble s.size 140737488355328) (.ret (.string ⟨⟨lowL s.data.toList⟩⟩)) .none
 | _ => .none
theorem sLower_ok {base : Nat} {w0 : Abs.Start} : NatOk Tryz.prog base w0 71 (natFlat sLower):=by
 refine natFlat_ok fun args v hv => ?_
 unfold sLower at hv
 split at hv
 · rename_i s
   obtain ⟨h1, hv⟩:=br_run hv
   cases hv
   exact ⟨rfl, rfl, fun w _ => Lower_calls s (Nat.le_of_ble_eq_true h1) w⟩
 · cases hv
noncomputable def sHost2 : List Value → NTree Value
 | [.string s] => .br (Nat.ble s.size 140737488355328) (.ret (.bool (hostL s.data.toList))) .none
 | _ => .none
theorem sHost2_ok {base : Nat} {w0 : Abs.Start} : NatOk Tryz.prog base w0 125 (natFlat sHost2):=by
 refine natFlat_ok fun args v hv => ?_
 unfold sHost2 at hv
 split at hv
 · rename_i s
   obtain ⟨h1, hv⟩:=br_run hv
   cases hv
   exact ⟨rfl, rfl, fun w _ => Host_calls s (Nat.le_of_ble_eq_true h1) w⟩
 · cases hv
noncomputable def sSplit : List Value → NTree (Nat × List Value × Option Bool)
 | [.string s, .string sep] => .br (Nat.ble s.size 4294967280) (.br (Nat.ble 1 sep.size) (.ret (Lib.countB s sep + 1, (Lib.splitK sep.data.toList 0 (Lib.countB s sep) s.data.toList).map fun l => .string ⟨⟨l⟩⟩, none)) .none) .none
 | _ => .none
theorem sSplit_ok {w : World} {ι0 : Nat → Option Abs.Loc} {m : Int} (hm : w.cell? ⟨7, 0, none⟩ = some (.int .i64 m)) : NatOk Tryz.prog w.heap.size ⟨w, ι0⟩ 54 (natRow 9 sSplit):=by
 refine natRow_ok (size:=1) (by kernel_rfl) fun args n xs t h => ?_
 unfold sSplit at h
 split at h
 · rename_i s sep
   obtain ⟨h1, h⟩:=br_run h
   obtain ⟨h2, h⟩:=br_run h
   cases h
   have h1:=Nat.le_of_ble_eq_true h1
   have h2:=Nat.le_of_ble_eq_true h2
   refine ⟨rfl, ?_, fun w' hb => ?_⟩
   · rw [List.all_map]
     exact List.all_eq_true.2 fun _ _ => rfl
   · have hlt : 7 < w.heap.size:=by
       apply Classical.byContradiction
       intro hn
       have : w.heap[7]? = none:=Array.getElem?_eq_none (by omega)
       simp [World.cell?, this] at hm
     have hm' : w'.cell? ⟨7, 0, none⟩ = some (.int .i64 m):=by
       rw [← hm]
       exact hb.cell hlt
     refine (Tryz.strings_Split s sep m w' (by omega) hm' h2).mono fun e w2 hq => ?_
     obtain ⟨rfl, rfl⟩:=hq
     have hall:=Lib.splitB_all sep h2 0 (Lib.countB s sep) s rfl
     have hmap : ((Lib.splitB sep 0 (Lib.countB s sep) s).map Value.string) = (Lib.splitK sep.data.toList 0 (Lib.countB s sep) s.data.toList).map fun l => .string ⟨⟨l⟩⟩:=by
       rw [← Lib.splitB_data, List.map_map]
       rfl
     refine ⟨_, rfl, ?_, (Below.refl _ w').alloc (Nat.le_refl _) _, fun h0 => by omega⟩
     have hcn : Lib.countB s sep ≤ s.size:=Lib.countB_le sep h2 s.size s (Nat.le_refl _)
     refine ⟨by rw [← hmap, List.length_map, hall]; exact (Nat.mul_one _).symm, .inr ⟨w'.heap.size, Lib.countB s sep + 1, _, rfl, Nat.le_refl _, Abs.alloc_new w' _, Nat.le_refl _, ?_, by simp [hall], ?_⟩⟩
     · unfold maxLen
       omega
     · rw [List.take_of_length_le (by simp [hall]), hmap]
 · cases h
noncomputable def strsOf : List Value → Option (List (List UInt8))
 | [] => some []
 | .string s :: r => match strsOf r with
   | some l => some (s.data.toList :: l)
   | none => none
 | _ => none
theorem strsOf_get : ∀ {l : List Value} {ss : List (List UInt8)}, strsOf l = some ss → ∀ j : Nat, l[j]? = (ss[j]?).map fun s => Value.string ⟨⟨s⟩⟩
 | [], ss, h, j => by cases h; rfl
 | .string s :: r, ss, h, j => by
   unfold strsOf at h
   split at h
   · rename_i l hl
     cases h
     cases j with
     | zero => rfl
     | succ j => rw [List.getElem?_cons_succ, List.getElem?_cons_succ]; exact strsOf_get hl j
   · cases h
noncomputable def nJoin : Native:=fun args h =>
 match args with
 | [.slice (some ⟨id, off, none⟩) len c, .string sep] => match h.t.get id with
   | some (.cells cs e wr) => match strsOf (takeL (dropL cs off) len) with
     | some ss => .br (Nat.beq (lenL ss) len) (.br (Nat.ble 1 len) (.br (Nat.ble len 140737488355328) (.br (Nat.ble (lenL (Lib.join ss sep.data.toList)) 140737488355328) (.ret (.ret (.string ⟨⟨Lib.join ss sep.data.toList⟩⟩), h)) .none) .none) .none) .none
     | none => .none
   | _ => .none
 | _ => .none
theorem nJoin_ok {base : Nat} {w0 : Abs.Start} : NatOk Tryz.prog base w0 49 nJoin:=by
 intro args h r h' hg
 unfold nJoin at hg
 split at hg
 rotate_left
 · cases hg
 rename_i id off len c sep
 split at hg
 rotate_left
 · cases hg
 rename_i cs e wr hget
 split at hg
 rotate_left
 · cases hg
 rename_i ss hss
 obtain ⟨h1, hg⟩:=br_run hg
 obtain ⟨h2, hg⟩:=br_run hg
 obtain ⟨h3, hg⟩:=br_run hg
 obtain ⟨h4, hg⟩:=br_run hg
 cases hg
 rw [Nat.beq_eq, lenL_eq] at h1
 have h2:=Nat.le_of_ble_eq_true h2
 have h3:=Nat.le_of_ble_eq_true h3
 have h4:=Nat.le_of_ble_eq_true h4
 rw [lenL_eq] at h4
 refine ⟨Nat.le_refl _, fun ι w args' hI hr hgl hf => ?_⟩
 match args', hr with
 | [x', y'], ⟨hx, hy, _⟩ =>
 cases hy with
 | string _ =>
 cases hx with
 | slice _ _ _ _ cap i ra hi hl hc hx =>
 rcases hx with ⟨rfl, hle⟩ | ⟨h0, _⟩
 rotate_left
 · omega
 obtain ⟨arr, fz, a1, a2, a3, a4, a5, a6⟩:=hI.cells_at hi hget
 have hj:=Tryz.strings_Join i.rb (i.δ + off) cap (ss.map fun s => (⟨⟨s⟩⟩ : ByteArray)) sep w (fun j x hx => by
   rw [List.getElem?_map] at hx
   obtain ⟨s, hs, rfl⟩:=Option.map_eq_some_iff.1 hx
   have hg:=strsOf_get hss j
   rw [hs, takeL_eq, dropL_eq, List.getElem?_take] at hg
   split at hg
   · rw [List.getElem?_drop] at hg
     obtain ⟨v, hv, hrel⟩:=a5 _ _ hg
     cases hrel
     rw [Abs.cell_of a1, Nat.add_assoc]
     exact hv
   · cases hg) (hI.lt id i hi) (by rw [List.length_map]; omega) (by rw [List.length_map]; omega) (by
     have e : (ss.map fun s => (⟨⟨s⟩⟩ : ByteArray)).map (·.data.toList) = ss:=by rw [List.map_map]; exact List.map_id _
     rw [e]; exact h4)
 have e : (ss.map fun s => (⟨⟨s⟩⟩ : ByteArray)).map (·.data.toList) = ss:=by rw [List.map_map]; exact List.map_id _
 rw [e, List.length_map, h1] at hj
 refine hj.mono fun e w' hq => ?_
 obtain ⟨rfl, hb⟩:=hq
 exact ⟨ι, Turn.refl _ _ _, hI.still hb, _, rfl, .string _⟩
noncomputable def sLow (T : List (Nat × Nat × Nat)) : List Value → Option Value
 | [.complex .f32 id 0, .int .i64 (.ofNat n)] => go id n T
 | _ => none
where go (id n : Nat) : List (Nat × Nat × Nat) → Option Value
 | [] => none
 | (i, m, v) :: r => bif Nat.beq i id && Nat.beq m n then some (.int .i64 (.ofNat v)) else go id n r
noncomputable def natLow (T : List (Nat × Nat × Nat)) : Native:=fun args h => match sLow T args with
 | some v => .ret (.ret v, h)
 | none => .none
theorem sLow_go {T : List (Nat × Nat × Nat)} {id n : Nat} {v : Value} : sLow.go id n T = some v → ∃ k, (id, n, k) ∈ T ∧ v = .int .i64 (.ofNat k):=by
 induction T with
 | nil => intro h; cases h
 | cons x r ih =>
   obtain ⟨i, m, k⟩:=x
   intro h
   unfold sLow.go at h
   cases hb : Nat.beq i id && Nat.beq m n with
   | true =>
     rw [hb] at h
     cases h
     rw [Bool.and_eq_true, Nat.beq_eq, Nat.beq_eq] at hb
     obtain ⟨rfl, rfl⟩:=hb
     exact ⟨k, List.mem_cons_self, rfl⟩
   | false =>
     rw [hb] at h
     obtain ⟨k, h1, h2⟩:=ih h
     exact ⟨k, List.mem_cons_of_mem _ h1, h2⟩
theorem natLow_ok {base : Nat} {w0 : Abs.Start} {T : List (Nat × Nat × Nat)} (hT : ∀ id n k, (id, n, k) ∈ T → ∃ z, w0.ι id = some (tokLoc z) ∧ 0 < n ∧ n ≤ 9223372036854775807 ∧ lowN z n = k) : NatOk Tryz.prog base w0 9 (natLow T):=by
 intro args h r h' hg
 unfold natLow at hg
 split at hg
 rotate_left
 · cases hg
 rename_i v hv
 cases hg
 refine ⟨Nat.le_refl _, fun ι w args' hI hr hgl hf => ?_⟩
 unfold sLow at hv
 split at hv
 rotate_left
 · cases hv
 rename_i id n
 obtain ⟨k, hmem, rfl⟩:=sLow_go hv
 obtain ⟨z, hz, hn0, hn1, hk⟩:=hT id n k hmem
 match args', hr with
 | [x', y'], ⟨hx, hy, _⟩ =>
 cases hx with
 | tok _ i hi =>
 cases hy with
 | int _ _ =>
 rw [hI.init id _ hz] at hi
 cases hi
 rw [tokLoc_z]
 have hc:=BF.moatlaw0_Low.calls z (Int.ofNat n) (lowN z n : Int) w (Low_f z n (by omega) (by omega))
 refine hc.mono fun e w' hq => ?_
 obtain ⟨rfl, n', rfl⟩:=hq
 have hb : Below w.heap.size w (w.drewN n'):=Below.trans (Below.refl _ _) ⟨rfl, rfl, rfl, Nat.le_refl _, fun _ _ => rfl⟩
 exact ⟨ι, Turn.refl _ _ _, hI.still hb, _, rfl, by rw [hk]; exact .int .i64 (k : Int)⟩
end Go.Proofs.YtacknhbgfijkcaaGreatDoor
end
section
/- Pieces of wf.known as terms of the quick engine; what its second loop works with. -/
set_option maxRecDepth 100000
namespace Go.Proofs.YtacknhbgfijkcaaGreatDoor
open Go Go.RowKit Go.Proofs.YtacknhbgfijkcaaGreatDoor.Abs
noncomputable abbrev kP : Program:=Tryz.prog
def sqA : Code → Code | .seq a _ => a | c => c
def sqB : Code → Code | .seq _ b => b | c => c
def inB : Code → Code | .block _ b => b | .loop b => b | c => c
def opsOf : Code → Array Oper | .region _ ops _ => ops | _ => #[]
noncomputable def kBody : Code:=bodyOf kP 37
noncomputable def kR0 : Code:=sqA kBody
noncomputable def kR1 : Code:=sqA (sqB kBody)
noncomputable def kX : Code:=sqA (sqB (sqB kBody))
noncomputable def kRest : Code:=sqB (sqB (sqB kBody))
noncomputable def kOps12 : Array Oper:=opsOf (sqA (sqA kRest))
noncomputable def kB2 : Code:=sqB (sqA kRest)
noncomputable def kOps21 : Array Oper:=opsOf (sqA (sqB kRest))
noncomputable def kLo : Code:=inB (inB kB2)
noncomputable def kOps13 : Array Oper:=opsOf (sqA kLo)
noncomputable def kB3 : Code:=inB (sqB (sqB kLo))
noncomputable def kOps14 : Array Oper:=opsOf (sqA kB3)
noncomputable def k3 : Code:=sqB kB3
noncomputable def kR15 : Code:=sqA k3
noncomputable def kS16 : Code:=sqA (sqB k3)
noncomputable def kR17 : Code:=sqA (sqB (sqB k3))
noncomputable def kR18 : Code:=sqA (sqB (sqB (sqB k3)))
noncomputable def kR19 : Code:=sqA (sqB (sqB (sqB (sqB k3))))
noncomputable def kCo : Code:=sqB (sqB (sqB (sqB (sqB k3))))
def thenOf : Code → Code | .cond _ a _ => a | c => c
noncomputable def kOps20 : Array Oper:=opsOf (thenOf kCo)
noncomputable def kPs : List Code:=[kR15, kS16, kR17, kR18, kR19]
noncomputable def kPn : List (Code × Nat):=[(kR15, 4104), (kS16, 4104), (kR17, 28672), (kR18, 114688), (kR19, 1329227995784915872903807060280377344)]
theorem kPn_fst : kPn.map (·.1) = kPs:=rfl
noncomputable def kAn : List (Code × Nat):=[(kR0, 1), (kR1, 9), (kX, 9)]
theorem kAn_fst : kAn.map (·.1) = [kR0, kR1, kX]:=rfl
noncomputable def kE (v0 v3 v10 v11 : Value) : Tr Value:=((((Tr.full 8).set 0 (some v0)).set 3 (some v3)).set 10 (some v10)).set 11 (some v11)
noncomputable def kHro (h : Hp) (cid T : Nat) : Hp:=⟨roT h.n (h.t.set cid none) 1 0, h.n + (1 + 512 * T)⟩
noncomputable def lenM : List MapEntry → Nat
 | [] => 0
 | _ :: r => Nat.succ (lenM r)
noncomputable def forceN (n : Nat) (K : Nat → Bool) : Bool:=Nat.rec (motive:=fun _ => Bool) (K 0) (fun p _ => K (Nat.succ p)) n
noncomputable abbrev R1 (b k : Bool) : Bool:=bothK b k
noncomputable def kNot (s : ByteArray) (b : Nat) : List MapEntry → Bool
 | [] => true
 | y :: r => (match y.key with | .string t => !(beqB s t) | _ => false) && (!(Nat.beq b y.born) && kNot s b r)
noncomputable def kOkE (c : Nat) : List MapEntry → Bool
 | [] => true
 | x :: r => (match x.key, x.val with | .string s, .int _ _ => (Nat.ble (Nat.succ x.born) c && kNot s x.born r) | _, _ => false) && kOkE c r
noncomputable def kTab : List MapEntry → List (Option Value) → List (ByteArray × Value)
 | x :: r, some v :: l => match x.key with | .string s => (s, v) :: kTab r l | _ => kTab r l
 | _ :: r, none :: l => kTab r l
 | _, _ => []
theorem k12a : ((kOps12.toList.take 4).all fun o => match o.guard with | none => true | some _ => false) = true:=by kernel_rfl
theorem k12g (o : Oper) (ho : o ∈ kOps12.toList.take 4) : o.guard = none:=by
 have:=List.all_eq_true.1 k12a o ho
 split at this
 · assumption
 · cases this
noncomputable def kA (R : Ops) (C : Callees) : Value → Hp → (Value → Value → Value → Hp → Bool) → Bool:=fun (v : Value) (h : Hp) (K : Value → Value → Value → Hp → Bool) => R.mm h fun v1 v2 => R.mm v2 fun v3 v4 => R.mm v4 fun v5 v6 => R.o1 v (R.o1 v1 (R.o1 v3 (R.o1 v5 (R.bx 74 v6 (.agg ⟨[v, v1, v3, v5]⟩) fun v7 v8 => R.lv v fun v9 => R.jn (fun Ja : Cur (Hp → Bool) 0 => R.lp 1 (fun Jb vc vd => R.bi .lss vc v9 fun ve => R.jn (fun Jf : Cur (Hp → Bool) 0 => R.br ve (Jf vd) (Ja vd)) fun vg => R.jn (fun Jh : Cur (Hp → Bool) 0 => R.jn (fun Ji : Cur (Hp → Bool) 0 => R.xs 17 v vc fun vj => R.ln 17 vg vj fun vk => R.al 80 [(.int .i64 (.ofNat 0)), (.int .i64 (.ofNat 0)), (.string ⟨⟨[]⟩⟩), (.int .i64 (.ofNat 0)), (.int .i64 (.ofNat 0)), (.string ⟨⟨[]⟩⟩), (.int .i64 (.ofNat 0)), (.int .i64 (.ofNat 0)), (.string ⟨⟨[]⟩⟩), (.int .i64 (.ofNat 0)), (.int .i64 (.ofNat 0)), (.string ⟨⟨[]⟩⟩), (.int .i64 (.ofNat 0)), (.int .i64 (.ofNat 0)), (.string ⟨⟨[]⟩⟩), (.slice none 0 0), (.pointer none)] vg fun vl vm => R.sn 17 vm vl vk fun vn vo => R.jn (fun Jp : Cur (Hp → Bool) 0 => R.nk v7 (R.fa 1 v7 fun vq => R.l1 vo vq fun vr => R.fa 3 vl fun vs => R.fa 2 vs fun vt => R.l1 vo vt fun vu => R.l2 67 (.int .i64 (.ofNat 0)) true vo vr vu fun vv => R.ex 0 vv fun vw => R.ex 1 vv fun vx => R.l2 67 (.int .i64 (.ofNat 0)) true vo vr vu fun v18 => R.ek v18 vv (R.l1 vo vt fun v17 => R.ek v17 vu (R.l1 vo vq fun v16 => R.ek v16 vr (R.jn (fun Jy : Cur (Hp → Bool) 1 => R.gd false vx (R.fa 3 vl fun vz => R.fa 2 vz fun v10 => R.l1 vo v10 fun v11 => R.bs .eql v11 (.string ⟨⟨[]⟩⟩) fun v12 => Jy v12 vo) (Jy undef vo)) fun v13 v14 => R.pk vx (.bool true) v13 fun v15 => R.br v15 (Ji v14) (Jp v14)))))) fun v19 => R.nk v7 (R.fa 1 v7 fun v1a => R.l1 v19 v1a fun v1b => R.fa 3 vl fun v1c => R.fa 2 v1c fun v1d => R.l1 v19 v1d fun v1e => R.l1 v19 v1d fun v2c => R.ek v2c v1e (R.l1 v19 v1a fun v2b => R.ek v2b v1b (R.u2 67 v19 v1b v1e vc fun v1f v1g => R.fa 12 vl fun v1h => R.fa 2 v1h fun v1i => R.l1 v1g v1i fun v1j => C 61 1 v1j v1g fun v1k v1l => R.ex 0 v1k fun v1m => R.ex 1 v1k fun v1n => R.al 122 [(.string ⟨⟨[]⟩⟩), (.string ⟨⟨[]⟩⟩), (.string ⟨⟨[]⟩⟩), (.int .i64 (.ofNat 0))] v1l fun v1o v1p => R.sn 4 v1p v1o v1m fun v1q v1r => R.jn (fun J1s : Cur (Hp → Bool) 1 => R.gd true v1n (R.fa 0 vl fun v1t => R.fa 2 v1t fun v1u => R.l1 v1r v1u fun v1v => R.bs .eql v1v (.string ⟨⟨[111,114,105,103,105,110]⟩⟩) fun v1w => J1s v1w v1r) (J1s undef v1r)) fun v1x v1y => R.pk v1n v1x (.bool false) fun v1z => R.br v1z (R.nk v7 (R.fa 2 v7 fun v20 => R.l1 v1y v20 fun v21 => R.fa 3 vl fun v22 => R.fa 2 v22 fun v23 => R.l1 v1y v23 fun v24 => R.ln 4 v1y v1o fun v25 => R.ln 4 v1y v1o fun v2a => R.ek v2a v25 (R.l1 v1y v23 fun v29 => R.ek v29 v24 (R.l1 v1y v20 fun v28 => R.ek v28 v21 (R.u2 71 v1y v21 v24 v25 fun v26 v27 => Ji v27))))) (Ji v1y))))) fun v2d => Jh v2d) fun v2e => R.bi .add vc (.int .i64 (.ofNat 1)) fun v2f => Jb v2f v2e) fuel (.int .i64 (.ofNat 0)) v8) fun v2g => R.nk v7 (R.fa 1 v7 fun v2h => R.l1 v2g v2h fun v2i => K v2i v v7 v2g)))))
theorem kA_eq (R : Ops) (C : Callees) (v : Value) (h : Hp) (K : Value → Value → Value → Hp → Bool) : kA R C v h K = argsK (.full 8) 0 [v] fun E => chainC kP R C 128 0 kAn E h (fun ax E h => match ax with
   | .normal => opsU kP R C 128 (kOps12.toList.take 4) E h (fun E h => okB (E.get 82) fun m => okB (E.get 0) fun v0 => okB (E.get 3) fun nv => K m v0 nv h)
   | _ => false):=by kernel_rfl
noncomputable def kB (R : Ops) (C : Callees) : Value → Value → Value → Value → Hp → (Option Value → Option Value → Hp → Bool) → Bool:=fun (v0 v3 v10 v11 : Value) (h : Hp) (K : Option Value → Option Value → Hp → Bool) => R.xs 17 v0 v11 fun v2j => R.ln 17 h v2j fun v2k => R.al 80 [(.int .i64 (.ofNat 0)), (.int .i64 (.ofNat 0)), (.string ⟨⟨[]⟩⟩), (.int .i64 (.ofNat 0)), (.int .i64 (.ofNat 0)), (.string ⟨⟨[]⟩⟩), (.int .i64 (.ofNat 0)), (.int .i64 (.ofNat 0)), (.string ⟨⟨[]⟩⟩), (.int .i64 (.ofNat 0)), (.int .i64 (.ofNat 0)), (.string ⟨⟨[]⟩⟩), (.int .i64 (.ofNat 0)), (.int .i64 (.ofNat 0)), (.string ⟨⟨[]⟩⟩), (.slice none 0 0), (.pointer none)] h fun v2l v2m => R.sn 17 v2m v2l v2k fun v2n v2o => R.fa 0 v2l fun v2p => R.fa 2 v2p fun v2q => R.l1 v2o v2q fun v2r => R.bs .neq v2r (.string ⟨⟨[99,111,111,107,105,101]⟩⟩) fun v2s => R.br v2s (K none none v2o) (R.nk v3 (R.fa 2 v3 fun v2t => R.l1 v2o v2t fun v2u => R.fa 6 v2l fun v2v => R.fa 2 v2v fun v2w => R.l1 v2o v2w fun v2x => R.l2 71 (.agg ⟨[(.string ⟨⟨[]⟩⟩), (.string ⟨⟨[]⟩⟩), (.string ⟨⟨[]⟩⟩), (.int .i64 (.ofNat 0))]⟩) true v2o v2u v2x fun v2y => R.ex 0 v2y fun v2z => R.ex 1 v2y fun v30 => R.al 122 [(.string ⟨⟨[]⟩⟩), (.string ⟨⟨[]⟩⟩), (.string ⟨⟨[]⟩⟩), (.int .i64 (.ofNat 0))] v2o fun v31 v32 => R.l2 71 (.agg ⟨[(.string ⟨⟨[]⟩⟩), (.string ⟨⟨[]⟩⟩), (.string ⟨⟨[]⟩⟩), (.int .i64 (.ofNat 0))]⟩) true v32 v2u v2x fun v3o => R.ek v3o v2y (R.l1 v32 v2w fun v3n => R.ek v3n v2x (R.l1 v32 v2t fun v3m => R.ek v3m v2u (R.sn 4 v32 v31 v2z fun v33 v34 => R.fa 2 v31 fun v35 => R.l1 v34 v35 fun v36 => R.fa 12 v2l fun v37 => R.fa 2 v37 fun v38 => R.l1 v34 v38 fun v39 => C 62 2 v36 v39 v34 fun v3a v3b => R.ex 0 v3a fun v3c => R.ex 1 v3a fun v3d => R.al 124 [(.string ⟨⟨[]⟩⟩), (.int .i64 (.ofNat 0)), (.string ⟨⟨[]⟩⟩), (.string ⟨⟨[]⟩⟩), (.bool false), (.bool false), (.int .i64 (.ofNat 0))] v3b fun v3e v3f => R.sn 7 v3f v3e v3c fun v3g v3h => R.jn (fun J3i : Cur (Hp → Bool) 1 => R.gd true v30 (J3i v3d v3h) (J3i undef v3h)) fun v3j v3k => R.pk v30 v3j (.bool false) fun v3l => K (some v3l) (some v3e) v3k)))))
theorem kB_eq (R : Ops) (C : Callees) (v0 v3 v10 v11 : Value) (h : Hp) (K : Option Value → Option Value → Hp → Bool) : kB R C v0 v3 v10 v11 h K = chainC kP R C 128 0 kPn (kE v0 v3 v10 v11) h (fun ax E h => match ax with
   | .normal => okB (E.get 120) fun b => K (some b) (E.get 15) h
   | .exit id => match Nat.beq id 3 with | true => K none none h | false => false
   | .ret => false):=by kernel_rfl
end Go.Proofs.YtacknhbgfijkcaaGreatDoor
end
section
/- A region that draws its order, walked in the order of its text: each operation yields what is said of it in every world that has grown from the first one; then the region comes to its end, in whatever order. -/
namespace Go.Proofs.YtacknhbgfijkcaaGreatDoor
open Go Go.RowKit Go.Proofs.YtacknhbgfijkcaaGreatDoorW.PrintLast
inductive Fact where
 | eq (v : Value)
 | is (V : Value → World → Prop) (cons : Option Nat)
def Fact.val : Fact → Value → Value
 | .eq v, _ => v
 | .is _ _, u => u
def dstOf (ops : Array Oper) (i : Nat) : Option Tmp:=(ops[i]?).bind (·.dst)
def actsF (ops : Array Oper) (a0 : Act) (facts : Nat → Fact) (u : Nat → Value) : Nat → Act
 | 0 => a0
 | k + 1 => (actsF ops a0 facts u k).put (dstOf ops k) ((facts k).val (u k))
def usesB (ops : Array Oper) (i j : Nat) : Bool:=match ops[i]?, dstOf ops j with
 | some o, some d => (o.looksAt ops).contains d
 | _, _ => false
def atD (ops : Array Oper) (a : Act) (i : Nat) : Value:=match dstOf ops i with
 | some d => a.tmps.getD d undef
 | none => undef
def ResF (w : World) (u : Nat → Value) : Fact → Value → World → Prop
 | .eq v, x, w' => x = v ∧ Below w.heap.size w w'
 | .is V none, x, w' => V x w' ∧ Below w.heap.size w w' ∧ ∀ r, x.ownBlock = some r → w.heap.size ≤ r ∧ r < w'.heap.size
 | .is V (some j), x, w' => V x w' ∧ w.grownBy w' (u j).ownBlock ∧ ∀ r, x.ownBlock = some r → (w.heap.size ≤ r ∧ r < w'.heap.size) ∨ (u j).ownBlock = some r
def GivesR (P : Program) (K : Value → World → Prop) : Result Next → Prop
 | .ok (.value x) w' => K x w'
 | .ok .skip w' => K undef w'
 | .ok (.enter f args) w' => Calls P f args w' fun e w'' => ∃ x, e = .returned x ∧ K x w''
 | _ => False
def StepF (P : Program) (ops : Array Oper) (oi : Oper) (a : Act) (w : World) (K : Value → World → Prop) : Prop :=
 if Region.wanted oi (yielded ops a.tmps) = true then GivesR P K ((execOp a.eval oi).run P w) else K undef w
def Stable (tk : Bool) (V : Value → World → Prop) : Prop:=∀ u w w' row, V u w → w.grownBy w' row → (∀ r, row = some r → tk = true ∧ u.ownBlock ≠ some r) → V u w'
def maskOf (B : List Nat) : List Nat → Nat
 | [] => 0
 | n :: r => (2 ^ n ||| B.getD n 0) ||| maskOf B r
def needsAt (ops : Array Oper) (i : Nat) : List Nat:=match ops[i]? with
 | some o => needsOf .any o
 | none => []
def ancB (ops : Array Oper) : Nat → List Nat
 | 0 => []
 | k + 1 => ancB ops k ++ [maskOf (ancB ops k) (needsAt ops k)]
theorem maskOf_bit {B : List Nat} {i : Nat} : ∀ {ns : List Nat}, (maskOf B ns).testBit i = true → ∃ n ∈ ns, n = i ∨ (B.getD n 0).testBit i = true
 | [], h => by simp [maskOf] at h
 | n :: r, h => by
   unfold maskOf at h
   rw [Nat.testBit_or, Nat.testBit_or, Bool.or_eq_true, Bool.or_eq_true] at h
   rcases h with (h | h) | h
   · rw [Nat.testBit_two_pow] at h
     exact ⟨n, List.mem_cons_self, .inl (by simpa using h)⟩
   · exact ⟨n, List.mem_cons_self, .inr h⟩
   · obtain ⟨m, hm, h2⟩:=maskOf_bit h
     exact ⟨m, List.mem_cons_of_mem _ hm, h2⟩
theorem ancB_length (ops : Array Oper) : ∀ k, (ancB ops k).length = k
 | 0 => rfl
 | k + 1 => by rw [ancB, List.length_append, ancB_length ops k]; rfl
theorem closed_need {ops : Array Oper} {l : Array Bool} (hc : ListedClosed .any ops l) {d n : Nat} (hn : n ∈ needsAt ops d) (hl : l.getD d false = true) : l.getD n false = true:=by
 unfold needsAt at hn
 cases ho : ops[d]? with
 | none => rw [ho] at hn; cases hn
 | some o =>
   rw [ho] at hn
   simp only [needsOf, List.mem_map, List.mem_filter] at hn
   obtain ⟨e, ⟨he, hb⟩, rfl⟩:=hn
   exact hc d o ho hl e (by simpa using he) hb
theorem anc_listed {ops : Array Oper} {l : Array Bool} (hc : ListedClosed .any ops l) {i : Nat} : ∀ (k d : Nat), ((ancB ops k).getD d 0).testBit i = true → l.getD d false = true → l.getD i false = true
 | 0, d, h, _ => by simp [ancB] at h
 | k + 1, d, h, hl => by
   rw [ancB] at h
   rcases Nat.lt_trichotomy d k with hd | hd | hd
   · rw [List.getD_eq_getElem?_getD, List.getElem?_append_left (by rw [ancB_length]; exact hd), ← List.getD_eq_getElem?_getD] at h
     exact anc_listed hc k d h hl
   · subst hd
     rw [List.getD_eq_getElem?_getD, List.getElem?_append_right (by rw [ancB_length]; omega), ancB_length] at h
     simp only [Nat.sub_self, List.getElem?_cons_zero, Option.getD_some] at h
     obtain ⟨n, hn, h2⟩:=maskOf_bit h
     have hln:=closed_need hc hn hl
     rcases h2 with rfl | h2
     · exact hln
     · exact anc_listed hc d n h2 hln
   · rw [List.getD_eq_getElem?_getD, List.getElem?_eq_none (by rw [List.length_append, ancB_length]; simp; omega)] at h
     simp at h
def chkR (ops : Array Oper) (m sz : Nat) : Bool :=
 let B:=ancB ops ops.size
 let ds:=(List.range m).map (dstOf ops)
 Region.noSelect ops && decide (m ≤ ops.size) &&
 ((List.range m).all fun i => match dstOf ops i with
   | some d => decide (d < sz) && ((List.range m).all fun j => i == j || !(dstOf ops j == some d))
   | none => false) &&
 ((List.range ops.size).all fun i => (needsAt ops i).all fun j => decide (j < i)) &&
 ((List.range m).all fun i => (List.range m).all fun j => !usesB ops i j || (decide (j < i) && (needsAt ops i).contains j) || i == j || (decide (i < j) && (B.getD j 0).testBit i)) &&
 ((List.range ops.size).all fun d => decide (d < m) || (List.range m).all fun i => (B.getD d 0).testBit i)
section
variable {P : Program} {ops : Array Oper} {Q : Exit → Act → World → Prop} {m sz : Nat}
theorem chk_sel (h : chkR ops m sz = true) : Region.noSelect ops = true:=by simp only [chkR, Bool.and_eq_true] at h; exact h.1.1.1.1.1
theorem chk_le (h : chkR ops m sz = true) : m ≤ ops.size:=by simp only [chkR, Bool.and_eq_true] at h; simpa using h.1.1.1.1.2
theorem chk_dst (h : chkR ops m sz = true) {i : Nat} (hi : i < m) : ∃ d, dstOf ops i = some d ∧ d < sz ∧ ∀ j, j < m → i ≠ j → dstOf ops j ≠ some d:=by
 simp only [chkR, Bool.and_eq_true] at h
 have h1:=List.all_eq_true.1 h.1.1.1.2 i (List.mem_range.2 hi)
 cases hd : dstOf ops i with
 | none => rw [hd] at h1; simp at h1
 | some d =>
   rw [hd] at h1
   simp only [Bool.and_eq_true, decide_eq_true_eq, List.all_eq_true, List.mem_range] at h1
   refine ⟨d, rfl, h1.1, fun j hj hne he => ?_⟩
   have:=h1.2 j hj
   simp [he, hne] at this
theorem chk_need (h : chkR ops m sz = true) {i j : Nat} (hj : j ∈ needsAt ops i) : j < i:=by
 simp only [chkR, Bool.and_eq_true] at h
 have h1:=h.1.1.2
 rcases Nat.lt_or_ge i ops.size with hi | hi
 · have h2:=List.all_eq_true.1 (List.all_eq_true.1 h1 i (List.mem_range.2 hi)) j hj
   simpa using h2
 · unfold needsAt at hj
   rw [Array.getElem?_eq_none hi] at hj
   cases hj
theorem chk_use (h : chkR ops m sz = true) {i j : Nat} (hi : i < m) (hj : j < m) (hu : usesB ops i j = true) : (j < i ∧ j ∈ needsAt ops i) ∨ i = j ∨ (i < j ∧ ((ancB ops ops.size).getD j 0).testBit i = true):=by
 simp only [chkR, Bool.and_eq_true] at h
 have h2:=List.all_eq_true.1 (List.all_eq_true.1 h.1.2 i (List.mem_range.2 hi)) j (List.mem_range.2 hj)
 simp only [hu, Bool.not_true, Bool.false_or, Bool.or_eq_true, Bool.and_eq_true, decide_eq_true_eq, List.contains_iff_mem, beq_iff_eq] at h2
 rcases h2 with (h2 | h2) | h2
 · exact .inl h2
 · exact .inr (.inl h2)
 · exact .inr (.inr h2)
theorem chk_tail (h : chkR ops m sz = true) {d i : Nat} (hd : m ≤ d) (hd2 : d < ops.size) (hi : i < m) : ((ancB ops ops.size).getD d 0).testBit i = true:=by
 simp only [chkR, Bool.and_eq_true] at h
 have h2:=List.all_eq_true.1 h.2 d (List.mem_range.2 hd2)
 rw [Bool.or_eq_true] at h2
 rcases h2 with h2 | h2
 · simp only [decide_eq_true_eq] at h2; omega
 · exact List.all_eq_true.1 h2 i (List.mem_range.2 hi)
theorem StepF.wpOp {i : Nat} {oi : Oper} {a : Act} {w : World} {K : Value → World → Prop} {K2 : Act → World → Prop} (hi : ops[i]? = some oi) (h : StepF P ops oi a w K)
   (hk : ∀ x w', K x w' → K2 (a.put oi.dst x) w') : wpOp P ops Q i K2 a w:=by
 unfold Go.wpOp
 unfold StepF at h
 simp only [hi]
 split
 · rename_i hw
   rw [if_pos hw] at h
   refine .inl ?_
   unfold Oper.wp
   generalize (execOp a.eval oi).run P w = r at *
   cases r with
   | ok n w' =>
     cases n <;> simp only [GivesR] at h <;> simp only [Oper.upon]
     case value x => exact hk _ _ h
     case skip => exact hk _ _ h
     case enter f args =>
       refine Calls.mono h fun e w'' he => ?_
       obtain ⟨x, rfl, hx⟩:=he
       exact hk _ _ hx
   | halt x w' => cases h
 · rename_i hw
   rw [if_neg hw] at h
   exact hk _ _ h
theorem StepF.congr {oi : Oper} {a a' : Act} {w : World} {K : Value → World → Prop} (hs : ∀ cs b, oi.op ≠ .select cs b) (he : ∀ t ∈ oi.looksAt ops, a.tmps[t]? = a'.tmps[t]?) (h : StepF P ops oi a w K) : StepF P ops oi a' w K:=by
 have e1 : execOp a.eval oi = execOp a'.eval oi:=execOp_congr oi hs fun x hx => by
   cases x with
   | tmp t =>
     have:=he t (List.mem_append_left _ (List.mem_filterMap.2 ⟨.tmp t, by simpa using hx, rfl⟩))
     simp only [Act.eval, Array.getD_eq_getD_getElem?, this]
   | _ => rfl
 have e2 : Region.wanted oi (yielded ops a.tmps) = Region.wanted oi (yielded ops a'.tmps):=by
   unfold Region.wanted
   cases hg : oi.guard with
   | none => rfl
   | some gw =>
     obtain ⟨g, want⟩:=gw
     have hy : yielded ops a.tmps g = yielded ops a'.tmps g:=by
       unfold yielded
       cases ht : (ops[g]?).bind (·.dst) with
       | none => rfl
       | some t =>
         have:=he t (List.mem_append_right _ (by simp [hg, ht]))
         simp [this]
     simp only [hy]
 unfold StepF at *
 rw [← e1, ← e2]
 exact h
theorem StepF.mono {oi : Oper} {a : Act} {w : World} {K K' : Value → World → Prop} (h : StepF P ops oi a w K) (hk : ∀ x w', K x w' → K' x w') : StepF P ops oi a w K':=by
 unfold StepF at *
 split
 · rename_i hw
   rw [if_pos hw] at h
   generalize (execOp a.eval oi).run P w = r at *
   cases r with
   | ok n w' =>
     cases n <;> simp only [GivesR] at h ⊢
     case value x => exact hk _ _ h
     case skip => exact hk _ _ h
     case enter f args =>
       refine Calls.mono h fun e w'' he => ?_
       obtain ⟨x, rfl, hx⟩:=he
       exact ⟨x, rfl, hk _ _ hx⟩
   | halt x w' => cases h
 · rename_i hw
   rw [if_neg hw] at h
   exact hk _ _ h
theorem put_at {a : Act} {d t : Nat} {v : Value} (hd : d < a.tmps.size) : (a.put (some d) v).tmps[t]? = if t = d then some v else a.tmps[t]?:=by
 unfold Act.put
 by_cases h : t = d
 · subst h; simp [hd]
 · rw [if_neg h, Array.getElem?_setIfInBounds_ne (Ne.symm h)]
theorem put_size {a : Act} {d : Option Tmp} {v : Value} : (a.put d v).tmps.size = a.tmps.size:=by
 cases d <;> simp [Act.put]
theorem put_def {a : Act} {d : Option Tmp} {v : Value} : (a.put d v).defers = a.defers:=by
 cases d <;> simp [Act.put]
theorem actsF_size (a0 : Act) (facts : Nat → Fact) (u : Nat → Value) : ∀ k, (actsF ops a0 facts u k).tmps.size = a0.tmps.size ∧ (actsF ops a0 facts u k).defers = a0.defers
 | 0 => ⟨rfl, rfl⟩
 | k + 1 => by
   obtain ⟨h1, h2⟩:=actsF_size a0 facts u k
   exact ⟨by rw [actsF, put_size, h1], by rw [actsF, put_def, h2]⟩
theorem actsF_old {a0 : Act} {facts : Nat → Fact} {u : Nat → Value} (h : chkR ops m a0.tmps.size = true) {t : Nat} : ∀ k, k ≤ m → (∀ j, j < k → dstOf ops j ≠ some t) → (actsF ops a0 facts u k).tmps[t]? = a0.tmps[t]?
 | 0, _, _ => rfl
 | k + 1, hk, ht => by
   obtain ⟨d, hd, hds, _⟩:=chk_dst h (i:=k) (by omega)
   rw [actsF, hd, put_at (by rw [(actsF_size a0 facts u k).1]; exact hds), if_neg (fun e => ht k (by omega) (by rw [hd, e])), actsF_old h k (by omega) (fun j hj => ht j (by omega))]
theorem actsF_new {a0 : Act} {facts : Nat → Fact} {u : Nat → Value} (h : chkR ops m a0.tmps.size = true) {j t : Nat} (ht : dstOf ops j = some t) : ∀ k, k ≤ m → j < k → (actsF ops a0 facts u k).tmps[t]? = some ((facts j).val (u j))
 | 0, _, hj => by omega
 | k + 1, hk, hj => by
   obtain ⟨d, hd, hds, hne⟩:=chk_dst h (i:=k) (by omega)
   rw [actsF, hd, put_at (by rw [(actsF_size a0 facts u k).1]; exact hds)]
   by_cases hjk : j = k
   · subst hjk
     rw [hd] at ht
     cases ht
     rw [if_pos rfl]
   · rw [if_neg (fun e => hne j (by omega) (Ne.symm hjk) (by rw [ht, e])), actsF_new h ht k (by omega) (by omega)]
theorem actsF_pre {a0 : Act} {f g : Nat → Fact} {u : Nat → Value} : ∀ k, (∀ i, i < k → f i = g i) → actsF ops a0 f u k = actsF ops a0 g u k
 | 0, _ => rfl
 | k + 1, h => by rw [actsF, actsF, actsF_pre k (fun i hi => h i (by omega)), h k (by omega)]
def Ob (P : Program) (ops : Array Oper) (a0 : Act) (W : World) (facts : Nat → Fact) (i : Nat) : Prop:=∀ oi, ops[i]? = some oi → ∀ (u : Nat → Value) (w : World), Below W.heap.size W w →
 (∀ j V c, usesB ops i j = true → j < i → facts j = .is V c → V (u j) w ∧ ∀ r, (u j).ownBlock = some r → W.heap.size ≤ r ∧ r < w.heap.size) → StepF P ops oi (actsF ops a0 facts u i) w (fun x w' => ResF w u (facts i) x w')
def GoodAt (tk : Bool) (ops : Array Oper) (m : Nat) (facts : Nat → Fact) (i : Nat) : Prop:=∀ V c, facts i = .is V c → Stable tk V ∧ ∀ j, c = some j → tk = true ∧ j < i ∧ usesB ops i j = true ∧ (∀ k, k < m → k ≠ i → usesB ops k j = false) ∧ ∃ V' c', facts j = .is V' c'
structure InvR (ops : Array Oper) (m : Nat) (a0 : Act) (facts : Nat → Fact) (W : World) (l : Array Bool) (a : Act) (w : World) : Prop where
 size : l.size = ops.size
 closed : ListedClosed .any ops l
 tail : ∀ d, m ≤ d → l.getD d false = false
 defers : a.defers = a0.defers
 sz : a.tmps.size = a0.tmps.size
 old : ∀ t, (∀ i, l.getD i false = true → dstOf ops i ≠ some t) → a.tmps[t]? = a0.tmps[t]?
 eqs : ∀ i v, l.getD i false = true → facts i = .eq v → atD ops a i = v
 vars : ∀ i V c, l.getD i false = true → facts i = .is V c → (∀ k, l.getD k false = true → ∀ V', facts k ≠ .is V' (some i)) → V (atD ops a i) w ∧ ∀ r, (atD ops a i).ownBlock = some r → W.heap.size ≤ r ∧ r < w.heap.size ∧
   ∀ j V' c', j ≠ i → l.getD j false = true → facts j = .is V' c' → (∀ k, l.getD k false = true → ∀ V', facts k ≠ .is V' (some j)) → (atD ops a j).ownBlock ≠ some r
 below : Below W.heap.size W w
variable {tk : Bool} {a0 : Act} {facts : Nat → Fact} {W : World} {l : Array Bool} {a : Act} {w : World}
theorem InvR.lt (h : InvR ops m a0 facts W l a w) {i : Nat} (hl : l.getD i false = true) : i < m:=by
 rcases Nat.lt_or_ge i m with h1 | h1
 · exact h1
 · rw [h.tail i h1] at hl; cases hl
theorem at_some (hI : InvR ops m a0 facts W l a w) (hc : chkR ops m a0.tmps.size = true) {j t : Nat} (hj : j < m) (hd : dstOf ops j = some t) : a.tmps[t]? = some (atD ops a j):=by
 obtain ⟨d, h1, h2, _⟩:=chk_dst hc hj
 rw [h1] at hd
 cases hd
 have : t < a.tmps.size:=by rw [hI.sz]; exact h2
 unfold atD
 rw [h1]
 simp [this]
theorem slot_agree (hI : InvR ops m a0 facts W l a w) (hc : chkR ops m a0.tmps.size = true) {i : Nat} {oi : Oper} (hi : ops[i]? = some oi) (him : i < m) (hun : l.getD i false = false)
   (hneed : ∀ j ∈ needsAt ops i, l.getD j false = true) {t : Nat} (ht : t ∈ oi.looksAt ops) : (actsF ops a0 facts (atD ops a) i).tmps[t]? = a.tmps[t]?:=by
 by_cases hex : ∃ j, j < m ∧ dstOf ops j = some t
 · obtain ⟨j, hj, hd⟩:=hex
   have hu : usesB ops i j = true:=by
     unfold usesB
     rw [hi, hd]
     simpa using ht
   have stay : l.getD j false = false → (actsF ops a0 facts (atD ops a) i).tmps[t]? = a.tmps[t]? ∨ j < i:=fun hjun => by
     by_cases hji : j < i
     · exact .inr hji
     · left
       rw [actsF_old hc i (by omega) (fun k hk he => by
         obtain ⟨d, h1, _, h3⟩:=chk_dst hc hj
         rw [hd] at h1; cases h1
         exact h3 k (by omega) (by omega) he)]
       symm
       refine hI.old t (fun k hk he => ?_)
       obtain ⟨d, h1, _, h3⟩:=chk_dst hc hj
       rw [hd] at h1; cases h1
       exact h3 k (hI.lt hk) (fun e => by subst e; rw [hjun] at hk; cases hk) he
   rcases chk_use hc him hj hu with ⟨h1, h2⟩ | h1 | ⟨h1, h2⟩
   · have hlj:=hneed j h2
     rw [actsF_new hc hd i (by omega) h1, at_some hI hc hj hd]
     congr 1
     cases hf : facts j with
     | eq v => exact (hI.eqs j v hlj hf).symm
     | is V c => rfl
   · subst h1
     rcases stay hun with h | h
     · exact h
     · omega
   · have hjun : l.getD j false = false:=by
       rw [← Bool.not_eq_true]
       intro hlj
       have:=anc_listed hI.closed ops.size j h2 hlj
       rw [hun] at this; cases this
     rcases stay hjun with h | h
     · exact h
     · omega
 · have hno : ∀ j, j < m → dstOf ops j ≠ some t:=fun j hj he => hex ⟨j, hj, he⟩
   rw [actsF_old hc i (by omega) (fun j hj => hno j (by omega))]
   exact (hI.old t (fun k hk => hno k (hI.lt hk))).symm
theorem getD_set (l : Array Bool) (i j : Nat) (hi : i < l.size) : (l.setIfInBounds i true).getD j false = if j = i then true else l.getD j false:=by
 by_cases h : j = i
 · subst h; simp [hi]
 · rw [if_neg h, getD_set_ne false (Ne.symm h)]
theorem grown_none {w w' : World} (h : Below w.heap.size w w') (row : Option Nat) : w.grownBy w' row:=⟨h.os, h.tape, h.output, h.size, fun i hi _ => h.block i hi⟩
theorem inv_step (hI : InvR ops m a0 facts W l a w) (hc : chkR ops m a0.tmps.size = true) (hg : ∀ i, i < m → GoodAt tk ops m facts i) {i : Nat} {oi : Oper} (hi : ops[i]? = some oi) (him : i < m)
   (hr : i ∈ Region.ready .any ops l) (hob : Ob P ops a0 W facts i) : StepF P ops oi a w (fun x w' => InvR ops m a0 facts W (l.setIfInBounds i true) (a.put oi.dst x) w'):=by
 obtain ⟨hun0, oi', hoi', hall⟩:=mem_ready.1 hr
 obtain rfl : oi' = oi:=Option.some.inj (hoi'.symm.trans hi)
 have hsz : i < l.size:=by rw [hI.size]; exact (Array.getElem?_eq_some_iff.1 hi).1
 have hun : l.getD i false = false:=by
   simp [hsz] at hun0 ⊢; exact hun0
 have hneed : ∀ j ∈ needsAt ops i, l.getD j false = true:=fun j hj => by
   unfold needsAt at hj
   rw [hi] at hj
   simp only [needsOf, List.mem_map, List.mem_filter] at hj
   obtain ⟨e, ⟨he, hb⟩, rfl⟩:=hj
   exact hall e (by simpa using he) hb
 have hlive : ∀ j, usesB ops i j = true → ∀ k, l.getD k false = true → ∀ V', facts k ≠ .is V' (some j):=fun j hu k hk V' hf => by
   have hkm:=hI.lt hk
   obtain ⟨_, h2⟩:=hg k hkm V' (some j) hf
   obtain ⟨_, _, _, h3, _⟩:=h2 j rfl
   have hne : i ≠ k:=fun e => by subst e; rw [hun] at hk; cases hk
   rw [h3 i him hne] at hu; cases hu
 have husL : ∀ j, usesB ops i j = true → j < i → l.getD j false = true:=fun j hu hj => by
   rcases chk_use hc him (by omega) hu with ⟨_, h⟩ | h | ⟨h, _⟩
   · exact hneed j h
   · omega
   · omega
 have hstep:=hob oi' hi (atD ops a) w hI.below (fun j V c hu hj hf => by
   have h1:=hI.vars j V c (husL j hu hj) hf (hlive j hu)
   exact ⟨h1.1, fun r e => ⟨(h1.2 r e).1, (h1.2 r e).2.1⟩⟩)
 refine ((hstep.congr (Region.noSelect_spec (chk_sel hc) i oi' · · hi) (fun t ht => slot_agree hI hc hi him hun hneed ht))).mono ?_
 intro x w' hres
 obtain ⟨d, hd, hds, hdne⟩:=chk_dst hc him
 have hdst : oi'.dst = some d:=by unfold dstOf at hd; rw [hi] at hd; exact hd
 rw [hdst]
 have hat : atD ops (a.put (some d) x) i = x:=by
   unfold atD
   rw [hd]
   simp only [Array.getD_eq_getD_getElem?]
   rw [put_at (by rw [hI.sz]; exact hds), if_pos rfl]; rfl
 have hato : ∀ j, j < m → j ≠ i → atD ops (a.put (some d) x) j = atD ops a j:=fun j hj hne => by
   unfold atD
   cases hdj : dstOf ops j with
   | none => rfl
   | some t =>
     simp only [Array.getD_eq_getD_getElem?]
     rw [put_at (by rw [hI.sz]; exact hds), if_neg (fun e => hdne j hj (Ne.symm hne) (by rw [hdj, e]))]
 obtain ⟨row, hgrow, hrtk, hrow, hxb⟩ : ∃ row, w.grownBy w' row ∧ (∀ r, row = some r → tk = true) ∧ (∀ r, row = some r → ∃ j0 V0 c0, (∃ V, facts i = .is V (some j0)) ∧ facts j0 = .is V0 c0 ∧ usesB ops i j0 = true ∧ l.getD j0 false = true ∧ (atD ops a j0).ownBlock = some r) ∧
     (∀ V c, facts i = .is V c → V x w' ∧ ∀ r, x.ownBlock = some r → (w.heap.size ≤ r ∧ r < w'.heap.size) ∨ row = some r):=by
   cases hf : facts i with
   | eq v =>
     rw [hf] at hres
     exact ⟨none, grown_none hres.2 _, by simp, by simp, by simp⟩
   | is V c =>
     cases c with
     | none =>
       rw [hf] at hres
       exact ⟨none, grown_none hres.2.1 _, by simp, by simp, fun V' c' e => by cases e; exact ⟨hres.1, fun r e => .inl (hres.2.2 r e)⟩⟩
     | some j0 =>
       rw [hf] at hres
       obtain ⟨_, h2⟩:=hg i him V (some j0) hf
       obtain ⟨htk, h3, h4, _, V0, c0, h5⟩:=h2 j0 rfl
       exact ⟨_, hres.2.1, fun _ _ => htk, fun r e => ⟨j0, V0, c0, ⟨V, rfl⟩, h5, h4, husL j0 h4 h3, e⟩, fun V' c' e => by cases e; exact ⟨hres.1, fun r e => hres.2.2 r e⟩⟩
 have hrowh : ∀ r, row = some r → W.heap.size ≤ r ∧ r < w.heap.size:=fun r e => by
   obtain ⟨j0, V0, c0, _, h5, h4, h6, h7⟩:=hrow r e
   have:=(hI.vars j0 V0 c0 h6 h5 (hlive j0 h4)).2 r h7
   exact ⟨this.1, this.2.1⟩
 have hwsz:=hgrow.size
 have hWsz:=hI.below.size
 have hwas : ∀ j, j ≠ i → (∀ k, (l.setIfInBounds i true).getD k false = true → ∀ V', facts k ≠ .is V' (some j)) → (∀ k, l.getD k false = true → ∀ V', facts k ≠ .is V' (some j)) ∧
     ((l.setIfInBounds i true).getD j false = true → ∀ V c, facts j = .is V c → ∀ r, row = some r → (atD ops a j).ownBlock ≠ some r):=fun j hji hlv => by
   have h1 : ∀ k, l.getD k false = true → ∀ V', facts k ≠ .is V' (some j):=fun k hk => hlv k (getD_set_true hk)
   refine ⟨h1, fun hlj V c hf r e => ?_⟩
   obtain ⟨j0, V0, c0, ⟨V1, h2⟩, h5, h4, h6, h7⟩:=hrow r e
   have hne : j ≠ j0:=fun e2 => by
     subst e2
     exact hlv i (by rw [getD_set l i i hsz, if_pos rfl]) V1 h2
   rw [getD_set l i j hsz, if_neg hji] at hlj
   exact ((hI.vars j0 V0 c0 h6 h5 (hlive j0 h4)).2 r h7).2.2 j V c hne hlj hf h1
 refine { size:=by rw [Array.size_setIfInBounds]; exact hI.size, closed:=hI.closed.set hr, tail:=fun e he => by rw [getD_set l i e hsz, if_neg (by omega)]; exact hI.tail e he, defers:=by rw [put_def]; exact hI.defers, sz:=by rw [put_size]; exact hI.sz, old:=?_, eqs:=?_, vars:=?_, below:=hI.below.grown hgrow hWsz (fun k e => (hrowh k e).1) }
 · intro t ht
   rw [put_at (by rw [hI.sz]; exact hds), if_neg (fun e => ht i (by rw [getD_set l i i hsz, if_pos rfl]) (by rw [hd, e]))]
   exact hI.old t (fun k hk => ht k (getD_set_true hk))
 · intro j v hlj hf
   by_cases hji : j = i
   · subst hji
     rw [hat]
     rw [hf] at hres
     exact hres.1
   · rw [getD_set l i j hsz, if_neg hji] at hlj
     rw [hato j (hI.lt hlj) hji]
     exact hI.eqs j v hlj hf
 · intro j V c hlj hf hlv
   by_cases hji : j = i
   · subst hji
     rw [hat]
     obtain ⟨h1, h2⟩:=hxb V c hf
     refine ⟨h1, fun r e => ?_⟩
     have hb : W.heap.size ≤ r ∧ r < w'.heap.size:=by
       rcases h2 r e with h | h
       · omega
       · have:=hrowh r h; omega
     refine ⟨hb.1, hb.2, fun j2 V2 c2 hne hl2 hf2 hlv2 => ?_⟩
     obtain ⟨h3, h4⟩:=hwas j2 hne hlv2
     have h5:=h4 hl2 V2 c2 hf2
     rw [getD_set l j j2 hsz, if_neg hne] at hl2
     rw [hato j2 (hI.lt hl2) hne]
     rcases h2 r e with h | h
     · intro e2
       have:=((hI.vars j2 V2 c2 hl2 hf2 h3).2 r e2).2.1
       omega
     · exact h5 r h
   · obtain ⟨h3, h4⟩:=hwas j hji hlv
     have h5:=h4 hlj V c hf
     rw [getD_set l i j hsz, if_neg hji] at hlj
     rw [hato j (hI.lt hlj) hji]
     obtain ⟨h6, h7⟩:=hI.vars j V c hlj hf h3
     refine ⟨(hg j (hI.lt hlj) V c hf).1 _ w w' row h6 hgrow (fun r e => ⟨hrtk r e, h5 r e⟩), fun r e => ?_⟩
     obtain ⟨h8, h9, h10⟩:=h7 r e
     refine ⟨h8, by omega, fun j2 V2 c2 hne hl2 hf2 hlv2 => ?_⟩
     by_cases hj2 : j2 = i
     · subst hj2
       rw [hat]
       intro e2
       rcases (hxb V2 c2 hf2).2 r e2 with h | h
       · omega
       · exact h5 r h e
     · obtain ⟨h11, _⟩:=hwas j2 hj2 hlv2
       rw [getD_set l i j2 hsz, if_neg hj2] at hl2
       rw [hato j2 (hI.lt hl2) hj2]
       exact h10 j2 V2 c2 hne hl2 hf2 h11
theorem count_set (f g : Nat → Bool) (i : Nat) (h1 : f i = true) (h2 : g i = false) (h3 : ∀ j, j ≠ i → f j = g j) : ∀ m, i < m → (List.range m).countP f = (List.range m).countP g + 1
 | 0, h => by omega
 | m + 1, h => by
   rw [List.range_succ, List.countP_append, List.countP_append]
   by_cases hm : i = m
   · subst hm
     have : ∀ k, k ≤ i → (List.range k).countP f = (List.range k).countP g:=fun k hk => List.countP_congr (fun x hx => by rw [h3 x (by have:=List.mem_range.1 hx; omega)])
     rw [this i (Nat.le_refl _)]
     simp [h1, h2]
   · rw [count_set f g i h1 h2 h3 m (by omega)]
     simp [h3 m (Ne.symm hm)]
     omega
def FinR (P : Program) (ops : Array Oper) (Q : Exit → Act → World → Prop) (m : Nat) (a0 : Act) (W : World) (facts : Nat → Fact) : Prop:=∀ (l : Array Bool) (u : Nat → Value) (w : World), l.size = ops.size → (∀ i, i < m → l.getD i false = true) → (∀ i, m ≤ i → l.getD i false = false) → Below W.heap.size W w →
 (∀ j V c, j < m → facts j = .is V c → (∀ k, k < m → ∀ V', facts k ≠ .is V' (some j)) → V (u j) w) → wpAny P .any ops Q (ops.size - m) l (actsF ops a0 facts u m) w
theorem region_any (hc : chkR ops m a0.tmps.size = true) (hg : ∀ i, i < m → GoodAt tk ops m facts i) (hob : ∀ i, i < m → Ob P ops a0 W facts i) (hfin : FinR P ops Q m a0 W facts) :
   ∀ (d : Nat) (l : Array Bool) (a : Act) (w : World), InvR ops m a0 facts W l a w → (List.range m).countP (fun i => !l.getD i false) = d → wpAny P .any ops Q (d + (ops.size - m)) l a w:=by
 intro d
 induction d with
 | zero =>
   intro l a w hI hcount
   have hall : ∀ i, i < m → l.getD i false = true:=fun i hi => by
     have:=List.countP_eq_zero.1 hcount i (List.mem_range.2 hi)
     simpa using this
   have ha : a = actsF ops a0 facts (atD ops a) m:=by
     obtain ⟨h1, h2⟩:=actsF_size (ops:=ops) a0 facts (atD ops a) m
     have ht : a.tmps = (actsF ops a0 facts (atD ops a) m).tmps:=by
       apply Array.ext_getElem?
       intro t
       by_cases hex : ∃ j, j < m ∧ dstOf ops j = some t
       · obtain ⟨j, hj, hd⟩:=hex
         rw [actsF_new hc hd m (Nat.le_refl _) hj, at_some hI hc hj hd]
         congr 1
         cases hf : facts j with
         | eq v => exact hI.eqs j v (hall j hj) hf
         | is V c => rfl
       · have hno : ∀ j, j < m → dstOf ops j ≠ some t:=fun j hj he => hex ⟨j, hj, he⟩
         rw [actsF_old hc m (Nat.le_refl _) hno]
         exact hI.old t (fun k hk => hno k (hI.lt hk))
     have hdf : a.defers = (actsF ops a0 facts (atD ops a) m).defers:=by rw [h2]; exact hI.defers
     revert ht hdf
     generalize actsF ops a0 facts (atD ops a) m = a2
     intro ht hdf
     cases a; cases a2
     simp_all
   have:=hfin l (atD ops a) w hI.size hall hI.tail hI.below (fun j V c hj hf hlv => (hI.vars j V c (hall j hj) hf (fun k hk => hlv k (hI.lt hk))).1)
   rw [← ha] at this
   simpa using this
 | succ d ih =>
   intro l a w hI hcount
   have hex : ∃ i, i < m ∧ l.getD i false = false:=by
     apply Classical.byContradiction
     intro h
     have : (List.range m).countP (fun i => !l.getD i false) = 0:=List.countP_eq_zero.2 fun i hi => by
       have hi:=List.mem_range.1 hi
       cases hl : l.getD i false with
       | true => simp
       | false => exact absurd ⟨i, hi, hl⟩ h
     omega
   have hunT : ∀ i, i < ops.size → l.getD i false = false → l.getD i true = false:=fun i hi h => by
     have : i < l.size:=by rw [hI.size]; exact hi
     simp [this] at h ⊢; exact h
   have hready : Region.ready .any ops l ≠ []:=by
     have hm:=chk_le hc
     have key : ∀ n i, i < n → i < m → l.getD i false = false → ∃ j, j ∈ Region.ready .any ops l:=by
       intro n
       induction n with
       | zero => intro i hi; omega
       | succ n ihn =>
         intro i hin him hun
         by_cases hall : ∀ j ∈ needsAt ops i, l.getD j false = true
         · refine ⟨i, mem_ready.2 ⟨hunT i (by omega) hun, ?_⟩⟩
           have hi : i < ops.size:=by omega
           refine ⟨ops[i], Array.getElem?_eq_getElem hi, fun e he hb => hall e.on ?_⟩
           unfold needsAt
           rw [Array.getElem?_eq_getElem hi]
           exact List.mem_map.2 ⟨e, List.mem_filter.2 ⟨by simpa using he, hb⟩, rfl⟩
         · obtain ⟨j, hj⟩:=Classical.not_forall.1 hall
           obtain ⟨hj1, hj2⟩:=Classical.not_imp.1 hj
           have:=chk_need hc hj1
           exact ihn j (by omega) (by omega) (by simpa using hj2)
     obtain ⟨i, him, hun⟩:=hex
     obtain ⟨j, hj⟩:=key (i + 1) i (by omega) him hun
     intro h
     rw [h] at hj
     cases hj
   rw [show d + 1 + (ops.size - m) = (d + (ops.size - m)) + 1 by omega]
   refine ⟨fun h => absurd h hready, fun i hi => ?_⟩
   obtain ⟨hun0, oi, hoi, hall⟩:=mem_ready.1 hi
   have hlt : i < ops.size:=(Array.getElem?_eq_some_iff.1 hoi).1
   have hsz : i < l.size:=by rw [hI.size]; exact hlt
   have hun : l.getD i false = false:=by simp [hsz] at hun0 ⊢; exact hun0
   have him : i < m:=by
     apply Classical.byContradiction
     intro h
     obtain ⟨k, hk, hku⟩:=hex
     have hanc:=chk_tail hc (d:=i) (by omega) hlt hk
     have hcl:=hI.closed.set hi
     have:=anc_listed hcl ops.size i hanc (by rw [getD_set l i i hsz, if_pos rfl])
     rw [getD_set l i k hsz, if_neg (by omega), hku] at this
     cases this
   refine (inv_step hI hc hg hoi him hi (hob i him)).wpOp hoi (fun x w' hI' => ih _ _ _ hI' ?_)
   have:=count_set (fun j => !l.getD j false) (fun j => !(l.setIfInBounds i true).getD j false) i (by simp only [hun]; rfl) (by simp only [getD_set l i i hsz, if_true]; rfl) (fun j hj => by simp only [getD_set l i j hsz, if_neg hj]) m him
   omega
def Plan (tk : Bool) (P : Program) (ops : Array Oper) (Q : Exit → Act → World → Prop) (m : Nat) (a0 : Act) (W : World) (k : Nat) (a : (Nat → Value) → Act) (vs : List (Nat × (Value → World → Prop))) : Prop :=
 ∀ pre : Nat → Fact, (∀ u, a u = actsF ops a0 pre u k) → (∀ x ∈ vs, (∃ c, pre x.1 = .is x.2 c) ∧ x.1 < k ∧ ∀ i, i < k → ∀ V', pre i ≠ .is V' (some x.1)) → (∀ i, i < k → ∀ V j, pre i = .is V (some j) → j < k) →
   ∃ facts : Nat → Fact, (∀ i, i < k → facts i = pre i) ∧ (∀ i, k ≤ i → i < m → Ob P ops a0 W facts i ∧ GoodAt tk ops m facts i) ∧ FinR P ops Q m a0 W facts
theorem region_plan {id : Nat} {a0 : Act} {w : World} (m : Nat) (tk : Bool:=false) (hm : P.follows .mixedOrders = true) (hc : chkR ops m a0.tmps.size = true) (h : ∀ W, W = w.drew → Plan tk P ops Q m a0 W 0 (fun _ => a0) []) : (Code.region id ops true).wp P Q a0 w:=by
 obtain ⟨facts, _, hall, hfin⟩:=h w.drew rfl (fun _ => .eq undef) (fun _ => rfl) (by simp) (by omega)
 refine wp_region_any hm ?_
 have hle:=chk_le hc
 have hrep : ∀ d, (Array.replicate ops.size false).getD d false = false:=fun d => by
   simp only [Array.getD_eq_getD_getElem?, Array.getElem?_replicate]
   split <;> rfl
 have hI : InvR ops m a0 facts w.drew (Array.replicate ops.size false) a0 w.drew :=
   { size:=by simp, closed:=fun j oj hj hl => (by rw [hrep] at hl; cases hl), tail:=fun d _ => hrep d, defers:=rfl, sz:=rfl, old:=fun _ _ => rfl, eqs:=fun i v hl => (by rw [hrep] at hl; cases hl), vars:=fun i V c hl => (by rw [hrep] at hl; cases hl), below:=Below.refl _ _ }
 have hcount : (List.range m).countP (fun i => !(Array.replicate ops.size false).getD i false) = m:=by
   simp only [hrep]
   simp
 have:=region_any hc (fun i hi => (hall i (by omega) hi).2) (fun i hi => (hall i (by omega) hi).1) hfin m _ _ _ hI hcount
 rw [show m + (ops.size - m) = ops.size by omega] at this
 exact this
theorem plan_fix {a0 : Act} {k : Nat} {oi : Oper} {N : Option Tmp} {v : Value} {a a' : (Nat → Value) → Act} {vs : List (Nat × (Value → World → Prop))} (hi : ops[k]? = some oi) (hN : oi.dst = N)
   (h : ∀ u w, Below W.heap.size W w → (∀ x ∈ vs, usesB ops k x.1 = true → x.2 (u x.1) w ∧ ∀ r, (u x.1).ownBlock = some r → W.heap.size ≤ r ∧ r < w.heap.size) → StepF P ops oi (a u) w (fun x w' => x = v ∧ Below w.heap.size w w'))
   (ha : ∀ u, (a u).put N v = a' u) (hp : Plan tk P ops Q m a0 W (k + 1) a' vs) : Plan tk P ops Q m a0 W k a vs:=by
 intro pre hpre hvs hcs
 have hpp : ∀ i, i < k → (fun i => if i = k then Fact.eq v else pre i) i = pre i:=fun i hi => if_neg (by omega)
 have hd : dstOf ops k = N:=by unfold dstOf; rw [hi, ← hN]; rfl
 obtain ⟨facts, h1, h2, h3⟩:=hp (fun i => if i = k then .eq v else pre i)
   (fun u => by rw [← ha u, actsF, actsF_pre k hpp, ← hpre u, hd]; simp [Fact.val])
   (fun x hx => by
     obtain ⟨⟨c, g1⟩, g2, g3⟩:=hvs x hx
     refine ⟨⟨c, by rw [← g1]; exact if_neg (by omega)⟩, by omega, fun i hi V' => ?_⟩
     show (if i = k then Fact.eq v else pre i) ≠ _
     split
     · intro e; cases e
     · exact g3 i (by omega) V')
   (fun i hi V j e => by
     replace e : (if i = k then Fact.eq v else pre i) = .is V (some j):=e
     split at e
     · cases e
     · have:=hcs i (by omega) V j e; omega)
 have hfk : facts k = .eq v:=by rw [h1 k (by omega)]; exact if_pos rfl
 have hfp : ∀ i, i < k → facts i = pre i:=fun i hi => by rw [h1 i (by omega)]; exact if_neg (by omega)
 refine ⟨facts, hfp, fun i hki him => ?_, h3⟩
 by_cases hik : i = k
 · subst hik
   refine ⟨fun o ho u w hB hu => ?_, fun V c e => by rw [hfk] at e; cases e⟩
   obtain rfl : oi = o:=Option.some.inj (hi.symm.trans ho)
   rw [actsF_pre i hfp, ← hpre u]
   refine (h u w hB (fun x hx hus => ?_)).mono (fun x w' hx => ?_)
   · obtain ⟨⟨c, g1⟩, g2, _⟩:=hvs x hx
     exact hu x.1 x.2 c hus g2 (by rw [hfp _ g2]; exact g1)
   · rw [hfk]; exact hx
 · exact h2 i (by omega) him
theorem plan_rest {a0 : Act} {k n : Nat} {a : (Nat → Value) → Act} {vs : List (Nat × (Value → World → Prop))} (l : Array Bool) (hk : k = m) (hn : ops.size - m = n) (hl : ((List.range ops.size).map fun i => decide (i < m)) = l.toList)
   (h : ∀ u w, Below W.heap.size W w → (∀ x ∈ vs, x.2 (u x.1) w) → wpAny P .any ops Q n l (a u) w) : Plan tk P ops Q m a0 W k a vs:=by
 subst hk
 subst hn
 intro pre hpre hvs _
 refine ⟨pre, fun _ _ => rfl, fun i h1 h2 => by omega, fun l2 u w h1 h2 h3 hB hv => ?_⟩
 have hl2 : l2 = l:=by
   apply Array.ext'
   rw [← hl]
   apply List.ext_getElem
   · simp [h1]
   · intro i g1 g2
     simp only [Array.length_toList] at g1
     simp only [List.getElem_map, List.getElem_range, Array.getElem_toList]
     by_cases hi : i < k
     · have:=h2 i hi
       simp [g1] at this
       simp [hi, this]
     · have:=h3 i (by omega)
       simp [g1] at this
       simp [hi, this]
 rw [hl2, ← hpre u]
 exact h u w hB (fun x hx => by
   obtain ⟨⟨c, g1⟩, g2, g3⟩:=hvs x hx
   exact hv x.1 x.2 c g2 g1 g3)
theorem step_val {oi : Oper} {a : Act} {w w' : World} {x : Value} {K : Value → World → Prop} (hw : Region.wanted oi (yielded ops a.tmps) = true) (hr : (execOp a.eval oi).run P w = .ok (.value x) w') (hk : K x w') : StepF P ops oi a w K:=by
 unfold StepF
 rw [if_pos hw, hr]
 exact hk
end
end Go.Proofs.YtacknhbgfijkcaaGreatDoor
end
section
/- wf.known: its second loop goes over a map in whatever order; each round looks at what stood ahead of the loop alone, and puts at most one entry into another map, which is a table from then on. -/
namespace Go.Proofs.YtacknhbgfijkcaaGreatDoor
open Go Go.RowKit Go.Proofs.YtacknhbgfijkcaaGreatDoor.Abs
theorem kBody_eq : bodyOf kP 37 = nest [kR0, kR1, kX] (.seq (.seq (.region 12 kOps12 false) kB2) (.seq (.region 21 kOps21 false) .ret)):=by kernel_rfl
def opG (ops : Array Oper) (i : Nat) : Option (Option Tmp × Op × Option (Nat × Bool)):=(ops[i]?).map fun o => (o.dst, o.op, o.guard)
theorem opG_at {ops : Array Oper} {i : Nat} {d : Option Tmp} {op : Op} {g : Option (Nat × Bool)} (h : opG ops i = some (d, op, g)) : ∃ o, ops[i]? = some o ∧ o.dst = d ∧ o.op = op ∧ o.guard = g:=by
 unfold opG at h
 obtain ⟨o, h1, h2⟩:=Option.map_eq_some_iff.1 h
 cases h2
 exact ⟨o, h1, rfl, rfl, rfl⟩
section
variable (G : GivenT)
def KOut (n : Nat) (e : AExit) (s' : ASt) (out : Option Value) : Prop:=s'.h.n ≤ n + 512 ∧ match out with
 | none => e = .exit 3 ∨ (e = .normal ∧ s'.E.get 120 = some (.bool false))
 | some v => e = .normal ∧ s'.E.get 120 = some (.bool true) ∧ flat v = true ∧ ∃ p, s'.E.get 15 = some p ∧ aload kP 124 s'.h p = some v
def KPiece (v0 v3 : Value) (hr : Hp) (x : MapEntry) (out : Option Value) : Prop:=∀ ET, SubE (kE v0 v3 x.key x.val) ET → ∃ e s', ChainR kP G 128 kPs ⟨ET, hr⟩ e s' ∧ KOut hr.n e s' out
def KRounds (v0 v3 : Value) (hr : Hp) : List MapEntry → List (Option Value) → Prop
 | [], l => l = []
 | x :: r, l => ∃ o l', l = o :: l' ∧ KPiece G v0 v3 hr x o ∧ KRounds v0 v3 hr r l'
theorem KOut.unique {n : Nat} {e : AExit} {s' : ASt} {o1 o2 : Option Value} (h : KOut n e s' o1) (k : KOut n e s' o2) : o1 = o2:=by
 obtain ⟨_, h⟩:=h
 obtain ⟨_, k⟩:=k
 cases o1 with
 | none =>
   cases o2 with
   | none => rfl
   | some v =>
     obtain ⟨k1, k2, _⟩:=k
     rcases h with h | ⟨_, h⟩
     · rw [k1] at h; cases h
     · rw [k2] at h; cases h
 | some v =>
   obtain ⟨h1, h2, _, p, h3, h4⟩:=h
   cases o2 with
   | none =>
     rcases k with k | ⟨_, k⟩
     · rw [h1] at k; cases k
     · rw [h2] at k; cases k
   | some u =>
     obtain ⟨_, _, _, q, k3, k4⟩:=k
     rw [h3] at k3
     cases k3
     rw [h4] at k4
     cases k4
     rfl
theorem KPiece.unique {v0 v3 : Value} {hr : Hp} {x : MapEntry} {o1 o2 : Option Value} (h : KPiece G v0 v3 hr x o1) (k : KPiece G v0 v3 hr x o2) : o1 = o2:=by
 obtain ⟨e, s', h1, h2⟩:=h _ (fun _ _ h => h)
 obtain ⟨e2, s2, k1, k2⟩:=k _ (fun _ _ h => h)
 obtain ⟨rfl, rfl⟩:=h1.unique k1
 exact h2.unique k2
theorem KRounds.unique {v0 v3 : Value} {hr : Hp} : ∀ {es : List MapEntry} {l1 l2 : List (Option Value)}, KRounds G v0 v3 hr es l1 → KRounds G v0 v3 hr es l2 → l1 = l2
 | [], l1, l2, h, k => (show l1 = [] from h).trans (show l2 = [] from k).symm
 | x :: r, l1, l2, ⟨o, l, e, h1, h2⟩, ⟨o', l', e', k1, k2⟩ => by
   rw [e, e', h1.unique G k1, KRounds.unique h2 k2]
def KRun (args : List Value) (h : Hp) (v : Value) (h' : Hp) : Prop:=∃ s3 s4 fid es c wr cid cc nb no pC outs v0,
 ChainR kP G 128 [kR0, kR1, kX] ⟨args0 args 0 (.full 8), h⟩ .normal s3 ∧ RunsOps kP G 128 kOps12 (kOps12.toList.take 4) s3 s4 ∧
 s4.E.get 82 = some (.map (some fid)) ∧ s4.h.t.get fid = some (.map es c wr) ∧ kOkE c es = true ∧
 s4.E.get 0 = some v0 ∧ s4.E.get 3 = some (.pointer (some ⟨nb, no, none⟩)) ∧ afieldAddr kP 74 3 (.pointer (some ⟨nb, no, none⟩)) = some pC ∧ aload kP 72 s4.h pC = some (.map (some cid)) ∧
 aload kP 72 (kHro s4.h cid es.length) pC = some (.map (some cid)) ∧ s4.h.t.get cid = some (.map [] cc true) ∧ fid ≠ cid ∧ cid < s4.h.n ∧ fid < s4.h.n ∧
 KRounds G v0 (.pointer (some ⟨nb, no, none⟩)) (kHro s4.h cid es.length) es outs ∧ v = .pointer (some ⟨nb, no, none⟩) ∧ h' = ⟨s4.h.t.set cid (some (.table (kTab es outs))), s4.h.n⟩
theorem KRun.unique {args : List Value} {h : Hp} {v1 v2 : Value} {h1 h2 : Hp} (a : KRun G args h v1 h1) (b : KRun G args h v2 h2) : v1 = v2 ∧ h1 = h2:=by
 obtain ⟨s3, s4, fid, es, c, wr, cid, cc, nb, no, pC, outs, v0, a1, a2, a3, a4, a5, a6, a7, a8, a9, a10, a11, a12, a13, a14, a15, a16, a17⟩:=a
 obtain ⟨t3, t4, fid', es', c', wr', cid', cc', nb', no', pC', outs', v0', b1, b2, b3, b4, b5, b6, b7, b8, b9, b10, b11, b12, b13, b14, b15, b16, b17⟩:=b
 obtain ⟨_, rfl⟩:=a1.unique b1
 obtain rfl:=a2.unique b2
 rw [a3] at b3; cases b3
 rw [a4] at b4; cases b4
 rw [a6] at b6; cases b6
 rw [a7] at b7; cases b7
 rw [a8] at b8; cases b8
 rw [a9] at b9; cases b9
 obtain rfl:=KRounds.unique G a15 b15
 exact ⟨a16.trans b16.symm, a17.trans b17.symm⟩
open Classical in
noncomputable def natKnown : Native:=fun args h => if hx : ∃ p : Value × Hp, KRun G args h p.1 p.2 then .ret (.ret hx.choose.1, hx.choose.2) else .none
variable {G}
theorem natKnown_ret {args : List Value} {h h' : Hp} {v : Value} (k : KRun G args h v h') : natKnown G args h = .ret (.ret v, h'):=by
 unfold natKnown
 have hx : ∃ p : Value × Hp, KRun G args h p.1 p.2:=⟨(v, h'), k⟩
 rw [dif_pos hx]
 obtain ⟨e1, e2⟩:=KRun.unique G hx.choose_spec k
 rw [e1, e2]
theorem natKnown_run {args : List Value} {h h' : Hp} {r : CRet} (k : (natKnown G args h).run = some (r, h')) : ∃ v, r = .ret v ∧ KRun G args h v h':=by
 unfold natKnown at k
 split at k
 · rename_i hx
   cases k
   exact ⟨_, rfl, hx.choose_spec⟩
 · cases k
section
variable {P : Program} {o : Oper} {ρ : Operand → Value} {w w' : World}
theorem exec_move {x : Operand} (h : o.op = .move x) : (execOp ρ o).run P w = .ok (.value (ρ x)) w:=by unfold execOp; rw [h]; rfl
theorem exec_assign {x : Operand} (h : o.op = .assign x) : (execOp ρ o).run P w = .ok (.value (ρ x)) w:=by unfold execOp; rw [h]; rfl
theorem exec_nil {x : Operand} {ad : Addr} (h : o.op = .nilCheck x) (hx : ρ x = .pointer (some ad)) : (execOp ρ o).run P w = .ok (.value (.pointer (some ad))) w:=by unfold execOp; rw [h]; simp only [hx]; rfl
theorem exec_fa {s : TypeId} {x : Operand} {f : Nat} {v : Value} (h : o.op = .fieldAddr s x f) (hr : (Instr.fieldAt s (ρ x) f).run P w = .ok v w) : (execOp ρ o).run P w = .ok (.value v) w:=by unfold execOp; rw [h]; simp only [Sem.run_bind, hr, Result.andThen_ok, Sem.run_pure]
theorem exec_load {t : TypeId} {x : Operand} {v : Value} (h : o.op = .load t x) (hr : (Instr.loadAt t (ρ x)).run P w = .ok v w) : (execOp ρ o).run P w = .ok (.value v) w:=by unfold execOp; rw [h]; simp only [Sem.run_bind, hr, Result.andThen_ok, Sem.run_pure]
theorem exec_ext {x : Operand} {i : Nat} {v : Value} (h : o.op = .extract x i) (hr : (Instr.extract (ρ x) i).run P w = .ok v w) : (execOp ρ o).run P w = .ok (.value v) w:=by unfold execOp; rw [h]; simp only [Sem.run_bind, hr, Result.andThen_ok, Sem.run_pure]
theorem exec_range {t : TypeId} {x : Operand} {v : Value} (h : o.op = .range t x) (hr : (Instr.range t (ρ x)).run P w = .ok v w') : (execOp ρ o).run P w = .ok (.value v) w':=by unfold execOp; rw [h]; simp only [Sem.run_bind, hr, Result.andThen_ok, Sem.run_pure]
theorem exec_next {x : Operand} {b : Bool} {v : Value} (h : o.op = .next x b) (hr : (Instr.next (ρ x) b o.type).run P w = .ok v w') : (execOp ρ o).run P w = .ok (.value v) w':=by unfold execOp; rw [h]; simp only [Sem.run_bind, hr, Result.andThen_ok, Sem.run_pure]
theorem exec_entry {x : Operand} {v : Value} (h : o.op = .entry x) (hr : (Instr.entry (ρ x)).run P w = .ok v w') : (execOp ρ o).run P w = .ok (.value v) w':=by unfold execOp; rw [h]; simp only [Sem.run_bind, hr, Result.andThen_ok, Sem.run_pure]
theorem exec_upd {t : TypeId} {m k x : Operand} (h : o.op = .mapUpdate t m k x) (hr : (Instr.mapUpdate t (ρ m) (ρ k) (ρ x)).run P w = .ok () w') : (execOp ρ o).run P w = .ok .skip w':=by unfold execOp; rw [h]; simp only [Sem.run_bind, hr, Result.andThen_ok, Sem.run_pure]
theorem run_extract {vs : Array Value} {i : Nat} {v : Value} (h : vs[i]? = some v) : (Instr.extract (.tuple vs) i).run P w = .ok v w:=by
 simp [Instr.extract, h]
theorem wpOps_step {ops : Array Oper} {Q : Exit → Act → World → Prop} {i : Nat} {l : List Nat} {a : Act} {v : Value} (ho : ops[i]? = some o) (hg : o.guard = none) (hr : (execOp a.eval o).run P w = .ok (.value v) w') (h : wpOps P ops Q l (a.put o.dst v) w') : wpOps P ops Q (i :: l) a w:=by
 unfold wpOps
 rw [ho]
 dsimp only
 rw [if_pos (by simp only [Region.wanted, hg])]
 refine .inl ?_
 unfold Oper.wp
 rw [hr]
 exact h
theorem eval_put_same {a : Act} {d : Nat} {v : Value} (h : d < a.tmps.size) : (a.put (some d) v).eval (.tmp d) = v:=by
 show (a.tmps.setIfInBounds d v).getD d undef = v
 rw [Array.getD_eq_getD_getElem?, Array.getElem?_setIfInBounds, if_pos rfl, if_pos h]
 rfl
theorem getD_put_ne {a : Act} {d t : Nat} {v : Value} (h : d ≠ t) : (a.put (some d) v).tmps.getD t undef = a.tmps.getD t undef:=by
 show (a.tmps.setIfInBounds d v).getD t undef = _
 rw [Array.getD_eq_getD_getElem?, Array.getElem?_setIfInBounds, if_neg h, Array.getD_eq_getD_getElem?]
theorem eval_put_ne {a : Act} {d t : Nat} {v : Value} (h : d ≠ t) : (a.put (some d) v).eval (.tmp t) = a.eval (.tmp t):=getD_put_ne h
theorem chkR_mono {ops : Array Oper} {m sz sz' : Nat} (h : chkR ops m sz = true) (hs : sz ≤ sz') : chkR ops m sz' = true:=by
 unfold chkR at h ⊢
 simp only [Bool.and_eq_true] at h ⊢
 obtain ⟨⟨⟨⟨⟨a1, a2⟩, a3⟩, a4⟩, a5⟩, a6⟩:=h
 refine ⟨⟨⟨⟨⟨a1, a2⟩, ?_⟩, a4⟩, a5⟩, a6⟩
 rw [List.all_eq_true] at a3 ⊢
 intro i hi
 have:=a3 i hi
 cases hd : dstOf ops i with
 | none => rw [hd] at this; cases this
 | some d =>
   rw [hd] at this
   dsimp only at this ⊢
   rw [Bool.and_eq_true] at this ⊢
   exact ⟨decide_eq_true (Nat.lt_of_lt_of_le (of_decide_eq_true this.1) hs), this.2⟩
end
end
theorem wp_regionO {P : Program} {id n : Nat} {ops : Array Oper} {Q : Exit → Act → World → Prop} {a : Act} {w : World} (hs : ops.size = n) (h : ∀ ops', ops' = ops → wpOps P ops' Q (List.range n) a w) : (Code.region id ops false).wp P Q a w:=wp_region (by rw [hs]; exact h _ rfl)
structure KX where
 base : Nat
 w0 : Abs.Start
 G : GivenT
 ι : Nat → Option Abs.Loc
 h : Hp
 cid : Nat
 es : Array MapEntry
 clock : Nat
 bF : Nat
 bC : Nat
 r : Nat
 v0 : Value
 nb : Nat
 no : Nat
 pC : Value
 out : MapEntry → Option Value
 dfs : List Deferred
abbrev KX.nv (X : KX) : Value:=.pointer (some ⟨X.nb, X.no, none⟩)
noncomputable abbrev KX.hr (X : KX) : Hp:=kHro X.h X.cid X.es.size
noncomputable def KX.H (X : KX) : Nat → Option AObj:=fun id => if id < X.h.n then (X.h.t.set X.cid none).get id else none
structure KFix (X : KX) : Prop where
 fresh : ∀ id, X.h.n ≤ id → X.ι id = none
 glob : kP.globals.size ≤ X.h.n
 iC : ∃ i, X.ι X.cid = some i ∧ i.rb = X.bC
 apart : ∀ id j o, X.ι id = some j → X.H id = some o → j.rb ≠ X.bC
 below : ∀ id j, X.ι id = some j → j.rb < X.r
 baseC : X.base ≤ X.bC
 ltC : X.bC < X.r
 ltF : X.bF < X.r
 neF : X.bF ≠ X.bC
 baseR : X.base ≤ X.r
 nodup : (X.es.toList.map (·.born)).Nodup
 old : ∀ x ∈ X.es.toList, x.born < X.clock
 keys : ∀ x ∈ X.es.toList, ∃ s k z, x.key = .string s ∧ x.val = .int k z
 kdist : ∀ x ∈ X.es.toList, ∀ y ∈ X.es.toList, x.key = y.key → x = y
 piece : ∀ x ∈ X.es.toList, KPiece X.G X.v0 X.nv X.hr x (X.out x)
 fa : afieldAddr kP 74 3 X.nv = some X.pC
 ld : aload kP 72 X.hr X.pC = some (.map (some X.cid))
structure KCore (X : KX) (ι : Nat → Option Abs.Loc) (M : Nat) (seen : Array Nat) (a : Act) (w : World) : Prop where
 low : ∀ id, id < X.h.n → ι id = X.ι id
 free : ∀ id, X.h.n + M ≤ id → ι id = none
 inv : Abs.Inv kP X.base X.w0 ι X.H w
 slots : Slots ι a.tmps
 size : 128 ≤ a.tmps.size
 defs : a.defers = X.dfs
 s0 : VRel ι X.v0 (a.tmps.getD 0 undef)
 s3 : VRel ι X.nv (a.tmps.getD 3 undef)
 it : a.tmps.getD 83 undef = .pointer (some ⟨X.r, 0, none⟩)
 iter : ∃ c0, X.clock ≤ c0 ∧ w.heap[X.r]? = some (.mapIter (some X.bF) X.clock seen c0)
 mapF : w.heap[X.bF]? = some (.map X.es X.clock)
def KTab (X : KX) (seen : Array Nat) (w : World) : Prop:=∃ ces cc, w.heap[X.bC]? = some (.map ces cc) ∧ (∀ e ∈ ces.toList, ∃ x ∈ X.es.toList, seen.contains x.born = true ∧ x.key = e.key ∧ X.out x = some e.val) ∧
 (∀ x ∈ X.es.toList, seen.contains x.born = true → ∀ v, X.out x = some v → ∃ e ∈ ces.toList, e.key = x.key ∧ e.val = v)
theorem inv_outside {P : Program} {base : Nat} {w0 : Abs.Start} {ι : Nat → Option Abs.Loc} {H : Nat → Option AObj} {w w' : World} (h : Abs.Inv P base w0 ι H w) (hb : Below base w w') (hs : ∀ id i o, ι id = some i → H id = some o → w'.heap[i.rb]? = w.heap[i.rb]?) : Abs.Inv P base w0 ι H w' where
 below:=h.below.trans hb
 base_le:=h.base_le
 init:=h.init
 obj:=fun id i o h1 h2 => (h.obj id i o h1 h2).grow (Grows.refl _) (hs id i o h1 h2)
 inj:=h.inj
 lt:=fun id i h1 => Nat.lt_of_lt_of_le (h.lt id i h1) hb.size
 glob:=h.glob
theorem below_set {base b : Nat} {w : World} {o : Obj} (h : base ≤ b) : Below base w (ChangeMaps.setBlock w b o):=⟨rfl, rfl, rfl, by simp [ChangeMaps.setBlock], fun k hk => by
 show (w.heap.setIfInBounds b o)[k]? = _
 rw [Array.getElem?_setIfInBounds, if_neg (by omega)]⟩
theorem set_at {b : Nat} {w : World} {o : Obj} (h : b < w.heap.size) : (ChangeMaps.setBlock w b o).heap[b]? = some o:=by
 show (w.heap.setIfInBounds b o)[b]? = _
 rw [Array.getElem?_setIfInBounds, if_pos rfl, if_pos h]
theorem set_ne {b c : Nat} {w : World} {o : Obj} (h : c ≠ b) : (ChangeMaps.setBlock w b o).heap[c]? = w.heap[c]?:=by
 show (w.heap.setIfInBounds b o)[c]? = _
 rw [Array.getElem?_setIfInBounds, if_neg (fun e => h e.symm)]
theorem lt_of_at {b : Nat} {w : World} {o : Obj} (h : w.heap[b]? = some o) : b < w.heap.size:=(Array.getElem?_eq_some_iff.1 h).1
section
variable {X : KX} {ι : Nat → Option Abs.Loc} {M : Nat} {seen : Array Nat} {a : Act} {w : World}
theorem KX.H_low {id : Nat} {o : AObj} (h : X.H id = some o) : id < X.h.n:=by
 unfold KX.H at h
 split at h
 · assumption
 · cases h
theorem KCore.put (h : KCore X ι M seen a w) {d : Nat} {v r : Value} (h0 : d ≠ 0) (h3 : d ≠ 3) (h83 : d ≠ 83) (hv : VRel ι v r) : KCore X ι M seen (a.put (some d) r) w :=
 { h with
   slots:=h.slots.put (some d) hv
   size:=by show 128 ≤ (a.tmps.setIfInBounds d r).size; rw [Array.size_setIfInBounds]; exact h.size
   defs:=h.defs
   s0:=by rw [getD_put_ne h0]; exact h.s0
   s3:=by rw [getD_put_ne h3]; exact h.s3
   it:=by rw [getD_put_ne h83]; exact h.it }
theorem KCore.next (hX : KFix X) (h : KCore X ι M seen a w) {w1 : World} (hw : w1 = w ∨ w1 = w.drew) (b : Nat) : KCore X ι M (seen.push b) a (ChangeMaps.setBlock w1 X.r (.mapIter (some X.bF) X.clock (seen.push b) X.clock)) ∧ (KTab X seen w → KTab X seen (ChangeMaps.setBlock w1 X.r (.mapIter (some X.bF) X.clock (seen.push b) X.clock))):=by
 have hh : w1.heap = w.heap:=by rcases hw with rfl | rfl <;> rfl
 have hb1 : Below X.base w w1:=by
   rcases hw with rfl | rfl
   · exact Below.refl _ _
   · exact (Below.refl _ _).drew
 obtain ⟨c0, _, hit⟩:=h.iter
 have hlt : X.r < w1.heap.size:=by rw [hh]; exact lt_of_at hit
 refine ⟨{ h with inv:=?_, iter:=⟨X.clock, Nat.le_refl _, set_at hlt⟩, mapF:=?_ }, fun ht => ?_⟩
 · refine inv_outside h.inv (hb1.trans (below_set hX.baseR)) fun id i o h1 h2 => ?_
   have hl:=KX.H_low h2
   rw [h.low id hl] at h1
   have:=hX.below id i h1
   rw [set_ne (by omega), hh]
 · rw [set_ne (by have:=hX.ltF; omega), hh]
   exact h.mapF
 · obtain ⟨ces, cc, h1, h2⟩:=ht
   exact ⟨ces, cc, by rw [set_ne (by have:=hX.ltC; omega), hh]; exact h1, h2⟩
theorem kE_get {v0 v3 v10 v11 : Value} {t : Nat} {v : Value} (h : (kE v0 v3 v10 v11).get t = some v) : (t = 0 ∧ v = v0) ∨ (t = 3 ∧ v = v3) ∨ (t = 10 ∧ v = v10) ∨ (t = 11 ∧ v = v11):=by
 unfold kE at h
 rw [Tr.get_set] at h
 split at h
 · cases h; exact .inr (.inr (.inr ⟨by assumption, rfl⟩))
 · rw [Tr.get_set] at h
   split at h
   · cases h; exact .inr (.inr (.inl ⟨by assumption, rfl⟩))
   · rw [Tr.get_set] at h
     split at h
     · cases h; exact .inr (.inl ⟨by assumption, rfl⟩)
     · rw [Tr.get_set] at h
       split at h
       · cases h; exact .inl ⟨by assumption, rfl⟩
       · rw [Tr.full_get] at h; cases h
theorem kE_at0 {v0 v3 v10 v11 : Value} : (kE v0 v3 v10 v11).get 0 = some v0:=by simp [kE, Tr.get_set]
theorem kE_at3 {v0 v3 v10 v11 : Value} : (kE v0 v3 v10 v11).get 3 = some v3:=by simp [kE, Tr.get_set]
theorem kE_at10 {v0 v3 v10 v11 : Value} : (kE v0 v3 v10 v11).get 10 = some v10:=by simp [kE, Tr.get_set]
theorem kHro_get : X.hr.t.get = fun id => (X.H id).map AObj.ro:=by
 funext id
 show (roT X.h.n (X.h.t.set X.cid none) 1 0).get id = _
 rw [roT_get, Nat.one_mul, Nat.add_zero]
 unfold KX.H
 split <;> rfl
theorem ChainR.frame {G : GivenT} {P : Program} {lim : Nat} : ∀ {cs : List Code} {s s' : ASt} {e : AExit}, ChainR P G lim cs s e s' → ∀ t, (cs.all fun c => !(asgL c).contains t) = true → s'.E.get t = s.E.get t
 | [], s, s', e, ⟨_, h⟩, t, _ => by rw [h]
 | c :: r, s, s', e, .inl ⟨u, h1, h2⟩, t, ht => by
   rw [List.all_cons, Bool.and_eq_true] at ht
   rw [ChainR.frame h2 t ht.2]
   exact h1.frame t (by simpa using ht.1)
 | c :: r, s, s', e, .inr ⟨_, h⟩, t, ht => by
   rw [List.all_cons, Bool.and_eq_true] at ht
   exact h.frame t (by simpa using ht.1)
theorem aload_ptr {P : Program} {t : TypeId} {h : Hp} {p v : Value} (hl : aload P t h p = some v) : ∃ a, p = .pointer a:=by
 unfold aload at hl
 split at hl
 · exact ⟨_, rfl⟩
 · cases hl
theorem ptr_uniq {ι : Nat → Option Abs.Loc} {v r r' : Value} (hp : ∃ a, v = .pointer a) (h : VRel ι v r) (h' : VRel ι v r') : r = r':=by
 obtain ⟨a, rfl⟩:=hp
 cases h with
 | nilPtr => cases h'; rfl
 | ptr id off i hi =>
   cases h' with
   | ptr _ _ j hj =>
     rw [hi] at hj
     cases hj
     rfl
theorem ptr_same {ι ι' : Nat → Option Abs.Loc} (hg : Grows ι ι') {v r : Value} {ad : Addr} (h : VRel ι v (.pointer (some ad))) (h' : VRel ι' v r) : r = .pointer (some ad):=by
 cases h with
 | ptr id off i hi =>
   cases h' with
   | ptr _ _ j hj =>
     rw [hg _ _ hi] at hj
     cases hj
     rfl
end
theorem KTab.add {X : KX} (hX : KFix X) {seen : Array Nat} {w' : World} {e : MapEntry} {v : Value} {ces : Array MapEntry} {cc : Nat} (he : e ∈ X.es.toList) (ho : X.out e = some v) (h2 : ∀ y ∈ ces.toList, ∃ x ∈ X.es.toList, seen.contains x.born = true ∧ x.key = y.key ∧ X.out x = some y.val)
   (h3 : ∀ x ∈ X.es.toList, seen.contains x.born = true → ∀ v, X.out x = some v → ∃ y ∈ ces.toList, y.key = x.key ∧ y.val = v) (hw : w'.heap[X.bC]? = some (.map (ces.push { key:=e.key, val:=v, born:=cc }) (cc + 1))) : KTab X (seen.push e.born) w':=by
 refine ⟨_, _, hw, fun y hy => ?_, fun x hx hs u hu => ?_⟩
 · rw [Array.toList_push, List.mem_append] at hy
   rcases hy with hy | hy
   · obtain ⟨x, a1, a2, a3⟩:=h2 y hy
     exact ⟨x, a1, by rw [Array.contains_push, a2]; rfl, a3⟩
   · obtain rfl : y = { key:=e.key, val:=v, born:=cc }:=by simpa using hy
     exact ⟨e, he, by rw [Array.contains_push]; simp, rfl, ho⟩
 · rw [Array.contains_push, Bool.or_eq_true] at hs
   rw [Array.toList_push]
   rcases hs with hs | hs
   · obtain ⟨y, b1, b2⟩:=h3 x hx hs u hu
     exact ⟨y, List.mem_append_left _ b1, b2⟩
   · obtain rfl:=born_inj hX.nodup hx he (by simpa using hs)
     rw [ho] at hu
     cases hu
     exact ⟨_, List.mem_append_right _ List.mem_cons_self, rfl, rfl⟩
theorem KTab.none {X : KX} (hX : KFix X) {seen : Array Nat} {w w' : World} {e : MapEntry} (he : e ∈ X.es.toList) (ho : X.out e = none) (hw : w'.heap[X.bC]? = w.heap[X.bC]?) (h : KTab X seen w) : KTab X (seen.push e.born) w':=by
 obtain ⟨ces, cc, h1, h2, h3⟩:=h
 refine ⟨ces, cc, hw.trans h1, fun y hy => ?_, fun x hx hs u hu => ?_⟩
 · obtain ⟨x, a1, a2, a3⟩:=h2 y hy
   exact ⟨x, a1, by rw [Array.contains_push, a2]; rfl, a3⟩
 · rw [Array.contains_push, Bool.or_eq_true] at hs
   rcases hs with hs | hs
   · exact h3 x hx hs u hu
   · obtain rfl:=born_inj hX.nodup hx he (by simpa using hs)
     rw [ho] at hu
     cases hu
theorem KTab.at_ {X : KX} {seen : Array Nat} {w w' : World} (h : KTab X seen w) (hw : w'.heap[X.bC]? = w.heap[X.bC]?) : KTab X seen w':=by
 obtain ⟨ces, cc, h1, h2⟩:=h
 exact ⟨ces, cc, hw.trans h1, h2⟩
theorem KCore.later {X : KX} (hX : KFix X) {ι ι' : Nat → Option Abs.Loc} {M N : Nat} {seen : Array Nat} {a a' : Act} {w w' : World} {s s' : ASt} (h : KCore X ι M seen a w) (hN : X.h.n + M ≤ N) (hs : s.h.n = N) (t : Turn ι s.h.n s.h.t.get ι' s'.h.n s'.h.t.get) (hsl : Slots ι' a'.tmps) (hsz : 128 ≤ a'.tmps.size) (hd : a'.defers = a.defers)
   (hB : Below w.heap.size w w') (hlt : ∀ id i, ι' id = some i → i.rb < w'.heap.size) (h0 : VRel ι' X.v0 (a'.tmps.getD 0 undef)) (h3 : VRel ι' X.nv (a'.tmps.getD 3 undef)) (h83 : a'.tmps.getD 83 undef = .pointer (some ⟨X.r, 0, none⟩)) :
   KCore X (later (X.h.n + M) N s'.h.n ι ι') (M + (s'.h.n - N)) seen a' w':=by
 have hm : ∀ id, X.h.n + M ≤ id → ι id = none:=h.free
 have hout : ∀ id, ¬ (N ≤ id ∧ id < s'.h.n) → ι' id = ι id:=fun id hid => (t.out id (by rw [hs]; exact hid)).1
 have hgr:=later_grows (ι:=ι) (ι':=ι') (N:=N) (n':=s'.h.n) hm
 refine
   { low:=fun id hid => (later_low (by omega)).trans (h.low id hid)
     free:=fun id hid => later_free id (by omega)
     inv:=(h.inv.still hB).wide hgr (fun id o ho => later_low (Nat.lt_of_lt_of_le (KX.H_low ho) (Nat.le_add_right _ _))) fun id i hi => ?_
     slots:=hsl.later hm hout
     size:=hsz
     defs:=hd.trans h.defs
     s0:=(h.s0.back t.grow h0).grow hgr
     s3:=(h.s3.back t.grow h3).grow hgr
     it:=h83
     iter:=?_
     mapF:=(hB.block _ (lt_of_at h.mapF)).trans h.mapF }
 · rcases later_from id i hi with hi | ⟨id2, hi⟩
   · exact Nat.lt_of_lt_of_le (h.inv.lt id i hi) hB.size
   · exact hlt id2 i hi
 · obtain ⟨c0, h1, h2⟩:=h.iter
   exact ⟨c0, h1, (hB.block _ (lt_of_at h2)).trans h2⟩
theorem k13s : kOps13.size = 2:=by kernel_rfl
theorem k14s : kOps14.size = 5:=by kernel_rfl
theorem k21s : kOps21.size = 2:=by kernel_rfl
theorem k12s : kOps12.size = 5:=by kernel_rfl
theorem k20s : kOps20.size = 7:=by kernel_rfl
theorem k20c : chkR kOps20 6 128 = true:=by kernel_rfl
theorem k20l : (List.range kOps20.size).map (fun i => decide (i < 6)) = [true, true, true, true, true, true, false]:=by kernel_rfl
theorem k20r : Region.ready .any kOps20 #[true, true, true, true, true, true, false] = [6]:=by kernel_rfl
theorem k20e : Region.ready .any kOps20 (#[true, true, true, true, true, true, false].setIfInBounds 6 true) = []:=by kernel_rfl
theorem kmix : kP.follows .mixedOrders = true:=by kernel_rfl
theorem kfr : ∀ t, t = 0 ∨ t = 3 ∨ t = 10 ∨ t = 83 → (kPs.all fun c => !(asgL c).contains t) = true:=by
 rintro t (rfl | rfl | rfl | rfl) <;> kernel_rfl
theorem kuM : kP.underlying 72 = some (.map 9 124):=by kernel_rfl
theorem kuS : kP.underlying 9 = some .string:=by kernel_rfl
theorem kuF : kP.underlying 67 = some (.map 9 3):=by kernel_rfl
noncomputable def kTail : Code:=.seq (.cond (.tmp 85) .skip (.exit 2)) (.block 3 (.seq (.region 14 kOps14 false) (nest kPs (.cond (.tmp 120) (.region 20 kOps20 true) .skip))))
noncomputable def kL : Code:=.seq (.region 13 kOps13 false) kTail
theorem kB2_eq : kB2 = .block 2 (.loop kL):=by kernel_rfl
end Go.Proofs.YtacknhbgfijkcaaGreatDoor
end
section
/- wf.known: the region that puts an entry into the map. -/
namespace Go.Proofs.YtacknhbgfijkcaaGreatDoor
open Go Go.RowKit Go.Proofs.YtacknhbgfijkcaaGreatDoor.Abs
theorem k20_ok {X : KX} (hX : KFix X) {ι : Nat → Option Abs.Loc} {M : Nat} {seen : Array Nat} {a : Act} {w : World} {e : MapEntry} {v : Value} {Q : Exit → Act → World → Prop} (h : KCore X ι M (seen.push e.born) a w) (ht : KTab X seen w) (he : e ∈ X.es.toList) (hns : seen.contains e.born = false) (ho : X.out e = some v) (hfv : flat v = true)
   (hk : a.eval (.tmp 10) = e.key) (hl : ∀ w', Below w.heap.size w w' → (Instr.loadAt 124 (a.eval (.tmp 15))).run kP w' = .ok v w')
   (hQ : ∀ a' w', KCore X ι M (seen.push e.born) a' w' → KTab X (seen.push e.born) w' → Q .normal a' w') : (Code.region 20 kOps20 true).wp kP Q a w:=by
 obtain ⟨ces, cc, hc1, hc2, hc3⟩:=ht
 obtain ⟨s, kk, z, hes, hez⟩:=hX.keys e he
 obtain ⟨iC, hiC, hiCb⟩:=hX.iC
 have hcl : X.cid < X.h.n:=by
   apply Classical.byContradiction
   intro hn
   rw [hX.fresh _ (by omega)] at hiC
   cases hiC
 have hiC' : ι X.cid = some iC:=(h.low _ hcl).trans hiC
 refine region_plan 6 false kmix (chkR_mono k20c h.size) fun W hW => ?_
 have hBW : ∀ w', Below W.heap.size W w' → Below w.heap.size w w':=fun w' hb => by
   subst hW
   exact ((Below.refl w.heap.size w).drew).trans hb
 obtain ⟨q3, hq3⟩ : ∃ q3, a.eval (.tmp 3) = q3:=⟨_, rfl⟩
 have hr3 : VRel ι X.nv q3:=by rw [← hq3]; exact h.s3
 obtain ⟨ad, had⟩ : ∃ ad, q3 = .pointer (some ad):=by cases hr3 with | ptr id off i hi => exact ⟨_, rfl⟩
 obtain ⟨qf, hqf1, hqf2⟩ : ∃ qf, (∀ w', (Instr.fieldAt 74 q3 3).run kP w' = .ok qf w') ∧ VRel ι X.pC qf:=by
   obtain ⟨u, hu, hur⟩:=afieldAddr_ok hr3 hX.fa w
   refine ⟨u, fun w' => ?_, hur⟩
   obtain ⟨u', hu', hur'⟩:=afieldAddr_ok hr3 hX.fa w'
   rw [hu']
   rw [ptr_uniq (aload_ptr hX.ld) hur' hur]
 have hld : ∀ w', Below w.heap.size w w' → (Instr.loadAt 72 qf).run kP w' = .ok (.map (some X.bC)) w':=fun w' hb => by
   have hro:=(h.inv.still hb).ro
   rw [← kHro_get] at hro
   obtain ⟨u, hu, hur⟩:=aload_ok hro hqf2 hX.ld
   rw [hu]
   cases hur with
   | map id i hi => rw [hiC'] at hi; cases hi; rw [hiCb]
 obtain ⟨o0, ho0, hd0, hp0, hg0⟩:=opG_at (show opG kOps20 0 = some (some 121, .move (.tmp 3), none) by kernel_rfl)
 obtain ⟨o1, ho1, hd1, hp1, hg1⟩:=opG_at (show opG kOps20 1 = some (some 122, .nilCheck (.tmp 121), none) by kernel_rfl)
 obtain ⟨o2, ho2, hd2, hp2, hg2⟩:=opG_at (show opG kOps20 2 = some (some 123, .fieldAddr 74 (.tmp 122) 3, none) by kernel_rfl)
 obtain ⟨o3, ho3, hd3, hp3, hg3⟩:=opG_at (show opG kOps20 3 = some (some 124, .load 72 (.tmp 123), none) by kernel_rfl)
 obtain ⟨o4, ho4, hd4, hp4, hg4⟩:=opG_at (show opG kOps20 4 = some (some 125, .move (.tmp 10), none) by kernel_rfl)
 obtain ⟨o5, ho5, hd5, hp5, hg5⟩:=opG_at (show opG kOps20 5 = some (some 126, .load 124 (.tmp 15), none) by kernel_rfl)
 obtain ⟨o6, ho6, hd6, hp6, hg6⟩:=opG_at (show opG kOps20 6 = some (none, .mapUpdate 72 (.tmp 124) (.tmp 125) (.tmp 126), none) by kernel_rfl)
 have wtd : ∀ {o : Oper} (hg : o.guard = none) (a : Act), Region.wanted o (yielded kOps20 a.tmps) = true:=fun hg a => by simp only [Region.wanted, hg]
 have sz1 : ∀ {a : Act} {d : Option Tmp} {v : Value}, 128 ≤ a.tmps.size → 128 ≤ (a.put d v).tmps.size:=fun h => by rw [put_size]; exact h
 have z0:=h.size
 have z1:=sz1 (d:=some 121) (v:=q3) z0
 have z2:=sz1 (d:=some 122) (v:=q3) z1
 have z3:=sz1 (d:=some 123) (v:=qf) z2
 have z4:=sz1 (d:=some 124) (v:=.map (some X.bC)) z3
 have z5:=sz1 (d:=some 125) (v:=e.key) z4
 have z6:=sz1 (d:=some 126) (v:=v) z5
 refine plan_fix (N:=some 121) (v:=q3) (a':=fun _ => a.put (some 121) q3) ho0 hd0 (fun u w' hB hvr => step_val (wtd hg0 _) (by rw [exec_move hp0, hq3]) ⟨rfl, Below.refl _ _⟩) (fun _ => rfl) ?_
 refine plan_fix (N:=some 122) (v:=q3) (a':=fun _ => (a.put (some 121) q3).put (some 122) q3) ho1 hd1 (fun u w' hB hvr => step_val (wtd hg1 _) (by rw [exec_nil hp1 (ad:=ad) (by rw [eval_put_same (by omega)]; exact had), had]) ⟨rfl, Below.refl _ _⟩) (fun _ => rfl) ?_
 refine plan_fix (N:=some 123) (v:=qf) (a':=fun _ => ((a.put (some 121) q3).put (some 122) q3).put (some 123) qf) ho2 hd2 (fun u w' hB hvr => step_val (wtd hg2 _) (exec_fa hp2 (by rw [eval_put_same (by omega)]; exact hqf1 _)) ⟨rfl, Below.refl _ _⟩) (fun _ => rfl) ?_
 refine plan_fix (N:=some 124) (v:=.map (some X.bC)) (a':=fun _ => (((a.put (some 121) q3).put (some 122) q3).put (some 123) qf).put (some 124) (.map (some X.bC))) ho3 hd3 (fun u w' hB hvr => step_val (wtd hg3 _) (exec_load hp3 (by rw [eval_put_same (by omega)]; exact hld _ (hBW _ hB))) ⟨rfl, Below.refl _ _⟩) (fun _ => rfl) ?_
 refine plan_fix (N:=some 125) (v:=e.key) (a':=fun _ => ((((a.put (some 121) q3).put (some 122) q3).put (some 123) qf).put (some 124) (.map (some X.bC))).put (some 125) e.key) ho4 hd4 (fun u w' hB hvr => step_val (wtd hg4 _) (by
   rw [exec_move hp4, eval_put_ne (by decide), eval_put_ne (by decide), eval_put_ne (by decide), eval_put_ne (by decide), hk]) ⟨rfl, Below.refl _ _⟩) (fun _ => rfl) ?_
 refine plan_fix (N:=some 126) (v:=v) (a':=fun _ => (((((a.put (some 121) q3).put (some 122) q3).put (some 123) qf).put (some 124) (.map (some X.bC))).put (some 125) e.key).put (some 126) v) ho5 hd5 (fun u w' hB hvr => step_val (wtd hg5 _) (exec_load hp5 (by
   rw [eval_put_ne (by decide), eval_put_ne (by decide), eval_put_ne (by decide), eval_put_ne (by decide), eval_put_ne (by decide)]; exact hl _ (hBW _ hB))) ⟨rfl, Below.refl _ _⟩) (fun _ => rfl) ?_
 refine plan_rest #[true, true, true, true, true, true, false] rfl (n:=1) (by rw [k20s]) k20l fun u w' hB _ => ?_
 have hB:=hBW _ hB
 refine ⟨fun e => (by rw [k20r] at e; cases e), fun i hi => ?_⟩
 rw [k20r] at hi
 obtain rfl : i = 6:=by simpa using hi
 have hcw : w'.heap[X.bC]? = some (.map ces cc):=(hB.block _ (lt_of_at hc1)).trans hc1
 have hup : (Instr.mapUpdate 72 (.map (some X.bC)) e.key v).run kP w' = .ok () (ChangeMaps.setBlock w' X.bC (.map (ces.push { key:=e.key, val:=v, born:=cc }) (cc + 1))):=by
   obtain ⟨_, hck⟩:=keyOk_ok (ι:=ι) (k:=e.key) (k':=e.key) (kd:=.string) (empty:=false) kuS (by rw [hes]; exact .string s) (by rw [hes]; rfl) w'
   have hfk : (Instr.findKey 9 e.key ces.toList).run kP w' = .ok none w':=by
     rcases MapKept.findNow_spec (d:=.string) (k:=e.key) (by rw [hes]; trivial) ces.toList 0 (fun x hx => by
       obtain ⟨y, hy, _, hyk, _⟩:=hc2 x hx
       obtain ⟨s', _, _, hs', _⟩:=hX.keys y hy
       rw [← hyk, hs']
       trivial) with ⟨h1, h2⟩ | ⟨j, e0, h1, h2, h3⟩
     · exact MapKept.run_findKey kuS h1
     · obtain ⟨y, hy, hys, hyk, _⟩:=hc2 e0 (List.mem_of_getElem? h2)
       obtain rfl:=hX.kdist y hy e he (hyk.trans h3)
       rw [hys] at hns
       cases hns
   simp only [Instr.mapUpdate, Sem.run_bind, run_underlying kuM, Result.andThen_ok, run_getObj hcw, hck, hfk]
   exact run_setObj hcw _
 unfold wpOp
 rw [ho6]
 dsimp only
 rw [if_pos (wtd hg6 _)]
 refine .inl ?_
 unfold Oper.wp
 have e3 : ((((((a.put (some 121) q3).put (some 122) q3).put (some 123) qf).put (some 124) (.map (some X.bC))).put (some 125) e.key).put (some 126) v).eval (.tmp 126) = v:=eval_put_same (by omega)
 have e2 : ((((((a.put (some 121) q3).put (some 122) q3).put (some 123) qf).put (some 124) (.map (some X.bC))).put (some 125) e.key).put (some 126) v).eval (.tmp 125) = e.key:=by
   rw [eval_put_ne (by decide), eval_put_same (by omega)]
 have e1 : ((((((a.put (some 121) q3).put (some 122) q3).put (some 123) qf).put (some 124) (.map (some X.bC))).put (some 125) e.key).put (some 126) v).eval (.tmp 124) = .map (some X.bC):=by
   rw [eval_put_ne (by decide), eval_put_ne (by decide), eval_put_same (by omega)]
 rw [exec_upd hp6 (by rw [e1, e2, e3]; exact hup)]
 rw [Oper.upon_skip, hd6]
 refine ⟨k20e, ?_⟩
 have hcore : KCore X ι M (seen.push e.born) a (ChangeMaps.setBlock w' X.bC (.map (ces.push { key:=e.key, val:=v, born:=cc }) (cc + 1))):=by
   obtain ⟨c0, i1, i2⟩:=h.iter
   exact { h with
     inv:=inv_outside (h.inv.still hB) (below_set hX.baseC) fun id i o h1 h2 => set_ne (hX.apart id i o (by rw [← h.low id (KX.H_low h2)]; exact h1) h2)
     iter:=⟨c0, i1, by rw [set_ne (by have:=hX.ltC; omega)]; exact (hB.block _ (lt_of_at i2)).trans i2⟩
     mapF:=by rw [set_ne hX.neF]; exact (hB.block _ (lt_of_at h.mapF)).trans h.mapF }
 have hvk : VRel ι e.key e.key:=by rw [hes]; exact .string s
 have hvm : VRel ι (.map (some X.cid)) (.map (some X.bC)):=by rw [← hiCb]; exact .map X.cid iC hiC'
 have c1:=hcore.put (d:=121) (by decide) (by decide) (by decide) hr3
 have c2:=c1.put (d:=122) (by decide) (by decide) (by decide) hr3
 have c3:=c2.put (d:=123) (by decide) (by decide) (by decide) hqf2
 have c4:=c3.put (d:=124) (by decide) (by decide) (by decide) hvm
 have c5:=c4.put (d:=125) (by decide) (by decide) (by decide) hvk
 have c6:=c5.put (d:=126) (by decide) (by decide) (by decide) (VRel.of_flat hfv)
 have hk2:=KTab.add hX he ho hc2 hc3 (set_at (lt_of_at hcw)) (w':=ChangeMaps.setBlock w' X.bC (.map (ces.push { key:=e.key, val:=v, born:=cc }) (cc + 1)))
 have h9:=hQ _ _ c6 hk2
 simp only [Act.put] at h9 ⊢
 exact h9
end Go.Proofs.YtacknhbgfijkcaaGreatDoor
end
