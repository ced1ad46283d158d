-- Printed for this claim by the kit's print.py over given contracts (wip/myprint.py). Not trusted: Lean checks it.
import Derived.Test.YtfmppmabnpkooaaDoorBGx0
namespace Go.Proofs.YtfmppmabnpkooaaDoor.BG
open Go.RowKit Go.Proofs.YtfmppmabnpkooaaDoorW.PrintWords Go.Proofs.YtfmppmabnpkooaaDoorW.PrintLast Go.Proofs.YtfmppmabnpkooaaDoorW.PrintMore
attribute [local go_sem] max2_int min2_int max_two min_two max_three min_three max_four min_four   -- for this text's walks alone
set_option linter.unusedVariables false
set_option linter.unusedSimpArgs false

/-! ### moatref3_Name: function 25 -/
mutual
def moatref3_Name.l0 : Nat → ByteArray → Int → Option (Bool)
  | 0, _, _ => none
  | k + 1, x0, x3 => if x3 < (x0.size : Int) then (if 0 ≤ x3 then (if (bt x0 x3) ≥ 97 then (if (bt x0 x3) ≤ 122 then (moatref3_Name.j1 k x0 x3 (bt x0 x3) true) else (if (bt x0 x3) ≥ 65 then (if (bt x0 x3) ≤ 90 then (moatref3_Name.j1 k x0 x3 (bt x0 x3) true) else (if (bt x0 x3) ≥ 48 then (moatref3_Name.j1 k x0 x3 (bt x0 x3) (decide ((bt x0 x3) ≤ 57))) else (moatref3_Name.j1 k x0 x3 (bt x0 x3) false))) else (if (bt x0 x3) ≥ 48 then (moatref3_Name.j1 k x0 x3 (bt x0 x3) (decide ((bt x0 x3) ≤ 57))) else (moatref3_Name.j1 k x0 x3 (bt x0 x3) false)))) else (if (bt x0 x3) ≥ 65 then (if (bt x0 x3) ≤ 90 then (moatref3_Name.j1 k x0 x3 (bt x0 x3) true) else (if (bt x0 x3) ≥ 48 then (moatref3_Name.j1 k x0 x3 (bt x0 x3) (decide ((bt x0 x3) ≤ 57))) else (moatref3_Name.j1 k x0 x3 (bt x0 x3) false))) else (if (bt x0 x3) ≥ 48 then (moatref3_Name.j1 k x0 x3 (bt x0 x3) (decide ((bt x0 x3) ≤ 57))) else (moatref3_Name.j1 k x0 x3 (bt x0 x3) false)))) else (none)) else (if (x0.size : Int) ≥ 1 then (some (decide ((x0.size : Int) ≤ 40))) else (some false))
def moatref3_Name.j1 : Nat → ByteArray → Int → Int → Bool → Option (Bool)
  | 0, _, _, _, _ => none
  | k + 1, x0, x3, x4, x5 => if x4 = 33 then (moatref3_Name.j2 k x0 x3 x5 (x4 == 33)) else (if x4 = 35 then (moatref3_Name.j2 k x0 x3 x5 (x4 == 35)) else (if x4 = 36 then (moatref3_Name.j2 k x0 x3 x5 (x4 == 36)) else (if x4 = 37 then (moatref3_Name.j2 k x0 x3 x5 (x4 == 37)) else (if x4 = 38 then (moatref3_Name.j2 k x0 x3 x5 (x4 == 38)) else (if x4 = 39 then (moatref3_Name.j2 k x0 x3 x5 (x4 == 39)) else (if x4 = 42 then (moatref3_Name.j2 k x0 x3 x5 (x4 == 42)) else (if x4 = 43 then (moatref3_Name.j2 k x0 x3 x5 (x4 == 43)) else (if x4 = 45 then (moatref3_Name.j2 k x0 x3 x5 (x4 == 45)) else (if x4 = 46 then (moatref3_Name.j2 k x0 x3 x5 (x4 == 46)) else (if x4 = 94 then (moatref3_Name.j2 k x0 x3 x5 (x4 == 94)) else (if x4 = 95 then (moatref3_Name.j2 k x0 x3 x5 (x4 == 95)) else (if x4 = 124 then (moatref3_Name.j2 k x0 x3 x5 (x4 == 124)) else (if x4 = 126 then (moatref3_Name.j2 k x0 x3 x5 (x4 == 126)) else (moatref3_Name.j2 k x0 x3 x5 (x4 == 96)))))))))))))))
def moatref3_Name.j2 : Nat → ByteArray → Int → Bool → Bool → Option (Bool)
  | 0, _, _, _, _ => none
  | k + 1, x0, x3, x5, x38 => if x38 = true then (moatref3_Name.l0 k x0 (wrap64 (x3 + 1))) else (if x5 = true then (moatref3_Name.l0 k x0 (wrap64 (x3 + 1))) else (some false))
end
def moatref3_Name.f (k : Nat) (a0 : ByteArray) : Option (Bool) := moatref3_Name.l0 k a0 0
theorem moatref3_Name.mono_l : ∀ k, (∀ y0 y1, LeO (moatref3_Name.l0 k y0 y1) (moatref3_Name.l0 (k + 1) y0 y1)) ∧ (∀ y0 y1 y2 y3, LeO (moatref3_Name.j1 k y0 y1 y2 y3) (moatref3_Name.j1 (k + 1) y0 y1 y2 y3)) ∧ (∀ y0 y1 y2 y3, LeO (moatref3_Name.j2 k y0 y1 y2 y3) (moatref3_Name.j2 (k + 1) y0 y1 y2 y3))
  | 0 => ⟨fun _ _ r h => by simp [moatref3_Name.l0] at h, fun _ _ _ _ r h => by simp [moatref3_Name.j1] at h, fun _ _ _ _ r h => by simp [moatref3_Name.j2] at h⟩
  | k + 1 => by
    obtain ⟨ih0, ih1, ih2⟩ := moatref3_Name.mono_l k
    refine ⟨?_, ?_, ?_⟩
    · intro y0 y1
      unfold moatref3_Name.l0
      repeat' first
      | (with_reducible exact ih0 _ _)
      | (with_reducible exact ih1 _ _ _ _)
      | (with_reducible exact ih2 _ _ _ _)
      | (with_reducible exact LeO.refl _)
      | (with_reducible exact LeO.none _)
      | (with_reducible refine LeO.ite ?_ ?_)
      | (with_reducible refine LeO.bind ?_ (fun _ => ?_))
      | exact ih0 _ _
      | exact ih1 _ _ _ _
      | exact ih2 _ _ _ _
      | exact LeO.none _
      | refine LeO.ite ?_ ?_
      | refine LeO.bind ?_ (fun _ => ?_)
    · intro y0 y1 y2 y3
      unfold moatref3_Name.j1
      repeat' first
      | (with_reducible exact ih0 _ _)
      | (with_reducible exact ih1 _ _ _ _)
      | (with_reducible exact ih2 _ _ _ _)
      | (with_reducible exact LeO.refl _)
      | (with_reducible exact LeO.none _)
      | (with_reducible refine LeO.ite ?_ ?_)
      | (with_reducible refine LeO.bind ?_ (fun _ => ?_))
      | exact ih0 _ _
      | exact ih1 _ _ _ _
      | exact ih2 _ _ _ _
      | exact LeO.none _
      | refine LeO.ite ?_ ?_
      | refine LeO.bind ?_ (fun _ => ?_)
    · intro y0 y1 y2 y3
      unfold moatref3_Name.j2
      repeat' first
      | (with_reducible exact ih0 _ _)
      | (with_reducible exact ih1 _ _ _ _)
      | (with_reducible exact ih2 _ _ _ _)
      | (with_reducible exact LeO.refl _)
      | (with_reducible exact LeO.none _)
      | (with_reducible refine LeO.ite ?_ ?_)
      | (with_reducible refine LeO.bind ?_ (fun _ => ?_))
      | exact ih0 _ _
      | exact ih1 _ _ _ _
      | exact ih2 _ _ _ _
      | exact LeO.none _
      | refine LeO.ite ?_ ?_
      | refine LeO.bind ?_ (fun _ => ?_)
theorem moatref3_Name.mono : ∀ a0 k, LeO (moatref3_Name.f k a0) (moatref3_Name.f (k + 1) a0) := by
  intro a0 k
  obtain ⟨ih0, ih1, ih2⟩ := moatref3_Name.mono_l k
  unfold moatref3_Name.f
  repeat' first
      | (with_reducible exact ih0 _ _)
      | (with_reducible exact ih1 _ _ _ _)
      | (with_reducible exact ih2 _ _ _ _)
      | (with_reducible exact LeO.refl _)
      | (with_reducible exact LeO.none _)
      | (with_reducible refine LeO.ite ?_ ?_)
      | (with_reducible refine LeO.bind ?_ (fun _ => ?_))
      | exact ih0 _ _
      | exact ih1 _ _ _ _
      | exact ih2 _ _ _ _
      | exact LeO.none _
      | refine LeO.ite ?_ ?_
      | refine LeO.bind ?_ (fun _ => ?_)
set_option maxHeartbeats 2000000 in
set_option maxRecDepth 100000 in
theorem moatref3_Name.calls (k : Nat) (a0 : ByteArray) (r : Bool) (w : World) (h : moatref3_Name.f k a0 = some r) :
    Calls Tryd.prog 25 #[.string a0] w fun e w' => e = .returned (.bool r) ∧ Drawn0 w w' := by
  have H : (moatref3_Name.l0 k a0 0) = some r := h
  clear h
  have H' := Aside0.mk H
  clear H
  go_enter Tryd.func25, Tryd.ntmps25
  go_wp2
  go_loopg [3] k (fun kq v3 w' => ∃ (x3_1 : Int), v3 = .int .i64 x3_1 ∧ Aside0 (moatref3_Name.l0 kq a0 x3_1 = some r) ∧ Aside0 (kq ≤ k) ∧ Drawn0 w w')
  case atStart => exact ⟨(0), (by first | rfl | (simp; done) | (simp [*]; done) | (simp [isEmpty_bne, isEmpty_beq]; done) | (simp [*, isEmpty_bne, isEmpty_beq]; done)), H', ⟨Nat.le_refl _⟩, by repeat (first | exact Drawn0.refl _ | apply Drawn0.step)⟩
  case round =>
    clear H'
    obtain ⟨x3_1, rfl, HA, HK1, ⟨m1, rfl⟩⟩ := hrel
    cases gk with
    | zero => exact absurd HA.out (by simp [moatref3_Name.l0])
    | succ k1 =>
      have H := HA.out
      clear HA
      simp only [moatref3_Name.l0] at H
      by_cases c2 : x3_1 < (a0.size : Int)
      · rw [if_pos c2] at H
        have c2b0 : decide (x3_1 < (a0.size : Int)) = true := decide_eq_true c2
        clear c2
        by_cases c3 : 0 ≤ x3_1
        · rw [if_pos c3] at H
          have c3b0 : decide (0 ≤ x3_1) = true := decide_eq_true c3
          clear c3
          have HC5 := Aside0.mk H
          clear H
          have p4 : 0 ≤ (x3_1 : Int) := of_decide_eq_true (by first | (with_reducible assumption) | assumption)
          have q4 : x3_1 < (a0.size : Int) := of_decide_eq_true (by first | (with_reducible assumption) | assumption)
          have hx4 := bt_at a0 x3_1
          replace p4 := eq_true p4
          replace q4 := eq_true q4
          go_upto_region 5 with (fail)
          go_cut [5] (fun v5 wc => ∃ (kq : Nat) (x5_4 : Bool), v5 = .bool x5_4 ∧ Aside0 (moatref3_Name.j1 kq a0 x3_1 (bt a0 x3_1) x5_4 = some r) ∧ Aside0 (kq ≤ k1) ∧ Drawn0 w wc)
          case first =>
            have H := HC5.out
            clear HC5
            by_cases c6 : (bt a0 x3_1) ≥ 97
            · rw [if_pos c6] at H
              have c6b0 : decide (97 ≤ (bt a0 x3_1)) = true := decide_eq_true c6
              clear c6
              (first | rw [c6b0] | (simp only [i64_w, i32_w]; rw [c6b0]) | (rw [c6b8]; (try simp only [Bool.not_true, Bool.not_false])) | skip)
              by_cases c7 : (bt a0 x3_1) ≤ 122
              · rw [if_pos c7] at H
                have c7b0 : decide ((bt a0 x3_1) ≤ 122) = true := decide_eq_true c7
                clear c7
                have H' := Aside0.mk H
                clear H
                go_wp2
                go_meet
                case rel => exact ⟨_, (true), (by first | rfl | (simp; done) | (simp [*]; done) | (simp [isEmpty_bne, isEmpty_beq]; done) | (simp [*, isEmpty_bne, isEmpty_beq]; done)), H', ⟨by have := HK1.out; first | omega | exact Nat.le_refl _⟩, by repeat (first | exact Drawn0.refl _ | apply Drawn0.step)⟩
              · rw [if_neg c7] at H
                have c7b0 : decide ((bt a0 x3_1) ≤ 122) = false := decide_eq_false c7
                clear c7
                by_cases c8 : (bt a0 x3_1) ≥ 65
                · rw [if_pos c8] at H
                  have c8b0 : decide (65 ≤ (bt a0 x3_1)) = true := decide_eq_true c8
                  clear c8
                  by_cases c9 : (bt a0 x3_1) ≤ 90
                  · rw [if_pos c9] at H
                    have c9b0 : decide ((bt a0 x3_1) ≤ 90) = true := decide_eq_true c9
                    clear c9
                    have H' := Aside0.mk H
                    clear H
                    go_wp2
                    go_meet
                    case rel => exact ⟨_, (true), (by first | rfl | (simp; done) | (simp [*]; done) | (simp [isEmpty_bne, isEmpty_beq]; done) | (simp [*, isEmpty_bne, isEmpty_beq]; done)), H', ⟨by have := HK1.out; first | omega | exact Nat.le_refl _⟩, by repeat (first | exact Drawn0.refl _ | apply Drawn0.step)⟩
                  · rw [if_neg c9] at H
                    have c9b0 : decide ((bt a0 x3_1) ≤ 90) = false := decide_eq_false c9
                    clear c9
                    by_cases c10 : (bt a0 x3_1) ≥ 48
                    · rw [if_pos c10] at H
                      have c10b0 : decide (48 ≤ (bt a0 x3_1)) = true := decide_eq_true c10
                      clear c10
                      have H' := Aside0.mk H
                      clear H
                      go_wp2
                      go_meet
                      case rel => exact ⟨_, (decide ((bt a0 x3_1) ≤ 57)), (by first | rfl | (simp; done) | (simp [*]; done) | (simp [isEmpty_bne, isEmpty_beq]; done) | (simp [*, isEmpty_bne, isEmpty_beq]; done)), H', ⟨by have := HK1.out; first | omega | exact Nat.le_refl _⟩, by repeat (first | exact Drawn0.refl _ | apply Drawn0.step)⟩
                    · rw [if_neg c10] at H
                      have c10b0 : decide (48 ≤ (bt a0 x3_1)) = false := decide_eq_false c10
                      clear c10
                      have H' := Aside0.mk H
                      clear H
                      go_wp2
                      go_meet
                      case rel => exact ⟨_, (false), (by first | rfl | (simp; done) | (simp [*]; done) | (simp [isEmpty_bne, isEmpty_beq]; done) | (simp [*, isEmpty_bne, isEmpty_beq]; done)), H', ⟨by have := HK1.out; first | omega | exact Nat.le_refl _⟩, by repeat (first | exact Drawn0.refl _ | apply Drawn0.step)⟩
                · rw [if_neg c8] at H
                  have c8b0 : decide (65 ≤ (bt a0 x3_1)) = false := decide_eq_false c8
                  clear c8
                  by_cases c11 : (bt a0 x3_1) ≥ 48
                  · rw [if_pos c11] at H
                    have c11b0 : decide (48 ≤ (bt a0 x3_1)) = true := decide_eq_true c11
                    clear c11
                    have H' := Aside0.mk H
                    clear H
                    go_wp2
                    go_meet
                    case rel => exact ⟨_, (decide ((bt a0 x3_1) ≤ 57)), (by first | rfl | (simp; done) | (simp [*]; done) | (simp [isEmpty_bne, isEmpty_beq]; done) | (simp [*, isEmpty_bne, isEmpty_beq]; done)), H', ⟨by have := HK1.out; first | omega | exact Nat.le_refl _⟩, by repeat (first | exact Drawn0.refl _ | apply Drawn0.step)⟩
                  · rw [if_neg c11] at H
                    have c11b0 : decide (48 ≤ (bt a0 x3_1)) = false := decide_eq_false c11
                    clear c11
                    have H' := Aside0.mk H
                    clear H
                    go_wp2
                    go_meet
                    case rel => exact ⟨_, (false), (by first | rfl | (simp; done) | (simp [*]; done) | (simp [isEmpty_bne, isEmpty_beq]; done) | (simp [*, isEmpty_bne, isEmpty_beq]; done)), H', ⟨by have := HK1.out; first | omega | exact Nat.le_refl _⟩, by repeat (first | exact Drawn0.refl _ | apply Drawn0.step)⟩
            · rw [if_neg c6] at H
              have c6b0 : decide (97 ≤ (bt a0 x3_1)) = false := decide_eq_false c6
              clear c6
              (first | rw [c6b0] | (simp only [i64_w, i32_w]; rw [c6b0]) | (rw [c6b8]; (try simp only [Bool.not_true, Bool.not_false])) | skip)
              by_cases c12 : (bt a0 x3_1) ≥ 65
              · rw [if_pos c12] at H
                have c12b0 : decide (65 ≤ (bt a0 x3_1)) = true := decide_eq_true c12
                clear c12
                by_cases c13 : (bt a0 x3_1) ≤ 90
                · rw [if_pos c13] at H
                  have c13b0 : decide ((bt a0 x3_1) ≤ 90) = true := decide_eq_true c13
                  clear c13
                  have H' := Aside0.mk H
                  clear H
                  go_wp2
                  go_meet
                  case rel => exact ⟨_, (true), (by first | rfl | (simp; done) | (simp [*]; done) | (simp [isEmpty_bne, isEmpty_beq]; done) | (simp [*, isEmpty_bne, isEmpty_beq]; done)), H', ⟨by have := HK1.out; first | omega | exact Nat.le_refl _⟩, by repeat (first | exact Drawn0.refl _ | apply Drawn0.step)⟩
                · rw [if_neg c13] at H
                  have c13b0 : decide ((bt a0 x3_1) ≤ 90) = false := decide_eq_false c13
                  clear c13
                  by_cases c14 : (bt a0 x3_1) ≥ 48
                  · rw [if_pos c14] at H
                    have c14b0 : decide (48 ≤ (bt a0 x3_1)) = true := decide_eq_true c14
                    clear c14
                    have H' := Aside0.mk H
                    clear H
                    go_wp2
                    go_meet
                    case rel => exact ⟨_, (decide ((bt a0 x3_1) ≤ 57)), (by first | rfl | (simp; done) | (simp [*]; done) | (simp [isEmpty_bne, isEmpty_beq]; done) | (simp [*, isEmpty_bne, isEmpty_beq]; done)), H', ⟨by have := HK1.out; first | omega | exact Nat.le_refl _⟩, by repeat (first | exact Drawn0.refl _ | apply Drawn0.step)⟩
                  · rw [if_neg c14] at H
                    have c14b0 : decide (48 ≤ (bt a0 x3_1)) = false := decide_eq_false c14
                    clear c14
                    have H' := Aside0.mk H
                    clear H
                    go_wp2
                    go_meet
                    case rel => exact ⟨_, (false), (by first | rfl | (simp; done) | (simp [*]; done) | (simp [isEmpty_bne, isEmpty_beq]; done) | (simp [*, isEmpty_bne, isEmpty_beq]; done)), H', ⟨by have := HK1.out; first | omega | exact Nat.le_refl _⟩, by repeat (first | exact Drawn0.refl _ | apply Drawn0.step)⟩
              · rw [if_neg c12] at H
                have c12b0 : decide (65 ≤ (bt a0 x3_1)) = false := decide_eq_false c12
                clear c12
                by_cases c15 : (bt a0 x3_1) ≥ 48
                · rw [if_pos c15] at H
                  have c15b0 : decide (48 ≤ (bt a0 x3_1)) = true := decide_eq_true c15
                  clear c15
                  have H' := Aside0.mk H
                  clear H
                  go_wp2
                  go_meet
                  case rel => exact ⟨_, (decide ((bt a0 x3_1) ≤ 57)), (by first | rfl | (simp; done) | (simp [*]; done) | (simp [isEmpty_bne, isEmpty_beq]; done) | (simp [*, isEmpty_bne, isEmpty_beq]; done)), H', ⟨by have := HK1.out; first | omega | exact Nat.le_refl _⟩, by repeat (first | exact Drawn0.refl _ | apply Drawn0.step)⟩
                · rw [if_neg c15] at H
                  have c15b0 : decide (48 ≤ (bt a0 x3_1)) = false := decide_eq_false c15
                  clear c15
                  have H' := Aside0.mk H
                  clear H
                  go_wp2
                  go_meet
                  case rel => exact ⟨_, (false), (by first | rfl | (simp; done) | (simp [*]; done) | (simp [isEmpty_bne, isEmpty_beq]; done) | (simp [*, isEmpty_bne, isEmpty_beq]; done)), H', ⟨by have := HK1.out; first | omega | exact Nat.le_refl _⟩, by repeat (first | exact Drawn0.refl _ | apply Drawn0.step)⟩
          case rest =>
            clear HC5
            try clear c1
            try clear c2
            try clear c2b0
            try clear p2
            try clear c3
            try clear c3b0
            try clear p4
            try clear q4
            try clear hx4
            try clear c6
            try clear c6b0
            try clear c7
            try clear c7b0
            try clear c8
            try clear c8b0
            try clear c9
            try clear c9b0
            try clear c10
            try clear c10b0
            try clear c11
            try clear c11b0
            try clear c12
            try clear c12b0
            try clear c13
            try clear c13b0
            try clear c14
            try clear c14b0
            try clear c15
            try clear c15b0
            try clear p4
            try clear q4
            obtain ⟨kq, x5_4, rfl, HA, HJ4, ⟨mc4, rfl⟩⟩ := hcut
            cases kq with
            | zero => exact absurd HA.out (by simp [moatref3_Name.j1])
            | succ kj4 =>
              have H := HA.out
              clear HA
              simp only [moatref3_Name.j1] at H
              have HC16 := Aside0.mk H
              clear H
              go_upto_if 38 with (fail)
              go_cut [38] (fun v38 wc => ∃ (kq : Nat) (x38_15 : Bool), v38 = .bool x38_15 ∧ Aside0 (moatref3_Name.j2 kq a0 x3_1 x5_4 x38_15 = some r) ∧ Aside0 (kq ≤ kj4) ∧ Drawn0 w wc)
              case first =>
                have H := HC16.out
                clear HC16
                by_cases c17 : (bt a0 x3_1) = 33
                · rw [if_pos c17] at H
                  have c17b0 : ((bt a0 x3_1) == 33) = true := beq_iff_eq.mpr c17
                  have c17b1 : ((bt a0 x3_1) != 33) = false := bne_eq_false_iff_eq.mpr c17
                  clear c17
                  (first | rw [c17b0] | (simp only [i64_w, i32_w]; rw [c17b0]) | (rw [c17b8]; (try simp only [Bool.not_true, Bool.not_false])) | skip)
                  have H' := Aside0.mk H
                  clear H
                  go_wp2
                  go_meet
                  case rel => exact ⟨_, (((bt a0 x3_1) == 33)), (by first | rfl | (simp; done) | (simp [*]; done) | (simp [isEmpty_bne, isEmpty_beq]; done) | (simp [*, isEmpty_bne, isEmpty_beq]; done)), H', ⟨by have := HK1.out; have := HJ4.out; first | omega | exact Nat.le_refl _⟩, by repeat (first | exact Drawn0.refl _ | apply Drawn0.step)⟩
                · rw [if_neg c17] at H
                  have c17b0 : ((bt a0 x3_1) == 33) = false := beq_eq_false_iff_ne.mpr c17
                  have c17b1 : ((bt a0 x3_1) != 33) = true := bne_iff_ne.mpr c17
                  (first | rw [c17b0] | (simp only [i64_w, i32_w]; rw [c17b0]) | (rw [c17b8]; (try simp only [Bool.not_true, Bool.not_false])) | skip)
                  by_cases c18 : (bt a0 x3_1) = 35
                  · rw [if_pos c18] at H
                    have c18b0 : ((bt a0 x3_1) == 35) = true := beq_iff_eq.mpr c18
                    have c18b1 : ((bt a0 x3_1) != 35) = false := bne_eq_false_iff_eq.mpr c18
                    clear c18
                    have H' := Aside0.mk H
                    clear H
                    go_wp2
                    go_meet
                    case rel => exact ⟨_, (((bt a0 x3_1) == 35)), (by first | rfl | (simp; done) | (simp [*]; done) | (simp [isEmpty_bne, isEmpty_beq]; done) | (simp [*, isEmpty_bne, isEmpty_beq]; done)), H', ⟨by have := HK1.out; have := HJ4.out; first | omega | exact Nat.le_refl _⟩, by repeat (first | exact Drawn0.refl _ | apply Drawn0.step)⟩
                  · rw [if_neg c18] at H
                    have c18b0 : ((bt a0 x3_1) == 35) = false := beq_eq_false_iff_ne.mpr c18
                    have c18b1 : ((bt a0 x3_1) != 35) = true := bne_iff_ne.mpr c18
                    by_cases c19 : (bt a0 x3_1) = 36
                    · rw [if_pos c19] at H
                      have c19b0 : ((bt a0 x3_1) == 36) = true := beq_iff_eq.mpr c19
                      have c19b1 : ((bt a0 x3_1) != 36) = false := bne_eq_false_iff_eq.mpr c19
                      clear c19
                      have H' := Aside0.mk H
                      clear H
                      go_wp2
                      go_meet
                      case rel => exact ⟨_, (((bt a0 x3_1) == 36)), (by first | rfl | (simp; done) | (simp [*]; done) | (simp [isEmpty_bne, isEmpty_beq]; done) | (simp [*, isEmpty_bne, isEmpty_beq]; done)), H', ⟨by have := HK1.out; have := HJ4.out; first | omega | exact Nat.le_refl _⟩, by repeat (first | exact Drawn0.refl _ | apply Drawn0.step)⟩
                    · rw [if_neg c19] at H
                      have c19b0 : ((bt a0 x3_1) == 36) = false := beq_eq_false_iff_ne.mpr c19
                      have c19b1 : ((bt a0 x3_1) != 36) = true := bne_iff_ne.mpr c19
                      by_cases c20 : (bt a0 x3_1) = 37
                      · rw [if_pos c20] at H
                        have c20b0 : ((bt a0 x3_1) == 37) = true := beq_iff_eq.mpr c20
                        have c20b1 : ((bt a0 x3_1) != 37) = false := bne_eq_false_iff_eq.mpr c20
                        clear c20
                        have H' := Aside0.mk H
                        clear H
                        go_wp2
                        go_meet
                        case rel => exact ⟨_, (((bt a0 x3_1) == 37)), (by first | rfl | (simp; done) | (simp [*]; done) | (simp [isEmpty_bne, isEmpty_beq]; done) | (simp [*, isEmpty_bne, isEmpty_beq]; done)), H', ⟨by have := HK1.out; have := HJ4.out; first | omega | exact Nat.le_refl _⟩, by repeat (first | exact Drawn0.refl _ | apply Drawn0.step)⟩
                      · rw [if_neg c20] at H
                        have c20b0 : ((bt a0 x3_1) == 37) = false := beq_eq_false_iff_ne.mpr c20
                        have c20b1 : ((bt a0 x3_1) != 37) = true := bne_iff_ne.mpr c20
                        by_cases c21 : (bt a0 x3_1) = 38
                        · rw [if_pos c21] at H
                          have c21b0 : ((bt a0 x3_1) == 38) = true := beq_iff_eq.mpr c21
                          have c21b1 : ((bt a0 x3_1) != 38) = false := bne_eq_false_iff_eq.mpr c21
                          clear c21
                          have H' := Aside0.mk H
                          clear H
                          go_wp2
                          go_meet
                          case rel => exact ⟨_, (((bt a0 x3_1) == 38)), (by first | rfl | (simp; done) | (simp [*]; done) | (simp [isEmpty_bne, isEmpty_beq]; done) | (simp [*, isEmpty_bne, isEmpty_beq]; done)), H', ⟨by have := HK1.out; have := HJ4.out; first | omega | exact Nat.le_refl _⟩, by repeat (first | exact Drawn0.refl _ | apply Drawn0.step)⟩
                        · rw [if_neg c21] at H
                          have c21b0 : ((bt a0 x3_1) == 38) = false := beq_eq_false_iff_ne.mpr c21
                          have c21b1 : ((bt a0 x3_1) != 38) = true := bne_iff_ne.mpr c21
                          by_cases c22 : (bt a0 x3_1) = 39
                          · rw [if_pos c22] at H
                            have c22b0 : ((bt a0 x3_1) == 39) = true := beq_iff_eq.mpr c22
                            have c22b1 : ((bt a0 x3_1) != 39) = false := bne_eq_false_iff_eq.mpr c22
                            clear c22
                            have H' := Aside0.mk H
                            clear H
                            go_wp2
                            go_meet
                            case rel => exact ⟨_, (((bt a0 x3_1) == 39)), (by first | rfl | (simp; done) | (simp [*]; done) | (simp [isEmpty_bne, isEmpty_beq]; done) | (simp [*, isEmpty_bne, isEmpty_beq]; done)), H', ⟨by have := HK1.out; have := HJ4.out; first | omega | exact Nat.le_refl _⟩, by repeat (first | exact Drawn0.refl _ | apply Drawn0.step)⟩
                          · rw [if_neg c22] at H
                            have c22b0 : ((bt a0 x3_1) == 39) = false := beq_eq_false_iff_ne.mpr c22
                            have c22b1 : ((bt a0 x3_1) != 39) = true := bne_iff_ne.mpr c22
                            by_cases c23 : (bt a0 x3_1) = 42
                            · rw [if_pos c23] at H
                              have c23b0 : ((bt a0 x3_1) == 42) = true := beq_iff_eq.mpr c23
                              have c23b1 : ((bt a0 x3_1) != 42) = false := bne_eq_false_iff_eq.mpr c23
                              clear c23
                              have H' := Aside0.mk H
                              clear H
                              go_wp2
                              go_meet
                              case rel => exact ⟨_, (((bt a0 x3_1) == 42)), (by first | rfl | (simp; done) | (simp [*]; done) | (simp [isEmpty_bne, isEmpty_beq]; done) | (simp [*, isEmpty_bne, isEmpty_beq]; done)), H', ⟨by have := HK1.out; have := HJ4.out; first | omega | exact Nat.le_refl _⟩, by repeat (first | exact Drawn0.refl _ | apply Drawn0.step)⟩
                            · rw [if_neg c23] at H
                              have c23b0 : ((bt a0 x3_1) == 42) = false := beq_eq_false_iff_ne.mpr c23
                              have c23b1 : ((bt a0 x3_1) != 42) = true := bne_iff_ne.mpr c23
                              by_cases c24 : (bt a0 x3_1) = 43
                              · rw [if_pos c24] at H
                                have c24b0 : ((bt a0 x3_1) == 43) = true := beq_iff_eq.mpr c24
                                have c24b1 : ((bt a0 x3_1) != 43) = false := bne_eq_false_iff_eq.mpr c24
                                clear c24
                                have H' := Aside0.mk H
                                clear H
                                go_wp2
                                go_meet
                                case rel => exact ⟨_, (((bt a0 x3_1) == 43)), (by first | rfl | (simp; done) | (simp [*]; done) | (simp [isEmpty_bne, isEmpty_beq]; done) | (simp [*, isEmpty_bne, isEmpty_beq]; done)), H', ⟨by have := HK1.out; have := HJ4.out; first | omega | exact Nat.le_refl _⟩, by repeat (first | exact Drawn0.refl _ | apply Drawn0.step)⟩
                              · rw [if_neg c24] at H
                                have c24b0 : ((bt a0 x3_1) == 43) = false := beq_eq_false_iff_ne.mpr c24
                                have c24b1 : ((bt a0 x3_1) != 43) = true := bne_iff_ne.mpr c24
                                by_cases c25 : (bt a0 x3_1) = 45
                                · rw [if_pos c25] at H
                                  have c25b0 : ((bt a0 x3_1) == 45) = true := beq_iff_eq.mpr c25
                                  have c25b1 : ((bt a0 x3_1) != 45) = false := bne_eq_false_iff_eq.mpr c25
                                  clear c25
                                  have H' := Aside0.mk H
                                  clear H
                                  go_wp2
                                  go_meet
                                  case rel => exact ⟨_, (((bt a0 x3_1) == 45)), (by first | rfl | (simp; done) | (simp [*]; done) | (simp [isEmpty_bne, isEmpty_beq]; done) | (simp [*, isEmpty_bne, isEmpty_beq]; done)), H', ⟨by have := HK1.out; have := HJ4.out; first | omega | exact Nat.le_refl _⟩, by repeat (first | exact Drawn0.refl _ | apply Drawn0.step)⟩
                                · rw [if_neg c25] at H
                                  have c25b0 : ((bt a0 x3_1) == 45) = false := beq_eq_false_iff_ne.mpr c25
                                  have c25b1 : ((bt a0 x3_1) != 45) = true := bne_iff_ne.mpr c25
                                  by_cases c26 : (bt a0 x3_1) = 46
                                  · rw [if_pos c26] at H
                                    have c26b0 : ((bt a0 x3_1) == 46) = true := beq_iff_eq.mpr c26
                                    have c26b1 : ((bt a0 x3_1) != 46) = false := bne_eq_false_iff_eq.mpr c26
                                    clear c26
                                    have H' := Aside0.mk H
                                    clear H
                                    go_wp2
                                    go_meet
                                    case rel => exact ⟨_, (((bt a0 x3_1) == 46)), (by first | rfl | (simp; done) | (simp [*]; done) | (simp [isEmpty_bne, isEmpty_beq]; done) | (simp [*, isEmpty_bne, isEmpty_beq]; done)), H', ⟨by have := HK1.out; have := HJ4.out; first | omega | exact Nat.le_refl _⟩, by repeat (first | exact Drawn0.refl _ | apply Drawn0.step)⟩
                                  · rw [if_neg c26] at H
                                    have c26b0 : ((bt a0 x3_1) == 46) = false := beq_eq_false_iff_ne.mpr c26
                                    have c26b1 : ((bt a0 x3_1) != 46) = true := bne_iff_ne.mpr c26
                                    by_cases c27 : (bt a0 x3_1) = 94
                                    · rw [if_pos c27] at H
                                      have c27b0 : ((bt a0 x3_1) == 94) = true := beq_iff_eq.mpr c27
                                      have c27b1 : ((bt a0 x3_1) != 94) = false := bne_eq_false_iff_eq.mpr c27
                                      clear c27
                                      have H' := Aside0.mk H
                                      clear H
                                      go_wp2
                                      go_meet
                                      case rel => exact ⟨_, (((bt a0 x3_1) == 94)), (by first | rfl | (simp; done) | (simp [*]; done) | (simp [isEmpty_bne, isEmpty_beq]; done) | (simp [*, isEmpty_bne, isEmpty_beq]; done)), H', ⟨by have := HK1.out; have := HJ4.out; first | omega | exact Nat.le_refl _⟩, by repeat (first | exact Drawn0.refl _ | apply Drawn0.step)⟩
                                    · rw [if_neg c27] at H
                                      have c27b0 : ((bt a0 x3_1) == 94) = false := beq_eq_false_iff_ne.mpr c27
                                      have c27b1 : ((bt a0 x3_1) != 94) = true := bne_iff_ne.mpr c27
                                      by_cases c28 : (bt a0 x3_1) = 95
                                      · rw [if_pos c28] at H
                                        have c28b0 : ((bt a0 x3_1) == 95) = true := beq_iff_eq.mpr c28
                                        have c28b1 : ((bt a0 x3_1) != 95) = false := bne_eq_false_iff_eq.mpr c28
                                        clear c28
                                        have H' := Aside0.mk H
                                        clear H
                                        go_wp2
                                        go_meet
                                        case rel => exact ⟨_, (((bt a0 x3_1) == 95)), (by first | rfl | (simp; done) | (simp [*]; done) | (simp [isEmpty_bne, isEmpty_beq]; done) | (simp [*, isEmpty_bne, isEmpty_beq]; done)), H', ⟨by have := HK1.out; have := HJ4.out; first | omega | exact Nat.le_refl _⟩, by repeat (first | exact Drawn0.refl _ | apply Drawn0.step)⟩
                                      · rw [if_neg c28] at H
                                        have c28b0 : ((bt a0 x3_1) == 95) = false := beq_eq_false_iff_ne.mpr c28
                                        have c28b1 : ((bt a0 x3_1) != 95) = true := bne_iff_ne.mpr c28
                                        by_cases c29 : (bt a0 x3_1) = 124
                                        · rw [if_pos c29] at H
                                          have c29b0 : ((bt a0 x3_1) == 124) = true := beq_iff_eq.mpr c29
                                          have c29b1 : ((bt a0 x3_1) != 124) = false := bne_eq_false_iff_eq.mpr c29
                                          clear c29
                                          have H' := Aside0.mk H
                                          clear H
                                          go_wp2
                                          go_meet
                                          case rel => exact ⟨_, (((bt a0 x3_1) == 124)), (by first | rfl | (simp; done) | (simp [*]; done) | (simp [isEmpty_bne, isEmpty_beq]; done) | (simp [*, isEmpty_bne, isEmpty_beq]; done)), H', ⟨by have := HK1.out; have := HJ4.out; first | omega | exact Nat.le_refl _⟩, by repeat (first | exact Drawn0.refl _ | apply Drawn0.step)⟩
                                        · rw [if_neg c29] at H
                                          have c29b0 : ((bt a0 x3_1) == 124) = false := beq_eq_false_iff_ne.mpr c29
                                          have c29b1 : ((bt a0 x3_1) != 124) = true := bne_iff_ne.mpr c29
                                          by_cases c30 : (bt a0 x3_1) = 126
                                          · rw [if_pos c30] at H
                                            have c30b0 : ((bt a0 x3_1) == 126) = true := beq_iff_eq.mpr c30
                                            have c30b1 : ((bt a0 x3_1) != 126) = false := bne_eq_false_iff_eq.mpr c30
                                            clear c30
                                            have H' := Aside0.mk H
                                            clear H
                                            go_wp2
                                            go_meet
                                            case rel => exact ⟨_, (((bt a0 x3_1) == 126)), (by first | rfl | (simp; done) | (simp [*]; done) | (simp [isEmpty_bne, isEmpty_beq]; done) | (simp [*, isEmpty_bne, isEmpty_beq]; done)), H', ⟨by have := HK1.out; have := HJ4.out; first | omega | exact Nat.le_refl _⟩, by repeat (first | exact Drawn0.refl _ | apply Drawn0.step)⟩
                                          · rw [if_neg c30] at H
                                            have c30b0 : ((bt a0 x3_1) == 126) = false := beq_eq_false_iff_ne.mpr c30
                                            have c30b1 : ((bt a0 x3_1) != 126) = true := bne_iff_ne.mpr c30
                                            have H' := Aside0.mk H
                                            clear H
                                            go_wp2
                                            go_meet
                                            case rel => exact ⟨_, (((bt a0 x3_1) == 96)), (by first | rfl | (simp; done) | (simp [*]; done) | (simp [isEmpty_bne, isEmpty_beq]; done) | (simp [*, isEmpty_bne, isEmpty_beq]; done)), H', ⟨by have := HK1.out; have := HJ4.out; first | omega | exact Nat.le_refl _⟩, by repeat (first | exact Drawn0.refl _ | apply Drawn0.step)⟩
              case rest =>
                clear HC16
                try clear c1
                try clear c2
                try clear c2b0
                try clear p2
                try clear c3
                try clear c3b0
                try clear c4
                try clear p4
                try clear q4
                try clear hx4
                try clear c6
                try clear c6b0
                try clear c7
                try clear c7b0
                try clear c8
                try clear c8b0
                try clear c9
                try clear c9b0
                try clear c10
                try clear c10b0
                try clear c11
                try clear c11b0
                try clear c12
                try clear c12b0
                try clear c13
                try clear c13b0
                try clear c14
                try clear c14b0
                try clear c15
                try clear c15b0
                try clear c17
                try clear c17b0
                try clear c17b1
                try clear c18
                try clear c18b0
                try clear c18b1
                try clear c19
                try clear c19b0
                try clear c19b1
                try clear c20
                try clear c20b0
                try clear c20b1
                try clear c21
                try clear c21b0
                try clear c21b1
                try clear c22
                try clear c22b0
                try clear c22b1
                try clear c23
                try clear c23b0
                try clear c23b1
                try clear c24
                try clear c24b0
                try clear c24b1
                try clear c25
                try clear c25b0
                try clear c25b1
                try clear c26
                try clear c26b0
                try clear c26b1
                try clear c27
                try clear c27b0
                try clear c27b1
                try clear c28
                try clear c28b0
                try clear c28b1
                try clear c29
                try clear c29b0
                try clear c29b1
                try clear c30
                try clear c30b0
                try clear c30b1
                try clear p2
                try clear p4
                try clear q4
                obtain ⟨kq, x38_15, rfl, HA, HJ15, ⟨mc15, rfl⟩⟩ := hcut
                cases kq with
                | zero => exact absurd HA.out (by simp [moatref3_Name.j2])
                | succ kj15 =>
                  have H := HA.out
                  clear HA
                  simp only [moatref3_Name.j2] at H
                  by_cases c31 : x38_15 = true
                  · subst c31
                    have H1 : (moatref3_Name.l0 kj15 a0 (wrap64 (x3_1 + 1))) = some r := by rw [if_pos rfl] at H; exact H
                    clear H
                    have H := H1
                    clear H1
                    have H' := Aside0.mk H
                    clear H
                    go_wp2
                    go_roundg kj15
                    case measure => have := HK1.out; have := HJ4.out; have := HJ15.out; omega
                    case rel => exact ⟨(wrap64 (x3_1 + 1)), (by first | rfl | (simp; done) | (simp [*]; done) | (simp [isEmpty_bne, isEmpty_beq]; done) | (simp [*, isEmpty_bne, isEmpty_beq]; done)), H', ⟨by have := HK1.out; have := HJ4.out; have := HJ15.out; omega⟩, by repeat (first | exact Drawn0.refl _ | apply Drawn0.step)⟩
                  · replace c31 := Bool.eq_false_iff.mpr c31
                    subst c31
                    have H1 : (if x5_4 = true then (moatref3_Name.l0 kj15 a0 (wrap64 (x3_1 + 1))) else (some false)) = some r := by rw [if_neg (show ¬ (false = true) by decide)] at H; exact H
                    clear H
                    have H := H1
                    clear H1
                    by_cases c32 : x5_4 = true
                    · subst c32
                      have H1 : (moatref3_Name.l0 kj15 a0 (wrap64 (x3_1 + 1))) = some r := by rw [if_pos rfl] at H; exact H
                      clear H
                      have H := H1
                      clear H1
                      have H' := Aside0.mk H
                      clear H
                      go_wp2
                      go_roundg kj15
                      case measure => have := HK1.out; have := HJ4.out; have := HJ15.out; omega
                      case rel => exact ⟨(wrap64 (x3_1 + 1)), (by first | rfl | (simp; done) | (simp [*]; done) | (simp [isEmpty_bne, isEmpty_beq]; done) | (simp [*, isEmpty_bne, isEmpty_beq]; done)), H', ⟨by have := HK1.out; have := HJ4.out; have := HJ15.out; omega⟩, by repeat (first | exact Drawn0.refl _ | apply Drawn0.step)⟩
                    · replace c32 := Bool.eq_false_iff.mpr c32
                      subst c32
                      have H1 : (some false) = some r := by rw [if_neg (show ¬ (false = true) by decide)] at H; exact H
                      clear H
                      have H := H1
                      clear H1
                      obtain rfl := Option.some.inj H
                      go_wp2
                      go_ret
                      exact ⟨by first | rfl | (simp; done) | (simp [*]; done) | (simp [isEmpty_bne, isEmpty_beq]; done) | (simp [*, isEmpty_bne, isEmpty_beq]; done), by repeat (first | exact Drawn0.refl _ | apply Drawn0.step)⟩
        · rw [if_neg c3] at H
          exact absurd H (by simp)
      · rw [if_neg c2] at H
        have c2b0 : decide (x3_1 < (a0.size : Int)) = false := decide_eq_false c2
        clear c2
        by_cases c33 : (a0.size : Int) ≥ 1
        · rw [if_pos c33] at H
          have c33b0 : decide (1 ≤ (a0.size : Int)) = true := decide_eq_true c33
          have c33b1 : decide (1 ≤ a0.size) = true := decide_eq_true (by omega)
          clear c33
          obtain rfl := Option.some.inj H
          go_wp2
          go_ret
          exact ⟨by first | rfl | (simp; done) | (simp [*]; done) | (simp [isEmpty_bne, isEmpty_beq]; done) | (simp [*, isEmpty_bne, isEmpty_beq]; done), by repeat (first | exact Drawn0.refl _ | apply Drawn0.step)⟩
        · rw [if_neg c33] at H
          have c33b0 : decide (1 ≤ (a0.size : Int)) = false := decide_eq_false c33
          have c33b1 : decide (1 ≤ a0.size) = false := decide_eq_false (by omega)
          clear c33
          obtain rfl := Option.some.inj H
          go_wp2
          go_ret
          exact ⟨by first | rfl | (simp; done) | (simp [*]; done) | (simp [isEmpty_bne, isEmpty_beq]; done) | (simp [*, isEmpty_bne, isEmpty_beq]; done), by repeat (first | exact Drawn0.refl _ | apply Drawn0.step)⟩

end Go.Proofs.YtfmppmabnpkooaaDoor.BG
