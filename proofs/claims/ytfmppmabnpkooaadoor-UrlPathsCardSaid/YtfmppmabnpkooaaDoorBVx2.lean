-- Printed for this claim by the kit's print.py over given contracts (wip/myprint.py). Not trusted: Lean checks it.
import Derived.Test.YtfmppmabnpkooaaDoorBVx0
import Derived.Test.YtfmppmabnpkooaaDoorBVx1
namespace Go.Proofs.YtfmppmabnpkooaaDoor.BV
open Go.RowKit Go.Proofs.YtfmppmabnpkooaaDoorW.PrintWords Go.Proofs.YtfmppmabnpkooaaDoorW.PrintLast Go.Proofs.YtfmppmabnpkooaaDoorW.PrintMore Go.Proofs.YtfmppmabnpkooaaDoor.BU
attribute [local go_sem] max2_int min2_int max_two min_two max_three min_three max_four min_four   -- for this text's walks alone
set_option linter.unusedVariables false
set_option linter.unusedSimpArgs false

/-! ### moatlaw1_UrlPaths: function 14 -/
mutual
def moatlaw1_UrlPaths.l0 : Nat → List Int → Int → Int → ByteArray → Int → Option (Bool)
  | 0, _, _, _, _, _ => none
  | k + 1, x0, x1, x2, x7, x8 => if x8 < (x0.length : Int) then ((some (([(⟨#[97]⟩ : ByteArray), (⟨#[98, 95, 99]⟩ : ByteArray), (⟨#[100, 45, 57]⟩ : ByteArray), (⟨#[101, 46, 102]⟩ : ByteArray), (⟨#[]⟩ : ByteArray), (⟨#[105, 110, 100, 101, 120, 46, 104, 116, 109, 108]⟩ : ByteArray)] : List ByteArray) : List ByteArray)).bind fun y102 => (if 0 ≤ x8 then ((moatlaw0_Low.f (rd x0 x8) 6).bind fun t106 => (if 0 ≤ t106 then (if t106 < (y102.length : Int) then (if x7.size + (rdOf ByteArray.empty y102 t106).size ≤ 9223372036854775807 then (if (x7 ++ (rdOf ByteArray.empty y102 t106)).size + 1 ≤ 9223372036854775807 then (moatlaw1_UrlPaths.l0 k x0 x1 x2 ((x7 ++ (rdOf ByteArray.empty y102 t106)) ++ (⟨#[47]⟩ : ByteArray)) (wrap64 (x8 + 1))) else (none)) else (none)) else (none)) else (none))) else (none))) else (if x1 ≥ 97 then (if x1 ≤ 122 then (moatlaw1_UrlPaths.j1 k x1 x2 x7 true) else (if x1 ≥ 48 then (if x1 ≤ 57 then (moatlaw1_UrlPaths.j1 k x1 x2 x7 true) else (if x1 = 47 then (moatlaw1_UrlPaths.j1 k x1 x2 x7 true) else (if x1 = 45 then (moatlaw1_UrlPaths.j1 k x1 x2 x7 true) else (if x1 = 95 then (moatlaw1_UrlPaths.j1 k x1 x2 x7 true) else (moatlaw1_UrlPaths.j1 k x1 x2 x7 (x1 == 46)))))) else (if x1 = 47 then (moatlaw1_UrlPaths.j1 k x1 x2 x7 true) else (if x1 = 45 then (moatlaw1_UrlPaths.j1 k x1 x2 x7 true) else (if x1 = 95 then (moatlaw1_UrlPaths.j1 k x1 x2 x7 true) else (moatlaw1_UrlPaths.j1 k x1 x2 x7 (x1 == 46))))))) else (if x1 ≥ 48 then (if x1 ≤ 57 then (moatlaw1_UrlPaths.j1 k x1 x2 x7 true) else (if x1 = 47 then (moatlaw1_UrlPaths.j1 k x1 x2 x7 true) else (if x1 = 45 then (moatlaw1_UrlPaths.j1 k x1 x2 x7 true) else (if x1 = 95 then (moatlaw1_UrlPaths.j1 k x1 x2 x7 true) else (moatlaw1_UrlPaths.j1 k x1 x2 x7 (x1 == 46)))))) else (if x1 = 47 then (moatlaw1_UrlPaths.j1 k x1 x2 x7 true) else (if x1 = 45 then (moatlaw1_UrlPaths.j1 k x1 x2 x7 true) else (if x1 = 95 then (moatlaw1_UrlPaths.j1 k x1 x2 x7 true) else (moatlaw1_UrlPaths.j1 k x1 x2 x7 (x1 == 46)))))))
def moatlaw1_UrlPaths.j1 : Nat → Int → Int → ByteArray → Bool → Option (Bool)
  | 0, _, _, _, _ => none
  | k + 1, x1, x2, x7, x9 => (moatlaw0_Low.f x2 (x7.size : Int)).bind fun t108 => (if 0 ≤ (wrap64 (1 + t108)) then (if (wrap64 (1 + t108)) ≤ (x7.size : Int) then ((some (([x1] : List Int) : List Int)).bind fun y109 => (if (x7.extract 0 ((wrap64 (1 + t108)) : Int).toNat).size + (strOfNums y109).size ≤ 9223372036854775807 then (if ((x7.extract 0 ((wrap64 (1 + t108)) : Int).toNat) ++ (strOfNums y109)).size + (x7.extract ((wrap64 (1 + t108)) : Int).toNat x7.size).size ≤ 9223372036854775807 then ((url_Path.f k x7).bind fun t112 => (if (t112 == (decide ((x7.size : Int) ≤ 60))) = true then ((url_Path.f k (((x7.extract 0 ((wrap64 (1 + t108)) : Int).toNat) ++ (strOfNums y109)) ++ (x7.extract ((wrap64 (1 + t108)) : Int).toNat x7.size))).bind fun t113 => (if x9 = true then (if (t113 == (decide (((((x7.extract 0 ((wrap64 (1 + t108)) : Int).toNat) ++ (strOfNums y109)) ++ (x7.extract ((wrap64 (1 + t108)) : Int).toNat x7.size)).size : Int) ≤ 60))) = true then (if 1 ≤ (x7.size : Int) then (if (x7.extract 1 x7.size).size + 1 ≤ 9223372036854775807 then ((url_Path.f k ((x7.extract 1 x7.size) ++ (⟨#[120]⟩ : ByteArray))).bind fun t114 => (if (x7.size : Int) = 1 then (if ((!t114) == true) = true then ((moatlaw1_awake.f).bind fun t115 => (some t115)) else (some false)) else (if 1 < (x7.size : Int) then (if (bt x7 1) = 47 then (if ((!t114) == (decide ((x7.size : Int) > 60))) = true then ((moatlaw1_awake.f).bind fun t116 => (some t116)) else (some false)) else (if ((!t114) == true) = true then ((moatlaw1_awake.f).bind fun t117 => (some t117)) else (some false))) else (none)))) else (none)) else (none)) else (some false)) else (if (t113 == false) = true then (if 1 ≤ (x7.size : Int) then (if (x7.extract 1 x7.size).size + 1 ≤ 9223372036854775807 then ((url_Path.f k ((x7.extract 1 x7.size) ++ (⟨#[120]⟩ : ByteArray))).bind fun t118 => (if (x7.size : Int) = 1 then (if ((!t118) == true) = true then ((moatlaw1_awake.f).bind fun t119 => (some t119)) else (some false)) else (if 1 < (x7.size : Int) then (if (bt x7 1) = 47 then (if ((!t118) == (decide ((x7.size : Int) > 60))) = true then ((moatlaw1_awake.f).bind fun t120 => (some t120)) else (some false)) else (if ((!t118) == true) = true then ((moatlaw1_awake.f).bind fun t121 => (some t121)) else (some false))) else (none)))) else (none)) else (none)) else (some false)))) else (some false))) else (none)) else (none))) else (none)) else (none))
end
def moatlaw1_UrlPaths.f (k : Nat) (l0 : List Int) (a1 : Int) (a2 : Int) : Option (Bool) := if (l0.length : Int) > 8 then ((moatlaw1_awake.f).bind fun t101 => (some t101)) else (moatlaw1_UrlPaths.l0 k l0 a1 a2 (⟨#[47]⟩ : ByteArray) 0)
theorem moatlaw1_UrlPaths.mono_l : ∀ k, (∀ y0 y1 y2 y3 y4, LeO (moatlaw1_UrlPaths.l0 k y0 y1 y2 y3 y4) (moatlaw1_UrlPaths.l0 (k + 1) y0 y1 y2 y3 y4)) ∧ (∀ y0 y1 y2 y3, LeO (moatlaw1_UrlPaths.j1 k y0 y1 y2 y3) (moatlaw1_UrlPaths.j1 (k + 1) y0 y1 y2 y3))
  | 0 => ⟨fun _ _ _ _ _ r h => by simp [moatlaw1_UrlPaths.l0] at h, fun _ _ _ _ r h => by simp [moatlaw1_UrlPaths.j1] at h⟩
  | k + 1 => by
    obtain ⟨ih0, ih1⟩ := moatlaw1_UrlPaths.mono_l k
    refine ⟨?_, ?_⟩
    · intro y0 y1 y2 y3 y4
      unfold moatlaw1_UrlPaths.l0
      repeat' first
      | (with_reducible exact ih0 _ _ _ _ _)
      | (with_reducible exact ih1 _ _ _ _)
      | (with_reducible exact url_Path.mono _ _)
      | (with_reducible exact LeO.refl _)
      | (with_reducible exact LeO.none _)
      | (with_reducible refine LeO.ite ?_ ?_)
      | (with_reducible refine LeO.bind ?_ (fun _ => ?_))
      | exact ih0 _ _ _ _ _
      | exact ih1 _ _ _ _
      | exact url_Path.mono _ _
      | exact LeO.none _
      | refine LeO.ite ?_ ?_
      | refine LeO.bind ?_ (fun _ => ?_)
    · intro y0 y1 y2 y3
      unfold moatlaw1_UrlPaths.j1
      repeat' first
      | (with_reducible exact ih0 _ _ _ _ _)
      | (with_reducible exact ih1 _ _ _ _)
      | (with_reducible exact url_Path.mono _ _)
      | (with_reducible exact LeO.refl _)
      | (with_reducible exact LeO.none _)
      | (with_reducible refine LeO.ite ?_ ?_)
      | (with_reducible refine LeO.bind ?_ (fun _ => ?_))
      | exact ih0 _ _ _ _ _
      | exact ih1 _ _ _ _
      | exact url_Path.mono _ _
      | exact LeO.none _
      | refine LeO.ite ?_ ?_
      | refine LeO.bind ?_ (fun _ => ?_)
theorem moatlaw1_UrlPaths.mono : ∀ a0 a1 a2 k, LeO (moatlaw1_UrlPaths.f k a0 a1 a2) (moatlaw1_UrlPaths.f (k + 1) a0 a1 a2) := by
  intro a0 a1 a2 k
  obtain ⟨ih0, ih1⟩ := moatlaw1_UrlPaths.mono_l k
  unfold moatlaw1_UrlPaths.f
  repeat' first
      | (with_reducible exact ih0 _ _ _ _ _)
      | (with_reducible exact ih1 _ _ _ _)
      | (with_reducible exact url_Path.mono _ _)
      | (with_reducible exact LeO.refl _)
      | (with_reducible exact LeO.none _)
      | (with_reducible refine LeO.ite ?_ ?_)
      | (with_reducible refine LeO.bind ?_ (fun _ => ?_))
      | exact ih0 _ _ _ _ _
      | exact ih1 _ _ _ _
      | exact url_Path.mono _ _
      | exact LeO.none _
      | refine LeO.ite ?_ ?_
      | refine LeO.bind ?_ (fun _ => ?_)
def moatlaw1_UrlPaths.T10 : Bool × List (List Nat × List Nat) := (true, [([], []), ([], []), ([0, 1], [0, 1]), ([], []), ([3], [3]), ([4], [4]), ([2, 5], [2, 5]), ([], []), ([], []), ([7, 8], [7, 8]), ([6, 9], [6, 9]), ([10, 0, 1, 2, 3, 4, 5, 6, 7, 8, 9, 10], [10])])
def moatlaw1_UrlPaths.B10 : List Nat := [0, 0, 3, 0, 8, 24, 63, 0, 0, 384, 1023, 2047]
theorem moatlaw1_UrlPaths.tab10 : rtab .any (opsOf Tryd.f14 10) = moatlaw1_UrlPaths.T10 := by kernel_rfl
theorem moatlaw1_UrlPaths.bits10 : waitsOk moatlaw1_UrlPaths.T10.2 moatlaw1_UrlPaths.B10 = true := by kernel_rfl
set_option maxHeartbeats 8000000 in
set_option maxRecDepth 100000 in
theorem moatlaw1_UrlPaths.calls (k : Nat) (A0 : Option Addr) (c0 : Nat) (l0 : List Int) (a1 : Int) (a2 : Int) (r : Bool) (w : World) (hr0 : Kd.C (Kd.int .i64) w A0 l0.length l0) (hc0 : l0.length ≤ c0) (hU : UrlWorld w) (h : moatlaw1_UrlPaths.f k l0 a1 a2 = some r) (hrt : r = true) :
    Calls Tryd.prog 14 #[.slice A0 l0.length c0, .int .u8 a1, .int .i64 a2] w fun e w' => e = .returned (.bool r) ∧ Below w.heap.size w w' := by
  have HU := Aside0.mk hU
  clear hU
  have HRT := Aside0.mk hrt
  clear hrt
  have HR0 := Aside0.mk hr0
  have HC0 := Aside0.mk hc0
  clear hr0 hc0
  have HB := Aside0.mk (Below.refl w.heap.size w)
  have H : (if (l0.length : Int) > 8 then ((moatlaw1_awake.f).bind fun t101 => (some t101)) else (moatlaw1_UrlPaths.l0 k l0 a1 a2 (⟨#[47]⟩ : ByteArray) 0)) = some r := h
  clear h
  by_cases c4 : (l0.length : Int) > 8
  · rw [if_pos c4] at H
    have c4b0 : decide (8 < (l0.length : Int)) = true := decide_eq_true c4
    have c4b1 : decide (8 < l0.length) = true := decide_eq_true (by omega)
    clear c4
    replace H := Option.bind_eq_some_iff.mp H
    obtain ⟨t101, A50, H⟩ := H
    replace H : (some t101) = some r := H
    have A5 := Aside0.mk A50
    clear A50
    obtain rfl := Option.some.inj H
    go_enter Tryd.func14, Tryd.ntmps14
    go_wp2_with (first | ((with_reducible refine gate_callee (f := 36) rfl ?_); refine goesL_ (some 14) rfl rfl Tryd.func36 (by kernel_rfl) rfl #[] rfl (by (try simp only [List.map_toArray, List.map_cons, List.map_nil]); first | done | rfl | (simp only [List.length_drop, List.length_take]; rfl)) ?_; (with_reducible refine (moatlaw1_awake.calls_at HU.out (by repeat (first | (with_reducible first | exact HB.out | apply below_alloc | apply pw_below_drewN | apply below_drew1) | exact HB.out)) t101 A5.out).mono ?_); rintro e w6 ⟨rfl, hb⟩; refine ⟨_, rfl, ?_⟩; have n0_ := Aside0.mk (below_step (by repeat (first | (with_reducible first | exact HB.out | apply below_alloc | apply pw_below_drewN | apply below_drew1) | exact HB.out)) hb); clear HB; have HB := n0_; clear n0_; (try clear hb); (try clear hb2); (try clear hk); (try clear hi)))
    go_ret
    exact ⟨by first | rfl | (simp [errW_none, errW_some] <;> rfl) | (simp [*, errW_none, errW_some] <;> rfl) | (simp [isEmpty_bne, isEmpty_beq, errW_none, errW_some]; done) | (simp [*, isEmpty_bne, isEmpty_beq, errW_none, errW_some]; done), by repeat (first | (with_reducible first | exact HB.out | apply below_alloc | apply pw_below_drewN | apply below_drew1) | exact HB.out)⟩
  · rw [if_neg c4] at H
    have c4b0 : decide (8 < (l0.length : Int)) = false := decide_eq_false c4
    have c4b1 : decide (8 < l0.length) = false := decide_eq_false (by omega)
    clear c4
    have H' := Aside0.mk H
    clear H
    go_enter Tryd.func14, Tryd.ntmps14
    go_wp2
    go_loopg [7, 8] k (fun kq v7 v8 w' => ∃ (x7_1 : ByteArray) (x8_1 : Int), v7 = .string x7_1 ∧ v8 = .int .i64 x8_1 ∧ Aside0 (moatlaw1_UrlPaths.l0 kq l0 a1 a2 x7_1 x8_1 = some r) ∧ Aside0 (kq ≤ k) ∧ Aside0 (Below w.heap.size w w'))
    case atStart => exact ⟨((⟨#[47]⟩ : ByteArray)), (0), (by first | rfl | (simp; done) | (simp [*]; done) | (simp [isEmpty_bne, isEmpty_beq]; done) | (simp [*, isEmpty_bne, isEmpty_beq]; done)), (by first | rfl | (simp; done) | (simp [*]; done) | (simp [isEmpty_bne, isEmpty_beq]; done) | (simp [*, isEmpty_bne, isEmpty_beq]; done)), H', ⟨Nat.le_refl _⟩, ⟨by repeat (first | (with_reducible first | exact HB.out | apply below_alloc | apply pw_below_drewN | apply below_drew1) | exact HB.out)⟩⟩
    case round =>
      clear H'
      try clear c1
      try clear p2
      try clear c3
      try clear c4
      try clear c4b0
      try clear c4b1
      obtain ⟨x7_1, x8_1, rfl, rfl, HA, HK1, HB⟩ := hrel
      cases gk with
      | zero => exact absurd HA.out (by simp [moatlaw1_UrlPaths.l0])
      | succ k1 =>
        have H := HA.out
        clear HA
        simp only [moatlaw1_UrlPaths.l0] at H
        by_cases c7 : x8_1 < (l0.length : Int)
        · rw [if_pos c7] at H
          have c7b0 : decide (x8_1 < (l0.length : Int)) = true := decide_eq_true c7
          clear c7
          obtain ⟨y102, hy102⟩ : ∃ y_ : List ByteArray, y_ = (([(⟨#[97]⟩ : ByteArray), (⟨#[98, 95, 99]⟩ : ByteArray), (⟨#[100, 45, 57]⟩ : ByteArray), (⟨#[101, 46, 102]⟩ : ByteArray), (⟨#[]⟩ : ByteArray), (⟨#[105, 110, 100, 101, 120, 46, 104, 116, 109, 108]⟩ : ByteArray)] : List ByteArray)) := ⟨_, rfl⟩
          replace H : (if 0 ≤ x8_1 then ((moatlaw0_Low.f (rd l0 x8_1) 6).bind fun t106 => (if 0 ≤ t106 then (if t106 < (y102.length : Int) then (if x7_1.size + (rdOf ByteArray.empty y102 t106).size ≤ 9223372036854775807 then (if (x7_1 ++ (rdOf ByteArray.empty y102 t106)).size + 1 ≤ 9223372036854775807 then (moatlaw1_UrlPaths.l0 k1 l0 a1 a2 ((x7_1 ++ (rdOf ByteArray.empty y102 t106)) ++ (⟨#[47]⟩ : ByteArray)) (wrap64 (x8_1 + 1))) else (none)) else (none)) else (none)) else (none))) else (none)) = some r := by first | (rw [hy102]; with_reducible exact H) | (have H2_ := (Option.bind_some _ _).symm.trans H; rw [hy102]; with_reducible exact H2_) | (have H2_ := (Option.bind_some _ _).symm.trans H; with_reducible exact H2_) | with_reducible exact H | (rw [hy102]; exact H) | exact H
          have Ny102 := Aside0.mk hy102
          clear hy102
          by_cases c8 : 0 ≤ x8_1
          · rw [if_pos c8] at H
            have c8b0 : decide (0 ≤ x8_1) = true := decide_eq_true c8
            clear c8
            replace H := Option.bind_eq_some_iff.mp H
            obtain ⟨t106, A90, H⟩ := H
            replace H : (if 0 ≤ t106 then (if t106 < (y102.length : Int) then (if x7_1.size + (rdOf ByteArray.empty y102 t106).size ≤ 9223372036854775807 then (if (x7_1 ++ (rdOf ByteArray.empty y102 t106)).size + 1 ≤ 9223372036854775807 then (moatlaw1_UrlPaths.l0 k1 l0 a1 a2 ((x7_1 ++ (rdOf ByteArray.empty y102 t106)) ++ (⟨#[47]⟩ : ByteArray)) (wrap64 (x8_1 + 1))) else (none)) else (none)) else (none)) else (none)) = some r := H
            have A9 := Aside0.mk A90
            clear A90
            by_cases c10 : 0 ≤ t106
            · rw [if_pos c10] at H
              have c10b0 : decide (0 ≤ t106) = true := decide_eq_true c10
              clear c10
              by_cases c11 : t106 < (y102.length : Int)
              · rw [if_pos c11] at H
                have c11b0 : decide (t106 < (y102.length : Int)) = true := decide_eq_true c11
                clear c11
                by_cases c12 : x7_1.size + (rdOf ByteArray.empty y102 t106).size ≤ 9223372036854775807
                · rw [if_pos c12] at H
                  have c12b0 := eq_true c12
                  have c12b1 : decide (x7_1.size + (rdOf ByteArray.empty y102 t106).size ≤ 9223372036854775807) = true := decide_eq_true c12
                  try have c12b2 : (9223372036854775807 < x7_1.size + (rdOf ByteArray.empty y102 t106).size) = False := eq_false (Nat.not_lt.2 c12)
                  by_cases c13 : (x7_1 ++ (rdOf ByteArray.empty y102 t106)).size + 1 ≤ 9223372036854775807
                  · rw [if_pos c13] at H
                    have c13b0 := eq_true c13
                    have c13b1 : decide ((x7_1 ++ (rdOf ByteArray.empty y102 t106)).size + 1 ≤ 9223372036854775807) = true := decide_eq_true c13
                    try have c13b2 : (9223372036854775807 < (x7_1 ++ (rdOf ByteArray.empty y102 t106)).size + 1) = False := eq_false (Nat.not_lt.2 c13)
                    (try (have c13b7 : (9223372036854775807 < x7_1.size + (rdOf ByteArray.empty y102 t106).size + 1) = False := eq_false (Nat.not_lt.2 (by have hc := c13; simp only [ByteArray.size_append] at hc; exact hc))))
                    have H' := Aside0.mk H
                    clear H
                    go_wp2_with (first | ((with_reducible refine gate_dst (N := 22) rfl ?_); (try (refine gate_guard (by rfl) ?_; dsimp only)); refine Kd.R_lit Kd.string _ 9 ?hg (N := 22) ?hd (xs := ([(⟨#[97]⟩ : ByteArray), (⟨#[98, 95, 99]⟩ : ByteArray), (⟨#[100, 45, 57]⟩ : ByteArray), (⟨#[101, 46, 102]⟩ : ByteArray), (⟨#[]⟩ : ByteArray), (⟨#[105, 110, 100, 101, 120, 46, 104, 116, 109, 108]⟩ : ByteArray)] : List ByteArray)) (inner := [.string (⟨#[97]⟩ : ByteArray), .string (⟨#[98, 95, 99]⟩ : ByteArray), .string (⟨#[100, 45, 57]⟩ : ByteArray), .string (⟨#[101, 46, 102]⟩ : ByteArray), .string (⟨#[]⟩ : ByteArray), .string (⟨#[105, 110, 100, 101, 120, 46, 104, 116, 109, 108]⟩ : ByteArray)]) (ok := fun _ => True) (okp := fun _ => True) ?hr ?hp (fun _ hk => hk) trivial (Below.refl _ _) (Nat.le_refl _) (by simp) ?_; (case hd => rfl); (case hg => rfl); (case hr => first | (go_simp; done) | (go_simp; rfl)); (case hp => exact (Reps.one (show Kd.M Kd.string _ _ _ (⟨#[97]⟩ : ByteArray) [.string (⟨#[97]⟩ : ByteArray)] from rfl) (Reps.one (show Kd.M Kd.string _ _ _ (⟨#[98, 95, 99]⟩ : ByteArray) [.string (⟨#[98, 95, 99]⟩ : ByteArray)] from rfl) (Reps.one (show Kd.M Kd.string _ _ _ (⟨#[100, 45, 57]⟩ : ByteArray) [.string (⟨#[100, 45, 57]⟩ : ByteArray)] from rfl) (Reps.one (show Kd.M Kd.string _ _ _ (⟨#[101, 46, 102]⟩ : ByteArray) [.string (⟨#[101, 46, 102]⟩ : ByteArray)] from rfl) (Reps.one (show Kd.M Kd.string _ _ _ (⟨#[]⟩ : ByteArray) [.string (⟨#[]⟩ : ByteArray)] from rfl) (Reps.one (show Kd.M Kd.string _ _ _ (⟨#[105, 110, 100, 101, 120, 46, 104, 116, 109, 108]⟩ : ByteArray) [.string (⟨#[105, 110, 100, 101, 120, 46, 104, 116, 109, 108]⟩ : ByteArray)] from rfl) (Reps.none _ _)))))))); intro v103 w14 ho15 hb hg_ hnew_; clear hg_ hnew_; (first | rw [← Ny102.out] at ho15 | (simp only [Int.reduceToNat] at ho15; rw [← Ny102.out] at ho15)); have n0_ := Aside0.mk (Kd.R_lower ho15 (below_size (by repeat (first | (with_reducible first | exact HB.out | apply below_alloc | apply pw_below_drewN | apply below_drew1) | exact HB.out)))); have n1_ := Aside0.mk (below_step (by repeat (first | (with_reducible first | exact HB.out | apply below_alloc | apply pw_below_drewN | apply below_drew1) | exact HB.out)) hb); clear HB; have HO104 := n0_; have HB := n1_; clear n0_ n1_; clear hb ho15; have p105 : 0 ≤ (x8_1 : Int) := of_decide_eq_true (by first | (with_reducible assumption) | assumption); have q105 : x8_1 < (l0.length : Int) := of_decide_eq_true (by first | (with_reducible assumption) | assumption); obtain ⟨ad105, e105, hx105_0⟩ := Kd.at_int HR0.out x8_1 p105 q105; cases e105; replace hx105_0 := (HB.out.cell (World.block_lt_of_cell? w _ hx105_0)).trans hx105_0; replace p105 := eq_true p105; replace q105 := eq_true q105) | ((with_reducible refine gate_callee (f := 30) rfl ?_); refine goesL_ (some 27) rfl rfl Tryd.func30 (by kernel_rfl) rfl #[.int .i64 (rd l0 x8_1), .int .i64 6] rfl (by (try simp only [List.map_toArray, List.map_cons, List.map_nil]); first | done | rfl | (simp only [List.length_drop, List.length_take]; rfl)) ?_; (with_reducible refine (moatlaw0_Low.calls (rd l0 x8_1) 6 t106 _ A9.out).mono ?_); rintro e w' ⟨rfl, ⟨nd, rfl⟩⟩; refine ⟨_, rfl, ?_⟩; obtain ⟨Ao16, co16, eo16⟩ := Kd.R_slice HO104.out; subst eo16; have p107 : 0 ≤ (t106 : Int) := of_decide_eq_true (by first | (with_reducible assumption) | assumption); have q107 : t106 < (y102.length : Int) := of_decide_eq_true (by first | (with_reducible assumption) | assumption); obtain ⟨ad107, e107, hx107_0⟩ := Kd.at_string (Kd.R_reads' HO104.out).2.2 t106 p107 q107; cases e107; replace p107 := eq_true p107; replace q107 := eq_true q107))
                    go_roundg k1
                    case measure => have := HK1.out; omega
                    case rel => exact ⟨((x7_1 ++ (rdOf ByteArray.empty y102 t106)) ++ (⟨#[47]⟩ : ByteArray)), (wrap64 (x8_1 + 1)), (by first | rfl | (simp; done) | (simp [*]; done) | (simp [isEmpty_bne, isEmpty_beq]; done) | (simp [*, isEmpty_bne, isEmpty_beq]; done)), (by first | rfl | (simp; done) | (simp [*]; done) | (simp [isEmpty_bne, isEmpty_beq]; done) | (simp [*, isEmpty_bne, isEmpty_beq]; done)), H', ⟨by have := HK1.out; omega⟩, ⟨by repeat (first | (with_reducible first | exact HB.out | apply below_alloc | apply pw_below_drewN | apply below_drew1) | exact HB.out)⟩⟩
                  · rw [if_neg c13] at H
                    exact absurd H (by simp)
                · rw [if_neg c12] at H
                  exact absurd H (by simp)
              · rw [if_neg c11] at H
                exact absurd H (by simp)
            · rw [if_neg c10] at H
              exact absurd H (by simp)
          · rw [if_neg c8] at H
            exact absurd H (by simp)
        · rw [if_neg c7] at H
          have c7b0 : decide (x8_1 < (l0.length : Int)) = false := decide_eq_false c7
          clear c7
          have HC17 := Aside0.mk H
          clear H
          go_upto_region 8 with (fail)
          go_cut [9] (fun v9 wc => ∃ (kq : Nat) (x9_16 : Bool), v9 = .bool x9_16 ∧ Aside0 (moatlaw1_UrlPaths.j1 kq a1 a2 x7_1 x9_16 = some r) ∧ Aside0 (kq ≤ k1) ∧ Aside0 (Below w.heap.size w wc))
          case first =>
            have H := HC17.out
            clear HC17
            by_cases c18 : a1 ≥ 97
            · rw [if_pos c18] at H
              have c18b0 : decide (97 ≤ a1) = true := decide_eq_true c18
              clear c18
              (first | rw [c18b0] | (simp only [i64_w, i32_w]; rw [c18b0]) | (rw [c18b8]; (try simp only [Bool.not_true, Bool.not_false])) | skip)
              by_cases c19 : a1 ≤ 122
              · rw [if_pos c19] at H
                have c19b0 : decide (a1 ≤ 122) = true := decide_eq_true c19
                clear c19
                have H' := Aside0.mk H
                clear H
                go_wp2
                go_meet
                case rel => exact ⟨_, (true), (by first | rfl | (simp; done) | (simp [*]; done) | (simp [isEmpty_bne, isEmpty_beq]; done) | (simp [*, isEmpty_bne, isEmpty_beq]; done)), H', ⟨by have := HK1.out; first | omega | exact Nat.le_refl _⟩, ⟨by repeat (first | (with_reducible first | exact HB.out | apply below_alloc | apply pw_below_drewN | apply below_drew1) | exact HB.out)⟩⟩
              · rw [if_neg c19] at H
                have c19b0 : decide (a1 ≤ 122) = false := decide_eq_false c19
                clear c19
                by_cases c20 : a1 ≥ 48
                · rw [if_pos c20] at H
                  have c20b0 : decide (48 ≤ a1) = true := decide_eq_true c20
                  clear c20
                  by_cases c21 : a1 ≤ 57
                  · rw [if_pos c21] at H
                    have c21b0 : decide (a1 ≤ 57) = true := decide_eq_true c21
                    clear c21
                    have H' := Aside0.mk H
                    clear H
                    go_wp2
                    go_meet
                    case rel => exact ⟨_, (true), (by first | rfl | (simp; done) | (simp [*]; done) | (simp [isEmpty_bne, isEmpty_beq]; done) | (simp [*, isEmpty_bne, isEmpty_beq]; done)), H', ⟨by have := HK1.out; first | omega | exact Nat.le_refl _⟩, ⟨by repeat (first | (with_reducible first | exact HB.out | apply below_alloc | apply pw_below_drewN | apply below_drew1) | exact HB.out)⟩⟩
                  · rw [if_neg c21] at H
                    have c21b0 : decide (a1 ≤ 57) = false := decide_eq_false c21
                    clear c21
                    by_cases c22 : a1 = 47
                    · rw [if_pos c22] at H
                      have c22b0 : (a1 == 47) = true := beq_iff_eq.mpr c22
                      have c22b1 : (a1 != 47) = false := bne_eq_false_iff_eq.mpr c22
                      clear c22
                      have H' := Aside0.mk H
                      clear H
                      go_wp2
                      go_meet
                      case rel => exact ⟨_, (true), (by first | rfl | (simp; done) | (simp [*]; done) | (simp [isEmpty_bne, isEmpty_beq]; done) | (simp [*, isEmpty_bne, isEmpty_beq]; done)), H', ⟨by have := HK1.out; first | omega | exact Nat.le_refl _⟩, ⟨by repeat (first | (with_reducible first | exact HB.out | apply below_alloc | apply pw_below_drewN | apply below_drew1) | exact HB.out)⟩⟩
                    · rw [if_neg c22] at H
                      have c22b0 : (a1 == 47) = false := beq_eq_false_iff_ne.mpr c22
                      have c22b1 : (a1 != 47) = true := bne_iff_ne.mpr c22
                      by_cases c23 : a1 = 45
                      · rw [if_pos c23] at H
                        have c23b0 : (a1 == 45) = true := beq_iff_eq.mpr c23
                        have c23b1 : (a1 != 45) = false := bne_eq_false_iff_eq.mpr c23
                        clear c23
                        have H' := Aside0.mk H
                        clear H
                        go_wp2
                        go_meet
                        case rel => exact ⟨_, (true), (by first | rfl | (simp; done) | (simp [*]; done) | (simp [isEmpty_bne, isEmpty_beq]; done) | (simp [*, isEmpty_bne, isEmpty_beq]; done)), H', ⟨by have := HK1.out; first | omega | exact Nat.le_refl _⟩, ⟨by repeat (first | (with_reducible first | exact HB.out | apply below_alloc | apply pw_below_drewN | apply below_drew1) | exact HB.out)⟩⟩
                      · rw [if_neg c23] at H
                        have c23b0 : (a1 == 45) = false := beq_eq_false_iff_ne.mpr c23
                        have c23b1 : (a1 != 45) = true := bne_iff_ne.mpr c23
                        by_cases c24 : a1 = 95
                        · rw [if_pos c24] at H
                          have c24b0 : (a1 == 95) = true := beq_iff_eq.mpr c24
                          have c24b1 : (a1 != 95) = false := bne_eq_false_iff_eq.mpr c24
                          clear c24
                          have H' := Aside0.mk H
                          clear H
                          go_wp2
                          go_meet
                          case rel => exact ⟨_, (true), (by first | rfl | (simp; done) | (simp [*]; done) | (simp [isEmpty_bne, isEmpty_beq]; done) | (simp [*, isEmpty_bne, isEmpty_beq]; done)), H', ⟨by have := HK1.out; first | omega | exact Nat.le_refl _⟩, ⟨by repeat (first | (with_reducible first | exact HB.out | apply below_alloc | apply pw_below_drewN | apply below_drew1) | exact HB.out)⟩⟩
                        · rw [if_neg c24] at H
                          have c24b0 : (a1 == 95) = false := beq_eq_false_iff_ne.mpr c24
                          have c24b1 : (a1 != 95) = true := bne_iff_ne.mpr c24
                          have H' := Aside0.mk H
                          clear H
                          go_wp2
                          go_meet
                          case rel => exact ⟨_, ((a1 == 46)), (by first | rfl | (simp; done) | (simp [*]; done) | (simp [isEmpty_bne, isEmpty_beq]; done) | (simp [*, isEmpty_bne, isEmpty_beq]; done)), H', ⟨by have := HK1.out; first | omega | exact Nat.le_refl _⟩, ⟨by repeat (first | (with_reducible first | exact HB.out | apply below_alloc | apply pw_below_drewN | apply below_drew1) | exact HB.out)⟩⟩
                · rw [if_neg c20] at H
                  have c20b0 : decide (48 ≤ a1) = false := decide_eq_false c20
                  clear c20
                  by_cases c25 : a1 = 47
                  · rw [if_pos c25] at H
                    have c25b0 : (a1 == 47) = true := beq_iff_eq.mpr c25
                    have c25b1 : (a1 != 47) = false := bne_eq_false_iff_eq.mpr c25
                    clear c25
                    have H' := Aside0.mk H
                    clear H
                    go_wp2
                    go_meet
                    case rel => exact ⟨_, (true), (by first | rfl | (simp; done) | (simp [*]; done) | (simp [isEmpty_bne, isEmpty_beq]; done) | (simp [*, isEmpty_bne, isEmpty_beq]; done)), H', ⟨by have := HK1.out; first | omega | exact Nat.le_refl _⟩, ⟨by repeat (first | (with_reducible first | exact HB.out | apply below_alloc | apply pw_below_drewN | apply below_drew1) | exact HB.out)⟩⟩
                  · rw [if_neg c25] at H
                    have c25b0 : (a1 == 47) = false := beq_eq_false_iff_ne.mpr c25
                    have c25b1 : (a1 != 47) = true := bne_iff_ne.mpr c25
                    by_cases c26 : a1 = 45
                    · rw [if_pos c26] at H
                      have c26b0 : (a1 == 45) = true := beq_iff_eq.mpr c26
                      have c26b1 : (a1 != 45) = false := bne_eq_false_iff_eq.mpr c26
                      clear c26
                      have H' := Aside0.mk H
                      clear H
                      go_wp2
                      go_meet
                      case rel => exact ⟨_, (true), (by first | rfl | (simp; done) | (simp [*]; done) | (simp [isEmpty_bne, isEmpty_beq]; done) | (simp [*, isEmpty_bne, isEmpty_beq]; done)), H', ⟨by have := HK1.out; first | omega | exact Nat.le_refl _⟩, ⟨by repeat (first | (with_reducible first | exact HB.out | apply below_alloc | apply pw_below_drewN | apply below_drew1) | exact HB.out)⟩⟩
                    · rw [if_neg c26] at H
                      have c26b0 : (a1 == 45) = false := beq_eq_false_iff_ne.mpr c26
                      have c26b1 : (a1 != 45) = true := bne_iff_ne.mpr c26
                      by_cases c27 : a1 = 95
                      · rw [if_pos c27] at H
                        have c27b0 : (a1 == 95) = true := beq_iff_eq.mpr c27
                        have c27b1 : (a1 != 95) = false := bne_eq_false_iff_eq.mpr c27
                        clear c27
                        have H' := Aside0.mk H
                        clear H
                        go_wp2
                        go_meet
                        case rel => exact ⟨_, (true), (by first | rfl | (simp; done) | (simp [*]; done) | (simp [isEmpty_bne, isEmpty_beq]; done) | (simp [*, isEmpty_bne, isEmpty_beq]; done)), H', ⟨by have := HK1.out; first | omega | exact Nat.le_refl _⟩, ⟨by repeat (first | (with_reducible first | exact HB.out | apply below_alloc | apply pw_below_drewN | apply below_drew1) | exact HB.out)⟩⟩
                      · rw [if_neg c27] at H
                        have c27b0 : (a1 == 95) = false := beq_eq_false_iff_ne.mpr c27
                        have c27b1 : (a1 != 95) = true := bne_iff_ne.mpr c27
                        have H' := Aside0.mk H
                        clear H
                        go_wp2
                        go_meet
                        case rel => exact ⟨_, ((a1 == 46)), (by first | rfl | (simp; done) | (simp [*]; done) | (simp [isEmpty_bne, isEmpty_beq]; done) | (simp [*, isEmpty_bne, isEmpty_beq]; done)), H', ⟨by have := HK1.out; first | omega | exact Nat.le_refl _⟩, ⟨by repeat (first | (with_reducible first | exact HB.out | apply below_alloc | apply pw_below_drewN | apply below_drew1) | exact HB.out)⟩⟩
            · rw [if_neg c18] at H
              have c18b0 : decide (97 ≤ a1) = false := decide_eq_false c18
              clear c18
              (first | rw [c18b0] | (simp only [i64_w, i32_w]; rw [c18b0]) | (rw [c18b8]; (try simp only [Bool.not_true, Bool.not_false])) | skip)
              by_cases c28 : a1 ≥ 48
              · rw [if_pos c28] at H
                have c28b0 : decide (48 ≤ a1) = true := decide_eq_true c28
                clear c28
                by_cases c29 : a1 ≤ 57
                · rw [if_pos c29] at H
                  have c29b0 : decide (a1 ≤ 57) = true := decide_eq_true c29
                  clear c29
                  have H' := Aside0.mk H
                  clear H
                  go_wp2
                  go_meet
                  case rel => exact ⟨_, (true), (by first | rfl | (simp; done) | (simp [*]; done) | (simp [isEmpty_bne, isEmpty_beq]; done) | (simp [*, isEmpty_bne, isEmpty_beq]; done)), H', ⟨by have := HK1.out; first | omega | exact Nat.le_refl _⟩, ⟨by repeat (first | (with_reducible first | exact HB.out | apply below_alloc | apply pw_below_drewN | apply below_drew1) | exact HB.out)⟩⟩
                · rw [if_neg c29] at H
                  have c29b0 : decide (a1 ≤ 57) = false := decide_eq_false c29
                  clear c29
                  by_cases c30 : a1 = 47
                  · rw [if_pos c30] at H
                    have c30b0 : (a1 == 47) = true := beq_iff_eq.mpr c30
                    have c30b1 : (a1 != 47) = false := bne_eq_false_iff_eq.mpr c30
                    clear c30
                    have H' := Aside0.mk H
                    clear H
                    go_wp2
                    go_meet
                    case rel => exact ⟨_, (true), (by first | rfl | (simp; done) | (simp [*]; done) | (simp [isEmpty_bne, isEmpty_beq]; done) | (simp [*, isEmpty_bne, isEmpty_beq]; done)), H', ⟨by have := HK1.out; first | omega | exact Nat.le_refl _⟩, ⟨by repeat (first | (with_reducible first | exact HB.out | apply below_alloc | apply pw_below_drewN | apply below_drew1) | exact HB.out)⟩⟩
                  · rw [if_neg c30] at H
                    have c30b0 : (a1 == 47) = false := beq_eq_false_iff_ne.mpr c30
                    have c30b1 : (a1 != 47) = true := bne_iff_ne.mpr c30
                    by_cases c31 : a1 = 45
                    · rw [if_pos c31] at H
                      have c31b0 : (a1 == 45) = true := beq_iff_eq.mpr c31
                      have c31b1 : (a1 != 45) = false := bne_eq_false_iff_eq.mpr c31
                      clear c31
                      have H' := Aside0.mk H
                      clear H
                      go_wp2
                      go_meet
                      case rel => exact ⟨_, (true), (by first | rfl | (simp; done) | (simp [*]; done) | (simp [isEmpty_bne, isEmpty_beq]; done) | (simp [*, isEmpty_bne, isEmpty_beq]; done)), H', ⟨by have := HK1.out; first | omega | exact Nat.le_refl _⟩, ⟨by repeat (first | (with_reducible first | exact HB.out | apply below_alloc | apply pw_below_drewN | apply below_drew1) | exact HB.out)⟩⟩
                    · rw [if_neg c31] at H
                      have c31b0 : (a1 == 45) = false := beq_eq_false_iff_ne.mpr c31
                      have c31b1 : (a1 != 45) = true := bne_iff_ne.mpr c31
                      by_cases c32 : a1 = 95
                      · rw [if_pos c32] at H
                        have c32b0 : (a1 == 95) = true := beq_iff_eq.mpr c32
                        have c32b1 : (a1 != 95) = false := bne_eq_false_iff_eq.mpr c32
                        clear c32
                        have H' := Aside0.mk H
                        clear H
                        go_wp2
                        go_meet
                        case rel => exact ⟨_, (true), (by first | rfl | (simp; done) | (simp [*]; done) | (simp [isEmpty_bne, isEmpty_beq]; done) | (simp [*, isEmpty_bne, isEmpty_beq]; done)), H', ⟨by have := HK1.out; first | omega | exact Nat.le_refl _⟩, ⟨by repeat (first | (with_reducible first | exact HB.out | apply below_alloc | apply pw_below_drewN | apply below_drew1) | exact HB.out)⟩⟩
                      · rw [if_neg c32] at H
                        have c32b0 : (a1 == 95) = false := beq_eq_false_iff_ne.mpr c32
                        have c32b1 : (a1 != 95) = true := bne_iff_ne.mpr c32
                        have H' := Aside0.mk H
                        clear H
                        go_wp2
                        go_meet
                        case rel => exact ⟨_, ((a1 == 46)), (by first | rfl | (simp; done) | (simp [*]; done) | (simp [isEmpty_bne, isEmpty_beq]; done) | (simp [*, isEmpty_bne, isEmpty_beq]; done)), H', ⟨by have := HK1.out; first | omega | exact Nat.le_refl _⟩, ⟨by repeat (first | (with_reducible first | exact HB.out | apply below_alloc | apply pw_below_drewN | apply below_drew1) | exact HB.out)⟩⟩
              · rw [if_neg c28] at H
                have c28b0 : decide (48 ≤ a1) = false := decide_eq_false c28
                clear c28
                by_cases c33 : a1 = 47
                · rw [if_pos c33] at H
                  have c33b0 : (a1 == 47) = true := beq_iff_eq.mpr c33
                  have c33b1 : (a1 != 47) = false := bne_eq_false_iff_eq.mpr c33
                  clear c33
                  have H' := Aside0.mk H
                  clear H
                  go_wp2
                  go_meet
                  case rel => exact ⟨_, (true), (by first | rfl | (simp; done) | (simp [*]; done) | (simp [isEmpty_bne, isEmpty_beq]; done) | (simp [*, isEmpty_bne, isEmpty_beq]; done)), H', ⟨by have := HK1.out; first | omega | exact Nat.le_refl _⟩, ⟨by repeat (first | (with_reducible first | exact HB.out | apply below_alloc | apply pw_below_drewN | apply below_drew1) | exact HB.out)⟩⟩
                · rw [if_neg c33] at H
                  have c33b0 : (a1 == 47) = false := beq_eq_false_iff_ne.mpr c33
                  have c33b1 : (a1 != 47) = true := bne_iff_ne.mpr c33
                  by_cases c34 : a1 = 45
                  · rw [if_pos c34] at H
                    have c34b0 : (a1 == 45) = true := beq_iff_eq.mpr c34
                    have c34b1 : (a1 != 45) = false := bne_eq_false_iff_eq.mpr c34
                    clear c34
                    have H' := Aside0.mk H
                    clear H
                    go_wp2
                    go_meet
                    case rel => exact ⟨_, (true), (by first | rfl | (simp; done) | (simp [*]; done) | (simp [isEmpty_bne, isEmpty_beq]; done) | (simp [*, isEmpty_bne, isEmpty_beq]; done)), H', ⟨by have := HK1.out; first | omega | exact Nat.le_refl _⟩, ⟨by repeat (first | (with_reducible first | exact HB.out | apply below_alloc | apply pw_below_drewN | apply below_drew1) | exact HB.out)⟩⟩
                  · rw [if_neg c34] at H
                    have c34b0 : (a1 == 45) = false := beq_eq_false_iff_ne.mpr c34
                    have c34b1 : (a1 != 45) = true := bne_iff_ne.mpr c34
                    by_cases c35 : a1 = 95
                    · rw [if_pos c35] at H
                      have c35b0 : (a1 == 95) = true := beq_iff_eq.mpr c35
                      have c35b1 : (a1 != 95) = false := bne_eq_false_iff_eq.mpr c35
                      clear c35
                      have H' := Aside0.mk H
                      clear H
                      go_wp2
                      go_meet
                      case rel => exact ⟨_, (true), (by first | rfl | (simp; done) | (simp [*]; done) | (simp [isEmpty_bne, isEmpty_beq]; done) | (simp [*, isEmpty_bne, isEmpty_beq]; done)), H', ⟨by have := HK1.out; first | omega | exact Nat.le_refl _⟩, ⟨by repeat (first | (with_reducible first | exact HB.out | apply below_alloc | apply pw_below_drewN | apply below_drew1) | exact HB.out)⟩⟩
                    · rw [if_neg c35] at H
                      have c35b0 : (a1 == 95) = false := beq_eq_false_iff_ne.mpr c35
                      have c35b1 : (a1 != 95) = true := bne_iff_ne.mpr c35
                      have H' := Aside0.mk H
                      clear H
                      go_wp2
                      go_meet
                      case rel => exact ⟨_, ((a1 == 46)), (by first | rfl | (simp; done) | (simp [*]; done) | (simp [isEmpty_bne, isEmpty_beq]; done) | (simp [*, isEmpty_bne, isEmpty_beq]; done)), H', ⟨by have := HK1.out; first | omega | exact Nat.le_refl _⟩, ⟨by repeat (first | (with_reducible first | exact HB.out | apply below_alloc | apply pw_below_drewN | apply below_drew1) | exact HB.out)⟩⟩
          case rest =>
            clear HC17
            try clear c1
            try clear p1
            try clear q1
            try clear hx1
            try clear c2
            try clear p2
            try clear c3
            try clear c4
            try clear c4b0
            try clear c4b1
            try clear p6
            try clear c7
            try clear c7b0
            try clear c8
            try clear c8b0
            try clear c10
            try clear c10b0
            try clear p10
            try clear q10
            try clear hx10
            try clear c11
            try clear c11b0
            try clear c12
            try clear c12b0
            try clear c12b1
            try clear c12b2
            try clear c13
            try clear c13b0
            try clear c13b1
            try clear c13b2
            try clear c14
            try clear c18
            try clear c18b0
            try clear c19
            try clear c19b0
            try clear c20
            try clear c20b0
            try clear c21
            try clear c21b0
            try clear c22
            try clear c22b0
            try clear c22b1
            try clear c23
            try clear c23b0
            try clear c23b1
            try clear c24
            try clear c24b0
            try clear c24b1
            try clear c25
            try clear c25b0
            try clear c25b1
            try clear c26
            try clear c26b0
            try clear c26b1
            try clear c27
            try clear c27b0
            try clear c27b1
            try clear c28
            try clear c28b0
            try clear c29
            try clear c29b0
            try clear c30
            try clear c30b0
            try clear c30b1
            try clear c31
            try clear c31b0
            try clear c31b1
            try clear c32
            try clear c32b0
            try clear c32b1
            try clear c33
            try clear c33b0
            try clear c33b1
            try clear c34
            try clear c34b0
            try clear c34b1
            try clear c35
            try clear c35b0
            try clear c35b1
            try clear hx105_0
            try clear hx107_0
            try clear p105
            try clear p107
            try clear p2
            try clear q105
            try clear q107
            obtain ⟨kq, x9_16, rfl, HA, HJ16, HB⟩ := hcut
            cases kq with
            | zero => exact absurd HA.out (by simp [moatlaw1_UrlPaths.j1])
            | succ kj16 =>
              have H := HA.out
              clear HA
              simp only [moatlaw1_UrlPaths.j1] at H
              replace H := Option.bind_eq_some_iff.mp H
              obtain ⟨t108, A360, H⟩ := H
              replace H : (if 0 ≤ (wrap64 (1 + t108)) then (if (wrap64 (1 + t108)) ≤ (x7_1.size : Int) then ((some (([a1] : List Int) : List Int)).bind fun y109 => (if (x7_1.extract 0 ((wrap64 (1 + t108)) : Int).toNat).size + (strOfNums y109).size ≤ 9223372036854775807 then (if ((x7_1.extract 0 ((wrap64 (1 + t108)) : Int).toNat) ++ (strOfNums y109)).size + (x7_1.extract ((wrap64 (1 + t108)) : Int).toNat x7_1.size).size ≤ 9223372036854775807 then ((url_Path.f kj16 x7_1).bind fun t112 => (if (t112 == (decide ((x7_1.size : Int) ≤ 60))) = true then ((url_Path.f kj16 (((x7_1.extract 0 ((wrap64 (1 + t108)) : Int).toNat) ++ (strOfNums y109)) ++ (x7_1.extract ((wrap64 (1 + t108)) : Int).toNat x7_1.size))).bind fun t113 => (if x9_16 = true then (if (t113 == (decide (((((x7_1.extract 0 ((wrap64 (1 + t108)) : Int).toNat) ++ (strOfNums y109)) ++ (x7_1.extract ((wrap64 (1 + t108)) : Int).toNat x7_1.size)).size : Int) ≤ 60))) = true then (if 1 ≤ (x7_1.size : Int) then (if (x7_1.extract 1 x7_1.size).size + 1 ≤ 9223372036854775807 then ((url_Path.f kj16 ((x7_1.extract 1 x7_1.size) ++ (⟨#[120]⟩ : ByteArray))).bind fun t114 => (if (x7_1.size : Int) = 1 then (if ((!t114) == true) = true then ((moatlaw1_awake.f).bind fun t115 => (some t115)) else (some false)) else (if 1 < (x7_1.size : Int) then (if (bt x7_1 1) = 47 then (if ((!t114) == (decide ((x7_1.size : Int) > 60))) = true then ((moatlaw1_awake.f).bind fun t116 => (some t116)) else (some false)) else (if ((!t114) == true) = true then ((moatlaw1_awake.f).bind fun t117 => (some t117)) else (some false))) else (none)))) else (none)) else (none)) else (some false)) else (if (t113 == false) = true then (if 1 ≤ (x7_1.size : Int) then (if (x7_1.extract 1 x7_1.size).size + 1 ≤ 9223372036854775807 then ((url_Path.f kj16 ((x7_1.extract 1 x7_1.size) ++ (⟨#[120]⟩ : ByteArray))).bind fun t118 => (if (x7_1.size : Int) = 1 then (if ((!t118) == true) = true then ((moatlaw1_awake.f).bind fun t119 => (some t119)) else (some false)) else (if 1 < (x7_1.size : Int) then (if (bt x7_1 1) = 47 then (if ((!t118) == (decide ((x7_1.size : Int) > 60))) = true then ((moatlaw1_awake.f).bind fun t120 => (some t120)) else (some false)) else (if ((!t118) == true) = true then ((moatlaw1_awake.f).bind fun t121 => (some t121)) else (some false))) else (none)))) else (none)) else (none)) else (some false)))) else (some false))) else (none)) else (none))) else (none)) else (none)) = some r := H
              have A36 := Aside0.mk A360
              clear A360
              obtain ⟨ji37, hji37⟩ : ∃ j_ : Int, (wrap64 (1 + t108)) = j_ := ⟨_, rfl⟩
              replace H : (if 0 ≤ (ji37) then (if (ji37) ≤ (x7_1.size : Int) then ((some (([a1] : List Int) : List Int)).bind fun y109 => (if (x7_1.extract 0 ((ji37) : Int).toNat).size + (strOfNums y109).size ≤ 9223372036854775807 then (if ((x7_1.extract 0 ((ji37) : Int).toNat) ++ (strOfNums y109)).size + (x7_1.extract ((ji37) : Int).toNat x7_1.size).size ≤ 9223372036854775807 then ((url_Path.f kj16 x7_1).bind fun t112 => (if (t112 == (decide ((x7_1.size : Int) ≤ 60))) = true then ((url_Path.f kj16 (((x7_1.extract 0 ((ji37) : Int).toNat) ++ (strOfNums y109)) ++ (x7_1.extract ((ji37) : Int).toNat x7_1.size))).bind fun t113 => (if x9_16 = true then (if (t113 == (decide (((((x7_1.extract 0 ((ji37) : Int).toNat) ++ (strOfNums y109)) ++ (x7_1.extract ((ji37) : Int).toNat x7_1.size)).size : Int) ≤ 60))) = true then (if 1 ≤ (x7_1.size : Int) then (if (x7_1.extract 1 x7_1.size).size + 1 ≤ 9223372036854775807 then ((url_Path.f kj16 ((x7_1.extract 1 x7_1.size) ++ (⟨#[120]⟩ : ByteArray))).bind fun t114 => (if (x7_1.size : Int) = 1 then (if ((!t114) == true) = true then ((moatlaw1_awake.f).bind fun t115 => (some t115)) else (some false)) else (if 1 < (x7_1.size : Int) then (if (bt x7_1 1) = 47 then (if ((!t114) == (decide ((x7_1.size : Int) > 60))) = true then ((moatlaw1_awake.f).bind fun t116 => (some t116)) else (some false)) else (if ((!t114) == true) = true then ((moatlaw1_awake.f).bind fun t117 => (some t117)) else (some false))) else (none)))) else (none)) else (none)) else (some false)) else (if (t113 == false) = true then (if 1 ≤ (x7_1.size : Int) then (if (x7_1.extract 1 x7_1.size).size + 1 ≤ 9223372036854775807 then ((url_Path.f kj16 ((x7_1.extract 1 x7_1.size) ++ (⟨#[120]⟩ : ByteArray))).bind fun t118 => (if (x7_1.size : Int) = 1 then (if ((!t118) == true) = true then ((moatlaw1_awake.f).bind fun t119 => (some t119)) else (some false)) else (if 1 < (x7_1.size : Int) then (if (bt x7_1 1) = 47 then (if ((!t118) == (decide ((x7_1.size : Int) > 60))) = true then ((moatlaw1_awake.f).bind fun t120 => (some t120)) else (some false)) else (if ((!t118) == true) = true then ((moatlaw1_awake.f).bind fun t121 => (some t121)) else (some false))) else (none)))) else (none)) else (none)) else (some false)))) else (some false))) else (none)) else (none))) else (none)) else (none)) = some r := by first | (rw [hji37] at H; exact H) | (simp only [hji37] at H ⊢; exact H)
              (try rw [hji37] at A36)
              have hji37w : (IntKind.i64.wrap (1 + t108)) = ji37 := (i64_w _).trans hji37
              by_cases c38 : 0 ≤ (ji37)
              · rw [if_pos c38] at H
                have c38b0 := eq_true c38
                have c38b1 : decide (0 ≤ (ji37)) = true := decide_eq_true c38
                clear c38
                by_cases c39 : (ji37) ≤ (x7_1.size : Int)
                · rw [if_pos c39] at H
                  have c39b0 := eq_true c39
                  have c39b1 : decide ((ji37) ≤ (x7_1.size : Int)) = true := decide_eq_true c39
                  clear c39
                  obtain ⟨y109, hy109⟩ : ∃ y_ : List Int, y_ = (([a1] : List Int)) := ⟨_, rfl⟩
                  replace H : (if (x7_1.extract 0 ((ji37) : Int).toNat).size + (strOfNums y109).size ≤ 9223372036854775807 then (if ((x7_1.extract 0 ((ji37) : Int).toNat) ++ (strOfNums y109)).size + (x7_1.extract ((ji37) : Int).toNat x7_1.size).size ≤ 9223372036854775807 then ((url_Path.f kj16 x7_1).bind fun t112 => (if (t112 == (decide ((x7_1.size : Int) ≤ 60))) = true then ((url_Path.f kj16 (((x7_1.extract 0 ((ji37) : Int).toNat) ++ (strOfNums y109)) ++ (x7_1.extract ((ji37) : Int).toNat x7_1.size))).bind fun t113 => (if x9_16 = true then (if (t113 == (decide (((((x7_1.extract 0 ((ji37) : Int).toNat) ++ (strOfNums y109)) ++ (x7_1.extract ((ji37) : Int).toNat x7_1.size)).size : Int) ≤ 60))) = true then (if 1 ≤ (x7_1.size : Int) then (if (x7_1.extract 1 x7_1.size).size + 1 ≤ 9223372036854775807 then ((url_Path.f kj16 ((x7_1.extract 1 x7_1.size) ++ (⟨#[120]⟩ : ByteArray))).bind fun t114 => (if (x7_1.size : Int) = 1 then (if ((!t114) == true) = true then ((moatlaw1_awake.f).bind fun t115 => (some t115)) else (some false)) else (if 1 < (x7_1.size : Int) then (if (bt x7_1 1) = 47 then (if ((!t114) == (decide ((x7_1.size : Int) > 60))) = true then ((moatlaw1_awake.f).bind fun t116 => (some t116)) else (some false)) else (if ((!t114) == true) = true then ((moatlaw1_awake.f).bind fun t117 => (some t117)) else (some false))) else (none)))) else (none)) else (none)) else (some false)) else (if (t113 == false) = true then (if 1 ≤ (x7_1.size : Int) then (if (x7_1.extract 1 x7_1.size).size + 1 ≤ 9223372036854775807 then ((url_Path.f kj16 ((x7_1.extract 1 x7_1.size) ++ (⟨#[120]⟩ : ByteArray))).bind fun t118 => (if (x7_1.size : Int) = 1 then (if ((!t118) == true) = true then ((moatlaw1_awake.f).bind fun t119 => (some t119)) else (some false)) else (if 1 < (x7_1.size : Int) then (if (bt x7_1 1) = 47 then (if ((!t118) == (decide ((x7_1.size : Int) > 60))) = true then ((moatlaw1_awake.f).bind fun t120 => (some t120)) else (some false)) else (if ((!t118) == true) = true then ((moatlaw1_awake.f).bind fun t121 => (some t121)) else (some false))) else (none)))) else (none)) else (none)) else (some false)))) else (some false))) else (none)) else (none)) = some r := by first | (rw [hy109]; with_reducible exact H) | (have H2_ := (Option.bind_some _ _).symm.trans H; rw [hy109]; with_reducible exact H2_) | (have H2_ := (Option.bind_some _ _).symm.trans H; with_reducible exact H2_) | with_reducible exact H | (rw [hy109]; exact H) | exact H
                  have Ny109 := Aside0.mk hy109
                  clear hy109
                  by_cases c40 : (x7_1.extract 0 ((ji37) : Int).toNat).size + (strOfNums y109).size ≤ 9223372036854775807
                  · rw [if_pos c40] at H
                    have c40b0 := eq_true c40
                    have c40b1 : decide ((x7_1.extract 0 ((ji37) : Int).toNat).size + (strOfNums y109).size ≤ 9223372036854775807) = true := decide_eq_true c40
                    try simp only [Int.toNat_natCast] at c40b1
                    try have c40b2 : (9223372036854775807 < (x7_1.extract 0 ((ji37) : Int).toNat).size + (strOfNums y109).size) = False := eq_false (Nat.not_lt.2 c40)
                    have c40b9 : (9223372036854775807 < (ji37).toNat + (strOfNums y109).size) = False := eq_false (Nat.not_lt.2 (by have hc := c40; have hj9 := of_eq_true c39b0; rw [ByteArray.size_extract] at hc; omega))
                    have c41b0 := eq_true (of_decide_eq_true (by first | (with_reducible assumption) | assumption) : 0 ≤ (ji37))
                    have c42b0 := eq_true (of_decide_eq_true (by first | (with_reducible assumption) | assumption) : (ji37) ≤ (x7_1.size : Int))
                    by_cases c43 : ((x7_1.extract 0 ((ji37) : Int).toNat) ++ (strOfNums y109)).size + (x7_1.extract ((ji37) : Int).toNat x7_1.size).size ≤ 9223372036854775807
                    · rw [if_pos c43] at H
                      have c43b0 := eq_true c43
                      have c43b1 : decide (((x7_1.extract 0 ((ji37) : Int).toNat) ++ (strOfNums y109)).size + (x7_1.extract ((ji37) : Int).toNat x7_1.size).size ≤ 9223372036854775807) = true := decide_eq_true c43
                      try simp only [Int.toNat_natCast] at c43b1
                      try have c43b2 : (9223372036854775807 < ((x7_1.extract 0 ((ji37) : Int).toNat) ++ (strOfNums y109)).size + (x7_1.extract ((ji37) : Int).toNat x7_1.size).size) = False := eq_false (Nat.not_lt.2 c43)
                      (try (have c43b7 : (9223372036854775807 < (x7_1.extract 0 ((ji37) : Int).toNat).size + (strOfNums y109).size + (x7_1.extract ((ji37) : Int).toNat x7_1.size).size) = False := eq_false (Nat.not_lt.2 (by have hc := c43; simp only [ByteArray.size_append] at hc; exact hc))))
                      have c43b9 : (9223372036854775807 < (ji37).toNat + (strOfNums y109).size + (x7_1.size - (ji37).toNat)) = False := eq_false (Nat.not_lt.2 (by have hc := c43; have hj9 := of_eq_true c39b0; simp only [ByteArray.size_append, ByteArray.size_extract] at hc; omega))
                      replace H := Option.bind_eq_some_iff.mp H
                      obtain ⟨t112, A440, H⟩ := H
                      replace H : (if (t112 == (decide ((x7_1.size : Int) ≤ 60))) = true then ((url_Path.f kj16 (((x7_1.extract 0 ((ji37) : Int).toNat) ++ (strOfNums y109)) ++ (x7_1.extract ((ji37) : Int).toNat x7_1.size))).bind fun t113 => (if x9_16 = true then (if (t113 == (decide (((((x7_1.extract 0 ((ji37) : Int).toNat) ++ (strOfNums y109)) ++ (x7_1.extract ((ji37) : Int).toNat x7_1.size)).size : Int) ≤ 60))) = true then (if 1 ≤ (x7_1.size : Int) then (if (x7_1.extract 1 x7_1.size).size + 1 ≤ 9223372036854775807 then ((url_Path.f kj16 ((x7_1.extract 1 x7_1.size) ++ (⟨#[120]⟩ : ByteArray))).bind fun t114 => (if (x7_1.size : Int) = 1 then (if ((!t114) == true) = true then ((moatlaw1_awake.f).bind fun t115 => (some t115)) else (some false)) else (if 1 < (x7_1.size : Int) then (if (bt x7_1 1) = 47 then (if ((!t114) == (decide ((x7_1.size : Int) > 60))) = true then ((moatlaw1_awake.f).bind fun t116 => (some t116)) else (some false)) else (if ((!t114) == true) = true then ((moatlaw1_awake.f).bind fun t117 => (some t117)) else (some false))) else (none)))) else (none)) else (none)) else (some false)) else (if (t113 == false) = true then (if 1 ≤ (x7_1.size : Int) then (if (x7_1.extract 1 x7_1.size).size + 1 ≤ 9223372036854775807 then ((url_Path.f kj16 ((x7_1.extract 1 x7_1.size) ++ (⟨#[120]⟩ : ByteArray))).bind fun t118 => (if (x7_1.size : Int) = 1 then (if ((!t118) == true) = true then ((moatlaw1_awake.f).bind fun t119 => (some t119)) else (some false)) else (if 1 < (x7_1.size : Int) then (if (bt x7_1 1) = 47 then (if ((!t118) == (decide ((x7_1.size : Int) > 60))) = true then ((moatlaw1_awake.f).bind fun t120 => (some t120)) else (some false)) else (if ((!t118) == true) = true then ((moatlaw1_awake.f).bind fun t121 => (some t121)) else (some false))) else (none)))) else (none)) else (none)) else (some false)))) else (some false)) = some r := H
                      have A44 := Aside0.mk A440
                      clear A440
                      by_cases c45 : (t112 == (decide ((x7_1.size : Int) ≤ 60))) = true
                      · rw [if_pos c45] at H
                        have c45b0 : (t112 == (decide ((x7_1.size : Int) ≤ 60))) = true := c45
                        (try (have c45b1 : decide (t112 = (decide ((x7_1.size : Int) ≤ 60))) = true := by simpa using c45))
                        (try (have c45b2 : (t112 == (decide ((x7_1.size : Int) ≤ 60))) = true := by simpa using c45))
                        clear c45
                        replace H := Option.bind_eq_some_iff.mp H
                        obtain ⟨t113, A460, H⟩ := H
                        replace H : (if x9_16 = true then (if (t113 == (decide (((((x7_1.extract 0 ((ji37) : Int).toNat) ++ (strOfNums y109)) ++ (x7_1.extract ((ji37) : Int).toNat x7_1.size)).size : Int) ≤ 60))) = true then (if 1 ≤ (x7_1.size : Int) then (if (x7_1.extract 1 x7_1.size).size + 1 ≤ 9223372036854775807 then ((url_Path.f kj16 ((x7_1.extract 1 x7_1.size) ++ (⟨#[120]⟩ : ByteArray))).bind fun t114 => (if (x7_1.size : Int) = 1 then (if ((!t114) == true) = true then ((moatlaw1_awake.f).bind fun t115 => (some t115)) else (some false)) else (if 1 < (x7_1.size : Int) then (if (bt x7_1 1) = 47 then (if ((!t114) == (decide ((x7_1.size : Int) > 60))) = true then ((moatlaw1_awake.f).bind fun t116 => (some t116)) else (some false)) else (if ((!t114) == true) = true then ((moatlaw1_awake.f).bind fun t117 => (some t117)) else (some false))) else (none)))) else (none)) else (none)) else (some false)) else (if (t113 == false) = true then (if 1 ≤ (x7_1.size : Int) then (if (x7_1.extract 1 x7_1.size).size + 1 ≤ 9223372036854775807 then ((url_Path.f kj16 ((x7_1.extract 1 x7_1.size) ++ (⟨#[120]⟩ : ByteArray))).bind fun t118 => (if (x7_1.size : Int) = 1 then (if ((!t118) == true) = true then ((moatlaw1_awake.f).bind fun t119 => (some t119)) else (some false)) else (if 1 < (x7_1.size : Int) then (if (bt x7_1 1) = 47 then (if ((!t118) == (decide ((x7_1.size : Int) > 60))) = true then ((moatlaw1_awake.f).bind fun t120 => (some t120)) else (some false)) else (if ((!t118) == true) = true then ((moatlaw1_awake.f).bind fun t121 => (some t121)) else (some false))) else (none)))) else (none)) else (none)) else (some false))) = some r := H
                        have A46 := Aside0.mk A460
                        clear A460
                        by_cases c47 : x9_16 = true
                        · subst c47
                          have H1 : (if (t113 == (decide (((((x7_1.extract 0 ((ji37) : Int).toNat) ++ (strOfNums y109)) ++ (x7_1.extract ((ji37) : Int).toNat x7_1.size)).size : Int) ≤ 60))) = true then (if 1 ≤ (x7_1.size : Int) then (if (x7_1.extract 1 x7_1.size).size + 1 ≤ 9223372036854775807 then ((url_Path.f kj16 ((x7_1.extract 1 x7_1.size) ++ (⟨#[120]⟩ : ByteArray))).bind fun t114 => (if (x7_1.size : Int) = 1 then (if ((!t114) == true) = true then ((moatlaw1_awake.f).bind fun t115 => (some t115)) else (some false)) else (if 1 < (x7_1.size : Int) then (if (bt x7_1 1) = 47 then (if ((!t114) == (decide ((x7_1.size : Int) > 60))) = true then ((moatlaw1_awake.f).bind fun t116 => (some t116)) else (some false)) else (if ((!t114) == true) = true then ((moatlaw1_awake.f).bind fun t117 => (some t117)) else (some false))) else (none)))) else (none)) else (none)) else (some false)) = some r := by rw [if_pos rfl] at H; exact H
                          clear H
                          have H := H1
                          clear H1
                          by_cases c48 : (t113 == (decide (((((x7_1.extract 0 ((ji37) : Int).toNat) ++ (strOfNums y109)) ++ (x7_1.extract ((ji37) : Int).toNat x7_1.size)).size : Int) ≤ 60))) = true
                          · rw [if_pos c48] at H
                            have c48b0 : (t113 == (decide (((((x7_1.extract 0 ((ji37) : Int).toNat) ++ (strOfNums y109)) ++ (x7_1.extract ((ji37) : Int).toNat x7_1.size)).size : Int) ≤ 60))) = true := c48
                            try simp only [Int.toNat_natCast] at c48b0
                            (try (have c48b1 : decide (t113 = (decide (((((x7_1.extract 0 ((ji37) : Int).toNat) ++ (strOfNums y109)) ++ (x7_1.extract ((ji37) : Int).toNat x7_1.size)).size : Int) ≤ 60))) = true := by simpa using c48))
                            (try (have c48b2 : (t113 == (decide (((((x7_1.extract 0 ((ji37) : Int).toNat) ++ (strOfNums y109)) ++ (x7_1.extract ((ji37) : Int).toNat x7_1.size)).size : Int) ≤ 60))) = true := by simpa using c48))
                            clear c48
                            by_cases c49 : 1 ≤ (x7_1.size : Int)
                            · rw [if_pos c49] at H
                              have c49b0 := eq_true c49
                              have c49b1 : decide (1 ≤ (x7_1.size : Int)) = true := decide_eq_true c49
                              clear c49
                              by_cases c50 : (x7_1.extract 1 x7_1.size).size + 1 ≤ 9223372036854775807
                              · rw [if_pos c50] at H
                                have c50b0 := eq_true c50
                                have c50b1 : decide ((x7_1.extract 1 x7_1.size).size + 1 ≤ 9223372036854775807) = true := decide_eq_true c50
                                try have c50b2 : (9223372036854775807 < (x7_1.extract 1 x7_1.size).size + 1) = False := eq_false (Nat.not_lt.2 c50)
                                have c50b9 : (9223372036854775807 < x7_1.size - 1 + 1) = False := eq_false (Nat.not_lt.2 (by have hc := c50; rw [ByteArray.size_extract] at hc; omega))
                                replace H := Option.bind_eq_some_iff.mp H
                                obtain ⟨t114, A510, H⟩ := H
                                replace H : (if (x7_1.size : Int) = 1 then (if ((!t114) == true) = true then ((moatlaw1_awake.f).bind fun t115 => (some t115)) else (some false)) else (if 1 < (x7_1.size : Int) then (if (bt x7_1 1) = 47 then (if ((!t114) == (decide ((x7_1.size : Int) > 60))) = true then ((moatlaw1_awake.f).bind fun t116 => (some t116)) else (some false)) else (if ((!t114) == true) = true then ((moatlaw1_awake.f).bind fun t117 => (some t117)) else (some false))) else (none))) = some r := H
                                have A51 := Aside0.mk A510
                                clear A510
                                by_cases c52 : (x7_1.size : Int) = 1
                                · rw [if_pos c52] at H
                                  have c52b0 : ((x7_1.size : Int) == 1) = true := beq_iff_eq.mpr c52
                                  have c52b1 : ((x7_1.size : Int) != 1) = false := bne_eq_false_iff_eq.mpr c52
                                  clear c52
                                  by_cases c53 : ((!t114) == true) = true
                                  · rw [if_pos c53] at H
                                    have c53b0 : ((!t114) == true) = true := c53
                                    (try (have c53b1 : decide ((!t114) = true) = true := by simpa using c53))
                                    (try (have c53b2 : ((!t114) == true) = true := by simpa using c53))
                                    clear c53
                                    replace H := Option.bind_eq_some_iff.mp H
                                    obtain ⟨t115, A540, H⟩ := H
                                    replace H : (some t115) = some r := H
                                    have A54 := Aside0.mk A540
                                    clear A540
                                    obtain rfl := Option.some.inj H
                                    try go_wp2_with (first | ((with_reducible refine gate_callee (f := 30) rfl ?_); refine goesL_ (some 65) rfl rfl Tryd.func30 (by kernel_rfl) rfl #[.int .i64 a2, .int .i64 (x7_1.size : Int)] rfl (by (try simp only [List.map_toArray, List.map_cons, List.map_nil]); first | done | rfl | (simp only [List.length_drop, List.length_take]; rfl)) ?_; (with_reducible refine (moatlaw0_Low.calls a2 (x7_1.size : Int) t108 _ A36.out).mono ?_); rintro e w' ⟨rfl, ⟨nd, rfl⟩⟩; refine ⟨_, rfl, ?_⟩))
                                    (try (rw [drewN_self wc]; generalize hq_ : World.drewN wc _ = wc; have n0_ : Aside0 (Below w.heap.size w wc) := ⟨by rw [← hq_]; exact (by repeat (first | (with_reducible first | exact HB.out | apply below_alloc | apply pw_below_drewN | apply below_drew1) | exact HB.out))⟩; clear HB hq_; have HB := n0_; clear n0_))
                                    have n0_ := Aside0.mk (below_drew1 HB.out)
                                    clear HB
                                    have HB := n0_
                                    clear n0_
                                    refine start_ (n := 12) (S := fun w' => True) (ds := []) #[false, false, false, false, false, false, false, false, false, false, false, false] (by kernel_rfl) rfl rfl trivial (fun hHeld => ?_); refine with_tabW moatlaw1_UrlPaths.tab10 moatlaw1_UrlPaths.bits10 (fun HT_ HW_ => ?_)
                                    generalize wc.drew = w55 at HB hHeld ⊢
                                    refine pure_ (i := 0) (N := some 67) (v := ?_) (a' := ?_) #[true, false, false, false, false, false, false, false, false, false, false, false] rfl rfl (any_of HT_.out (by kernel_rfl)) (fun _ _ _ h => h) (Or.inl ⟨by rfl, ?_⟩) ?_ ?_
                                    rotate_left
                                    · intro w'
                                      go_simp
                                      with_reducible rfl
                                    rotate_left
                                    · simp only [Act.put, List.setIfInBounds_toArray, List.set_cons_zero, List.set_cons_succ, i64_w, i32_w]
                                      rfl
                                    refine pure_ (i := 1) (N := some 68) (v := ?_) (a' := ?_) #[true, true, false, false, false, false, false, false, false, false, false, false] rfl rfl (any_of HT_.out (by kernel_rfl)) (fun _ _ _ h => h) (Or.inl ⟨by rfl, ?_⟩) ?_ ?_
                                    rotate_left
                                    · intro w'
                                      go_simp
                                      with_reducible rfl
                                    rotate_left
                                    · simp only [Act.put, List.setIfInBounds_toArray, List.set_cons_zero, List.set_cons_succ, i64_w, i32_w]
                                      rfl
                                    refine pure_ (i := 2) (N := some 69) (v := ?_) (a' := ?_) #[true, true, true, false, false, false, false, false, false, false, false, false] rfl rfl (any_of HT_.out (by kernel_rfl)) (fun _ _ _ h => h) (Or.inl ⟨by rfl, ?_⟩) ?_ ?_
                                    rotate_left
                                    · intro w'
                                      go_simp
                                      with_reducible rfl
                                    rotate_left
                                    · simp only [Act.put, List.setIfInBounds_toArray, List.set_cons_zero, List.set_cons_succ, i64_w, i32_w]
                                      rfl
                                    refine pure_ (i := 3) (N := some 70) (v := ?_) (a' := ?_) #[true, true, true, true, false, false, false, false, false, false, false, false] rfl rfl (any_of HT_.out (by kernel_rfl)) (fun _ _ _ h => h) (Or.inl ⟨by rfl, ?_⟩) ?_ ?_
                                    rotate_left
                                    · intro w'
                                      go_simp
                                      with_reducible rfl
                                    rotate_left
                                    · simp only [Act.put, List.setIfInBounds_toArray, List.set_cons_zero, List.set_cons_succ, i64_w, i32_w]
                                      rfl
                                    refine pure_ (i := 7) (N := some 74) (v := ?_) (a' := ?_) #[true, true, true, true, false, false, false, true, false, false, false, false] rfl rfl (any_of HT_.out (by kernel_rfl)) (fun _ _ _ h => h) (Or.inl ⟨by rfl, ?_⟩) ?_ ?_
                                    rotate_left
                                    · intro w'
                                      go_simp
                                      with_reducible rfl
                                    rotate_left
                                    · simp only [Act.put, List.setIfInBounds_toArray, List.set_cons_zero, List.set_cons_succ, i64_w, i32_w]
                                      rfl
                                    refine pure_ (i := 8) (N := some 75) (v := ?_) (a' := ?_) #[true, true, true, true, false, false, false, true, true, false, false, false] rfl rfl (any_of HT_.out (by kernel_rfl)) (fun _ _ _ h => h) (Or.inl ⟨by rfl, ?_⟩) ?_ ?_
                                    rotate_left
                                    · intro w'
                                      go_simp
                                      with_reducible rfl
                                    rotate_left
                                    · simp only [Act.put, List.setIfInBounds_toArray, List.set_cons_zero, List.set_cons_succ, i64_w, i32_w]
                                      rfl
                                    refine pure_ (i := 9) (N := some 76) (v := ?_) (a' := ?_) #[true, true, true, true, false, false, false, true, true, true, false, false] rfl rfl (any_of HT_.out (by kernel_rfl)) (fun _ _ _ h => h) (Or.inl ⟨by rfl, ?_⟩) ?_ ?_
                                    rotate_left
                                    · intro w'
                                      go_simp
                                      with_reducible rfl
                                    rotate_left
                                    · simp only [Act.put, List.setIfInBounds_toArray, List.set_cons_zero, List.set_cons_succ, i64_w, i32_w]
                                      rfl
                                    refine one_ (i := 4) (N := some 71) #[true, true, true, true, true, false, false, true, true, true, false, false] rfl rfl (one_of HT_.out (by kernel_rfl)) (by decide) (fun K hK => ?_)
                                    refine Kd.R_lit_step (Kd.int .u8) _ 5 ?hg (N := 71) ?hd (xs := ([a1] : List Int)) (inner := [.int .u8 a1]) (ok := fun _ => True) (okp := fun _ => True) ?hr ?hp (fun _ hk => hk) trivial (Below.refl _ _) (Nat.le_refl _) (by simp) ?_; (case hd => rfl); (case hg => rfl); (case hr => first | (go_simp; done) | (go_simp; rfl)); (case hp => exact (Reps.one (show Kd.M (Kd.int .u8) _ _ _ a1 [.int .u8 a1] from rfl) (Reps.none _ _)))
                                    intro v110 w56 ho57 hb hg_ hnew_
                                    clear hg_ hnew_
                                    (first | rw [← Ny109.out] at ho57 | (simp only [Int.reduceToNat] at ho57; rw [← Ny109.out] at ho57))
                                    have n0_ := Aside0.mk (Kd.R_lower ho57 (below_size (by repeat (first | (with_reducible first | exact HB.out | apply below_alloc | apply pw_below_drewN | apply below_drew1) | exact HB.out))))
                                    have n1_ := Aside0.mk (below_step (by repeat (first | (with_reducible first | exact HB.out | apply below_alloc | apply pw_below_drewN | apply below_drew1) | exact HB.out)) hb)
                                    clear HB
                                    have HO111 := n0_
                                    have HB := n1_
                                    clear n0_ n1_
                                    clear hb ho57
                                    refine hK.out _ _ trivial (fun hHeld => ?_)
                                    clear hK K
                                    refine norm_ (a' := ?_) ?_ ?_
                                    rotate_left
                                    · show Act.put _ (some 71) _ = _
                                      simp only [Act.put, List.setIfInBounds_toArray, List.set_cons_zero, List.set_cons_succ, i64_w, i32_w]
                                      rfl
                                    refine one_ (i := 5) (N := some 72) #[true, true, true, true, true, true, false, true, true, true, false, false] rfl rfl (one_of HT_.out (by kernel_rfl)) (by decide) (fun K hK => ?_)
                                    have hcv58 := own_string (P := Tryd.prog) Tryd.underlying57 Tryd.underlying5 Tryd.underlying9 (Kd.own_of_R HO111.out)
                                    refine value_ (w1 := ?_) (v := ?_) (by rfl) rfl ?_ ?_
                                    rotate_left 2
                                    · go_simp
                                      constructor
                                      · rfl
                                      · rfl
                                    clear hcv58
                                    refine hK.out _ _ trivial (fun hHeld => ?_)
                                    clear hK K
                                    refine norm_ (a' := ?_) ?_ ?_
                                    rotate_left
                                    · show Act.put _ (some 72) _ = _
                                      simp only [Act.put, List.setIfInBounds_toArray, List.set_cons_zero, List.set_cons_succ, i64_w, i32_w]
                                      rfl
                                    refine pure_ (i := 6) (N := some 73) (v := ?_) (a' := ?_) #[true, true, true, true, true, true, true, true, true, true, false, false] rfl rfl (any_of HT_.out (by kernel_rfl)) (fun _ _ _ h => h) (Or.inl ⟨by rfl, ?_⟩) ?_ ?_
                                    rotate_left
                                    · intro w'
                                      go_simp
                                      with_reducible rfl
                                    rotate_left
                                    · simp only [Act.put, List.setIfInBounds_toArray, List.set_cons_zero, List.set_cons_succ, i64_w, i32_w]
                                      rfl
                                    refine pure_ (i := 10) (N := some 77) (v := ?_) (a' := ?_) #[true, true, true, true, true, true, true, true, true, true, true, false] rfl rfl (any_of HT_.out (by kernel_rfl)) (fun _ _ _ h => h) (Or.inl ⟨by rfl, ?_⟩) ?_ ?_
                                    rotate_left
                                    · intro w'
                                      go_simp
                                      with_reducible rfl
                                    rotate_left
                                    · simp only [Act.put, List.setIfInBounds_toArray, List.set_cons_zero, List.set_cons_succ, i64_w, i32_w]
                                      rfl
                                    refine pure_ (i := 11) (N := some 10) (v := ?_) (a' := ?_) #[true, true, true, true, true, true, true, true, true, true, true, true] rfl rfl (any_of HT_.out (by kernel_rfl)) (fun _ _ _ h => h) (Or.inl ⟨by rfl, ?_⟩) ?_ ?_
                                    rotate_left
                                    · intro w'
                                      go_simp
                                      with_reducible rfl
                                    rotate_left
                                    · simp only [Act.put, List.setIfInBounds_toArray, List.set_cons_zero, List.set_cons_succ, i64_w, i32_w]
                                      rfl
                                    refine done_ (done_of HT_.out (by kernel_rfl)) ?_
                                    generalize hT9 : (((x7_1.extract 0 ((ji37) : Int).toNat) ++ (strOfNums y109)) ++ (x7_1.extract ((ji37) : Int).toNat x7_1.size)) = T9 at *
                                    try go_wp2_with (first | ((with_reducible refine gate_callee (f := 43) rfl ?_); refine goesL_ (some 79) rfl rfl Tryd.func43 (by kernel_rfl) rfl #[.string x7_1] rfl (by (try simp only [List.map_toArray, List.map_cons, List.map_nil]); first | done | rfl | (simp only [List.length_drop, List.length_take]; rfl)) ?_; (with_reducible refine (url_Path.calls kj16 x7_1 t112 _ A44.out).mono ?_); rintro e w' ⟨rfl, ⟨nd, rfl⟩⟩; refine ⟨_, rfl, ?_⟩) | (go_at_call 43; (with_reducible refine (url_Path.calls kj16 T9 t113 _ A46.out).mono ?_); rintro e w' ⟨rfl, ⟨nd, rfl⟩⟩) | (go_at_call 43; (with_reducible refine (url_Path.calls kj16 ((x7_1.extract 1 x7_1.size) ++ (⟨#[120]⟩ : ByteArray)) t114 _ A51.out).mono ?_); rintro e w' ⟨rfl, ⟨nd, rfl⟩⟩) | (go_at_call 36; (with_reducible refine (moatlaw1_awake.calls_at HU.out (by repeat (first | (with_reducible first | exact HB.out | apply below_alloc | apply pw_below_drewN | apply below_drew1) | exact HB.out)) t115 A54.out).mono ?_); rintro e w59 ⟨rfl, hb⟩; have n0_ := Aside0.mk (Kd.R_below (by (with_reducible repeat (first | apply Kd.R_alloc | apply Kd.R_drewN | apply Kd.R_drew)); exact HO111.out) hb); have n1_ := Aside0.mk (below_step (by repeat (first | (with_reducible first | exact HB.out | apply below_alloc | apply pw_below_drewN | apply below_drew1) | exact HB.out)) hb); clear HO111; clear HB; have HO111 := n0_; have HB := n1_; clear n0_ n1_; (try clear hb); (try clear hb2); (try clear hk); (try clear hi)))
                                    go_ret
                                    exact ⟨by first | rfl | (simp [errW_none, errW_some] <;> rfl) | (simp only [← hji37]; first | rfl | (simp [errW_none, errW_some] <;> rfl)) | (simp [*, errW_none, errW_some] <;> rfl) | (simp [isEmpty_bne, isEmpty_beq, errW_none, errW_some]; done) | (simp [*, isEmpty_bne, isEmpty_beq, errW_none, errW_some]; done), by repeat (first | (with_reducible first | exact HB.out | apply below_alloc | apply pw_below_drewN | apply below_drew1) | exact HB.out)⟩
                                  · rw [if_neg c53] at H
                                    have c53b0 : ((!t114) == true) = false := by simpa using c53
                                    (try (have c53b1 : decide ((!t114) = true) = false := by simpa using c53))
                                    (try (have c53b2 : ((!t114) == true) = false := by simpa using c53))
                                    (try (have c53b3 : ¬ ((!t114) = true) := by simpa using c53))
                                    clear c53
                                    cases (Option.some.inj H).trans HRT.out
                                · rw [if_neg c52] at H
                                  have c52b0 : ((x7_1.size : Int) == 1) = false := beq_eq_false_iff_ne.mpr c52
                                  have c52b1 : ((x7_1.size : Int) != 1) = true := bne_iff_ne.mpr c52
                                  by_cases c60 : 1 < (x7_1.size : Int)
                                  · rw [if_pos c60] at H
                                    have c60b0 : decide (1 < (x7_1.size : Int)) = true := decide_eq_true c60
                                    have c60b1 : decide (1 < x7_1.size) = true := decide_eq_true (by omega)
                                    clear c60
                                    by_cases c62 : (bt x7_1 1) = 47
                                    · rw [if_pos c62] at H
                                      have c62b0 : ((bt x7_1 1) == 47) = true := beq_iff_eq.mpr c62
                                      have c62b1 : ((bt x7_1 1) != 47) = false := bne_eq_false_iff_eq.mpr c62
                                      clear c62
                                      by_cases c63 : ((!t114) == (decide ((x7_1.size : Int) > 60))) = true
                                      · rw [if_pos c63] at H
                                        have c63b0 : ((!t114) == (decide ((x7_1.size : Int) > 60))) = true := c63
                                        (try (have c63b1 : decide ((!t114) = (decide ((x7_1.size : Int) > 60))) = true := by simpa using c63))
                                        (try (have c63b2 : ((!t114) == (decide ((x7_1.size : Int) > 60))) = true := by simpa using c63))
                                        clear c63
                                        replace H := Option.bind_eq_some_iff.mp H
                                        obtain ⟨t116, A640, H⟩ := H
                                        replace H : (some t116) = some r := H
                                        have A64 := Aside0.mk A640
                                        clear A640
                                        obtain rfl := Option.some.inj H
                                        try go_wp2_with (first | ((with_reducible refine gate_callee (f := 30) rfl ?_); refine goesL_ (some 65) rfl rfl Tryd.func30 (by kernel_rfl) rfl #[.int .i64 a2, .int .i64 (x7_1.size : Int)] rfl (by (try simp only [List.map_toArray, List.map_cons, List.map_nil]); first | done | rfl | (simp only [List.length_drop, List.length_take]; rfl)) ?_; (with_reducible refine (moatlaw0_Low.calls a2 (x7_1.size : Int) t108 _ A36.out).mono ?_); rintro e w' ⟨rfl, ⟨nd, rfl⟩⟩; refine ⟨_, rfl, ?_⟩))
                                        (try (rw [drewN_self wc]; generalize hq_ : World.drewN wc _ = wc; have n0_ : Aside0 (Below w.heap.size w wc) := ⟨by rw [← hq_]; exact (by repeat (first | (with_reducible first | exact HB.out | apply below_alloc | apply pw_below_drewN | apply below_drew1) | exact HB.out))⟩; clear HB hq_; have HB := n0_; clear n0_))
                                        have n0_ := Aside0.mk (below_drew1 HB.out)
                                        clear HB
                                        have HB := n0_
                                        clear n0_
                                        refine start_ (n := 12) (S := fun w' => True) (ds := []) #[false, false, false, false, false, false, false, false, false, false, false, false] (by kernel_rfl) rfl rfl trivial (fun hHeld => ?_); refine with_tabW moatlaw1_UrlPaths.tab10 moatlaw1_UrlPaths.bits10 (fun HT_ HW_ => ?_)
                                        generalize wc.drew = w65 at HB hHeld ⊢
                                        refine pure_ (i := 0) (N := some 67) (v := ?_) (a' := ?_) #[true, false, false, false, false, false, false, false, false, false, false, false] rfl rfl (any_of HT_.out (by kernel_rfl)) (fun _ _ _ h => h) (Or.inl ⟨by rfl, ?_⟩) ?_ ?_
                                        rotate_left
                                        · intro w'
                                          go_simp
                                          with_reducible rfl
                                        rotate_left
                                        · simp only [Act.put, List.setIfInBounds_toArray, List.set_cons_zero, List.set_cons_succ, i64_w, i32_w]
                                          rfl
                                        refine pure_ (i := 1) (N := some 68) (v := ?_) (a' := ?_) #[true, true, false, false, false, false, false, false, false, false, false, false] rfl rfl (any_of HT_.out (by kernel_rfl)) (fun _ _ _ h => h) (Or.inl ⟨by rfl, ?_⟩) ?_ ?_
                                        rotate_left
                                        · intro w'
                                          go_simp
                                          with_reducible rfl
                                        rotate_left
                                        · simp only [Act.put, List.setIfInBounds_toArray, List.set_cons_zero, List.set_cons_succ, i64_w, i32_w]
                                          rfl
                                        refine pure_ (i := 2) (N := some 69) (v := ?_) (a' := ?_) #[true, true, true, false, false, false, false, false, false, false, false, false] rfl rfl (any_of HT_.out (by kernel_rfl)) (fun _ _ _ h => h) (Or.inl ⟨by rfl, ?_⟩) ?_ ?_
                                        rotate_left
                                        · intro w'
                                          go_simp
                                          with_reducible rfl
                                        rotate_left
                                        · simp only [Act.put, List.setIfInBounds_toArray, List.set_cons_zero, List.set_cons_succ, i64_w, i32_w]
                                          rfl
                                        refine pure_ (i := 3) (N := some 70) (v := ?_) (a' := ?_) #[true, true, true, true, false, false, false, false, false, false, false, false] rfl rfl (any_of HT_.out (by kernel_rfl)) (fun _ _ _ h => h) (Or.inl ⟨by rfl, ?_⟩) ?_ ?_
                                        rotate_left
                                        · intro w'
                                          go_simp
                                          with_reducible rfl
                                        rotate_left
                                        · simp only [Act.put, List.setIfInBounds_toArray, List.set_cons_zero, List.set_cons_succ, i64_w, i32_w]
                                          rfl
                                        refine pure_ (i := 7) (N := some 74) (v := ?_) (a' := ?_) #[true, true, true, true, false, false, false, true, false, false, false, false] rfl rfl (any_of HT_.out (by kernel_rfl)) (fun _ _ _ h => h) (Or.inl ⟨by rfl, ?_⟩) ?_ ?_
                                        rotate_left
                                        · intro w'
                                          go_simp
                                          with_reducible rfl
                                        rotate_left
                                        · simp only [Act.put, List.setIfInBounds_toArray, List.set_cons_zero, List.set_cons_succ, i64_w, i32_w]
                                          rfl
                                        refine pure_ (i := 8) (N := some 75) (v := ?_) (a' := ?_) #[true, true, true, true, false, false, false, true, true, false, false, false] rfl rfl (any_of HT_.out (by kernel_rfl)) (fun _ _ _ h => h) (Or.inl ⟨by rfl, ?_⟩) ?_ ?_
                                        rotate_left
                                        · intro w'
                                          go_simp
                                          with_reducible rfl
                                        rotate_left
                                        · simp only [Act.put, List.setIfInBounds_toArray, List.set_cons_zero, List.set_cons_succ, i64_w, i32_w]
                                          rfl
                                        refine pure_ (i := 9) (N := some 76) (v := ?_) (a' := ?_) #[true, true, true, true, false, false, false, true, true, true, false, false] rfl rfl (any_of HT_.out (by kernel_rfl)) (fun _ _ _ h => h) (Or.inl ⟨by rfl, ?_⟩) ?_ ?_
                                        rotate_left
                                        · intro w'
                                          go_simp
                                          with_reducible rfl
                                        rotate_left
                                        · simp only [Act.put, List.setIfInBounds_toArray, List.set_cons_zero, List.set_cons_succ, i64_w, i32_w]
                                          rfl
                                        refine one_ (i := 4) (N := some 71) #[true, true, true, true, true, false, false, true, true, true, false, false] rfl rfl (one_of HT_.out (by kernel_rfl)) (by decide) (fun K hK => ?_)
                                        refine Kd.R_lit_step (Kd.int .u8) _ 5 ?hg (N := 71) ?hd (xs := ([a1] : List Int)) (inner := [.int .u8 a1]) (ok := fun _ => True) (okp := fun _ => True) ?hr ?hp (fun _ hk => hk) trivial (Below.refl _ _) (Nat.le_refl _) (by simp) ?_; (case hd => rfl); (case hg => rfl); (case hr => first | (go_simp; done) | (go_simp; rfl)); (case hp => exact (Reps.one (show Kd.M (Kd.int .u8) _ _ _ a1 [.int .u8 a1] from rfl) (Reps.none _ _)))
                                        intro v110 w66 ho67 hb hg_ hnew_
                                        clear hg_ hnew_
                                        (first | rw [← Ny109.out] at ho67 | (simp only [Int.reduceToNat] at ho67; rw [← Ny109.out] at ho67))
                                        have n0_ := Aside0.mk (Kd.R_lower ho67 (below_size (by repeat (first | (with_reducible first | exact HB.out | apply below_alloc | apply pw_below_drewN | apply below_drew1) | exact HB.out))))
                                        have n1_ := Aside0.mk (below_step (by repeat (first | (with_reducible first | exact HB.out | apply below_alloc | apply pw_below_drewN | apply below_drew1) | exact HB.out)) hb)
                                        clear HB
                                        have HO111 := n0_
                                        have HB := n1_
                                        clear n0_ n1_
                                        clear hb ho67
                                        refine hK.out _ _ trivial (fun hHeld => ?_)
                                        clear hK K
                                        refine norm_ (a' := ?_) ?_ ?_
                                        rotate_left
                                        · show Act.put _ (some 71) _ = _
                                          simp only [Act.put, List.setIfInBounds_toArray, List.set_cons_zero, List.set_cons_succ, i64_w, i32_w]
                                          rfl
                                        refine one_ (i := 5) (N := some 72) #[true, true, true, true, true, true, false, true, true, true, false, false] rfl rfl (one_of HT_.out (by kernel_rfl)) (by decide) (fun K hK => ?_)
                                        have hcv68 := own_string (P := Tryd.prog) Tryd.underlying57 Tryd.underlying5 Tryd.underlying9 (Kd.own_of_R HO111.out)
                                        refine value_ (w1 := ?_) (v := ?_) (by rfl) rfl ?_ ?_
                                        rotate_left 2
                                        · go_simp
                                          constructor
                                          · rfl
                                          · rfl
                                        clear hcv68
                                        refine hK.out _ _ trivial (fun hHeld => ?_)
                                        clear hK K
                                        refine norm_ (a' := ?_) ?_ ?_
                                        rotate_left
                                        · show Act.put _ (some 72) _ = _
                                          simp only [Act.put, List.setIfInBounds_toArray, List.set_cons_zero, List.set_cons_succ, i64_w, i32_w]
                                          rfl
                                        refine pure_ (i := 6) (N := some 73) (v := ?_) (a' := ?_) #[true, true, true, true, true, true, true, true, true, true, false, false] rfl rfl (any_of HT_.out (by kernel_rfl)) (fun _ _ _ h => h) (Or.inl ⟨by rfl, ?_⟩) ?_ ?_
                                        rotate_left
                                        · intro w'
                                          go_simp
                                          with_reducible rfl
                                        rotate_left
                                        · simp only [Act.put, List.setIfInBounds_toArray, List.set_cons_zero, List.set_cons_succ, i64_w, i32_w]
                                          rfl
                                        refine pure_ (i := 10) (N := some 77) (v := ?_) (a' := ?_) #[true, true, true, true, true, true, true, true, true, true, true, false] rfl rfl (any_of HT_.out (by kernel_rfl)) (fun _ _ _ h => h) (Or.inl ⟨by rfl, ?_⟩) ?_ ?_
                                        rotate_left
                                        · intro w'
                                          go_simp
                                          with_reducible rfl
                                        rotate_left
                                        · simp only [Act.put, List.setIfInBounds_toArray, List.set_cons_zero, List.set_cons_succ, i64_w, i32_w]
                                          rfl
                                        refine pure_ (i := 11) (N := some 10) (v := ?_) (a' := ?_) #[true, true, true, true, true, true, true, true, true, true, true, true] rfl rfl (any_of HT_.out (by kernel_rfl)) (fun _ _ _ h => h) (Or.inl ⟨by rfl, ?_⟩) ?_ ?_
                                        rotate_left
                                        · intro w'
                                          go_simp
                                          with_reducible rfl
                                        rotate_left
                                        · simp only [Act.put, List.setIfInBounds_toArray, List.set_cons_zero, List.set_cons_succ, i64_w, i32_w]
                                          rfl
                                        refine done_ (done_of HT_.out (by kernel_rfl)) ?_
                                        generalize hT9 : (((x7_1.extract 0 ((ji37) : Int).toNat) ++ (strOfNums y109)) ++ (x7_1.extract ((ji37) : Int).toNat x7_1.size)) = T9 at *
                                        try go_wp2_with (first | ((with_reducible refine gate_callee (f := 43) rfl ?_); refine goesL_ (some 79) rfl rfl Tryd.func43 (by kernel_rfl) rfl #[.string x7_1] rfl (by (try simp only [List.map_toArray, List.map_cons, List.map_nil]); first | done | rfl | (simp only [List.length_drop, List.length_take]; rfl)) ?_; (with_reducible refine (url_Path.calls kj16 x7_1 t112 _ A44.out).mono ?_); rintro e w' ⟨rfl, ⟨nd, rfl⟩⟩; refine ⟨_, rfl, ?_⟩) | (go_at_call 43; (with_reducible refine (url_Path.calls kj16 T9 t113 _ A46.out).mono ?_); rintro e w' ⟨rfl, ⟨nd, rfl⟩⟩) | (go_at_call 43; (with_reducible refine (url_Path.calls kj16 ((x7_1.extract 1 x7_1.size) ++ (⟨#[120]⟩ : ByteArray)) t114 _ A51.out).mono ?_); rintro e w' ⟨rfl, ⟨nd, rfl⟩⟩; have p61 : 0 ≤ (1 : Int) := (by omega); have q61 : 1 < x7_1.size := (by have : (1 : Int) < (x7_1.size : Int) := of_decide_eq_true (by first | (with_reducible assumption) | assumption); omega); have hx61 : ∀ h : 1 < x7_1.size, ((x7_1[1]'h).toNat : Int) = bt x7_1 1 := bt_at x7_1 1; clear p61; have qi61 : (1 < (x7_1.size : Int)) = True := eq_true (of_decide_eq_true (by first | (with_reducible assumption) | assumption)); replace q61 := eq_true q61) | (go_at_call 36; (with_reducible refine (moatlaw1_awake.calls_at HU.out (by repeat (first | (with_reducible first | exact HB.out | apply below_alloc | apply pw_below_drewN | apply below_drew1) | exact HB.out)) t116 A64.out).mono ?_); rintro e w69 ⟨rfl, hb⟩; have n0_ := Aside0.mk (Kd.R_below (by (with_reducible repeat (first | apply Kd.R_alloc | apply Kd.R_drewN | apply Kd.R_drew)); exact HO111.out) hb); have n1_ := Aside0.mk (below_step (by repeat (first | (with_reducible first | exact HB.out | apply below_alloc | apply pw_below_drewN | apply below_drew1) | exact HB.out)) hb); clear HO111; clear HB; have HO111 := n0_; have HB := n1_; clear n0_ n1_; (try clear hb); (try clear hb2); (try clear hk); (try clear hi)))
                                        go_ret
                                        exact ⟨by first | rfl | (simp [errW_none, errW_some] <;> rfl) | (simp only [← hji37]; first | rfl | (simp [errW_none, errW_some] <;> rfl)) | (simp [*, errW_none, errW_some] <;> rfl) | (simp [isEmpty_bne, isEmpty_beq, errW_none, errW_some]; done) | (simp [*, isEmpty_bne, isEmpty_beq, errW_none, errW_some]; done), by repeat (first | (with_reducible first | exact HB.out | apply below_alloc | apply pw_below_drewN | apply below_drew1) | exact HB.out)⟩
                                      · rw [if_neg c63] at H
                                        have c63b0 : ((!t114) == (decide ((x7_1.size : Int) > 60))) = false := by simpa using c63
                                        (try (have c63b1 : decide ((!t114) = (decide ((x7_1.size : Int) > 60))) = false := by simpa using c63))
                                        (try (have c63b2 : ((!t114) == (decide ((x7_1.size : Int) > 60))) = false := by simpa using c63))
                                        (try (have c63b3 : ¬ ((!t114) = (decide ((x7_1.size : Int) > 60))) := by simpa using c63))
                                        clear c63
                                        cases (Option.some.inj H).trans HRT.out
                                    · rw [if_neg c62] at H
                                      have c62b0 : ((bt x7_1 1) == 47) = false := beq_eq_false_iff_ne.mpr c62
                                      have c62b1 : ((bt x7_1 1) != 47) = true := bne_iff_ne.mpr c62
                                      by_cases c70 : ((!t114) == true) = true
                                      · rw [if_pos c70] at H
                                        have c70b0 : ((!t114) == true) = true := c70
                                        (try (have c70b1 : decide ((!t114) = true) = true := by simpa using c70))
                                        (try (have c70b2 : ((!t114) == true) = true := by simpa using c70))
                                        clear c70
                                        replace H := Option.bind_eq_some_iff.mp H
                                        obtain ⟨t117, A710, H⟩ := H
                                        replace H : (some t117) = some r := H
                                        have A71 := Aside0.mk A710
                                        clear A710
                                        obtain rfl := Option.some.inj H
                                        try go_wp2_with (first | ((with_reducible refine gate_callee (f := 30) rfl ?_); refine goesL_ (some 65) rfl rfl Tryd.func30 (by kernel_rfl) rfl #[.int .i64 a2, .int .i64 (x7_1.size : Int)] rfl (by (try simp only [List.map_toArray, List.map_cons, List.map_nil]); first | done | rfl | (simp only [List.length_drop, List.length_take]; rfl)) ?_; (with_reducible refine (moatlaw0_Low.calls a2 (x7_1.size : Int) t108 _ A36.out).mono ?_); rintro e w' ⟨rfl, ⟨nd, rfl⟩⟩; refine ⟨_, rfl, ?_⟩))
                                        (try (rw [drewN_self wc]; generalize hq_ : World.drewN wc _ = wc; have n0_ : Aside0 (Below w.heap.size w wc) := ⟨by rw [← hq_]; exact (by repeat (first | (with_reducible first | exact HB.out | apply below_alloc | apply pw_below_drewN | apply below_drew1) | exact HB.out))⟩; clear HB hq_; have HB := n0_; clear n0_))
                                        have n0_ := Aside0.mk (below_drew1 HB.out)
                                        clear HB
                                        have HB := n0_
                                        clear n0_
                                        refine start_ (n := 12) (S := fun w' => True) (ds := []) #[false, false, false, false, false, false, false, false, false, false, false, false] (by kernel_rfl) rfl rfl trivial (fun hHeld => ?_); refine with_tabW moatlaw1_UrlPaths.tab10 moatlaw1_UrlPaths.bits10 (fun HT_ HW_ => ?_)
                                        generalize wc.drew = w72 at HB hHeld ⊢
                                        refine pure_ (i := 0) (N := some 67) (v := ?_) (a' := ?_) #[true, false, false, false, false, false, false, false, false, false, false, false] rfl rfl (any_of HT_.out (by kernel_rfl)) (fun _ _ _ h => h) (Or.inl ⟨by rfl, ?_⟩) ?_ ?_
                                        rotate_left
                                        · intro w'
                                          go_simp
                                          with_reducible rfl
                                        rotate_left
                                        · simp only [Act.put, List.setIfInBounds_toArray, List.set_cons_zero, List.set_cons_succ, i64_w, i32_w]
                                          rfl
                                        refine pure_ (i := 1) (N := some 68) (v := ?_) (a' := ?_) #[true, true, false, false, false, false, false, false, false, false, false, false] rfl rfl (any_of HT_.out (by kernel_rfl)) (fun _ _ _ h => h) (Or.inl ⟨by rfl, ?_⟩) ?_ ?_
                                        rotate_left
                                        · intro w'
                                          go_simp
                                          with_reducible rfl
                                        rotate_left
                                        · simp only [Act.put, List.setIfInBounds_toArray, List.set_cons_zero, List.set_cons_succ, i64_w, i32_w]
                                          rfl
                                        refine pure_ (i := 2) (N := some 69) (v := ?_) (a' := ?_) #[true, true, true, false, false, false, false, false, false, false, false, false] rfl rfl (any_of HT_.out (by kernel_rfl)) (fun _ _ _ h => h) (Or.inl ⟨by rfl, ?_⟩) ?_ ?_
                                        rotate_left
                                        · intro w'
                                          go_simp
                                          with_reducible rfl
                                        rotate_left
                                        · simp only [Act.put, List.setIfInBounds_toArray, List.set_cons_zero, List.set_cons_succ, i64_w, i32_w]
                                          rfl
                                        refine pure_ (i := 3) (N := some 70) (v := ?_) (a' := ?_) #[true, true, true, true, false, false, false, false, false, false, false, false] rfl rfl (any_of HT_.out (by kernel_rfl)) (fun _ _ _ h => h) (Or.inl ⟨by rfl, ?_⟩) ?_ ?_
                                        rotate_left
                                        · intro w'
                                          go_simp
                                          with_reducible rfl
                                        rotate_left
                                        · simp only [Act.put, List.setIfInBounds_toArray, List.set_cons_zero, List.set_cons_succ, i64_w, i32_w]
                                          rfl
                                        refine pure_ (i := 7) (N := some 74) (v := ?_) (a' := ?_) #[true, true, true, true, false, false, false, true, false, false, false, false] rfl rfl (any_of HT_.out (by kernel_rfl)) (fun _ _ _ h => h) (Or.inl ⟨by rfl, ?_⟩) ?_ ?_
                                        rotate_left
                                        · intro w'
                                          go_simp
                                          with_reducible rfl
                                        rotate_left
                                        · simp only [Act.put, List.setIfInBounds_toArray, List.set_cons_zero, List.set_cons_succ, i64_w, i32_w]
                                          rfl
                                        refine pure_ (i := 8) (N := some 75) (v := ?_) (a' := ?_) #[true, true, true, true, false, false, false, true, true, false, false, false] rfl rfl (any_of HT_.out (by kernel_rfl)) (fun _ _ _ h => h) (Or.inl ⟨by rfl, ?_⟩) ?_ ?_
                                        rotate_left
                                        · intro w'
                                          go_simp
                                          with_reducible rfl
                                        rotate_left
                                        · simp only [Act.put, List.setIfInBounds_toArray, List.set_cons_zero, List.set_cons_succ, i64_w, i32_w]
                                          rfl
                                        refine pure_ (i := 9) (N := some 76) (v := ?_) (a' := ?_) #[true, true, true, true, false, false, false, true, true, true, false, false] rfl rfl (any_of HT_.out (by kernel_rfl)) (fun _ _ _ h => h) (Or.inl ⟨by rfl, ?_⟩) ?_ ?_
                                        rotate_left
                                        · intro w'
                                          go_simp
                                          with_reducible rfl
                                        rotate_left
                                        · simp only [Act.put, List.setIfInBounds_toArray, List.set_cons_zero, List.set_cons_succ, i64_w, i32_w]
                                          rfl
                                        refine one_ (i := 4) (N := some 71) #[true, true, true, true, true, false, false, true, true, true, false, false] rfl rfl (one_of HT_.out (by kernel_rfl)) (by decide) (fun K hK => ?_)
                                        refine Kd.R_lit_step (Kd.int .u8) _ 5 ?hg (N := 71) ?hd (xs := ([a1] : List Int)) (inner := [.int .u8 a1]) (ok := fun _ => True) (okp := fun _ => True) ?hr ?hp (fun _ hk => hk) trivial (Below.refl _ _) (Nat.le_refl _) (by simp) ?_; (case hd => rfl); (case hg => rfl); (case hr => first | (go_simp; done) | (go_simp; rfl)); (case hp => exact (Reps.one (show Kd.M (Kd.int .u8) _ _ _ a1 [.int .u8 a1] from rfl) (Reps.none _ _)))
                                        intro v110 w73 ho74 hb hg_ hnew_
                                        clear hg_ hnew_
                                        (first | rw [← Ny109.out] at ho74 | (simp only [Int.reduceToNat] at ho74; rw [← Ny109.out] at ho74))
                                        have n0_ := Aside0.mk (Kd.R_lower ho74 (below_size (by repeat (first | (with_reducible first | exact HB.out | apply below_alloc | apply pw_below_drewN | apply below_drew1) | exact HB.out))))
                                        have n1_ := Aside0.mk (below_step (by repeat (first | (with_reducible first | exact HB.out | apply below_alloc | apply pw_below_drewN | apply below_drew1) | exact HB.out)) hb)
                                        clear HB
                                        have HO111 := n0_
                                        have HB := n1_
                                        clear n0_ n1_
                                        clear hb ho74
                                        refine hK.out _ _ trivial (fun hHeld => ?_)
                                        clear hK K
                                        refine norm_ (a' := ?_) ?_ ?_
                                        rotate_left
                                        · show Act.put _ (some 71) _ = _
                                          simp only [Act.put, List.setIfInBounds_toArray, List.set_cons_zero, List.set_cons_succ, i64_w, i32_w]
                                          rfl
                                        refine one_ (i := 5) (N := some 72) #[true, true, true, true, true, true, false, true, true, true, false, false] rfl rfl (one_of HT_.out (by kernel_rfl)) (by decide) (fun K hK => ?_)
                                        have hcv75 := own_string (P := Tryd.prog) Tryd.underlying57 Tryd.underlying5 Tryd.underlying9 (Kd.own_of_R HO111.out)
                                        refine value_ (w1 := ?_) (v := ?_) (by rfl) rfl ?_ ?_
                                        rotate_left 2
                                        · go_simp
                                          constructor
                                          · rfl
                                          · rfl
                                        clear hcv75
                                        refine hK.out _ _ trivial (fun hHeld => ?_)
                                        clear hK K
                                        refine norm_ (a' := ?_) ?_ ?_
                                        rotate_left
                                        · show Act.put _ (some 72) _ = _
                                          simp only [Act.put, List.setIfInBounds_toArray, List.set_cons_zero, List.set_cons_succ, i64_w, i32_w]
                                          rfl
                                        refine pure_ (i := 6) (N := some 73) (v := ?_) (a' := ?_) #[true, true, true, true, true, true, true, true, true, true, false, false] rfl rfl (any_of HT_.out (by kernel_rfl)) (fun _ _ _ h => h) (Or.inl ⟨by rfl, ?_⟩) ?_ ?_
                                        rotate_left
                                        · intro w'
                                          go_simp
                                          with_reducible rfl
                                        rotate_left
                                        · simp only [Act.put, List.setIfInBounds_toArray, List.set_cons_zero, List.set_cons_succ, i64_w, i32_w]
                                          rfl
                                        refine pure_ (i := 10) (N := some 77) (v := ?_) (a' := ?_) #[true, true, true, true, true, true, true, true, true, true, true, false] rfl rfl (any_of HT_.out (by kernel_rfl)) (fun _ _ _ h => h) (Or.inl ⟨by rfl, ?_⟩) ?_ ?_
                                        rotate_left
                                        · intro w'
                                          go_simp
                                          with_reducible rfl
                                        rotate_left
                                        · simp only [Act.put, List.setIfInBounds_toArray, List.set_cons_zero, List.set_cons_succ, i64_w, i32_w]
                                          rfl
                                        refine pure_ (i := 11) (N := some 10) (v := ?_) (a' := ?_) #[true, true, true, true, true, true, true, true, true, true, true, true] rfl rfl (any_of HT_.out (by kernel_rfl)) (fun _ _ _ h => h) (Or.inl ⟨by rfl, ?_⟩) ?_ ?_
                                        rotate_left
                                        · intro w'
                                          go_simp
                                          with_reducible rfl
                                        rotate_left
                                        · simp only [Act.put, List.setIfInBounds_toArray, List.set_cons_zero, List.set_cons_succ, i64_w, i32_w]
                                          rfl
                                        refine done_ (done_of HT_.out (by kernel_rfl)) ?_
                                        generalize hT9 : (((x7_1.extract 0 ((ji37) : Int).toNat) ++ (strOfNums y109)) ++ (x7_1.extract ((ji37) : Int).toNat x7_1.size)) = T9 at *
                                        try go_wp2_with (first | ((with_reducible refine gate_callee (f := 43) rfl ?_); refine goesL_ (some 79) rfl rfl Tryd.func43 (by kernel_rfl) rfl #[.string x7_1] rfl (by (try simp only [List.map_toArray, List.map_cons, List.map_nil]); first | done | rfl | (simp only [List.length_drop, List.length_take]; rfl)) ?_; (with_reducible refine (url_Path.calls kj16 x7_1 t112 _ A44.out).mono ?_); rintro e w' ⟨rfl, ⟨nd, rfl⟩⟩; refine ⟨_, rfl, ?_⟩) | (go_at_call 43; (with_reducible refine (url_Path.calls kj16 T9 t113 _ A46.out).mono ?_); rintro e w' ⟨rfl, ⟨nd, rfl⟩⟩) | (go_at_call 43; (with_reducible refine (url_Path.calls kj16 ((x7_1.extract 1 x7_1.size) ++ (⟨#[120]⟩ : ByteArray)) t114 _ A51.out).mono ?_); rintro e w' ⟨rfl, ⟨nd, rfl⟩⟩; have p61 : 0 ≤ (1 : Int) := (by omega); have q61 : 1 < x7_1.size := (by have : (1 : Int) < (x7_1.size : Int) := of_decide_eq_true (by first | (with_reducible assumption) | assumption); omega); have hx61 : ∀ h : 1 < x7_1.size, ((x7_1[1]'h).toNat : Int) = bt x7_1 1 := bt_at x7_1 1; clear p61; have qi61 : (1 < (x7_1.size : Int)) = True := eq_true (of_decide_eq_true (by first | (with_reducible assumption) | assumption)); replace q61 := eq_true q61) | (go_at_call 36; (with_reducible refine (moatlaw1_awake.calls_at HU.out (by repeat (first | (with_reducible first | exact HB.out | apply below_alloc | apply pw_below_drewN | apply below_drew1) | exact HB.out)) t117 A71.out).mono ?_); rintro e w76 ⟨rfl, hb⟩; have n0_ := Aside0.mk (Kd.R_below (by (with_reducible repeat (first | apply Kd.R_alloc | apply Kd.R_drewN | apply Kd.R_drew)); exact HO111.out) hb); have n1_ := Aside0.mk (below_step (by repeat (first | (with_reducible first | exact HB.out | apply below_alloc | apply pw_below_drewN | apply below_drew1) | exact HB.out)) hb); clear HO111; clear HB; have HO111 := n0_; have HB := n1_; clear n0_ n1_; (try clear hb); (try clear hb2); (try clear hk); (try clear hi)))
                                        go_ret
                                        exact ⟨by first | rfl | (simp [errW_none, errW_some] <;> rfl) | (simp only [← hji37]; first | rfl | (simp [errW_none, errW_some] <;> rfl)) | (simp [*, errW_none, errW_some] <;> rfl) | (simp [isEmpty_bne, isEmpty_beq, errW_none, errW_some]; done) | (simp [*, isEmpty_bne, isEmpty_beq, errW_none, errW_some]; done), by repeat (first | (with_reducible first | exact HB.out | apply below_alloc | apply pw_below_drewN | apply below_drew1) | exact HB.out)⟩
                                      · rw [if_neg c70] at H
                                        have c70b0 : ((!t114) == true) = false := by simpa using c70
                                        (try (have c70b1 : decide ((!t114) = true) = false := by simpa using c70))
                                        (try (have c70b2 : ((!t114) == true) = false := by simpa using c70))
                                        (try (have c70b3 : ¬ ((!t114) = true) := by simpa using c70))
                                        clear c70
                                        cases (Option.some.inj H).trans HRT.out
                                  · rw [if_neg c60] at H
                                    exact absurd H (by simp)
                              · rw [if_neg c50] at H
                                exact absurd H (by simp)
                            · rw [if_neg c49] at H
                              exact absurd H (by simp)
                          · rw [if_neg c48] at H
                            have c48b0 : (t113 == (decide (((((x7_1.extract 0 ((ji37) : Int).toNat) ++ (strOfNums y109)) ++ (x7_1.extract ((ji37) : Int).toNat x7_1.size)).size : Int) ≤ 60))) = false := by simpa using c48
                            try simp only [Int.toNat_natCast] at c48b0
                            (try (have c48b1 : decide (t113 = (decide (((((x7_1.extract 0 ((ji37) : Int).toNat) ++ (strOfNums y109)) ++ (x7_1.extract ((ji37) : Int).toNat x7_1.size)).size : Int) ≤ 60))) = false := by simpa using c48))
                            (try (have c48b2 : (t113 == (decide (((((x7_1.extract 0 ((ji37) : Int).toNat) ++ (strOfNums y109)) ++ (x7_1.extract ((ji37) : Int).toNat x7_1.size)).size : Int) ≤ 60))) = false := by simpa using c48))
                            (try (have c48b3 : ¬ (t113 = (decide (((((x7_1.extract 0 ((ji37) : Int).toNat) ++ (strOfNums y109)) ++ (x7_1.extract ((ji37) : Int).toNat x7_1.size)).size : Int) ≤ 60))) := by simpa using c48))
                            clear c48
                            cases (Option.some.inj H).trans HRT.out
                        · replace c47 := Bool.eq_false_iff.mpr c47
                          subst c47
                          have H1 : (if (t113 == false) = true then (if 1 ≤ (x7_1.size : Int) then (if (x7_1.extract 1 x7_1.size).size + 1 ≤ 9223372036854775807 then ((url_Path.f kj16 ((x7_1.extract 1 x7_1.size) ++ (⟨#[120]⟩ : ByteArray))).bind fun t118 => (if (x7_1.size : Int) = 1 then (if ((!t118) == true) = true then ((moatlaw1_awake.f).bind fun t119 => (some t119)) else (some false)) else (if 1 < (x7_1.size : Int) then (if (bt x7_1 1) = 47 then (if ((!t118) == (decide ((x7_1.size : Int) > 60))) = true then ((moatlaw1_awake.f).bind fun t120 => (some t120)) else (some false)) else (if ((!t118) == true) = true then ((moatlaw1_awake.f).bind fun t121 => (some t121)) else (some false))) else (none)))) else (none)) else (none)) else (some false)) = some r := by rw [if_neg (show ¬ (false = true) by decide)] at H; exact H
                          clear H
                          have H := H1
                          clear H1
                          by_cases c77 : (t113 == false) = true
                          · rw [if_pos c77] at H
                            have c77b0 : (t113 == false) = true := c77
                            (try (have c77b1 : decide (t113 = false) = true := by simpa using c77))
                            (try (have c77b2 : (t113 == false) = true := by simpa using c77))
                            clear c77
                            by_cases c78 : 1 ≤ (x7_1.size : Int)
                            · rw [if_pos c78] at H
                              have c78b0 := eq_true c78
                              have c78b1 : decide (1 ≤ (x7_1.size : Int)) = true := decide_eq_true c78
                              clear c78
                              by_cases c79 : (x7_1.extract 1 x7_1.size).size + 1 ≤ 9223372036854775807
                              · rw [if_pos c79] at H
                                have c79b0 := eq_true c79
                                have c79b1 : decide ((x7_1.extract 1 x7_1.size).size + 1 ≤ 9223372036854775807) = true := decide_eq_true c79
                                try have c79b2 : (9223372036854775807 < (x7_1.extract 1 x7_1.size).size + 1) = False := eq_false (Nat.not_lt.2 c79)
                                have c79b9 : (9223372036854775807 < x7_1.size - 1 + 1) = False := eq_false (Nat.not_lt.2 (by have hc := c79; rw [ByteArray.size_extract] at hc; omega))
                                replace H := Option.bind_eq_some_iff.mp H
                                obtain ⟨t118, A800, H⟩ := H
                                replace H : (if (x7_1.size : Int) = 1 then (if ((!t118) == true) = true then ((moatlaw1_awake.f).bind fun t119 => (some t119)) else (some false)) else (if 1 < (x7_1.size : Int) then (if (bt x7_1 1) = 47 then (if ((!t118) == (decide ((x7_1.size : Int) > 60))) = true then ((moatlaw1_awake.f).bind fun t120 => (some t120)) else (some false)) else (if ((!t118) == true) = true then ((moatlaw1_awake.f).bind fun t121 => (some t121)) else (some false))) else (none))) = some r := H
                                have A80 := Aside0.mk A800
                                clear A800
                                by_cases c81 : (x7_1.size : Int) = 1
                                · rw [if_pos c81] at H
                                  have c81b0 : ((x7_1.size : Int) == 1) = true := beq_iff_eq.mpr c81
                                  have c81b1 : ((x7_1.size : Int) != 1) = false := bne_eq_false_iff_eq.mpr c81
                                  clear c81
                                  by_cases c82 : ((!t118) == true) = true
                                  · rw [if_pos c82] at H
                                    have c82b0 : ((!t118) == true) = true := c82
                                    (try (have c82b1 : decide ((!t118) = true) = true := by simpa using c82))
                                    (try (have c82b2 : ((!t118) == true) = true := by simpa using c82))
                                    clear c82
                                    replace H := Option.bind_eq_some_iff.mp H
                                    obtain ⟨t119, A830, H⟩ := H
                                    replace H : (some t119) = some r := H
                                    have A83 := Aside0.mk A830
                                    clear A830
                                    obtain rfl := Option.some.inj H
                                    try go_wp2_with (first | ((with_reducible refine gate_callee (f := 30) rfl ?_); refine goesL_ (some 65) rfl rfl Tryd.func30 (by kernel_rfl) rfl #[.int .i64 a2, .int .i64 (x7_1.size : Int)] rfl (by (try simp only [List.map_toArray, List.map_cons, List.map_nil]); first | done | rfl | (simp only [List.length_drop, List.length_take]; rfl)) ?_; (with_reducible refine (moatlaw0_Low.calls a2 (x7_1.size : Int) t108 _ A36.out).mono ?_); rintro e w' ⟨rfl, ⟨nd, rfl⟩⟩; refine ⟨_, rfl, ?_⟩))
                                    (try (rw [drewN_self wc]; generalize hq_ : World.drewN wc _ = wc; have n0_ : Aside0 (Below w.heap.size w wc) := ⟨by rw [← hq_]; exact (by repeat (first | (with_reducible first | exact HB.out | apply below_alloc | apply pw_below_drewN | apply below_drew1) | exact HB.out))⟩; clear HB hq_; have HB := n0_; clear n0_))
                                    have n0_ := Aside0.mk (below_drew1 HB.out)
                                    clear HB
                                    have HB := n0_
                                    clear n0_
                                    refine start_ (n := 12) (S := fun w' => True) (ds := []) #[false, false, false, false, false, false, false, false, false, false, false, false] (by kernel_rfl) rfl rfl trivial (fun hHeld => ?_); refine with_tabW moatlaw1_UrlPaths.tab10 moatlaw1_UrlPaths.bits10 (fun HT_ HW_ => ?_)
                                    generalize wc.drew = w84 at HB hHeld ⊢
                                    refine pure_ (i := 0) (N := some 67) (v := ?_) (a' := ?_) #[true, false, false, false, false, false, false, false, false, false, false, false] rfl rfl (any_of HT_.out (by kernel_rfl)) (fun _ _ _ h => h) (Or.inl ⟨by rfl, ?_⟩) ?_ ?_
                                    rotate_left
                                    · intro w'
                                      go_simp
                                      with_reducible rfl
                                    rotate_left
                                    · simp only [Act.put, List.setIfInBounds_toArray, List.set_cons_zero, List.set_cons_succ, i64_w, i32_w]
                                      rfl
                                    refine pure_ (i := 1) (N := some 68) (v := ?_) (a' := ?_) #[true, true, false, false, false, false, false, false, false, false, false, false] rfl rfl (any_of HT_.out (by kernel_rfl)) (fun _ _ _ h => h) (Or.inl ⟨by rfl, ?_⟩) ?_ ?_
                                    rotate_left
                                    · intro w'
                                      go_simp
                                      with_reducible rfl
                                    rotate_left
                                    · simp only [Act.put, List.setIfInBounds_toArray, List.set_cons_zero, List.set_cons_succ, i64_w, i32_w]
                                      rfl
                                    refine pure_ (i := 2) (N := some 69) (v := ?_) (a' := ?_) #[true, true, true, false, false, false, false, false, false, false, false, false] rfl rfl (any_of HT_.out (by kernel_rfl)) (fun _ _ _ h => h) (Or.inl ⟨by rfl, ?_⟩) ?_ ?_
                                    rotate_left
                                    · intro w'
                                      go_simp
                                      with_reducible rfl
                                    rotate_left
                                    · simp only [Act.put, List.setIfInBounds_toArray, List.set_cons_zero, List.set_cons_succ, i64_w, i32_w]
                                      rfl
                                    refine pure_ (i := 3) (N := some 70) (v := ?_) (a' := ?_) #[true, true, true, true, false, false, false, false, false, false, false, false] rfl rfl (any_of HT_.out (by kernel_rfl)) (fun _ _ _ h => h) (Or.inl ⟨by rfl, ?_⟩) ?_ ?_
                                    rotate_left
                                    · intro w'
                                      go_simp
                                      with_reducible rfl
                                    rotate_left
                                    · simp only [Act.put, List.setIfInBounds_toArray, List.set_cons_zero, List.set_cons_succ, i64_w, i32_w]
                                      rfl
                                    refine pure_ (i := 7) (N := some 74) (v := ?_) (a' := ?_) #[true, true, true, true, false, false, false, true, false, false, false, false] rfl rfl (any_of HT_.out (by kernel_rfl)) (fun _ _ _ h => h) (Or.inl ⟨by rfl, ?_⟩) ?_ ?_
                                    rotate_left
                                    · intro w'
                                      go_simp
                                      with_reducible rfl
                                    rotate_left
                                    · simp only [Act.put, List.setIfInBounds_toArray, List.set_cons_zero, List.set_cons_succ, i64_w, i32_w]
                                      rfl
                                    refine pure_ (i := 8) (N := some 75) (v := ?_) (a' := ?_) #[true, true, true, true, false, false, false, true, true, false, false, false] rfl rfl (any_of HT_.out (by kernel_rfl)) (fun _ _ _ h => h) (Or.inl ⟨by rfl, ?_⟩) ?_ ?_
                                    rotate_left
                                    · intro w'
                                      go_simp
                                      with_reducible rfl
                                    rotate_left
                                    · simp only [Act.put, List.setIfInBounds_toArray, List.set_cons_zero, List.set_cons_succ, i64_w, i32_w]
                                      rfl
                                    refine pure_ (i := 9) (N := some 76) (v := ?_) (a' := ?_) #[true, true, true, true, false, false, false, true, true, true, false, false] rfl rfl (any_of HT_.out (by kernel_rfl)) (fun _ _ _ h => h) (Or.inl ⟨by rfl, ?_⟩) ?_ ?_
                                    rotate_left
                                    · intro w'
                                      go_simp
                                      with_reducible rfl
                                    rotate_left
                                    · simp only [Act.put, List.setIfInBounds_toArray, List.set_cons_zero, List.set_cons_succ, i64_w, i32_w]
                                      rfl
                                    refine one_ (i := 4) (N := some 71) #[true, true, true, true, true, false, false, true, true, true, false, false] rfl rfl (one_of HT_.out (by kernel_rfl)) (by decide) (fun K hK => ?_)
                                    refine Kd.R_lit_step (Kd.int .u8) _ 5 ?hg (N := 71) ?hd (xs := ([a1] : List Int)) (inner := [.int .u8 a1]) (ok := fun _ => True) (okp := fun _ => True) ?hr ?hp (fun _ hk => hk) trivial (Below.refl _ _) (Nat.le_refl _) (by simp) ?_; (case hd => rfl); (case hg => rfl); (case hr => first | (go_simp; done) | (go_simp; rfl)); (case hp => exact (Reps.one (show Kd.M (Kd.int .u8) _ _ _ a1 [.int .u8 a1] from rfl) (Reps.none _ _)))
                                    intro v110 w85 ho86 hb hg_ hnew_
                                    clear hg_ hnew_
                                    (first | rw [← Ny109.out] at ho86 | (simp only [Int.reduceToNat] at ho86; rw [← Ny109.out] at ho86))
                                    have n0_ := Aside0.mk (Kd.R_lower ho86 (below_size (by repeat (first | (with_reducible first | exact HB.out | apply below_alloc | apply pw_below_drewN | apply below_drew1) | exact HB.out))))
                                    have n1_ := Aside0.mk (below_step (by repeat (first | (with_reducible first | exact HB.out | apply below_alloc | apply pw_below_drewN | apply below_drew1) | exact HB.out)) hb)
                                    clear HB
                                    have HO111 := n0_
                                    have HB := n1_
                                    clear n0_ n1_
                                    clear hb ho86
                                    refine hK.out _ _ trivial (fun hHeld => ?_)
                                    clear hK K
                                    refine norm_ (a' := ?_) ?_ ?_
                                    rotate_left
                                    · show Act.put _ (some 71) _ = _
                                      simp only [Act.put, List.setIfInBounds_toArray, List.set_cons_zero, List.set_cons_succ, i64_w, i32_w]
                                      rfl
                                    refine one_ (i := 5) (N := some 72) #[true, true, true, true, true, true, false, true, true, true, false, false] rfl rfl (one_of HT_.out (by kernel_rfl)) (by decide) (fun K hK => ?_)
                                    have hcv87 := own_string (P := Tryd.prog) Tryd.underlying57 Tryd.underlying5 Tryd.underlying9 (Kd.own_of_R HO111.out)
                                    refine value_ (w1 := ?_) (v := ?_) (by rfl) rfl ?_ ?_
                                    rotate_left 2
                                    · go_simp
                                      constructor
                                      · rfl
                                      · rfl
                                    clear hcv87
                                    refine hK.out _ _ trivial (fun hHeld => ?_)
                                    clear hK K
                                    refine norm_ (a' := ?_) ?_ ?_
                                    rotate_left
                                    · show Act.put _ (some 72) _ = _
                                      simp only [Act.put, List.setIfInBounds_toArray, List.set_cons_zero, List.set_cons_succ, i64_w, i32_w]
                                      rfl
                                    refine pure_ (i := 6) (N := some 73) (v := ?_) (a' := ?_) #[true, true, true, true, true, true, true, true, true, true, false, false] rfl rfl (any_of HT_.out (by kernel_rfl)) (fun _ _ _ h => h) (Or.inl ⟨by rfl, ?_⟩) ?_ ?_
                                    rotate_left
                                    · intro w'
                                      go_simp
                                      with_reducible rfl
                                    rotate_left
                                    · simp only [Act.put, List.setIfInBounds_toArray, List.set_cons_zero, List.set_cons_succ, i64_w, i32_w]
                                      rfl
                                    refine pure_ (i := 10) (N := some 77) (v := ?_) (a' := ?_) #[true, true, true, true, true, true, true, true, true, true, true, false] rfl rfl (any_of HT_.out (by kernel_rfl)) (fun _ _ _ h => h) (Or.inl ⟨by rfl, ?_⟩) ?_ ?_
                                    rotate_left
                                    · intro w'
                                      go_simp
                                      with_reducible rfl
                                    rotate_left
                                    · simp only [Act.put, List.setIfInBounds_toArray, List.set_cons_zero, List.set_cons_succ, i64_w, i32_w]
                                      rfl
                                    refine pure_ (i := 11) (N := some 10) (v := ?_) (a' := ?_) #[true, true, true, true, true, true, true, true, true, true, true, true] rfl rfl (any_of HT_.out (by kernel_rfl)) (fun _ _ _ h => h) (Or.inl ⟨by rfl, ?_⟩) ?_ ?_
                                    rotate_left
                                    · intro w'
                                      go_simp
                                      with_reducible rfl
                                    rotate_left
                                    · simp only [Act.put, List.setIfInBounds_toArray, List.set_cons_zero, List.set_cons_succ, i64_w, i32_w]
                                      rfl
                                    refine done_ (done_of HT_.out (by kernel_rfl)) ?_
                                    generalize hT9 : (((x7_1.extract 0 ((ji37) : Int).toNat) ++ (strOfNums y109)) ++ (x7_1.extract ((ji37) : Int).toNat x7_1.size)) = T9 at *
                                    try go_wp2_with (first | ((with_reducible refine gate_callee (f := 43) rfl ?_); refine goesL_ (some 79) rfl rfl Tryd.func43 (by kernel_rfl) rfl #[.string x7_1] rfl (by (try simp only [List.map_toArray, List.map_cons, List.map_nil]); first | done | rfl | (simp only [List.length_drop, List.length_take]; rfl)) ?_; (with_reducible refine (url_Path.calls kj16 x7_1 t112 _ A44.out).mono ?_); rintro e w' ⟨rfl, ⟨nd, rfl⟩⟩; refine ⟨_, rfl, ?_⟩) | (go_at_call 43; (with_reducible refine (url_Path.calls kj16 T9 t113 _ A46.out).mono ?_); rintro e w' ⟨rfl, ⟨nd, rfl⟩⟩) | (go_at_call 43; (with_reducible refine (url_Path.calls kj16 ((x7_1.extract 1 x7_1.size) ++ (⟨#[120]⟩ : ByteArray)) t118 _ A80.out).mono ?_); rintro e w' ⟨rfl, ⟨nd, rfl⟩⟩) | (go_at_call 36; (with_reducible refine (moatlaw1_awake.calls_at HU.out (by repeat (first | (with_reducible first | exact HB.out | apply below_alloc | apply pw_below_drewN | apply below_drew1) | exact HB.out)) t119 A83.out).mono ?_); rintro e w88 ⟨rfl, hb⟩; have n0_ := Aside0.mk (Kd.R_below (by (with_reducible repeat (first | apply Kd.R_alloc | apply Kd.R_drewN | apply Kd.R_drew)); exact HO111.out) hb); have n1_ := Aside0.mk (below_step (by repeat (first | (with_reducible first | exact HB.out | apply below_alloc | apply pw_below_drewN | apply below_drew1) | exact HB.out)) hb); clear HO111; clear HB; have HO111 := n0_; have HB := n1_; clear n0_ n1_; (try clear hb); (try clear hb2); (try clear hk); (try clear hi)))
                                    go_ret
                                    exact ⟨by first | rfl | (simp [errW_none, errW_some] <;> rfl) | (simp only [← hji37]; first | rfl | (simp [errW_none, errW_some] <;> rfl)) | (simp [*, errW_none, errW_some] <;> rfl) | (simp [isEmpty_bne, isEmpty_beq, errW_none, errW_some]; done) | (simp [*, isEmpty_bne, isEmpty_beq, errW_none, errW_some]; done), by repeat (first | (with_reducible first | exact HB.out | apply below_alloc | apply pw_below_drewN | apply below_drew1) | exact HB.out)⟩
                                  · rw [if_neg c82] at H
                                    have c82b0 : ((!t118) == true) = false := by simpa using c82
                                    (try (have c82b1 : decide ((!t118) = true) = false := by simpa using c82))
                                    (try (have c82b2 : ((!t118) == true) = false := by simpa using c82))
                                    (try (have c82b3 : ¬ ((!t118) = true) := by simpa using c82))
                                    clear c82
                                    cases (Option.some.inj H).trans HRT.out
                                · rw [if_neg c81] at H
                                  have c81b0 : ((x7_1.size : Int) == 1) = false := beq_eq_false_iff_ne.mpr c81
                                  have c81b1 : ((x7_1.size : Int) != 1) = true := bne_iff_ne.mpr c81
                                  by_cases c89 : 1 < (x7_1.size : Int)
                                  · rw [if_pos c89] at H
                                    have c89b0 : decide (1 < (x7_1.size : Int)) = true := decide_eq_true c89
                                    have c89b1 : decide (1 < x7_1.size) = true := decide_eq_true (by omega)
                                    clear c89
                                    by_cases c91 : (bt x7_1 1) = 47
                                    · rw [if_pos c91] at H
                                      have c91b0 : ((bt x7_1 1) == 47) = true := beq_iff_eq.mpr c91
                                      have c91b1 : ((bt x7_1 1) != 47) = false := bne_eq_false_iff_eq.mpr c91
                                      clear c91
                                      by_cases c92 : ((!t118) == (decide ((x7_1.size : Int) > 60))) = true
                                      · rw [if_pos c92] at H
                                        have c92b0 : ((!t118) == (decide ((x7_1.size : Int) > 60))) = true := c92
                                        (try (have c92b1 : decide ((!t118) = (decide ((x7_1.size : Int) > 60))) = true := by simpa using c92))
                                        (try (have c92b2 : ((!t118) == (decide ((x7_1.size : Int) > 60))) = true := by simpa using c92))
                                        clear c92
                                        replace H := Option.bind_eq_some_iff.mp H
                                        obtain ⟨t120, A930, H⟩ := H
                                        replace H : (some t120) = some r := H
                                        have A93 := Aside0.mk A930
                                        clear A930
                                        obtain rfl := Option.some.inj H
                                        try go_wp2_with (first | ((with_reducible refine gate_callee (f := 30) rfl ?_); refine goesL_ (some 65) rfl rfl Tryd.func30 (by kernel_rfl) rfl #[.int .i64 a2, .int .i64 (x7_1.size : Int)] rfl (by (try simp only [List.map_toArray, List.map_cons, List.map_nil]); first | done | rfl | (simp only [List.length_drop, List.length_take]; rfl)) ?_; (with_reducible refine (moatlaw0_Low.calls a2 (x7_1.size : Int) t108 _ A36.out).mono ?_); rintro e w' ⟨rfl, ⟨nd, rfl⟩⟩; refine ⟨_, rfl, ?_⟩))
                                        (try (rw [drewN_self wc]; generalize hq_ : World.drewN wc _ = wc; have n0_ : Aside0 (Below w.heap.size w wc) := ⟨by rw [← hq_]; exact (by repeat (first | (with_reducible first | exact HB.out | apply below_alloc | apply pw_below_drewN | apply below_drew1) | exact HB.out))⟩; clear HB hq_; have HB := n0_; clear n0_))
                                        have n0_ := Aside0.mk (below_drew1 HB.out)
                                        clear HB
                                        have HB := n0_
                                        clear n0_
                                        refine start_ (n := 12) (S := fun w' => True) (ds := []) #[false, false, false, false, false, false, false, false, false, false, false, false] (by kernel_rfl) rfl rfl trivial (fun hHeld => ?_); refine with_tabW moatlaw1_UrlPaths.tab10 moatlaw1_UrlPaths.bits10 (fun HT_ HW_ => ?_)
                                        generalize wc.drew = w94 at HB hHeld ⊢
                                        refine pure_ (i := 0) (N := some 67) (v := ?_) (a' := ?_) #[true, false, false, false, false, false, false, false, false, false, false, false] rfl rfl (any_of HT_.out (by kernel_rfl)) (fun _ _ _ h => h) (Or.inl ⟨by rfl, ?_⟩) ?_ ?_
                                        rotate_left
                                        · intro w'
                                          go_simp
                                          with_reducible rfl
                                        rotate_left
                                        · simp only [Act.put, List.setIfInBounds_toArray, List.set_cons_zero, List.set_cons_succ, i64_w, i32_w]
                                          rfl
                                        refine pure_ (i := 1) (N := some 68) (v := ?_) (a' := ?_) #[true, true, false, false, false, false, false, false, false, false, false, false] rfl rfl (any_of HT_.out (by kernel_rfl)) (fun _ _ _ h => h) (Or.inl ⟨by rfl, ?_⟩) ?_ ?_
                                        rotate_left
                                        · intro w'
                                          go_simp
                                          with_reducible rfl
                                        rotate_left
                                        · simp only [Act.put, List.setIfInBounds_toArray, List.set_cons_zero, List.set_cons_succ, i64_w, i32_w]
                                          rfl
                                        refine pure_ (i := 2) (N := some 69) (v := ?_) (a' := ?_) #[true, true, true, false, false, false, false, false, false, false, false, false] rfl rfl (any_of HT_.out (by kernel_rfl)) (fun _ _ _ h => h) (Or.inl ⟨by rfl, ?_⟩) ?_ ?_
                                        rotate_left
                                        · intro w'
                                          go_simp
                                          with_reducible rfl
                                        rotate_left
                                        · simp only [Act.put, List.setIfInBounds_toArray, List.set_cons_zero, List.set_cons_succ, i64_w, i32_w]
                                          rfl
                                        refine pure_ (i := 3) (N := some 70) (v := ?_) (a' := ?_) #[true, true, true, true, false, false, false, false, false, false, false, false] rfl rfl (any_of HT_.out (by kernel_rfl)) (fun _ _ _ h => h) (Or.inl ⟨by rfl, ?_⟩) ?_ ?_
                                        rotate_left
                                        · intro w'
                                          go_simp
                                          with_reducible rfl
                                        rotate_left
                                        · simp only [Act.put, List.setIfInBounds_toArray, List.set_cons_zero, List.set_cons_succ, i64_w, i32_w]
                                          rfl
                                        refine pure_ (i := 7) (N := some 74) (v := ?_) (a' := ?_) #[true, true, true, true, false, false, false, true, false, false, false, false] rfl rfl (any_of HT_.out (by kernel_rfl)) (fun _ _ _ h => h) (Or.inl ⟨by rfl, ?_⟩) ?_ ?_
                                        rotate_left
                                        · intro w'
                                          go_simp
                                          with_reducible rfl
                                        rotate_left
                                        · simp only [Act.put, List.setIfInBounds_toArray, List.set_cons_zero, List.set_cons_succ, i64_w, i32_w]
                                          rfl
                                        refine pure_ (i := 8) (N := some 75) (v := ?_) (a' := ?_) #[true, true, true, true, false, false, false, true, true, false, false, false] rfl rfl (any_of HT_.out (by kernel_rfl)) (fun _ _ _ h => h) (Or.inl ⟨by rfl, ?_⟩) ?_ ?_
                                        rotate_left
                                        · intro w'
                                          go_simp
                                          with_reducible rfl
                                        rotate_left
                                        · simp only [Act.put, List.setIfInBounds_toArray, List.set_cons_zero, List.set_cons_succ, i64_w, i32_w]
                                          rfl
                                        refine pure_ (i := 9) (N := some 76) (v := ?_) (a' := ?_) #[true, true, true, true, false, false, false, true, true, true, false, false] rfl rfl (any_of HT_.out (by kernel_rfl)) (fun _ _ _ h => h) (Or.inl ⟨by rfl, ?_⟩) ?_ ?_
                                        rotate_left
                                        · intro w'
                                          go_simp
                                          with_reducible rfl
                                        rotate_left
                                        · simp only [Act.put, List.setIfInBounds_toArray, List.set_cons_zero, List.set_cons_succ, i64_w, i32_w]
                                          rfl
                                        refine one_ (i := 4) (N := some 71) #[true, true, true, true, true, false, false, true, true, true, false, false] rfl rfl (one_of HT_.out (by kernel_rfl)) (by decide) (fun K hK => ?_)
                                        refine Kd.R_lit_step (Kd.int .u8) _ 5 ?hg (N := 71) ?hd (xs := ([a1] : List Int)) (inner := [.int .u8 a1]) (ok := fun _ => True) (okp := fun _ => True) ?hr ?hp (fun _ hk => hk) trivial (Below.refl _ _) (Nat.le_refl _) (by simp) ?_; (case hd => rfl); (case hg => rfl); (case hr => first | (go_simp; done) | (go_simp; rfl)); (case hp => exact (Reps.one (show Kd.M (Kd.int .u8) _ _ _ a1 [.int .u8 a1] from rfl) (Reps.none _ _)))
                                        intro v110 w95 ho96 hb hg_ hnew_
                                        clear hg_ hnew_
                                        (first | rw [← Ny109.out] at ho96 | (simp only [Int.reduceToNat] at ho96; rw [← Ny109.out] at ho96))
                                        have n0_ := Aside0.mk (Kd.R_lower ho96 (below_size (by repeat (first | (with_reducible first | exact HB.out | apply below_alloc | apply pw_below_drewN | apply below_drew1) | exact HB.out))))
                                        have n1_ := Aside0.mk (below_step (by repeat (first | (with_reducible first | exact HB.out | apply below_alloc | apply pw_below_drewN | apply below_drew1) | exact HB.out)) hb)
                                        clear HB
                                        have HO111 := n0_
                                        have HB := n1_
                                        clear n0_ n1_
                                        clear hb ho96
                                        refine hK.out _ _ trivial (fun hHeld => ?_)
                                        clear hK K
                                        refine norm_ (a' := ?_) ?_ ?_
                                        rotate_left
                                        · show Act.put _ (some 71) _ = _
                                          simp only [Act.put, List.setIfInBounds_toArray, List.set_cons_zero, List.set_cons_succ, i64_w, i32_w]
                                          rfl
                                        refine one_ (i := 5) (N := some 72) #[true, true, true, true, true, true, false, true, true, true, false, false] rfl rfl (one_of HT_.out (by kernel_rfl)) (by decide) (fun K hK => ?_)
                                        have hcv97 := own_string (P := Tryd.prog) Tryd.underlying57 Tryd.underlying5 Tryd.underlying9 (Kd.own_of_R HO111.out)
                                        refine value_ (w1 := ?_) (v := ?_) (by rfl) rfl ?_ ?_
                                        rotate_left 2
                                        · go_simp
                                          constructor
                                          · rfl
                                          · rfl
                                        clear hcv97
                                        refine hK.out _ _ trivial (fun hHeld => ?_)
                                        clear hK K
                                        refine norm_ (a' := ?_) ?_ ?_
                                        rotate_left
                                        · show Act.put _ (some 72) _ = _
                                          simp only [Act.put, List.setIfInBounds_toArray, List.set_cons_zero, List.set_cons_succ, i64_w, i32_w]
                                          rfl
                                        refine pure_ (i := 6) (N := some 73) (v := ?_) (a' := ?_) #[true, true, true, true, true, true, true, true, true, true, false, false] rfl rfl (any_of HT_.out (by kernel_rfl)) (fun _ _ _ h => h) (Or.inl ⟨by rfl, ?_⟩) ?_ ?_
                                        rotate_left
                                        · intro w'
                                          go_simp
                                          with_reducible rfl
                                        rotate_left
                                        · simp only [Act.put, List.setIfInBounds_toArray, List.set_cons_zero, List.set_cons_succ, i64_w, i32_w]
                                          rfl
                                        refine pure_ (i := 10) (N := some 77) (v := ?_) (a' := ?_) #[true, true, true, true, true, true, true, true, true, true, true, false] rfl rfl (any_of HT_.out (by kernel_rfl)) (fun _ _ _ h => h) (Or.inl ⟨by rfl, ?_⟩) ?_ ?_
                                        rotate_left
                                        · intro w'
                                          go_simp
                                          with_reducible rfl
                                        rotate_left
                                        · simp only [Act.put, List.setIfInBounds_toArray, List.set_cons_zero, List.set_cons_succ, i64_w, i32_w]
                                          rfl
                                        refine pure_ (i := 11) (N := some 10) (v := ?_) (a' := ?_) #[true, true, true, true, true, true, true, true, true, true, true, true] rfl rfl (any_of HT_.out (by kernel_rfl)) (fun _ _ _ h => h) (Or.inl ⟨by rfl, ?_⟩) ?_ ?_
                                        rotate_left
                                        · intro w'
                                          go_simp
                                          with_reducible rfl
                                        rotate_left
                                        · simp only [Act.put, List.setIfInBounds_toArray, List.set_cons_zero, List.set_cons_succ, i64_w, i32_w]
                                          rfl
                                        refine done_ (done_of HT_.out (by kernel_rfl)) ?_
                                        generalize hT9 : (((x7_1.extract 0 ((ji37) : Int).toNat) ++ (strOfNums y109)) ++ (x7_1.extract ((ji37) : Int).toNat x7_1.size)) = T9 at *
                                        try go_wp2_with (first | ((with_reducible refine gate_callee (f := 43) rfl ?_); refine goesL_ (some 79) rfl rfl Tryd.func43 (by kernel_rfl) rfl #[.string x7_1] rfl (by (try simp only [List.map_toArray, List.map_cons, List.map_nil]); first | done | rfl | (simp only [List.length_drop, List.length_take]; rfl)) ?_; (with_reducible refine (url_Path.calls kj16 x7_1 t112 _ A44.out).mono ?_); rintro e w' ⟨rfl, ⟨nd, rfl⟩⟩; refine ⟨_, rfl, ?_⟩) | (go_at_call 43; (with_reducible refine (url_Path.calls kj16 T9 t113 _ A46.out).mono ?_); rintro e w' ⟨rfl, ⟨nd, rfl⟩⟩) | (go_at_call 43; (with_reducible refine (url_Path.calls kj16 ((x7_1.extract 1 x7_1.size) ++ (⟨#[120]⟩ : ByteArray)) t118 _ A80.out).mono ?_); rintro e w' ⟨rfl, ⟨nd, rfl⟩⟩; have p90 : 0 ≤ (1 : Int) := (by omega); have q90 : 1 < x7_1.size := (by have : (1 : Int) < (x7_1.size : Int) := of_decide_eq_true (by first | (with_reducible assumption) | assumption); omega); have hx90 : ∀ h : 1 < x7_1.size, ((x7_1[1]'h).toNat : Int) = bt x7_1 1 := bt_at x7_1 1; clear p90; have qi90 : (1 < (x7_1.size : Int)) = True := eq_true (of_decide_eq_true (by first | (with_reducible assumption) | assumption)); replace q90 := eq_true q90) | (go_at_call 36; (with_reducible refine (moatlaw1_awake.calls_at HU.out (by repeat (first | (with_reducible first | exact HB.out | apply below_alloc | apply pw_below_drewN | apply below_drew1) | exact HB.out)) t120 A93.out).mono ?_); rintro e w98 ⟨rfl, hb⟩; have n0_ := Aside0.mk (Kd.R_below (by (with_reducible repeat (first | apply Kd.R_alloc | apply Kd.R_drewN | apply Kd.R_drew)); exact HO111.out) hb); have n1_ := Aside0.mk (below_step (by repeat (first | (with_reducible first | exact HB.out | apply below_alloc | apply pw_below_drewN | apply below_drew1) | exact HB.out)) hb); clear HO111; clear HB; have HO111 := n0_; have HB := n1_; clear n0_ n1_; (try clear hb); (try clear hb2); (try clear hk); (try clear hi)))
                                        go_ret
                                        exact ⟨by first | rfl | (simp [errW_none, errW_some] <;> rfl) | (simp only [← hji37]; first | rfl | (simp [errW_none, errW_some] <;> rfl)) | (simp [*, errW_none, errW_some] <;> rfl) | (simp [isEmpty_bne, isEmpty_beq, errW_none, errW_some]; done) | (simp [*, isEmpty_bne, isEmpty_beq, errW_none, errW_some]; done), by repeat (first | (with_reducible first | exact HB.out | apply below_alloc | apply pw_below_drewN | apply below_drew1) | exact HB.out)⟩
                                      · rw [if_neg c92] at H
                                        have c92b0 : ((!t118) == (decide ((x7_1.size : Int) > 60))) = false := by simpa using c92
                                        (try (have c92b1 : decide ((!t118) = (decide ((x7_1.size : Int) > 60))) = false := by simpa using c92))
                                        (try (have c92b2 : ((!t118) == (decide ((x7_1.size : Int) > 60))) = false := by simpa using c92))
                                        (try (have c92b3 : ¬ ((!t118) = (decide ((x7_1.size : Int) > 60))) := by simpa using c92))
                                        clear c92
                                        cases (Option.some.inj H).trans HRT.out
                                    · rw [if_neg c91] at H
                                      have c91b0 : ((bt x7_1 1) == 47) = false := beq_eq_false_iff_ne.mpr c91
                                      have c91b1 : ((bt x7_1 1) != 47) = true := bne_iff_ne.mpr c91
                                      by_cases c99 : ((!t118) == true) = true
                                      · rw [if_pos c99] at H
                                        have c99b0 : ((!t118) == true) = true := c99
                                        (try (have c99b1 : decide ((!t118) = true) = true := by simpa using c99))
                                        (try (have c99b2 : ((!t118) == true) = true := by simpa using c99))
                                        clear c99
                                        replace H := Option.bind_eq_some_iff.mp H
                                        obtain ⟨t121, A1000, H⟩ := H
                                        replace H : (some t121) = some r := H
                                        have A100 := Aside0.mk A1000
                                        clear A1000
                                        obtain rfl := Option.some.inj H
                                        try go_wp2_with (first | ((with_reducible refine gate_callee (f := 30) rfl ?_); refine goesL_ (some 65) rfl rfl Tryd.func30 (by kernel_rfl) rfl #[.int .i64 a2, .int .i64 (x7_1.size : Int)] rfl (by (try simp only [List.map_toArray, List.map_cons, List.map_nil]); first | done | rfl | (simp only [List.length_drop, List.length_take]; rfl)) ?_; (with_reducible refine (moatlaw0_Low.calls a2 (x7_1.size : Int) t108 _ A36.out).mono ?_); rintro e w' ⟨rfl, ⟨nd, rfl⟩⟩; refine ⟨_, rfl, ?_⟩))
                                        (try (rw [drewN_self wc]; generalize hq_ : World.drewN wc _ = wc; have n0_ : Aside0 (Below w.heap.size w wc) := ⟨by rw [← hq_]; exact (by repeat (first | (with_reducible first | exact HB.out | apply below_alloc | apply pw_below_drewN | apply below_drew1) | exact HB.out))⟩; clear HB hq_; have HB := n0_; clear n0_))
                                        have n0_ := Aside0.mk (below_drew1 HB.out)
                                        clear HB
                                        have HB := n0_
                                        clear n0_
                                        refine start_ (n := 12) (S := fun w' => True) (ds := []) #[false, false, false, false, false, false, false, false, false, false, false, false] (by kernel_rfl) rfl rfl trivial (fun hHeld => ?_); refine with_tabW moatlaw1_UrlPaths.tab10 moatlaw1_UrlPaths.bits10 (fun HT_ HW_ => ?_)
                                        generalize wc.drew = w101 at HB hHeld ⊢
                                        refine pure_ (i := 0) (N := some 67) (v := ?_) (a' := ?_) #[true, false, false, false, false, false, false, false, false, false, false, false] rfl rfl (any_of HT_.out (by kernel_rfl)) (fun _ _ _ h => h) (Or.inl ⟨by rfl, ?_⟩) ?_ ?_
                                        rotate_left
                                        · intro w'
                                          go_simp
                                          with_reducible rfl
                                        rotate_left
                                        · simp only [Act.put, List.setIfInBounds_toArray, List.set_cons_zero, List.set_cons_succ, i64_w, i32_w]
                                          rfl
                                        refine pure_ (i := 1) (N := some 68) (v := ?_) (a' := ?_) #[true, true, false, false, false, false, false, false, false, false, false, false] rfl rfl (any_of HT_.out (by kernel_rfl)) (fun _ _ _ h => h) (Or.inl ⟨by rfl, ?_⟩) ?_ ?_
                                        rotate_left
                                        · intro w'
                                          go_simp
                                          with_reducible rfl
                                        rotate_left
                                        · simp only [Act.put, List.setIfInBounds_toArray, List.set_cons_zero, List.set_cons_succ, i64_w, i32_w]
                                          rfl
                                        refine pure_ (i := 2) (N := some 69) (v := ?_) (a' := ?_) #[true, true, true, false, false, false, false, false, false, false, false, false] rfl rfl (any_of HT_.out (by kernel_rfl)) (fun _ _ _ h => h) (Or.inl ⟨by rfl, ?_⟩) ?_ ?_
                                        rotate_left
                                        · intro w'
                                          go_simp
                                          with_reducible rfl
                                        rotate_left
                                        · simp only [Act.put, List.setIfInBounds_toArray, List.set_cons_zero, List.set_cons_succ, i64_w, i32_w]
                                          rfl
                                        refine pure_ (i := 3) (N := some 70) (v := ?_) (a' := ?_) #[true, true, true, true, false, false, false, false, false, false, false, false] rfl rfl (any_of HT_.out (by kernel_rfl)) (fun _ _ _ h => h) (Or.inl ⟨by rfl, ?_⟩) ?_ ?_
                                        rotate_left
                                        · intro w'
                                          go_simp
                                          with_reducible rfl
                                        rotate_left
                                        · simp only [Act.put, List.setIfInBounds_toArray, List.set_cons_zero, List.set_cons_succ, i64_w, i32_w]
                                          rfl
                                        refine pure_ (i := 7) (N := some 74) (v := ?_) (a' := ?_) #[true, true, true, true, false, false, false, true, false, false, false, false] rfl rfl (any_of HT_.out (by kernel_rfl)) (fun _ _ _ h => h) (Or.inl ⟨by rfl, ?_⟩) ?_ ?_
                                        rotate_left
                                        · intro w'
                                          go_simp
                                          with_reducible rfl
                                        rotate_left
                                        · simp only [Act.put, List.setIfInBounds_toArray, List.set_cons_zero, List.set_cons_succ, i64_w, i32_w]
                                          rfl
                                        refine pure_ (i := 8) (N := some 75) (v := ?_) (a' := ?_) #[true, true, true, true, false, false, false, true, true, false, false, false] rfl rfl (any_of HT_.out (by kernel_rfl)) (fun _ _ _ h => h) (Or.inl ⟨by rfl, ?_⟩) ?_ ?_
                                        rotate_left
                                        · intro w'
                                          go_simp
                                          with_reducible rfl
                                        rotate_left
                                        · simp only [Act.put, List.setIfInBounds_toArray, List.set_cons_zero, List.set_cons_succ, i64_w, i32_w]
                                          rfl
                                        refine pure_ (i := 9) (N := some 76) (v := ?_) (a' := ?_) #[true, true, true, true, false, false, false, true, true, true, false, false] rfl rfl (any_of HT_.out (by kernel_rfl)) (fun _ _ _ h => h) (Or.inl ⟨by rfl, ?_⟩) ?_ ?_
                                        rotate_left
                                        · intro w'
                                          go_simp
                                          with_reducible rfl
                                        rotate_left
                                        · simp only [Act.put, List.setIfInBounds_toArray, List.set_cons_zero, List.set_cons_succ, i64_w, i32_w]
                                          rfl
                                        refine one_ (i := 4) (N := some 71) #[true, true, true, true, true, false, false, true, true, true, false, false] rfl rfl (one_of HT_.out (by kernel_rfl)) (by decide) (fun K hK => ?_)
                                        refine Kd.R_lit_step (Kd.int .u8) _ 5 ?hg (N := 71) ?hd (xs := ([a1] : List Int)) (inner := [.int .u8 a1]) (ok := fun _ => True) (okp := fun _ => True) ?hr ?hp (fun _ hk => hk) trivial (Below.refl _ _) (Nat.le_refl _) (by simp) ?_; (case hd => rfl); (case hg => rfl); (case hr => first | (go_simp; done) | (go_simp; rfl)); (case hp => exact (Reps.one (show Kd.M (Kd.int .u8) _ _ _ a1 [.int .u8 a1] from rfl) (Reps.none _ _)))
                                        intro v110 w102 ho103 hb hg_ hnew_
                                        clear hg_ hnew_
                                        (first | rw [← Ny109.out] at ho103 | (simp only [Int.reduceToNat] at ho103; rw [← Ny109.out] at ho103))
                                        have n0_ := Aside0.mk (Kd.R_lower ho103 (below_size (by repeat (first | (with_reducible first | exact HB.out | apply below_alloc | apply pw_below_drewN | apply below_drew1) | exact HB.out))))
                                        have n1_ := Aside0.mk (below_step (by repeat (first | (with_reducible first | exact HB.out | apply below_alloc | apply pw_below_drewN | apply below_drew1) | exact HB.out)) hb)
                                        clear HB
                                        have HO111 := n0_
                                        have HB := n1_
                                        clear n0_ n1_
                                        clear hb ho103
                                        refine hK.out _ _ trivial (fun hHeld => ?_)
                                        clear hK K
                                        refine norm_ (a' := ?_) ?_ ?_
                                        rotate_left
                                        · show Act.put _ (some 71) _ = _
                                          simp only [Act.put, List.setIfInBounds_toArray, List.set_cons_zero, List.set_cons_succ, i64_w, i32_w]
                                          rfl
                                        refine one_ (i := 5) (N := some 72) #[true, true, true, true, true, true, false, true, true, true, false, false] rfl rfl (one_of HT_.out (by kernel_rfl)) (by decide) (fun K hK => ?_)
                                        have hcv104 := own_string (P := Tryd.prog) Tryd.underlying57 Tryd.underlying5 Tryd.underlying9 (Kd.own_of_R HO111.out)
                                        refine value_ (w1 := ?_) (v := ?_) (by rfl) rfl ?_ ?_
                                        rotate_left 2
                                        · go_simp
                                          constructor
                                          · rfl
                                          · rfl
                                        clear hcv104
                                        refine hK.out _ _ trivial (fun hHeld => ?_)
                                        clear hK K
                                        refine norm_ (a' := ?_) ?_ ?_
                                        rotate_left
                                        · show Act.put _ (some 72) _ = _
                                          simp only [Act.put, List.setIfInBounds_toArray, List.set_cons_zero, List.set_cons_succ, i64_w, i32_w]
                                          rfl
                                        refine pure_ (i := 6) (N := some 73) (v := ?_) (a' := ?_) #[true, true, true, true, true, true, true, true, true, true, false, false] rfl rfl (any_of HT_.out (by kernel_rfl)) (fun _ _ _ h => h) (Or.inl ⟨by rfl, ?_⟩) ?_ ?_
                                        rotate_left
                                        · intro w'
                                          go_simp
                                          with_reducible rfl
                                        rotate_left
                                        · simp only [Act.put, List.setIfInBounds_toArray, List.set_cons_zero, List.set_cons_succ, i64_w, i32_w]
                                          rfl
                                        refine pure_ (i := 10) (N := some 77) (v := ?_) (a' := ?_) #[true, true, true, true, true, true, true, true, true, true, true, false] rfl rfl (any_of HT_.out (by kernel_rfl)) (fun _ _ _ h => h) (Or.inl ⟨by rfl, ?_⟩) ?_ ?_
                                        rotate_left
                                        · intro w'
                                          go_simp
                                          with_reducible rfl
                                        rotate_left
                                        · simp only [Act.put, List.setIfInBounds_toArray, List.set_cons_zero, List.set_cons_succ, i64_w, i32_w]
                                          rfl
                                        refine pure_ (i := 11) (N := some 10) (v := ?_) (a' := ?_) #[true, true, true, true, true, true, true, true, true, true, true, true] rfl rfl (any_of HT_.out (by kernel_rfl)) (fun _ _ _ h => h) (Or.inl ⟨by rfl, ?_⟩) ?_ ?_
                                        rotate_left
                                        · intro w'
                                          go_simp
                                          with_reducible rfl
                                        rotate_left
                                        · simp only [Act.put, List.setIfInBounds_toArray, List.set_cons_zero, List.set_cons_succ, i64_w, i32_w]
                                          rfl
                                        refine done_ (done_of HT_.out (by kernel_rfl)) ?_
                                        generalize hT9 : (((x7_1.extract 0 ((ji37) : Int).toNat) ++ (strOfNums y109)) ++ (x7_1.extract ((ji37) : Int).toNat x7_1.size)) = T9 at *
                                        try go_wp2_with (first | ((with_reducible refine gate_callee (f := 43) rfl ?_); refine goesL_ (some 79) rfl rfl Tryd.func43 (by kernel_rfl) rfl #[.string x7_1] rfl (by (try simp only [List.map_toArray, List.map_cons, List.map_nil]); first | done | rfl | (simp only [List.length_drop, List.length_take]; rfl)) ?_; (with_reducible refine (url_Path.calls kj16 x7_1 t112 _ A44.out).mono ?_); rintro e w' ⟨rfl, ⟨nd, rfl⟩⟩; refine ⟨_, rfl, ?_⟩) | (go_at_call 43; (with_reducible refine (url_Path.calls kj16 T9 t113 _ A46.out).mono ?_); rintro e w' ⟨rfl, ⟨nd, rfl⟩⟩) | (go_at_call 43; (with_reducible refine (url_Path.calls kj16 ((x7_1.extract 1 x7_1.size) ++ (⟨#[120]⟩ : ByteArray)) t118 _ A80.out).mono ?_); rintro e w' ⟨rfl, ⟨nd, rfl⟩⟩; have p90 : 0 ≤ (1 : Int) := (by omega); have q90 : 1 < x7_1.size := (by have : (1 : Int) < (x7_1.size : Int) := of_decide_eq_true (by first | (with_reducible assumption) | assumption); omega); have hx90 : ∀ h : 1 < x7_1.size, ((x7_1[1]'h).toNat : Int) = bt x7_1 1 := bt_at x7_1 1; clear p90; have qi90 : (1 < (x7_1.size : Int)) = True := eq_true (of_decide_eq_true (by first | (with_reducible assumption) | assumption)); replace q90 := eq_true q90) | (go_at_call 36; (with_reducible refine (moatlaw1_awake.calls_at HU.out (by repeat (first | (with_reducible first | exact HB.out | apply below_alloc | apply pw_below_drewN | apply below_drew1) | exact HB.out)) t121 A100.out).mono ?_); rintro e w105 ⟨rfl, hb⟩; have n0_ := Aside0.mk (Kd.R_below (by (with_reducible repeat (first | apply Kd.R_alloc | apply Kd.R_drewN | apply Kd.R_drew)); exact HO111.out) hb); have n1_ := Aside0.mk (below_step (by repeat (first | (with_reducible first | exact HB.out | apply below_alloc | apply pw_below_drewN | apply below_drew1) | exact HB.out)) hb); clear HO111; clear HB; have HO111 := n0_; have HB := n1_; clear n0_ n1_; (try clear hb); (try clear hb2); (try clear hk); (try clear hi)))
                                        go_ret
                                        exact ⟨by first | rfl | (simp [errW_none, errW_some] <;> rfl) | (simp only [← hji37]; first | rfl | (simp [errW_none, errW_some] <;> rfl)) | (simp [*, errW_none, errW_some] <;> rfl) | (simp [isEmpty_bne, isEmpty_beq, errW_none, errW_some]; done) | (simp [*, isEmpty_bne, isEmpty_beq, errW_none, errW_some]; done), by repeat (first | (with_reducible first | exact HB.out | apply below_alloc | apply pw_below_drewN | apply below_drew1) | exact HB.out)⟩
                                      · rw [if_neg c99] at H
                                        have c99b0 : ((!t118) == true) = false := by simpa using c99
                                        (try (have c99b1 : decide ((!t118) = true) = false := by simpa using c99))
                                        (try (have c99b2 : ((!t118) == true) = false := by simpa using c99))
                                        (try (have c99b3 : ¬ ((!t118) = true) := by simpa using c99))
                                        clear c99
                                        cases (Option.some.inj H).trans HRT.out
                                  · rw [if_neg c89] at H
                                    exact absurd H (by simp)
                              · rw [if_neg c79] at H
                                exact absurd H (by simp)
                            · rw [if_neg c78] at H
                              exact absurd H (by simp)
                          · rw [if_neg c77] at H
                            have c77b0 : (t113 == false) = false := by simpa using c77
                            (try (have c77b1 : decide (t113 = false) = false := by simpa using c77))
                            (try (have c77b2 : (t113 == false) = false := by simpa using c77))
                            (try (have c77b3 : ¬ (t113 = false) := by simpa using c77))
                            clear c77
                            cases (Option.some.inj H).trans HRT.out
                      · rw [if_neg c45] at H
                        have c45b0 : (t112 == (decide ((x7_1.size : Int) ≤ 60))) = false := by simpa using c45
                        (try (have c45b1 : decide (t112 = (decide ((x7_1.size : Int) ≤ 60))) = false := by simpa using c45))
                        (try (have c45b2 : (t112 == (decide ((x7_1.size : Int) ≤ 60))) = false := by simpa using c45))
                        (try (have c45b3 : ¬ (t112 = (decide ((x7_1.size : Int) ≤ 60))) := by simpa using c45))
                        clear c45
                        cases (Option.some.inj H).trans HRT.out
                    · rw [if_neg c43] at H
                      exact absurd H (by simp)
                  · rw [if_neg c40] at H
                    exact absurd H (by simp)
                · rw [if_neg c39] at H
                  exact absurd H (by simp)
              · rw [if_neg c38] at H
                exact absurd H (by simp)

/-- THE ONE PURE STATEMENT of moatlaw1_UrlPaths: yours. -/
def moatlaw1_UrlPaths.Pure : Prop := ∀ (l0 : List Int) (a1 : Int) (a2 : Int), l0.length ≤ maxLen → l0.length * 8 ≤ 140737488351232 → (∀ x ∈ l0, (Lit.int .i64 x).wf = true) → (Lit.int .u8 a1).wf = true → (Lit.int .i64 a2).wf = true → ∃ k, moatlaw1_UrlPaths.f k l0 a1 a2 = some true
theorem moatlaw1_UrlPaths.walk (P : moatlaw1_UrlPaths.Pure) (a0 : Option Addr) (len0 cap0 : Nat) (z0 : List Int) (a1 : Int) (a2 : Int) (w : World) (hU : UrlWorld w) (w0 : (a0 = none ∧ len0 = 0 ∧ cap0 = 0 ∧ z0 = []) ∨ ∃ x, a0 = some x ∧ len0 ≤ cap0 ∧ cap0 ≤ maxLen ∧ z0.length = cap0 ∧ (∀ i, i < z0.length → w.cell? (x.add i) = some (.int .i64 (z0.getD i 0))) ∧ ∀ n ∈ z0, (Lit.int .i64 n).wf = true) (y0 : len0 * 8 ≤ 140737488351232) (w1 : (Lit.int .u8 a1).wf = true) (w2 : (Lit.int .i64 a2).wf = true) :
    Calls Tryd.prog 14 #[.slice a0 len0 cap0, .int .u8 a1, .int .i64 a2] w fun e w' => e = .returned (.bool true) ∧ Below w.heap.size w w' := by
  obtain ⟨l0, rfl, hr0, hm0, hw0, hc0⟩ := ReadsInt.ofRowC w0
  obtain ⟨k, h⟩ := P l0 a1 a2 hm0 y0 hw0 w1 w2
  refine (moatlaw1_UrlPaths.calls k _ _ l0 a1 a2 true w (Kd.C_of_reads (d := (0 : Int)) (h1 := fun _ => rfl) hr0) hc0 hU h rfl).mono ?_
  rintro e w' ⟨rfl, hd⟩
  exact ⟨rfl, hd⟩

end Go.Proofs.YtfmppmabnpkooaaDoor.BV
