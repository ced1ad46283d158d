-- Printed for this claim by the kit's print.py over given contracts (wip/myprint.py). Not trusted: Lean checks it.
import Derived.Test.YtfmppmabnpkooaaDoorBHx0
namespace Go.Proofs.YtfmppmabnpkooaaDoor.BH
open Go.RowKit Go.Proofs.YtfmppmabnpkooaaDoorW.PrintWords Go.Proofs.YtfmppmabnpkooaaDoorW.PrintLast Go.Proofs.YtfmppmabnpkooaaDoorW.PrintMore Go.Proofs.YtfmppmabnpkooaaDoor.BF
attribute [local go_sem] max2_int min2_int max_two min_two max_three min_three max_four min_four   -- for this text's walks alone
set_option linter.unusedVariables false
set_option linter.unusedSimpArgs false

/-! ### moatlaw3_FieldTrims: function 6 -/
def moatlaw3_FieldTrims.f (k : Nat) (a0 : ByteArray) (a1 : Int) : Option (Bool) := if (a0.size : Int) > 200 then ((moatlaw3_awake.f).bind fun t101 => (some t101)) else ((some (([(⟨#[]⟩ : ByteArray), (⟨#[32]⟩ : ByteArray), (⟨#[9]⟩ : ByteArray), (⟨#[32, 9, 32]⟩ : ByteArray), (⟨#[9, 9]⟩ : ByteArray)] : List ByteArray) : List ByteArray)).bind fun y102 => ((moatlaw0_Low.f a1 5).bind fun t105 => (if 0 ≤ t105 then (if t105 < (y102.length : Int) then ((field_Trim.f a0).bind fun t107 => ((field_Lower.f a0).bind fun t108 => (if (rdOf ByteArray.empty y102 t105).size + a0.size ≤ 9223372036854775807 then (if ((rdOf ByteArray.empty y102 t105) ++ a0).size + (rdOf ByteArray.empty y102 t105).size ≤ 9223372036854775807 then ((field_Trim.f (((rdOf ByteArray.empty y102 t105) ++ a0) ++ (rdOf ByteArray.empty y102 t105))).bind fun t109 => (if t109.toList = t107.toList then ((field_Trim.f t107).bind fun t110 => (if t110.toList = t107.toList then ((field_Lower.f t108).bind fun t111 => (if t111.toList = t108.toList then (if (t108.size : Int) = (a0.size : Int) then ((field_Name.f k a0).bind fun t112 => ((field_Name.f k t108).bind fun t113 => (if (t112 != t113) = true then (some false) else (if t107.toList = ([] : List UInt8) then ((moatlaw3_awake.f).bind fun t114 => (some t114)) else (if 0 < (t107.size : Int) then (if (bt t107 0) = 32 then (some false) else (if (bt t107 0) = 9 then (some false) else (if 0 ≤ (wrap64 ((t107.size : Int) - 1)) then (if (wrap64 ((t107.size : Int) - 1)) < (t107.size : Int) then (if (bt t107 (wrap64 ((t107.size : Int) - 1))) = 32 then (some false) else (if (bt t107 (wrap64 ((t107.size : Int) - 1))) = 9 then (some false) else ((moatlaw3_awake.f).bind fun t115 => (some t115)))) else (none)) else (none)))) else (none)))))) else (some false)) else (some false))) else (some false))) else (some false))) else (none)) else (none)))) else (none)) else (none))))
theorem moatlaw3_FieldTrims.mono : ∀ a0 a1 k, LeO (moatlaw3_FieldTrims.f k a0 a1) (moatlaw3_FieldTrims.f (k + 1) a0 a1) := by
  intro a0 a1 k
  unfold moatlaw3_FieldTrims.f
  repeat' first
      | (with_reducible exact field_Name.mono _ _)
      | (with_reducible exact LeO.refl _)
      | (with_reducible exact LeO.none _)
      | (with_reducible refine LeO.ite ?_ ?_)
      | (with_reducible refine LeO.bind ?_ (fun _ => ?_))
      | exact field_Name.mono _ _
      | exact LeO.none _
      | refine LeO.ite ?_ ?_
      | refine LeO.bind ?_ (fun _ => ?_)
set_option maxHeartbeats 2000000 in
set_option maxRecDepth 100000 in
theorem moatlaw3_FieldTrims.calls (k : Nat) (a0 : ByteArray) (a1 : Int) (r : Bool) (w : World) (h : moatlaw3_FieldTrims.f k a0 a1 = some r) (hrt : r = true) :
    Calls Tryd.prog 6 #[.string a0, .int .i64 a1] w fun e w' => e = .returned (.bool r) ∧ Below w.heap.size w w' := by
  have HRT := Aside0.mk hrt
  clear hrt
  have HB := Aside0.mk (Below.refl w.heap.size w)
  have H : (if (a0.size : Int) > 200 then ((moatlaw3_awake.f).bind fun t101 => (some t101)) else ((some (([(⟨#[]⟩ : ByteArray), (⟨#[32]⟩ : ByteArray), (⟨#[9]⟩ : ByteArray), (⟨#[32, 9, 32]⟩ : ByteArray), (⟨#[9, 9]⟩ : ByteArray)] : List ByteArray) : List ByteArray)).bind fun y102 => ((moatlaw0_Low.f a1 5).bind fun t105 => (if 0 ≤ t105 then (if t105 < (y102.length : Int) then ((field_Trim.f a0).bind fun t107 => ((field_Lower.f a0).bind fun t108 => (if (rdOf ByteArray.empty y102 t105).size + a0.size ≤ 9223372036854775807 then (if ((rdOf ByteArray.empty y102 t105) ++ a0).size + (rdOf ByteArray.empty y102 t105).size ≤ 9223372036854775807 then ((field_Trim.f (((rdOf ByteArray.empty y102 t105) ++ a0) ++ (rdOf ByteArray.empty y102 t105))).bind fun t109 => (if t109.toList = t107.toList then ((field_Trim.f t107).bind fun t110 => (if t110.toList = t107.toList then ((field_Lower.f t108).bind fun t111 => (if t111.toList = t108.toList then (if (t108.size : Int) = (a0.size : Int) then ((field_Name.f k a0).bind fun t112 => ((field_Name.f k t108).bind fun t113 => (if (t112 != t113) = true then (some false) else (if t107.toList = ([] : List UInt8) then ((moatlaw3_awake.f).bind fun t114 => (some t114)) else (if 0 < (t107.size : Int) then (if (bt t107 0) = 32 then (some false) else (if (bt t107 0) = 9 then (some false) else (if 0 ≤ (wrap64 ((t107.size : Int) - 1)) then (if (wrap64 ((t107.size : Int) - 1)) < (t107.size : Int) then (if (bt t107 (wrap64 ((t107.size : Int) - 1))) = 32 then (some false) else (if (bt t107 (wrap64 ((t107.size : Int) - 1))) = 9 then (some false) else ((moatlaw3_awake.f).bind fun t115 => (some t115)))) else (none)) else (none)))) else (none)))))) else (some false)) else (some false))) else (some false))) else (some false))) else (none)) else (none)))) else (none)) else (none))))) = some r := h
  clear h
  by_cases c3 : (a0.size : Int) > 200
  · rw [if_pos c3] at H
    have c3b0 : decide (200 < (a0.size : Int)) = true := decide_eq_true c3
    have c3b1 : decide (200 < a0.size) = true := decide_eq_true (by omega)
    clear c3
    replace H := Option.bind_eq_some_iff.mp H
    obtain ⟨t101, A40, H⟩ := H
    replace H : (some t101) = some r := H
    have A4 := Aside0.mk A40
    clear A40
    obtain rfl := Option.some.inj H
    go_enter Tryd.func6, Tryd.ntmps6
    go_wp2_with (first | ((with_reducible refine gate_callee (f := 17) rfl ?_); refine goesL_ (some 11) rfl rfl Tryd.func17 (by kernel_rfl) rfl #[] rfl (by (try simp only [List.map_toArray, List.map_cons, List.map_nil]); first | done | rfl | (simp only [List.length_drop, List.length_take]; rfl)) ?_; (with_reducible refine (moatlaw3_awake.calls  t101 _ A4.out).mono ?_); rintro e w5 ⟨rfl, hb⟩; refine ⟨_, rfl, ?_⟩; have n0_ := Aside0.mk (below_step (by repeat (first | (with_reducible first | exact HB.out | apply below_alloc | apply pw_below_drewN | apply below_drew1) | exact HB.out)) hb); clear HB; have HB := n0_; clear n0_; (try clear hb); (try clear hb2); (try clear hk); (try clear hi)))
    go_ret
    exact ⟨by first | rfl | (simp [errW_none, errW_some] <;> rfl) | (simp [*, errW_none, errW_some] <;> rfl) | (simp [isEmpty_bne, isEmpty_beq, errW_none, errW_some]; done) | (simp [*, isEmpty_bne, isEmpty_beq, errW_none, errW_some]; done), by repeat (first | (with_reducible first | exact HB.out | apply below_alloc | apply pw_below_drewN | apply below_drew1) | exact HB.out)⟩
  · rw [if_neg c3] at H
    have c3b0 : decide (200 < (a0.size : Int)) = false := decide_eq_false c3
    have c3b1 : decide (200 < a0.size) = false := decide_eq_false (by omega)
    clear c3
    obtain ⟨y102, hy102⟩ : ∃ y_ : List ByteArray, y_ = (([(⟨#[]⟩ : ByteArray), (⟨#[32]⟩ : ByteArray), (⟨#[9]⟩ : ByteArray), (⟨#[32, 9, 32]⟩ : ByteArray), (⟨#[9, 9]⟩ : ByteArray)] : List ByteArray)) := ⟨_, rfl⟩
    replace H : ((moatlaw0_Low.f a1 5).bind fun t105 => (if 0 ≤ t105 then (if t105 < (y102.length : Int) then ((field_Trim.f a0).bind fun t107 => ((field_Lower.f a0).bind fun t108 => (if (rdOf ByteArray.empty y102 t105).size + a0.size ≤ 9223372036854775807 then (if ((rdOf ByteArray.empty y102 t105) ++ a0).size + (rdOf ByteArray.empty y102 t105).size ≤ 9223372036854775807 then ((field_Trim.f (((rdOf ByteArray.empty y102 t105) ++ a0) ++ (rdOf ByteArray.empty y102 t105))).bind fun t109 => (if t109.toList = t107.toList then ((field_Trim.f t107).bind fun t110 => (if t110.toList = t107.toList then ((field_Lower.f t108).bind fun t111 => (if t111.toList = t108.toList then (if (t108.size : Int) = (a0.size : Int) then ((field_Name.f k a0).bind fun t112 => ((field_Name.f k t108).bind fun t113 => (if (t112 != t113) = true then (some false) else (if t107.toList = ([] : List UInt8) then ((moatlaw3_awake.f).bind fun t114 => (some t114)) else (if 0 < (t107.size : Int) then (if (bt t107 0) = 32 then (some false) else (if (bt t107 0) = 9 then (some false) else (if 0 ≤ (wrap64 ((t107.size : Int) - 1)) then (if (wrap64 ((t107.size : Int) - 1)) < (t107.size : Int) then (if (bt t107 (wrap64 ((t107.size : Int) - 1))) = 32 then (some false) else (if (bt t107 (wrap64 ((t107.size : Int) - 1))) = 9 then (some false) else ((moatlaw3_awake.f).bind fun t115 => (some t115)))) else (none)) else (none)))) else (none)))))) else (some false)) else (some false))) else (some false))) else (some false))) else (none)) else (none)))) else (none)) else (none))) = some r := by first | (rw [hy102]; with_reducible exact H) | (have H2_ := (Option.bind_some _ _).symm.trans H; rw [hy102]; with_reducible exact H2_) | (have H2_ := (Option.bind_some _ _).symm.trans H; with_reducible exact H2_) | with_reducible exact H | (rw [hy102]; exact H) | exact H
    have Ny102 := Aside0.mk hy102
    clear hy102
    replace H := Option.bind_eq_some_iff.mp H
    obtain ⟨t105, A60, H⟩ := H
    replace H : (if 0 ≤ t105 then (if t105 < (y102.length : Int) then ((field_Trim.f a0).bind fun t107 => ((field_Lower.f a0).bind fun t108 => (if (rdOf ByteArray.empty y102 t105).size + a0.size ≤ 9223372036854775807 then (if ((rdOf ByteArray.empty y102 t105) ++ a0).size + (rdOf ByteArray.empty y102 t105).size ≤ 9223372036854775807 then ((field_Trim.f (((rdOf ByteArray.empty y102 t105) ++ a0) ++ (rdOf ByteArray.empty y102 t105))).bind fun t109 => (if t109.toList = t107.toList then ((field_Trim.f t107).bind fun t110 => (if t110.toList = t107.toList then ((field_Lower.f t108).bind fun t111 => (if t111.toList = t108.toList then (if (t108.size : Int) = (a0.size : Int) then ((field_Name.f k a0).bind fun t112 => ((field_Name.f k t108).bind fun t113 => (if (t112 != t113) = true then (some false) else (if t107.toList = ([] : List UInt8) then ((moatlaw3_awake.f).bind fun t114 => (some t114)) else (if 0 < (t107.size : Int) then (if (bt t107 0) = 32 then (some false) else (if (bt t107 0) = 9 then (some false) else (if 0 ≤ (wrap64 ((t107.size : Int) - 1)) then (if (wrap64 ((t107.size : Int) - 1)) < (t107.size : Int) then (if (bt t107 (wrap64 ((t107.size : Int) - 1))) = 32 then (some false) else (if (bt t107 (wrap64 ((t107.size : Int) - 1))) = 9 then (some false) else ((moatlaw3_awake.f).bind fun t115 => (some t115)))) else (none)) else (none)))) else (none)))))) else (some false)) else (some false))) else (some false))) else (some false))) else (none)) else (none)))) else (none)) else (none)) = some r := H
    have A6 := Aside0.mk A60
    clear A60
    by_cases c7 : 0 ≤ t105
    · rw [if_pos c7] at H
      have c7b0 : decide (0 ≤ t105) = true := decide_eq_true c7
      clear c7
      by_cases c8 : t105 < (y102.length : Int)
      · rw [if_pos c8] at H
        have c8b0 : decide (t105 < (y102.length : Int)) = true := decide_eq_true c8
        clear c8
        replace H := Option.bind_eq_some_iff.mp H
        obtain ⟨t107, A90, H⟩ := H
        replace H : ((field_Lower.f a0).bind fun t108 => (if (rdOf ByteArray.empty y102 t105).size + a0.size ≤ 9223372036854775807 then (if ((rdOf ByteArray.empty y102 t105) ++ a0).size + (rdOf ByteArray.empty y102 t105).size ≤ 9223372036854775807 then ((field_Trim.f (((rdOf ByteArray.empty y102 t105) ++ a0) ++ (rdOf ByteArray.empty y102 t105))).bind fun t109 => (if t109.toList = t107.toList then ((field_Trim.f t107).bind fun t110 => (if t110.toList = t107.toList then ((field_Lower.f t108).bind fun t111 => (if t111.toList = t108.toList then (if (t108.size : Int) = (a0.size : Int) then ((field_Name.f k a0).bind fun t112 => ((field_Name.f k t108).bind fun t113 => (if (t112 != t113) = true then (some false) else (if t107.toList = ([] : List UInt8) then ((moatlaw3_awake.f).bind fun t114 => (some t114)) else (if 0 < (t107.size : Int) then (if (bt t107 0) = 32 then (some false) else (if (bt t107 0) = 9 then (some false) else (if 0 ≤ (wrap64 ((t107.size : Int) - 1)) then (if (wrap64 ((t107.size : Int) - 1)) < (t107.size : Int) then (if (bt t107 (wrap64 ((t107.size : Int) - 1))) = 32 then (some false) else (if (bt t107 (wrap64 ((t107.size : Int) - 1))) = 9 then (some false) else ((moatlaw3_awake.f).bind fun t115 => (some t115)))) else (none)) else (none)))) else (none)))))) else (some false)) else (some false))) else (some false))) else (some false))) else (none)) else (none))) = some r := H
        have A9 := Aside0.mk A90
        clear A90
        replace H := Option.bind_eq_some_iff.mp H
        obtain ⟨t108, A100, H⟩ := H
        replace H : (if (rdOf ByteArray.empty y102 t105).size + a0.size ≤ 9223372036854775807 then (if ((rdOf ByteArray.empty y102 t105) ++ a0).size + (rdOf ByteArray.empty y102 t105).size ≤ 9223372036854775807 then ((field_Trim.f (((rdOf ByteArray.empty y102 t105) ++ a0) ++ (rdOf ByteArray.empty y102 t105))).bind fun t109 => (if t109.toList = t107.toList then ((field_Trim.f t107).bind fun t110 => (if t110.toList = t107.toList then ((field_Lower.f t108).bind fun t111 => (if t111.toList = t108.toList then (if (t108.size : Int) = (a0.size : Int) then ((field_Name.f k a0).bind fun t112 => ((field_Name.f k t108).bind fun t113 => (if (t112 != t113) = true then (some false) else (if t107.toList = ([] : List UInt8) then ((moatlaw3_awake.f).bind fun t114 => (some t114)) else (if 0 < (t107.size : Int) then (if (bt t107 0) = 32 then (some false) else (if (bt t107 0) = 9 then (some false) else (if 0 ≤ (wrap64 ((t107.size : Int) - 1)) then (if (wrap64 ((t107.size : Int) - 1)) < (t107.size : Int) then (if (bt t107 (wrap64 ((t107.size : Int) - 1))) = 32 then (some false) else (if (bt t107 (wrap64 ((t107.size : Int) - 1))) = 9 then (some false) else ((moatlaw3_awake.f).bind fun t115 => (some t115)))) else (none)) else (none)))) else (none)))))) else (some false)) else (some false))) else (some false))) else (some false))) else (none)) else (none)) = some r := H
        have A10 := Aside0.mk A100
        clear A100
        by_cases c11 : (rdOf ByteArray.empty y102 t105).size + a0.size ≤ 9223372036854775807
        · rw [if_pos c11] at H
          have c11b0 := eq_true c11
          have c11b1 : decide ((rdOf ByteArray.empty y102 t105).size + a0.size ≤ 9223372036854775807) = true := decide_eq_true c11
          try have c11b2 : (9223372036854775807 < (rdOf ByteArray.empty y102 t105).size + a0.size) = False := eq_false (Nat.not_lt.2 c11)
          by_cases c12 : ((rdOf ByteArray.empty y102 t105) ++ a0).size + (rdOf ByteArray.empty y102 t105).size ≤ 9223372036854775807
          · rw [if_pos c12] at H
            have c12b0 := eq_true c12
            have c12b1 : decide (((rdOf ByteArray.empty y102 t105) ++ a0).size + (rdOf ByteArray.empty y102 t105).size ≤ 9223372036854775807) = true := decide_eq_true c12
            try have c12b2 : (9223372036854775807 < ((rdOf ByteArray.empty y102 t105) ++ a0).size + (rdOf ByteArray.empty y102 t105).size) = False := eq_false (Nat.not_lt.2 c12)
            (try (have c12b7 : (9223372036854775807 < (rdOf ByteArray.empty y102 t105).size + a0.size + (rdOf ByteArray.empty y102 t105).size) = False := eq_false (Nat.not_lt.2 (by have hc := c12; simp only [ByteArray.size_append] at hc; exact hc))))
            replace H := Option.bind_eq_some_iff.mp H
            obtain ⟨t109, A130, H⟩ := H
            replace H : (if t109.toList = t107.toList then ((field_Trim.f t107).bind fun t110 => (if t110.toList = t107.toList then ((field_Lower.f t108).bind fun t111 => (if t111.toList = t108.toList then (if (t108.size : Int) = (a0.size : Int) then ((field_Name.f k a0).bind fun t112 => ((field_Name.f k t108).bind fun t113 => (if (t112 != t113) = true then (some false) else (if t107.toList = ([] : List UInt8) then ((moatlaw3_awake.f).bind fun t114 => (some t114)) else (if 0 < (t107.size : Int) then (if (bt t107 0) = 32 then (some false) else (if (bt t107 0) = 9 then (some false) else (if 0 ≤ (wrap64 ((t107.size : Int) - 1)) then (if (wrap64 ((t107.size : Int) - 1)) < (t107.size : Int) then (if (bt t107 (wrap64 ((t107.size : Int) - 1))) = 32 then (some false) else (if (bt t107 (wrap64 ((t107.size : Int) - 1))) = 9 then (some false) else ((moatlaw3_awake.f).bind fun t115 => (some t115)))) else (none)) else (none)))) else (none)))))) else (some false)) else (some false))) else (some false))) else (some false)) = some r := H
            have A13 := Aside0.mk A130
            clear A130
            by_cases c14 : t109.toList = t107.toList
            · rw [if_pos c14] at H
              have c14b0 : (t109.toList == t107.toList) = true := beq_iff_eq.mpr c14
              have c14b1 : (t109.toList != t107.toList) = false := bne_eq_false_iff_eq.mpr c14
              clear c14
              replace H := Option.bind_eq_some_iff.mp H
              obtain ⟨t110, A150, H⟩ := H
              replace H : (if t110.toList = t107.toList then ((field_Lower.f t108).bind fun t111 => (if t111.toList = t108.toList then (if (t108.size : Int) = (a0.size : Int) then ((field_Name.f k a0).bind fun t112 => ((field_Name.f k t108).bind fun t113 => (if (t112 != t113) = true then (some false) else (if t107.toList = ([] : List UInt8) then ((moatlaw3_awake.f).bind fun t114 => (some t114)) else (if 0 < (t107.size : Int) then (if (bt t107 0) = 32 then (some false) else (if (bt t107 0) = 9 then (some false) else (if 0 ≤ (wrap64 ((t107.size : Int) - 1)) then (if (wrap64 ((t107.size : Int) - 1)) < (t107.size : Int) then (if (bt t107 (wrap64 ((t107.size : Int) - 1))) = 32 then (some false) else (if (bt t107 (wrap64 ((t107.size : Int) - 1))) = 9 then (some false) else ((moatlaw3_awake.f).bind fun t115 => (some t115)))) else (none)) else (none)))) else (none)))))) else (some false)) else (some false))) else (some false)) = some r := H
              have A15 := Aside0.mk A150
              clear A150
              by_cases c16 : t110.toList = t107.toList
              · rw [if_pos c16] at H
                have c16b0 : (t110.toList == t107.toList) = true := beq_iff_eq.mpr c16
                have c16b1 : (t110.toList != t107.toList) = false := bne_eq_false_iff_eq.mpr c16
                clear c16
                replace H := Option.bind_eq_some_iff.mp H
                obtain ⟨t111, A170, H⟩ := H
                replace H : (if t111.toList = t108.toList then (if (t108.size : Int) = (a0.size : Int) then ((field_Name.f k a0).bind fun t112 => ((field_Name.f k t108).bind fun t113 => (if (t112 != t113) = true then (some false) else (if t107.toList = ([] : List UInt8) then ((moatlaw3_awake.f).bind fun t114 => (some t114)) else (if 0 < (t107.size : Int) then (if (bt t107 0) = 32 then (some false) else (if (bt t107 0) = 9 then (some false) else (if 0 ≤ (wrap64 ((t107.size : Int) - 1)) then (if (wrap64 ((t107.size : Int) - 1)) < (t107.size : Int) then (if (bt t107 (wrap64 ((t107.size : Int) - 1))) = 32 then (some false) else (if (bt t107 (wrap64 ((t107.size : Int) - 1))) = 9 then (some false) else ((moatlaw3_awake.f).bind fun t115 => (some t115)))) else (none)) else (none)))) else (none)))))) else (some false)) else (some false)) = some r := H
                have A17 := Aside0.mk A170
                clear A170
                by_cases c18 : t111.toList = t108.toList
                · rw [if_pos c18] at H
                  have c18b0 : (t111.toList == t108.toList) = true := beq_iff_eq.mpr c18
                  have c18b1 : (t111.toList != t108.toList) = false := bne_eq_false_iff_eq.mpr c18
                  clear c18
                  by_cases c19 : (t108.size : Int) = (a0.size : Int)
                  · rw [if_pos c19] at H
                    have c19b0 : ((t108.size : Int) == (a0.size : Int)) = true := beq_iff_eq.mpr c19
                    have c19b1 : ((t108.size : Int) != (a0.size : Int)) = false := bne_eq_false_iff_eq.mpr c19
                    have c19b2 : (t108.size == a0.size) = true := by first | simpa using c19 | (simp at c19 ⊢; omega)
                    clear c19
                    replace H := Option.bind_eq_some_iff.mp H
                    obtain ⟨t112, A200, H⟩ := H
                    replace H : ((field_Name.f k t108).bind fun t113 => (if (t112 != t113) = true then (some false) else (if t107.toList = ([] : List UInt8) then ((moatlaw3_awake.f).bind fun t114 => (some t114)) else (if 0 < (t107.size : Int) then (if (bt t107 0) = 32 then (some false) else (if (bt t107 0) = 9 then (some false) else (if 0 ≤ (wrap64 ((t107.size : Int) - 1)) then (if (wrap64 ((t107.size : Int) - 1)) < (t107.size : Int) then (if (bt t107 (wrap64 ((t107.size : Int) - 1))) = 32 then (some false) else (if (bt t107 (wrap64 ((t107.size : Int) - 1))) = 9 then (some false) else ((moatlaw3_awake.f).bind fun t115 => (some t115)))) else (none)) else (none)))) else (none))))) = some r := H
                    have A20 := Aside0.mk A200
                    clear A200
                    replace H := Option.bind_eq_some_iff.mp H
                    obtain ⟨t113, A210, H⟩ := H
                    replace H : (if (t112 != t113) = true then (some false) else (if t107.toList = ([] : List UInt8) then ((moatlaw3_awake.f).bind fun t114 => (some t114)) else (if 0 < (t107.size : Int) then (if (bt t107 0) = 32 then (some false) else (if (bt t107 0) = 9 then (some false) else (if 0 ≤ (wrap64 ((t107.size : Int) - 1)) then (if (wrap64 ((t107.size : Int) - 1)) < (t107.size : Int) then (if (bt t107 (wrap64 ((t107.size : Int) - 1))) = 32 then (some false) else (if (bt t107 (wrap64 ((t107.size : Int) - 1))) = 9 then (some false) else ((moatlaw3_awake.f).bind fun t115 => (some t115)))) else (none)) else (none)))) else (none)))) = some r := H
                    have A21 := Aside0.mk A210
                    clear A210
                    by_cases c22 : (t112 != t113) = true
                    · rw [if_pos c22] at H
                      have c22b0 : (t112 != t113) = true := c22
                      (try (have c22b1 : decide (t112 = t113) = false := by simpa using c22))
                      (try (have c22b2 : (t112 == t113) = false := by simpa using c22))
                      (try (have c22b3 : ¬ (t112 = t113) := by simpa using c22))
                      clear c22
                      cases (Option.some.inj H).trans HRT.out
                    · rw [if_neg c22] at H
                      have c22b0 : (t112 != t113) = false := by simpa using c22
                      (try (have c22b1 : decide (t112 = t113) = true := by simpa using c22))
                      (try (have c22b2 : (t112 == t113) = true := by simpa using c22))
                      clear c22
                      by_cases c23 : t107.toList = ([] : List UInt8)
                      · rw [if_pos c23] at H
                        have c23b0 : (t107.toList == ([] : List UInt8)) = true := beq_iff_eq.mpr c23
                        (try (have c23b8 : t107.toList.isEmpty = true := by simpa using c23))
                        have c23b1 : (t107.toList != ([] : List UInt8)) = false := bne_eq_false_iff_eq.mpr c23
                        clear c23
                        replace H := Option.bind_eq_some_iff.mp H
                        obtain ⟨t114, A240, H⟩ := H
                        replace H : (some t114) = some r := H
                        have A24 := Aside0.mk A240
                        clear A240
                        obtain rfl := Option.some.inj H
                        go_enter Tryd.func6, Tryd.ntmps6
                        go_wp2_with (first | ((with_reducible refine gate_dst (N := 12) rfl ?_); (try (refine gate_guard (by rfl) ?_; dsimp only)); refine Kd.R_lit Kd.string _ 9 ?hg (N := 12) ?hd (xs := ([(⟨#[]⟩ : ByteArray), (⟨#[32]⟩ : ByteArray), (⟨#[9]⟩ : ByteArray), (⟨#[32, 9, 32]⟩ : ByteArray), (⟨#[9, 9]⟩ : ByteArray)] : List ByteArray)) (inner := [.string (⟨#[]⟩ : ByteArray), .string (⟨#[32]⟩ : ByteArray), .string (⟨#[9]⟩ : ByteArray), .string (⟨#[32, 9, 32]⟩ : ByteArray), .string (⟨#[9, 9]⟩ : ByteArray)]) (ok := fun _ => True) (okp := fun _ => True) ?hr ?hp (fun _ hk => hk) trivial (Below.refl _ _) (Nat.le_refl _) (by simp) ?_; (case hd => rfl); (case hg => rfl); (case hr => first | (go_simp; done) | (go_simp; rfl)); (case hp => exact (Reps.one (show Kd.M Kd.string _ _ _ (⟨#[]⟩ : ByteArray) [.string (⟨#[]⟩ : ByteArray)] from rfl) (Reps.one (show Kd.M Kd.string _ _ _ (⟨#[32]⟩ : ByteArray) [.string (⟨#[32]⟩ : ByteArray)] from rfl) (Reps.one (show Kd.M Kd.string _ _ _ (⟨#[9]⟩ : ByteArray) [.string (⟨#[9]⟩ : ByteArray)] from rfl) (Reps.one (show Kd.M Kd.string _ _ _ (⟨#[32, 9, 32]⟩ : ByteArray) [.string (⟨#[32, 9, 32]⟩ : ByteArray)] from rfl) (Reps.one (show Kd.M Kd.string _ _ _ (⟨#[9, 9]⟩ : ByteArray) [.string (⟨#[9, 9]⟩ : ByteArray)] from rfl) (Reps.none _ _))))))); intro v103 w25 ho26 hb hg_ hnew_; clear hg_ hnew_; (first | rw [← Ny102.out] at ho26 | (simp only [Int.reduceToNat] at ho26; rw [← Ny102.out] at ho26)); have n0_ := Aside0.mk (Kd.R_lower ho26 (below_size (by repeat (first | (with_reducible first | exact HB.out | apply below_alloc | apply pw_below_drewN | apply below_drew1) | exact HB.out)))); have n1_ := Aside0.mk (below_step (by repeat (first | (with_reducible first | exact HB.out | apply below_alloc | apply pw_below_drewN | apply below_drew1) | exact HB.out)) hb); clear HB; have HO104 := n0_; have HB := n1_; clear n0_ n1_; clear hb ho26) | ((with_reducible refine gate_callee (f := 30) rfl ?_); refine goesL_ (some 14) rfl rfl Tryd.func30 (by kernel_rfl) rfl #[.int .i64 a1, .int .i64 5] rfl (by (try simp only [List.map_toArray, List.map_cons, List.map_nil]); first | done | rfl | (simp only [List.length_drop, List.length_take]; rfl)) ?_; (with_reducible refine (moatlaw0_Low.calls a1 5 t105 _ A6.out).mono ?_); rintro e w' ⟨rfl, ⟨nd, rfl⟩⟩; refine ⟨_, rfl, ?_⟩; obtain ⟨Ao27, co27, eo27⟩ := Kd.R_slice HO104.out; subst eo27; have p106 : 0 ≤ (t105 : Int) := of_decide_eq_true (by first | (with_reducible assumption) | assumption); have q106 : t105 < (y102.length : Int) := of_decide_eq_true (by first | (with_reducible assumption) | assumption); obtain ⟨ad106, e106, hx106_0⟩ := Kd.at_string (Kd.R_reads' HO104.out).2.2 t105 p106 q106; cases e106; replace p106 := eq_true p106; replace q106 := eq_true q106) | ((with_reducible refine gate_callee (f := 28) rfl ?_); refine goesL_ (some 18) rfl rfl Tryd.func28 (by kernel_rfl) rfl #[.string a0] rfl (by (try simp only [List.map_toArray, List.map_cons, List.map_nil]); first | done | rfl | (simp only [List.length_drop, List.length_take]; rfl)) ?_; (with_reducible refine (field_Trim.calls a0 t107 _ A9.out).mono ?_); rintro e w28 ⟨rfl, hb⟩; refine ⟨_, rfl, ?_⟩; have n0_ := Aside0.mk (Kd.R_below (by (with_reducible repeat (first | apply Kd.R_alloc | apply Kd.R_drewN | apply Kd.R_drew)); exact HO104.out) hb); have n1_ := Aside0.mk (below_step (by repeat (first | (with_reducible first | exact HB.out | apply below_alloc | apply pw_below_drewN | apply below_drew1) | exact HB.out)) hb); clear HO104; clear HB; have HO104 := n0_; have HB := n1_; clear n0_ n1_; (try clear hb); (try clear hb2); (try clear hk); (try clear hi)) | ((with_reducible refine gate_callee (f := 26) rfl ?_); refine goesL_ (some 20) rfl rfl Tryd.func26 (by kernel_rfl) rfl #[.string a0] rfl (by (try simp only [List.map_toArray, List.map_cons, List.map_nil]); first | done | rfl | (simp only [List.length_drop, List.length_take]; rfl)) ?_; (with_reducible refine (field_Lower.calls a0 t108 _ A10.out).mono ?_); rintro e w29 ⟨rfl, hb⟩; refine ⟨_, rfl, ?_⟩; have n0_ := Aside0.mk (Kd.R_below (by (with_reducible repeat (first | apply Kd.R_alloc | apply Kd.R_drewN | apply Kd.R_drew)); exact HO104.out) hb); have n1_ := Aside0.mk (below_step (by repeat (first | (with_reducible first | exact HB.out | apply below_alloc | apply pw_below_drewN | apply below_drew1) | exact HB.out)) hb); clear HO104; clear HB; have HO104 := n0_; have HB := n1_; clear n0_ n1_; (try clear hb); (try clear hb2); (try clear hk); (try clear hi)) | ((with_reducible refine gate_callee (f := 28) rfl ?_); refine goesL_ (some 26) rfl rfl Tryd.func28 (by kernel_rfl) rfl #[.string (((rdOf ByteArray.empty y102 t105) ++ a0) ++ (rdOf ByteArray.empty y102 t105))] rfl (by (try simp only [List.map_toArray, List.map_cons, List.map_nil]); first | done | rfl | (simp only [List.length_drop, List.length_take]; rfl)) ?_; (with_reducible refine (field_Trim.calls (((rdOf ByteArray.empty y102 t105) ++ a0) ++ (rdOf ByteArray.empty y102 t105)) t109 _ A13.out).mono ?_); rintro e w30 ⟨rfl, hb⟩; refine ⟨_, rfl, ?_⟩; have n0_ := Aside0.mk (Kd.R_below (by (with_reducible repeat (first | apply Kd.R_alloc | apply Kd.R_drewN | apply Kd.R_drew)); exact HO104.out) hb); have n1_ := Aside0.mk (below_step (by repeat (first | (with_reducible first | exact HB.out | apply below_alloc | apply pw_below_drewN | apply below_drew1) | exact HB.out)) hb); clear HO104; clear HB; have HO104 := n0_; have HB := n1_; clear n0_ n1_; (try clear hb); (try clear hb2); (try clear hk); (try clear hi)) | (go_at_call 28; (with_reducible refine (field_Trim.calls t107 t110 _ A15.out).mono ?_); rintro e w31 ⟨rfl, hb⟩; have n0_ := Aside0.mk (Kd.R_below (by (with_reducible repeat (first | apply Kd.R_alloc | apply Kd.R_drewN | apply Kd.R_drew)); exact HO104.out) hb); have n1_ := Aside0.mk (below_step (by repeat (first | (with_reducible first | exact HB.out | apply below_alloc | apply pw_below_drewN | apply below_drew1) | exact HB.out)) hb); clear HO104; clear HB; have HO104 := n0_; have HB := n1_; clear n0_ n1_; (try clear hb); (try clear hb2); (try clear hk); (try clear hi)) | (go_at_call 26; (with_reducible refine (field_Lower.calls t108 t111 _ A17.out).mono ?_); rintro e w32 ⟨rfl, hb⟩; have n0_ := Aside0.mk (Kd.R_below (by (with_reducible repeat (first | apply Kd.R_alloc | apply Kd.R_drewN | apply Kd.R_drew)); exact HO104.out) hb); have n1_ := Aside0.mk (below_step (by repeat (first | (with_reducible first | exact HB.out | apply below_alloc | apply pw_below_drewN | apply below_drew1) | exact HB.out)) hb); clear HO104; clear HB; have HO104 := n0_; have HB := n1_; clear n0_ n1_; (try clear hb); (try clear hb2); (try clear hk); (try clear hi)) | (go_at_call 24; (with_reducible refine (field_Name.calls k a0 t112 _ A20.out).mono ?_); rintro e w' ⟨rfl, ⟨nd, rfl⟩⟩) | (go_at_call 24; (with_reducible refine (field_Name.calls k t108 t113 _ A21.out).mono ?_); rintro e w' ⟨rfl, ⟨nd, rfl⟩⟩) | (go_at_call 17; (with_reducible refine (moatlaw3_awake.calls  t114 _ A24.out).mono ?_); rintro e w33 ⟨rfl, hb⟩; have n0_ := Aside0.mk (Kd.R_below (by (with_reducible repeat (first | apply Kd.R_alloc | apply Kd.R_drewN | apply Kd.R_drew)); exact HO104.out) hb); have n1_ := Aside0.mk (below_step (by repeat (first | (with_reducible first | exact HB.out | apply below_alloc | apply pw_below_drewN | apply below_drew1) | exact HB.out)) hb); clear HO104; clear HB; have HO104 := n0_; have HB := n1_; clear n0_ n1_; (try clear hb); (try clear hb2); (try clear hk); (try clear hi)))
                        go_ret
                        exact ⟨by first | rfl | (simp [errW_none, errW_some] <;> rfl) | (simp [*, errW_none, errW_some] <;> rfl) | (simp [isEmpty_bne, isEmpty_beq, errW_none, errW_some]; done) | (simp [*, isEmpty_bne, isEmpty_beq, errW_none, errW_some]; done), by repeat (first | (with_reducible first | exact HB.out | apply below_alloc | apply pw_below_drewN | apply below_drew1) | exact HB.out)⟩
                      · rw [if_neg c23] at H
                        have c23b0 : (t107.toList == ([] : List UInt8)) = false := beq_eq_false_iff_ne.mpr c23
                        (try (have c23b8 : t107.toList.isEmpty = false := by simpa using c23))
                        have c23b1 : (t107.toList != ([] : List UInt8)) = true := bne_iff_ne.mpr c23
                        by_cases c34 : 0 < (t107.size : Int)
                        · rw [if_pos c34] at H
                          have c34b0 : decide (0 < (t107.size : Int)) = true := decide_eq_true c34
                          have c34b1 : decide (0 < t107.size) = true := decide_eq_true (by omega)
                          clear c34
                          by_cases c36 : (bt t107 0) = 32
                          · rw [if_pos c36] at H
                            have c36b0 : ((bt t107 0) == 32) = true := beq_iff_eq.mpr c36
                            have c36b1 : ((bt t107 0) != 32) = false := bne_eq_false_iff_eq.mpr c36
                            clear c36
                            cases (Option.some.inj H).trans HRT.out
                          · rw [if_neg c36] at H
                            have c36b0 : ((bt t107 0) == 32) = false := beq_eq_false_iff_ne.mpr c36
                            have c36b1 : ((bt t107 0) != 32) = true := bne_iff_ne.mpr c36
                            by_cases c38 : (bt t107 0) = 9
                            · rw [if_pos c38] at H
                              have c38b0 : ((bt t107 0) == 9) = true := beq_iff_eq.mpr c38
                              have c38b1 : ((bt t107 0) != 9) = false := bne_eq_false_iff_eq.mpr c38
                              clear c38
                              cases (Option.some.inj H).trans HRT.out
                            · rw [if_neg c38] at H
                              have c38b0 : ((bt t107 0) == 9) = false := beq_eq_false_iff_ne.mpr c38
                              have c38b1 : ((bt t107 0) != 9) = true := bne_iff_ne.mpr c38
                              obtain ⟨ji39, hji39⟩ : ∃ j_ : Int, (wrap64 ((t107.size : Int) - 1)) = j_ := ⟨_, rfl⟩
                              replace H : (if 0 ≤ (ji39) then (if (ji39) < (t107.size : Int) then (if (bt t107 (ji39)) = 32 then (some false) else (if (bt t107 (ji39)) = 9 then (some false) else ((moatlaw3_awake.f).bind fun t115 => (some t115)))) else (none)) else (none)) = some r := by first | (rw [hji39] at H; exact H) | (simp only [hji39] at H ⊢; exact H)
                              (try rw [hji39] at A6)
                              (try rw [hji39] at A9)
                              (try rw [hji39] at A10)
                              (try rw [hji39] at A13)
                              (try rw [hji39] at A15)
                              (try rw [hji39] at A17)
                              (try rw [hji39] at A20)
                              (try rw [hji39] at A21)
                              have hji39w : (IntKind.i64.wrap ((t107.size : Int) - 1)) = ji39 := (i64_w _).trans hji39
                              by_cases c40 : 0 ≤ (ji39)
                              · rw [if_pos c40] at H
                                have c40b0 : decide (0 ≤ (ji39)) = true := decide_eq_true c40
                                clear c40
                                by_cases c41 : (ji39) < (t107.size : Int)
                                · rw [if_pos c41] at H
                                  have c41b0 : decide ((ji39) < (t107.size : Int)) = true := decide_eq_true c41
                                  clear c41
                                  by_cases c43 : (bt t107 (ji39)) = 32
                                  · rw [if_pos c43] at H
                                    have c43b0 : ((bt t107 (ji39)) == 32) = true := beq_iff_eq.mpr c43
                                    have c43b1 : ((bt t107 (ji39)) != 32) = false := bne_eq_false_iff_eq.mpr c43
                                    clear c43
                                    cases (Option.some.inj H).trans HRT.out
                                  · rw [if_neg c43] at H
                                    have c43b0 : ((bt t107 (ji39)) == 32) = false := beq_eq_false_iff_ne.mpr c43
                                    have c43b1 : ((bt t107 (ji39)) != 32) = true := bne_iff_ne.mpr c43
                                    by_cases c45 : (bt t107 (ji39)) = 9
                                    · rw [if_pos c45] at H
                                      have c45b0 : ((bt t107 (ji39)) == 9) = true := beq_iff_eq.mpr c45
                                      have c45b1 : ((bt t107 (ji39)) != 9) = false := bne_eq_false_iff_eq.mpr c45
                                      clear c45
                                      cases (Option.some.inj H).trans HRT.out
                                    · rw [if_neg c45] at H
                                      have c45b0 : ((bt t107 (ji39)) == 9) = false := beq_eq_false_iff_ne.mpr c45
                                      have c45b1 : ((bt t107 (ji39)) != 9) = true := bne_iff_ne.mpr c45
                                      replace H := Option.bind_eq_some_iff.mp H
                                      obtain ⟨t115, A460, H⟩ := H
                                      replace H : (some t115) = some r := H
                                      have A46 := Aside0.mk A460
                                      clear A460
                                      obtain rfl := Option.some.inj H
                                      go_enter Tryd.func6, Tryd.ntmps6
                                      go_wp2_with (first | ((with_reducible refine gate_dst (N := 12) rfl ?_); (try (refine gate_guard (by rfl) ?_; dsimp only)); refine Kd.R_lit Kd.string _ 9 ?hg (N := 12) ?hd (xs := ([(⟨#[]⟩ : ByteArray), (⟨#[32]⟩ : ByteArray), (⟨#[9]⟩ : ByteArray), (⟨#[32, 9, 32]⟩ : ByteArray), (⟨#[9, 9]⟩ : ByteArray)] : List ByteArray)) (inner := [.string (⟨#[]⟩ : ByteArray), .string (⟨#[32]⟩ : ByteArray), .string (⟨#[9]⟩ : ByteArray), .string (⟨#[32, 9, 32]⟩ : ByteArray), .string (⟨#[9, 9]⟩ : ByteArray)]) (ok := fun _ => True) (okp := fun _ => True) ?hr ?hp (fun _ hk => hk) trivial (Below.refl _ _) (Nat.le_refl _) (by simp) ?_; (case hd => rfl); (case hg => rfl); (case hr => first | (go_simp; done) | (go_simp; rfl)); (case hp => exact (Reps.one (show Kd.M Kd.string _ _ _ (⟨#[]⟩ : ByteArray) [.string (⟨#[]⟩ : ByteArray)] from rfl) (Reps.one (show Kd.M Kd.string _ _ _ (⟨#[32]⟩ : ByteArray) [.string (⟨#[32]⟩ : ByteArray)] from rfl) (Reps.one (show Kd.M Kd.string _ _ _ (⟨#[9]⟩ : ByteArray) [.string (⟨#[9]⟩ : ByteArray)] from rfl) (Reps.one (show Kd.M Kd.string _ _ _ (⟨#[32, 9, 32]⟩ : ByteArray) [.string (⟨#[32, 9, 32]⟩ : ByteArray)] from rfl) (Reps.one (show Kd.M Kd.string _ _ _ (⟨#[9, 9]⟩ : ByteArray) [.string (⟨#[9, 9]⟩ : ByteArray)] from rfl) (Reps.none _ _))))))); intro v103 w47 ho48 hb hg_ hnew_; clear hg_ hnew_; (first | rw [← Ny102.out] at ho48 | (simp only [Int.reduceToNat] at ho48; rw [← Ny102.out] at ho48)); have n0_ := Aside0.mk (Kd.R_lower ho48 (below_size (by repeat (first | (with_reducible first | exact HB.out | apply below_alloc | apply pw_below_drewN | apply below_drew1) | exact HB.out)))); have n1_ := Aside0.mk (below_step (by repeat (first | (with_reducible first | exact HB.out | apply below_alloc | apply pw_below_drewN | apply below_drew1) | exact HB.out)) hb); clear HB; have HO104 := n0_; have HB := n1_; clear n0_ n1_; clear hb ho48) | ((with_reducible refine gate_callee (f := 30) rfl ?_); refine goesL_ (some 14) rfl rfl Tryd.func30 (by kernel_rfl) rfl #[.int .i64 a1, .int .i64 5] rfl (by (try simp only [List.map_toArray, List.map_cons, List.map_nil]); first | done | rfl | (simp only [List.length_drop, List.length_take]; rfl)) ?_; (with_reducible refine (moatlaw0_Low.calls a1 5 t105 _ A6.out).mono ?_); rintro e w' ⟨rfl, ⟨nd, rfl⟩⟩; refine ⟨_, rfl, ?_⟩; obtain ⟨Ao49, co49, eo49⟩ := Kd.R_slice HO104.out; subst eo49; have p106 : 0 ≤ (t105 : Int) := of_decide_eq_true (by first | (with_reducible assumption) | assumption); have q106 : t105 < (y102.length : Int) := of_decide_eq_true (by first | (with_reducible assumption) | assumption); obtain ⟨ad106, e106, hx106_0⟩ := Kd.at_string (Kd.R_reads' HO104.out).2.2 t105 p106 q106; cases e106; replace p106 := eq_true p106; replace q106 := eq_true q106) | ((with_reducible refine gate_callee (f := 28) rfl ?_); refine goesL_ (some 18) rfl rfl Tryd.func28 (by kernel_rfl) rfl #[.string a0] rfl (by (try simp only [List.map_toArray, List.map_cons, List.map_nil]); first | done | rfl | (simp only [List.length_drop, List.length_take]; rfl)) ?_; (with_reducible refine (field_Trim.calls a0 t107 _ A9.out).mono ?_); rintro e w50 ⟨rfl, hb⟩; refine ⟨_, rfl, ?_⟩; have n0_ := Aside0.mk (Kd.R_below (by (with_reducible repeat (first | apply Kd.R_alloc | apply Kd.R_drewN | apply Kd.R_drew)); exact HO104.out) hb); have n1_ := Aside0.mk (below_step (by repeat (first | (with_reducible first | exact HB.out | apply below_alloc | apply pw_below_drewN | apply below_drew1) | exact HB.out)) hb); clear HO104; clear HB; have HO104 := n0_; have HB := n1_; clear n0_ n1_; (try clear hb); (try clear hb2); (try clear hk); (try clear hi)) | ((with_reducible refine gate_callee (f := 26) rfl ?_); refine goesL_ (some 20) rfl rfl Tryd.func26 (by kernel_rfl) rfl #[.string a0] rfl (by (try simp only [List.map_toArray, List.map_cons, List.map_nil]); first | done | rfl | (simp only [List.length_drop, List.length_take]; rfl)) ?_; (with_reducible refine (field_Lower.calls a0 t108 _ A10.out).mono ?_); rintro e w51 ⟨rfl, hb⟩; refine ⟨_, rfl, ?_⟩; have n0_ := Aside0.mk (Kd.R_below (by (with_reducible repeat (first | apply Kd.R_alloc | apply Kd.R_drewN | apply Kd.R_drew)); exact HO104.out) hb); have n1_ := Aside0.mk (below_step (by repeat (first | (with_reducible first | exact HB.out | apply below_alloc | apply pw_below_drewN | apply below_drew1) | exact HB.out)) hb); clear HO104; clear HB; have HO104 := n0_; have HB := n1_; clear n0_ n1_; (try clear hb); (try clear hb2); (try clear hk); (try clear hi)) | ((with_reducible refine gate_callee (f := 28) rfl ?_); refine goesL_ (some 26) rfl rfl Tryd.func28 (by kernel_rfl) rfl #[.string (((rdOf ByteArray.empty y102 t105) ++ a0) ++ (rdOf ByteArray.empty y102 t105))] rfl (by (try simp only [List.map_toArray, List.map_cons, List.map_nil]); first | done | rfl | (simp only [List.length_drop, List.length_take]; rfl)) ?_; (with_reducible refine (field_Trim.calls (((rdOf ByteArray.empty y102 t105) ++ a0) ++ (rdOf ByteArray.empty y102 t105)) t109 _ A13.out).mono ?_); rintro e w52 ⟨rfl, hb⟩; refine ⟨_, rfl, ?_⟩; have n0_ := Aside0.mk (Kd.R_below (by (with_reducible repeat (first | apply Kd.R_alloc | apply Kd.R_drewN | apply Kd.R_drew)); exact HO104.out) hb); have n1_ := Aside0.mk (below_step (by repeat (first | (with_reducible first | exact HB.out | apply below_alloc | apply pw_below_drewN | apply below_drew1) | exact HB.out)) hb); clear HO104; clear HB; have HO104 := n0_; have HB := n1_; clear n0_ n1_; (try clear hb); (try clear hb2); (try clear hk); (try clear hi)) | (go_at_call 28; (with_reducible refine (field_Trim.calls t107 t110 _ A15.out).mono ?_); rintro e w53 ⟨rfl, hb⟩; have n0_ := Aside0.mk (Kd.R_below (by (with_reducible repeat (first | apply Kd.R_alloc | apply Kd.R_drewN | apply Kd.R_drew)); exact HO104.out) hb); have n1_ := Aside0.mk (below_step (by repeat (first | (with_reducible first | exact HB.out | apply below_alloc | apply pw_below_drewN | apply below_drew1) | exact HB.out)) hb); clear HO104; clear HB; have HO104 := n0_; have HB := n1_; clear n0_ n1_; (try clear hb); (try clear hb2); (try clear hk); (try clear hi)) | (go_at_call 26; (with_reducible refine (field_Lower.calls t108 t111 _ A17.out).mono ?_); rintro e w54 ⟨rfl, hb⟩; have n0_ := Aside0.mk (Kd.R_below (by (with_reducible repeat (first | apply Kd.R_alloc | apply Kd.R_drewN | apply Kd.R_drew)); exact HO104.out) hb); have n1_ := Aside0.mk (below_step (by repeat (first | (with_reducible first | exact HB.out | apply below_alloc | apply pw_below_drewN | apply below_drew1) | exact HB.out)) hb); clear HO104; clear HB; have HO104 := n0_; have HB := n1_; clear n0_ n1_; (try clear hb); (try clear hb2); (try clear hk); (try clear hi)) | (go_at_call 24; (with_reducible refine (field_Name.calls k a0 t112 _ A20.out).mono ?_); rintro e w' ⟨rfl, ⟨nd, rfl⟩⟩) | (go_at_call 24; (with_reducible refine (field_Name.calls k t108 t113 _ A21.out).mono ?_); rintro e w' ⟨rfl, ⟨nd, rfl⟩⟩; have p35 : 0 ≤ (0 : Int) := (by omega); have q35 : 0 < t107.size := (by have : (0 : Int) < (t107.size : Int) := of_decide_eq_true (by first | (with_reducible assumption) | assumption); omega); have hx35 : ∀ h : 0 < t107.size, ((t107[0]'h).toNat : Int) = bt t107 0 := bt_at t107 0; clear p35; have qi35 : (0 < (t107.size : Int)) = True := eq_true (of_decide_eq_true (by first | (with_reducible assumption) | assumption)); replace q35 := eq_true q35; have p37 : 0 ≤ (0 : Int) := (by omega); have q37 : 0 < t107.size := (by have : (0 : Int) < (t107.size : Int) := of_decide_eq_true (by first | (with_reducible assumption) | assumption); omega); have hx37 : ∀ h : 0 < t107.size, ((t107[0]'h).toNat : Int) = bt t107 0 := bt_at t107 0; clear p37; have qi37 : (0 < (t107.size : Int)) = True := eq_true (of_decide_eq_true (by first | (with_reducible assumption) | assumption)); replace q37 := eq_true q37; have p42 : 0 ≤ ((ji39) : Int) := of_decide_eq_true (by first | (with_reducible assumption) | assumption); have q42 : (ji39) < (t107.size : Int) := of_decide_eq_true (by first | (with_reducible assumption) | assumption); have hx42 := bt_at t107 (ji39); replace p42 := eq_true p42; replace q42 := eq_true q42; have p44 : 0 ≤ ((ji39) : Int) := of_decide_eq_true (by first | (with_reducible assumption) | assumption); have q44 : (ji39) < (t107.size : Int) := of_decide_eq_true (by first | (with_reducible assumption) | assumption); have hx44 := bt_at t107 (ji39); replace p44 := eq_true p44; replace q44 := eq_true q44) | (go_at_call 17; (with_reducible refine (moatlaw3_awake.calls  t115 _ A46.out).mono ?_); rintro e w55 ⟨rfl, hb⟩; have n0_ := Aside0.mk (Kd.R_below (by (with_reducible repeat (first | apply Kd.R_alloc | apply Kd.R_drewN | apply Kd.R_drew)); exact HO104.out) hb); have n1_ := Aside0.mk (below_step (by repeat (first | (with_reducible first | exact HB.out | apply below_alloc | apply pw_below_drewN | apply below_drew1) | exact HB.out)) hb); clear HO104; clear HB; have HO104 := n0_; have HB := n1_; clear n0_ n1_; (try clear hb); (try clear hb2); (try clear hk); (try clear hi)))
                                      go_ret
                                      exact ⟨by first | rfl | (simp [errW_none, errW_some] <;> rfl) | (simp only [← hji39]; first | rfl | (simp [errW_none, errW_some] <;> rfl)) | (simp [*, errW_none, errW_some] <;> rfl) | (simp [isEmpty_bne, isEmpty_beq, errW_none, errW_some]; done) | (simp [*, isEmpty_bne, isEmpty_beq, errW_none, errW_some]; done), by repeat (first | (with_reducible first | exact HB.out | apply below_alloc | apply pw_below_drewN | apply below_drew1) | exact HB.out)⟩
                                · rw [if_neg c41] at H
                                  exact absurd H (by simp)
                              · rw [if_neg c40] at H
                                exact absurd H (by simp)
                        · rw [if_neg c34] at H
                          exact absurd H (by simp)
                  · rw [if_neg c19] at H
                    have c19b0 : ((t108.size : Int) == (a0.size : Int)) = false := beq_eq_false_iff_ne.mpr c19
                    have c19b1 : ((t108.size : Int) != (a0.size : Int)) = true := bne_iff_ne.mpr c19
                    have c19b2 : (t108.size == a0.size) = false := by first | simpa using c19 | (simp at c19 ⊢; omega)
                    cases (Option.some.inj H).trans HRT.out
                · rw [if_neg c18] at H
                  have c18b0 : (t111.toList == t108.toList) = false := beq_eq_false_iff_ne.mpr c18
                  have c18b1 : (t111.toList != t108.toList) = true := bne_iff_ne.mpr c18
                  cases (Option.some.inj H).trans HRT.out
              · rw [if_neg c16] at H
                have c16b0 : (t110.toList == t107.toList) = false := beq_eq_false_iff_ne.mpr c16
                have c16b1 : (t110.toList != t107.toList) = true := bne_iff_ne.mpr c16
                cases (Option.some.inj H).trans HRT.out
            · rw [if_neg c14] at H
              have c14b0 : (t109.toList == t107.toList) = false := beq_eq_false_iff_ne.mpr c14
              have c14b1 : (t109.toList != t107.toList) = true := bne_iff_ne.mpr c14
              cases (Option.some.inj H).trans HRT.out
          · rw [if_neg c12] at H
            exact absurd H (by simp)
        · rw [if_neg c11] at H
          exact absurd H (by simp)
      · rw [if_neg c8] at H
        exact absurd H (by simp)
    · rw [if_neg c7] at H
      exact absurd H (by simp)

/-- THE ONE PURE STATEMENT of moatlaw3_FieldTrims: yours. -/
def moatlaw3_FieldTrims.Pure : Prop := ∀ (a0 : ByteArray) (a1 : Int), a0.size ≤ 140737488351232 → (Lit.int .i64 a1).wf = true → ∃ k, moatlaw3_FieldTrims.f k a0 a1 = some true
theorem moatlaw3_FieldTrims.walk (P : moatlaw3_FieldTrims.Pure) (a0 : ByteArray) (a1 : Int) (w : World) (w0 : a0.size ≤ 140737488351232) (w1 : (Lit.int .i64 a1).wf = true) :
    Calls Tryd.prog 6 #[.string a0, .int .i64 a1] w fun e w' => e = .returned (.bool true) ∧ Below w.heap.size w w' := by
  obtain ⟨k, h⟩ := P a0 a1 w0 w1
  refine (moatlaw3_FieldTrims.calls k a0 a1 true w h rfl).mono ?_
  rintro e w' ⟨rfl, hd⟩
  exact ⟨rfl, hd⟩

end Go.Proofs.YtfmppmabnpkooaaDoor.BH
