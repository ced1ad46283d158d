-- Printed for this claim by the kit's print.py over given contracts (wip/myprint.py). Not trusted: Lean checks it.
import Derived.Test.YtfmppmabnpkooaaDoorBIx0
namespace Go.Proofs.YtfmppmabnpkooaaDoor.BI
open Go.RowKit Go.Proofs.YtfmppmabnpkooaaDoorW.PrintWords Go.Proofs.YtfmppmabnpkooaaDoorW.PrintLast Go.Proofs.YtfmppmabnpkooaaDoorW.PrintMore Go.Proofs.YtfmppmabnpkooaaDoor.BF
attribute [local go_sem] max2_int min2_int max_two min_two max_three min_three max_four min_four   -- for this text's walks alone
set_option linter.unusedVariables false
set_option linter.unusedSimpArgs false

/-! ### moatlaw3_FieldLists: function 4 -/
mutual
def moatlaw3_FieldLists.l0 : Nat → List Int → Int → Bool → List ByteArray → List ByteArray → ByteArray → List ByteArray → Int → Option (Bool)
  | 0, _, _, _, _, _, _, _, _ => none
  | k + 1, x0, x1, x2, x7, x8, x9, x10, x11 => if x11 < (x0.length : Int) then (if 0 ≤ x11 then ((moatlaw0_Low.f (rd x0 x11) 6).bind fun t109 => ((some (([(⟨#[]⟩ : ByteArray), (⟨#[32]⟩ : ByteArray), (⟨#[9]⟩ : ByteArray), (⟨#[32, 32]⟩ : ByteArray)] : List ByteArray) : List ByteArray)).bind fun y110 => (if 0 ≤ (wrap64 (2 * x11)) then (if 0 ≤ (Go.bits .and .i64 (shr .i64 x1 (wrap64 (2 * x11))) 3) then (if (Go.bits .and .i64 (shr .i64 x1 (wrap64 (2 * x11))) 3) < (y110.length : Int) then (if x9.size + (rdOf ByteArray.empty y110 (Go.bits .and .i64 (shr .i64 x1 (wrap64 (2 * x11))) 3)).size ≤ 9223372036854775807 then (if 0 ≤ t109 then (if t109 < (x7.length : Int) then (if (x9 ++ (rdOf ByteArray.empty y110 (Go.bits .and .i64 (shr .i64 x1 (wrap64 (2 * x11))) 3))).size + (rdOf ByteArray.empty x7 t109).size ≤ 9223372036854775807 then ((some (([(⟨#[]⟩ : ByteArray), (⟨#[32]⟩ : ByteArray), (⟨#[44]⟩ : ByteArray), (⟨#[9, 32, 44]⟩ : ByteArray)] : List ByteArray) : List ByteArray)).bind fun y115 => (if 0 ≤ (wrap64 (x11 + 3)) then (if 0 ≤ (Go.bits .and .i64 (shr .i64 x1 (wrap64 (x11 + 3))) 3) then (if (Go.bits .and .i64 (shr .i64 x1 (wrap64 (x11 + 3))) 3) < (y115.length : Int) then (if ((x9 ++ (rdOf ByteArray.empty y110 (Go.bits .and .i64 (shr .i64 x1 (wrap64 (2 * x11))) 3))) ++ (rdOf ByteArray.empty x7 t109)).size + (rdOf ByteArray.empty y115 (Go.bits .and .i64 (shr .i64 x1 (wrap64 (x11 + 3))) 3)).size ≤ 9223372036854775807 then (if (((x9 ++ (rdOf ByteArray.empty y110 (Go.bits .and .i64 (shr .i64 x1 (wrap64 (2 * x11))) 3))) ++ (rdOf ByteArray.empty x7 t109)) ++ (rdOf ByteArray.empty y115 (Go.bits .and .i64 (shr .i64 x1 (wrap64 (x11 + 3))) 3))).size + 1 ≤ 9223372036854775807 then (if t109 < (x8.length : Int) then (if x10.length < 8796093022208 then (moatlaw3_FieldLists.l0 k x0 x1 x2 x7 x8 ((((x9 ++ (rdOf ByteArray.empty y110 (Go.bits .and .i64 (shr .i64 x1 (wrap64 (2 * x11))) 3))) ++ (rdOf ByteArray.empty x7 t109)) ++ (rdOf ByteArray.empty y115 (Go.bits .and .i64 (shr .i64 x1 (wrap64 (x11 + 3))) 3))) ++ (⟨#[44]⟩ : ByteArray)) (x10 ++ [rdOf ByteArray.empty x8 t109]) (wrap64 (x11 + 1))) else (none)) else (none)) else (none)) else (none)) else (none)) else (none)) else (none))) else (none)) else (none)) else (none)) else (none)) else (none)) else (none)) else (none)))) else (none)) else (if x2 = true then (if x9.size + 3 ≤ 9223372036854775807 then (moatlaw3_FieldLists.j1 k x2 (x9 ++ (⟨#[97, 32, 98]⟩ : ByteArray)) x10) else (none)) else (moatlaw3_FieldLists.j1 k x2 x9 x10))
def moatlaw3_FieldLists.j1 : Nat → Bool → ByteArray → List ByteArray → Option (Bool)
  | 0, _, _, _ => none
  | k + 1, x2, x9, x10 => (field_List.f x9).bind fun bt123 => (if x2 = true then (if bt123.2 = true then (some false) else (if (bt123.1.length : Int) = 0 then ((moatlaw3_awake.f).bind fun t127 => (some t127)) else (some false))) else (if bt123.2 = true then ((moatlaw0_SameTexts.f k bt123.1 x10).bind fun t128 => (if t128 = true then ((moatlaw3_awake.f).bind fun t129 => (some t129)) else (some false))) else (some false)))
end
def moatlaw3_FieldLists.f (k : Nat) (l0 : List Int) (a1 : Int) (a2 : Bool) : Option (Bool) := if (l0.length : Int) > 10 then ((moatlaw3_awake.f).bind fun t101 => (some t101)) else (moatlaw3_FieldLists.l0 k l0 a1 a2 (([(⟨#[88, 45, 84, 111, 107, 101, 110]⟩ : ByteArray), (⟨#[97, 99, 99, 101, 112, 116]⟩ : ByteArray), (⟨#[97]⟩ : ByteArray), (⟨#[67, 111, 110, 116, 101, 110, 116, 45, 84, 121, 112, 101]⟩ : ByteArray), (⟨#[33, 120]⟩ : ByteArray), (⟨#[90, 57]⟩ : ByteArray)] : List ByteArray)) (([(⟨#[120, 45, 116, 111, 107, 101, 110]⟩ : ByteArray), (⟨#[97, 99, 99, 101, 112, 116]⟩ : ByteArray), (⟨#[97]⟩ : ByteArray), (⟨#[99, 111, 110, 116, 101, 110, 116, 45, 116, 121, 112, 101]⟩ : ByteArray), (⟨#[33, 120]⟩ : ByteArray), (⟨#[122, 57]⟩ : ByteArray)] : List ByteArray)) (⟨#[]⟩ : ByteArray) ([] : List ByteArray) 0)
theorem moatlaw3_FieldLists.mono_l : ∀ k, (∀ y0 y1 y2 y3 y4 y5 y6 y7, LeO (moatlaw3_FieldLists.l0 k y0 y1 y2 y3 y4 y5 y6 y7) (moatlaw3_FieldLists.l0 (k + 1) y0 y1 y2 y3 y4 y5 y6 y7)) ∧ (∀ y0 y1 y2, LeO (moatlaw3_FieldLists.j1 k y0 y1 y2) (moatlaw3_FieldLists.j1 (k + 1) y0 y1 y2))
  | 0 => ⟨fun _ _ _ _ _ _ _ _ r h => by simp [moatlaw3_FieldLists.l0] at h, fun _ _ _ r h => by simp [moatlaw3_FieldLists.j1] at h⟩
  | k + 1 => by
    obtain ⟨ih0, ih1⟩ := moatlaw3_FieldLists.mono_l k
    refine ⟨?_, ?_⟩
    · intro y0 y1 y2 y3 y4 y5 y6 y7
      unfold moatlaw3_FieldLists.l0
      repeat' first
      | (with_reducible exact ih0 _ _ _ _ _ _ _ _)
      | (with_reducible exact ih1 _ _ _)
      | (with_reducible exact moatlaw0_SameTexts.mono _ _ _)
      | (with_reducible exact LeO.refl _)
      | (with_reducible exact LeO.none _)
      | (with_reducible refine LeO.ite ?_ ?_)
      | (with_reducible refine LeO.bind ?_ (fun _ => ?_))
      | exact ih0 _ _ _ _ _ _ _ _
      | exact ih1 _ _ _
      | exact moatlaw0_SameTexts.mono _ _ _
      | exact LeO.none _
      | refine LeO.ite ?_ ?_
      | refine LeO.bind ?_ (fun _ => ?_)
    · intro y0 y1 y2
      unfold moatlaw3_FieldLists.j1
      repeat' first
      | (with_reducible exact ih0 _ _ _ _ _ _ _ _)
      | (with_reducible exact ih1 _ _ _)
      | (with_reducible exact moatlaw0_SameTexts.mono _ _ _)
      | (with_reducible exact LeO.refl _)
      | (with_reducible exact LeO.none _)
      | (with_reducible refine LeO.ite ?_ ?_)
      | (with_reducible refine LeO.bind ?_ (fun _ => ?_))
      | exact ih0 _ _ _ _ _ _ _ _
      | exact ih1 _ _ _
      | exact moatlaw0_SameTexts.mono _ _ _
      | exact LeO.none _
      | refine LeO.ite ?_ ?_
      | refine LeO.bind ?_ (fun _ => ?_)
theorem moatlaw3_FieldLists.mono : ∀ a0 a1 a2 k, LeO (moatlaw3_FieldLists.f k a0 a1 a2) (moatlaw3_FieldLists.f (k + 1) a0 a1 a2) := by
  intro a0 a1 a2 k
  obtain ⟨ih0, ih1⟩ := moatlaw3_FieldLists.mono_l k
  unfold moatlaw3_FieldLists.f
  repeat' first
      | (with_reducible exact ih0 _ _ _ _ _ _ _ _)
      | (with_reducible exact ih1 _ _ _)
      | (with_reducible exact moatlaw0_SameTexts.mono _ _ _)
      | (with_reducible exact LeO.refl _)
      | (with_reducible exact LeO.none _)
      | (with_reducible refine LeO.ite ?_ ?_)
      | (with_reducible refine LeO.bind ?_ (fun _ => ?_))
      | exact ih0 _ _ _ _ _ _ _ _
      | exact ih1 _ _ _
      | exact moatlaw0_SameTexts.mono _ _ _
      | exact LeO.none _
      | refine LeO.ite ?_ ?_
      | refine LeO.bind ?_ (fun _ => ?_)
def moatlaw3_FieldLists.T11 : Bool × List (List Nat × List Nat) := (true, [([], []), ([], []), ([], []), ([], []), ([3], [3]), ([2, 4], [2, 4]), ([5], [5]), ([1, 6], [1, 6]), ([7], [7]), ([0, 8], [0, 8]), ([], []), ([], []), ([10, 11], [10, 11]), ([12], [12]), ([9, 13], [9, 13]), ([], []), ([], []), ([], []), ([17], [17]), ([16, 18], [16, 18]), ([19], [19]), ([15, 20], [15, 20]), ([21], [21]), ([14, 22], [14, 22]), ([23], [23]), ([24, 0, 1, 2, 3, 4, 5, 6, 7, 8, 9, 10, 11, 12, 13, 14, 15, 16, 17, 18, 19, 20, 21, 22, 23, 24], [0, 24])])
def moatlaw3_FieldLists.B11 : List Nat := [0, 0, 0, 0, 8, 28, 60, 126, 254, 511, 0, 0, 3072, 7168, 16383, 0, 0, 0, 131072, 458752, 983040, 2064384, 4161536, 8388607, 16777215, 33554431]
theorem moatlaw3_FieldLists.tab11 : rtab .any (opsOf Tryd.f4 11) = moatlaw3_FieldLists.T11 := by kernel_rfl
theorem moatlaw3_FieldLists.bits11 : waitsOk moatlaw3_FieldLists.T11.2 moatlaw3_FieldLists.B11 = true := by kernel_rfl
set_option maxHeartbeats 2000000 in
set_option maxRecDepth 100000 in
theorem moatlaw3_FieldLists.calls (k : Nat) (A0 : Option Addr) (c0 : Nat) (l0 : List Int) (a1 : Int) (a2 : Bool) (r : Bool) (w : World) (hr0 : Kd.C (Kd.int .i64) w A0 l0.length l0) (hc0 : l0.length ≤ c0) (h : moatlaw3_FieldLists.f k l0 a1 a2 = some r) (hrt : r = true) :
    Calls Tryd.prog 4 #[.slice A0 l0.length c0, .int .i64 a1, .bool a2] w fun e w' => e = .returned (.bool r) ∧ Below w.heap.size w w' := by
  have HRT := Aside0.mk hrt
  clear hrt
  have HR0 := Aside0.mk hr0
  have HC0 := Aside0.mk hc0
  clear hr0 hc0
  have HB := Aside0.mk (Below.refl w.heap.size w)
  have H : (if (l0.length : Int) > 10 then ((moatlaw3_awake.f).bind fun t101 => (some t101)) else (moatlaw3_FieldLists.l0 k l0 a1 a2 (([(⟨#[88, 45, 84, 111, 107, 101, 110]⟩ : ByteArray), (⟨#[97, 99, 99, 101, 112, 116]⟩ : ByteArray), (⟨#[97]⟩ : ByteArray), (⟨#[67, 111, 110, 116, 101, 110, 116, 45, 84, 121, 112, 101]⟩ : ByteArray), (⟨#[33, 120]⟩ : ByteArray), (⟨#[90, 57]⟩ : ByteArray)] : List ByteArray)) (([(⟨#[120, 45, 116, 111, 107, 101, 110]⟩ : ByteArray), (⟨#[97, 99, 99, 101, 112, 116]⟩ : ByteArray), (⟨#[97]⟩ : ByteArray), (⟨#[99, 111, 110, 116, 101, 110, 116, 45, 116, 121, 112, 101]⟩ : ByteArray), (⟨#[33, 120]⟩ : ByteArray), (⟨#[122, 57]⟩ : ByteArray)] : List ByteArray)) (⟨#[]⟩ : ByteArray) ([] : List ByteArray) 0)) = some r := h
  clear h
  by_cases c4 : (l0.length : Int) > 10
  · rw [if_pos c4] at H
    have c4b0 : decide (10 < (l0.length : Int)) = true := decide_eq_true c4
    have c4b1 : decide (10 < l0.length) = true := decide_eq_true (by omega)
    clear c4
    replace H := Option.bind_eq_some_iff.mp H
    obtain ⟨t101, A50, H⟩ := H
    replace H : (some t101) = some r := H
    have A5 := Aside0.mk A50
    clear A50
    obtain rfl := Option.some.inj H
    go_enter Tryd.func4, Tryd.ntmps4
    go_wp2_with (first | ((with_reducible refine gate_callee (f := 17) rfl ?_); refine goesL_ (some 18) rfl rfl Tryd.func17 (by kernel_rfl) rfl #[] rfl (by (try simp only [List.map_toArray, List.map_cons, List.map_nil]); first | done | rfl | (simp only [List.length_drop, List.length_take]; rfl)) ?_; (with_reducible refine (moatlaw3_awake.calls  t101 _ A5.out).mono ?_); rintro e w6 ⟨rfl, hb⟩; refine ⟨_, rfl, ?_⟩; have n0_ := Aside0.mk (below_step (by repeat (first | (with_reducible first | exact HB.out | apply below_alloc | apply pw_below_drewN | apply below_drew1) | exact HB.out)) hb); clear HB; have HB := n0_; clear n0_; (try clear hb); (try clear hb2); (try clear hk); (try clear hi)))
    go_ret
    exact ⟨by first | rfl | (simp [errW_none, errW_some] <;> rfl) | (simp [*, errW_none, errW_some] <;> rfl) | (simp [isEmpty_bne, isEmpty_beq, errW_none, errW_some]; done) | (simp [*, isEmpty_bne, isEmpty_beq, errW_none, errW_some]; done), by repeat (first | (with_reducible first | exact HB.out | apply below_alloc | apply pw_below_drewN | apply below_drew1) | exact HB.out)⟩
  · rw [if_neg c4] at H
    have c4b0 : decide (10 < (l0.length : Int)) = false := decide_eq_false c4
    have c4b1 : decide (10 < l0.length) = false := decide_eq_false (by omega)
    clear c4
    obtain ⟨y102, hy102⟩ : ∃ y_ : List ByteArray, y_ = (([(⟨#[88, 45, 84, 111, 107, 101, 110]⟩ : ByteArray), (⟨#[97, 99, 99, 101, 112, 116]⟩ : ByteArray), (⟨#[97]⟩ : ByteArray), (⟨#[67, 111, 110, 116, 101, 110, 116, 45, 84, 121, 112, 101]⟩ : ByteArray), (⟨#[33, 120]⟩ : ByteArray), (⟨#[90, 57]⟩ : ByteArray)] : List ByteArray)) := ⟨_, rfl⟩
    replace H : (moatlaw3_FieldLists.l0 k l0 a1 a2 y102 (([(⟨#[120, 45, 116, 111, 107, 101, 110]⟩ : ByteArray), (⟨#[97, 99, 99, 101, 112, 116]⟩ : ByteArray), (⟨#[97]⟩ : ByteArray), (⟨#[99, 111, 110, 116, 101, 110, 116, 45, 116, 121, 112, 101]⟩ : ByteArray), (⟨#[33, 120]⟩ : ByteArray), (⟨#[122, 57]⟩ : ByteArray)] : List ByteArray)) (⟨#[]⟩ : ByteArray) ([] : List ByteArray) 0) = some r := by first | (rw [hy102]; with_reducible exact H) | (have H2_ := (Option.bind_some _ _).symm.trans H; rw [hy102]; with_reducible exact H2_) | (have H2_ := (Option.bind_some _ _).symm.trans H; with_reducible exact H2_) | with_reducible exact H | (rw [hy102]; exact H) | exact H
    have Ny102 := Aside0.mk hy102
    clear hy102
    obtain ⟨y105, hy105⟩ : ∃ y_ : List ByteArray, y_ = (([(⟨#[120, 45, 116, 111, 107, 101, 110]⟩ : ByteArray), (⟨#[97, 99, 99, 101, 112, 116]⟩ : ByteArray), (⟨#[97]⟩ : ByteArray), (⟨#[99, 111, 110, 116, 101, 110, 116, 45, 116, 121, 112, 101]⟩ : ByteArray), (⟨#[33, 120]⟩ : ByteArray), (⟨#[122, 57]⟩ : ByteArray)] : List ByteArray)) := ⟨_, rfl⟩
    replace H : (moatlaw3_FieldLists.l0 k l0 a1 a2 y102 y105 (⟨#[]⟩ : ByteArray) ([] : List ByteArray) 0) = some r := by first | (rw [hy105]; with_reducible exact H) | (have H2_ := (Option.bind_some _ _).symm.trans H; rw [hy105]; with_reducible exact H2_) | (have H2_ := (Option.bind_some _ _).symm.trans H; with_reducible exact H2_) | with_reducible exact H | (rw [hy105]; exact H) | exact H
    have Ny105 := Aside0.mk hy105
    clear hy105
    have H' := Aside0.mk H
    clear H
    go_enter Tryd.func4, Tryd.ntmps4
    go_wp2_with (first | ((with_reducible refine gate_dst (N := 19) rfl ?_); (try (refine gate_guard (by rfl) ?_; dsimp only)); refine Kd.R_lit Kd.string _ 9 ?hg (N := 19) ?hd (xs := ([(⟨#[88, 45, 84, 111, 107, 101, 110]⟩ : ByteArray), (⟨#[97, 99, 99, 101, 112, 116]⟩ : ByteArray), (⟨#[97]⟩ : ByteArray), (⟨#[67, 111, 110, 116, 101, 110, 116, 45, 84, 121, 112, 101]⟩ : ByteArray), (⟨#[33, 120]⟩ : ByteArray), (⟨#[90, 57]⟩ : ByteArray)] : List ByteArray)) (inner := [.string (⟨#[88, 45, 84, 111, 107, 101, 110]⟩ : ByteArray), .string (⟨#[97, 99, 99, 101, 112, 116]⟩ : ByteArray), .string (⟨#[97]⟩ : ByteArray), .string (⟨#[67, 111, 110, 116, 101, 110, 116, 45, 84, 121, 112, 101]⟩ : ByteArray), .string (⟨#[33, 120]⟩ : ByteArray), .string (⟨#[90, 57]⟩ : ByteArray)]) (ok := fun _ => True) (okp := fun _ => True) ?hr ?hp (fun _ hk => hk) trivial (Below.refl _ _) (Nat.le_refl _) (by simp) ?_; (case hd => rfl); (case hg => rfl); (case hr => first | (go_simp; done) | (go_simp; rfl)); (case hp => exact (Reps.one (show Kd.M Kd.string _ _ _ (⟨#[88, 45, 84, 111, 107, 101, 110]⟩ : ByteArray) [.string (⟨#[88, 45, 84, 111, 107, 101, 110]⟩ : ByteArray)] from rfl) (Reps.one (show Kd.M Kd.string _ _ _ (⟨#[97, 99, 99, 101, 112, 116]⟩ : ByteArray) [.string (⟨#[97, 99, 99, 101, 112, 116]⟩ : ByteArray)] from rfl) (Reps.one (show Kd.M Kd.string _ _ _ (⟨#[97]⟩ : ByteArray) [.string (⟨#[97]⟩ : ByteArray)] from rfl) (Reps.one (show Kd.M Kd.string _ _ _ (⟨#[67, 111, 110, 116, 101, 110, 116, 45, 84, 121, 112, 101]⟩ : ByteArray) [.string (⟨#[67, 111, 110, 116, 101, 110, 116, 45, 84, 121, 112, 101]⟩ : ByteArray)] from rfl) (Reps.one (show Kd.M Kd.string _ _ _ (⟨#[33, 120]⟩ : ByteArray) [.string (⟨#[33, 120]⟩ : ByteArray)] from rfl) (Reps.one (show Kd.M Kd.string _ _ _ (⟨#[90, 57]⟩ : ByteArray) [.string (⟨#[90, 57]⟩ : ByteArray)] from rfl) (Reps.none _ _)))))))); intro v103 w7 ho8 hb hg_ hnew_; clear hg_ hnew_; (first | rw [← Ny102.out] at ho8 | (simp only [Int.reduceToNat] at ho8; rw [← Ny102.out] at ho8)); have n0_ := Aside0.mk (Kd.R_lower ho8 (below_size (by repeat (first | (with_reducible first | exact HB.out | apply below_alloc | apply pw_below_drewN | apply below_drew1) | exact HB.out)))); have n1_ := Aside0.mk (below_step (by repeat (first | (with_reducible first | exact HB.out | apply below_alloc | apply pw_below_drewN | apply below_drew1) | exact HB.out)) hb); clear HB; have HO104 := n0_; have HB := n1_; clear n0_ n1_; clear hb ho8) | ((with_reducible refine gate_dst (N := 20) rfl ?_); (try (refine gate_guard (by rfl) ?_; dsimp only)); refine Kd.R_lit Kd.string _ 9 ?hg (N := 20) ?hd (xs := ([(⟨#[120, 45, 116, 111, 107, 101, 110]⟩ : ByteArray), (⟨#[97, 99, 99, 101, 112, 116]⟩ : ByteArray), (⟨#[97]⟩ : ByteArray), (⟨#[99, 111, 110, 116, 101, 110, 116, 45, 116, 121, 112, 101]⟩ : ByteArray), (⟨#[33, 120]⟩ : ByteArray), (⟨#[122, 57]⟩ : ByteArray)] : List ByteArray)) (inner := [.string (⟨#[120, 45, 116, 111, 107, 101, 110]⟩ : ByteArray), .string (⟨#[97, 99, 99, 101, 112, 116]⟩ : ByteArray), .string (⟨#[97]⟩ : ByteArray), .string (⟨#[99, 111, 110, 116, 101, 110, 116, 45, 116, 121, 112, 101]⟩ : ByteArray), .string (⟨#[33, 120]⟩ : ByteArray), .string (⟨#[122, 57]⟩ : ByteArray)]) (ok := fun _ => True) (okp := fun _ => True) ?hr ?hp (fun _ hk => hk) trivial (Below.refl _ _) (Nat.le_refl _) (by simp) ?_; (case hd => rfl); (case hg => rfl); (case hr => first | (go_simp; done) | (go_simp; rfl)); (case hp => exact (Reps.one (show Kd.M Kd.string _ _ _ (⟨#[120, 45, 116, 111, 107, 101, 110]⟩ : ByteArray) [.string (⟨#[120, 45, 116, 111, 107, 101, 110]⟩ : ByteArray)] from rfl) (Reps.one (show Kd.M Kd.string _ _ _ (⟨#[97, 99, 99, 101, 112, 116]⟩ : ByteArray) [.string (⟨#[97, 99, 99, 101, 112, 116]⟩ : ByteArray)] from rfl) (Reps.one (show Kd.M Kd.string _ _ _ (⟨#[97]⟩ : ByteArray) [.string (⟨#[97]⟩ : ByteArray)] from rfl) (Reps.one (show Kd.M Kd.string _ _ _ (⟨#[99, 111, 110, 116, 101, 110, 116, 45, 116, 121, 112, 101]⟩ : ByteArray) [.string (⟨#[99, 111, 110, 116, 101, 110, 116, 45, 116, 121, 112, 101]⟩ : ByteArray)] from rfl) (Reps.one (show Kd.M Kd.string _ _ _ (⟨#[33, 120]⟩ : ByteArray) [.string (⟨#[33, 120]⟩ : ByteArray)] from rfl) (Reps.one (show Kd.M Kd.string _ _ _ (⟨#[122, 57]⟩ : ByteArray) [.string (⟨#[122, 57]⟩ : ByteArray)] from rfl) (Reps.none _ _)))))))); intro v106 w9 ho10 hb hg_ hnew_; clear hg_ hnew_; (first | rw [← Ny105.out] at ho10 | (simp only [Int.reduceToNat] at ho10; rw [← Ny105.out] at ho10)); have n0_ := Aside0.mk (Kd.R_elder' (by (with_reducible repeat (first | apply Kd.R_alloc | apply Kd.R_drewN | apply Kd.R_drew)); exact HO104.out) (Kd.R_base ho10) hb); have n1_ := Aside0.mk (Kd.R_lower (Kd.R_new' ho10 (Kd.R_lt (by (with_reducible repeat (first | apply Kd.R_alloc | apply Kd.R_drewN | apply Kd.R_drew)); exact HO104.out))) (below_size (by repeat (first | (with_reducible first | exact HB.out | apply below_alloc | apply pw_below_drewN | apply below_drew1) | exact HB.out)))); have n2_ := Aside0.mk (below_step (by repeat (first | (with_reducible first | exact HB.out | apply below_alloc | apply pw_below_drewN | apply below_drew1) | exact HB.out)) hb); clear HO104; clear HB; have HO104 := n0_; have HO107 := n1_; have HB := n2_; clear n0_ n1_ n2_; clear hb ho10))
    go_loopg [9, 10, 11] k (fun kq v9 v10 v11 w' => ∃ (x9_1 : ByteArray) (x10_1 : List ByteArray) (x11_1 : Int), v9 = .string x9_1 ∧ v11 = .int .i64 x11_1 ∧ Aside0 (moatlaw3_FieldLists.l0 kq l0 a1 a2 y102 y105 x9_1 x10_1 x11_1 = some r) ∧ Aside0 (kq ≤ k) ∧ Aside0 (Kd.R Kd.string 9 w' w.heap.size (fun k_ => some k_ ≠ (v106 : Value).ownBlock ∧ some k_ ≠ (v10 : Value).ownBlock) v103 y102) ∧ Aside0 (Kd.R Kd.string 9 w' w.heap.size (fun k_ => some k_ ≠ (v103 : Value).ownBlock ∧ some k_ ≠ (v10 : Value).ownBlock) v106 y105) ∧ Aside0 (Kd.R Kd.string 9 w' w.heap.size (fun k_ => some k_ ≠ (v103 : Value).ownBlock ∧ some k_ ≠ (v106 : Value).ownBlock) v10 x10_1) ∧ Aside0 (Below w.heap.size w w'))
    case atStart => exact ⟨((⟨#[]⟩ : ByteArray)), (([] : List ByteArray)), (0), (by first | rfl | (simp; done) | (simp [*]; done) | (simp [isEmpty_bne, isEmpty_beq]; done) | (simp [*, isEmpty_bne, isEmpty_beq]; done)), (by first | rfl | (simp; done) | (simp [*]; done) | (simp [isEmpty_bne, isEmpty_beq]; done) | (simp [*, isEmpty_bne, isEmpty_beq]; done)), H', ⟨Nat.le_refl _⟩, ⟨by (with_reducible repeat (first | apply Kd.R_alloc | apply Kd.R_drewN | apply Kd.R_drew)); exact Kd.R_mono HO104.out (fun _ hk => ⟨hk.2, (by simp [Value.ownBlock])⟩)⟩, ⟨by (with_reducible repeat (first | apply Kd.R_alloc | apply Kd.R_drewN | apply Kd.R_drew)); exact Kd.R_mono HO107.out (fun _ hk => ⟨hk.2, (by simp [Value.ownBlock])⟩)⟩, ⟨by first | exact Kd.R_nil _ _ _ _ _ | exact Kd.N_nil _ _ _ _ _ | exact Kd.V_nil _ _ _ _ _ | exact Kd.Q_nil _ _ _ _ _ | exact Kd.S_nil _ _ _ _ _⟩, ⟨by repeat (first | (with_reducible first | exact HB.out | apply below_alloc | apply pw_below_drewN | apply below_drew1) | exact HB.out)⟩⟩
    case round =>
      clear H'
      try clear c1
      try clear p2
      try clear c4
      try clear c4b0
      try clear c4b1
      obtain ⟨x9_1, x10_1, x11_1, rfl, rfl, HA, HK1, HO_7, HO_8, HO_10, HB⟩ := hrel
      cases gk with
      | zero => exact absurd HA.out (by simp [moatlaw3_FieldLists.l0])
      | succ k1 =>
        have H := HA.out
        clear HA
        simp only [moatlaw3_FieldLists.l0] at H
        by_cases c11 : x11_1 < (l0.length : Int)
        · rw [if_pos c11] at H
          have c11b0 : decide (x11_1 < (l0.length : Int)) = true := decide_eq_true c11
          clear c11
          by_cases c12 : 0 ≤ x11_1
          · rw [if_pos c12] at H
            have c12b0 : decide (0 ≤ x11_1) = true := decide_eq_true c12
            clear c12
            replace H := Option.bind_eq_some_iff.mp H
            obtain ⟨t109, A130, H⟩ := H
            replace H : ((some (([(⟨#[]⟩ : ByteArray), (⟨#[32]⟩ : ByteArray), (⟨#[9]⟩ : ByteArray), (⟨#[32, 32]⟩ : ByteArray)] : List ByteArray) : List ByteArray)).bind fun y110 => (if 0 ≤ (wrap64 (2 * x11_1)) then (if 0 ≤ (Go.bits .and .i64 (shr .i64 a1 (wrap64 (2 * x11_1))) 3) then (if (Go.bits .and .i64 (shr .i64 a1 (wrap64 (2 * x11_1))) 3) < (y110.length : Int) then (if x9_1.size + (rdOf ByteArray.empty y110 (Go.bits .and .i64 (shr .i64 a1 (wrap64 (2 * x11_1))) 3)).size ≤ 9223372036854775807 then (if 0 ≤ t109 then (if t109 < (y102.length : Int) then (if (x9_1 ++ (rdOf ByteArray.empty y110 (Go.bits .and .i64 (shr .i64 a1 (wrap64 (2 * x11_1))) 3))).size + (rdOf ByteArray.empty y102 t109).size ≤ 9223372036854775807 then ((some (([(⟨#[]⟩ : ByteArray), (⟨#[32]⟩ : ByteArray), (⟨#[44]⟩ : ByteArray), (⟨#[9, 32, 44]⟩ : ByteArray)] : List ByteArray) : List ByteArray)).bind fun y115 => (if 0 ≤ (wrap64 (x11_1 + 3)) then (if 0 ≤ (Go.bits .and .i64 (shr .i64 a1 (wrap64 (x11_1 + 3))) 3) then (if (Go.bits .and .i64 (shr .i64 a1 (wrap64 (x11_1 + 3))) 3) < (y115.length : Int) then (if ((x9_1 ++ (rdOf ByteArray.empty y110 (Go.bits .and .i64 (shr .i64 a1 (wrap64 (2 * x11_1))) 3))) ++ (rdOf ByteArray.empty y102 t109)).size + (rdOf ByteArray.empty y115 (Go.bits .and .i64 (shr .i64 a1 (wrap64 (x11_1 + 3))) 3)).size ≤ 9223372036854775807 then (if (((x9_1 ++ (rdOf ByteArray.empty y110 (Go.bits .and .i64 (shr .i64 a1 (wrap64 (2 * x11_1))) 3))) ++ (rdOf ByteArray.empty y102 t109)) ++ (rdOf ByteArray.empty y115 (Go.bits .and .i64 (shr .i64 a1 (wrap64 (x11_1 + 3))) 3))).size + 1 ≤ 9223372036854775807 then (if t109 < (y105.length : Int) then (if x10_1.length < 8796093022208 then (moatlaw3_FieldLists.l0 k1 l0 a1 a2 y102 y105 ((((x9_1 ++ (rdOf ByteArray.empty y110 (Go.bits .and .i64 (shr .i64 a1 (wrap64 (2 * x11_1))) 3))) ++ (rdOf ByteArray.empty y102 t109)) ++ (rdOf ByteArray.empty y115 (Go.bits .and .i64 (shr .i64 a1 (wrap64 (x11_1 + 3))) 3))) ++ (⟨#[44]⟩ : ByteArray)) (x10_1 ++ [rdOf ByteArray.empty y105 t109]) (wrap64 (x11_1 + 1))) else (none)) else (none)) else (none)) else (none)) else (none)) else (none)) else (none))) else (none)) else (none)) else (none)) else (none)) else (none)) else (none)) else (none))) = some r := H
            have A13 := Aside0.mk A130
            clear A130
            obtain ⟨y110, hy110⟩ : ∃ y_ : List ByteArray, y_ = (([(⟨#[]⟩ : ByteArray), (⟨#[32]⟩ : ByteArray), (⟨#[9]⟩ : ByteArray), (⟨#[32, 32]⟩ : ByteArray)] : List ByteArray)) := ⟨_, rfl⟩
            replace H : (if 0 ≤ (wrap64 (2 * x11_1)) then (if 0 ≤ (Go.bits .and .i64 (shr .i64 a1 (wrap64 (2 * x11_1))) 3) then (if (Go.bits .and .i64 (shr .i64 a1 (wrap64 (2 * x11_1))) 3) < (y110.length : Int) then (if x9_1.size + (rdOf ByteArray.empty y110 (Go.bits .and .i64 (shr .i64 a1 (wrap64 (2 * x11_1))) 3)).size ≤ 9223372036854775807 then (if 0 ≤ t109 then (if t109 < (y102.length : Int) then (if (x9_1 ++ (rdOf ByteArray.empty y110 (Go.bits .and .i64 (shr .i64 a1 (wrap64 (2 * x11_1))) 3))).size + (rdOf ByteArray.empty y102 t109).size ≤ 9223372036854775807 then ((some (([(⟨#[]⟩ : ByteArray), (⟨#[32]⟩ : ByteArray), (⟨#[44]⟩ : ByteArray), (⟨#[9, 32, 44]⟩ : ByteArray)] : List ByteArray) : List ByteArray)).bind fun y115 => (if 0 ≤ (wrap64 (x11_1 + 3)) then (if 0 ≤ (Go.bits .and .i64 (shr .i64 a1 (wrap64 (x11_1 + 3))) 3) then (if (Go.bits .and .i64 (shr .i64 a1 (wrap64 (x11_1 + 3))) 3) < (y115.length : Int) then (if ((x9_1 ++ (rdOf ByteArray.empty y110 (Go.bits .and .i64 (shr .i64 a1 (wrap64 (2 * x11_1))) 3))) ++ (rdOf ByteArray.empty y102 t109)).size + (rdOf ByteArray.empty y115 (Go.bits .and .i64 (shr .i64 a1 (wrap64 (x11_1 + 3))) 3)).size ≤ 9223372036854775807 then (if (((x9_1 ++ (rdOf ByteArray.empty y110 (Go.bits .and .i64 (shr .i64 a1 (wrap64 (2 * x11_1))) 3))) ++ (rdOf ByteArray.empty y102 t109)) ++ (rdOf ByteArray.empty y115 (Go.bits .and .i64 (shr .i64 a1 (wrap64 (x11_1 + 3))) 3))).size + 1 ≤ 9223372036854775807 then (if t109 < (y105.length : Int) then (if x10_1.length < 8796093022208 then (moatlaw3_FieldLists.l0 k1 l0 a1 a2 y102 y105 ((((x9_1 ++ (rdOf ByteArray.empty y110 (Go.bits .and .i64 (shr .i64 a1 (wrap64 (2 * x11_1))) 3))) ++ (rdOf ByteArray.empty y102 t109)) ++ (rdOf ByteArray.empty y115 (Go.bits .and .i64 (shr .i64 a1 (wrap64 (x11_1 + 3))) 3))) ++ (⟨#[44]⟩ : ByteArray)) (x10_1 ++ [rdOf ByteArray.empty y105 t109]) (wrap64 (x11_1 + 1))) else (none)) else (none)) else (none)) else (none)) else (none)) else (none)) else (none))) else (none)) else (none)) else (none)) else (none)) else (none)) else (none)) else (none)) = some r := by first | (rw [hy110]; with_reducible exact H) | (have H2_ := (Option.bind_some _ _).symm.trans H; rw [hy110]; with_reducible exact H2_) | (have H2_ := (Option.bind_some _ _).symm.trans H; with_reducible exact H2_) | with_reducible exact H | (rw [hy110]; exact H) | exact H
            have Ny110 := Aside0.mk hy110
            clear hy110
            obtain ⟨ji14, hji14⟩ : ∃ j_ : Int, (wrap64 (2 * x11_1)) = j_ := ⟨_, rfl⟩
            replace H : (if 0 ≤ (ji14) then (if 0 ≤ (Go.bits .and .i64 (shr .i64 a1 (ji14)) 3) then (if (Go.bits .and .i64 (shr .i64 a1 (ji14)) 3) < (y110.length : Int) then (if x9_1.size + (rdOf ByteArray.empty y110 (Go.bits .and .i64 (shr .i64 a1 (ji14)) 3)).size ≤ 9223372036854775807 then (if 0 ≤ t109 then (if t109 < (y102.length : Int) then (if (x9_1 ++ (rdOf ByteArray.empty y110 (Go.bits .and .i64 (shr .i64 a1 (ji14)) 3))).size + (rdOf ByteArray.empty y102 t109).size ≤ 9223372036854775807 then ((some (([(⟨#[]⟩ : ByteArray), (⟨#[32]⟩ : ByteArray), (⟨#[44]⟩ : ByteArray), (⟨#[9, 32, 44]⟩ : ByteArray)] : List ByteArray) : List ByteArray)).bind fun y115 => (if 0 ≤ (wrap64 (x11_1 + 3)) then (if 0 ≤ (Go.bits .and .i64 (shr .i64 a1 (wrap64 (x11_1 + 3))) 3) then (if (Go.bits .and .i64 (shr .i64 a1 (wrap64 (x11_1 + 3))) 3) < (y115.length : Int) then (if ((x9_1 ++ (rdOf ByteArray.empty y110 (Go.bits .and .i64 (shr .i64 a1 (ji14)) 3))) ++ (rdOf ByteArray.empty y102 t109)).size + (rdOf ByteArray.empty y115 (Go.bits .and .i64 (shr .i64 a1 (wrap64 (x11_1 + 3))) 3)).size ≤ 9223372036854775807 then (if (((x9_1 ++ (rdOf ByteArray.empty y110 (Go.bits .and .i64 (shr .i64 a1 (ji14)) 3))) ++ (rdOf ByteArray.empty y102 t109)) ++ (rdOf ByteArray.empty y115 (Go.bits .and .i64 (shr .i64 a1 (wrap64 (x11_1 + 3))) 3))).size + 1 ≤ 9223372036854775807 then (if t109 < (y105.length : Int) then (if x10_1.length < 8796093022208 then (moatlaw3_FieldLists.l0 k1 l0 a1 a2 y102 y105 ((((x9_1 ++ (rdOf ByteArray.empty y110 (Go.bits .and .i64 (shr .i64 a1 (ji14)) 3))) ++ (rdOf ByteArray.empty y102 t109)) ++ (rdOf ByteArray.empty y115 (Go.bits .and .i64 (shr .i64 a1 (wrap64 (x11_1 + 3))) 3))) ++ (⟨#[44]⟩ : ByteArray)) (x10_1 ++ [rdOf ByteArray.empty y105 t109]) (wrap64 (x11_1 + 1))) else (none)) else (none)) else (none)) else (none)) else (none)) else (none)) else (none))) else (none)) else (none)) else (none)) else (none)) else (none)) else (none)) else (none)) = some r := by first | (rw [hji14] at H; exact H) | (simp only [hji14] at H ⊢; exact H)
            (try rw [hji14] at A13)
            have hji14w : (IntKind.i64.wrap (2 * x11_1)) = ji14 := (i64_w _).trans hji14
            by_cases c15 : 0 ≤ (ji14)
            · rw [if_pos c15] at H
              have c15b0 := eq_true c15
              have c15b1 : decide (0 ≤ (ji14)) = true := decide_eq_true c15
              clear c15
              obtain ⟨ji16, hji16⟩ : ∃ j_ : Int, (shr .i64 a1 (ji14)) = j_ := ⟨_, rfl⟩
              replace H : (if 0 ≤ (Go.bits .and .i64 (ji16) 3) then (if (Go.bits .and .i64 (ji16) 3) < (y110.length : Int) then (if x9_1.size + (rdOf ByteArray.empty y110 (Go.bits .and .i64 (ji16) 3)).size ≤ 9223372036854775807 then (if 0 ≤ t109 then (if t109 < (y102.length : Int) then (if (x9_1 ++ (rdOf ByteArray.empty y110 (Go.bits .and .i64 (ji16) 3))).size + (rdOf ByteArray.empty y102 t109).size ≤ 9223372036854775807 then ((some (([(⟨#[]⟩ : ByteArray), (⟨#[32]⟩ : ByteArray), (⟨#[44]⟩ : ByteArray), (⟨#[9, 32, 44]⟩ : ByteArray)] : List ByteArray) : List ByteArray)).bind fun y115 => (if 0 ≤ (wrap64 (x11_1 + 3)) then (if 0 ≤ (Go.bits .and .i64 (shr .i64 a1 (wrap64 (x11_1 + 3))) 3) then (if (Go.bits .and .i64 (shr .i64 a1 (wrap64 (x11_1 + 3))) 3) < (y115.length : Int) then (if ((x9_1 ++ (rdOf ByteArray.empty y110 (Go.bits .and .i64 (ji16) 3))) ++ (rdOf ByteArray.empty y102 t109)).size + (rdOf ByteArray.empty y115 (Go.bits .and .i64 (shr .i64 a1 (wrap64 (x11_1 + 3))) 3)).size ≤ 9223372036854775807 then (if (((x9_1 ++ (rdOf ByteArray.empty y110 (Go.bits .and .i64 (ji16) 3))) ++ (rdOf ByteArray.empty y102 t109)) ++ (rdOf ByteArray.empty y115 (Go.bits .and .i64 (shr .i64 a1 (wrap64 (x11_1 + 3))) 3))).size + 1 ≤ 9223372036854775807 then (if t109 < (y105.length : Int) then (if x10_1.length < 8796093022208 then (moatlaw3_FieldLists.l0 k1 l0 a1 a2 y102 y105 ((((x9_1 ++ (rdOf ByteArray.empty y110 (Go.bits .and .i64 (ji16) 3))) ++ (rdOf ByteArray.empty y102 t109)) ++ (rdOf ByteArray.empty y115 (Go.bits .and .i64 (shr .i64 a1 (wrap64 (x11_1 + 3))) 3))) ++ (⟨#[44]⟩ : ByteArray)) (x10_1 ++ [rdOf ByteArray.empty y105 t109]) (wrap64 (x11_1 + 1))) else (none)) else (none)) else (none)) else (none)) else (none)) else (none)) else (none))) else (none)) else (none)) else (none)) else (none)) else (none)) else (none)) = some r := by first | (rw [hji16] at H; exact H) | (simp only [hji16] at H ⊢; exact H)
              (try rw [hji16] at A13)
              have hji16_ : (a1 / 2 ^ min (ji14).toNat 64) = ji16 := hji16
              have hji16z : (ji14) ≤ 64 → (a1 / 2 ^ (ji14).toNat) = ji16 := shr_small hji16
              by_cases c17 : 0 ≤ (Go.bits .and .i64 (ji16) 3)
              · rw [if_pos c17] at H
                have c17b0 : decide (0 ≤ (Go.bits .and .i64 (ji16) 3)) = true := decide_eq_true c17
                clear c17
                by_cases c18 : (Go.bits .and .i64 (ji16) 3) < (y110.length : Int)
                · rw [if_pos c18] at H
                  have c18b0 : decide ((Go.bits .and .i64 (ji16) 3) < (y110.length : Int)) = true := decide_eq_true c18
                  clear c18
                  by_cases c19 : x9_1.size + (rdOf ByteArray.empty y110 (Go.bits .and .i64 (ji16) 3)).size ≤ 9223372036854775807
                  · rw [if_pos c19] at H
                    have c19b0 := eq_true c19
                    have c19b1 : decide (x9_1.size + (rdOf ByteArray.empty y110 (Go.bits .and .i64 (ji16) 3)).size ≤ 9223372036854775807) = true := decide_eq_true c19
                    try have c19b2 : (9223372036854775807 < x9_1.size + (rdOf ByteArray.empty y110 (Go.bits .and .i64 (ji16) 3)).size) = False := eq_false (Nat.not_lt.2 c19)
                    by_cases c20 : 0 ≤ t109
                    · rw [if_pos c20] at H
                      have c20b0 : decide (0 ≤ t109) = true := decide_eq_true c20
                      clear c20
                      by_cases c21 : t109 < (y102.length : Int)
                      · rw [if_pos c21] at H
                        have c21b0 : decide (t109 < (y102.length : Int)) = true := decide_eq_true c21
                        clear c21
                        by_cases c22 : (x9_1 ++ (rdOf ByteArray.empty y110 (Go.bits .and .i64 (ji16) 3))).size + (rdOf ByteArray.empty y102 t109).size ≤ 9223372036854775807
                        · rw [if_pos c22] at H
                          have c22b0 := eq_true c22
                          have c22b1 : decide ((x9_1 ++ (rdOf ByteArray.empty y110 (Go.bits .and .i64 (ji16) 3))).size + (rdOf ByteArray.empty y102 t109).size ≤ 9223372036854775807) = true := decide_eq_true c22
                          try have c22b2 : (9223372036854775807 < (x9_1 ++ (rdOf ByteArray.empty y110 (Go.bits .and .i64 (ji16) 3))).size + (rdOf ByteArray.empty y102 t109).size) = False := eq_false (Nat.not_lt.2 c22)
                          (try (have c22b7 : (9223372036854775807 < x9_1.size + (rdOf ByteArray.empty y110 (Go.bits .and .i64 (ji16) 3)).size + (rdOf ByteArray.empty y102 t109).size) = False := eq_false (Nat.not_lt.2 (by have hc := c22; simp only [ByteArray.size_append] at hc; exact hc))))
                          obtain ⟨y115, hy115⟩ : ∃ y_ : List ByteArray, y_ = (([(⟨#[]⟩ : ByteArray), (⟨#[32]⟩ : ByteArray), (⟨#[44]⟩ : ByteArray), (⟨#[9, 32, 44]⟩ : ByteArray)] : List ByteArray)) := ⟨_, rfl⟩
                          replace H : (if 0 ≤ (wrap64 (x11_1 + 3)) then (if 0 ≤ (Go.bits .and .i64 (shr .i64 a1 (wrap64 (x11_1 + 3))) 3) then (if (Go.bits .and .i64 (shr .i64 a1 (wrap64 (x11_1 + 3))) 3) < (y115.length : Int) then (if ((x9_1 ++ (rdOf ByteArray.empty y110 (Go.bits .and .i64 (ji16) 3))) ++ (rdOf ByteArray.empty y102 t109)).size + (rdOf ByteArray.empty y115 (Go.bits .and .i64 (shr .i64 a1 (wrap64 (x11_1 + 3))) 3)).size ≤ 9223372036854775807 then (if (((x9_1 ++ (rdOf ByteArray.empty y110 (Go.bits .and .i64 (ji16) 3))) ++ (rdOf ByteArray.empty y102 t109)) ++ (rdOf ByteArray.empty y115 (Go.bits .and .i64 (shr .i64 a1 (wrap64 (x11_1 + 3))) 3))).size + 1 ≤ 9223372036854775807 then (if t109 < (y105.length : Int) then (if x10_1.length < 8796093022208 then (moatlaw3_FieldLists.l0 k1 l0 a1 a2 y102 y105 ((((x9_1 ++ (rdOf ByteArray.empty y110 (Go.bits .and .i64 (ji16) 3))) ++ (rdOf ByteArray.empty y102 t109)) ++ (rdOf ByteArray.empty y115 (Go.bits .and .i64 (shr .i64 a1 (wrap64 (x11_1 + 3))) 3))) ++ (⟨#[44]⟩ : ByteArray)) (x10_1 ++ [rdOf ByteArray.empty y105 t109]) (wrap64 (x11_1 + 1))) else (none)) else (none)) else (none)) else (none)) else (none)) else (none)) else (none)) = some r := by first | (rw [hy115]; with_reducible exact H) | (have H2_ := (Option.bind_some _ _).symm.trans H; rw [hy115]; with_reducible exact H2_) | (have H2_ := (Option.bind_some _ _).symm.trans H; with_reducible exact H2_) | with_reducible exact H | (rw [hy115]; exact H) | exact H
                          have Ny115 := Aside0.mk hy115
                          clear hy115
                          obtain ⟨ji23, hji23⟩ : ∃ j_ : Int, (wrap64 (x11_1 + 3)) = j_ := ⟨_, rfl⟩
                          replace H : (if 0 ≤ (ji23) then (if 0 ≤ (Go.bits .and .i64 (shr .i64 a1 (ji23)) 3) then (if (Go.bits .and .i64 (shr .i64 a1 (ji23)) 3) < (y115.length : Int) then (if ((x9_1 ++ (rdOf ByteArray.empty y110 (Go.bits .and .i64 (ji16) 3))) ++ (rdOf ByteArray.empty y102 t109)).size + (rdOf ByteArray.empty y115 (Go.bits .and .i64 (shr .i64 a1 (ji23)) 3)).size ≤ 9223372036854775807 then (if (((x9_1 ++ (rdOf ByteArray.empty y110 (Go.bits .and .i64 (ji16) 3))) ++ (rdOf ByteArray.empty y102 t109)) ++ (rdOf ByteArray.empty y115 (Go.bits .and .i64 (shr .i64 a1 (ji23)) 3))).size + 1 ≤ 9223372036854775807 then (if t109 < (y105.length : Int) then (if x10_1.length < 8796093022208 then (moatlaw3_FieldLists.l0 k1 l0 a1 a2 y102 y105 ((((x9_1 ++ (rdOf ByteArray.empty y110 (Go.bits .and .i64 (ji16) 3))) ++ (rdOf ByteArray.empty y102 t109)) ++ (rdOf ByteArray.empty y115 (Go.bits .and .i64 (shr .i64 a1 (ji23)) 3))) ++ (⟨#[44]⟩ : ByteArray)) (x10_1 ++ [rdOf ByteArray.empty y105 t109]) (wrap64 (x11_1 + 1))) else (none)) else (none)) else (none)) else (none)) else (none)) else (none)) else (none)) = some r := by first | (rw [hji23] at H; exact H) | (simp only [hji23] at H ⊢; exact H)
                          (try rw [hji23] at A13)
                          have hji23w : (IntKind.i64.wrap (x11_1 + 3)) = ji23 := (i64_w _).trans hji23
                          by_cases c24 : 0 ≤ (ji23)
                          · rw [if_pos c24] at H
                            have c24b0 := eq_true c24
                            have c24b1 : decide (0 ≤ (ji23)) = true := decide_eq_true c24
                            clear c24
                            obtain ⟨ji25, hji25⟩ : ∃ j_ : Int, (shr .i64 a1 (ji23)) = j_ := ⟨_, rfl⟩
                            replace H : (if 0 ≤ (Go.bits .and .i64 (ji25) 3) then (if (Go.bits .and .i64 (ji25) 3) < (y115.length : Int) then (if ((x9_1 ++ (rdOf ByteArray.empty y110 (Go.bits .and .i64 (ji16) 3))) ++ (rdOf ByteArray.empty y102 t109)).size + (rdOf ByteArray.empty y115 (Go.bits .and .i64 (ji25) 3)).size ≤ 9223372036854775807 then (if (((x9_1 ++ (rdOf ByteArray.empty y110 (Go.bits .and .i64 (ji16) 3))) ++ (rdOf ByteArray.empty y102 t109)) ++ (rdOf ByteArray.empty y115 (Go.bits .and .i64 (ji25) 3))).size + 1 ≤ 9223372036854775807 then (if t109 < (y105.length : Int) then (if x10_1.length < 8796093022208 then (moatlaw3_FieldLists.l0 k1 l0 a1 a2 y102 y105 ((((x9_1 ++ (rdOf ByteArray.empty y110 (Go.bits .and .i64 (ji16) 3))) ++ (rdOf ByteArray.empty y102 t109)) ++ (rdOf ByteArray.empty y115 (Go.bits .and .i64 (ji25) 3))) ++ (⟨#[44]⟩ : ByteArray)) (x10_1 ++ [rdOf ByteArray.empty y105 t109]) (wrap64 (x11_1 + 1))) else (none)) else (none)) else (none)) else (none)) else (none)) else (none)) = some r := by first | (rw [hji25] at H; exact H) | (simp only [hji25] at H ⊢; exact H)
                            (try rw [hji25] at A13)
                            have hji25_ : (a1 / 2 ^ min (ji23).toNat 64) = ji25 := hji25
                            have hji25z : (ji23) ≤ 64 → (a1 / 2 ^ (ji23).toNat) = ji25 := shr_small hji25
                            by_cases c26 : 0 ≤ (Go.bits .and .i64 (ji25) 3)
                            · rw [if_pos c26] at H
                              have c26b0 : decide (0 ≤ (Go.bits .and .i64 (ji25) 3)) = true := decide_eq_true c26
                              clear c26
                              by_cases c27 : (Go.bits .and .i64 (ji25) 3) < (y115.length : Int)
                              · rw [if_pos c27] at H
                                have c27b0 : decide ((Go.bits .and .i64 (ji25) 3) < (y115.length : Int)) = true := decide_eq_true c27
                                clear c27
                                by_cases c28 : ((x9_1 ++ (rdOf ByteArray.empty y110 (Go.bits .and .i64 (ji16) 3))) ++ (rdOf ByteArray.empty y102 t109)).size + (rdOf ByteArray.empty y115 (Go.bits .and .i64 (ji25) 3)).size ≤ 9223372036854775807
                                · rw [if_pos c28] at H
                                  have c28b0 := eq_true c28
                                  have c28b1 : decide (((x9_1 ++ (rdOf ByteArray.empty y110 (Go.bits .and .i64 (ji16) 3))) ++ (rdOf ByteArray.empty y102 t109)).size + (rdOf ByteArray.empty y115 (Go.bits .and .i64 (ji25) 3)).size ≤ 9223372036854775807) = true := decide_eq_true c28
                                  try have c28b2 : (9223372036854775807 < ((x9_1 ++ (rdOf ByteArray.empty y110 (Go.bits .and .i64 (ji16) 3))) ++ (rdOf ByteArray.empty y102 t109)).size + (rdOf ByteArray.empty y115 (Go.bits .and .i64 (ji25) 3)).size) = False := eq_false (Nat.not_lt.2 c28)
                                  (try (have c28b7 : (9223372036854775807 < x9_1.size + (rdOf ByteArray.empty y110 (Go.bits .and .i64 (ji16) 3)).size + (rdOf ByteArray.empty y102 t109).size + (rdOf ByteArray.empty y115 (Go.bits .and .i64 (ji25) 3)).size) = False := eq_false (Nat.not_lt.2 (by have hc := c28; simp only [ByteArray.size_append] at hc; exact hc))))
                                  by_cases c29 : (((x9_1 ++ (rdOf ByteArray.empty y110 (Go.bits .and .i64 (ji16) 3))) ++ (rdOf ByteArray.empty y102 t109)) ++ (rdOf ByteArray.empty y115 (Go.bits .and .i64 (ji25) 3))).size + 1 ≤ 9223372036854775807
                                  · rw [if_pos c29] at H
                                    have c29b0 := eq_true c29
                                    have c29b1 : decide ((((x9_1 ++ (rdOf ByteArray.empty y110 (Go.bits .and .i64 (ji16) 3))) ++ (rdOf ByteArray.empty y102 t109)) ++ (rdOf ByteArray.empty y115 (Go.bits .and .i64 (ji25) 3))).size + 1 ≤ 9223372036854775807) = true := decide_eq_true c29
                                    try have c29b2 : (9223372036854775807 < (((x9_1 ++ (rdOf ByteArray.empty y110 (Go.bits .and .i64 (ji16) 3))) ++ (rdOf ByteArray.empty y102 t109)) ++ (rdOf ByteArray.empty y115 (Go.bits .and .i64 (ji25) 3))).size + 1) = False := eq_false (Nat.not_lt.2 c29)
                                    (try (have c29b7 : (9223372036854775807 < x9_1.size + (rdOf ByteArray.empty y110 (Go.bits .and .i64 (ji16) 3)).size + (rdOf ByteArray.empty y102 t109).size + (rdOf ByteArray.empty y115 (Go.bits .and .i64 (ji25) 3)).size + 1) = False := eq_false (Nat.not_lt.2 (by have hc := c29; simp only [ByteArray.size_append] at hc; exact hc))))
                                    by_cases c30 : t109 < (y105.length : Int)
                                    · rw [if_pos c30] at H
                                      have c30b0 : decide (t109 < (y105.length : Int)) = true := decide_eq_true c30
                                      clear c30
                                      by_cases c31 : x10_1.length < 8796093022208
                                      · rw [if_pos c31] at H
                                        have LMc31 := Aside0.mk c31
                                        clear c31
                                        obtain ⟨y120, hy120⟩ : ∃ y_ : List ByteArray, y_ = (x10_1 ++ [rdOf ByteArray.empty y105 t109]) := ⟨_, rfl⟩
                                        replace H : (moatlaw3_FieldLists.l0 k1 l0 a1 a2 y102 y105 ((((x9_1 ++ (rdOf ByteArray.empty y110 (Go.bits .and .i64 (ji16) 3))) ++ (rdOf ByteArray.empty y102 t109)) ++ (rdOf ByteArray.empty y115 (Go.bits .and .i64 (ji25) 3))) ++ (⟨#[44]⟩ : ByteArray)) y120 (wrap64 (x11_1 + 1))) = some r := by first | (rw [hy120]; with_reducible exact H) | (have H2_ := (Option.bind_some _ _).symm.trans H; rw [hy120]; with_reducible exact H2_) | (have H2_ := (Option.bind_some _ _).symm.trans H; with_reducible exact H2_) | with_reducible exact H | (rw [hy120]; exact H) | exact H
                                        have Ny120 := Aside0.mk hy120
                                        clear hy120
                                        have H' := Aside0.mk H
                                        clear H
                                        have p108 : 0 ≤ (x11_1 : Int) := of_decide_eq_true (by first | (with_reducible assumption) | assumption)
                                        have q108 : x11_1 < (l0.length : Int) := of_decide_eq_true (by first | (with_reducible assumption) | assumption)
                                        obtain ⟨ad108, e108, hx108_0⟩ := Kd.at_int HR0.out x11_1 p108 q108
                                        cases e108
                                        replace hx108_0 := (HB.out.cell (World.block_lt_of_cell? w _ hx108_0)).trans hx108_0
                                        replace p108 := eq_true p108
                                        replace q108 := eq_true q108
                                        try go_wp2_with (first | ((with_reducible refine gate_callee (f := 30) rfl ?_); refine goesL_ (some 31) rfl rfl Tryd.func30 (by kernel_rfl) rfl #[.int .i64 (rd l0 x11_1), .int .i64 6] rfl (by (try simp only [List.map_toArray, List.map_cons, List.map_nil]); first | done | rfl | (simp only [List.length_drop, List.length_take]; rfl)) ?_; (with_reducible refine (moatlaw0_Low.calls (rd l0 x11_1) 6 t109 _ A13.out).mono ?_); rintro e w' ⟨rfl, ⟨nd, rfl⟩⟩; refine ⟨_, rfl, ?_⟩))
                                        have pi113 : (0 ≤ ((Go.bits .and .i64 (ji16) 3) : Int)) = True := eq_true (of_decide_eq_true (by first | (with_reducible assumption) | assumption))
                                        have qi113 : ((Go.bits .and .i64 (ji16) 3) < (y110.length : Int)) = True := eq_true (of_decide_eq_true (by first | (with_reducible assumption) | assumption))
                                        have pi118 : (0 ≤ ((Go.bits .and .i64 (ji25) 3) : Int)) = True := eq_true (of_decide_eq_true (by first | (with_reducible assumption) | assumption))
                                        have qi118 : ((Go.bits .and .i64 (ji25) 3) < (y115.length : Int)) = True := eq_true (of_decide_eq_true (by first | (with_reducible assumption) | assumption))
                                        (try (rw [drewN_self wr]; generalize hq_ : World.drewN wr _ = wr; have n0_ : Aside0 (Kd.R Kd.string 9 wr w.heap.size (fun k_ => some k_ ≠ (v103 : Value).ownBlock ∧ some k_ ≠ (v106 : Value).ownBlock) u10 x10_1) := ⟨by rw [← hq_]; exact (by (with_reducible repeat (first | apply Kd.R_alloc | apply Kd.R_drewN | apply Kd.R_drew)); exact HO_10.out)⟩; have n1_ : Aside0 (Kd.R Kd.string 9 wr w.heap.size (fun k_ => some k_ ≠ (u10 : Value).ownBlock ∧ some k_ ≠ (v106 : Value).ownBlock) v103 y102) := ⟨by rw [← hq_]; exact (by (with_reducible repeat (first | apply Kd.R_alloc | apply Kd.R_drewN | apply Kd.R_drew)); exact Kd.R_mono HO_7.out (fun _ hk => by first | exact ⟨hk.2, hk.1⟩ | ((repeat' apply And.intro) <;> first | exact hk.1.1.1 | exact hk.1.1.2 | exact hk.1.1 | exact hk.1.2 | exact hk.2.1 | exact hk.2.2 | exact hk.2 | exact hk.1.2.1 | exact hk.1.2.2 | (simp [Value.ownBlock]; done))))⟩; have n2_ : Aside0 (Kd.R Kd.string 9 wr w.heap.size (fun k_ => some k_ ≠ (u10 : Value).ownBlock ∧ some k_ ≠ (v103 : Value).ownBlock) v106 y105) := ⟨by rw [← hq_]; exact (by (with_reducible repeat (first | apply Kd.R_alloc | apply Kd.R_drewN | apply Kd.R_drew)); exact Kd.R_mono HO_8.out (fun _ hk => by first | exact ⟨hk.2, hk.1⟩ | ((repeat' apply And.intro) <;> first | exact hk.1.1.1 | exact hk.1.1.2 | exact hk.1.1 | exact hk.1.2 | exact hk.2.1 | exact hk.2.2 | exact hk.2 | exact hk.1.2.1 | exact hk.1.2.2 | (simp [Value.ownBlock]; done))))⟩; have n3_ : Aside0 (Below w.heap.size w wr) := ⟨by rw [← hq_]; exact (by repeat (first | (with_reducible first | exact HB.out | apply below_alloc | apply pw_below_drewN | apply below_drew1) | exact HB.out))⟩; clear HO_10 HO_7 HO_8 HB hq_; have HO_10 := n0_; have HO_7 := n1_; have HO_8 := n2_; have HB := n3_; clear n0_ n1_ n2_ n3_))
                                        have n0_ := Aside0.mk (Kd.R_drew HO_7.out)
                                        have n1_ := Aside0.mk (Kd.R_drew HO_8.out)
                                        have n2_ := Aside0.mk (Kd.R_drew HO_10.out)
                                        have n3_ := Aside0.mk (below_drew1 HB.out)
                                        clear HO_7
                                        clear HO_8
                                        clear HO_10
                                        clear HB
                                        have HO_7 := n0_
                                        have HO_8 := n1_
                                        have HO_10 := n2_
                                        have HB := n3_
                                        clear n0_ n1_ n2_ n3_
                                        obtain ⟨Ao33, co33, eo33⟩ := Kd.R_slice HO_7.out
                                        (first | subst eo33 | (injection eo33 with f1_ f2_ f3_; have f4_ := f1_.symm; have f5_ := f3_.symm; clear f1_ f2_ f3_; subst f4_; subst f5_))
                                        have p114 : 0 ≤ (t109 : Int) := of_decide_eq_true (by first | (with_reducible assumption) | assumption)
                                        have q114 : t109 < (y102.length : Int) := of_decide_eq_true (by first | (with_reducible assumption) | assumption)
                                        obtain ⟨ad114, e114, hx114_0⟩ := Kd.at_string (Kd.R_reads' HO_7.out).2.2 t109 p114 q114
                                        cases e114
                                        replace p114 := eq_true p114
                                        replace q114 := eq_true q114
                                        refine start_ (n := 26) (S := fun w' => w'.cell? (ad114.add (t109).toNat) = some (.string (rdOf ByteArray.empty y102 t109))) (ds := []) #[false, false, false, false, false, false, false, false, false, false, false, false, false, false, false, false, false, false, false, false, false, false, false, false, false, false] (by kernel_rfl) rfl rfl (hx114_0) (fun hHeld => ?_); refine with_tabW moatlaw3_FieldLists.tab11 moatlaw3_FieldLists.bits11 (fun HT_ HW_ => ?_)
                                        generalize wr.drew = w32 at HO_7 HO_8 HO_10 HB hx114_0 hHeld ⊢
                                        refine pure_ (i := 0) (N := some 32) (v := ?_) (a' := ?_) #[true, false, false, false, false, false, false, false, false, false, false, false, false, false, false, false, false, false, false, false, false, false, false, false, false, false] rfl rfl (any_of HT_.out (by kernel_rfl)) (fun _ _ _ h => h) (Or.inl ⟨by rfl, ?_⟩) ?_ ?_
                                        rotate_left
                                        · intro w'
                                          go_simp
                                          with_reducible rfl
                                        rotate_left
                                        · simp only [Act.put, List.setIfInBounds_toArray, List.set_cons_zero, List.set_cons_succ, i64_w, i32_w]
                                          rfl
                                        refine pure_ (i := 2) (N := some 34) (v := ?_) (a' := ?_) #[true, false, true, false, false, false, false, false, false, false, false, false, false, false, false, false, false, false, false, false, false, false, false, false, false, false] rfl rfl (any_of HT_.out (by kernel_rfl)) (fun _ _ _ h => h) (Or.inl ⟨by rfl, ?_⟩) ?_ ?_
                                        rotate_left
                                        · intro w'
                                          go_simp
                                          with_reducible rfl
                                        rotate_left
                                        · simp only [Act.put, List.setIfInBounds_toArray, List.set_cons_zero, List.set_cons_succ, i64_w, i32_w]
                                          rfl
                                        refine pure_ (i := 3) (N := some 35) (v := ?_) (a' := ?_) #[true, false, true, true, false, false, false, false, false, false, false, false, false, false, false, false, false, false, false, false, false, false, false, false, false, false] rfl rfl (any_of HT_.out (by kernel_rfl)) (fun _ _ _ h => h) (Or.inl ⟨by rfl, ?_⟩) ?_ ?_
                                        rotate_left
                                        · intro w'
                                          go_simp
                                          with_reducible rfl
                                        rotate_left
                                        · simp only [Act.put, List.setIfInBounds_toArray, List.set_cons_zero, List.set_cons_succ, i64_w, i32_w]
                                          rfl
                                        refine pure_ (i := 4) (N := some 36) (v := ?_) (a' := ?_) #[true, false, true, true, true, false, false, false, false, false, false, false, false, false, false, false, false, false, false, false, false, false, false, false, false, false] rfl rfl (any_of HT_.out (by kernel_rfl)) (fun _ _ _ h => h) (Or.inl ⟨by rfl, ?_⟩) ?_ ?_
                                        rotate_left
                                        · intro w'
                                          go_simp
                                          with_reducible rfl
                                        rotate_left
                                        · simp only [Act.put, List.setIfInBounds_toArray, List.set_cons_zero, List.set_cons_succ, i64_w, i32_w]
                                          rfl
                                        refine pure_ (i := 5) (N := some 37) (v := ?_) (a' := ?_) #[true, false, true, true, true, true, false, false, false, false, false, false, false, false, false, false, false, false, false, false, false, false, false, false, false, false] rfl rfl (any_of HT_.out (by kernel_rfl)) (fun _ _ _ h => h) (Or.inl ⟨by rfl, ?_⟩) ?_ ?_
                                        rotate_left
                                        · intro w'
                                          go_simp
                                          with_reducible rfl
                                        rotate_left
                                        · simp only [Act.put, List.setIfInBounds_toArray, List.set_cons_zero, List.set_cons_succ, i64_w, i32_w]
                                          rfl
                                        refine pure_ (i := 6) (N := some 38) (v := ?_) (a' := ?_) #[true, false, true, true, true, true, true, false, false, false, false, false, false, false, false, false, false, false, false, false, false, false, false, false, false, false] rfl rfl (any_of HT_.out (by kernel_rfl)) (fun _ _ _ h => h) (Or.inl ⟨by rfl, ?_⟩) ?_ ?_
                                        rotate_left
                                        · intro w'
                                          go_simp
                                          with_reducible rfl
                                        rotate_left
                                        · simp only [Act.put, List.setIfInBounds_toArray, List.set_cons_zero, List.set_cons_succ, i64_w, i32_w]
                                          rfl
                                        refine pure_ (i := 10) (N := some 42) (v := ?_) (a' := ?_) #[true, false, true, true, true, true, true, false, false, false, true, false, false, false, false, false, false, false, false, false, false, false, false, false, false, false] rfl rfl (any_of HT_.out (by kernel_rfl)) (fun _ _ _ h => h) (Or.inl ⟨by rfl, ?_⟩) ?_ ?_
                                        rotate_left
                                        · intro w'
                                          go_simp
                                          with_reducible rfl
                                        rotate_left
                                        · simp only [Act.put, List.setIfInBounds_toArray, List.set_cons_zero, List.set_cons_succ, i64_w, i32_w]
                                          rfl
                                        refine pure_ (i := 11) (N := some 43) (v := ?_) (a' := ?_) #[true, false, true, true, true, true, true, false, false, false, true, true, false, false, false, false, false, false, false, false, false, false, false, false, false, false] rfl rfl (any_of HT_.out (by kernel_rfl)) (fun _ _ _ h => h) (Or.inl ⟨by rfl, ?_⟩) ?_ ?_
                                        rotate_left
                                        · intro w'
                                          go_simp
                                          with_reducible rfl
                                        rotate_left
                                        · simp only [Act.put, List.setIfInBounds_toArray, List.set_cons_zero, List.set_cons_succ, i64_w, i32_w]
                                          rfl
                                        refine pure_ (i := 12) (N := some 44) (v := ?_) (a' := ?_) #[true, false, true, true, true, true, true, false, false, false, true, true, true, false, false, false, false, false, false, false, false, false, false, false, false, false] rfl rfl (any_of HT_.out (by kernel_rfl)) (fun _ _ _ h => h) (Or.inl ⟨by rfl, ?_⟩) ?_ ?_
                                        rotate_left
                                        · intro w'
                                          go_simp
                                          with_reducible rfl
                                        rotate_left
                                        · simp only [Act.put, List.setIfInBounds_toArray, List.set_cons_zero, List.set_cons_succ, i64_w, i32_w]
                                          rfl
                                        refine pure_ (i := 16) (N := some 48) (v := ?_) (a' := ?_) #[true, false, true, true, true, true, true, false, false, false, true, true, true, false, false, false, true, false, false, false, false, false, false, false, false, false] rfl rfl (any_of HT_.out (by kernel_rfl)) (fun _ _ _ h => h) (Or.inl ⟨by rfl, ?_⟩) ?_ ?_
                                        rotate_left
                                        · intro w'
                                          go_simp
                                          with_reducible rfl
                                        rotate_left
                                        · simp only [Act.put, List.setIfInBounds_toArray, List.set_cons_zero, List.set_cons_succ, i64_w, i32_w]
                                          rfl
                                        refine pure_ (i := 17) (N := some 49) (v := ?_) (a' := ?_) #[true, false, true, true, true, true, true, false, false, false, true, true, true, false, false, false, true, true, false, false, false, false, false, false, false, false] rfl rfl (any_of HT_.out (by kernel_rfl)) (fun _ _ _ h => h) (Or.inl ⟨by rfl, ?_⟩) ?_ ?_
                                        rotate_left
                                        · intro w'
                                          go_simp
                                          with_reducible rfl
                                        rotate_left
                                        · simp only [Act.put, List.setIfInBounds_toArray, List.set_cons_zero, List.set_cons_succ, i64_w, i32_w]
                                          rfl
                                        refine pure_ (i := 18) (N := some 50) (v := ?_) (a' := ?_) #[true, false, true, true, true, true, true, false, false, false, true, true, true, false, false, false, true, true, true, false, false, false, false, false, false, false] rfl rfl (any_of HT_.out (by kernel_rfl)) (fun _ _ _ h => h) (Or.inl ⟨by rfl, ?_⟩) ?_ ?_
                                        rotate_left
                                        · intro w'
                                          go_simp
                                          with_reducible rfl
                                        rotate_left
                                        · simp only [Act.put, List.setIfInBounds_toArray, List.set_cons_zero, List.set_cons_succ, i64_w, i32_w]
                                          rfl
                                        refine pure_ (i := 19) (N := some 51) (v := ?_) (a' := ?_) #[true, false, true, true, true, true, true, false, false, false, true, true, true, false, false, false, true, true, true, true, false, false, false, false, false, false] rfl rfl (any_of HT_.out (by kernel_rfl)) (fun _ _ _ h => h) (Or.inl ⟨by rfl, ?_⟩) ?_ ?_
                                        rotate_left
                                        · intro w'
                                          go_simp
                                          with_reducible rfl
                                        rotate_left
                                        · simp only [Act.put, List.setIfInBounds_toArray, List.set_cons_zero, List.set_cons_succ, i64_w, i32_w]
                                          rfl
                                        refine pure_ (i := 20) (N := some 52) (v := ?_) (a' := ?_) #[true, false, true, true, true, true, true, false, false, false, true, true, true, false, false, false, true, true, true, true, true, false, false, false, false, false] rfl rfl (any_of HT_.out (by kernel_rfl)) (fun _ _ _ h => h) (Or.inl ⟨by rfl, ?_⟩) ?_ ?_
                                        rotate_left
                                        · intro w'
                                          go_simp
                                          with_reducible rfl
                                        rotate_left
                                        · simp only [Act.put, List.setIfInBounds_toArray, List.set_cons_zero, List.set_cons_succ, i64_w, i32_w]
                                          rfl
                                        refine take_ (i := 13) (N := some 45) (v := ?_) (a' := ?_) #[true, false, true, true, true, true, true, false, false, false, true, true, true, true, false, false, true, true, true, true, true, false, false, false, false, false] rfl rfl (take_ofW HT_.out HW_.out (by kernel_rfl)) (fun _ _ _ h => h) (Or.inl ⟨by rfl, ?_⟩) hHeld ?_ ?_
                                        rotate_left
                                        · intro w' s0
                                          go_simp
                                          with_reducible rfl
                                        rotate_left
                                        · simp only [Act.put, List.setIfInBounds_toArray, List.set_cons_zero, List.set_cons_succ, i64_w, i32_w]
                                          rfl
                                        refine join_ (σ := Value × Addr × Value × Addr) 3 #[true, true, true, true, true, true, true, true, true, true, true, true, true, true, true, true, true, true, true, true, true, true, true, false, false, false] (fun s_ => [(33, s_.1), (40, .string (rdOf ByteArray.empty y110 (Go.bits .and .i64 (ji16) 3))), (47, s_.2.2.1), (54, .string (rdOf ByteArray.empty y115 (Go.bits .and .i64 (ji25) 3))), (39, .pointer (some (s_.2.1.add ((Go.bits .and .i64 (ji16) 3)).toNat))), (41, .string (x9_1 ++ (rdOf ByteArray.empty y110 (Go.bits .and .i64 (ji16) 3)))), (46, .string ((x9_1 ++ (rdOf ByteArray.empty y110 (Go.bits .and .i64 (ji16) 3))) ++ (rdOf ByteArray.empty y102 t109))), (53, .pointer (some (s_.2.2.2.add ((Go.bits .and .i64 (ji25) 3)).toNat)))]) (fun s_ w' => (w'.cell? (ad114.add (t109).toNat) = some (.string (rdOf ByteArray.empty y102 t109))) ∧ (Kd.R Kd.string 9 w' w.heap.size (fun k_ => some k_ ≠ (s_.2.2.1 : Value).ownBlock ∧ some k_ ≠ (u10 : Value).ownBlock ∧ some k_ ≠ (.slice (some ad114) y102.length co33 : Value).ownBlock ∧ some k_ ≠ (v106 : Value).ownBlock) s_.1 y110) ∧ (Kd.R Kd.string 9 w' w.heap.size (fun k_ => some k_ ≠ (s_.1 : Value).ownBlock ∧ some k_ ≠ (u10 : Value).ownBlock ∧ some k_ ≠ (.slice (some ad114) y102.length co33 : Value).ownBlock ∧ some k_ ≠ (v106 : Value).ownBlock) s_.2.2.1 y115) ∧ (Kd.R Kd.string 9 w' w.heap.size (fun k_ => some k_ ≠ (s_.1 : Value).ownBlock ∧ some k_ ≠ (s_.2.2.1 : Value).ownBlock ∧ some k_ ≠ (.slice (some ad114) y102.length co33 : Value).ownBlock ∧ some k_ ≠ (v106 : Value).ownBlock) u10 x10_1) ∧ (Kd.R Kd.string 9 w' w.heap.size (fun k_ => some k_ ≠ (s_.1 : Value).ownBlock ∧ some k_ ≠ (s_.2.2.1 : Value).ownBlock ∧ some k_ ≠ (u10 : Value).ownBlock ∧ some k_ ≠ (v106 : Value).ownBlock) (.slice (some ad114) y102.length co33) y102) ∧ (Kd.R Kd.string 9 w' w.heap.size (fun k_ => some k_ ≠ (s_.1 : Value).ownBlock ∧ some k_ ≠ (s_.2.2.1 : Value).ownBlock ∧ some k_ ≠ (u10 : Value).ownBlock ∧ some k_ ≠ (.slice (some ad114) y102.length co33 : Value).ownBlock) v106 y105) ∧ (∃ c_, (s_.1 : Value) = .slice (some s_.2.1) y110.length c_) ∧ (∃ c_, (s_.2.2.1 : Value) = .slice (some s_.2.2.2) y115.length c_) ∧ (Below w.heap.size w w')) ?_ ?_
                                        rotate_left
                                        · intro hJ1_8_15_22
                                          refine join_ (σ := Value × Addr × Value × Addr) 4 #[true, true, true, true, true, true, true, true, true, true, true, true, true, true, true, true, true, true, true, true, true, true, false, false, false, false] (fun s_ => [(33, s_.1), (40, .string (rdOf ByteArray.empty y110 (Go.bits .and .i64 (ji16) 3))), (47, s_.2.2.1), (39, .pointer (some (s_.2.1.add ((Go.bits .and .i64 (ji16) 3)).toNat))), (41, .string (x9_1 ++ (rdOf ByteArray.empty y110 (Go.bits .and .i64 (ji16) 3)))), (46, .string ((x9_1 ++ (rdOf ByteArray.empty y110 (Go.bits .and .i64 (ji16) 3))) ++ (rdOf ByteArray.empty y102 t109))), (53, .pointer (some (s_.2.2.2.add ((Go.bits .and .i64 (ji25) 3)).toNat)))]) (fun s_ w' => (w'.cell? (ad114.add (t109).toNat) = some (.string (rdOf ByteArray.empty y102 t109))) ∧ (Kd.R Kd.string 9 w' w.heap.size (fun k_ => some k_ ≠ (s_.2.2.1 : Value).ownBlock ∧ some k_ ≠ (u10 : Value).ownBlock ∧ some k_ ≠ (.slice (some ad114) y102.length co33 : Value).ownBlock ∧ some k_ ≠ (v106 : Value).ownBlock) s_.1 y110) ∧ (Kd.R Kd.string 9 w' w.heap.size (fun k_ => some k_ ≠ (s_.1 : Value).ownBlock ∧ some k_ ≠ (u10 : Value).ownBlock ∧ some k_ ≠ (.slice (some ad114) y102.length co33 : Value).ownBlock ∧ some k_ ≠ (v106 : Value).ownBlock) s_.2.2.1 y115) ∧ (Kd.R Kd.string 9 w' w.heap.size (fun k_ => some k_ ≠ (s_.1 : Value).ownBlock ∧ some k_ ≠ (s_.2.2.1 : Value).ownBlock ∧ some k_ ≠ (.slice (some ad114) y102.length co33 : Value).ownBlock ∧ some k_ ≠ (v106 : Value).ownBlock) u10 x10_1) ∧ (Kd.R Kd.string 9 w' w.heap.size (fun k_ => some k_ ≠ (s_.1 : Value).ownBlock ∧ some k_ ≠ (s_.2.2.1 : Value).ownBlock ∧ some k_ ≠ (u10 : Value).ownBlock ∧ some k_ ≠ (v106 : Value).ownBlock) (.slice (some ad114) y102.length co33) y102) ∧ (Kd.R Kd.string 9 w' w.heap.size (fun k_ => some k_ ≠ (s_.1 : Value).ownBlock ∧ some k_ ≠ (s_.2.2.1 : Value).ownBlock ∧ some k_ ≠ (u10 : Value).ownBlock ∧ some k_ ≠ (.slice (some ad114) y102.length co33 : Value).ownBlock) v106 y105) ∧ (∃ c_, (s_.1 : Value) = .slice (some s_.2.1) y110.length c_) ∧ (∃ c_, (s_.2.2.1 : Value) = .slice (some s_.2.2.2) y115.length c_) ∧ (Below w.heap.size w w')) ?_ ?_
                                          rotate_left
                                          · intro hJ1_8_15
                                            refine join_ (σ := Value × Addr × Value × Addr) 6 #[true, true, true, true, true, true, true, true, false, false, true, true, true, true, false, true, true, true, true, true, true, true, true, false, false, false] (fun s_ => [(33, s_.1), (47, s_.2.2.1), (54, .string (rdOf ByteArray.empty y115 (Go.bits .and .i64 (ji25) 3))), (39, .pointer (some (s_.2.1.add ((Go.bits .and .i64 (ji16) 3)).toNat))), (53, .pointer (some (s_.2.2.2.add ((Go.bits .and .i64 (ji25) 3)).toNat)))]) (fun s_ w' => (w'.cell? (ad114.add (t109).toNat) = some (.string (rdOf ByteArray.empty y102 t109))) ∧ (Kd.R Kd.string 9 w' w.heap.size (fun k_ => some k_ ≠ (s_.2.2.1 : Value).ownBlock ∧ some k_ ≠ (u10 : Value).ownBlock ∧ some k_ ≠ (.slice (some ad114) y102.length co33 : Value).ownBlock ∧ some k_ ≠ (v106 : Value).ownBlock) s_.1 y110) ∧ (Kd.R Kd.string 9 w' w.heap.size (fun k_ => some k_ ≠ (s_.1 : Value).ownBlock ∧ some k_ ≠ (u10 : Value).ownBlock ∧ some k_ ≠ (.slice (some ad114) y102.length co33 : Value).ownBlock ∧ some k_ ≠ (v106 : Value).ownBlock) s_.2.2.1 y115) ∧ (Kd.R Kd.string 9 w' w.heap.size (fun k_ => some k_ ≠ (s_.1 : Value).ownBlock ∧ some k_ ≠ (s_.2.2.1 : Value).ownBlock ∧ some k_ ≠ (.slice (some ad114) y102.length co33 : Value).ownBlock ∧ some k_ ≠ (v106 : Value).ownBlock) u10 x10_1) ∧ (Kd.R Kd.string 9 w' w.heap.size (fun k_ => some k_ ≠ (s_.1 : Value).ownBlock ∧ some k_ ≠ (s_.2.2.1 : Value).ownBlock ∧ some k_ ≠ (u10 : Value).ownBlock ∧ some k_ ≠ (v106 : Value).ownBlock) (.slice (some ad114) y102.length co33) y102) ∧ (Kd.R Kd.string 9 w' w.heap.size (fun k_ => some k_ ≠ (s_.1 : Value).ownBlock ∧ some k_ ≠ (s_.2.2.1 : Value).ownBlock ∧ some k_ ≠ (u10 : Value).ownBlock ∧ some k_ ≠ (.slice (some ad114) y102.length co33 : Value).ownBlock) v106 y105) ∧ (∃ c_, (s_.1 : Value) = .slice (some s_.2.1) y110.length c_) ∧ (∃ c_, (s_.2.2.1 : Value) = .slice (some s_.2.2.2) y115.length c_) ∧ (Below w.heap.size w w')) ?_ ?_
                                            rotate_left
                                            · intro hJ1_15_22
                                              refine join_ (σ := Value × Addr) 6 #[true, true, true, true, true, true, true, true, true, true, true, true, true, true, true, false, true, true, true, true, true, false, false, false, false, false] (fun s_ => [(33, s_.1), (40, .string (rdOf ByteArray.empty y110 (Go.bits .and .i64 (ji16) 3))), (39, .pointer (some (s_.2.add ((Go.bits .and .i64 (ji16) 3)).toNat))), (41, .string (x9_1 ++ (rdOf ByteArray.empty y110 (Go.bits .and .i64 (ji16) 3)))), (46, .string ((x9_1 ++ (rdOf ByteArray.empty y110 (Go.bits .and .i64 (ji16) 3))) ++ (rdOf ByteArray.empty y102 t109)))]) (fun s_ w' => (w'.cell? (ad114.add (t109).toNat) = some (.string (rdOf ByteArray.empty y102 t109))) ∧ (Kd.R Kd.string 9 w' w.heap.size (fun k_ => some k_ ≠ (u10 : Value).ownBlock ∧ some k_ ≠ (.slice (some ad114) y102.length co33 : Value).ownBlock ∧ some k_ ≠ (v106 : Value).ownBlock) s_.1 y110) ∧ (Kd.R Kd.string 9 w' w.heap.size (fun k_ => some k_ ≠ (s_.1 : Value).ownBlock ∧ some k_ ≠ (.slice (some ad114) y102.length co33 : Value).ownBlock ∧ some k_ ≠ (v106 : Value).ownBlock) u10 x10_1) ∧ (Kd.R Kd.string 9 w' w.heap.size (fun k_ => some k_ ≠ (s_.1 : Value).ownBlock ∧ some k_ ≠ (u10 : Value).ownBlock ∧ some k_ ≠ (v106 : Value).ownBlock) (.slice (some ad114) y102.length co33) y102) ∧ (Kd.R Kd.string 9 w' w.heap.size (fun k_ => some k_ ≠ (s_.1 : Value).ownBlock ∧ some k_ ≠ (u10 : Value).ownBlock ∧ some k_ ≠ (.slice (some ad114) y102.length co33 : Value).ownBlock) v106 y105) ∧ (∃ c_, (s_.1 : Value) = .slice (some s_.2) y110.length c_) ∧ (Below w.heap.size w w')) ?_ ?_
                                              rotate_left
                                              · intro hJ1_8
                                                refine join_ (σ := Value × Addr × Value × Addr) 7 #[true, true, true, true, true, true, true, true, false, false, true, true, true, true, false, true, true, true, true, true, true, true, false, false, false, false] (fun s_ => [(33, s_.1), (47, s_.2.2.1), (39, .pointer (some (s_.2.1.add ((Go.bits .and .i64 (ji16) 3)).toNat))), (53, .pointer (some (s_.2.2.2.add ((Go.bits .and .i64 (ji25) 3)).toNat)))]) (fun s_ w' => (w'.cell? (ad114.add (t109).toNat) = some (.string (rdOf ByteArray.empty y102 t109))) ∧ (Kd.R Kd.string 9 w' w.heap.size (fun k_ => some k_ ≠ (s_.2.2.1 : Value).ownBlock ∧ some k_ ≠ (u10 : Value).ownBlock ∧ some k_ ≠ (.slice (some ad114) y102.length co33 : Value).ownBlock ∧ some k_ ≠ (v106 : Value).ownBlock) s_.1 y110) ∧ (Kd.R Kd.string 9 w' w.heap.size (fun k_ => some k_ ≠ (s_.1 : Value).ownBlock ∧ some k_ ≠ (u10 : Value).ownBlock ∧ some k_ ≠ (.slice (some ad114) y102.length co33 : Value).ownBlock ∧ some k_ ≠ (v106 : Value).ownBlock) s_.2.2.1 y115) ∧ (Kd.R Kd.string 9 w' w.heap.size (fun k_ => some k_ ≠ (s_.1 : Value).ownBlock ∧ some k_ ≠ (s_.2.2.1 : Value).ownBlock ∧ some k_ ≠ (.slice (some ad114) y102.length co33 : Value).ownBlock ∧ some k_ ≠ (v106 : Value).ownBlock) u10 x10_1) ∧ (Kd.R Kd.string 9 w' w.heap.size (fun k_ => some k_ ≠ (s_.1 : Value).ownBlock ∧ some k_ ≠ (s_.2.2.1 : Value).ownBlock ∧ some k_ ≠ (u10 : Value).ownBlock ∧ some k_ ≠ (v106 : Value).ownBlock) (.slice (some ad114) y102.length co33) y102) ∧ (Kd.R Kd.string 9 w' w.heap.size (fun k_ => some k_ ≠ (s_.1 : Value).ownBlock ∧ some k_ ≠ (s_.2.2.1 : Value).ownBlock ∧ some k_ ≠ (u10 : Value).ownBlock ∧ some k_ ≠ (.slice (some ad114) y102.length co33 : Value).ownBlock) v106 y105) ∧ (∃ c_, (s_.1 : Value) = .slice (some s_.2.1) y110.length c_) ∧ (∃ c_, (s_.2.2.1 : Value) = .slice (some s_.2.2.2) y115.length c_) ∧ (Below w.heap.size w w')) ?_ ?_
                                                rotate_left
                                                · intro hJ1_15
                                                  refine join_ (σ := Value × Addr) 8 #[true, false, true, true, true, true, true, false, false, false, true, true, true, true, false, true, true, true, true, true, true, true, true, false, false, false] (fun s_ => [(47, s_.1), (54, .string (rdOf ByteArray.empty y115 (Go.bits .and .i64 (ji25) 3))), (53, .pointer (some (s_.2.add ((Go.bits .and .i64 (ji25) 3)).toNat)))]) (fun s_ w' => (w'.cell? (ad114.add (t109).toNat) = some (.string (rdOf ByteArray.empty y102 t109))) ∧ (Kd.R Kd.string 9 w' w.heap.size (fun k_ => some k_ ≠ (u10 : Value).ownBlock ∧ some k_ ≠ (.slice (some ad114) y102.length co33 : Value).ownBlock ∧ some k_ ≠ (v106 : Value).ownBlock) s_.1 y115) ∧ (Kd.R Kd.string 9 w' w.heap.size (fun k_ => some k_ ≠ (s_.1 : Value).ownBlock ∧ some k_ ≠ (.slice (some ad114) y102.length co33 : Value).ownBlock ∧ some k_ ≠ (v106 : Value).ownBlock) u10 x10_1) ∧ (Kd.R Kd.string 9 w' w.heap.size (fun k_ => some k_ ≠ (s_.1 : Value).ownBlock ∧ some k_ ≠ (u10 : Value).ownBlock ∧ some k_ ≠ (v106 : Value).ownBlock) (.slice (some ad114) y102.length co33) y102) ∧ (Kd.R Kd.string 9 w' w.heap.size (fun k_ => some k_ ≠ (s_.1 : Value).ownBlock ∧ some k_ ≠ (u10 : Value).ownBlock ∧ some k_ ≠ (.slice (some ad114) y102.length co33 : Value).ownBlock) v106 y105) ∧ (∃ c_, (s_.1 : Value) = .slice (some s_.2) y115.length c_) ∧ (Below w.heap.size w w')) ?_ ?_
                                                  rotate_left
                                                  · intro hJ15_22
                                                    refine join_ (σ := Value × Addr) 9 #[true, true, true, true, true, true, true, true, false, false, true, true, true, true, false, false, true, true, true, true, true, false, false, false, false, false] (fun s_ => [(33, s_.1), (39, .pointer (some (s_.2.add ((Go.bits .and .i64 (ji16) 3)).toNat)))]) (fun s_ w' => (w'.cell? (ad114.add (t109).toNat) = some (.string (rdOf ByteArray.empty y102 t109))) ∧ (Kd.R Kd.string 9 w' w.heap.size (fun k_ => some k_ ≠ (u10 : Value).ownBlock ∧ some k_ ≠ (.slice (some ad114) y102.length co33 : Value).ownBlock ∧ some k_ ≠ (v106 : Value).ownBlock) s_.1 y110) ∧ (Kd.R Kd.string 9 w' w.heap.size (fun k_ => some k_ ≠ (s_.1 : Value).ownBlock ∧ some k_ ≠ (.slice (some ad114) y102.length co33 : Value).ownBlock ∧ some k_ ≠ (v106 : Value).ownBlock) u10 x10_1) ∧ (Kd.R Kd.string 9 w' w.heap.size (fun k_ => some k_ ≠ (s_.1 : Value).ownBlock ∧ some k_ ≠ (u10 : Value).ownBlock ∧ some k_ ≠ (v106 : Value).ownBlock) (.slice (some ad114) y102.length co33) y102) ∧ (Kd.R Kd.string 9 w' w.heap.size (fun k_ => some k_ ≠ (s_.1 : Value).ownBlock ∧ some k_ ≠ (u10 : Value).ownBlock ∧ some k_ ≠ (.slice (some ad114) y102.length co33 : Value).ownBlock) v106 y105) ∧ (∃ c_, (s_.1 : Value) = .slice (some s_.2) y110.length c_) ∧ (Below w.heap.size w w')) ?_ ?_
                                                    rotate_left
                                                    · intro hJ1
                                                      refine join_ (σ := Value × Addr) 9 #[true, false, true, true, true, true, true, false, false, false, true, true, true, true, false, true, true, true, true, true, true, true, false, false, false, false] (fun s_ => [(47, s_.1), (53, .pointer (some (s_.2.add ((Go.bits .and .i64 (ji25) 3)).toNat)))]) (fun s_ w' => (w'.cell? (ad114.add (t109).toNat) = some (.string (rdOf ByteArray.empty y102 t109))) ∧ (Kd.R Kd.string 9 w' w.heap.size (fun k_ => some k_ ≠ (u10 : Value).ownBlock ∧ some k_ ≠ (.slice (some ad114) y102.length co33 : Value).ownBlock ∧ some k_ ≠ (v106 : Value).ownBlock) s_.1 y115) ∧ (Kd.R Kd.string 9 w' w.heap.size (fun k_ => some k_ ≠ (s_.1 : Value).ownBlock ∧ some k_ ≠ (.slice (some ad114) y102.length co33 : Value).ownBlock ∧ some k_ ≠ (v106 : Value).ownBlock) u10 x10_1) ∧ (Kd.R Kd.string 9 w' w.heap.size (fun k_ => some k_ ≠ (s_.1 : Value).ownBlock ∧ some k_ ≠ (u10 : Value).ownBlock ∧ some k_ ≠ (v106 : Value).ownBlock) (.slice (some ad114) y102.length co33) y102) ∧ (Kd.R Kd.string 9 w' w.heap.size (fun k_ => some k_ ≠ (s_.1 : Value).ownBlock ∧ some k_ ≠ (u10 : Value).ownBlock ∧ some k_ ≠ (.slice (some ad114) y102.length co33 : Value).ownBlock) v106 y105) ∧ (∃ c_, (s_.1 : Value) = .slice (some s_.2) y115.length c_) ∧ (Below w.heap.size w w')) ?_ ?_
                                                      rotate_left
                                                      · intro hJ15
                                                        refine two_ (i := 1) (j := 15) (Ni := some 33) (Nj := some 47) #[true, true, true, true, true, true, true, false, false, false, true, true, true, true, false, false, true, true, true, true, true, false, false, false, false, false] #[true, false, true, true, true, true, true, false, false, false, true, true, true, true, false, true, true, true, true, true, true, false, false, false, false, false] rfl rfl rfl rfl (two_of HT_.out (by kernel_rfl)) (by decide) (by decide) (fun K hK => ?_) (fun K hK => ?_)
                                                        · skip
                                                          refine Kd.R_lit_step Kd.string _ 9 ?hg (N := 33) ?hd (xs := ([(⟨#[]⟩ : ByteArray), (⟨#[32]⟩ : ByteArray), (⟨#[9]⟩ : ByteArray), (⟨#[32, 32]⟩ : ByteArray)] : List ByteArray)) (inner := [.string (⟨#[]⟩ : ByteArray), .string (⟨#[32]⟩ : ByteArray), .string (⟨#[9]⟩ : ByteArray), .string (⟨#[32, 32]⟩ : ByteArray)]) (ok := fun _ => True) (okp := fun _ => True) ?hr ?hp (fun _ hk => hk) trivial (Below.refl _ _) (Nat.le_refl _) (by simp) ?_; (case hd => rfl); (case hg => rfl); (case hr => first | (go_simp; done) | (go_simp; rfl)); (case hp => exact (Reps.one (show Kd.M Kd.string _ _ _ (⟨#[]⟩ : ByteArray) [.string (⟨#[]⟩ : ByteArray)] from rfl) (Reps.one (show Kd.M Kd.string _ _ _ (⟨#[32]⟩ : ByteArray) [.string (⟨#[32]⟩ : ByteArray)] from rfl) (Reps.one (show Kd.M Kd.string _ _ _ (⟨#[9]⟩ : ByteArray) [.string (⟨#[9]⟩ : ByteArray)] from rfl) (Reps.one (show Kd.M Kd.string _ _ _ (⟨#[32, 32]⟩ : ByteArray) [.string (⟨#[32, 32]⟩ : ByteArray)] from rfl) (Reps.none _ _))))))
                                                          intro v111 w34 ho35 hb hg_ hnew_
                                                          have HS0_ := (hb.cell (World.block_lt_of_cell? _ _ (hHeld))).trans (hHeld)
                                                          clear hg_ hnew_
                                                          (first | rw [← Ny110.out] at ho35 | (simp only [Int.reduceToNat] at ho35; rw [← Ny110.out] at ho35))
                                                          have n0_ := Aside0.mk (Kd.R_elder' (by (with_reducible repeat (first | apply Kd.R_alloc | apply Kd.R_drewN | apply Kd.R_drew)); exact HO_7.out) (Kd.R_base ho35) hb)
                                                          have n1_ := Aside0.mk (Kd.R_elder' (by (with_reducible repeat (first | apply Kd.R_alloc | apply Kd.R_drewN | apply Kd.R_drew)); exact HO_8.out) (Kd.R_base ho35) hb)
                                                          have n2_ := Aside0.mk (Kd.R_elder' (by (with_reducible repeat (first | apply Kd.R_alloc | apply Kd.R_drewN | apply Kd.R_drew)); exact HO_10.out) (Kd.R_base ho35) hb)
                                                          have n3_ := Aside0.mk (Kd.R_lower (Kd.R_new' (Kd.R_new' (Kd.R_new' ho35 (Kd.R_lt (by (with_reducible repeat (first | apply Kd.R_alloc | apply Kd.R_drewN | apply Kd.R_drew)); exact HO_7.out))) (Kd.R_lt (by (with_reducible repeat (first | apply Kd.R_alloc | apply Kd.R_drewN | apply Kd.R_drew)); exact HO_8.out))) (Kd.R_lt (by (with_reducible repeat (first | apply Kd.R_alloc | apply Kd.R_drewN | apply Kd.R_drew)); exact HO_10.out))) (below_size (by repeat (first | (with_reducible first | exact HB.out | apply below_alloc | apply pw_below_drewN | apply below_drew1) | exact HB.out))))
                                                          have n4_ := Aside0.mk (below_step (by repeat (first | (with_reducible first | exact HB.out | apply below_alloc | apply pw_below_drewN | apply below_drew1) | exact HB.out)) hb)
                                                          clear HO_7
                                                          clear HO_8
                                                          clear HO_10
                                                          clear HB
                                                          have HO_7 := n0_
                                                          have HO_8 := n1_
                                                          have HO_10 := n2_
                                                          have HO112 := n3_
                                                          have HB := n4_
                                                          clear n0_ n1_ n2_ n3_ n4_
                                                          clear hb ho35
                                                          obtain ⟨Ao36, co36, eo36⟩ := Kd.R_slice HO112.out
                                                          subst eo36
                                                          obtain ⟨ado36, fo36, _⟩ := Kd.at_string (Kd.R_reads' HO112.out).2.2 0 (by decide) (by rw [Ny110.out]; simp)
                                                          cases fo36
                                                          refine hK.out _ _ (HS0_) (fun hHeld => ?_)
                                                          clear hK K
                                                          refine norm_ (a' := ?_) ?_ ?_
                                                          rotate_left
                                                          · show Act.put _ (some 33) _ = _
                                                            simp only [Act.put, List.setIfInBounds_toArray, List.set_cons_zero, List.set_cons_succ, i64_w, i32_w]
                                                            rfl
                                                          refine pure_ (i := 7) (N := some 39) (v := ?_) (a' := ?_) #[true, true, true, true, true, true, true, true, false, false, true, true, true, true, false, false, true, true, true, true, true, false, false, false, false, false] rfl rfl (any_of HT_.out (by kernel_rfl)) (fun _ _ _ h => h) (Or.inl ⟨by rfl, ?_⟩) ?_ ?_
                                                          rotate_left
                                                          · intro w'
                                                            go_simp
                                                            with_reducible rfl
                                                          rotate_left
                                                          · simp only [Act.put, List.setIfInBounds_toArray, List.set_cons_zero, List.set_cons_succ, i64_w, i32_w]
                                                            rfl
                                                          exact norm_ (by first | (simp only [putAll, Act.put, List.setIfInBounds_toArray, List.set_cons_zero, List.set_cons_succ]; done) | (simp only [putAll, Act.put, List.setIfInBounds_toArray, List.set_cons_zero, List.set_cons_succ]; rfl)) (hJ1 (.slice (some ado36) y110.length co36, ado36) _ ⟨hHeld, (by (with_reducible repeat (first | apply Kd.R_alloc | apply Kd.R_drewN | apply Kd.R_drew)); exact Kd.R_mono HO112.out (fun _ hk => by first | exact ⟨hk.2, ⟨hk.1.1.2, hk.1.2⟩⟩ | ((repeat' apply And.intro) <;> first | exact hk.1.1.1 | exact hk.1.1.2 | exact hk.1.1 | exact hk.1.2 | exact hk.2.1 | exact hk.2.2 | exact hk.2 | exact hk.1.2.1 | exact hk.1.2.2 | (simp [Value.ownBlock]; done)))), (by (with_reducible repeat (first | apply Kd.R_alloc | apply Kd.R_drewN | apply Kd.R_drew)); exact Kd.R_mono HO_10.out (fun _ hk => by first | exact ⟨hk.2, ⟨hk.1.1, hk.1.2⟩⟩ | ((repeat' apply And.intro) <;> first | exact hk.1.1.1 | exact hk.1.1.2 | exact hk.1.1 | exact hk.1.2 | exact hk.2.1 | exact hk.2.2 | exact hk.2 | exact hk.1.2.1 | exact hk.1.2.2 | (simp [Value.ownBlock]; done)))), (by (with_reducible repeat (first | apply Kd.R_alloc | apply Kd.R_drewN | apply Kd.R_drew)); exact Kd.R_mono HO_7.out (fun _ hk => by first | exact ⟨hk.2, ⟨hk.1.2, hk.1.1⟩⟩ | ((repeat' apply And.intro) <;> first | exact hk.1.1.1 | exact hk.1.1.2 | exact hk.1.1 | exact hk.1.2 | exact hk.2.1 | exact hk.2.2 | exact hk.2 | exact hk.1.2.1 | exact hk.1.2.2 | (simp [Value.ownBlock]; done)))), (by (with_reducible repeat (first | apply Kd.R_alloc | apply Kd.R_drewN | apply Kd.R_drew)); exact Kd.R_mono HO_8.out (fun _ hk => by first | exact ⟨hk.2, ⟨hk.1.2, hk.1.1⟩⟩ | ((repeat' apply And.intro) <;> first | exact hk.1.1.1 | exact hk.1.1.2 | exact hk.1.1 | exact hk.1.2 | exact hk.2.1 | exact hk.2.2 | exact hk.2 | exact hk.1.2.1 | exact hk.1.2.2 | (simp [Value.ownBlock]; done)))), ⟨_, rfl⟩, (by repeat (first | (with_reducible first | exact HB.out | apply below_alloc | apply pw_below_drewN | apply below_drew1) | exact HB.out))⟩)
                                                        · skip
                                                          refine Kd.R_lit_step Kd.string _ 9 ?hg (N := 47) ?hd (xs := ([(⟨#[]⟩ : ByteArray), (⟨#[32]⟩ : ByteArray), (⟨#[44]⟩ : ByteArray), (⟨#[9, 32, 44]⟩ : ByteArray)] : List ByteArray)) (inner := [.string (⟨#[]⟩ : ByteArray), .string (⟨#[32]⟩ : ByteArray), .string (⟨#[44]⟩ : ByteArray), .string (⟨#[9, 32, 44]⟩ : ByteArray)]) (ok := fun _ => True) (okp := fun _ => True) ?hr ?hp (fun _ hk => hk) trivial (Below.refl _ _) (Nat.le_refl _) (by simp) ?_; (case hd => rfl); (case hg => rfl); (case hr => first | (go_simp; done) | (go_simp; rfl)); (case hp => exact (Reps.one (show Kd.M Kd.string _ _ _ (⟨#[]⟩ : ByteArray) [.string (⟨#[]⟩ : ByteArray)] from rfl) (Reps.one (show Kd.M Kd.string _ _ _ (⟨#[32]⟩ : ByteArray) [.string (⟨#[32]⟩ : ByteArray)] from rfl) (Reps.one (show Kd.M Kd.string _ _ _ (⟨#[44]⟩ : ByteArray) [.string (⟨#[44]⟩ : ByteArray)] from rfl) (Reps.one (show Kd.M Kd.string _ _ _ (⟨#[9, 32, 44]⟩ : ByteArray) [.string (⟨#[9, 32, 44]⟩ : ByteArray)] from rfl) (Reps.none _ _))))))
                                                          intro v116 w34 ho35 hb hg_ hnew_
                                                          have HS0_ := (hb.cell (World.block_lt_of_cell? _ _ (hHeld))).trans (hHeld)
                                                          clear hg_ hnew_
                                                          (first | rw [← Ny115.out] at ho35 | (simp only [Int.reduceToNat] at ho35; rw [← Ny115.out] at ho35))
                                                          have n0_ := Aside0.mk (Kd.R_elder' (by (with_reducible repeat (first | apply Kd.R_alloc | apply Kd.R_drewN | apply Kd.R_drew)); exact HO_7.out) (Kd.R_base ho35) hb)
                                                          have n1_ := Aside0.mk (Kd.R_elder' (by (with_reducible repeat (first | apply Kd.R_alloc | apply Kd.R_drewN | apply Kd.R_drew)); exact HO_8.out) (Kd.R_base ho35) hb)
                                                          have n2_ := Aside0.mk (Kd.R_elder' (by (with_reducible repeat (first | apply Kd.R_alloc | apply Kd.R_drewN | apply Kd.R_drew)); exact HO_10.out) (Kd.R_base ho35) hb)
                                                          have n3_ := Aside0.mk (Kd.R_lower (Kd.R_new' (Kd.R_new' (Kd.R_new' ho35 (Kd.R_lt (by (with_reducible repeat (first | apply Kd.R_alloc | apply Kd.R_drewN | apply Kd.R_drew)); exact HO_7.out))) (Kd.R_lt (by (with_reducible repeat (first | apply Kd.R_alloc | apply Kd.R_drewN | apply Kd.R_drew)); exact HO_8.out))) (Kd.R_lt (by (with_reducible repeat (first | apply Kd.R_alloc | apply Kd.R_drewN | apply Kd.R_drew)); exact HO_10.out))) (below_size (by repeat (first | (with_reducible first | exact HB.out | apply below_alloc | apply pw_below_drewN | apply below_drew1) | exact HB.out))))
                                                          have n4_ := Aside0.mk (below_step (by repeat (first | (with_reducible first | exact HB.out | apply below_alloc | apply pw_below_drewN | apply below_drew1) | exact HB.out)) hb)
                                                          clear HO_7
                                                          clear HO_8
                                                          clear HO_10
                                                          clear HB
                                                          have HO_7 := n0_
                                                          have HO_8 := n1_
                                                          have HO_10 := n2_
                                                          have HO117 := n3_
                                                          have HB := n4_
                                                          clear n0_ n1_ n2_ n3_ n4_
                                                          clear hb ho35
                                                          obtain ⟨Ao36, co36, eo36⟩ := Kd.R_slice HO117.out
                                                          subst eo36
                                                          obtain ⟨ado36, fo36, _⟩ := Kd.at_string (Kd.R_reads' HO117.out).2.2 0 (by decide) (by rw [Ny115.out]; simp)
                                                          cases fo36
                                                          refine hK.out _ _ (HS0_) (fun hHeld => ?_)
                                                          clear hK K
                                                          refine norm_ (a' := ?_) ?_ ?_
                                                          rotate_left
                                                          · show Act.put _ (some 47) _ = _
                                                            simp only [Act.put, List.setIfInBounds_toArray, List.set_cons_zero, List.set_cons_succ, i64_w, i32_w]
                                                            rfl
                                                          refine pure_ (i := 21) (N := some 53) (v := ?_) (a' := ?_) #[true, false, true, true, true, true, true, false, false, false, true, true, true, true, false, true, true, true, true, true, true, true, false, false, false, false] rfl rfl (any_of HT_.out (by kernel_rfl)) (fun _ _ _ h => h) (Or.inl ⟨by rfl, ?_⟩) ?_ ?_
                                                          rotate_left
                                                          · intro w'
                                                            go_simp
                                                            with_reducible rfl
                                                          rotate_left
                                                          · simp only [Act.put, List.setIfInBounds_toArray, List.set_cons_zero, List.set_cons_succ, i64_w, i32_w]
                                                            rfl
                                                          exact norm_ (by first | (simp only [putAll, Act.put, List.setIfInBounds_toArray, List.set_cons_zero, List.set_cons_succ]; done) | (simp only [putAll, Act.put, List.setIfInBounds_toArray, List.set_cons_zero, List.set_cons_succ]; rfl)) (hJ15 (.slice (some ado36) y115.length co36, ado36) _ ⟨hHeld, (by (with_reducible repeat (first | apply Kd.R_alloc | apply Kd.R_drewN | apply Kd.R_drew)); exact Kd.R_mono HO117.out (fun _ hk => by first | exact ⟨hk.2, ⟨hk.1.1.2, hk.1.2⟩⟩ | ((repeat' apply And.intro) <;> first | exact hk.1.1.1 | exact hk.1.1.2 | exact hk.1.1 | exact hk.1.2 | exact hk.2.1 | exact hk.2.2 | exact hk.2 | exact hk.1.2.1 | exact hk.1.2.2 | (simp [Value.ownBlock]; done)))), (by (with_reducible repeat (first | apply Kd.R_alloc | apply Kd.R_drewN | apply Kd.R_drew)); exact Kd.R_mono HO_10.out (fun _ hk => by first | exact ⟨hk.2, ⟨hk.1.1, hk.1.2⟩⟩ | ((repeat' apply And.intro) <;> first | exact hk.1.1.1 | exact hk.1.1.2 | exact hk.1.1 | exact hk.1.2 | exact hk.2.1 | exact hk.2.2 | exact hk.2 | exact hk.1.2.1 | exact hk.1.2.2 | (simp [Value.ownBlock]; done)))), (by (with_reducible repeat (first | apply Kd.R_alloc | apply Kd.R_drewN | apply Kd.R_drew)); exact Kd.R_mono HO_7.out (fun _ hk => by first | exact ⟨hk.2, ⟨hk.1.2, hk.1.1⟩⟩ | ((repeat' apply And.intro) <;> first | exact hk.1.1.1 | exact hk.1.1.2 | exact hk.1.1 | exact hk.1.2 | exact hk.2.1 | exact hk.2.2 | exact hk.2 | exact hk.1.2.1 | exact hk.1.2.2 | (simp [Value.ownBlock]; done)))), (by (with_reducible repeat (first | apply Kd.R_alloc | apply Kd.R_drewN | apply Kd.R_drew)); exact Kd.R_mono HO_8.out (fun _ hk => by first | exact ⟨hk.2, ⟨hk.1.2, hk.1.1⟩⟩ | ((repeat' apply And.intro) <;> first | exact hk.1.1.1 | exact hk.1.1.2 | exact hk.1.1 | exact hk.1.2 | exact hk.2.1 | exact hk.2.2 | exact hk.2 | exact hk.1.2.1 | exact hk.1.2.2 | (simp [Value.ownBlock]; done)))), ⟨_, rfl⟩, (by repeat (first | (with_reducible first | exact HB.out | apply below_alloc | apply pw_below_drewN | apply below_drew1) | exact HB.out))⟩)
                                                      · skip
                                                        rintro ⟨v116, adz_v116⟩ w37 ⟨hS_, h0_, h1_, h2_, h3_, h4_, h5_⟩
                                                        have n0_ : Aside0 (Kd.R Kd.string 9 w37 w.heap.size (fun k_ => some k_ ≠ (u10 : Value).ownBlock ∧ some k_ ≠ (.slice (some ad114) y102.length co33 : Value).ownBlock ∧ some k_ ≠ (v106 : Value).ownBlock) v116 y115) := ⟨h0_⟩
                                                        have n1_ : Aside0 (Kd.R Kd.string 9 w37 w.heap.size (fun k_ => some k_ ≠ (v116 : Value).ownBlock ∧ some k_ ≠ (.slice (some ad114) y102.length co33 : Value).ownBlock ∧ some k_ ≠ (v106 : Value).ownBlock) u10 x10_1) := ⟨h1_⟩
                                                        have n2_ : Aside0 (Kd.R Kd.string 9 w37 w.heap.size (fun k_ => some k_ ≠ (v116 : Value).ownBlock ∧ some k_ ≠ (u10 : Value).ownBlock ∧ some k_ ≠ (v106 : Value).ownBlock) (.slice (some ad114) y102.length co33) y102) := ⟨h2_⟩
                                                        have n3_ : Aside0 (Kd.R Kd.string 9 w37 w.heap.size (fun k_ => some k_ ≠ (v116 : Value).ownBlock ∧ some k_ ≠ (u10 : Value).ownBlock ∧ some k_ ≠ (.slice (some ad114) y102.length co33 : Value).ownBlock) v106 y105) := ⟨h3_⟩
                                                        have n4_ : Aside0 (∃ c_, (v116 : Value) = .slice (some adz_v116) y115.length c_) := ⟨h4_⟩
                                                        have n5_ : Aside0 (Below w.heap.size w w37) := ⟨h5_⟩
                                                        clear HO_7
                                                        clear HO_8
                                                        clear HO_10
                                                        clear HB
                                                        clear h0_ h1_ h2_ h3_ h4_ h5_
                                                        have HO117 := n0_
                                                        have HO_10 := n1_
                                                        have HO_7 := n2_
                                                        have HO_8 := n3_
                                                        have HA_HO117 := n4_
                                                        have HB := n5_
                                                        clear n0_ n1_ n2_ n3_ n4_ n5_
                                                        have hHeld : w37.cell? (ad114.add (t109).toNat) = some (.string (rdOf ByteArray.empty y102 t109)) := hS_
                                                        obtain ⟨co38, eo38⟩ := HA_HO117.out
                                                        clear HA_HO117
                                                        subst eo38
                                                        refine norm_ (a' := ?_) ?_ ?_
                                                        rotate_left
                                                        · simp only [putAll, Act.put, List.setIfInBounds_toArray, List.set_cons_zero, List.set_cons_succ]
                                                          rfl
                                                        refine two_ (i := 1) (j := 22) (Ni := some 33) (Nj := some 54) #[true, true, true, true, true, true, true, false, false, false, true, true, true, true, false, true, true, true, true, true, true, true, false, false, false, false] #[true, false, true, true, true, true, true, false, false, false, true, true, true, true, false, true, true, true, true, true, true, true, true, false, false, false] rfl rfl rfl rfl (two_of HT_.out (by kernel_rfl)) (by decide) (by decide) (fun K hK => ?_) (fun K hK => ?_)
                                                        · skip
                                                          refine Kd.R_lit_step Kd.string _ 9 ?hg (N := 33) ?hd (xs := ([(⟨#[]⟩ : ByteArray), (⟨#[32]⟩ : ByteArray), (⟨#[9]⟩ : ByteArray), (⟨#[32, 32]⟩ : ByteArray)] : List ByteArray)) (inner := [.string (⟨#[]⟩ : ByteArray), .string (⟨#[32]⟩ : ByteArray), .string (⟨#[9]⟩ : ByteArray), .string (⟨#[32, 32]⟩ : ByteArray)]) (ok := fun _ => True) (okp := fun _ => True) ?hr ?hp (fun _ hk => hk) trivial (Below.refl _ _) (Nat.le_refl _) (by simp) ?_; (case hd => rfl); (case hg => rfl); (case hr => first | (go_simp; done) | (go_simp; rfl)); (case hp => exact (Reps.one (show Kd.M Kd.string _ _ _ (⟨#[]⟩ : ByteArray) [.string (⟨#[]⟩ : ByteArray)] from rfl) (Reps.one (show Kd.M Kd.string _ _ _ (⟨#[32]⟩ : ByteArray) [.string (⟨#[32]⟩ : ByteArray)] from rfl) (Reps.one (show Kd.M Kd.string _ _ _ (⟨#[9]⟩ : ByteArray) [.string (⟨#[9]⟩ : ByteArray)] from rfl) (Reps.one (show Kd.M Kd.string _ _ _ (⟨#[32, 32]⟩ : ByteArray) [.string (⟨#[32, 32]⟩ : ByteArray)] from rfl) (Reps.none _ _))))))
                                                          intro v111 w39 ho40 hb hg_ hnew_
                                                          have HS0_ := (hb.cell (World.block_lt_of_cell? _ _ (hHeld))).trans (hHeld)
                                                          clear hg_ hnew_
                                                          (first | rw [← Ny110.out] at ho40 | (simp only [Int.reduceToNat] at ho40; rw [← Ny110.out] at ho40))
                                                          have n0_ := Aside0.mk (Kd.R_elder' (by (with_reducible repeat (first | apply Kd.R_alloc | apply Kd.R_drewN | apply Kd.R_drew)); exact HO_7.out) (Kd.R_base ho40) hb)
                                                          have n1_ := Aside0.mk (Kd.R_elder' (by (with_reducible repeat (first | apply Kd.R_alloc | apply Kd.R_drewN | apply Kd.R_drew)); exact HO_8.out) (Kd.R_base ho40) hb)
                                                          have n2_ := Aside0.mk (Kd.R_elder' (by (with_reducible repeat (first | apply Kd.R_alloc | apply Kd.R_drewN | apply Kd.R_drew)); exact HO_10.out) (Kd.R_base ho40) hb)
                                                          have n3_ := Aside0.mk (Kd.R_elder' (by (with_reducible repeat (first | apply Kd.R_alloc | apply Kd.R_drewN | apply Kd.R_drew)); exact HO117.out) (Kd.R_base ho40) hb)
                                                          have n4_ := Aside0.mk (Kd.R_lower (Kd.R_new' (Kd.R_new' (Kd.R_new' (Kd.R_new' ho40 (Kd.R_lt (by (with_reducible repeat (first | apply Kd.R_alloc | apply Kd.R_drewN | apply Kd.R_drew)); exact HO_7.out))) (Kd.R_lt (by (with_reducible repeat (first | apply Kd.R_alloc | apply Kd.R_drewN | apply Kd.R_drew)); exact HO_8.out))) (Kd.R_lt (by (with_reducible repeat (first | apply Kd.R_alloc | apply Kd.R_drewN | apply Kd.R_drew)); exact HO_10.out))) (Kd.R_lt (by (with_reducible repeat (first | apply Kd.R_alloc | apply Kd.R_drewN | apply Kd.R_drew)); exact HO117.out))) (below_size (by repeat (first | (with_reducible first | exact HB.out | apply below_alloc | apply pw_below_drewN | apply below_drew1) | exact HB.out))))
                                                          have n5_ := Aside0.mk (below_step (by repeat (first | (with_reducible first | exact HB.out | apply below_alloc | apply pw_below_drewN | apply below_drew1) | exact HB.out)) hb)
                                                          clear HO_7
                                                          clear HO_8
                                                          clear HO_10
                                                          clear HO117
                                                          clear HB
                                                          have HO_7 := n0_
                                                          have HO_8 := n1_
                                                          have HO_10 := n2_
                                                          have HO117 := n3_
                                                          have HO112 := n4_
                                                          have HB := n5_
                                                          clear n0_ n1_ n2_ n3_ n4_ n5_
                                                          clear hb ho40
                                                          obtain ⟨Ao41, co41, eo41⟩ := Kd.R_slice HO112.out
                                                          subst eo41
                                                          obtain ⟨ado41, fo41, _⟩ := Kd.at_string (Kd.R_reads' HO112.out).2.2 0 (by decide) (by rw [Ny110.out]; simp)
                                                          cases fo41
                                                          refine hK.out _ _ (HS0_) (fun hHeld => ?_)
                                                          clear hK K
                                                          refine norm_ (a' := ?_) ?_ ?_
                                                          rotate_left
                                                          · show Act.put _ (some 33) _ = _
                                                            simp only [Act.put, List.setIfInBounds_toArray, List.set_cons_zero, List.set_cons_succ, i64_w, i32_w]
                                                            rfl
                                                          refine pure_ (i := 7) (N := some 39) (v := ?_) (a' := ?_) #[true, true, true, true, true, true, true, true, false, false, true, true, true, true, false, true, true, true, true, true, true, true, false, false, false, false] rfl rfl (any_of HT_.out (by kernel_rfl)) (fun _ _ _ h => h) (Or.inl ⟨by rfl, ?_⟩) ?_ ?_
                                                          rotate_left
                                                          · intro w'
                                                            go_simp
                                                            with_reducible rfl
                                                          rotate_left
                                                          · simp only [Act.put, List.setIfInBounds_toArray, List.set_cons_zero, List.set_cons_succ, i64_w, i32_w]
                                                            rfl
                                                          exact norm_ (by first | (simp only [putAll, Act.put, List.setIfInBounds_toArray, List.set_cons_zero, List.set_cons_succ]; done) | (simp only [putAll, Act.put, List.setIfInBounds_toArray, List.set_cons_zero, List.set_cons_succ]; rfl)) (hJ1_15 (.slice (some ado41) y110.length co41, ado41, .slice (some adz_v116) y115.length co38, adz_v116) _ ⟨hHeld, (by (with_reducible repeat (first | apply Kd.R_alloc | apply Kd.R_drewN | apply Kd.R_drew)); exact Kd.R_mono HO112.out (fun _ hk => by first | exact ⟨hk.2, ⟨hk.1.2, ⟨hk.1.1.1.2, hk.1.1.2⟩⟩⟩ | ((repeat' apply And.intro) <;> first | exact hk.1.1.1 | exact hk.1.1.2 | exact hk.1.1 | exact hk.1.2 | exact hk.2.1 | exact hk.2.2 | exact hk.2 | exact hk.1.2.1 | exact hk.1.2.2 | (simp [Value.ownBlock]; done)))), (by (with_reducible repeat (first | apply Kd.R_alloc | apply Kd.R_drewN | apply Kd.R_drew)); exact Kd.R_mono HO117.out (fun _ hk => by first | exact ⟨hk.2, ⟨hk.1.1, ⟨hk.1.2.1, hk.1.2.2⟩⟩⟩ | ((repeat' apply And.intro) <;> first | exact hk.1.1.1 | exact hk.1.1.2 | exact hk.1.1 | exact hk.1.2 | exact hk.2.1 | exact hk.2.2 | exact hk.2 | exact hk.1.2.1 | exact hk.1.2.2 | (simp [Value.ownBlock]; done)))), (by (with_reducible repeat (first | apply Kd.R_alloc | apply Kd.R_drewN | apply Kd.R_drew)); exact Kd.R_mono HO_10.out (fun _ hk => by first | exact ⟨hk.2, ⟨hk.1.1, ⟨hk.1.2.1, hk.1.2.2⟩⟩⟩ | ((repeat' apply And.intro) <;> first | exact hk.1.1.1 | exact hk.1.1.2 | exact hk.1.1 | exact hk.1.2 | exact hk.2.1 | exact hk.2.2 | exact hk.2 | exact hk.1.2.1 | exact hk.1.2.2 | (simp [Value.ownBlock]; done)))), (by (with_reducible repeat (first | apply Kd.R_alloc | apply Kd.R_drewN | apply Kd.R_drew)); exact Kd.R_mono HO_7.out (fun _ hk => by first | exact ⟨hk.2, ⟨hk.1.1, ⟨hk.1.2.1, hk.1.2.2⟩⟩⟩ | ((repeat' apply And.intro) <;> first | exact hk.1.1.1 | exact hk.1.1.2 | exact hk.1.1 | exact hk.1.2 | exact hk.2.1 | exact hk.2.2 | exact hk.2 | exact hk.1.2.1 | exact hk.1.2.2 | (simp [Value.ownBlock]; done)))), (by (with_reducible repeat (first | apply Kd.R_alloc | apply Kd.R_drewN | apply Kd.R_drew)); exact Kd.R_mono HO_8.out (fun _ hk => by first | exact ⟨hk.2, ⟨hk.1.1, ⟨hk.1.2.1, hk.1.2.2⟩⟩⟩ | ((repeat' apply And.intro) <;> first | exact hk.1.1.1 | exact hk.1.1.2 | exact hk.1.1 | exact hk.1.2 | exact hk.2.1 | exact hk.2.2 | exact hk.2 | exact hk.1.2.1 | exact hk.1.2.2 | (simp [Value.ownBlock]; done)))), ⟨_, rfl⟩, ⟨_, rfl⟩, (by repeat (first | (with_reducible first | exact HB.out | apply below_alloc | apply pw_below_drewN | apply below_drew1) | exact HB.out))⟩)
                                                        · skip
                                                          (have p118 : 0 ≤ ((Go.bits .and .i64 (ji25) 3) : Int) := of_decide_eq_true (by first | (with_reducible assumption) | assumption); have q118 : (Go.bits .and .i64 (ji25) 3) < (y115.length : Int) := of_decide_eq_true (by first | (with_reducible assumption) | assumption); obtain ⟨ad118, e118, hx118_0⟩ := Kd.at_string (Kd.R_reads' HO117.out).2.2 (Go.bits .and .i64 (ji25) 3) p118 q118; obtain rfl : adz_v116 = ad118 := (by injection e118))
                                                          refine value_ (w1 := ?_) (v := ?_) (by rfl) rfl ?_ ?_
                                                          rotate_left 2
                                                          · go_simp
                                                            constructor
                                                            · rfl
                                                            · rfl
                                                          clear hx118_0
                                                          refine hK.out _ _ (hHeld) (fun hHeld => ?_)
                                                          clear hK K
                                                          refine norm_ (a' := ?_) ?_ ?_
                                                          rotate_left
                                                          · show Act.put _ (some 54) _ = _
                                                            simp only [Act.put, List.setIfInBounds_toArray, List.set_cons_zero, List.set_cons_succ, i64_w, i32_w]
                                                            rfl
                                                          exact norm_ (by first | (simp only [putAll, Act.put, List.setIfInBounds_toArray, List.set_cons_zero, List.set_cons_succ]; done) | (simp only [putAll, Act.put, List.setIfInBounds_toArray, List.set_cons_zero, List.set_cons_succ]; rfl)) (hJ15_22 (.slice (some adz_v116) y115.length co38, adz_v116) _ ⟨hHeld, (by (with_reducible repeat (first | apply Kd.R_alloc | apply Kd.R_drewN | apply Kd.R_drew)); exact HO117.out), (by (with_reducible repeat (first | apply Kd.R_alloc | apply Kd.R_drewN | apply Kd.R_drew)); exact HO_10.out), (by (with_reducible repeat (first | apply Kd.R_alloc | apply Kd.R_drewN | apply Kd.R_drew)); exact HO_7.out), (by (with_reducible repeat (first | apply Kd.R_alloc | apply Kd.R_drewN | apply Kd.R_drew)); exact HO_8.out), ⟨_, rfl⟩, (by repeat (first | (with_reducible first | exact HB.out | apply below_alloc | apply pw_below_drewN | apply below_drew1) | exact HB.out))⟩)
                                                    · skip
                                                      rintro ⟨v111, adz_v111⟩ w37 ⟨hS_, h0_, h1_, h2_, h3_, h4_, h5_⟩
                                                      have n0_ : Aside0 (Kd.R Kd.string 9 w37 w.heap.size (fun k_ => some k_ ≠ (u10 : Value).ownBlock ∧ some k_ ≠ (.slice (some ad114) y102.length co33 : Value).ownBlock ∧ some k_ ≠ (v106 : Value).ownBlock) v111 y110) := ⟨h0_⟩
                                                      have n1_ : Aside0 (Kd.R Kd.string 9 w37 w.heap.size (fun k_ => some k_ ≠ (v111 : Value).ownBlock ∧ some k_ ≠ (.slice (some ad114) y102.length co33 : Value).ownBlock ∧ some k_ ≠ (v106 : Value).ownBlock) u10 x10_1) := ⟨h1_⟩
                                                      have n2_ : Aside0 (Kd.R Kd.string 9 w37 w.heap.size (fun k_ => some k_ ≠ (v111 : Value).ownBlock ∧ some k_ ≠ (u10 : Value).ownBlock ∧ some k_ ≠ (v106 : Value).ownBlock) (.slice (some ad114) y102.length co33) y102) := ⟨h2_⟩
                                                      have n3_ : Aside0 (Kd.R Kd.string 9 w37 w.heap.size (fun k_ => some k_ ≠ (v111 : Value).ownBlock ∧ some k_ ≠ (u10 : Value).ownBlock ∧ some k_ ≠ (.slice (some ad114) y102.length co33 : Value).ownBlock) v106 y105) := ⟨h3_⟩
                                                      have n4_ : Aside0 (∃ c_, (v111 : Value) = .slice (some adz_v111) y110.length c_) := ⟨h4_⟩
                                                      have n5_ : Aside0 (Below w.heap.size w w37) := ⟨h5_⟩
                                                      clear HO_7
                                                      clear HO_8
                                                      clear HO_10
                                                      clear HB
                                                      clear h0_ h1_ h2_ h3_ h4_ h5_
                                                      have HO112 := n0_
                                                      have HO_10 := n1_
                                                      have HO_7 := n2_
                                                      have HO_8 := n3_
                                                      have HA_HO112 := n4_
                                                      have HB := n5_
                                                      clear n0_ n1_ n2_ n3_ n4_ n5_
                                                      have hHeld : w37.cell? (ad114.add (t109).toNat) = some (.string (rdOf ByteArray.empty y102 t109)) := hS_
                                                      obtain ⟨co38, eo38⟩ := HA_HO112.out
                                                      clear HA_HO112
                                                      subst eo38
                                                      refine norm_ (a' := ?_) ?_ ?_
                                                      rotate_left
                                                      · simp only [putAll, Act.put, List.setIfInBounds_toArray, List.set_cons_zero, List.set_cons_succ]
                                                        rfl
                                                      refine two_ (i := 8) (j := 15) (Ni := some 40) (Nj := some 47) #[true, true, true, true, true, true, true, true, true, false, true, true, true, true, false, false, true, true, true, true, true, false, false, false, false, false] #[true, true, true, true, true, true, true, true, false, false, true, true, true, true, false, true, true, true, true, true, true, false, false, false, false, false] rfl rfl rfl rfl (two_of HT_.out (by kernel_rfl)) (by decide) (by decide) (fun K hK => ?_) (fun K hK => ?_)
                                                      · skip
                                                        (have p113 : 0 ≤ ((Go.bits .and .i64 (ji16) 3) : Int) := of_decide_eq_true (by first | (with_reducible assumption) | assumption); have q113 : (Go.bits .and .i64 (ji16) 3) < (y110.length : Int) := of_decide_eq_true (by first | (with_reducible assumption) | assumption); obtain ⟨ad113, e113, hx113_0⟩ := Kd.at_string (Kd.R_reads' HO112.out).2.2 (Go.bits .and .i64 (ji16) 3) p113 q113; obtain rfl : adz_v111 = ad113 := (by injection e113))
                                                        refine value_ (w1 := ?_) (v := ?_) (by rfl) rfl ?_ ?_
                                                        rotate_left 2
                                                        · go_simp
                                                          constructor
                                                          · rfl
                                                          · rfl
                                                        clear hx113_0
                                                        refine hK.out _ _ (hHeld) (fun hHeld => ?_)
                                                        clear hK K
                                                        refine norm_ (a' := ?_) ?_ ?_
                                                        rotate_left
                                                        · show Act.put _ (some 40) _ = _
                                                          simp only [Act.put, List.setIfInBounds_toArray, List.set_cons_zero, List.set_cons_succ, i64_w, i32_w]
                                                          rfl
                                                        refine pure_ (i := 9) (N := some 41) (v := ?_) (a' := ?_) #[true, true, true, true, true, true, true, true, true, true, true, true, true, true, false, false, true, true, true, true, true, false, false, false, false, false] rfl rfl (any_of HT_.out (by kernel_rfl)) (fun _ _ _ h => h) (Or.inl ⟨by rfl, ?_⟩) ?_ ?_
                                                        rotate_left
                                                        · intro w'
                                                          go_simp
                                                          with_reducible rfl
                                                        rotate_left
                                                        · simp only [Act.put, List.setIfInBounds_toArray, List.set_cons_zero, List.set_cons_succ, i64_w, i32_w]
                                                          rfl
                                                        refine pure_ (i := 14) (N := some 46) (v := ?_) (a' := ?_) #[true, true, true, true, true, true, true, true, true, true, true, true, true, true, true, false, true, true, true, true, true, false, false, false, false, false] rfl rfl (any_of HT_.out (by kernel_rfl)) (fun _ _ _ h => h) (Or.inl ⟨by rfl, ?_⟩) ?_ ?_
                                                        rotate_left
                                                        · intro w'
                                                          go_simp
                                                          with_reducible rfl
                                                        rotate_left
                                                        · simp only [Act.put, List.setIfInBounds_toArray, List.set_cons_zero, List.set_cons_succ, i64_w, i32_w]
                                                          rfl
                                                        exact norm_ (by first | (simp only [putAll, Act.put, List.setIfInBounds_toArray, List.set_cons_zero, List.set_cons_succ]; done) | (simp only [putAll, Act.put, List.setIfInBounds_toArray, List.set_cons_zero, List.set_cons_succ]; rfl)) (hJ1_8 (.slice (some adz_v111) y110.length co38, adz_v111) _ ⟨hHeld, (by (with_reducible repeat (first | apply Kd.R_alloc | apply Kd.R_drewN | apply Kd.R_drew)); exact HO112.out), (by (with_reducible repeat (first | apply Kd.R_alloc | apply Kd.R_drewN | apply Kd.R_drew)); exact HO_10.out), (by (with_reducible repeat (first | apply Kd.R_alloc | apply Kd.R_drewN | apply Kd.R_drew)); exact HO_7.out), (by (with_reducible repeat (first | apply Kd.R_alloc | apply Kd.R_drewN | apply Kd.R_drew)); exact HO_8.out), ⟨_, rfl⟩, (by repeat (first | (with_reducible first | exact HB.out | apply below_alloc | apply pw_below_drewN | apply below_drew1) | exact HB.out))⟩)
                                                      · skip
                                                        refine Kd.R_lit_step Kd.string _ 9 ?hg (N := 47) ?hd (xs := ([(⟨#[]⟩ : ByteArray), (⟨#[32]⟩ : ByteArray), (⟨#[44]⟩ : ByteArray), (⟨#[9, 32, 44]⟩ : ByteArray)] : List ByteArray)) (inner := [.string (⟨#[]⟩ : ByteArray), .string (⟨#[32]⟩ : ByteArray), .string (⟨#[44]⟩ : ByteArray), .string (⟨#[9, 32, 44]⟩ : ByteArray)]) (ok := fun _ => True) (okp := fun _ => True) ?hr ?hp (fun _ hk => hk) trivial (Below.refl _ _) (Nat.le_refl _) (by simp) ?_; (case hd => rfl); (case hg => rfl); (case hr => first | (go_simp; done) | (go_simp; rfl)); (case hp => exact (Reps.one (show Kd.M Kd.string _ _ _ (⟨#[]⟩ : ByteArray) [.string (⟨#[]⟩ : ByteArray)] from rfl) (Reps.one (show Kd.M Kd.string _ _ _ (⟨#[32]⟩ : ByteArray) [.string (⟨#[32]⟩ : ByteArray)] from rfl) (Reps.one (show Kd.M Kd.string _ _ _ (⟨#[44]⟩ : ByteArray) [.string (⟨#[44]⟩ : ByteArray)] from rfl) (Reps.one (show Kd.M Kd.string _ _ _ (⟨#[9, 32, 44]⟩ : ByteArray) [.string (⟨#[9, 32, 44]⟩ : ByteArray)] from rfl) (Reps.none _ _))))))
                                                        intro v116 w39 ho40 hb hg_ hnew_
                                                        have HS0_ := (hb.cell (World.block_lt_of_cell? _ _ (hHeld))).trans (hHeld)
                                                        clear hg_ hnew_
                                                        (first | rw [← Ny115.out] at ho40 | (simp only [Int.reduceToNat] at ho40; rw [← Ny115.out] at ho40))
                                                        have n0_ := Aside0.mk (Kd.R_elder' (by (with_reducible repeat (first | apply Kd.R_alloc | apply Kd.R_drewN | apply Kd.R_drew)); exact HO_7.out) (Kd.R_base ho40) hb)
                                                        have n1_ := Aside0.mk (Kd.R_elder' (by (with_reducible repeat (first | apply Kd.R_alloc | apply Kd.R_drewN | apply Kd.R_drew)); exact HO_8.out) (Kd.R_base ho40) hb)
                                                        have n2_ := Aside0.mk (Kd.R_elder' (by (with_reducible repeat (first | apply Kd.R_alloc | apply Kd.R_drewN | apply Kd.R_drew)); exact HO_10.out) (Kd.R_base ho40) hb)
                                                        have n3_ := Aside0.mk (Kd.R_elder' (by (with_reducible repeat (first | apply Kd.R_alloc | apply Kd.R_drewN | apply Kd.R_drew)); exact HO112.out) (Kd.R_base ho40) hb)
                                                        have n4_ := Aside0.mk (Kd.R_lower (Kd.R_new' (Kd.R_new' (Kd.R_new' (Kd.R_new' ho40 (Kd.R_lt (by (with_reducible repeat (first | apply Kd.R_alloc | apply Kd.R_drewN | apply Kd.R_drew)); exact HO_7.out))) (Kd.R_lt (by (with_reducible repeat (first | apply Kd.R_alloc | apply Kd.R_drewN | apply Kd.R_drew)); exact HO_8.out))) (Kd.R_lt (by (with_reducible repeat (first | apply Kd.R_alloc | apply Kd.R_drewN | apply Kd.R_drew)); exact HO_10.out))) (Kd.R_lt (by (with_reducible repeat (first | apply Kd.R_alloc | apply Kd.R_drewN | apply Kd.R_drew)); exact HO112.out))) (below_size (by repeat (first | (with_reducible first | exact HB.out | apply below_alloc | apply pw_below_drewN | apply below_drew1) | exact HB.out))))
                                                        have n5_ := Aside0.mk (below_step (by repeat (first | (with_reducible first | exact HB.out | apply below_alloc | apply pw_below_drewN | apply below_drew1) | exact HB.out)) hb)
                                                        clear HO_7
                                                        clear HO_8
                                                        clear HO_10
                                                        clear HO112
                                                        clear HB
                                                        have HO_7 := n0_
                                                        have HO_8 := n1_
                                                        have HO_10 := n2_
                                                        have HO112 := n3_
                                                        have HO117 := n4_
                                                        have HB := n5_
                                                        clear n0_ n1_ n2_ n3_ n4_ n5_
                                                        clear hb ho40
                                                        obtain ⟨Ao41, co41, eo41⟩ := Kd.R_slice HO117.out
                                                        subst eo41
                                                        obtain ⟨ado41, fo41, _⟩ := Kd.at_string (Kd.R_reads' HO117.out).2.2 0 (by decide) (by rw [Ny115.out]; simp)
                                                        cases fo41
                                                        refine hK.out _ _ (HS0_) (fun hHeld => ?_)
                                                        clear hK K
                                                        refine norm_ (a' := ?_) ?_ ?_
                                                        rotate_left
                                                        · show Act.put _ (some 47) _ = _
                                                          simp only [Act.put, List.setIfInBounds_toArray, List.set_cons_zero, List.set_cons_succ, i64_w, i32_w]
                                                          rfl
                                                        refine pure_ (i := 21) (N := some 53) (v := ?_) (a' := ?_) #[true, true, true, true, true, true, true, true, false, false, true, true, true, true, false, true, true, true, true, true, true, true, false, false, false, false] rfl rfl (any_of HT_.out (by kernel_rfl)) (fun _ _ _ h => h) (Or.inl ⟨by rfl, ?_⟩) ?_ ?_
                                                        rotate_left
                                                        · intro w'
                                                          go_simp
                                                          with_reducible rfl
                                                        rotate_left
                                                        · simp only [Act.put, List.setIfInBounds_toArray, List.set_cons_zero, List.set_cons_succ, i64_w, i32_w]
                                                          rfl
                                                        exact norm_ (by first | (simp only [putAll, Act.put, List.setIfInBounds_toArray, List.set_cons_zero, List.set_cons_succ]; done) | (simp only [putAll, Act.put, List.setIfInBounds_toArray, List.set_cons_zero, List.set_cons_succ]; rfl)) (hJ1_15 (.slice (some adz_v111) y110.length co38, adz_v111, .slice (some ado41) y115.length co41, ado41) _ ⟨hHeld, (by (with_reducible repeat (first | apply Kd.R_alloc | apply Kd.R_drewN | apply Kd.R_drew)); exact Kd.R_mono HO112.out (fun _ hk => by first | exact ⟨hk.2, ⟨hk.1.1, ⟨hk.1.2.1, hk.1.2.2⟩⟩⟩ | ((repeat' apply And.intro) <;> first | exact hk.1.1.1 | exact hk.1.1.2 | exact hk.1.1 | exact hk.1.2 | exact hk.2.1 | exact hk.2.2 | exact hk.2 | exact hk.1.2.1 | exact hk.1.2.2 | (simp [Value.ownBlock]; done)))), (by (with_reducible repeat (first | apply Kd.R_alloc | apply Kd.R_drewN | apply Kd.R_drew)); exact Kd.R_mono HO117.out (fun _ hk => by first | exact ⟨hk.2, ⟨hk.1.2, ⟨hk.1.1.1.2, hk.1.1.2⟩⟩⟩ | ((repeat' apply And.intro) <;> first | exact hk.1.1.1 | exact hk.1.1.2 | exact hk.1.1 | exact hk.1.2 | exact hk.2.1 | exact hk.2.2 | exact hk.2 | exact hk.1.2.1 | exact hk.1.2.2 | (simp [Value.ownBlock]; done)))), (by (with_reducible repeat (first | apply Kd.R_alloc | apply Kd.R_drewN | apply Kd.R_drew)); exact Kd.R_mono HO_10.out (fun _ hk => by first | exact ⟨hk.1.1, ⟨hk.2, ⟨hk.1.2.1, hk.1.2.2⟩⟩⟩ | ((repeat' apply And.intro) <;> first | exact hk.1.1.1 | exact hk.1.1.2 | exact hk.1.1 | exact hk.1.2 | exact hk.2.1 | exact hk.2.2 | exact hk.2 | exact hk.1.2.1 | exact hk.1.2.2 | (simp [Value.ownBlock]; done)))), (by (with_reducible repeat (first | apply Kd.R_alloc | apply Kd.R_drewN | apply Kd.R_drew)); exact Kd.R_mono HO_7.out (fun _ hk => by first | exact ⟨hk.1.1, ⟨hk.2, ⟨hk.1.2.1, hk.1.2.2⟩⟩⟩ | ((repeat' apply And.intro) <;> first | exact hk.1.1.1 | exact hk.1.1.2 | exact hk.1.1 | exact hk.1.2 | exact hk.2.1 | exact hk.2.2 | exact hk.2 | exact hk.1.2.1 | exact hk.1.2.2 | (simp [Value.ownBlock]; done)))), (by (with_reducible repeat (first | apply Kd.R_alloc | apply Kd.R_drewN | apply Kd.R_drew)); exact Kd.R_mono HO_8.out (fun _ hk => by first | exact ⟨hk.1.1, ⟨hk.2, ⟨hk.1.2.1, hk.1.2.2⟩⟩⟩ | ((repeat' apply And.intro) <;> first | exact hk.1.1.1 | exact hk.1.1.2 | exact hk.1.1 | exact hk.1.2 | exact hk.2.1 | exact hk.2.2 | exact hk.2 | exact hk.1.2.1 | exact hk.1.2.2 | (simp [Value.ownBlock]; done)))), ⟨_, rfl⟩, ⟨_, rfl⟩, (by repeat (first | (with_reducible first | exact HB.out | apply below_alloc | apply pw_below_drewN | apply below_drew1) | exact HB.out))⟩)
                                                  · skip
                                                    rintro ⟨v116, adz_v116⟩ w37 ⟨hS_, h0_, h1_, h2_, h3_, h4_, h5_⟩
                                                    have n0_ : Aside0 (Kd.R Kd.string 9 w37 w.heap.size (fun k_ => some k_ ≠ (u10 : Value).ownBlock ∧ some k_ ≠ (.slice (some ad114) y102.length co33 : Value).ownBlock ∧ some k_ ≠ (v106 : Value).ownBlock) v116 y115) := ⟨h0_⟩
                                                    have n1_ : Aside0 (Kd.R Kd.string 9 w37 w.heap.size (fun k_ => some k_ ≠ (v116 : Value).ownBlock ∧ some k_ ≠ (.slice (some ad114) y102.length co33 : Value).ownBlock ∧ some k_ ≠ (v106 : Value).ownBlock) u10 x10_1) := ⟨h1_⟩
                                                    have n2_ : Aside0 (Kd.R Kd.string 9 w37 w.heap.size (fun k_ => some k_ ≠ (v116 : Value).ownBlock ∧ some k_ ≠ (u10 : Value).ownBlock ∧ some k_ ≠ (v106 : Value).ownBlock) (.slice (some ad114) y102.length co33) y102) := ⟨h2_⟩
                                                    have n3_ : Aside0 (Kd.R Kd.string 9 w37 w.heap.size (fun k_ => some k_ ≠ (v116 : Value).ownBlock ∧ some k_ ≠ (u10 : Value).ownBlock ∧ some k_ ≠ (.slice (some ad114) y102.length co33 : Value).ownBlock) v106 y105) := ⟨h3_⟩
                                                    have n4_ : Aside0 (∃ c_, (v116 : Value) = .slice (some adz_v116) y115.length c_) := ⟨h4_⟩
                                                    have n5_ : Aside0 (Below w.heap.size w w37) := ⟨h5_⟩
                                                    clear HO_7
                                                    clear HO_8
                                                    clear HO_10
                                                    clear HB
                                                    clear h0_ h1_ h2_ h3_ h4_ h5_
                                                    have HO117 := n0_
                                                    have HO_10 := n1_
                                                    have HO_7 := n2_
                                                    have HO_8 := n3_
                                                    have HA_HO117 := n4_
                                                    have HB := n5_
                                                    clear n0_ n1_ n2_ n3_ n4_ n5_
                                                    have hHeld : w37.cell? (ad114.add (t109).toNat) = some (.string (rdOf ByteArray.empty y102 t109)) := hS_
                                                    obtain ⟨co38, eo38⟩ := HA_HO117.out
                                                    clear HA_HO117
                                                    subst eo38
                                                    refine norm_ (a' := ?_) ?_ ?_
                                                    rotate_left
                                                    · simp only [putAll, Act.put, List.setIfInBounds_toArray, List.set_cons_zero, List.set_cons_succ]
                                                      rfl
                                                    refine one_ (i := 1) (N := some 33) #[true, true, true, true, true, true, true, false, false, false, true, true, true, true, false, true, true, true, true, true, true, true, true, false, false, false] rfl rfl (one_of HT_.out (by kernel_rfl)) (by decide) (fun K hK => ?_)
                                                    refine Kd.R_lit_step Kd.string _ 9 ?hg (N := 33) ?hd (xs := ([(⟨#[]⟩ : ByteArray), (⟨#[32]⟩ : ByteArray), (⟨#[9]⟩ : ByteArray), (⟨#[32, 32]⟩ : ByteArray)] : List ByteArray)) (inner := [.string (⟨#[]⟩ : ByteArray), .string (⟨#[32]⟩ : ByteArray), .string (⟨#[9]⟩ : ByteArray), .string (⟨#[32, 32]⟩ : ByteArray)]) (ok := fun _ => True) (okp := fun _ => True) ?hr ?hp (fun _ hk => hk) trivial (Below.refl _ _) (Nat.le_refl _) (by simp) ?_; (case hd => rfl); (case hg => rfl); (case hr => first | (go_simp; done) | (go_simp; rfl)); (case hp => exact (Reps.one (show Kd.M Kd.string _ _ _ (⟨#[]⟩ : ByteArray) [.string (⟨#[]⟩ : ByteArray)] from rfl) (Reps.one (show Kd.M Kd.string _ _ _ (⟨#[32]⟩ : ByteArray) [.string (⟨#[32]⟩ : ByteArray)] from rfl) (Reps.one (show Kd.M Kd.string _ _ _ (⟨#[9]⟩ : ByteArray) [.string (⟨#[9]⟩ : ByteArray)] from rfl) (Reps.one (show Kd.M Kd.string _ _ _ (⟨#[32, 32]⟩ : ByteArray) [.string (⟨#[32, 32]⟩ : ByteArray)] from rfl) (Reps.none _ _))))))
                                                    intro v111 w39 ho40 hb hg_ hnew_
                                                    have HS0_ := (hb.cell (World.block_lt_of_cell? _ _ (hHeld))).trans (hHeld)
                                                    clear hg_ hnew_
                                                    (first | rw [← Ny110.out] at ho40 | (simp only [Int.reduceToNat] at ho40; rw [← Ny110.out] at ho40))
                                                    have n0_ := Aside0.mk (Kd.R_elder' (by (with_reducible repeat (first | apply Kd.R_alloc | apply Kd.R_drewN | apply Kd.R_drew)); exact HO_7.out) (Kd.R_base ho40) hb)
                                                    have n1_ := Aside0.mk (Kd.R_elder' (by (with_reducible repeat (first | apply Kd.R_alloc | apply Kd.R_drewN | apply Kd.R_drew)); exact HO_8.out) (Kd.R_base ho40) hb)
                                                    have n2_ := Aside0.mk (Kd.R_elder' (by (with_reducible repeat (first | apply Kd.R_alloc | apply Kd.R_drewN | apply Kd.R_drew)); exact HO_10.out) (Kd.R_base ho40) hb)
                                                    have n3_ := Aside0.mk (Kd.R_elder' (by (with_reducible repeat (first | apply Kd.R_alloc | apply Kd.R_drewN | apply Kd.R_drew)); exact HO117.out) (Kd.R_base ho40) hb)
                                                    have n4_ := Aside0.mk (Kd.R_lower (Kd.R_new' (Kd.R_new' (Kd.R_new' (Kd.R_new' ho40 (Kd.R_lt (by (with_reducible repeat (first | apply Kd.R_alloc | apply Kd.R_drewN | apply Kd.R_drew)); exact HO_7.out))) (Kd.R_lt (by (with_reducible repeat (first | apply Kd.R_alloc | apply Kd.R_drewN | apply Kd.R_drew)); exact HO_8.out))) (Kd.R_lt (by (with_reducible repeat (first | apply Kd.R_alloc | apply Kd.R_drewN | apply Kd.R_drew)); exact HO_10.out))) (Kd.R_lt (by (with_reducible repeat (first | apply Kd.R_alloc | apply Kd.R_drewN | apply Kd.R_drew)); exact HO117.out))) (below_size (by repeat (first | (with_reducible first | exact HB.out | apply below_alloc | apply pw_below_drewN | apply below_drew1) | exact HB.out))))
                                                    have n5_ := Aside0.mk (below_step (by repeat (first | (with_reducible first | exact HB.out | apply below_alloc | apply pw_below_drewN | apply below_drew1) | exact HB.out)) hb)
                                                    clear HO_7
                                                    clear HO_8
                                                    clear HO_10
                                                    clear HO117
                                                    clear HB
                                                    have HO_7 := n0_
                                                    have HO_8 := n1_
                                                    have HO_10 := n2_
                                                    have HO117 := n3_
                                                    have HO112 := n4_
                                                    have HB := n5_
                                                    clear n0_ n1_ n2_ n3_ n4_ n5_
                                                    clear hb ho40
                                                    obtain ⟨Ao41, co41, eo41⟩ := Kd.R_slice HO112.out
                                                    subst eo41
                                                    obtain ⟨ado41, fo41, _⟩ := Kd.at_string (Kd.R_reads' HO112.out).2.2 0 (by decide) (by rw [Ny110.out]; simp)
                                                    cases fo41
                                                    refine hK.out _ _ (HS0_) (fun hHeld => ?_)
                                                    clear hK K
                                                    refine norm_ (a' := ?_) ?_ ?_
                                                    rotate_left
                                                    · show Act.put _ (some 33) _ = _
                                                      simp only [Act.put, List.setIfInBounds_toArray, List.set_cons_zero, List.set_cons_succ, i64_w, i32_w]
                                                      rfl
                                                    refine pure_ (i := 7) (N := some 39) (v := ?_) (a' := ?_) #[true, true, true, true, true, true, true, true, false, false, true, true, true, true, false, true, true, true, true, true, true, true, true, false, false, false] rfl rfl (any_of HT_.out (by kernel_rfl)) (fun _ _ _ h => h) (Or.inl ⟨by rfl, ?_⟩) ?_ ?_
                                                    rotate_left
                                                    · intro w'
                                                      go_simp
                                                      with_reducible rfl
                                                    rotate_left
                                                    · simp only [Act.put, List.setIfInBounds_toArray, List.set_cons_zero, List.set_cons_succ, i64_w, i32_w]
                                                      rfl
                                                    exact norm_ (by first | (simp only [putAll, Act.put, List.setIfInBounds_toArray, List.set_cons_zero, List.set_cons_succ]; done) | (simp only [putAll, Act.put, List.setIfInBounds_toArray, List.set_cons_zero, List.set_cons_succ]; rfl)) (hJ1_15_22 (.slice (some ado41) y110.length co41, ado41, .slice (some adz_v116) y115.length co38, adz_v116) _ ⟨hHeld, (by (with_reducible repeat (first | apply Kd.R_alloc | apply Kd.R_drewN | apply Kd.R_drew)); exact Kd.R_mono HO112.out (fun _ hk => by first | exact ⟨hk.2, ⟨hk.1.2, ⟨hk.1.1.1.2, hk.1.1.2⟩⟩⟩ | ((repeat' apply And.intro) <;> first | exact hk.1.1.1 | exact hk.1.1.2 | exact hk.1.1 | exact hk.1.2 | exact hk.2.1 | exact hk.2.2 | exact hk.2 | exact hk.1.2.1 | exact hk.1.2.2 | (simp [Value.ownBlock]; done)))), (by (with_reducible repeat (first | apply Kd.R_alloc | apply Kd.R_drewN | apply Kd.R_drew)); exact Kd.R_mono HO117.out (fun _ hk => by first | exact ⟨hk.2, ⟨hk.1.1, ⟨hk.1.2.1, hk.1.2.2⟩⟩⟩ | ((repeat' apply And.intro) <;> first | exact hk.1.1.1 | exact hk.1.1.2 | exact hk.1.1 | exact hk.1.2 | exact hk.2.1 | exact hk.2.2 | exact hk.2 | exact hk.1.2.1 | exact hk.1.2.2 | (simp [Value.ownBlock]; done)))), (by (with_reducible repeat (first | apply Kd.R_alloc | apply Kd.R_drewN | apply Kd.R_drew)); exact Kd.R_mono HO_10.out (fun _ hk => by first | exact ⟨hk.2, ⟨hk.1.1, ⟨hk.1.2.1, hk.1.2.2⟩⟩⟩ | ((repeat' apply And.intro) <;> first | exact hk.1.1.1 | exact hk.1.1.2 | exact hk.1.1 | exact hk.1.2 | exact hk.2.1 | exact hk.2.2 | exact hk.2 | exact hk.1.2.1 | exact hk.1.2.2 | (simp [Value.ownBlock]; done)))), (by (with_reducible repeat (first | apply Kd.R_alloc | apply Kd.R_drewN | apply Kd.R_drew)); exact Kd.R_mono HO_7.out (fun _ hk => by first | exact ⟨hk.2, ⟨hk.1.1, ⟨hk.1.2.1, hk.1.2.2⟩⟩⟩ | ((repeat' apply And.intro) <;> first | exact hk.1.1.1 | exact hk.1.1.2 | exact hk.1.1 | exact hk.1.2 | exact hk.2.1 | exact hk.2.2 | exact hk.2 | exact hk.1.2.1 | exact hk.1.2.2 | (simp [Value.ownBlock]; done)))), (by (with_reducible repeat (first | apply Kd.R_alloc | apply Kd.R_drewN | apply Kd.R_drew)); exact Kd.R_mono HO_8.out (fun _ hk => by first | exact ⟨hk.2, ⟨hk.1.1, ⟨hk.1.2.1, hk.1.2.2⟩⟩⟩ | ((repeat' apply And.intro) <;> first | exact hk.1.1.1 | exact hk.1.1.2 | exact hk.1.1 | exact hk.1.2 | exact hk.2.1 | exact hk.2.2 | exact hk.2 | exact hk.1.2.1 | exact hk.1.2.2 | (simp [Value.ownBlock]; done)))), ⟨_, rfl⟩, ⟨_, rfl⟩, (by repeat (first | (with_reducible first | exact HB.out | apply below_alloc | apply pw_below_drewN | apply below_drew1) | exact HB.out))⟩)
                                                · skip
                                                  rintro ⟨v111, adz_v111, v116, adz_v116⟩ w40 ⟨hS_, h0_, h1_, h2_, h3_, h4_, h5_, h6_, h7_⟩
                                                  have n0_ : Aside0 (Kd.R Kd.string 9 w40 w.heap.size (fun k_ => some k_ ≠ (v116 : Value).ownBlock ∧ some k_ ≠ (u10 : Value).ownBlock ∧ some k_ ≠ (.slice (some ad114) y102.length co33 : Value).ownBlock ∧ some k_ ≠ (v106 : Value).ownBlock) v111 y110) := ⟨h0_⟩
                                                  have n1_ : Aside0 (Kd.R Kd.string 9 w40 w.heap.size (fun k_ => some k_ ≠ (v111 : Value).ownBlock ∧ some k_ ≠ (u10 : Value).ownBlock ∧ some k_ ≠ (.slice (some ad114) y102.length co33 : Value).ownBlock ∧ some k_ ≠ (v106 : Value).ownBlock) v116 y115) := ⟨h1_⟩
                                                  have n2_ : Aside0 (Kd.R Kd.string 9 w40 w.heap.size (fun k_ => some k_ ≠ (v111 : Value).ownBlock ∧ some k_ ≠ (v116 : Value).ownBlock ∧ some k_ ≠ (.slice (some ad114) y102.length co33 : Value).ownBlock ∧ some k_ ≠ (v106 : Value).ownBlock) u10 x10_1) := ⟨h2_⟩
                                                  have n3_ : Aside0 (Kd.R Kd.string 9 w40 w.heap.size (fun k_ => some k_ ≠ (v111 : Value).ownBlock ∧ some k_ ≠ (v116 : Value).ownBlock ∧ some k_ ≠ (u10 : Value).ownBlock ∧ some k_ ≠ (v106 : Value).ownBlock) (.slice (some ad114) y102.length co33) y102) := ⟨h3_⟩
                                                  have n4_ : Aside0 (Kd.R Kd.string 9 w40 w.heap.size (fun k_ => some k_ ≠ (v111 : Value).ownBlock ∧ some k_ ≠ (v116 : Value).ownBlock ∧ some k_ ≠ (u10 : Value).ownBlock ∧ some k_ ≠ (.slice (some ad114) y102.length co33 : Value).ownBlock) v106 y105) := ⟨h4_⟩
                                                  have n5_ : Aside0 (∃ c_, (v111 : Value) = .slice (some adz_v111) y110.length c_) := ⟨h5_⟩
                                                  have n6_ : Aside0 (∃ c_, (v116 : Value) = .slice (some adz_v116) y115.length c_) := ⟨h6_⟩
                                                  have n7_ : Aside0 (Below w.heap.size w w40) := ⟨h7_⟩
                                                  clear HO_7
                                                  clear HO_8
                                                  clear HO_10
                                                  clear HB
                                                  clear h0_ h1_ h2_ h3_ h4_ h5_ h6_ h7_
                                                  have HO112 := n0_
                                                  have HO117 := n1_
                                                  have HO_10 := n2_
                                                  have HO_7 := n3_
                                                  have HO_8 := n4_
                                                  have HA_HO112 := n5_
                                                  have HA_HO117 := n6_
                                                  have HB := n7_
                                                  clear n0_ n1_ n2_ n3_ n4_ n5_ n6_ n7_
                                                  have hHeld : w40.cell? (ad114.add (t109).toNat) = some (.string (rdOf ByteArray.empty y102 t109)) := hS_
                                                  obtain ⟨co41, eo41⟩ := HA_HO112.out
                                                  clear HA_HO112
                                                  subst eo41
                                                  obtain ⟨co42, eo42⟩ := HA_HO117.out
                                                  clear HA_HO117
                                                  subst eo42
                                                  refine norm_ (a' := ?_) ?_ ?_
                                                  rotate_left
                                                  · simp only [putAll, Act.put, List.setIfInBounds_toArray, List.set_cons_zero, List.set_cons_succ]
                                                    rfl
                                                  refine two_ (i := 8) (j := 22) (Ni := some 40) (Nj := some 54) #[true, true, true, true, true, true, true, true, true, false, true, true, true, true, false, true, true, true, true, true, true, true, false, false, false, false] #[true, true, true, true, true, true, true, true, false, false, true, true, true, true, false, true, true, true, true, true, true, true, true, false, false, false] rfl rfl rfl rfl (two_of HT_.out (by kernel_rfl)) (by decide) (by decide) (fun K hK => ?_) (fun K hK => ?_)
                                                  · skip
                                                    (have p113 : 0 ≤ ((Go.bits .and .i64 (ji16) 3) : Int) := of_decide_eq_true (by first | (with_reducible assumption) | assumption); have q113 : (Go.bits .and .i64 (ji16) 3) < (y110.length : Int) := of_decide_eq_true (by first | (with_reducible assumption) | assumption); obtain ⟨ad113, e113, hx113_0⟩ := Kd.at_string (Kd.R_reads' HO112.out).2.2 (Go.bits .and .i64 (ji16) 3) p113 q113; obtain rfl : adz_v111 = ad113 := (by injection e113))
                                                    refine value_ (w1 := ?_) (v := ?_) (by rfl) rfl ?_ ?_
                                                    rotate_left 2
                                                    · go_simp
                                                      constructor
                                                      · rfl
                                                      · rfl
                                                    clear hx113_0
                                                    refine hK.out _ _ (hHeld) (fun hHeld => ?_)
                                                    clear hK K
                                                    refine norm_ (a' := ?_) ?_ ?_
                                                    rotate_left
                                                    · show Act.put _ (some 40) _ = _
                                                      simp only [Act.put, List.setIfInBounds_toArray, List.set_cons_zero, List.set_cons_succ, i64_w, i32_w]
                                                      rfl
                                                    refine pure_ (i := 9) (N := some 41) (v := ?_) (a' := ?_) #[true, true, true, true, true, true, true, true, true, true, true, true, true, true, false, true, true, true, true, true, true, true, false, false, false, false] rfl rfl (any_of HT_.out (by kernel_rfl)) (fun _ _ _ h => h) (Or.inl ⟨by rfl, ?_⟩) ?_ ?_
                                                    rotate_left
                                                    · intro w'
                                                      go_simp
                                                      with_reducible rfl
                                                    rotate_left
                                                    · simp only [Act.put, List.setIfInBounds_toArray, List.set_cons_zero, List.set_cons_succ, i64_w, i32_w]
                                                      rfl
                                                    refine pure_ (i := 14) (N := some 46) (v := ?_) (a' := ?_) #[true, true, true, true, true, true, true, true, true, true, true, true, true, true, true, true, true, true, true, true, true, true, false, false, false, false] rfl rfl (any_of HT_.out (by kernel_rfl)) (fun _ _ _ h => h) (Or.inl ⟨by rfl, ?_⟩) ?_ ?_
                                                    rotate_left
                                                    · intro w'
                                                      go_simp
                                                      with_reducible rfl
                                                    rotate_left
                                                    · simp only [Act.put, List.setIfInBounds_toArray, List.set_cons_zero, List.set_cons_succ, i64_w, i32_w]
                                                      rfl
                                                    exact norm_ (by first | (simp only [putAll, Act.put, List.setIfInBounds_toArray, List.set_cons_zero, List.set_cons_succ]; done) | (simp only [putAll, Act.put, List.setIfInBounds_toArray, List.set_cons_zero, List.set_cons_succ]; rfl)) (hJ1_8_15 (.slice (some adz_v111) y110.length co41, adz_v111, .slice (some adz_v116) y115.length co42, adz_v116) _ ⟨hHeld, (by (with_reducible repeat (first | apply Kd.R_alloc | apply Kd.R_drewN | apply Kd.R_drew)); exact HO112.out), (by (with_reducible repeat (first | apply Kd.R_alloc | apply Kd.R_drewN | apply Kd.R_drew)); exact HO117.out), (by (with_reducible repeat (first | apply Kd.R_alloc | apply Kd.R_drewN | apply Kd.R_drew)); exact HO_10.out), (by (with_reducible repeat (first | apply Kd.R_alloc | apply Kd.R_drewN | apply Kd.R_drew)); exact HO_7.out), (by (with_reducible repeat (first | apply Kd.R_alloc | apply Kd.R_drewN | apply Kd.R_drew)); exact HO_8.out), ⟨_, rfl⟩, ⟨_, rfl⟩, (by repeat (first | (with_reducible first | exact HB.out | apply below_alloc | apply pw_below_drewN | apply below_drew1) | exact HB.out))⟩)
                                                  · skip
                                                    (have p118 : 0 ≤ ((Go.bits .and .i64 (ji25) 3) : Int) := of_decide_eq_true (by first | (with_reducible assumption) | assumption); have q118 : (Go.bits .and .i64 (ji25) 3) < (y115.length : Int) := of_decide_eq_true (by first | (with_reducible assumption) | assumption); obtain ⟨ad118, e118, hx118_0⟩ := Kd.at_string (Kd.R_reads' HO117.out).2.2 (Go.bits .and .i64 (ji25) 3) p118 q118; obtain rfl : adz_v116 = ad118 := (by injection e118))
                                                    refine value_ (w1 := ?_) (v := ?_) (by rfl) rfl ?_ ?_
                                                    rotate_left 2
                                                    · go_simp
                                                      constructor
                                                      · rfl
                                                      · rfl
                                                    clear hx118_0
                                                    refine hK.out _ _ (hHeld) (fun hHeld => ?_)
                                                    clear hK K
                                                    refine norm_ (a' := ?_) ?_ ?_
                                                    rotate_left
                                                    · show Act.put _ (some 54) _ = _
                                                      simp only [Act.put, List.setIfInBounds_toArray, List.set_cons_zero, List.set_cons_succ, i64_w, i32_w]
                                                      rfl
                                                    exact norm_ (by first | (simp only [putAll, Act.put, List.setIfInBounds_toArray, List.set_cons_zero, List.set_cons_succ]; done) | (simp only [putAll, Act.put, List.setIfInBounds_toArray, List.set_cons_zero, List.set_cons_succ]; rfl)) (hJ1_15_22 (.slice (some adz_v111) y110.length co41, adz_v111, .slice (some adz_v116) y115.length co42, adz_v116) _ ⟨hHeld, (by (with_reducible repeat (first | apply Kd.R_alloc | apply Kd.R_drewN | apply Kd.R_drew)); exact HO112.out), (by (with_reducible repeat (first | apply Kd.R_alloc | apply Kd.R_drewN | apply Kd.R_drew)); exact HO117.out), (by (with_reducible repeat (first | apply Kd.R_alloc | apply Kd.R_drewN | apply Kd.R_drew)); exact HO_10.out), (by (with_reducible repeat (first | apply Kd.R_alloc | apply Kd.R_drewN | apply Kd.R_drew)); exact HO_7.out), (by (with_reducible repeat (first | apply Kd.R_alloc | apply Kd.R_drewN | apply Kd.R_drew)); exact HO_8.out), ⟨_, rfl⟩, ⟨_, rfl⟩, (by repeat (first | (with_reducible first | exact HB.out | apply below_alloc | apply pw_below_drewN | apply below_drew1) | exact HB.out))⟩)
                                              · skip
                                                rintro ⟨v111, adz_v111⟩ w37 ⟨hS_, h0_, h1_, h2_, h3_, h4_, h5_⟩
                                                have n0_ : Aside0 (Kd.R Kd.string 9 w37 w.heap.size (fun k_ => some k_ ≠ (u10 : Value).ownBlock ∧ some k_ ≠ (.slice (some ad114) y102.length co33 : Value).ownBlock ∧ some k_ ≠ (v106 : Value).ownBlock) v111 y110) := ⟨h0_⟩
                                                have n1_ : Aside0 (Kd.R Kd.string 9 w37 w.heap.size (fun k_ => some k_ ≠ (v111 : Value).ownBlock ∧ some k_ ≠ (.slice (some ad114) y102.length co33 : Value).ownBlock ∧ some k_ ≠ (v106 : Value).ownBlock) u10 x10_1) := ⟨h1_⟩
                                                have n2_ : Aside0 (Kd.R Kd.string 9 w37 w.heap.size (fun k_ => some k_ ≠ (v111 : Value).ownBlock ∧ some k_ ≠ (u10 : Value).ownBlock ∧ some k_ ≠ (v106 : Value).ownBlock) (.slice (some ad114) y102.length co33) y102) := ⟨h2_⟩
                                                have n3_ : Aside0 (Kd.R Kd.string 9 w37 w.heap.size (fun k_ => some k_ ≠ (v111 : Value).ownBlock ∧ some k_ ≠ (u10 : Value).ownBlock ∧ some k_ ≠ (.slice (some ad114) y102.length co33 : Value).ownBlock) v106 y105) := ⟨h3_⟩
                                                have n4_ : Aside0 (∃ c_, (v111 : Value) = .slice (some adz_v111) y110.length c_) := ⟨h4_⟩
                                                have n5_ : Aside0 (Below w.heap.size w w37) := ⟨h5_⟩
                                                clear HO_7
                                                clear HO_8
                                                clear HO_10
                                                clear HB
                                                clear h0_ h1_ h2_ h3_ h4_ h5_
                                                have HO112 := n0_
                                                have HO_10 := n1_
                                                have HO_7 := n2_
                                                have HO_8 := n3_
                                                have HA_HO112 := n4_
                                                have HB := n5_
                                                clear n0_ n1_ n2_ n3_ n4_ n5_
                                                have hHeld : w37.cell? (ad114.add (t109).toNat) = some (.string (rdOf ByteArray.empty y102 t109)) := hS_
                                                obtain ⟨co38, eo38⟩ := HA_HO112.out
                                                clear HA_HO112
                                                subst eo38
                                                refine norm_ (a' := ?_) ?_ ?_
                                                rotate_left
                                                · simp only [putAll, Act.put, List.setIfInBounds_toArray, List.set_cons_zero, List.set_cons_succ]
                                                  rfl
                                                refine one_ (i := 15) (N := some 47) #[true, true, true, true, true, true, true, true, true, true, true, true, true, true, true, true, true, true, true, true, true, false, false, false, false, false] rfl rfl (one_of HT_.out (by kernel_rfl)) (by decide) (fun K hK => ?_)
                                                refine Kd.R_lit_step Kd.string _ 9 ?hg (N := 47) ?hd (xs := ([(⟨#[]⟩ : ByteArray), (⟨#[32]⟩ : ByteArray), (⟨#[44]⟩ : ByteArray), (⟨#[9, 32, 44]⟩ : ByteArray)] : List ByteArray)) (inner := [.string (⟨#[]⟩ : ByteArray), .string (⟨#[32]⟩ : ByteArray), .string (⟨#[44]⟩ : ByteArray), .string (⟨#[9, 32, 44]⟩ : ByteArray)]) (ok := fun _ => True) (okp := fun _ => True) ?hr ?hp (fun _ hk => hk) trivial (Below.refl _ _) (Nat.le_refl _) (by simp) ?_; (case hd => rfl); (case hg => rfl); (case hr => first | (go_simp; done) | (go_simp; rfl)); (case hp => exact (Reps.one (show Kd.M Kd.string _ _ _ (⟨#[]⟩ : ByteArray) [.string (⟨#[]⟩ : ByteArray)] from rfl) (Reps.one (show Kd.M Kd.string _ _ _ (⟨#[32]⟩ : ByteArray) [.string (⟨#[32]⟩ : ByteArray)] from rfl) (Reps.one (show Kd.M Kd.string _ _ _ (⟨#[44]⟩ : ByteArray) [.string (⟨#[44]⟩ : ByteArray)] from rfl) (Reps.one (show Kd.M Kd.string _ _ _ (⟨#[9, 32, 44]⟩ : ByteArray) [.string (⟨#[9, 32, 44]⟩ : ByteArray)] from rfl) (Reps.none _ _))))))
                                                intro v116 w39 ho40 hb hg_ hnew_
                                                have HS0_ := (hb.cell (World.block_lt_of_cell? _ _ (hHeld))).trans (hHeld)
                                                clear hg_ hnew_
                                                (first | rw [← Ny115.out] at ho40 | (simp only [Int.reduceToNat] at ho40; rw [← Ny115.out] at ho40))
                                                have n0_ := Aside0.mk (Kd.R_elder' (by (with_reducible repeat (first | apply Kd.R_alloc | apply Kd.R_drewN | apply Kd.R_drew)); exact HO_7.out) (Kd.R_base ho40) hb)
                                                have n1_ := Aside0.mk (Kd.R_elder' (by (with_reducible repeat (first | apply Kd.R_alloc | apply Kd.R_drewN | apply Kd.R_drew)); exact HO_8.out) (Kd.R_base ho40) hb)
                                                have n2_ := Aside0.mk (Kd.R_elder' (by (with_reducible repeat (first | apply Kd.R_alloc | apply Kd.R_drewN | apply Kd.R_drew)); exact HO_10.out) (Kd.R_base ho40) hb)
                                                have n3_ := Aside0.mk (Kd.R_elder' (by (with_reducible repeat (first | apply Kd.R_alloc | apply Kd.R_drewN | apply Kd.R_drew)); exact HO112.out) (Kd.R_base ho40) hb)
                                                have n4_ := Aside0.mk (Kd.R_lower (Kd.R_new' (Kd.R_new' (Kd.R_new' (Kd.R_new' ho40 (Kd.R_lt (by (with_reducible repeat (first | apply Kd.R_alloc | apply Kd.R_drewN | apply Kd.R_drew)); exact HO_7.out))) (Kd.R_lt (by (with_reducible repeat (first | apply Kd.R_alloc | apply Kd.R_drewN | apply Kd.R_drew)); exact HO_8.out))) (Kd.R_lt (by (with_reducible repeat (first | apply Kd.R_alloc | apply Kd.R_drewN | apply Kd.R_drew)); exact HO_10.out))) (Kd.R_lt (by (with_reducible repeat (first | apply Kd.R_alloc | apply Kd.R_drewN | apply Kd.R_drew)); exact HO112.out))) (below_size (by repeat (first | (with_reducible first | exact HB.out | apply below_alloc | apply pw_below_drewN | apply below_drew1) | exact HB.out))))
                                                have n5_ := Aside0.mk (below_step (by repeat (first | (with_reducible first | exact HB.out | apply below_alloc | apply pw_below_drewN | apply below_drew1) | exact HB.out)) hb)
                                                clear HO_7
                                                clear HO_8
                                                clear HO_10
                                                clear HO112
                                                clear HB
                                                have HO_7 := n0_
                                                have HO_8 := n1_
                                                have HO_10 := n2_
                                                have HO112 := n3_
                                                have HO117 := n4_
                                                have HB := n5_
                                                clear n0_ n1_ n2_ n3_ n4_ n5_
                                                clear hb ho40
                                                obtain ⟨Ao41, co41, eo41⟩ := Kd.R_slice HO117.out
                                                subst eo41
                                                obtain ⟨ado41, fo41, _⟩ := Kd.at_string (Kd.R_reads' HO117.out).2.2 0 (by decide) (by rw [Ny115.out]; simp)
                                                cases fo41
                                                refine hK.out _ _ (HS0_) (fun hHeld => ?_)
                                                clear hK K
                                                refine norm_ (a' := ?_) ?_ ?_
                                                rotate_left
                                                · show Act.put _ (some 47) _ = _
                                                  simp only [Act.put, List.setIfInBounds_toArray, List.set_cons_zero, List.set_cons_succ, i64_w, i32_w]
                                                  rfl
                                                refine pure_ (i := 21) (N := some 53) (v := ?_) (a' := ?_) #[true, true, true, true, true, true, true, true, true, true, true, true, true, true, true, true, true, true, true, true, true, true, false, false, false, false] rfl rfl (any_of HT_.out (by kernel_rfl)) (fun _ _ _ h => h) (Or.inl ⟨by rfl, ?_⟩) ?_ ?_
                                                rotate_left
                                                · intro w'
                                                  go_simp
                                                  with_reducible rfl
                                                rotate_left
                                                · simp only [Act.put, List.setIfInBounds_toArray, List.set_cons_zero, List.set_cons_succ, i64_w, i32_w]
                                                  rfl
                                                exact norm_ (by first | (simp only [putAll, Act.put, List.setIfInBounds_toArray, List.set_cons_zero, List.set_cons_succ]; done) | (simp only [putAll, Act.put, List.setIfInBounds_toArray, List.set_cons_zero, List.set_cons_succ]; rfl)) (hJ1_8_15 (.slice (some adz_v111) y110.length co38, adz_v111, .slice (some ado41) y115.length co41, ado41) _ ⟨hHeld, (by (with_reducible repeat (first | apply Kd.R_alloc | apply Kd.R_drewN | apply Kd.R_drew)); exact Kd.R_mono HO112.out (fun _ hk => by first | exact ⟨hk.2, ⟨hk.1.1, ⟨hk.1.2.1, hk.1.2.2⟩⟩⟩ | ((repeat' apply And.intro) <;> first | exact hk.1.1.1 | exact hk.1.1.2 | exact hk.1.1 | exact hk.1.2 | exact hk.2.1 | exact hk.2.2 | exact hk.2 | exact hk.1.2.1 | exact hk.1.2.2 | (simp [Value.ownBlock]; done)))), (by (with_reducible repeat (first | apply Kd.R_alloc | apply Kd.R_drewN | apply Kd.R_drew)); exact Kd.R_mono HO117.out (fun _ hk => by first | exact ⟨hk.2, ⟨hk.1.2, ⟨hk.1.1.1.2, hk.1.1.2⟩⟩⟩ | ((repeat' apply And.intro) <;> first | exact hk.1.1.1 | exact hk.1.1.2 | exact hk.1.1 | exact hk.1.2 | exact hk.2.1 | exact hk.2.2 | exact hk.2 | exact hk.1.2.1 | exact hk.1.2.2 | (simp [Value.ownBlock]; done)))), (by (with_reducible repeat (first | apply Kd.R_alloc | apply Kd.R_drewN | apply Kd.R_drew)); exact Kd.R_mono HO_10.out (fun _ hk => by first | exact ⟨hk.1.1, ⟨hk.2, ⟨hk.1.2.1, hk.1.2.2⟩⟩⟩ | ((repeat' apply And.intro) <;> first | exact hk.1.1.1 | exact hk.1.1.2 | exact hk.1.1 | exact hk.1.2 | exact hk.2.1 | exact hk.2.2 | exact hk.2 | exact hk.1.2.1 | exact hk.1.2.2 | (simp [Value.ownBlock]; done)))), (by (with_reducible repeat (first | apply Kd.R_alloc | apply Kd.R_drewN | apply Kd.R_drew)); exact Kd.R_mono HO_7.out (fun _ hk => by first | exact ⟨hk.1.1, ⟨hk.2, ⟨hk.1.2.1, hk.1.2.2⟩⟩⟩ | ((repeat' apply And.intro) <;> first | exact hk.1.1.1 | exact hk.1.1.2 | exact hk.1.1 | exact hk.1.2 | exact hk.2.1 | exact hk.2.2 | exact hk.2 | exact hk.1.2.1 | exact hk.1.2.2 | (simp [Value.ownBlock]; done)))), (by (with_reducible repeat (first | apply Kd.R_alloc | apply Kd.R_drewN | apply Kd.R_drew)); exact Kd.R_mono HO_8.out (fun _ hk => by first | exact ⟨hk.1.1, ⟨hk.2, ⟨hk.1.2.1, hk.1.2.2⟩⟩⟩ | ((repeat' apply And.intro) <;> first | exact hk.1.1.1 | exact hk.1.1.2 | exact hk.1.1 | exact hk.1.2 | exact hk.2.1 | exact hk.2.2 | exact hk.2 | exact hk.1.2.1 | exact hk.1.2.2 | (simp [Value.ownBlock]; done)))), ⟨_, rfl⟩, ⟨_, rfl⟩, (by repeat (first | (with_reducible first | exact HB.out | apply below_alloc | apply pw_below_drewN | apply below_drew1) | exact HB.out))⟩)
                                            · skip
                                              rintro ⟨v111, adz_v111, v116, adz_v116⟩ w40 ⟨hS_, h0_, h1_, h2_, h3_, h4_, h5_, h6_, h7_⟩
                                              have n0_ : Aside0 (Kd.R Kd.string 9 w40 w.heap.size (fun k_ => some k_ ≠ (v116 : Value).ownBlock ∧ some k_ ≠ (u10 : Value).ownBlock ∧ some k_ ≠ (.slice (some ad114) y102.length co33 : Value).ownBlock ∧ some k_ ≠ (v106 : Value).ownBlock) v111 y110) := ⟨h0_⟩
                                              have n1_ : Aside0 (Kd.R Kd.string 9 w40 w.heap.size (fun k_ => some k_ ≠ (v111 : Value).ownBlock ∧ some k_ ≠ (u10 : Value).ownBlock ∧ some k_ ≠ (.slice (some ad114) y102.length co33 : Value).ownBlock ∧ some k_ ≠ (v106 : Value).ownBlock) v116 y115) := ⟨h1_⟩
                                              have n2_ : Aside0 (Kd.R Kd.string 9 w40 w.heap.size (fun k_ => some k_ ≠ (v111 : Value).ownBlock ∧ some k_ ≠ (v116 : Value).ownBlock ∧ some k_ ≠ (.slice (some ad114) y102.length co33 : Value).ownBlock ∧ some k_ ≠ (v106 : Value).ownBlock) u10 x10_1) := ⟨h2_⟩
                                              have n3_ : Aside0 (Kd.R Kd.string 9 w40 w.heap.size (fun k_ => some k_ ≠ (v111 : Value).ownBlock ∧ some k_ ≠ (v116 : Value).ownBlock ∧ some k_ ≠ (u10 : Value).ownBlock ∧ some k_ ≠ (v106 : Value).ownBlock) (.slice (some ad114) y102.length co33) y102) := ⟨h3_⟩
                                              have n4_ : Aside0 (Kd.R Kd.string 9 w40 w.heap.size (fun k_ => some k_ ≠ (v111 : Value).ownBlock ∧ some k_ ≠ (v116 : Value).ownBlock ∧ some k_ ≠ (u10 : Value).ownBlock ∧ some k_ ≠ (.slice (some ad114) y102.length co33 : Value).ownBlock) v106 y105) := ⟨h4_⟩
                                              have n5_ : Aside0 (∃ c_, (v111 : Value) = .slice (some adz_v111) y110.length c_) := ⟨h5_⟩
                                              have n6_ : Aside0 (∃ c_, (v116 : Value) = .slice (some adz_v116) y115.length c_) := ⟨h6_⟩
                                              have n7_ : Aside0 (Below w.heap.size w w40) := ⟨h7_⟩
                                              clear HO_7
                                              clear HO_8
                                              clear HO_10
                                              clear HB
                                              clear h0_ h1_ h2_ h3_ h4_ h5_ h6_ h7_
                                              have HO112 := n0_
                                              have HO117 := n1_
                                              have HO_10 := n2_
                                              have HO_7 := n3_
                                              have HO_8 := n4_
                                              have HA_HO112 := n5_
                                              have HA_HO117 := n6_
                                              have HB := n7_
                                              clear n0_ n1_ n2_ n3_ n4_ n5_ n6_ n7_
                                              have hHeld : w40.cell? (ad114.add (t109).toNat) = some (.string (rdOf ByteArray.empty y102 t109)) := hS_
                                              obtain ⟨co41, eo41⟩ := HA_HO112.out
                                              clear HA_HO112
                                              subst eo41
                                              obtain ⟨co42, eo42⟩ := HA_HO117.out
                                              clear HA_HO117
                                              subst eo42
                                              refine norm_ (a' := ?_) ?_ ?_
                                              rotate_left
                                              · simp only [putAll, Act.put, List.setIfInBounds_toArray, List.set_cons_zero, List.set_cons_succ]
                                                rfl
                                              refine one_ (i := 8) (N := some 40) #[true, true, true, true, true, true, true, true, true, false, true, true, true, true, false, true, true, true, true, true, true, true, true, false, false, false] rfl rfl (one_of HT_.out (by kernel_rfl)) (by decide) (fun K hK => ?_)
                                              (have p113 : 0 ≤ ((Go.bits .and .i64 (ji16) 3) : Int) := of_decide_eq_true (by first | (with_reducible assumption) | assumption); have q113 : (Go.bits .and .i64 (ji16) 3) < (y110.length : Int) := of_decide_eq_true (by first | (with_reducible assumption) | assumption); obtain ⟨ad113, e113, hx113_0⟩ := Kd.at_string (Kd.R_reads' HO112.out).2.2 (Go.bits .and .i64 (ji16) 3) p113 q113; obtain rfl : adz_v111 = ad113 := (by injection e113))
                                              refine value_ (w1 := ?_) (v := ?_) (by rfl) rfl ?_ ?_
                                              rotate_left 2
                                              · go_simp
                                                constructor
                                                · rfl
                                                · rfl
                                              clear hx113_0
                                              refine hK.out _ _ (hHeld) (fun hHeld => ?_)
                                              clear hK K
                                              refine norm_ (a' := ?_) ?_ ?_
                                              rotate_left
                                              · show Act.put _ (some 40) _ = _
                                                simp only [Act.put, List.setIfInBounds_toArray, List.set_cons_zero, List.set_cons_succ, i64_w, i32_w]
                                                rfl
                                              refine pure_ (i := 9) (N := some 41) (v := ?_) (a' := ?_) #[true, true, true, true, true, true, true, true, true, true, true, true, true, true, false, true, true, true, true, true, true, true, true, false, false, false] rfl rfl (any_of HT_.out (by kernel_rfl)) (fun _ _ _ h => h) (Or.inl ⟨by rfl, ?_⟩) ?_ ?_
                                              rotate_left
                                              · intro w'
                                                go_simp
                                                with_reducible rfl
                                              rotate_left
                                              · simp only [Act.put, List.setIfInBounds_toArray, List.set_cons_zero, List.set_cons_succ, i64_w, i32_w]
                                                rfl
                                              refine pure_ (i := 14) (N := some 46) (v := ?_) (a' := ?_) #[true, true, true, true, true, true, true, true, true, true, true, true, true, true, true, true, true, true, true, true, true, true, true, false, false, false] rfl rfl (any_of HT_.out (by kernel_rfl)) (fun _ _ _ h => h) (Or.inl ⟨by rfl, ?_⟩) ?_ ?_
                                              rotate_left
                                              · intro w'
                                                go_simp
                                                with_reducible rfl
                                              rotate_left
                                              · simp only [Act.put, List.setIfInBounds_toArray, List.set_cons_zero, List.set_cons_succ, i64_w, i32_w]
                                                rfl
                                              exact norm_ (by first | (simp only [putAll, Act.put, List.setIfInBounds_toArray, List.set_cons_zero, List.set_cons_succ]; done) | (simp only [putAll, Act.put, List.setIfInBounds_toArray, List.set_cons_zero, List.set_cons_succ]; rfl)) (hJ1_8_15_22 (.slice (some adz_v111) y110.length co41, adz_v111, .slice (some adz_v116) y115.length co42, adz_v116) _ ⟨hHeld, (by (with_reducible repeat (first | apply Kd.R_alloc | apply Kd.R_drewN | apply Kd.R_drew)); exact HO112.out), (by (with_reducible repeat (first | apply Kd.R_alloc | apply Kd.R_drewN | apply Kd.R_drew)); exact HO117.out), (by (with_reducible repeat (first | apply Kd.R_alloc | apply Kd.R_drewN | apply Kd.R_drew)); exact HO_10.out), (by (with_reducible repeat (first | apply Kd.R_alloc | apply Kd.R_drewN | apply Kd.R_drew)); exact HO_7.out), (by (with_reducible repeat (first | apply Kd.R_alloc | apply Kd.R_drewN | apply Kd.R_drew)); exact HO_8.out), ⟨_, rfl⟩, ⟨_, rfl⟩, (by repeat (first | (with_reducible first | exact HB.out | apply below_alloc | apply pw_below_drewN | apply below_drew1) | exact HB.out))⟩)
                                          · skip
                                            rintro ⟨v111, adz_v111, v116, adz_v116⟩ w40 ⟨hS_, h0_, h1_, h2_, h3_, h4_, h5_, h6_, h7_⟩
                                            have n0_ : Aside0 (Kd.R Kd.string 9 w40 w.heap.size (fun k_ => some k_ ≠ (v116 : Value).ownBlock ∧ some k_ ≠ (u10 : Value).ownBlock ∧ some k_ ≠ (.slice (some ad114) y102.length co33 : Value).ownBlock ∧ some k_ ≠ (v106 : Value).ownBlock) v111 y110) := ⟨h0_⟩
                                            have n1_ : Aside0 (Kd.R Kd.string 9 w40 w.heap.size (fun k_ => some k_ ≠ (v111 : Value).ownBlock ∧ some k_ ≠ (u10 : Value).ownBlock ∧ some k_ ≠ (.slice (some ad114) y102.length co33 : Value).ownBlock ∧ some k_ ≠ (v106 : Value).ownBlock) v116 y115) := ⟨h1_⟩
                                            have n2_ : Aside0 (Kd.R Kd.string 9 w40 w.heap.size (fun k_ => some k_ ≠ (v111 : Value).ownBlock ∧ some k_ ≠ (v116 : Value).ownBlock ∧ some k_ ≠ (.slice (some ad114) y102.length co33 : Value).ownBlock ∧ some k_ ≠ (v106 : Value).ownBlock) u10 x10_1) := ⟨h2_⟩
                                            have n3_ : Aside0 (Kd.R Kd.string 9 w40 w.heap.size (fun k_ => some k_ ≠ (v111 : Value).ownBlock ∧ some k_ ≠ (v116 : Value).ownBlock ∧ some k_ ≠ (u10 : Value).ownBlock ∧ some k_ ≠ (v106 : Value).ownBlock) (.slice (some ad114) y102.length co33) y102) := ⟨h3_⟩
                                            have n4_ : Aside0 (Kd.R Kd.string 9 w40 w.heap.size (fun k_ => some k_ ≠ (v111 : Value).ownBlock ∧ some k_ ≠ (v116 : Value).ownBlock ∧ some k_ ≠ (u10 : Value).ownBlock ∧ some k_ ≠ (.slice (some ad114) y102.length co33 : Value).ownBlock) v106 y105) := ⟨h4_⟩
                                            have n5_ : Aside0 (∃ c_, (v111 : Value) = .slice (some adz_v111) y110.length c_) := ⟨h5_⟩
                                            have n6_ : Aside0 (∃ c_, (v116 : Value) = .slice (some adz_v116) y115.length c_) := ⟨h6_⟩
                                            have n7_ : Aside0 (Below w.heap.size w w40) := ⟨h7_⟩
                                            clear HO_7
                                            clear HO_8
                                            clear HO_10
                                            clear HB
                                            clear h0_ h1_ h2_ h3_ h4_ h5_ h6_ h7_
                                            have HO112 := n0_
                                            have HO117 := n1_
                                            have HO_10 := n2_
                                            have HO_7 := n3_
                                            have HO_8 := n4_
                                            have HA_HO112 := n5_
                                            have HA_HO117 := n6_
                                            have HB := n7_
                                            clear n0_ n1_ n2_ n3_ n4_ n5_ n6_ n7_
                                            have hHeld : w40.cell? (ad114.add (t109).toNat) = some (.string (rdOf ByteArray.empty y102 t109)) := hS_
                                            obtain ⟨co41, eo41⟩ := HA_HO112.out
                                            clear HA_HO112
                                            subst eo41
                                            obtain ⟨co42, eo42⟩ := HA_HO117.out
                                            clear HA_HO117
                                            subst eo42
                                            refine norm_ (a' := ?_) ?_ ?_
                                            rotate_left
                                            · simp only [putAll, Act.put, List.setIfInBounds_toArray, List.set_cons_zero, List.set_cons_succ]
                                              rfl
                                            refine one_ (i := 22) (N := some 54) #[true, true, true, true, true, true, true, true, true, true, true, true, true, true, true, true, true, true, true, true, true, true, true, false, false, false] rfl rfl (one_of HT_.out (by kernel_rfl)) (by decide) (fun K hK => ?_)
                                            (have p118 : 0 ≤ ((Go.bits .and .i64 (ji25) 3) : Int) := of_decide_eq_true (by first | (with_reducible assumption) | assumption); have q118 : (Go.bits .and .i64 (ji25) 3) < (y115.length : Int) := of_decide_eq_true (by first | (with_reducible assumption) | assumption); obtain ⟨ad118, e118, hx118_0⟩ := Kd.at_string (Kd.R_reads' HO117.out).2.2 (Go.bits .and .i64 (ji25) 3) p118 q118; obtain rfl : adz_v116 = ad118 := (by injection e118))
                                            refine value_ (w1 := ?_) (v := ?_) (by rfl) rfl ?_ ?_
                                            rotate_left 2
                                            · go_simp
                                              constructor
                                              · rfl
                                              · rfl
                                            clear hx118_0
                                            refine hK.out _ _ (hHeld) (fun hHeld => ?_)
                                            clear hK K
                                            refine norm_ (a' := ?_) ?_ ?_
                                            rotate_left
                                            · show Act.put _ (some 54) _ = _
                                              simp only [Act.put, List.setIfInBounds_toArray, List.set_cons_zero, List.set_cons_succ, i64_w, i32_w]
                                              rfl
                                            exact norm_ (by first | (simp only [putAll, Act.put, List.setIfInBounds_toArray, List.set_cons_zero, List.set_cons_succ]; done) | (simp only [putAll, Act.put, List.setIfInBounds_toArray, List.set_cons_zero, List.set_cons_succ]; rfl)) (hJ1_8_15_22 (.slice (some adz_v111) y110.length co41, adz_v111, .slice (some adz_v116) y115.length co42, adz_v116) _ ⟨hHeld, (by (with_reducible repeat (first | apply Kd.R_alloc | apply Kd.R_drewN | apply Kd.R_drew)); exact HO112.out), (by (with_reducible repeat (first | apply Kd.R_alloc | apply Kd.R_drewN | apply Kd.R_drew)); exact HO117.out), (by (with_reducible repeat (first | apply Kd.R_alloc | apply Kd.R_drewN | apply Kd.R_drew)); exact HO_10.out), (by (with_reducible repeat (first | apply Kd.R_alloc | apply Kd.R_drewN | apply Kd.R_drew)); exact HO_7.out), (by (with_reducible repeat (first | apply Kd.R_alloc | apply Kd.R_drewN | apply Kd.R_drew)); exact HO_8.out), ⟨_, rfl⟩, ⟨_, rfl⟩, (by repeat (first | (with_reducible first | exact HB.out | apply below_alloc | apply pw_below_drewN | apply below_drew1) | exact HB.out))⟩)
                                        rintro ⟨v111, adz_v111, v116, adz_v116⟩ w40 ⟨hS_, h0_, h1_, h2_, h3_, h4_, h5_, h6_, h7_⟩
                                        have n0_ : Aside0 (Kd.R Kd.string 9 w40 w.heap.size (fun k_ => some k_ ≠ (v116 : Value).ownBlock ∧ some k_ ≠ (u10 : Value).ownBlock ∧ some k_ ≠ (.slice (some ad114) y102.length co33 : Value).ownBlock ∧ some k_ ≠ (v106 : Value).ownBlock) v111 y110) := ⟨h0_⟩
                                        have n1_ : Aside0 (Kd.R Kd.string 9 w40 w.heap.size (fun k_ => some k_ ≠ (v111 : Value).ownBlock ∧ some k_ ≠ (u10 : Value).ownBlock ∧ some k_ ≠ (.slice (some ad114) y102.length co33 : Value).ownBlock ∧ some k_ ≠ (v106 : Value).ownBlock) v116 y115) := ⟨h1_⟩
                                        have n2_ : Aside0 (Kd.R Kd.string 9 w40 w.heap.size (fun k_ => some k_ ≠ (v111 : Value).ownBlock ∧ some k_ ≠ (v116 : Value).ownBlock ∧ some k_ ≠ (.slice (some ad114) y102.length co33 : Value).ownBlock ∧ some k_ ≠ (v106 : Value).ownBlock) u10 x10_1) := ⟨h2_⟩
                                        have n3_ : Aside0 (Kd.R Kd.string 9 w40 w.heap.size (fun k_ => some k_ ≠ (v111 : Value).ownBlock ∧ some k_ ≠ (v116 : Value).ownBlock ∧ some k_ ≠ (u10 : Value).ownBlock ∧ some k_ ≠ (v106 : Value).ownBlock) (.slice (some ad114) y102.length co33) y102) := ⟨h3_⟩
                                        have n4_ : Aside0 (Kd.R Kd.string 9 w40 w.heap.size (fun k_ => some k_ ≠ (v111 : Value).ownBlock ∧ some k_ ≠ (v116 : Value).ownBlock ∧ some k_ ≠ (u10 : Value).ownBlock ∧ some k_ ≠ (.slice (some ad114) y102.length co33 : Value).ownBlock) v106 y105) := ⟨h4_⟩
                                        have n5_ : Aside0 (∃ c_, (v111 : Value) = .slice (some adz_v111) y110.length c_) := ⟨h5_⟩
                                        have n6_ : Aside0 (∃ c_, (v116 : Value) = .slice (some adz_v116) y115.length c_) := ⟨h6_⟩
                                        have n7_ : Aside0 (Below w.heap.size w w40) := ⟨h7_⟩
                                        clear HO_7
                                        clear HO_8
                                        clear HO_10
                                        clear HB
                                        clear h0_ h1_ h2_ h3_ h4_ h5_ h6_ h7_
                                        have HO112 := n0_
                                        have HO117 := n1_
                                        have HO_10 := n2_
                                        have HO_7 := n3_
                                        have HO_8 := n4_
                                        have HA_HO112 := n5_
                                        have HA_HO117 := n6_
                                        have HB := n7_
                                        clear n0_ n1_ n2_ n3_ n4_ n5_ n6_ n7_
                                        have hHeld : w40.cell? (ad114.add (t109).toNat) = some (.string (rdOf ByteArray.empty y102 t109)) := hS_
                                        obtain ⟨co41, eo41⟩ := HA_HO112.out
                                        clear HA_HO112
                                        subst eo41
                                        obtain ⟨co42, eo42⟩ := HA_HO117.out
                                        clear HA_HO117
                                        subst eo42
                                        refine norm_ (a' := ?_) ?_ ?_
                                        rotate_left
                                        · simp only [putAll, Act.put, List.setIfInBounds_toArray, List.set_cons_zero, List.set_cons_succ]
                                          rfl
                                        refine pure_ (i := 23) (N := some 55) (v := ?_) (a' := ?_) #[true, true, true, true, true, true, true, true, true, true, true, true, true, true, true, true, true, true, true, true, true, true, true, true, false, false] rfl rfl (any_of HT_.out (by kernel_rfl)) (fun _ _ _ h => h) (Or.inl ⟨by rfl, ?_⟩) ?_ ?_
                                        rotate_left
                                        · intro w'
                                          go_simp
                                          with_reducible rfl
                                        rotate_left
                                        · simp only [Act.put, List.setIfInBounds_toArray, List.set_cons_zero, List.set_cons_succ, i64_w, i32_w]
                                          rfl
                                        refine pure_ (i := 24) (N := some 56) (v := ?_) (a' := ?_) #[true, true, true, true, true, true, true, true, true, true, true, true, true, true, true, true, true, true, true, true, true, true, true, true, true, false] rfl rfl (any_of HT_.out (by kernel_rfl)) (fun _ _ _ h => h) (Or.inl ⟨by rfl, ?_⟩) ?_ ?_
                                        rotate_left
                                        · intro w'
                                          go_simp
                                          with_reducible rfl
                                        rotate_left
                                        · simp only [Act.put, List.setIfInBounds_toArray, List.set_cons_zero, List.set_cons_succ, i64_w, i32_w]
                                          rfl
                                        refine pure_ (i := 25) (N := some 9) (v := ?_) (a' := ?_) #[true, true, true, true, true, true, true, true, true, true, true, true, true, true, true, true, true, true, true, true, true, true, true, true, true, true] rfl rfl (any_of HT_.out (by kernel_rfl)) (fun _ _ _ h => h) (Or.inl ⟨by rfl, ?_⟩) ?_ ?_
                                        rotate_left
                                        · intro w'
                                          go_simp
                                          with_reducible rfl
                                        rotate_left
                                        · simp only [Act.put, List.setIfInBounds_toArray, List.set_cons_zero, List.set_cons_succ, i64_w, i32_w]
                                          rfl
                                        refine done_ (done_of HT_.out (by kernel_rfl)) ?_
                                        obtain ⟨Ao43, co43, eo43⟩ := Kd.R_slice HO_8.out
                                        subst eo43
                                        have p119 : 0 ≤ (t109 : Int) := of_decide_eq_true (by first | (with_reducible assumption) | assumption)
                                        have q119 : t109 < (y105.length : Int) := of_decide_eq_true (by first | (with_reducible assumption) | assumption)
                                        obtain ⟨ad119, e119, hx119_0⟩ := Kd.at_string (Kd.R_reads' HO_8.out).2.2 t109 p119 q119
                                        cases e119
                                        replace p119 := eq_true p119
                                        replace q119 := eq_true q119
                                        try go_wp2_with (first | ((with_reducible refine gate_builtin (b := .append) (xs := #[.tmp 57, .tmp 62]) rfl ?_); (try (refine gate_guard (by rfl) ?_; dsimp only)); at_builtin; refine Kd.R_append Kd.string (w0 := w) w.heap.size rfl (.tmp 57) (.tmp 62) 23 9 (.string ⟨#[]⟩) 16 rfl Tryd.underlying23 info9 rfl (by decide) (by omega) u10 x10_1 (rdOf ByteArray.empty y105 t109) [.string (rdOf ByteArray.empty y105 t109)] (fun k_ => some k_ ≠ (.slice (some ad114) y102.length co33 : Value).ownBlock ∧ some k_ ≠ (.slice (some ad119) y105.length co43 : Value).ownBlock ∧ some k_ ≠ (.slice (some adz_v111) y110.length co41 : Value).ownBlock ∧ some k_ ≠ (.slice (some adz_v116) y115.length co42 : Value).ownBlock) (fun _ => False) rfl rfl ?aP (fun _ hk => hk.elim) ?aF ?aO ?aB ?aS ?aL ?_; (case aP => exact rfl); (case aB => exact (by repeat (first | (with_reducible first | exact HB.out | apply below_alloc | apply pw_below_drewN | apply below_drew1) | exact HB.out))); (case aF => exact (fun k_ hk => ⟨Kd.fresh' (Kd.R_lt (by (with_reducible repeat (first | apply Kd.R_alloc | apply Kd.R_drewN | apply Kd.R_drew)); exact HO_7.out)) k_ hk, Kd.fresh' (Kd.R_lt (by (with_reducible repeat (first | apply Kd.R_alloc | apply Kd.R_drewN | apply Kd.R_drew)); exact HO_8.out)) k_ hk, Kd.fresh' (Kd.R_lt (by (with_reducible repeat (first | apply Kd.R_alloc | apply Kd.R_drewN | apply Kd.R_drew)); exact HO112.out)) k_ hk, Kd.fresh' (Kd.R_lt (by (with_reducible repeat (first | apply Kd.R_alloc | apply Kd.R_drewN | apply Kd.R_drew)); exact HO117.out)) k_ hk⟩)); (case aO => exact (by (with_reducible repeat (first | apply Kd.R_alloc | apply Kd.R_drewN | apply Kd.R_drew)); exact Kd.R_mono HO_10.out (fun _ hk => by first | exact ⟨hk.2.2.1, ⟨hk.2.2.2, ⟨hk.1, hk.2.1⟩⟩⟩ | ((repeat' apply And.intro) <;> first | exact hk.1.1.1 | exact hk.1.1.2 | exact hk.1.1 | exact hk.1.2 | exact hk.2.1 | exact hk.2.2 | exact hk.2 | exact hk.1.2.1 | exact hk.1.2.2 | (simp [Value.ownBlock]; done))))); (case aS => exact (below_size (by repeat (first | (with_reducible first | exact HB.out | apply below_alloc | apply pw_below_drewN | apply below_drew1) | exact HB.out)))); (case aL => have := LMc31.out; omega); intro v121 w44 ho hb hg hat; rw [← Ny120.out] at ho; have n0_ := Aside0.mk (Kd.R_after (ok := (fun k_ => some k_ ≠ (.slice (some ad119) y105.length co43 : Value).ownBlock ∧ some k_ ≠ (.slice (some adz_v111) y110.length co41 : Value).ownBlock ∧ some k_ ≠ (.slice (some adz_v116) y115.length co42 : Value).ownBlock)) (by (with_reducible repeat (first | apply Kd.R_alloc | apply Kd.R_drewN | apply Kd.R_drew)); exact Kd.R_mono HO_7.out (fun _ hk => ⟨⟨hk.2.2.2, ⟨hk.1, hk.2.1⟩⟩, hk.2.2.1⟩)) hg hat); have n1_ := Aside0.mk (Kd.R_after (ok := (fun k_ => some k_ ≠ (.slice (some ad114) y102.length co33 : Value).ownBlock ∧ some k_ ≠ (.slice (some adz_v111) y110.length co41 : Value).ownBlock ∧ some k_ ≠ (.slice (some adz_v116) y115.length co42 : Value).ownBlock)) (by (with_reducible repeat (first | apply Kd.R_alloc | apply Kd.R_drewN | apply Kd.R_drew)); exact Kd.R_mono HO_8.out (fun _ hk => ⟨⟨hk.2.2.2, ⟨hk.1, hk.2.1⟩⟩, hk.2.2.1⟩)) hg hat); have n2_ := Aside0.mk (Kd.R_after (ok := (fun k_ => some k_ ≠ (.slice (some ad114) y102.length co33 : Value).ownBlock ∧ some k_ ≠ (.slice (some ad119) y105.length co43 : Value).ownBlock ∧ some k_ ≠ (.slice (some adz_v116) y115.length co42 : Value).ownBlock)) (by (with_reducible repeat (first | apply Kd.R_alloc | apply Kd.R_drewN | apply Kd.R_drew)); exact Kd.R_mono HO112.out (fun _ hk => ⟨⟨hk.2.2.1, ⟨hk.2.2.2, hk.1⟩⟩, hk.2.1⟩)) hg hat); have n3_ := Aside0.mk (Kd.R_after (ok := (fun k_ => some k_ ≠ (.slice (some ad114) y102.length co33 : Value).ownBlock ∧ some k_ ≠ (.slice (some ad119) y105.length co43 : Value).ownBlock ∧ some k_ ≠ (.slice (some adz_v111) y110.length co41 : Value).ownBlock)) (by (with_reducible repeat (first | apply Kd.R_alloc | apply Kd.R_drewN | apply Kd.R_drew)); exact Kd.R_mono HO117.out (fun _ hk => ⟨⟨hk.2.2.1, ⟨hk.2.2.2, hk.1⟩⟩, hk.2.1⟩)) hg hat); have n4_ := Aside0.mk (hb); have n5_ := Aside0.mk (ho); clear HO_7; clear HO_8; clear HO112; clear HO117; clear HB; clear HO_10; have HO_7 := n0_; have HO_8 := n1_; have HO112 := n2_; have HO117 := n3_; have HB := n4_; have HO122 := n5_; clear n0_ n1_ n2_ n3_ n4_ n5_; clear ho hb hg hat))
                                        go_roundg k1
                                        case measure => have := HK1.out; omega
                                        case rel => exact ⟨((((x9_1 ++ (rdOf ByteArray.empty y110 (Go.bits .and .i64 (ji16) 3))) ++ (rdOf ByteArray.empty y102 t109)) ++ (rdOf ByteArray.empty y115 (Go.bits .and .i64 (ji25) 3))) ++ (⟨#[44]⟩ : ByteArray)), (y120), (wrap64 (x11_1 + 1)), (by first | rfl | (simp; done) | (simp only [← hji16, ← hji25] <;> (first | rfl | simp)) | (simp [*]; done)), (by first | rfl | (simp; done) | (simp [*]; done) | (simp [isEmpty_bne, isEmpty_beq]; done) | (simp [*, isEmpty_bne, isEmpty_beq]; done)), H', ⟨by have := HK1.out; omega⟩, ⟨by (with_reducible repeat (first | apply Kd.R_alloc | apply Kd.R_drewN | apply Kd.R_drew)); exact Kd.R_mono HO_7.out (fun _ hk => by first | exact ⟨hk.1.1, hk.2⟩ | ((repeat' apply And.intro) <;> first | exact hk.1.1.1 | exact hk.1.1.2 | exact hk.1.1 | exact hk.1.2 | exact hk.2.1 | exact hk.2.2 | exact hk.2 | exact hk.1.2.1 | exact hk.1.2.2 | (simp [Value.ownBlock]; done)))⟩, ⟨by (with_reducible repeat (first | apply Kd.R_alloc | apply Kd.R_drewN | apply Kd.R_drew)); exact Kd.R_mono HO_8.out (fun _ hk => by first | exact ⟨hk.1.1, hk.2⟩ | ((repeat' apply And.intro) <;> first | exact hk.1.1.1 | exact hk.1.1.2 | exact hk.1.1 | exact hk.1.2 | exact hk.2.1 | exact hk.2.2 | exact hk.2 | exact hk.1.2.1 | exact hk.1.2.2 | (simp [Value.ownBlock]; done)))⟩, ⟨by (with_reducible repeat (first | apply Kd.R_alloc | apply Kd.R_drewN | apply Kd.R_drew)); exact Kd.R_mono HO122.out (fun _ hk => by first | exact ⟨hk.1, hk.2.1⟩ | ((repeat' apply And.intro) <;> first | exact hk.1.1.1 | exact hk.1.1.2 | exact hk.1.1 | exact hk.1.2 | exact hk.2.1 | exact hk.2.2 | exact hk.2 | exact hk.1.2.1 | exact hk.1.2.2 | (simp [Value.ownBlock]; done)))⟩, ⟨by repeat (first | (with_reducible first | exact HB.out | apply below_alloc | apply pw_below_drewN | apply below_drew1) | exact HB.out)⟩⟩
                                      · rw [if_neg c31] at H
                                        exact absurd H (by simp)
                                    · rw [if_neg c30] at H
                                      exact absurd H (by simp)
                                  · rw [if_neg c29] at H
                                    exact absurd H (by simp)
                                · rw [if_neg c28] at H
                                  exact absurd H (by simp)
                              · rw [if_neg c27] at H
                                exact absurd H (by simp)
                            · rw [if_neg c26] at H
                              exact absurd H (by simp)
                          · rw [if_neg c24] at H
                            exact absurd H (by simp)
                        · rw [if_neg c22] at H
                          exact absurd H (by simp)
                      · rw [if_neg c21] at H
                        exact absurd H (by simp)
                    · rw [if_neg c20] at H
                      exact absurd H (by simp)
                  · rw [if_neg c19] at H
                    exact absurd H (by simp)
                · rw [if_neg c18] at H
                  exact absurd H (by simp)
              · rw [if_neg c17] at H
                exact absurd H (by simp)
            · rw [if_neg c15] at H
              exact absurd H (by simp)
          · rw [if_neg c12] at H
            exact absurd H (by simp)
        · rw [if_neg c11] at H
          have c11b0 : decide (x11_1 < (l0.length : Int)) = false := decide_eq_false c11
          clear c11
          have HC45 := Aside0.mk H
          clear H
          go_upto_if 64 with (fail)
          go_cut [9] (fun v9 wc => ∃ (kq : Nat) (x9_44 : ByteArray), v9 = .string x9_44 ∧ Aside0 (moatlaw3_FieldLists.j1 kq a2 x9_44 x10_1 = some r) ∧ Aside0 (kq ≤ k1) ∧ Aside0 (Kd.R Kd.string 9 wc w.heap.size (fun _ => True) u10 x10_1) ∧ Aside0 (Below w.heap.size w wc))
          case first =>
            have H := HC45.out
            clear HC45
            by_cases c46 : a2 = true
            · subst c46
              have H1 : (if x9_1.size + 3 ≤ 9223372036854775807 then (moatlaw3_FieldLists.j1 k1 true (x9_1 ++ (⟨#[97, 32, 98]⟩ : ByteArray)) x10_1) else (none)) = some r := by rw [if_pos rfl] at H; exact H
              clear H
              have H := H1
              clear H1
              by_cases c47 : x9_1.size + 3 ≤ 9223372036854775807
              · rw [if_pos c47] at H
                have c47b0 := eq_true c47
                have c47b1 : decide (x9_1.size + 3 ≤ 9223372036854775807) = true := decide_eq_true c47
                try have c47b2 : (9223372036854775807 < x9_1.size + 3) = False := eq_false (Nat.not_lt.2 c47)
                have H' := Aside0.mk H
                clear H
                go_wp2
                go_meet
                case rel => exact ⟨_, (x9_1 ++ (⟨#[97, 32, 98]⟩ : ByteArray)), (by first | rfl | (simp; done) | (simp [*]; done) | (simp [isEmpty_bne, isEmpty_beq]; done) | (simp [*, isEmpty_bne, isEmpty_beq]; done)), H', ⟨by have := HK1.out; first | omega | exact Nat.le_refl _⟩, ⟨by (with_reducible repeat (first | apply Kd.R_alloc | apply Kd.R_drewN | apply Kd.R_drew)); exact Kd.R_mono HO_10.out (fun _ hk => trivial)⟩, ⟨by repeat (first | (with_reducible first | exact HB.out | apply below_alloc | apply pw_below_drewN | apply below_drew1) | exact HB.out)⟩⟩
              · rw [if_neg c47] at H
                exact absurd H (by simp)
            · replace c46 := Bool.eq_false_iff.mpr c46
              subst c46
              have H1 : (moatlaw3_FieldLists.j1 k1 false x9_1 x10_1) = some r := by rw [if_neg (show ¬ (false = true) by decide)] at H; exact H
              clear H
              have H := H1
              clear H1
              have H' := Aside0.mk H
              clear H
              go_wp2
              go_meet
              case rel => exact ⟨_, (x9_1), (by first | rfl | (simp; done) | (simp [*]; done) | (simp [isEmpty_bne, isEmpty_beq]; done) | (simp [*, isEmpty_bne, isEmpty_beq]; done)), H', ⟨by have := HK1.out; first | omega | exact Nat.le_refl _⟩, ⟨by (with_reducible repeat (first | apply Kd.R_alloc | apply Kd.R_drewN | apply Kd.R_drew)); exact Kd.R_mono HO_10.out (fun _ hk => trivial)⟩, ⟨by repeat (first | (with_reducible first | exact HB.out | apply below_alloc | apply pw_below_drewN | apply below_drew1) | exact HB.out)⟩⟩
          case rest =>
            clear HC45
            try clear c1
            try clear p1
            try clear q1
            try clear hx1
            try clear c2
            try clear p2
            try clear c3
            try clear c4
            try clear p6
            try clear c11
            try clear c11b0
            try clear p11
            try clear q11
            try clear hx11
            try clear c12
            try clear c15
            try clear c17
            try clear c18
            try clear c19
            try clear c20
            try clear c21
            try clear c22
            try clear c24
            try clear c26
            try clear c27
            try clear c28
            try clear c29
            try clear c30
            try clear c31
            try clear c46
            try clear c47
            try clear c47b0
            try clear c47b1
            try clear c47b2
            try clear hx113_0
            try clear hx118_0
            try clear hx119_0
            try clear p113
            try clear p118
            try clear p119
            try clear q113
            try clear q118
            try clear q119
            obtain ⟨kq, x9_44, rfl, HA, HJ44, HO_10, HB⟩ := hcut
            cases kq with
            | zero => exact absurd HA.out (by simp [moatlaw3_FieldLists.j1])
            | succ kj44 =>
              have H := HA.out
              clear HA
              simp only [moatlaw3_FieldLists.j1] at H
              replace H := Option.bind_eq_some_iff.mp H
              obtain ⟨⟨t123, t124⟩, A480, H⟩ := H
              replace H : (if a2 = true then (if t124 = true then (some false) else (if (t123.length : Int) = 0 then ((moatlaw3_awake.f).bind fun t127 => (some t127)) else (some false))) else (if t124 = true then ((moatlaw0_SameTexts.f kj44 t123 x10_1).bind fun t128 => (if t128 = true then ((moatlaw3_awake.f).bind fun t129 => (some t129)) else (some false))) else (some false))) = some r := H
              have A48 := Aside0.mk A480
              clear A480
              by_cases c49 : a2 = true
              · subst c49
                have H1 : (if t124 = true then (some false) else (if (t123.length : Int) = 0 then ((moatlaw3_awake.f).bind fun t127 => (some t127)) else (some false))) = some r := by rw [if_pos rfl] at H; exact H
                clear H
                have H := H1
                clear H1
                by_cases c50 : t124 = true
                · subst c50
                  have H1 : (some false) = some r := by rw [if_pos rfl] at H; exact H
                  clear H
                  have H := H1
                  clear H1
                  cases (Option.some.inj H).trans HRT.out
                · replace c50 := Bool.eq_false_iff.mpr c50
                  subst c50
                  have H1 : (if (t123.length : Int) = 0 then ((moatlaw3_awake.f).bind fun t127 => (some t127)) else (some false)) = some r := by rw [if_neg (show ¬ (false = true) by decide)] at H; exact H
                  clear H
                  have H := H1
                  clear H1
                  by_cases c51 : (t123.length : Int) = 0
                  · rw [if_pos c51] at H
                    have c51b0 : ((t123.length : Int) == 0) = true := beq_iff_eq.mpr c51
                    have c51b1 : ((t123.length : Int) != 0) = false := bne_eq_false_iff_eq.mpr c51
                    clear c51
                    replace H := Option.bind_eq_some_iff.mp H
                    obtain ⟨t127, A520, H⟩ := H
                    replace H : (some t127) = some r := H
                    have A52 := Aside0.mk A520
                    clear A520
                    obtain rfl := Option.some.inj H
                    go_wp2_with (first | ((with_reducible refine gate_callee (f := 18) rfl ?_); refine goesL_ (some 69) rfl rfl Tryd.func18 (by kernel_rfl) rfl #[.string x9_44] rfl (by (try simp only [List.map_toArray, List.map_cons, List.map_nil]); first | done | rfl | (simp only [List.length_drop, List.length_take]; rfl)) ?_; (with_reducible refine (field_List.calls x9_44 t123 false _ A48.out).mono ?_); rintro e w53 ⟨v125, rfl, ho0, hb⟩; refine ⟨_, rfl, ?_⟩; have n0_ := Aside0.mk (Kd.R_elder' (by (with_reducible repeat (first | apply Kd.R_alloc | apply Kd.R_drewN | apply Kd.R_drew)); exact HO_10.out) (Kd.R_base ho0) hb); have n1_ := Aside0.mk (Kd.R_lower (Kd.R_new' ho0 (Kd.R_lt (by (with_reducible repeat (first | apply Kd.R_alloc | apply Kd.R_drewN | apply Kd.R_drew)); exact HO_10.out))) (below_size (by repeat (first | (with_reducible first | exact HB.out | apply below_alloc | apply pw_below_drewN | apply below_drew1) | exact HB.out)))); have n2_ := Aside0.mk (below_step (by repeat (first | (with_reducible first | exact HB.out | apply below_alloc | apply pw_below_drewN | apply below_drew1) | exact HB.out)) hb); clear HO_10; clear HB; have HO_10 := n0_; have HO126 := n1_; have HB := n2_; clear n0_ n1_ n2_; (try clear hb); (try clear hb2); (try clear hk); (try clear hi); (try clear ho0); obtain ⟨Ao54, co54, eo54⟩ := Kd.R_slice HO126.out; subst eo54) | (go_at_call 17; (with_reducible refine (moatlaw3_awake.calls  t127 _ A52.out).mono ?_); rintro e w55 ⟨rfl, hb⟩; have n0_ := Aside0.mk (Kd.R_below (by (with_reducible repeat (first | apply Kd.R_alloc | apply Kd.R_drewN | apply Kd.R_drew)); exact HO_10.out) hb); have n1_ := Aside0.mk (Kd.R_below (by (with_reducible repeat (first | apply Kd.R_alloc | apply Kd.R_drewN | apply Kd.R_drew)); exact HO126.out) hb); have n2_ := Aside0.mk (below_step (by repeat (first | (with_reducible first | exact HB.out | apply below_alloc | apply pw_below_drewN | apply below_drew1) | exact HB.out)) hb); clear HO_10; clear HO126; clear HB; have HO_10 := n0_; have HO126 := n1_; have HB := n2_; clear n0_ n1_ n2_; (try clear hb); (try clear hb2); (try clear hk); (try clear hi)))
                    go_ret
                    exact ⟨by first | rfl | (simp [errW_none, errW_some] <;> rfl) | (simp [*, errW_none, errW_some] <;> rfl) | (simp [isEmpty_bne, isEmpty_beq, errW_none, errW_some]; done) | (simp [*, isEmpty_bne, isEmpty_beq, errW_none, errW_some]; done), by repeat (first | (with_reducible first | exact HB.out | apply below_alloc | apply pw_below_drewN | apply below_drew1) | exact HB.out)⟩
                  · rw [if_neg c51] at H
                    have c51b0 : ((t123.length : Int) == 0) = false := beq_eq_false_iff_ne.mpr c51
                    have c51b1 : ((t123.length : Int) != 0) = true := bne_iff_ne.mpr c51
                    have c51b2 : ¬ (t123 = []) := fun h_ => c51 (by rw [h_]; rfl)
                    cases (Option.some.inj H).trans HRT.out
              · replace c49 := Bool.eq_false_iff.mpr c49
                subst c49
                have H1 : (if t124 = true then ((moatlaw0_SameTexts.f kj44 t123 x10_1).bind fun t128 => (if t128 = true then ((moatlaw3_awake.f).bind fun t129 => (some t129)) else (some false))) else (some false)) = some r := by rw [if_neg (show ¬ (false = true) by decide)] at H; exact H
                clear H
                have H := H1
                clear H1
                by_cases c56 : t124 = true
                · subst c56
                  have H1 : ((moatlaw0_SameTexts.f kj44 t123 x10_1).bind fun t128 => (if t128 = true then ((moatlaw3_awake.f).bind fun t129 => (some t129)) else (some false))) = some r := by rw [if_pos rfl] at H; exact H
                  clear H
                  have H := H1
                  clear H1
                  replace H := Option.bind_eq_some_iff.mp H
                  obtain ⟨t128, A570, H⟩ := H
                  replace H : (if t128 = true then ((moatlaw3_awake.f).bind fun t129 => (some t129)) else (some false)) = some r := H
                  have A57 := Aside0.mk A570
                  clear A570
                  by_cases c58 : t128 = true
                  · subst c58
                    have H1 : ((moatlaw3_awake.f).bind fun t129 => (some t129)) = some r := by rw [if_pos rfl] at H; exact H
                    clear H
                    have H := H1
                    clear H1
                    replace H := Option.bind_eq_some_iff.mp H
                    obtain ⟨t129, A590, H⟩ := H
                    replace H : (some t129) = some r := H
                    have A59 := Aside0.mk A590
                    clear A590
                    obtain rfl := Option.some.inj H
                    go_wp2_with (first | ((with_reducible refine gate_callee (f := 18) rfl ?_); refine goesL_ (some 69) rfl rfl Tryd.func18 (by kernel_rfl) rfl #[.string x9_44] rfl (by (try simp only [List.map_toArray, List.map_cons, List.map_nil]); first | done | rfl | (simp only [List.length_drop, List.length_take]; rfl)) ?_; (with_reducible refine (field_List.calls x9_44 t123 true _ A48.out).mono ?_); rintro e w60 ⟨v125, rfl, ho0, hb⟩; refine ⟨_, rfl, ?_⟩; have n0_ := Aside0.mk (Kd.R_elder' (by (with_reducible repeat (first | apply Kd.R_alloc | apply Kd.R_drewN | apply Kd.R_drew)); exact HO_10.out) (Kd.R_base ho0) hb); have n1_ := Aside0.mk (Kd.R_lower (Kd.R_new' ho0 (Kd.R_lt (by (with_reducible repeat (first | apply Kd.R_alloc | apply Kd.R_drewN | apply Kd.R_drew)); exact HO_10.out))) (below_size (by repeat (first | (with_reducible first | exact HB.out | apply below_alloc | apply pw_below_drewN | apply below_drew1) | exact HB.out)))); have n2_ := Aside0.mk (below_step (by repeat (first | (with_reducible first | exact HB.out | apply below_alloc | apply pw_below_drewN | apply below_drew1) | exact HB.out)) hb); clear HO_10; clear HB; have HO_10 := n0_; have HO126 := n1_; have HB := n2_; clear n0_ n1_ n2_; (try clear hb); (try clear hb2); (try clear hk); (try clear hi); (try clear ho0); obtain ⟨Ao61, co61, eo61⟩ := Kd.R_slice HO126.out; subst eo61; obtain ⟨Ao62, co62, eo62⟩ := Kd.R_slice HO_10.out; subst eo62) | (go_at_call 22; (with_reducible refine (moatlaw0_SameTexts.calls kj44 _ _ t123 _ _ x10_1 true _ ?side1 ?side2 ?side3 ?side4 A57.out).mono ?_); (case side1 => repeat (first | exact (Kd.R_reads' HO126.out).2.2 | (with_reducible refine Kd.C_alloc ?_ _) | (with_reducible refine Kd.C_drewN ?_ _) | (with_reducible refine Kd.C_drew ?_))); (case side2 => exact (Kd.R_reads' HO126.out).2.1); (case side3 => repeat (first | exact (Kd.R_reads' HO_10.out).2.2 | (with_reducible refine Kd.C_alloc ?_ _) | (with_reducible refine Kd.C_drewN ?_ _) | (with_reducible refine Kd.C_drew ?_))); (case side4 => exact (Kd.R_reads' HO_10.out).2.1); rintro e w' ⟨rfl, ⟨nd, rfl⟩⟩) | (go_at_call 17; (with_reducible refine (moatlaw3_awake.calls  t129 _ A59.out).mono ?_); rintro e w63 ⟨rfl, hb⟩; have n0_ := Aside0.mk (Kd.R_below (by (with_reducible repeat (first | apply Kd.R_alloc | apply Kd.R_drewN | apply Kd.R_drew)); exact HO_10.out) hb); have n1_ := Aside0.mk (Kd.R_below (by (with_reducible repeat (first | apply Kd.R_alloc | apply Kd.R_drewN | apply Kd.R_drew)); exact HO126.out) hb); have n2_ := Aside0.mk (below_step (by repeat (first | (with_reducible first | exact HB.out | apply below_alloc | apply pw_below_drewN | apply below_drew1) | exact HB.out)) hb); clear HO_10; clear HO126; clear HB; have HO_10 := n0_; have HO126 := n1_; have HB := n2_; clear n0_ n1_ n2_; (try clear hb); (try clear hb2); (try clear hk); (try clear hi)))
                    go_ret
                    exact ⟨by first | rfl | (simp [errW_none, errW_some] <;> rfl) | (simp [*, errW_none, errW_some] <;> rfl) | (simp [isEmpty_bne, isEmpty_beq, errW_none, errW_some]; done) | (simp [*, isEmpty_bne, isEmpty_beq, errW_none, errW_some]; done), by repeat (first | (with_reducible first | exact HB.out | apply below_alloc | apply pw_below_drewN | apply below_drew1) | exact HB.out)⟩
                  · replace c58 := Bool.eq_false_iff.mpr c58
                    subst c58
                    have H1 : (some false) = some r := by rw [if_neg (show ¬ (false = true) by decide)] at H; exact H
                    clear H
                    have H := H1
                    clear H1
                    cases (Option.some.inj H).trans HRT.out
                · replace c56 := Bool.eq_false_iff.mpr c56
                  subst c56
                  have H1 : (some false) = some r := by rw [if_neg (show ¬ (false = true) by decide)] at H; exact H
                  clear H
                  have H := H1
                  clear H1
                  cases (Option.some.inj H).trans HRT.out

/-- THE ONE PURE STATEMENT of moatlaw3_FieldLists: yours. -/
def moatlaw3_FieldLists.Pure : Prop := ∀ (l0 : List Int) (a1 : Int) (a2 : Bool), l0.length ≤ maxLen → l0.length * 8 ≤ 140737488351232 → (∀ x ∈ l0, (Lit.int .i64 x).wf = true) → (Lit.int .i64 a1).wf = true → ∃ k, moatlaw3_FieldLists.f k l0 a1 a2 = some true
theorem moatlaw3_FieldLists.walk (P : moatlaw3_FieldLists.Pure) (a0 : Option Addr) (len0 cap0 : Nat) (z0 : List Int) (a1 : Int) (a2 : Bool) (w : World) (w0 : (a0 = none ∧ len0 = 0 ∧ cap0 = 0 ∧ z0 = []) ∨ ∃ x, a0 = some x ∧ len0 ≤ cap0 ∧ cap0 ≤ maxLen ∧ z0.length = cap0 ∧ (∀ i, i < z0.length → w.cell? (x.add i) = some (.int .i64 (z0.getD i 0))) ∧ ∀ n ∈ z0, (Lit.int .i64 n).wf = true) (y0 : len0 * 8 ≤ 140737488351232) (w1 : (Lit.int .i64 a1).wf = true) :
    Calls Tryd.prog 4 #[.slice a0 len0 cap0, .int .i64 a1, .bool a2] w fun e w' => e = .returned (.bool true) ∧ Below w.heap.size w w' := by
  obtain ⟨l0, rfl, hr0, hm0, hw0, hc0⟩ := ReadsInt.ofRowC w0
  obtain ⟨k, h⟩ := P l0 a1 a2 hm0 y0 hw0 w1
  refine (moatlaw3_FieldLists.calls k _ _ l0 a1 a2 true w (Kd.C_of_reads (d := (0 : Int)) (h1 := fun _ => rfl) hr0) hc0 h rfl).mono ?_
  rintro e w' ⟨rfl, hd⟩
  exact ⟨rfl, hd⟩

end Go.Proofs.YtfmppmabnpkooaaDoor.BI
