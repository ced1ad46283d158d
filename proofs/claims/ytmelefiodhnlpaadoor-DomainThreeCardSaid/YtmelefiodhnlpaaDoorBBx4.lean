-- Printed for this claim by the kit's print.py over given contracts (wip/myprint.py). Not trusted: Lean checks it.
import Derived.Test.YtmelefiodhnlpaaDoorBBx0
import Derived.Test.YtmelefiodhnlpaaDoorBBx3
namespace Go.Proofs.YtmelefiodhnlpaaDoor.BB
open Go.RowKit Go.Proofs.YtmelefiodhnlpaaDoorW.PrintWords Go.Proofs.YtmelefiodhnlpaaDoorW.PrintLast Go.Proofs.YtmelefiodhnlpaaDoorW.PrintMore
attribute [local go_sem] max2_int min2_int max_two min_two max_three min_three max_four min_four   -- for this text's walks alone
set_option linter.unusedVariables false
set_option linter.unusedSimpArgs false

/-! ### moatlaw0_SameTexts: function 26 -/
def moatlaw0_SameTexts.l0 : Nat → List ByteArray → List ByteArray → Int → Option (Bool)
  | 0, _, _, _ => none
  | k + 1, x0, x1, x5 => if x5 < (x0.length : Int) then (if 0 ≤ x5 then (if x5 < (x1.length : Int) then (if (rdOf ByteArray.empty x0 x5).toList = (rdOf ByteArray.empty x1 x5).toList then (moatlaw0_SameTexts.l0 k x0 x1 (wrap64 (x5 + 1))) else (some false)) else (none)) else (none)) else (some true)
def moatlaw0_SameTexts.f (k : Nat) (l0 : List ByteArray) (l1 : List ByteArray) : Option (Bool) := if (l0.length : Int) = (l1.length : Int) then (moatlaw0_SameTexts.l0 k l0 l1 0) else (some false)
theorem moatlaw0_SameTexts.mono_l : ∀ k, (∀ y0 y1 y2, LeO (moatlaw0_SameTexts.l0 k y0 y1 y2) (moatlaw0_SameTexts.l0 (k + 1) y0 y1 y2))
  | 0 => fun _ _ _ r h => by simp [moatlaw0_SameTexts.l0] at h
  | k + 1 => by
    have ih0 := moatlaw0_SameTexts.mono_l k
    · intro y0 y1 y2
      unfold moatlaw0_SameTexts.l0
      repeat' first
      | (with_reducible exact ih0 _ _ _)
      | (with_reducible exact LeO.refl _)
      | (with_reducible exact LeO.none _)
      | (with_reducible refine LeO.ite ?_ ?_)
      | (with_reducible refine LeO.bind ?_ (fun _ => ?_))
      | exact ih0 _ _ _
      | exact LeO.none _
      | refine LeO.ite ?_ ?_
      | refine LeO.bind ?_ (fun _ => ?_)
theorem moatlaw0_SameTexts.mono : ∀ a0 a1 k, LeO (moatlaw0_SameTexts.f k a0 a1) (moatlaw0_SameTexts.f (k + 1) a0 a1) := by
  intro a0 a1 k
  have ih0 := moatlaw0_SameTexts.mono_l k
  unfold moatlaw0_SameTexts.f
  repeat' first
      | (with_reducible exact ih0 _ _ _)
      | (with_reducible exact LeO.refl _)
      | (with_reducible exact LeO.none _)
      | (with_reducible refine LeO.ite ?_ ?_)
      | (with_reducible refine LeO.bind ?_ (fun _ => ?_))
      | exact ih0 _ _ _
      | exact LeO.none _
      | refine LeO.ite ?_ ?_
      | refine LeO.bind ?_ (fun _ => ?_)
set_option maxHeartbeats 2000000 in
set_option maxRecDepth 100000 in
theorem moatlaw0_SameTexts.calls (k : Nat) (A0 : Option Addr) (c0 : Nat) (l0 : List ByteArray) (A1 : Option Addr) (c1 : Nat) (l1 : List ByteArray) (r : Bool) (w : World) (hr0 : Kd.C Kd.string w A0 l0.length l0) (hc0 : l0.length ≤ c0) (hr1 : Kd.C Kd.string w A1 l1.length l1) (hc1 : l1.length ≤ c1) (h : moatlaw0_SameTexts.f k l0 l1 = some r) :
    Calls Tryd.prog 26 #[.slice A0 l0.length c0, .slice A1 l1.length c1] w fun e w' => e = .returned (.bool r) ∧ Drawn0 w w' := by
  have HR0 := Aside0.mk hr0
  have HC0 := Aside0.mk hc0
  clear hr0 hc0
  have HR1 := Aside0.mk hr1
  have HC1 := Aside0.mk hc1
  clear hr1 hc1
  have H : (if (l0.length : Int) = (l1.length : Int) then (moatlaw0_SameTexts.l0 k l0 l1 0) else (some false)) = some r := h
  clear h
  by_cases c3 : (l0.length : Int) = (l1.length : Int)
  · rw [if_pos c3] at H
    have c3b0 : ((l0.length : Int) == (l1.length : Int)) = true := beq_iff_eq.mpr c3
    have c3b1 : ((l0.length : Int) != (l1.length : Int)) = false := bne_eq_false_iff_eq.mpr c3
    have c3b2 : (l0.length == l1.length) = true := by first | simpa using c3 | (simp at c3 ⊢; omega)
    clear c3
    have H' := Aside0.mk H
    clear H
    go_enter Tryd.func26, Tryd.ntmps26
    go_wp2
    repeat (go_quiet (fail); try go_wp2)
    go_loopg [5] k (fun kq v5 w' => ∃ (x5_1 : Int), v5 = .int .i64 x5_1 ∧ Aside0 (moatlaw0_SameTexts.l0 kq l0 l1 x5_1 = some r) ∧ Aside0 (kq ≤ k) ∧ Drawn0 w w')
    case atStart => exact ⟨(0), (by first | rfl | (simp; done) | (simp [*]; done) | (simp [isEmpty_bne, isEmpty_beq]; done) | (simp [*, isEmpty_bne, isEmpty_beq]; done)), H', ⟨Nat.le_refl _⟩, by repeat (first | exact Drawn0.refl _ | apply Drawn0.step)⟩
    case round =>
      clear H'
      try clear c1
      try clear c2
      try clear p2
      try clear c3
      try clear c3b0
      try clear c3b1
      try clear c3b2
      obtain ⟨x5_1, rfl, HA, HK1, ⟨m1, rfl⟩⟩ := hrel
      cases gk with
      | zero => exact absurd HA.out (by simp [moatlaw0_SameTexts.l0])
      | succ k1 =>
        have H := HA.out
        clear HA
        simp only [moatlaw0_SameTexts.l0] at H
        by_cases c4 : x5_1 < (l0.length : Int)
        · rw [if_pos c4] at H
          have c4b0 : decide (x5_1 < (l0.length : Int)) = true := decide_eq_true c4
          clear c4
          by_cases c5 : 0 ≤ x5_1
          · rw [if_pos c5] at H
            have c5b0 : decide (0 ≤ x5_1) = true := decide_eq_true c5
            clear c5
            by_cases c6 : x5_1 < (l1.length : Int)
            · rw [if_pos c6] at H
              have c6b0 : decide (x5_1 < (l1.length : Int)) = true := decide_eq_true c6
              clear c6
              by_cases c7 : (rdOf ByteArray.empty l0 x5_1).toList = (rdOf ByteArray.empty l1 x5_1).toList
              · rw [if_pos c7] at H
                have c7b0 : ((rdOf ByteArray.empty l0 x5_1).toList == (rdOf ByteArray.empty l1 x5_1).toList) = true := beq_iff_eq.mpr c7
                have c7b1 : ((rdOf ByteArray.empty l0 x5_1).toList != (rdOf ByteArray.empty l1 x5_1).toList) = false := bne_eq_false_iff_eq.mpr c7
                clear c7
                have H' := Aside0.mk H
                clear H
                have p137 : 0 ≤ (x5_1 : Int) := of_decide_eq_true (by first | (with_reducible assumption) | assumption)
                have q137 : x5_1 < (l0.length : Int) := of_decide_eq_true (by first | (with_reducible assumption) | assumption)
                obtain ⟨ad137, e137, hx137_0⟩ := Kd.at_string HR0.out x5_1 p137 q137
                cases e137
                replace p137 := eq_true p137
                replace q137 := eq_true q137
                have p138 : 0 ≤ (x5_1 : Int) := of_decide_eq_true (by first | (with_reducible assumption) | assumption)
                have q138 : x5_1 < (l1.length : Int) := of_decide_eq_true (by first | (with_reducible assumption) | assumption)
                obtain ⟨ad138, e138, hx138_0⟩ := Kd.at_string HR1.out x5_1 p138 q138
                cases e138
                replace p138 := eq_true p138
                replace q138 := eq_true q138
                go_wp2
                repeat (go_quiet (fail); try go_wp2)
                go_roundg k1
                case measure => have := HK1.out; omega
                case rel => exact ⟨(wrap64 (x5_1 + 1)), (by first | rfl | (simp; done) | (simp [*]; done) | (simp [isEmpty_bne, isEmpty_beq]; done) | (simp [*, isEmpty_bne, isEmpty_beq]; done)), H', ⟨by have := HK1.out; omega⟩, by repeat (first | exact Drawn0.refl _ | apply Drawn0.step)⟩
              · rw [if_neg c7] at H
                have c7b0 : ((rdOf ByteArray.empty l0 x5_1).toList == (rdOf ByteArray.empty l1 x5_1).toList) = false := beq_eq_false_iff_ne.mpr c7
                have c7b1 : ((rdOf ByteArray.empty l0 x5_1).toList != (rdOf ByteArray.empty l1 x5_1).toList) = true := bne_iff_ne.mpr c7
                obtain rfl := Option.some.inj H
                have p137 : 0 ≤ (x5_1 : Int) := of_decide_eq_true (by first | (with_reducible assumption) | assumption)
                have q137 : x5_1 < (l0.length : Int) := of_decide_eq_true (by first | (with_reducible assumption) | assumption)
                obtain ⟨ad137, e137, hx137_0⟩ := Kd.at_string HR0.out x5_1 p137 q137
                cases e137
                replace p137 := eq_true p137
                replace q137 := eq_true q137
                have p138 : 0 ≤ (x5_1 : Int) := of_decide_eq_true (by first | (with_reducible assumption) | assumption)
                have q138 : x5_1 < (l1.length : Int) := of_decide_eq_true (by first | (with_reducible assumption) | assumption)
                obtain ⟨ad138, e138, hx138_0⟩ := Kd.at_string HR1.out x5_1 p138 q138
                cases e138
                replace p138 := eq_true p138
                replace q138 := eq_true q138
                go_wp2
                repeat (go_quiet (fail); try go_wp2)
                go_ret
                exact ⟨by first | rfl | (simp; done) | (simp [*]; done) | (simp [isEmpty_bne, isEmpty_beq]; done) | (simp [*, isEmpty_bne, isEmpty_beq]; done), by repeat (first | exact Drawn0.refl _ | apply Drawn0.step)⟩
            · rw [if_neg c6] at H
              exact absurd H (by simp)
          · rw [if_neg c5] at H
            exact absurd H (by simp)
        · rw [if_neg c4] at H
          have c4b0 : decide (x5_1 < (l0.length : Int)) = false := decide_eq_false c4
          clear c4
          obtain rfl := Option.some.inj H
          go_wp2
          repeat (go_quiet (fail); try go_wp2)
          go_ret
          exact ⟨by first | rfl | (simp; done) | (simp [*]; done) | (simp [isEmpty_bne, isEmpty_beq]; done) | (simp [*, isEmpty_bne, isEmpty_beq]; done), by repeat (first | exact Drawn0.refl _ | apply Drawn0.step)⟩
  · rw [if_neg c3] at H
    have c3b0 : ((l0.length : Int) == (l1.length : Int)) = false := beq_eq_false_iff_ne.mpr c3
    have c3b1 : ((l0.length : Int) != (l1.length : Int)) = true := bne_iff_ne.mpr c3
    have c3b2 : (l0.length == l1.length) = false := by first | simpa using c3 | (simp at c3 ⊢; omega)
    obtain rfl := Option.some.inj H
    go_enter Tryd.func26, Tryd.ntmps26
    go_wp2
    repeat (go_quiet (fail); try go_wp2)
    go_ret
    exact ⟨by first | rfl | (simp; done) | (simp [*]; done) | (simp [isEmpty_bne, isEmpty_beq]; done) | (simp [*, isEmpty_bne, isEmpty_beq]; done), by repeat (first | exact Drawn0.refl _ | apply Drawn0.step)⟩

/-! ### moatlaw2_host: function 17 -/
def moatlaw2_host.l0 : Nat → Int → ByteArray → Int → Option (ByteArray)
  | 0, _, _, _ => none
  | k + 1, x0, x3, x4 => if x4 < (Int.tmod (wrap64 (Int.tdiv x0 2)) 4) then ((some (([(⟨#[97]⟩ : ByteArray), (⟨#[98]⟩ : ByteArray), (⟨#[97, 98]⟩ : ByteArray), (⟨#[99]⟩ : ByteArray)] : List ByteArray) : List ByteArray)).bind fun y144 => (if 0 ≤ (wrap64 (2 * x4)) then (if 0 ≤ (Go.bits .and .i64 (shr .i64 (wrap64 (Int.tdiv x0 8)) (wrap64 (2 * x4))) 3) then (if (Go.bits .and .i64 (shr .i64 (wrap64 (Int.tdiv x0 8)) (wrap64 (2 * x4))) 3) < (y144.length : Int) then (if (rdOf ByteArray.empty y144 (Go.bits .and .i64 (shr .i64 (wrap64 (Int.tdiv x0 8)) (wrap64 (2 * x4))) 3)).size + 1 ≤ 9223372036854775807 then (if ((rdOf ByteArray.empty y144 (Go.bits .and .i64 (shr .i64 (wrap64 (Int.tdiv x0 8)) (wrap64 (2 * x4))) 3)) ++ (⟨#[46]⟩ : ByteArray)).size + x3.size ≤ 9223372036854775807 then (moatlaw2_host.l0 k x0 (((rdOf ByteArray.empty y144 (Go.bits .and .i64 (shr .i64 (wrap64 (Int.tdiv x0 8)) (wrap64 (2 * x4))) 3)) ++ (⟨#[46]⟩ : ByteArray)) ++ x3) (wrap64 (x4 + 1))) else (none)) else (none)) else (none)) else (none)) else (none))) else (some x3)
def moatlaw2_host.f (k : Nat) (a0 : Int) : Option (ByteArray) := (moatlaw0_Low.f a0 4096).bind fun t139 => ((some (([(⟨#[99]⟩ : ByteArray), (⟨#[100]⟩ : ByteArray)] : List ByteArray) : List ByteArray)).bind fun y140 => (if 0 ≤ (Int.tmod t139 2) then (if (Int.tmod t139 2) < (y140.length : Int) then (moatlaw2_host.l0 k t139 (rdOf ByteArray.empty y140 (Int.tmod t139 2)) 0) else (none)) else (none)))
theorem moatlaw2_host.mono_l : ∀ k, (∀ y0 y1 y2, LeO (moatlaw2_host.l0 k y0 y1 y2) (moatlaw2_host.l0 (k + 1) y0 y1 y2))
  | 0 => fun _ _ _ r h => by simp [moatlaw2_host.l0] at h
  | k + 1 => by
    have ih0 := moatlaw2_host.mono_l k
    · intro y0 y1 y2
      unfold moatlaw2_host.l0
      repeat' first
      | (with_reducible exact ih0 _ _ _)
      | (with_reducible exact LeO.refl _)
      | (with_reducible exact LeO.none _)
      | (with_reducible refine LeO.ite ?_ ?_)
      | (with_reducible refine LeO.bind ?_ (fun _ => ?_))
      | exact ih0 _ _ _
      | exact LeO.none _
      | refine LeO.ite ?_ ?_
      | refine LeO.bind ?_ (fun _ => ?_)
theorem moatlaw2_host.mono : ∀ a0 k, LeO (moatlaw2_host.f k a0) (moatlaw2_host.f (k + 1) a0) := by
  intro a0 k
  have ih0 := moatlaw2_host.mono_l k
  unfold moatlaw2_host.f
  repeat' first
      | (with_reducible exact ih0 _ _ _)
      | (with_reducible exact LeO.refl _)
      | (with_reducible exact LeO.none _)
      | (with_reducible refine LeO.ite ?_ ?_)
      | (with_reducible refine LeO.bind ?_ (fun _ => ?_))
      | exact ih0 _ _ _
      | exact LeO.none _
      | refine LeO.ite ?_ ?_
      | refine LeO.bind ?_ (fun _ => ?_)
set_option maxHeartbeats 2000000 in
set_option maxRecDepth 100000 in
theorem moatlaw2_host.calls (k : Nat) (a0 : Int) (r : ByteArray) (w : World) (h : moatlaw2_host.f k a0 = some r) :
    Calls Tryd.prog 17 #[.int .i64 a0] w fun e w' => e = .returned (.string r) ∧ Below w.heap.size w w' := by
  have HB := Aside0.mk (Below.refl w.heap.size w)
  have H : ((moatlaw0_Low.f a0 4096).bind fun t139 => ((some (([(⟨#[99]⟩ : ByteArray), (⟨#[100]⟩ : ByteArray)] : List ByteArray) : List ByteArray)).bind fun y140 => (if 0 ≤ (Int.tmod t139 2) then (if (Int.tmod t139 2) < (y140.length : Int) then (moatlaw2_host.l0 k t139 (rdOf ByteArray.empty y140 (Int.tmod t139 2)) 0) else (none)) else (none)))) = some r := h
  clear h
  replace H := Option.bind_eq_some_iff.mp H
  obtain ⟨t139, A20, H⟩ := H
  replace H : ((some (([(⟨#[99]⟩ : ByteArray), (⟨#[100]⟩ : ByteArray)] : List ByteArray) : List ByteArray)).bind fun y140 => (if 0 ≤ (Int.tmod t139 2) then (if (Int.tmod t139 2) < (y140.length : Int) then (moatlaw2_host.l0 k t139 (rdOf ByteArray.empty y140 (Int.tmod t139 2)) 0) else (none)) else (none))) = some r := H
  have A2 := Aside0.mk A20
  clear A20
  obtain ⟨y140, hy140⟩ : ∃ y_ : List ByteArray, y_ = (([(⟨#[99]⟩ : ByteArray), (⟨#[100]⟩ : ByteArray)] : List ByteArray)) := ⟨_, rfl⟩
  replace H : (if 0 ≤ (Int.tmod t139 2) then (if (Int.tmod t139 2) < (y140.length : Int) then (moatlaw2_host.l0 k t139 (rdOf ByteArray.empty y140 (Int.tmod t139 2)) 0) else (none)) else (none)) = some r := by first | (rw [hy140]; with_reducible exact H) | (have H2_ := (Option.bind_some _ _).symm.trans H; rw [hy140]; with_reducible exact H2_) | (have H2_ := (Option.bind_some _ _).symm.trans H; with_reducible exact H2_) | with_reducible exact H | (rw [hy140]; exact H) | exact H
  have Ny140 := Aside0.mk hy140
  clear hy140
  obtain ⟨ji3, hji3⟩ : ∃ j_ : Int, (Int.tmod t139 2) = j_ := ⟨_, rfl⟩
  replace H : (if 0 ≤ (ji3) then (if (ji3) < (y140.length : Int) then (moatlaw2_host.l0 k t139 (rdOf ByteArray.empty y140 (ji3)) 0) else (none)) else (none)) = some r := by first | (rw [hji3] at H; exact H) | (simp only [hji3] at H ⊢; exact H)
  (try rw [hji3] at A2)
  by_cases c4 : 0 ≤ (ji3)
  · rw [if_pos c4] at H
    have c4b0 : decide (0 ≤ (ji3)) = true := decide_eq_true c4
    clear c4
    by_cases c5 : (ji3) < (y140.length : Int)
    · rw [if_pos c5] at H
      have c5b0 : decide ((ji3) < (y140.length : Int)) = true := decide_eq_true c5
      clear c5
      have H' := Aside0.mk H
      clear H
      go_enter Tryd.func17, Tryd.ntmps17
      go_wp2_with (first | ((with_reducible refine gate_callee (f := 12) rfl ?_); refine goesL_ (some 6) rfl rfl Tryd.func12 (by kernel_rfl) rfl #[.int .i64 a0, .int .i64 4096] rfl (by (try simp only [List.map_toArray, List.map_cons, List.map_nil]); first | done | rfl | (simp only [List.length_drop, List.length_take]; rfl)) ?_; (with_reducible refine (moatlaw0_Low.calls a0 4096 t139 _ A2.out).mono ?_); rintro e w' ⟨rfl, ⟨nd, rfl⟩⟩; refine ⟨_, rfl, ?_⟩) | ((with_reducible refine gate_dst (N := 7) rfl ?_); refine Kd.R_lit Kd.string _ 9 ?hg (N := 7) ?hd (xs := ([(⟨#[99]⟩ : ByteArray), (⟨#[100]⟩ : ByteArray)] : List ByteArray)) (inner := [.string (⟨#[99]⟩ : ByteArray), .string (⟨#[100]⟩ : ByteArray)]) (ok := fun _ => True) (okp := fun _ => True) ?hr ?hp (fun _ hk => hk) trivial (Below.refl _ _) (Nat.le_refl _) (by simp) ?_; (case hd => rfl); (case hg => rfl); (case hr => first | (go_simp; done) | (go_simp; rfl)); (case hp => exact (Reps.one (show Kd.M Kd.string _ _ _ (⟨#[99]⟩ : ByteArray) [.string (⟨#[99]⟩ : ByteArray)] from rfl) (Reps.one (show Kd.M Kd.string _ _ _ (⟨#[100]⟩ : ByteArray) [.string (⟨#[100]⟩ : ByteArray)] from rfl) (Reps.none _ _)))); intro v141 w6 ho7 hb hg_ hnew_; clear hg_ hnew_; (first | rw [← Ny140.out] at ho7 | (simp only [Int.reduceToNat] at ho7; rw [← Ny140.out] at ho7)); have n0_ := Aside0.mk (Kd.R_lower ho7 (below_size (by repeat (first | (with_reducible first | exact HB.out | apply below_alloc | apply pw_below_drewN | apply below_drew1) | exact HB.out)))); have n1_ := Aside0.mk (below_step (by repeat (first | (with_reducible first | exact HB.out | apply below_alloc | apply pw_below_drewN | apply below_drew1) | exact HB.out)) hb); clear HB; have HO142 := n0_; have HB := n1_; clear n0_ n1_; clear hb ho7; obtain ⟨Ao8, co8, eo8⟩ := Kd.R_slice HO142.out; subst eo8; have p143 : 0 ≤ ((ji3) : Int) := of_decide_eq_true (by first | (with_reducible assumption) | assumption); have q143 : (ji3) < (y140.length : Int) := of_decide_eq_true (by first | (with_reducible assumption) | assumption); obtain ⟨ad143, e143, hx143_0⟩ := Kd.at_string (Kd.R_reads' HO142.out).2.2 (ji3) p143 q143; cases e143; replace p143 := eq_true p143; replace q143 := eq_true q143))
      go_loopg [3, 4] k (fun kq v3 v4 w' => ∃ (x3_1 : ByteArray) (x4_1 : Int), v3 = .string x3_1 ∧ v4 = .int .i64 x4_1 ∧ Aside0 (moatlaw2_host.l0 kq t139 x3_1 x4_1 = some r) ∧ Aside0 (kq ≤ k) ∧ Aside0 (Below w.heap.size w w'))
      case atStart => exact ⟨(rdOf ByteArray.empty y140 (ji3)), (0), (by first | rfl | (simp; done) | (simp only [← hji3] <;> (first | rfl | simp)) | (simp [*]; done)), (by first | rfl | (simp; done) | (simp [*]; done) | (simp [isEmpty_bne, isEmpty_beq]; done) | (simp [*, isEmpty_bne, isEmpty_beq]; done)), H', ⟨Nat.le_refl _⟩, ⟨by repeat (first | (with_reducible first | exact HB.out | apply below_alloc | apply pw_below_drewN | apply below_drew1) | exact HB.out)⟩⟩
      case round =>
        clear H'
        try clear c1
        try clear p1
        try clear q1
        try clear hx1
        try clear p2
        try clear c4
        try clear c4b0
        try clear c5
        try clear c5b0
        try clear hx143_0
        try clear p143
        try clear q143
        obtain ⟨x3_1, x4_1, rfl, rfl, HA, HK1, HB⟩ := hrel
        cases gk with
        | zero => exact absurd HA.out (by simp [moatlaw2_host.l0])
        | succ k1 =>
          have H := HA.out
          clear HA
          simp only [moatlaw2_host.l0] at H
          by_cases c9 : x4_1 < (Int.tmod (wrap64 (Int.tdiv t139 2)) 4)
          · rw [if_pos c9] at H
            have c9b0 : decide (x4_1 < (Int.tmod (wrap64 (Int.tdiv t139 2)) 4)) = true := decide_eq_true c9
            clear c9
            obtain ⟨y144, hy144⟩ : ∃ y_ : List ByteArray, y_ = (([(⟨#[97]⟩ : ByteArray), (⟨#[98]⟩ : ByteArray), (⟨#[97, 98]⟩ : ByteArray), (⟨#[99]⟩ : ByteArray)] : List ByteArray)) := ⟨_, rfl⟩
            replace H : (if 0 ≤ (wrap64 (2 * x4_1)) then (if 0 ≤ (Go.bits .and .i64 (shr .i64 (wrap64 (Int.tdiv t139 8)) (wrap64 (2 * x4_1))) 3) then (if (Go.bits .and .i64 (shr .i64 (wrap64 (Int.tdiv t139 8)) (wrap64 (2 * x4_1))) 3) < (y144.length : Int) then (if (rdOf ByteArray.empty y144 (Go.bits .and .i64 (shr .i64 (wrap64 (Int.tdiv t139 8)) (wrap64 (2 * x4_1))) 3)).size + 1 ≤ 9223372036854775807 then (if ((rdOf ByteArray.empty y144 (Go.bits .and .i64 (shr .i64 (wrap64 (Int.tdiv t139 8)) (wrap64 (2 * x4_1))) 3)) ++ (⟨#[46]⟩ : ByteArray)).size + x3_1.size ≤ 9223372036854775807 then (moatlaw2_host.l0 k1 t139 (((rdOf ByteArray.empty y144 (Go.bits .and .i64 (shr .i64 (wrap64 (Int.tdiv t139 8)) (wrap64 (2 * x4_1))) 3)) ++ (⟨#[46]⟩ : ByteArray)) ++ x3_1) (wrap64 (x4_1 + 1))) else (none)) else (none)) else (none)) else (none)) else (none)) = some r := by first | (rw [hy144]; with_reducible exact H) | (have H2_ := (Option.bind_some _ _).symm.trans H; rw [hy144]; with_reducible exact H2_) | (have H2_ := (Option.bind_some _ _).symm.trans H; with_reducible exact H2_) | with_reducible exact H | (rw [hy144]; exact H) | exact H
            have Ny144 := Aside0.mk hy144
            clear hy144
            obtain ⟨ji10, hji10⟩ : ∃ j_ : Int, (wrap64 (2 * x4_1)) = j_ := ⟨_, rfl⟩
            replace H : (if 0 ≤ (ji10) then (if 0 ≤ (Go.bits .and .i64 (shr .i64 (wrap64 (Int.tdiv t139 8)) (ji10)) 3) then (if (Go.bits .and .i64 (shr .i64 (wrap64 (Int.tdiv t139 8)) (ji10)) 3) < (y144.length : Int) then (if (rdOf ByteArray.empty y144 (Go.bits .and .i64 (shr .i64 (wrap64 (Int.tdiv t139 8)) (ji10)) 3)).size + 1 ≤ 9223372036854775807 then (if ((rdOf ByteArray.empty y144 (Go.bits .and .i64 (shr .i64 (wrap64 (Int.tdiv t139 8)) (ji10)) 3)) ++ (⟨#[46]⟩ : ByteArray)).size + x3_1.size ≤ 9223372036854775807 then (moatlaw2_host.l0 k1 t139 (((rdOf ByteArray.empty y144 (Go.bits .and .i64 (shr .i64 (wrap64 (Int.tdiv t139 8)) (ji10)) 3)) ++ (⟨#[46]⟩ : ByteArray)) ++ x3_1) (wrap64 (x4_1 + 1))) else (none)) else (none)) else (none)) else (none)) else (none)) = some r := by first | (rw [hji10] at H; exact H) | (simp only [hji10] at H ⊢; exact H)
            have hji10w : (IntKind.i64.wrap (2 * x4_1)) = ji10 := (i64_w _).trans hji10
            by_cases c11 : 0 ≤ (ji10)
            · rw [if_pos c11] at H
              have c11b0 := eq_true c11
              have c11b1 : decide (0 ≤ (ji10)) = true := decide_eq_true c11
              clear c11
              obtain ⟨ji12, hji12⟩ : ∃ j_ : Int, (shr .i64 (wrap64 (Int.tdiv t139 8)) (ji10)) = j_ := ⟨_, rfl⟩
              replace H : (if 0 ≤ (Go.bits .and .i64 (ji12) 3) then (if (Go.bits .and .i64 (ji12) 3) < (y144.length : Int) then (if (rdOf ByteArray.empty y144 (Go.bits .and .i64 (ji12) 3)).size + 1 ≤ 9223372036854775807 then (if ((rdOf ByteArray.empty y144 (Go.bits .and .i64 (ji12) 3)) ++ (⟨#[46]⟩ : ByteArray)).size + x3_1.size ≤ 9223372036854775807 then (moatlaw2_host.l0 k1 t139 (((rdOf ByteArray.empty y144 (Go.bits .and .i64 (ji12) 3)) ++ (⟨#[46]⟩ : ByteArray)) ++ x3_1) (wrap64 (x4_1 + 1))) else (none)) else (none)) else (none)) else (none)) = some r := by first | (rw [hji12] at H; exact H) | (simp only [hji12] at H ⊢; exact H)
              have hji12_ : ((wrap64 (Int.tdiv t139 8)) / 2 ^ min (ji10).toNat 64) = ji12 := hji12
              have hji12z : (ji10) ≤ 64 → ((wrap64 (Int.tdiv t139 8)) / 2 ^ (ji10).toNat) = ji12 := shr_small hji12
              by_cases c13 : 0 ≤ (Go.bits .and .i64 (ji12) 3)
              · rw [if_pos c13] at H
                have c13b0 : decide (0 ≤ (Go.bits .and .i64 (ji12) 3)) = true := decide_eq_true c13
                clear c13
                by_cases c14 : (Go.bits .and .i64 (ji12) 3) < (y144.length : Int)
                · rw [if_pos c14] at H
                  have c14b0 : decide ((Go.bits .and .i64 (ji12) 3) < (y144.length : Int)) = true := decide_eq_true c14
                  clear c14
                  by_cases c15 : (rdOf ByteArray.empty y144 (Go.bits .and .i64 (ji12) 3)).size + 1 ≤ 9223372036854775807
                  · rw [if_pos c15] at H
                    have c15b0 := eq_true c15
                    have c15b1 : decide ((rdOf ByteArray.empty y144 (Go.bits .and .i64 (ji12) 3)).size + 1 ≤ 9223372036854775807) = true := decide_eq_true c15
                    try have c15b2 : (9223372036854775807 < (rdOf ByteArray.empty y144 (Go.bits .and .i64 (ji12) 3)).size + 1) = False := eq_false (Nat.not_lt.2 c15)
                    by_cases c16 : ((rdOf ByteArray.empty y144 (Go.bits .and .i64 (ji12) 3)) ++ (⟨#[46]⟩ : ByteArray)).size + x3_1.size ≤ 9223372036854775807
                    · rw [if_pos c16] at H
                      have c16b0 := eq_true c16
                      have c16b1 : decide (((rdOf ByteArray.empty y144 (Go.bits .and .i64 (ji12) 3)) ++ (⟨#[46]⟩ : ByteArray)).size + x3_1.size ≤ 9223372036854775807) = true := decide_eq_true c16
                      try have c16b2 : (9223372036854775807 < ((rdOf ByteArray.empty y144 (Go.bits .and .i64 (ji12) 3)) ++ (⟨#[46]⟩ : ByteArray)).size + x3_1.size) = False := eq_false (Nat.not_lt.2 c16)
                      (try (have c16b7 : (9223372036854775807 < (rdOf ByteArray.empty y144 (Go.bits .and .i64 (ji12) 3)).size + 1 + x3_1.size) = False := eq_false (fun hq => absurd c16 (by simp [ByteArray.size_append] at hq ⊢; omega))))
                      have H' := Aside0.mk H
                      clear H
                      go_wp2_with (first | ((with_reducible refine gate_dst (N := 19) rfl ?_); refine Kd.R_lit Kd.string _ 9 ?hg (N := 19) ?hd (xs := ([(⟨#[97]⟩ : ByteArray), (⟨#[98]⟩ : ByteArray), (⟨#[97, 98]⟩ : ByteArray), (⟨#[99]⟩ : ByteArray)] : List ByteArray)) (inner := [.string (⟨#[97]⟩ : ByteArray), .string (⟨#[98]⟩ : ByteArray), .string (⟨#[97, 98]⟩ : ByteArray), .string (⟨#[99]⟩ : ByteArray)]) (ok := fun _ => True) (okp := fun _ => True) ?hr ?hp (fun _ hk => hk) trivial (Below.refl _ _) (Nat.le_refl _) (by simp) ?_; (case hd => rfl); (case hg => rfl); (case hr => first | (go_simp; done) | (go_simp; rfl)); (case hp => exact (Reps.one (show Kd.M Kd.string _ _ _ (⟨#[97]⟩ : ByteArray) [.string (⟨#[97]⟩ : ByteArray)] from rfl) (Reps.one (show Kd.M Kd.string _ _ _ (⟨#[98]⟩ : ByteArray) [.string (⟨#[98]⟩ : ByteArray)] from rfl) (Reps.one (show Kd.M Kd.string _ _ _ (⟨#[97, 98]⟩ : ByteArray) [.string (⟨#[97, 98]⟩ : ByteArray)] from rfl) (Reps.one (show Kd.M Kd.string _ _ _ (⟨#[99]⟩ : ByteArray) [.string (⟨#[99]⟩ : ByteArray)] from rfl) (Reps.none _ _)))))); intro v145 w17 ho18 hb hg_ hnew_; clear hg_ hnew_; (first | rw [← Ny144.out] at ho18 | (simp only [Int.reduceToNat] at ho18; rw [← Ny144.out] at ho18)); have n0_ := Aside0.mk (Kd.R_lower ho18 (below_size (by repeat (first | (with_reducible first | exact HB.out | apply below_alloc | apply pw_below_drewN | apply below_drew1) | exact HB.out)))); have n1_ := Aside0.mk (below_step (by repeat (first | (with_reducible first | exact HB.out | apply below_alloc | apply pw_below_drewN | apply below_drew1) | exact HB.out)) hb); clear HB; have HO146 := n0_; have HB := n1_; clear n0_ n1_; clear hb ho18; obtain ⟨Ao19, co19, eo19⟩ := Kd.R_slice HO146.out; subst eo19; have p147 : 0 ≤ ((Go.bits .and .i64 (ji12) 3) : Int) := of_decide_eq_true (by first | (with_reducible assumption) | assumption); have q147 : (Go.bits .and .i64 (ji12) 3) < (y144.length : Int) := of_decide_eq_true (by first | (with_reducible assumption) | assumption); obtain ⟨ad147, e147, hx147_0⟩ := Kd.at_string (Kd.R_reads' HO146.out).2.2 (Go.bits .and .i64 (ji12) 3) p147 q147; cases e147; replace p147 := eq_true p147; replace q147 := eq_true q147))
                      go_roundg k1
                      case measure => have := HK1.out; omega
                      case rel => exact ⟨(((rdOf ByteArray.empty y144 (Go.bits .and .i64 (ji12) 3)) ++ (⟨#[46]⟩ : ByteArray)) ++ x3_1), (wrap64 (x4_1 + 1)), (by first | rfl | (simp; done) | (simp only [← hji12] <;> (first | rfl | simp)) | (simp [*]; done)), (by first | rfl | (simp; done) | (simp [*]; done) | (simp [isEmpty_bne, isEmpty_beq]; done) | (simp [*, isEmpty_bne, isEmpty_beq]; done)), H', ⟨by have := HK1.out; omega⟩, ⟨by repeat (first | (with_reducible first | exact HB.out | apply below_alloc | apply pw_below_drewN | apply below_drew1) | exact HB.out)⟩⟩
                    · rw [if_neg c16] at H
                      exact absurd H (by simp)
                  · rw [if_neg c15] at H
                    exact absurd H (by simp)
                · rw [if_neg c14] at H
                  exact absurd H (by simp)
              · rw [if_neg c13] at H
                exact absurd H (by simp)
            · rw [if_neg c11] at H
              exact absurd H (by simp)
          · rw [if_neg c9] at H
            have c9b0 : decide (x4_1 < (Int.tmod (wrap64 (Int.tdiv t139 2)) 4)) = false := decide_eq_false c9
            clear c9
            obtain rfl := Option.some.inj H
            go_wp2
            go_ret
            exact ⟨by first | rfl | (simp [errW_none, errW_some] <;> rfl) | (simp only [← hji3]; first | rfl | (simp [errW_none, errW_some] <;> rfl)) | (simp [*, errW_none, errW_some] <;> rfl) | (simp [isEmpty_bne, isEmpty_beq, errW_none, errW_some]; done) | (simp [*, isEmpty_bne, isEmpty_beq, errW_none, errW_some]; done), by repeat (first | (with_reducible first | exact HB.out | apply below_alloc | apply pw_below_drewN | apply below_drew1) | exact HB.out)⟩
    · rw [if_neg c5] at H
      exact absurd H (by simp)
  · rw [if_neg c4] at H
    exact absurd H (by simp)

end Go.Proofs.YtmelefiodhnlpaaDoor.BB
