-- Printed for this claim by the kit's print.py over given contracts (wip/myprint.py). Not trusted: Lean checks it.
import Derived.Test.YtmelefiodhnlpaaDoorBCx0
namespace Go.Proofs.YtmelefiodhnlpaaDoor.BC
open Go.RowKit Go.Proofs.YtmelefiodhnlpaaDoorW.PrintWords Go.Proofs.YtmelefiodhnlpaaDoorW.PrintLast Go.Proofs.YtmelefiodhnlpaaDoorW.PrintMore Go.Proofs.YtmelefiodhnlpaaDoor.BB
attribute [local go_sem] max2_int min2_int max_two min_two max_three min_three max_four min_four   -- for this text's walks alone
set_option linter.unusedVariables false
set_option linter.unusedSimpArgs false

/-! ### moatlaw2_DomainPairs: function 5 -/
mutual
def moatlaw2_DomainPairs.j0 : Nat → ByteArray → ByteArray → Bool → Option (Bool)
  | 0, _, _, _ => none
  | k + 1, x7, x8, x44 => if x44 = true then (some false) else ((domain_Under.f x7 x8).bind fun t109 => (if t109 = true then ((domain_Labels.f x8).bind fun t110 => (if (t110.length : Int) ≥ 2 then ((domain_Site.f x7).bind fun t113 => ((domain_Site.f x8).bind fun t114 => (moatlaw2_DomainPairs.j1 k x7 (t113.toList != t114.toList)))) else (moatlaw2_DomainPairs.j1 k x7 false))) else (moatlaw2_DomainPairs.j1 k x7 false)))
def moatlaw2_DomainPairs.j1 : Nat → ByteArray → Bool → Option (Bool)
  | 0, _, _ => none
  | k + 1, x7, x60 => if x60 = true then (some false) else ((domain_Under.f x7 x7).bind fun t115 => (if t115 = true then ((domain_Site.f x7).bind fun t116 => ((domain_Under.f x7 t116).bind fun t117 => (if t117 = true then ((domain_Site.f t116).bind fun t118 => (if t118.toList = t116.toList then ((moatlaw2_awake.f).bind fun t119 => (some t119)) else (some false))) else (some false)))) else (some false)))
end
def moatlaw2_DomainPairs.f (k : Nat) (a0 : Int) (a1 : Int) (a2 : Int) : Option (Bool) := (moatlaw2_host.f k a0).bind fun t101 => ((moatlaw2_host.f k a1).bind fun t102 => ((moatlaw2_host.f k a2).bind fun t103 => ((domain_Under.f t101 t102).bind fun t104 => (if t104 = true then ((domain_Under.f t102 t103).bind fun t105 => (if t105 = true then ((domain_Under.f t101 t103).bind fun t106 => (if t106 = true then ((domain_Under.f t102 t101).bind fun t107 => (if t107 = true then (moatlaw2_DomainPairs.j0 k t101 t102 (t101.toList != t102.toList)) else (moatlaw2_DomainPairs.j0 k t101 t102 false))) else (moatlaw2_DomainPairs.j0 k t101 t102 true))) else ((domain_Under.f t102 t101).bind fun t108 => (if t108 = true then (moatlaw2_DomainPairs.j0 k t101 t102 (t101.toList != t102.toList)) else (moatlaw2_DomainPairs.j0 k t101 t102 false))))) else (moatlaw2_DomainPairs.j0 k t101 t102 false)))))
theorem moatlaw2_DomainPairs.mono_l : ∀ k, (∀ y0 y1 y2, LeO (moatlaw2_DomainPairs.j0 k y0 y1 y2) (moatlaw2_DomainPairs.j0 (k + 1) y0 y1 y2)) ∧ (∀ y0 y1, LeO (moatlaw2_DomainPairs.j1 k y0 y1) (moatlaw2_DomainPairs.j1 (k + 1) y0 y1))
  | 0 => ⟨fun _ _ _ r h => by simp [moatlaw2_DomainPairs.j0] at h, fun _ _ r h => by simp [moatlaw2_DomainPairs.j1] at h⟩
  | k + 1 => by
    obtain ⟨ih0, ih1⟩ := moatlaw2_DomainPairs.mono_l k
    refine ⟨?_, ?_⟩
    · intro y0 y1 y2
      unfold moatlaw2_DomainPairs.j0
      repeat' first
      | (with_reducible exact ih0 _ _ _)
      | (with_reducible exact ih1 _ _)
      | (with_reducible exact moatlaw2_host.mono _ _)
      | (with_reducible exact LeO.refl _)
      | (with_reducible exact LeO.none _)
      | (with_reducible refine LeO.ite ?_ ?_)
      | (with_reducible refine LeO.bind ?_ (fun _ => ?_))
      | exact ih0 _ _ _
      | exact ih1 _ _
      | exact moatlaw2_host.mono _ _
      | exact LeO.none _
      | refine LeO.ite ?_ ?_
      | refine LeO.bind ?_ (fun _ => ?_)
    · intro y0 y1
      unfold moatlaw2_DomainPairs.j1
      repeat' first
      | (with_reducible exact ih0 _ _ _)
      | (with_reducible exact ih1 _ _)
      | (with_reducible exact moatlaw2_host.mono _ _)
      | (with_reducible exact LeO.refl _)
      | (with_reducible exact LeO.none _)
      | (with_reducible refine LeO.ite ?_ ?_)
      | (with_reducible refine LeO.bind ?_ (fun _ => ?_))
      | exact ih0 _ _ _
      | exact ih1 _ _
      | exact moatlaw2_host.mono _ _
      | exact LeO.none _
      | refine LeO.ite ?_ ?_
      | refine LeO.bind ?_ (fun _ => ?_)
theorem moatlaw2_DomainPairs.mono : ∀ a0 a1 a2 k, LeO (moatlaw2_DomainPairs.f k a0 a1 a2) (moatlaw2_DomainPairs.f (k + 1) a0 a1 a2) := by
  intro a0 a1 a2 k
  obtain ⟨ih0, ih1⟩ := moatlaw2_DomainPairs.mono_l k
  unfold moatlaw2_DomainPairs.f
  repeat' first
      | (with_reducible exact ih0 _ _ _)
      | (with_reducible exact ih1 _ _)
      | (with_reducible exact moatlaw2_host.mono _ _)
      | (with_reducible exact LeO.refl _)
      | (with_reducible exact LeO.none _)
      | (with_reducible refine LeO.ite ?_ ?_)
      | (with_reducible refine LeO.bind ?_ (fun _ => ?_))
      | exact ih0 _ _ _
      | exact ih1 _ _
      | exact moatlaw2_host.mono _ _
      | exact LeO.none _
      | refine LeO.ite ?_ ?_
      | refine LeO.bind ?_ (fun _ => ?_)
set_option maxHeartbeats 2000000 in
set_option maxRecDepth 100000 in
theorem moatlaw2_DomainPairs.calls (k : Nat) (a0 : Int) (a1 : Int) (a2 : Int) (r : Bool) (w : World) (h : moatlaw2_DomainPairs.f k a0 a1 a2 = some r) (hrt : r = true) :
    Calls Tryd.prog 5 #[.int .i64 a0, .int .i64 a1, .int .i64 a2] w fun e w' => e = .returned (.bool r) ∧ Below w.heap.size w w' := by
  have HRT := Aside0.mk hrt
  clear hrt
  have HB := Aside0.mk (Below.refl w.heap.size w)
  have H : ((moatlaw2_host.f k a0).bind fun t101 => ((moatlaw2_host.f k a1).bind fun t102 => ((moatlaw2_host.f k a2).bind fun t103 => ((domain_Under.f t101 t102).bind fun t104 => (if t104 = true then ((domain_Under.f t102 t103).bind fun t105 => (if t105 = true then ((domain_Under.f t101 t103).bind fun t106 => (if t106 = true then ((domain_Under.f t102 t101).bind fun t107 => (if t107 = true then (moatlaw2_DomainPairs.j0 k t101 t102 (t101.toList != t102.toList)) else (moatlaw2_DomainPairs.j0 k t101 t102 false))) else (moatlaw2_DomainPairs.j0 k t101 t102 true))) else ((domain_Under.f t102 t101).bind fun t108 => (if t108 = true then (moatlaw2_DomainPairs.j0 k t101 t102 (t101.toList != t102.toList)) else (moatlaw2_DomainPairs.j0 k t101 t102 false))))) else (moatlaw2_DomainPairs.j0 k t101 t102 false)))))) = some r := h
  clear h
  replace H := Option.bind_eq_some_iff.mp H
  obtain ⟨t101, A40, H⟩ := H
  replace H : ((moatlaw2_host.f k a1).bind fun t102 => ((moatlaw2_host.f k a2).bind fun t103 => ((domain_Under.f t101 t102).bind fun t104 => (if t104 = true then ((domain_Under.f t102 t103).bind fun t105 => (if t105 = true then ((domain_Under.f t101 t103).bind fun t106 => (if t106 = true then ((domain_Under.f t102 t101).bind fun t107 => (if t107 = true then (moatlaw2_DomainPairs.j0 k t101 t102 (t101.toList != t102.toList)) else (moatlaw2_DomainPairs.j0 k t101 t102 false))) else (moatlaw2_DomainPairs.j0 k t101 t102 true))) else ((domain_Under.f t102 t101).bind fun t108 => (if t108 = true then (moatlaw2_DomainPairs.j0 k t101 t102 (t101.toList != t102.toList)) else (moatlaw2_DomainPairs.j0 k t101 t102 false))))) else (moatlaw2_DomainPairs.j0 k t101 t102 false))))) = some r := H
  have A4 := Aside0.mk A40
  clear A40
  replace H := Option.bind_eq_some_iff.mp H
  obtain ⟨t102, A50, H⟩ := H
  replace H : ((moatlaw2_host.f k a2).bind fun t103 => ((domain_Under.f t101 t102).bind fun t104 => (if t104 = true then ((domain_Under.f t102 t103).bind fun t105 => (if t105 = true then ((domain_Under.f t101 t103).bind fun t106 => (if t106 = true then ((domain_Under.f t102 t101).bind fun t107 => (if t107 = true then (moatlaw2_DomainPairs.j0 k t101 t102 (t101.toList != t102.toList)) else (moatlaw2_DomainPairs.j0 k t101 t102 false))) else (moatlaw2_DomainPairs.j0 k t101 t102 true))) else ((domain_Under.f t102 t101).bind fun t108 => (if t108 = true then (moatlaw2_DomainPairs.j0 k t101 t102 (t101.toList != t102.toList)) else (moatlaw2_DomainPairs.j0 k t101 t102 false))))) else (moatlaw2_DomainPairs.j0 k t101 t102 false)))) = some r := H
  have A5 := Aside0.mk A50
  clear A50
  replace H := Option.bind_eq_some_iff.mp H
  obtain ⟨t103, A60, H⟩ := H
  replace H : ((domain_Under.f t101 t102).bind fun t104 => (if t104 = true then ((domain_Under.f t102 t103).bind fun t105 => (if t105 = true then ((domain_Under.f t101 t103).bind fun t106 => (if t106 = true then ((domain_Under.f t102 t101).bind fun t107 => (if t107 = true then (moatlaw2_DomainPairs.j0 k t101 t102 (t101.toList != t102.toList)) else (moatlaw2_DomainPairs.j0 k t101 t102 false))) else (moatlaw2_DomainPairs.j0 k t101 t102 true))) else ((domain_Under.f t102 t101).bind fun t108 => (if t108 = true then (moatlaw2_DomainPairs.j0 k t101 t102 (t101.toList != t102.toList)) else (moatlaw2_DomainPairs.j0 k t101 t102 false))))) else (moatlaw2_DomainPairs.j0 k t101 t102 false))) = some r := H
  have A6 := Aside0.mk A60
  clear A60
  have HC7 := Aside0.mk H
  clear H
  go_enter Tryd.func5, Tryd.ntmps5
  go_upto_region 2 with (first | ((with_reducible refine gate_callee (f := 17) rfl ?_); refine goesL_ (some 11) rfl rfl Tryd.func17 (by kernel_rfl) rfl #[.int .i64 a0] rfl (by (try simp only [List.map_toArray, List.map_cons, List.map_nil]); first | done | rfl | (simp only [List.length_drop, List.length_take]; rfl)) ?_; (with_reducible refine (moatlaw2_host.calls k a0 t101 _ A4.out).mono ?_); rintro e w8 ⟨rfl, hb⟩; refine ⟨_, rfl, ?_⟩; have n0_ := Aside0.mk (below_step (by repeat (first | (with_reducible first | exact HB.out | apply below_alloc | apply pw_below_drewN | apply below_drew1) | exact HB.out)) hb); clear HB; have HB := n0_; clear n0_; (try clear hb); (try clear hb2); (try clear hk); (try clear hi)) | ((with_reducible refine gate_callee (f := 17) rfl ?_); refine goesL_ (some 13) rfl rfl Tryd.func17 (by kernel_rfl) rfl #[.int .i64 a1] rfl (by (try simp only [List.map_toArray, List.map_cons, List.map_nil]); first | done | rfl | (simp only [List.length_drop, List.length_take]; rfl)) ?_; (with_reducible refine (moatlaw2_host.calls k a1 t102 _ A5.out).mono ?_); rintro e w9 ⟨rfl, hb⟩; refine ⟨_, rfl, ?_⟩; have n0_ := Aside0.mk (below_step (by repeat (first | (with_reducible first | exact HB.out | apply below_alloc | apply pw_below_drewN | apply below_drew1) | exact HB.out)) hb); clear HB; have HB := n0_; clear n0_; (try clear hb); (try clear hb2); (try clear hk); (try clear hi)) | ((with_reducible refine gate_callee (f := 17) rfl ?_); refine goesL_ (some 15) rfl rfl Tryd.func17 (by kernel_rfl) rfl #[.int .i64 a2] rfl (by (try simp only [List.map_toArray, List.map_cons, List.map_nil]); first | done | rfl | (simp only [List.length_drop, List.length_take]; rfl)) ?_; (with_reducible refine (moatlaw2_host.calls k a2 t103 _ A6.out).mono ?_); rintro e w10 ⟨rfl, hb⟩; refine ⟨_, rfl, ?_⟩; have n0_ := Aside0.mk (below_step (by repeat (first | (with_reducible first | exact HB.out | apply below_alloc | apply pw_below_drewN | apply below_drew1) | exact HB.out)) hb); clear HB; have HB := n0_; clear n0_; (try clear hb); (try clear hb2); (try clear hk); (try clear hi)))
  (try simp only [Act.put, List.setIfInBounds_toArray, List.set_cons_zero, List.set_cons_succ])
  go_cut [44] (fun v44 wc => ∃ (kq : Nat) (x44_6 : Bool), v44 = .bool x44_6 ∧ Aside0 (moatlaw2_DomainPairs.j0 kq t101 t102 x44_6 = some r) ∧ Aside0 (kq ≤ k) ∧ Aside0 (Below w.heap.size w wc))
  case first =>
    have H := HC7.out
    clear HC7
    replace H := Option.bind_eq_some_iff.mp H
    obtain ⟨t104, A110, H⟩ := H
    replace H : (if t104 = true then ((domain_Under.f t102 t103).bind fun t105 => (if t105 = true then ((domain_Under.f t101 t103).bind fun t106 => (if t106 = true then ((domain_Under.f t102 t101).bind fun t107 => (if t107 = true then (moatlaw2_DomainPairs.j0 k t101 t102 (t101.toList != t102.toList)) else (moatlaw2_DomainPairs.j0 k t101 t102 false))) else (moatlaw2_DomainPairs.j0 k t101 t102 true))) else ((domain_Under.f t102 t101).bind fun t108 => (if t108 = true then (moatlaw2_DomainPairs.j0 k t101 t102 (t101.toList != t102.toList)) else (moatlaw2_DomainPairs.j0 k t101 t102 false))))) else (moatlaw2_DomainPairs.j0 k t101 t102 false)) = some r := H
    have A11 := Aside0.mk A110
    clear A110
    by_cases c12 : t104 = true
    · subst c12
      have H1 : ((domain_Under.f t102 t103).bind fun t105 => (if t105 = true then ((domain_Under.f t101 t103).bind fun t106 => (if t106 = true then ((domain_Under.f t102 t101).bind fun t107 => (if t107 = true then (moatlaw2_DomainPairs.j0 k t101 t102 (t101.toList != t102.toList)) else (moatlaw2_DomainPairs.j0 k t101 t102 false))) else (moatlaw2_DomainPairs.j0 k t101 t102 true))) else ((domain_Under.f t102 t101).bind fun t108 => (if t108 = true then (moatlaw2_DomainPairs.j0 k t101 t102 (t101.toList != t102.toList)) else (moatlaw2_DomainPairs.j0 k t101 t102 false))))) = some r := by rw [if_pos rfl] at H; exact H
      clear H
      have H := H1
      clear H1
      replace H := Option.bind_eq_some_iff.mp H
      obtain ⟨t105, A130, H⟩ := H
      replace H : (if t105 = true then ((domain_Under.f t101 t103).bind fun t106 => (if t106 = true then ((domain_Under.f t102 t101).bind fun t107 => (if t107 = true then (moatlaw2_DomainPairs.j0 k t101 t102 (t101.toList != t102.toList)) else (moatlaw2_DomainPairs.j0 k t101 t102 false))) else (moatlaw2_DomainPairs.j0 k t101 t102 true))) else ((domain_Under.f t102 t101).bind fun t108 => (if t108 = true then (moatlaw2_DomainPairs.j0 k t101 t102 (t101.toList != t102.toList)) else (moatlaw2_DomainPairs.j0 k t101 t102 false)))) = some r := H
      have A13 := Aside0.mk A130
      clear A130
      by_cases c14 : t105 = true
      · subst c14
        have H1 : ((domain_Under.f t101 t103).bind fun t106 => (if t106 = true then ((domain_Under.f t102 t101).bind fun t107 => (if t107 = true then (moatlaw2_DomainPairs.j0 k t101 t102 (t101.toList != t102.toList)) else (moatlaw2_DomainPairs.j0 k t101 t102 false))) else (moatlaw2_DomainPairs.j0 k t101 t102 true))) = some r := by rw [if_pos rfl] at H; exact H
        clear H
        have H := H1
        clear H1
        replace H := Option.bind_eq_some_iff.mp H
        obtain ⟨t106, A150, H⟩ := H
        replace H : (if t106 = true then ((domain_Under.f t102 t101).bind fun t107 => (if t107 = true then (moatlaw2_DomainPairs.j0 k t101 t102 (t101.toList != t102.toList)) else (moatlaw2_DomainPairs.j0 k t101 t102 false))) else (moatlaw2_DomainPairs.j0 k t101 t102 true)) = some r := H
        have A15 := Aside0.mk A150
        clear A150
        by_cases c16 : t106 = true
        · subst c16
          have H1 : ((domain_Under.f t102 t101).bind fun t107 => (if t107 = true then (moatlaw2_DomainPairs.j0 k t101 t102 (t101.toList != t102.toList)) else (moatlaw2_DomainPairs.j0 k t101 t102 false))) = some r := by rw [if_pos rfl] at H; exact H
          clear H
          have H := H1
          clear H1
          replace H := Option.bind_eq_some_iff.mp H
          obtain ⟨t107, A170, H⟩ := H
          replace H : (if t107 = true then (moatlaw2_DomainPairs.j0 k t101 t102 (t101.toList != t102.toList)) else (moatlaw2_DomainPairs.j0 k t101 t102 false)) = some r := H
          have A17 := Aside0.mk A170
          clear A170
          by_cases c18 : t107 = true
          · subst c18
            have H1 : (moatlaw2_DomainPairs.j0 k t101 t102 (t101.toList != t102.toList)) = some r := by rw [if_pos rfl] at H; exact H
            clear H
            have H := H1
            clear H1
            have H' := Aside0.mk H
            clear H
            go_wp2_with (first | ((with_reducible refine gate_callee (f := 13) rfl ?_); refine goesL_ (some 18) rfl rfl Tryd.func13 (by kernel_rfl) rfl #[.string t101, .string t102] rfl (by (try simp only [List.map_toArray, List.map_cons, List.map_nil]); first | done | rfl | (simp only [List.length_drop, List.length_take]; rfl)) ?_; (with_reducible refine (domain_Under.calls t101 t102 true _ A11.out).mono ?_); rintro e w19 ⟨rfl, hb⟩; refine ⟨_, rfl, ?_⟩; have n0_ := Aside0.mk (below_step (by repeat (first | (with_reducible first | exact HB.out | apply below_alloc | apply pw_below_drewN | apply below_drew1) | exact HB.out)) hb); clear HB; have HB := n0_; clear n0_; (try clear hb); (try clear hb2); (try clear hk); (try clear hi)) | (go_at_call 13; (with_reducible refine (domain_Under.calls t102 t103 true _ A13.out).mono ?_); rintro e w20 ⟨rfl, hb⟩; have n0_ := Aside0.mk (below_step (by repeat (first | (with_reducible first | exact HB.out | apply below_alloc | apply pw_below_drewN | apply below_drew1) | exact HB.out)) hb); clear HB; have HB := n0_; clear n0_; (try clear hb); (try clear hb2); (try clear hk); (try clear hi)) | (go_at_call 13; (with_reducible refine (domain_Under.calls t101 t103 true _ A15.out).mono ?_); rintro e w21 ⟨rfl, hb⟩; have n0_ := Aside0.mk (below_step (by repeat (first | (with_reducible first | exact HB.out | apply below_alloc | apply pw_below_drewN | apply below_drew1) | exact HB.out)) hb); clear HB; have HB := n0_; clear n0_; (try clear hb); (try clear hb2); (try clear hk); (try clear hi)) | (go_at_call 13; (with_reducible refine (domain_Under.calls t101 t102 true _ A11.out).mono ?_); rintro e w22 ⟨rfl, hb⟩; have n0_ := Aside0.mk (below_step (by repeat (first | (with_reducible first | exact HB.out | apply below_alloc | apply pw_below_drewN | apply below_drew1) | exact HB.out)) hb); clear HB; have HB := n0_; clear n0_; (try clear hb); (try clear hb2); (try clear hk); (try clear hi)) | (go_at_call 13; (with_reducible refine (domain_Under.calls t102 t101 true _ A17.out).mono ?_); rintro e w23 ⟨rfl, hb⟩; have n0_ := Aside0.mk (below_step (by repeat (first | (with_reducible first | exact HB.out | apply below_alloc | apply pw_below_drewN | apply below_drew1) | exact HB.out)) hb); clear HB; have HB := n0_; clear n0_; (try clear hb); (try clear hb2); (try clear hk); (try clear hi)))
            go_meet
            case rel => exact ⟨_, ((t101.toList != t102.toList)), (by first | rfl | (simp; done) | (simp [*]; done) | (simp [isEmpty_bne, isEmpty_beq]; done) | (simp [*, isEmpty_bne, isEmpty_beq]; done)), H', ⟨by first | omega | exact Nat.le_refl _⟩, ⟨by repeat (first | (with_reducible first | exact HB.out | apply below_alloc | apply pw_below_drewN | apply below_drew1) | exact HB.out)⟩⟩
          · replace c18 := Bool.eq_false_iff.mpr c18
            subst c18
            have H1 : (moatlaw2_DomainPairs.j0 k t101 t102 false) = some r := by rw [if_neg (show ¬ (false = true) by decide)] at H; exact H
            clear H
            have H := H1
            clear H1
            have H' := Aside0.mk H
            clear H
            go_wp2_with (first | ((with_reducible refine gate_callee (f := 13) rfl ?_); refine goesL_ (some 18) rfl rfl Tryd.func13 (by kernel_rfl) rfl #[.string t101, .string t102] rfl (by (try simp only [List.map_toArray, List.map_cons, List.map_nil]); first | done | rfl | (simp only [List.length_drop, List.length_take]; rfl)) ?_; (with_reducible refine (domain_Under.calls t101 t102 true _ A11.out).mono ?_); rintro e w24 ⟨rfl, hb⟩; refine ⟨_, rfl, ?_⟩; have n0_ := Aside0.mk (below_step (by repeat (first | (with_reducible first | exact HB.out | apply below_alloc | apply pw_below_drewN | apply below_drew1) | exact HB.out)) hb); clear HB; have HB := n0_; clear n0_; (try clear hb); (try clear hb2); (try clear hk); (try clear hi)) | (go_at_call 13; (with_reducible refine (domain_Under.calls t102 t103 true _ A13.out).mono ?_); rintro e w25 ⟨rfl, hb⟩; have n0_ := Aside0.mk (below_step (by repeat (first | (with_reducible first | exact HB.out | apply below_alloc | apply pw_below_drewN | apply below_drew1) | exact HB.out)) hb); clear HB; have HB := n0_; clear n0_; (try clear hb); (try clear hb2); (try clear hk); (try clear hi)) | (go_at_call 13; (with_reducible refine (domain_Under.calls t101 t103 true _ A15.out).mono ?_); rintro e w26 ⟨rfl, hb⟩; have n0_ := Aside0.mk (below_step (by repeat (first | (with_reducible first | exact HB.out | apply below_alloc | apply pw_below_drewN | apply below_drew1) | exact HB.out)) hb); clear HB; have HB := n0_; clear n0_; (try clear hb); (try clear hb2); (try clear hk); (try clear hi)) | (go_at_call 13; (with_reducible refine (domain_Under.calls t101 t102 true _ A11.out).mono ?_); rintro e w27 ⟨rfl, hb⟩; have n0_ := Aside0.mk (below_step (by repeat (first | (with_reducible first | exact HB.out | apply below_alloc | apply pw_below_drewN | apply below_drew1) | exact HB.out)) hb); clear HB; have HB := n0_; clear n0_; (try clear hb); (try clear hb2); (try clear hk); (try clear hi)) | (go_at_call 13; (with_reducible refine (domain_Under.calls t102 t101 false _ A17.out).mono ?_); rintro e w28 ⟨rfl, hb⟩; have n0_ := Aside0.mk (below_step (by repeat (first | (with_reducible first | exact HB.out | apply below_alloc | apply pw_below_drewN | apply below_drew1) | exact HB.out)) hb); clear HB; have HB := n0_; clear n0_; (try clear hb); (try clear hb2); (try clear hk); (try clear hi)))
            go_meet
            case rel => exact ⟨_, (false), (by first | rfl | (simp; done) | (simp [*]; done) | (simp [isEmpty_bne, isEmpty_beq]; done) | (simp [*, isEmpty_bne, isEmpty_beq]; done)), H', ⟨by first | omega | exact Nat.le_refl _⟩, ⟨by repeat (first | (with_reducible first | exact HB.out | apply below_alloc | apply pw_below_drewN | apply below_drew1) | exact HB.out)⟩⟩
        · replace c16 := Bool.eq_false_iff.mpr c16
          subst c16
          have H1 : (moatlaw2_DomainPairs.j0 k t101 t102 true) = some r := by rw [if_neg (show ¬ (false = true) by decide)] at H; exact H
          clear H
          have H := H1
          clear H1
          have H' := Aside0.mk H
          clear H
          go_wp2_with (first | ((with_reducible refine gate_callee (f := 13) rfl ?_); refine goesL_ (some 18) rfl rfl Tryd.func13 (by kernel_rfl) rfl #[.string t101, .string t102] rfl (by (try simp only [List.map_toArray, List.map_cons, List.map_nil]); first | done | rfl | (simp only [List.length_drop, List.length_take]; rfl)) ?_; (with_reducible refine (domain_Under.calls t101 t102 true _ A11.out).mono ?_); rintro e w29 ⟨rfl, hb⟩; refine ⟨_, rfl, ?_⟩; have n0_ := Aside0.mk (below_step (by repeat (first | (with_reducible first | exact HB.out | apply below_alloc | apply pw_below_drewN | apply below_drew1) | exact HB.out)) hb); clear HB; have HB := n0_; clear n0_; (try clear hb); (try clear hb2); (try clear hk); (try clear hi)) | (go_at_call 13; (with_reducible refine (domain_Under.calls t102 t103 true _ A13.out).mono ?_); rintro e w30 ⟨rfl, hb⟩; have n0_ := Aside0.mk (below_step (by repeat (first | (with_reducible first | exact HB.out | apply below_alloc | apply pw_below_drewN | apply below_drew1) | exact HB.out)) hb); clear HB; have HB := n0_; clear n0_; (try clear hb); (try clear hb2); (try clear hk); (try clear hi)) | (go_at_call 13; (with_reducible refine (domain_Under.calls t101 t103 false _ A15.out).mono ?_); rintro e w31 ⟨rfl, hb⟩; have n0_ := Aside0.mk (below_step (by repeat (first | (with_reducible first | exact HB.out | apply below_alloc | apply pw_below_drewN | apply below_drew1) | exact HB.out)) hb); clear HB; have HB := n0_; clear n0_; (try clear hb); (try clear hb2); (try clear hk); (try clear hi)))
          go_meet
          case rel => exact ⟨_, (true), (by first | rfl | (simp; done) | (simp [*]; done) | (simp [isEmpty_bne, isEmpty_beq]; done) | (simp [*, isEmpty_bne, isEmpty_beq]; done)), H', ⟨by first | omega | exact Nat.le_refl _⟩, ⟨by repeat (first | (with_reducible first | exact HB.out | apply below_alloc | apply pw_below_drewN | apply below_drew1) | exact HB.out)⟩⟩
      · replace c14 := Bool.eq_false_iff.mpr c14
        subst c14
        have H1 : ((domain_Under.f t102 t101).bind fun t108 => (if t108 = true then (moatlaw2_DomainPairs.j0 k t101 t102 (t101.toList != t102.toList)) else (moatlaw2_DomainPairs.j0 k t101 t102 false))) = some r := by rw [if_neg (show ¬ (false = true) by decide)] at H; exact H
        clear H
        have H := H1
        clear H1
        replace H := Option.bind_eq_some_iff.mp H
        obtain ⟨t108, A320, H⟩ := H
        replace H : (if t108 = true then (moatlaw2_DomainPairs.j0 k t101 t102 (t101.toList != t102.toList)) else (moatlaw2_DomainPairs.j0 k t101 t102 false)) = some r := H
        have A32 := Aside0.mk A320
        clear A320
        by_cases c33 : t108 = true
        · subst c33
          have H1 : (moatlaw2_DomainPairs.j0 k t101 t102 (t101.toList != t102.toList)) = some r := by rw [if_pos rfl] at H; exact H
          clear H
          have H := H1
          clear H1
          have H' := Aside0.mk H
          clear H
          go_wp2_with (first | ((with_reducible refine gate_callee (f := 13) rfl ?_); refine goesL_ (some 18) rfl rfl Tryd.func13 (by kernel_rfl) rfl #[.string t101, .string t102] rfl (by (try simp only [List.map_toArray, List.map_cons, List.map_nil]); first | done | rfl | (simp only [List.length_drop, List.length_take]; rfl)) ?_; (with_reducible refine (domain_Under.calls t101 t102 true _ A11.out).mono ?_); rintro e w34 ⟨rfl, hb⟩; refine ⟨_, rfl, ?_⟩; have n0_ := Aside0.mk (below_step (by repeat (first | (with_reducible first | exact HB.out | apply below_alloc | apply pw_below_drewN | apply below_drew1) | exact HB.out)) hb); clear HB; have HB := n0_; clear n0_; (try clear hb); (try clear hb2); (try clear hk); (try clear hi)) | (go_at_call 13; (with_reducible refine (domain_Under.calls t102 t103 false _ A13.out).mono ?_); rintro e w35 ⟨rfl, hb⟩; have n0_ := Aside0.mk (below_step (by repeat (first | (with_reducible first | exact HB.out | apply below_alloc | apply pw_below_drewN | apply below_drew1) | exact HB.out)) hb); clear HB; have HB := n0_; clear n0_; (try clear hb); (try clear hb2); (try clear hk); (try clear hi)) | (go_at_call 13; (with_reducible refine (domain_Under.calls t101 t102 true _ A11.out).mono ?_); rintro e w36 ⟨rfl, hb⟩; have n0_ := Aside0.mk (below_step (by repeat (first | (with_reducible first | exact HB.out | apply below_alloc | apply pw_below_drewN | apply below_drew1) | exact HB.out)) hb); clear HB; have HB := n0_; clear n0_; (try clear hb); (try clear hb2); (try clear hk); (try clear hi)) | (go_at_call 13; (with_reducible refine (domain_Under.calls t102 t101 true _ A32.out).mono ?_); rintro e w37 ⟨rfl, hb⟩; have n0_ := Aside0.mk (below_step (by repeat (first | (with_reducible first | exact HB.out | apply below_alloc | apply pw_below_drewN | apply below_drew1) | exact HB.out)) hb); clear HB; have HB := n0_; clear n0_; (try clear hb); (try clear hb2); (try clear hk); (try clear hi)))
          go_meet
          case rel => exact ⟨_, ((t101.toList != t102.toList)), (by first | rfl | (simp; done) | (simp [*]; done) | (simp [isEmpty_bne, isEmpty_beq]; done) | (simp [*, isEmpty_bne, isEmpty_beq]; done)), H', ⟨by first | omega | exact Nat.le_refl _⟩, ⟨by repeat (first | (with_reducible first | exact HB.out | apply below_alloc | apply pw_below_drewN | apply below_drew1) | exact HB.out)⟩⟩
        · replace c33 := Bool.eq_false_iff.mpr c33
          subst c33
          have H1 : (moatlaw2_DomainPairs.j0 k t101 t102 false) = some r := by rw [if_neg (show ¬ (false = true) by decide)] at H; exact H
          clear H
          have H := H1
          clear H1
          have H' := Aside0.mk H
          clear H
          go_wp2_with (first | ((with_reducible refine gate_callee (f := 13) rfl ?_); refine goesL_ (some 18) rfl rfl Tryd.func13 (by kernel_rfl) rfl #[.string t101, .string t102] rfl (by (try simp only [List.map_toArray, List.map_cons, List.map_nil]); first | done | rfl | (simp only [List.length_drop, List.length_take]; rfl)) ?_; (with_reducible refine (domain_Under.calls t101 t102 true _ A11.out).mono ?_); rintro e w38 ⟨rfl, hb⟩; refine ⟨_, rfl, ?_⟩; have n0_ := Aside0.mk (below_step (by repeat (first | (with_reducible first | exact HB.out | apply below_alloc | apply pw_below_drewN | apply below_drew1) | exact HB.out)) hb); clear HB; have HB := n0_; clear n0_; (try clear hb); (try clear hb2); (try clear hk); (try clear hi)) | (go_at_call 13; (with_reducible refine (domain_Under.calls t102 t103 false _ A13.out).mono ?_); rintro e w39 ⟨rfl, hb⟩; have n0_ := Aside0.mk (below_step (by repeat (first | (with_reducible first | exact HB.out | apply below_alloc | apply pw_below_drewN | apply below_drew1) | exact HB.out)) hb); clear HB; have HB := n0_; clear n0_; (try clear hb); (try clear hb2); (try clear hk); (try clear hi)) | (go_at_call 13; (with_reducible refine (domain_Under.calls t101 t102 true _ A11.out).mono ?_); rintro e w40 ⟨rfl, hb⟩; have n0_ := Aside0.mk (below_step (by repeat (first | (with_reducible first | exact HB.out | apply below_alloc | apply pw_below_drewN | apply below_drew1) | exact HB.out)) hb); clear HB; have HB := n0_; clear n0_; (try clear hb); (try clear hb2); (try clear hk); (try clear hi)) | (go_at_call 13; (with_reducible refine (domain_Under.calls t102 t101 false _ A32.out).mono ?_); rintro e w41 ⟨rfl, hb⟩; have n0_ := Aside0.mk (below_step (by repeat (first | (with_reducible first | exact HB.out | apply below_alloc | apply pw_below_drewN | apply below_drew1) | exact HB.out)) hb); clear HB; have HB := n0_; clear n0_; (try clear hb); (try clear hb2); (try clear hk); (try clear hi)))
          go_meet
          case rel => exact ⟨_, (false), (by first | rfl | (simp; done) | (simp [*]; done) | (simp [isEmpty_bne, isEmpty_beq]; done) | (simp [*, isEmpty_bne, isEmpty_beq]; done)), H', ⟨by first | omega | exact Nat.le_refl _⟩, ⟨by repeat (first | (with_reducible first | exact HB.out | apply below_alloc | apply pw_below_drewN | apply below_drew1) | exact HB.out)⟩⟩
    · replace c12 := Bool.eq_false_iff.mpr c12
      subst c12
      have H1 : (moatlaw2_DomainPairs.j0 k t101 t102 false) = some r := by rw [if_neg (show ¬ (false = true) by decide)] at H; exact H
      clear H
      have H := H1
      clear H1
      have H' := Aside0.mk H
      clear H
      go_wp2_with (first | ((with_reducible refine gate_callee (f := 13) rfl ?_); refine goesL_ (some 18) rfl rfl Tryd.func13 (by kernel_rfl) rfl #[.string t101, .string t102] rfl (by (try simp only [List.map_toArray, List.map_cons, List.map_nil]); first | done | rfl | (simp only [List.length_drop, List.length_take]; rfl)) ?_; (with_reducible refine (domain_Under.calls t101 t102 false _ A11.out).mono ?_); rintro e w42 ⟨rfl, hb⟩; refine ⟨_, rfl, ?_⟩; have n0_ := Aside0.mk (below_step (by repeat (first | (with_reducible first | exact HB.out | apply below_alloc | apply pw_below_drewN | apply below_drew1) | exact HB.out)) hb); clear HB; have HB := n0_; clear n0_; (try clear hb); (try clear hb2); (try clear hk); (try clear hi)) | (go_at_call 13; (with_reducible refine (domain_Under.calls t101 t102 false _ A11.out).mono ?_); rintro e w43 ⟨rfl, hb⟩; have n0_ := Aside0.mk (below_step (by repeat (first | (with_reducible first | exact HB.out | apply below_alloc | apply pw_below_drewN | apply below_drew1) | exact HB.out)) hb); clear HB; have HB := n0_; clear n0_; (try clear hb); (try clear hb2); (try clear hk); (try clear hi)))
      go_meet
      case rel => exact ⟨_, (false), (by first | rfl | (simp; done) | (simp [*]; done) | (simp [isEmpty_bne, isEmpty_beq]; done) | (simp [*, isEmpty_bne, isEmpty_beq]; done)), H', ⟨by first | omega | exact Nat.le_refl _⟩, ⟨by repeat (first | (with_reducible first | exact HB.out | apply below_alloc | apply pw_below_drewN | apply below_drew1) | exact HB.out)⟩⟩
  case rest =>
    clear HC7
    try clear c1
    try clear p2
    try clear c3
    try clear c5
    try clear c12
    try clear c13
    try clear c14
    try clear c16
    try clear c17
    try clear c18
    try clear c33
    obtain ⟨kq, x44_6, rfl, HA, HJ6, HB⟩ := hcut
    cases kq with
    | zero => exact absurd HA.out (by simp [moatlaw2_DomainPairs.j0])
    | succ kj6 =>
      have H := HA.out
      clear HA
      simp only [moatlaw2_DomainPairs.j0] at H
      by_cases c44 : x44_6 = true
      · subst c44
        have H1 : (some false) = some r := by rw [if_pos rfl] at H; exact H
        clear H
        have H := H1
        clear H1
        cases (Option.some.inj H).trans HRT.out
      · replace c44 := Bool.eq_false_iff.mpr c44
        subst c44
        have H1 : ((domain_Under.f t101 t102).bind fun t109 => (if t109 = true then ((domain_Labels.f t102).bind fun t110 => (if (t110.length : Int) ≥ 2 then ((domain_Site.f t101).bind fun t113 => ((domain_Site.f t102).bind fun t114 => (moatlaw2_DomainPairs.j1 kj6 t101 (t113.toList != t114.toList)))) else (moatlaw2_DomainPairs.j1 kj6 t101 false))) else (moatlaw2_DomainPairs.j1 kj6 t101 false))) = some r := by rw [if_neg (show ¬ (false = true) by decide)] at H; exact H
        clear H
        have H := H1
        clear H1
        have HC45 := Aside0.mk H
        clear H
        go_upto_region 4 with (fail)
        go_cut [60] (fun v60 wc => ∃ (kq : Nat) (x60_44 : Bool), v60 = .bool x60_44 ∧ Aside0 (moatlaw2_DomainPairs.j1 kq t101 x60_44 = some r) ∧ Aside0 (kq ≤ kj6) ∧ Aside0 (Below w.heap.size w wc))
        case first =>
          have H := HC45.out
          clear HC45
          replace H := Option.bind_eq_some_iff.mp H
          obtain ⟨t109, A460, H⟩ := H
          replace H : (if t109 = true then ((domain_Labels.f t102).bind fun t110 => (if (t110.length : Int) ≥ 2 then ((domain_Site.f t101).bind fun t113 => ((domain_Site.f t102).bind fun t114 => (moatlaw2_DomainPairs.j1 kj6 t101 (t113.toList != t114.toList)))) else (moatlaw2_DomainPairs.j1 kj6 t101 false))) else (moatlaw2_DomainPairs.j1 kj6 t101 false)) = some r := H
          have A46 := Aside0.mk A460
          clear A460
          by_cases c47 : t109 = true
          · subst c47
            have H1 : ((domain_Labels.f t102).bind fun t110 => (if (t110.length : Int) ≥ 2 then ((domain_Site.f t101).bind fun t113 => ((domain_Site.f t102).bind fun t114 => (moatlaw2_DomainPairs.j1 kj6 t101 (t113.toList != t114.toList)))) else (moatlaw2_DomainPairs.j1 kj6 t101 false))) = some r := by rw [if_pos rfl] at H; exact H
            clear H
            have H := H1
            clear H1
            replace H := Option.bind_eq_some_iff.mp H
            obtain ⟨t110, A480, H⟩ := H
            replace H : (if (t110.length : Int) ≥ 2 then ((domain_Site.f t101).bind fun t113 => ((domain_Site.f t102).bind fun t114 => (moatlaw2_DomainPairs.j1 kj6 t101 (t113.toList != t114.toList)))) else (moatlaw2_DomainPairs.j1 kj6 t101 false)) = some r := H
            have A48 := Aside0.mk A480
            clear A480
            by_cases c49 : (t110.length : Int) ≥ 2
            · rw [if_pos c49] at H
              have c49b0 : decide (2 ≤ (t110.length : Int)) = true := decide_eq_true c49
              have c49b1 : decide (2 ≤ t110.length) = true := decide_eq_true (by omega)
              clear c49
              (first | rw [c49b0] | (simp only [i64_w, i32_w]; rw [c49b0]) | skip)
              replace H := Option.bind_eq_some_iff.mp H
              obtain ⟨t113, A500, H⟩ := H
              replace H : ((domain_Site.f t102).bind fun t114 => (moatlaw2_DomainPairs.j1 kj6 t101 (t113.toList != t114.toList))) = some r := H
              have A50 := Aside0.mk A500
              clear A500
              replace H := Option.bind_eq_some_iff.mp H
              obtain ⟨t114, A510, H⟩ := H
              replace H : (moatlaw2_DomainPairs.j1 kj6 t101 (t113.toList != t114.toList)) = some r := H
              have A51 := Aside0.mk A510
              clear A510
              have H' := Aside0.mk H
              clear H
              go_wp2_with (first | ((with_reducible refine gate_callee (f := 13) rfl ?_); refine goesL_ (some 47) rfl rfl Tryd.func13 (by kernel_rfl) rfl #[.string t101, .string t102] rfl (by (try simp only [List.map_toArray, List.map_cons, List.map_nil]); first | done | rfl | (simp only [List.length_drop, List.length_take]; rfl)) ?_; (with_reducible refine (domain_Under.calls t101 t102 true _ A46.out).mono ?_); rintro e w52 ⟨rfl, hb⟩; refine ⟨_, rfl, ?_⟩; have n0_ := Aside0.mk (below_step (by repeat (first | (with_reducible first | exact HB.out | apply below_alloc | apply pw_below_drewN | apply below_drew1) | exact HB.out)) hb); clear HB; have HB := n0_; clear n0_; (try clear hb); (try clear hb2); (try clear hk); (try clear hi)) | (go_at_call 15; (with_reducible refine (domain_Labels.calls t102 t110 _ A48.out).mono ?_); rintro e w53 ⟨v111, rfl, ho0, hb⟩; have n0_ := Aside0.mk (Kd.R_lower ho0 (below_size (by repeat (first | (with_reducible first | exact HB.out | apply below_alloc | apply pw_below_drewN | apply below_drew1) | exact HB.out)))); have n1_ := Aside0.mk (below_step (by repeat (first | (with_reducible first | exact HB.out | apply below_alloc | apply pw_below_drewN | apply below_drew1) | exact HB.out)) hb); clear HB; have HO112 := n0_; have HB := n1_; clear n0_ n1_; (try clear hb); (try clear hb2); (try clear hk); (try clear hi); (try clear ho0); obtain ⟨Ao54, co54, eo54⟩ := Kd.R_slice HO112.out; subst eo54) | (go_at_call 14; (with_reducible refine (domain_Site.calls t101 t113 _ A50.out).mono ?_); rintro e w55 ⟨rfl, hb⟩; have n0_ := Aside0.mk (Kd.R_below (by (with_reducible repeat (first | apply Kd.R_alloc | apply Kd.R_drewN | apply Kd.R_drew)); exact HO112.out) hb); have n1_ := Aside0.mk (below_step (by repeat (first | (with_reducible first | exact HB.out | apply below_alloc | apply pw_below_drewN | apply below_drew1) | exact HB.out)) hb); clear HO112; clear HB; have HO112 := n0_; have HB := n1_; clear n0_ n1_; (try clear hb); (try clear hb2); (try clear hk); (try clear hi)) | (go_at_call 14; (with_reducible refine (domain_Site.calls t102 t114 _ A51.out).mono ?_); rintro e w56 ⟨rfl, hb⟩; have n0_ := Aside0.mk (Kd.R_below (by (with_reducible repeat (first | apply Kd.R_alloc | apply Kd.R_drewN | apply Kd.R_drew)); exact HO112.out) hb); have n1_ := Aside0.mk (below_step (by repeat (first | (with_reducible first | exact HB.out | apply below_alloc | apply pw_below_drewN | apply below_drew1) | exact HB.out)) hb); clear HO112; clear HB; have HO112 := n0_; have HB := n1_; clear n0_ n1_; (try clear hb); (try clear hb2); (try clear hk); (try clear hi)))
              go_meet
              case rel => exact ⟨_, ((t113.toList != t114.toList)), (by first | rfl | (simp; done) | (simp [*]; done) | (simp [isEmpty_bne, isEmpty_beq]; done) | (simp [*, isEmpty_bne, isEmpty_beq]; done)), H', ⟨by have := HJ6.out; first | omega | exact Nat.le_refl _⟩, ⟨by repeat (first | (with_reducible first | exact HB.out | apply below_alloc | apply pw_below_drewN | apply below_drew1) | exact HB.out)⟩⟩
            · rw [if_neg c49] at H
              have c49b0 : decide (2 ≤ (t110.length : Int)) = false := decide_eq_false c49
              have c49b1 : decide (2 ≤ t110.length) = false := decide_eq_false (by omega)
              clear c49
              (first | rw [c49b0] | (simp only [i64_w, i32_w]; rw [c49b0]) | skip)
              have H' := Aside0.mk H
              clear H
              go_wp2_with (first | ((with_reducible refine gate_callee (f := 13) rfl ?_); refine goesL_ (some 47) rfl rfl Tryd.func13 (by kernel_rfl) rfl #[.string t101, .string t102] rfl (by (try simp only [List.map_toArray, List.map_cons, List.map_nil]); first | done | rfl | (simp only [List.length_drop, List.length_take]; rfl)) ?_; (with_reducible refine (domain_Under.calls t101 t102 true _ A46.out).mono ?_); rintro e w57 ⟨rfl, hb⟩; refine ⟨_, rfl, ?_⟩; have n0_ := Aside0.mk (below_step (by repeat (first | (with_reducible first | exact HB.out | apply below_alloc | apply pw_below_drewN | apply below_drew1) | exact HB.out)) hb); clear HB; have HB := n0_; clear n0_; (try clear hb); (try clear hb2); (try clear hk); (try clear hi)) | (go_at_call 15; (with_reducible refine (domain_Labels.calls t102 t110 _ A48.out).mono ?_); rintro e w58 ⟨v111, rfl, ho0, hb⟩; have n0_ := Aside0.mk (Kd.R_lower ho0 (below_size (by repeat (first | (with_reducible first | exact HB.out | apply below_alloc | apply pw_below_drewN | apply below_drew1) | exact HB.out)))); have n1_ := Aside0.mk (below_step (by repeat (first | (with_reducible first | exact HB.out | apply below_alloc | apply pw_below_drewN | apply below_drew1) | exact HB.out)) hb); clear HB; have HO112 := n0_; have HB := n1_; clear n0_ n1_; (try clear hb); (try clear hb2); (try clear hk); (try clear hi); (try clear ho0); obtain ⟨Ao59, co59, eo59⟩ := Kd.R_slice HO112.out; subst eo59))
              go_meet
              case rel => exact ⟨_, (false), (by first | rfl | (simp; done) | (simp [*]; done) | (simp [isEmpty_bne, isEmpty_beq]; done) | (simp [*, isEmpty_bne, isEmpty_beq]; done)), H', ⟨by have := HJ6.out; first | omega | exact Nat.le_refl _⟩, ⟨by repeat (first | (with_reducible first | exact HB.out | apply below_alloc | apply pw_below_drewN | apply below_drew1) | exact HB.out)⟩⟩
          · replace c47 := Bool.eq_false_iff.mpr c47
            subst c47
            have H1 : (moatlaw2_DomainPairs.j1 kj6 t101 false) = some r := by rw [if_neg (show ¬ (false = true) by decide)] at H; exact H
            clear H
            have H := H1
            clear H1
            have H' := Aside0.mk H
            clear H
            go_wp2_with (first | ((with_reducible refine gate_callee (f := 13) rfl ?_); refine goesL_ (some 47) rfl rfl Tryd.func13 (by kernel_rfl) rfl #[.string t101, .string t102] rfl (by (try simp only [List.map_toArray, List.map_cons, List.map_nil]); first | done | rfl | (simp only [List.length_drop, List.length_take]; rfl)) ?_; (with_reducible refine (domain_Under.calls t101 t102 false _ A46.out).mono ?_); rintro e w60 ⟨rfl, hb⟩; refine ⟨_, rfl, ?_⟩; have n0_ := Aside0.mk (below_step (by repeat (first | (with_reducible first | exact HB.out | apply below_alloc | apply pw_below_drewN | apply below_drew1) | exact HB.out)) hb); clear HB; have HB := n0_; clear n0_; (try clear hb); (try clear hb2); (try clear hk); (try clear hi)))
            go_meet
            case rel => exact ⟨_, (false), (by first | rfl | (simp; done) | (simp [*]; done) | (simp [isEmpty_bne, isEmpty_beq]; done) | (simp [*, isEmpty_bne, isEmpty_beq]; done)), H', ⟨by have := HJ6.out; first | omega | exact Nat.le_refl _⟩, ⟨by repeat (first | (with_reducible first | exact HB.out | apply below_alloc | apply pw_below_drewN | apply below_drew1) | exact HB.out)⟩⟩
        case rest =>
          clear HC45
          try clear c1
          try clear p2
          try clear c3
          try clear c4
          try clear c5
          try clear c12
          try clear c13
          try clear c14
          try clear c16
          try clear c17
          try clear c18
          try clear c33
          try clear c44
          try clear c47
          try clear c49
          try clear c49b0
          try clear c49b1
          try clear p2
          obtain ⟨kq, x60_44, rfl, HA, HJ44, HB⟩ := hcut
          cases kq with
          | zero => exact absurd HA.out (by simp [moatlaw2_DomainPairs.j1])
          | succ kj44 =>
            have H := HA.out
            clear HA
            simp only [moatlaw2_DomainPairs.j1] at H
            by_cases c61 : x60_44 = true
            · subst c61
              have H1 : (some false) = some r := by rw [if_pos rfl] at H; exact H
              clear H
              have H := H1
              clear H1
              cases (Option.some.inj H).trans HRT.out
            · replace c61 := Bool.eq_false_iff.mpr c61
              subst c61
              have H1 : ((domain_Under.f t101 t101).bind fun t115 => (if t115 = true then ((domain_Site.f t101).bind fun t116 => ((domain_Under.f t101 t116).bind fun t117 => (if t117 = true then ((domain_Site.f t116).bind fun t118 => (if t118.toList = t116.toList then ((moatlaw2_awake.f).bind fun t119 => (some t119)) else (some false))) else (some false)))) else (some false))) = some r := by rw [if_neg (show ¬ (false = true) by decide)] at H; exact H
              clear H
              have H := H1
              clear H1
              replace H := Option.bind_eq_some_iff.mp H
              obtain ⟨t115, A620, H⟩ := H
              replace H : (if t115 = true then ((domain_Site.f t101).bind fun t116 => ((domain_Under.f t101 t116).bind fun t117 => (if t117 = true then ((domain_Site.f t116).bind fun t118 => (if t118.toList = t116.toList then ((moatlaw2_awake.f).bind fun t119 => (some t119)) else (some false))) else (some false)))) else (some false)) = some r := H
              have A62 := Aside0.mk A620
              clear A620
              by_cases c63 : t115 = true
              · subst c63
                have H1 : ((domain_Site.f t101).bind fun t116 => ((domain_Under.f t101 t116).bind fun t117 => (if t117 = true then ((domain_Site.f t116).bind fun t118 => (if t118.toList = t116.toList then ((moatlaw2_awake.f).bind fun t119 => (some t119)) else (some false))) else (some false)))) = some r := by rw [if_pos rfl] at H; exact H
                clear H
                have H := H1
                clear H1
                replace H := Option.bind_eq_some_iff.mp H
                obtain ⟨t116, A640, H⟩ := H
                replace H : ((domain_Under.f t101 t116).bind fun t117 => (if t117 = true then ((domain_Site.f t116).bind fun t118 => (if t118.toList = t116.toList then ((moatlaw2_awake.f).bind fun t119 => (some t119)) else (some false))) else (some false))) = some r := H
                have A64 := Aside0.mk A640
                clear A640
                replace H := Option.bind_eq_some_iff.mp H
                obtain ⟨t117, A650, H⟩ := H
                replace H : (if t117 = true then ((domain_Site.f t116).bind fun t118 => (if t118.toList = t116.toList then ((moatlaw2_awake.f).bind fun t119 => (some t119)) else (some false))) else (some false)) = some r := H
                have A65 := Aside0.mk A650
                clear A650
                by_cases c66 : t117 = true
                · subst c66
                  have H1 : ((domain_Site.f t116).bind fun t118 => (if t118.toList = t116.toList then ((moatlaw2_awake.f).bind fun t119 => (some t119)) else (some false))) = some r := by rw [if_pos rfl] at H; exact H
                  clear H
                  have H := H1
                  clear H1
                  replace H := Option.bind_eq_some_iff.mp H
                  obtain ⟨t118, A670, H⟩ := H
                  replace H : (if t118.toList = t116.toList then ((moatlaw2_awake.f).bind fun t119 => (some t119)) else (some false)) = some r := H
                  have A67 := Aside0.mk A670
                  clear A670
                  by_cases c68 : t118.toList = t116.toList
                  · rw [if_pos c68] at H
                    have c68b0 : (t118.toList == t116.toList) = true := beq_iff_eq.mpr c68
                    have c68b1 : (t118.toList != t116.toList) = false := bne_eq_false_iff_eq.mpr c68
                    clear c68
                    replace H := Option.bind_eq_some_iff.mp H
                    obtain ⟨t119, A690, H⟩ := H
                    replace H : (some t119) = some r := H
                    have A69 := Aside0.mk A690
                    clear A690
                    obtain rfl := Option.some.inj H
                    go_wp2_with (first | ((with_reducible refine gate_callee (f := 13) rfl ?_); refine goesL_ (some 63) rfl rfl Tryd.func13 (by kernel_rfl) rfl #[.string t101, .string t101] rfl (by (try simp only [List.map_toArray, List.map_cons, List.map_nil]); first | done | rfl | (simp only [List.length_drop, List.length_take]; rfl)) ?_; (with_reducible refine (domain_Under.calls t101 t101 true _ A62.out).mono ?_); rintro e w70 ⟨rfl, hb⟩; refine ⟨_, rfl, ?_⟩; have n0_ := Aside0.mk (below_step (by repeat (first | (with_reducible first | exact HB.out | apply below_alloc | apply pw_below_drewN | apply below_drew1) | exact HB.out)) hb); clear HB; have HB := n0_; clear n0_; (try clear hb); (try clear hb2); (try clear hk); (try clear hi)) | (go_at_call 14; (with_reducible refine (domain_Site.calls t101 t116 _ A64.out).mono ?_); rintro e w71 ⟨rfl, hb⟩; have n0_ := Aside0.mk (below_step (by repeat (first | (with_reducible first | exact HB.out | apply below_alloc | apply pw_below_drewN | apply below_drew1) | exact HB.out)) hb); clear HB; have HB := n0_; clear n0_; (try clear hb); (try clear hb2); (try clear hk); (try clear hi)) | (go_at_call 13; (with_reducible refine (domain_Under.calls t101 t116 true _ A65.out).mono ?_); rintro e w72 ⟨rfl, hb⟩; have n0_ := Aside0.mk (below_step (by repeat (first | (with_reducible first | exact HB.out | apply below_alloc | apply pw_below_drewN | apply below_drew1) | exact HB.out)) hb); clear HB; have HB := n0_; clear n0_; (try clear hb); (try clear hb2); (try clear hk); (try clear hi)) | (go_at_call 14; (with_reducible refine (domain_Site.calls t101 t116 _ A64.out).mono ?_); rintro e w73 ⟨rfl, hb⟩; have n0_ := Aside0.mk (below_step (by repeat (first | (with_reducible first | exact HB.out | apply below_alloc | apply pw_below_drewN | apply below_drew1) | exact HB.out)) hb); clear HB; have HB := n0_; clear n0_; (try clear hb); (try clear hb2); (try clear hk); (try clear hi)) | (go_at_call 14; (with_reducible refine (domain_Site.calls t116 t118 _ A67.out).mono ?_); rintro e w74 ⟨rfl, hb⟩; have n0_ := Aside0.mk (below_step (by repeat (first | (with_reducible first | exact HB.out | apply below_alloc | apply pw_below_drewN | apply below_drew1) | exact HB.out)) hb); clear HB; have HB := n0_; clear n0_; (try clear hb); (try clear hb2); (try clear hk); (try clear hi)) | (go_at_call 14; (with_reducible refine (domain_Site.calls t101 t116 _ A64.out).mono ?_); rintro e w75 ⟨rfl, hb⟩; have n0_ := Aside0.mk (below_step (by repeat (first | (with_reducible first | exact HB.out | apply below_alloc | apply pw_below_drewN | apply below_drew1) | exact HB.out)) hb); clear HB; have HB := n0_; clear n0_; (try clear hb); (try clear hb2); (try clear hk); (try clear hi)) | (go_at_call 11; (with_reducible refine (moatlaw2_awake.calls  t119 _ A69.out).mono ?_); rintro e w76 ⟨rfl, hb⟩; have n0_ := Aside0.mk (below_step (by repeat (first | (with_reducible first | exact HB.out | apply below_alloc | apply pw_below_drewN | apply below_drew1) | exact HB.out)) hb); clear HB; have HB := n0_; clear n0_; (try clear hb); (try clear hb2); (try clear hk); (try clear hi)))
                    go_ret
                    exact ⟨by first | rfl | (simp [errW_none, errW_some] <;> rfl) | (simp [*, errW_none, errW_some] <;> rfl) | (simp [isEmpty_bne, isEmpty_beq, errW_none, errW_some]; done) | (simp [*, isEmpty_bne, isEmpty_beq, errW_none, errW_some]; done), by repeat (first | (with_reducible first | exact HB.out | apply below_alloc | apply pw_below_drewN | apply below_drew1) | exact HB.out)⟩
                  · rw [if_neg c68] at H
                    have c68b0 : (t118.toList == t116.toList) = false := beq_eq_false_iff_ne.mpr c68
                    have c68b1 : (t118.toList != t116.toList) = true := bne_iff_ne.mpr c68
                    cases (Option.some.inj H).trans HRT.out
                · replace c66 := Bool.eq_false_iff.mpr c66
                  subst c66
                  have H1 : (some false) = some r := by rw [if_neg (show ¬ (false = true) by decide)] at H; exact H
                  clear H
                  have H := H1
                  clear H1
                  cases (Option.some.inj H).trans HRT.out
              · replace c63 := Bool.eq_false_iff.mpr c63
                subst c63
                have H1 : (some false) = some r := by rw [if_neg (show ¬ (false = true) by decide)] at H; exact H
                clear H
                have H := H1
                clear H1
                cases (Option.some.inj H).trans HRT.out

/-- THE ONE PURE STATEMENT of moatlaw2_DomainPairs: yours. -/
def moatlaw2_DomainPairs.Pure : Prop := ∀ (a0 : Int) (a1 : Int) (a2 : Int), (Lit.int .i64 a0).wf = true → (Lit.int .i64 a1).wf = true → (Lit.int .i64 a2).wf = true → ∃ k, moatlaw2_DomainPairs.f k a0 a1 a2 = some true
theorem moatlaw2_DomainPairs.walk (P : moatlaw2_DomainPairs.Pure) (a0 : Int) (a1 : Int) (a2 : Int) (w : World) (w0 : (Lit.int .i64 a0).wf = true) (w1 : (Lit.int .i64 a1).wf = true) (w2 : (Lit.int .i64 a2).wf = true) :
    Calls Tryd.prog 5 #[.int .i64 a0, .int .i64 a1, .int .i64 a2] w fun e w' => e = .returned (.bool true) ∧ Below w.heap.size w w' := by
  obtain ⟨k, h⟩ := P a0 a1 a2 w0 w1 w2
  refine (moatlaw2_DomainPairs.calls k a0 a1 a2 true w h rfl).mono ?_
  rintro e w' ⟨rfl, hd⟩
  exact ⟨rfl, hd⟩

end Go.Proofs.YtmelefiodhnlpaaDoor.BC
