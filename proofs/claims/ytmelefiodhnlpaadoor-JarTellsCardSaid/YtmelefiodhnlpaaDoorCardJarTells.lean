/- JarTells: the tied card of JarTells: for every input the law answers true, and its arguments read as before; the listed variables hold what the program's text lays. Proved from the walk and the pure statement. -/
import Derived.Test.YtmelefiodhnlpaaDoorCards
import Derived.Test.YtmelefiodhnlpaaDoorTie
import Derived.Test.YtmelefiodhnlpaaDoorWalkJarTells
import Derived.Test.YtmelefiodhnlpaaDoorOpen
import Derived.WalkKit
import Derived.ProofKit
import Derived.OpenShut
import Derived.ShutString
import Derived.ChangeOld
import Derived.Below
import Derived.SizedLaws
import Derived.LaidMore
import Derived.Lay
import Derived.LaidOnce
import Derived.SevenTiedAt
namespace Go.Proofs.YtmelefiodhnlpaaDoor.jarTells
open Go.ChangeShapes Go.WideShapes Go.ChangeAt Go.RowKit Go.Proofs.YtmelefiodhnlpaaDoor Go.Proofs.YtmelefiodhnlpaaDoorW.PrintWords
open Go.ChangeMaps (open_string shut_string)
set_option linter.unusedVariables false
theorem own : ownKnob Tryd.prog.godebug = none := by kernel_rfl
theorem laidOut : laidOutB Tryd.prog = true := by kernel_rfl
set_option maxRecDepth 100000 in
set_option maxHeartbeats 2000000 in
theorem lifted (os : Os) (started : os.Started) (H : Type) (enc : TypeId × Value → H) :
    ReturnsInHanded {} Tryd.checked os 6 .any (fun w args => (Rows.jarTellsSpec.pre enc Tryd.prog Tryd.f6 [] false w args ∧ laidMetH Tryd.prog Rows.jarTellsRow.laid w) ∧ sizedMet enc Tryd.prog Tryd.f6 (OpenSpec.ofChange Rows.jarTellsSpec) false w args)
      (Rows.jarTellsSpec.post enc Tryd.prog Tryd.f6 false true false false) := by
  refine returnsInHanded_of_change_and (C := Tryd.checked) (X := fun w _ => laidMetH Tryd.prog Rows.jarTellsRow.laid w) (fun _ _ _ hh h => h.of_heap hh) own started (by kernel_rfl) Tryd.func6
    (ChangeSpec.witness_shaped (enc := enc) (C := Tryd.checked) (os := os) (X := fun w _ => laidMetH Tryd.prog Rows.jarTellsRow.laid w) false (World.laidAll Tryd.prog os Rows.jarTellsRow.laid) #[.agg #[.string ByteArray.empty, .int .i64 0, .string ByteArray.empty, .string ByteArray.empty, .bool false, .bool false, .int .i64 0], .string ByteArray.empty, .agg #[.string ByteArray.empty, .string ByteArray.empty, .string ByteArray.empty, .int .i64 0], .string ByteArray.empty, .string ByteArray.empty, .int .i64 0, .int .i64 0, .int .i64 0, .slice none 0 0] 8 (World.laidAll_os _ _ _)
      (World.shaped_of_ZipB (by kernel_rfl) (by kernel_rfl)) (by kernel_rfl) (by kernel_rfl) (by kernel_rfl)
      (by rw [MakeChecks.laidMetH_plain _ _ _ (by kernel_rfl)]; exact laidMet_laidAll _ (by kernel_rfl) (by kernel_rfl))) ?_
  intro W base args ds gs before hval0 hW _ hsz0 _ _
  have hsz : (DataW.weightsEach Tryd.prog (Tryd.f6.params.toList ++ Rows.jarTellsSpec.plain.varTypes Tryd.prog) (ds ++ gs)).all (· ≤ reachBytes) = true := hsz0
  have hval : ∀ (j : Nat) t v, Tryd.f6.params[j]? = some t → args[j]? = some v → Value.okWide Tryd.prog W .any base t v := hval0
  have hW' := hW
  obtain ⟨p, q, hA0, hV, rfl, hfz, hnd⟩ := hW
  have hA : DataW.TrodAll enc Tryd.prog W 0 (fun _ => true) true Tryd.f6.params.toList args.toList ds p := hA0
  rw [Tryd.params6] at hA hval hsz
  obtain ⟨v0, vs0, d0, ds0, p0, q0, hargs, rfl, rfl, h0, r0⟩ := trodAll_cons hA
  obtain ⟨v1, vs1, d1, ds1, p1, q1, rfl, rfl, rfl, h1, r1⟩ := trodAll_cons r0
  obtain ⟨v2, vs2, d2, ds2, p2, q2, rfl, rfl, rfl, h2, r2⟩ := trodAll_cons r1
  obtain ⟨v3, vs3, d3, ds3, p3, q3, rfl, rfl, rfl, h3, r3⟩ := trodAll_cons r2
  obtain ⟨v4, vs4, d4, ds4, p4, q4, rfl, rfl, rfl, h4, r4⟩ := trodAll_cons r3
  obtain ⟨v5, vs5, d5, ds5, p5, q5, rfl, rfl, rfl, h5, r5⟩ := trodAll_cons r4
  obtain ⟨v6, vs6, d6, ds6, p6, q6, rfl, rfl, rfl, h6, r6⟩ := trodAll_cons r5
  obtain ⟨v7, vs7, d7, ds7, p7, q7, rfl, rfl, rfl, h7, r7⟩ := trodAll_cons r6
  obtain ⟨v8, vs8, d8, ds8, p8, q8, rfl, rfl, rfl, h8, r8⟩ := trodAll_cons r7
  obtain ⟨rfl, rfl, rfl⟩ := trodAll_nil r8
  obtain rfl : args = #[v0, v1, v2, v3, v4, v5, v6, v7, v8] := by cases args; simp_all
  obtain ⟨rfl, rfl⟩ := trodVars_none hV
  have k0 := h0
  have lt0 : ∀ x ∈ p0, x.block < W.heap.size := by obtain ⟨m, hm⟩ := k0; exact DataW.trod_lt m _ _ _ hm
  obtain ⟨x0, hK0, hB0⟩ := open_param (Opens.struct Tryd.underlying39 (by kernel_rfl) (OpensF.cons (off' := 1) rfl (by kernel_rfl) (Opens.string Tryd.underlying9) (OpensF.cons (off' := 2) rfl (by kernel_rfl) (Opens.int Tryd.underlying3) (OpensF.cons (off' := 3) rfl (by kernel_rfl) (Opens.string Tryd.underlying9) (OpensF.cons (off' := 4) rfl (by kernel_rfl) (Opens.string Tryd.underlying9) (OpensF.cons (off' := 5) rfl (by kernel_rfl) (Opens.bool Tryd.underlying4) (OpensF.cons (off' := 6) rfl (by kernel_rfl) (Opens.bool Tryd.underlying4) (OpensF.one rfl (Opens.int Tryd.underlying3))))))))) h0 hsz (j := 0) rfl rfl
  obtain ⟨_, _, hc0, rfl, ⟨_, _, rfl, rfl, ⟨_, _, rfl, rfl, ⟨_, _, rfl, rfl, ⟨_, _, rfl, rfl, ⟨_, _, rfl, rfl, rfl⟩⟩⟩⟩⟩⟩ := hK0
  have hv0 := agg_of Tryd.underlying39 (hval 0 39 v0 rfl rfl) hc0
  simp only [List.cons_append, List.nil_append] at hv0
  subst hv0
  obtain ⟨a1, rfl, rfl, rfl, y1⟩ := open_string Tryd.underlying9 (hval 1 9 v1 rfl rfl) h1
  have w1 : a1.size ≤ 140737488351232 := by
    have z := sized_string hsz (j := 1) (t := 9) rfl rfl
    rw [Array.length_toList] at z
    exact z
  have k2 := h2
  have lt2 : ∀ x ∈ p2, x.block < W.heap.size := by obtain ⟨m, hm⟩ := k2; exact DataW.trod_lt m _ _ _ hm
  obtain ⟨x2, hK2, hB2⟩ := open_param (Opens.struct Tryd.underlying32 (by kernel_rfl) (OpensF.cons (off' := 1) rfl (by kernel_rfl) (Opens.string Tryd.underlying9) (OpensF.cons (off' := 2) rfl (by kernel_rfl) (Opens.string Tryd.underlying9) (OpensF.cons (off' := 3) rfl (by kernel_rfl) (Opens.string Tryd.underlying9) (OpensF.one rfl (Opens.int Tryd.underlying3)))))) h2 hsz (j := 2) rfl rfl
  obtain ⟨_, _, hc2, rfl, ⟨_, _, rfl, rfl, ⟨_, _, rfl, rfl, rfl⟩⟩⟩ := hK2
  have hv2 := agg_of Tryd.underlying32 (hval 2 32 v2 rfl rfl) hc2
  simp only [List.cons_append, List.nil_append] at hv2
  subst hv2
  obtain ⟨a3, rfl, rfl, rfl, y3⟩ := open_string Tryd.underlying9 (hval 3 9 v3 rfl rfl) h3
  have w3 : a3.size ≤ 140737488351232 := by
    have z := sized_string hsz (j := 3) (t := 9) rfl rfl
    rw [Array.length_toList] at z
    exact z
  obtain ⟨a4, rfl, rfl, rfl, y4⟩ := open_string Tryd.underlying9 (hval 4 9 v4 rfl rfl) h4
  have w4 : a4.size ≤ 140737488351232 := by
    have z := sized_string hsz (j := 4) (t := 9) rfl rfl
    rw [Array.length_toList] at z
    exact z
  obtain ⟨a5, rfl, rfl, rfl, w5⟩ := open_int Tryd.underlying3 (hval 5 3 v5 rfl rfl) h5
  obtain ⟨a6, rfl, rfl, rfl, w6⟩ := open_int Tryd.underlying3 (hval 6 3 v6 rfl rfl) h6
  obtain ⟨a7, rfl, rfl, rfl, w7⟩ := open_int Tryd.underlying3 (hval 7 3 v7 rfl rfl) h7
  have k8 := h8
  have lt8 : ∀ x ∈ p8, x.block < W.heap.size := by obtain ⟨m, hm⟩ := k8; exact DataW.trod_lt m _ _ _ hm
  obtain ⟨va8, vl8, vc8, rfl⟩ := okWide_slice Tryd.underlying40 (hval 8 40 v8 rfl rfl)
  obtain ⟨x8, hK8, hB8⟩ := open_param (Opens.slice Tryd.underlying40 (by kernel_rfl) (show Opens Tryd.prog 32 Go.Proofs.YtmelefiodhnlpaaDoor.BB.k32 _ from Opens.iso (g := fun a => ⟨a.1, a.2.1, a.2.2.1, a.2.2.2⟩) (fun _ => rfl) (Opens.struct Tryd.underlying32 (by kernel_rfl) (OpensF.cons (off' := 1) rfl (by kernel_rfl) (Opens.string Tryd.underlying9) (OpensF.cons (off' := 2) rfl (by kernel_rfl) (Opens.string Tryd.underlying9) (OpensF.cons (off' := 3) rfl (by kernel_rfl) (Opens.string Tryd.underlying9) (OpensF.one rfl (Opens.int Tryd.underlying3)))))))) h8 hsz (j := 8) rfl rfl
  obtain ⟨A8, c8, hc8, hle8, hC8⟩ := hK8
  obtain ⟨rfl, rfl, rfl⟩ : va8 = A8 ∧ vl8 = x8.length ∧ vc8 = c8 := by simpa [Value.cells] using hc8
  clear hA0 hval0 hsz0
  refine (moatlaw8_JarTells.walk x0.1 x0.2.1 x0.2.2.1 x0.2.2.2.1 x0.2.2.2.2.1 x0.2.2.2.2.2.1 x0.2.2.2.2.2.2 a1 x2.1 x2.2.1 x2.2.2.1 x2.2.2.2 a3 a4 a5 a6 a7 va8 vc8 x8 W hC8 hle8 hB0.2.2.1 hB0.2.2.2.1 w1 hB2.2.2.1 w3).mono fun e W' ⟨he, bel⟩ => ?_
  subst he
  exact ⟨_, rfl, _, _, _, [], _, [], hW', trodAll_mk1 (shut_bool Tryd.underlying4 _), (trodAll_cons_mk (Below.trod laidOut (by kernel_rfl) (of_decide_eq_true (by kernel_rfl)) k0 bel lt0) (trodAll_cons_mk (shut_string Tryd.underlying9 y1) (trodAll_cons_mk (Below.trod laidOut (by kernel_rfl) (of_decide_eq_true (by kernel_rfl)) k2 bel lt2) (trodAll_cons_mk (shut_string Tryd.underlying9 y3) (trodAll_cons_mk (shut_string Tryd.underlying9 y4) (trodAll_cons_mk (shut_int Tryd.underlying3 w5) (trodAll_cons_mk (shut_int Tryd.underlying3 w6) (trodAll_cons_mk (shut_int Tryd.underlying3 w7) (trodAll_cons_mk (Below.trod laidOut (by kernel_rfl) (of_decide_eq_true (by kernel_rfl)) k8 bel lt8) trodAll_mk0))))))))), rfl, bel.frame _, fun h => by cases h⟩
theorem over : Rows.jarTellsRow.holds Tryd.pinned (OpenSpec.ofChange Rows.jarTellsSpec) :=
  OpenClaim.holds_of_wide 6 Tryd.f6 rfl rfl rfl rfl rfl rfl rfl ⟨rfl, rfl, rfl, rfl, rfl⟩ rfl rfl rfl rfl rfl (by kernel_rfl) Tryd.func6 (by kernel_rfl)
    (of_decide_eq_true (by kernel_rfl)) (by unfold Func.isWrapper; first | (rw [if_pos (by decide +kernel)]; kernel_rfl) | (rw [if_neg (by decide +kernel)]; exact ⟨rfl, rfl⟩))
    (fun os started H enc _ => lifted os started H enc)
theorem proved : Rows.JarTellsSaid := over
end Go.Proofs.YtmelefiodhnlpaaDoor.jarTells
namespace Go.Proofs.YtmelefiodhnlpaaDoor
open Go
theorem jarTells_holds : Rows.JarTellsSaid := jarTells.proved
theorem jarTells_card : Rows.JarTellsCardSaid :=
  Claim7.holds_tied_plain_at .later [] [.data, .pinned] true (true, "ee44e49daa498463e9532779fc6bbd7ec534c87bcefd57d64964bb6e308b2589") false
    jarTells_holds (fun _ h => by cases h) (by kernel_rfl) (fun _ h => by cases h) jarTells_row_tie rfl ⟨rfl, rfl⟩ (by kernel_rfl) rfl
    (fun f fn hf hfn => by
      obtain rfl : f = 6 := Option.some.inj ((show Tryd.prog.funcNamed "moat/moatlaw8.JarTells" = some 6 by kernel_rfl).symm.trans hf) |>.symm
      obtain rfl : fn = Tryd.f6 := (Option.some.inj (Tryd.func6.symm.trans hfn)).symm
      exact ⟨by kernel_rfl, fun j t ht => by
        rw [Tryd.params6] at ht
        have hm : t ∈ [3, 9, 32, 39, 40] := by
          have hin := Array.mem_def.1 (Array.mem_of_getElem? ht)
          exact (show ∀ u ∈ ([39, 9, 32, 9, 9, 3, 3, 3, 40] : List TypeId), u ∈ ([3, 9, 32, 39, 40] : List TypeId) by decide) t hin
        have hall : ([3, 9, 32, 39, 40].all fun u => !Tryd.prog.wantsStandIn u) = true := by kernel_rfl
        exact (show Tryd.prog.wantsStandIn t = false by simpa using List.all_eq_true.1 hall t hm)⟩)
    (by kernel_rfl)
#print axioms jarTells_card
end Go.Proofs.YtmelefiodhnlpaaDoor
