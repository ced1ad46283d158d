/- BuildOrder: the tied card of BuildOrder: for every input the law answers true, and its arguments read as before; the listed variables hold what the program's text lays. Proved from the walk and the pure statement. -/
import Derived.Test.YtmdjibkgnmjhbaaGreatDoorMBuildOrder6
import Derived.Test.YtmdjibkgnmjhbaaGreatDoorMBuildOrder5
import Derived.Test.YtmdjibkgnmjhbaaGreatDoorMBuildOrder4
import Derived.Test.YtmdjibkgnmjhbaaGreatDoorMBuildOrder2
import Derived.Test.YtmdjibkgnmjhbaaGreatDoorMBuildOrder1
import Derived.Test.YtmdjibkgnmjhbaaGreatDoorMBuildOrder0
import Derived.Test.YtmdjibkgnmjhbaaGreatDoorCards
import Derived.Test.YtmdjibkgnmjhbaaGreatDoorTie
import Derived.Test.YtmdjibkgnmjhbaaGreatDoorMBuildOrder7
import Derived.Test.YtmdjibkgnmjhbaaGreatDoorMBuildOrder7
import Derived.WalkKit
import Derived.ProofKit
import Derived.OpenShut
import Derived.ShutString
import Derived.ChangeOld
import Derived.Below
import Derived.SizedLaws
import Derived.Test.YtmdjibkgnmjhbaaGreatDoorMBuildOrder3
import Derived.Test.YtmdjibkgnmjhbaaGreatDoorMBuildOrder7
import Derived.Test.YtmdjibkgnmjhbaaGreatDoorMBuildOrder7
import Derived.LaidMore
import Derived.Lay
import Derived.LaidOnce
import Derived.SevenTiedAt
namespace Go.Proofs.YtmdjibkgnmjhbaaGreatDoor.buildOrder
open Go.ChangeShapes Go.WideShapes Go.ChangeAt Go.RowKit Go.Proofs.YtmdjibkgnmjhbaaGreatDoor Go.Proofs.YtmdjibkgnmjhbaaGreatDoorW.PrintWords
open Go.ChangeMaps (open_string shut_string)
set_option linter.unusedVariables false
theorem own : ownKnob Tryz.prog.godebug = none := by kernel_rfl
set_option maxRecDepth 100000 in
set_option maxHeartbeats 2000000 in
theorem lifted (os : Os) (started : os.Started) (H : Type) (enc : TypeId × Value → H) :
    ReturnsInHanded {} Tryz.checked os 6 .any (fun w args => (Rows.buildOrderSpec.pre enc Tryz.prog Tryz.f6 [] false w args ∧ laidMetH Tryz.prog Rows.buildOrderRow.laid w) ∧ sizedMet enc Tryz.prog Tryz.f6 (OpenSpec.ofChange Rows.buildOrderSpec) false w args)
      (Rows.buildOrderSpec.post enc Tryz.prog Tryz.f6 false true false false) := by
  refine Abs.returnsInHanded_of_change_both (C := Tryz.checked) (X := fun w _ => laidMetH Tryz.prog Rows.buildOrderRow.laid w) (fun _ _ _ hh h => h.of_heap hh) own started (by kernel_rfl) Tryz.func6
    (ChangeSpec.witness_shaped (enc := enc) (C := Tryz.checked) (os := os) (X := fun w _ => laidMetH Tryz.prog Rows.buildOrderRow.laid w) false (startW os Rows.buildOrderRow.laid) #[.int .i64 0, .int .i64 0] 8 (startW_os _ _)
      (World.shaped_of_ZipB (by kernel_rfl) (by kernel_rfl)) (by kernel_rfl) (by kernel_rfl) (by kernel_rfl)
      (buildOrder_met os _)) ?_
  intro W base args ds gs before hval0 hW _ hsz0 hLd hSh _
  have hsz : (DataW.weightsEach Tryz.prog (Tryz.f6.params.toList ++ Rows.buildOrderSpec.plain.varTypes Tryz.prog) (ds ++ gs)).all (· ≤ reachBytes) = true := hsz0
  have hval : ∀ (j : Nat) t v, Tryz.f6.params[j]? = some t → args[j]? = some v → Value.okWide Tryz.prog W .any base t v := hval0
  have hW' := hW
  obtain ⟨p, q, hA0, hV, rfl, hfz, hnd⟩ := hW
  have hA : DataW.TrodAll enc Tryz.prog W 0 (fun _ => true) true Tryz.f6.params.toList args.toList ds p := hA0
  rw [Tryz.params6] at hA hval hsz
  obtain ⟨v0, vs0, d0, ds0, p0, q0, hargs, rfl, rfl, h0, r0⟩ := trodAll_cons hA
  obtain ⟨v1, vs1, d1, ds1, p1, q1, rfl, rfl, rfl, h1, r1⟩ := trodAll_cons r0
  obtain ⟨rfl, rfl, rfl⟩ := trodAll_nil r1
  obtain rfl : args = #[v0, v1] := by cases args; simp_all
  obtain ⟨rfl, rfl⟩ := trodVars_none hV
  obtain ⟨a0, rfl, rfl, rfl, w0⟩ := open_int Tryz.underlying3 (hval 0 3 v0 rfl rfl) h0
  obtain ⟨a1, rfl, rfl, rfl, w1⟩ := open_int Tryz.underlying3 (hval 1 3 v1 rfl rfl) h1
  clear hA0 hval0 hsz0
  refine (moatlaw13_BuildOrder.walk a0 a1 W (buildOrder_world hLd hSh)).mono fun e W' ⟨he, bel⟩ => ?_
  subst he
  exact ⟨_, rfl, _, _, _, [], _, [], hW', trodAll_mk1 (shut_bool Tryz.underlying4 _), (trodAll_cons_mk (shut_int Tryz.underlying3 w0) (trodAll_cons_mk (shut_int Tryz.underlying3 w1) trodAll_mk0)), rfl, bel.frame _, fun h => by cases h⟩
end Go.Proofs.YtmdjibkgnmjhbaaGreatDoor.buildOrder
