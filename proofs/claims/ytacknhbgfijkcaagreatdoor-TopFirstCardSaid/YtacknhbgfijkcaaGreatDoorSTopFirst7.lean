/- TopFirst: the tied card of TopFirst: for every input the law answers true, and its arguments read as before; the listed variables hold what the program's text lays. Proved from the walk and the pure statement. -/
import Derived.Test.YtacknhbgfijkcaaGreatDoorMTopFirst7
import Derived.Test.YtacknhbgfijkcaaGreatDoorMTopFirst6
import Derived.Test.YtacknhbgfijkcaaGreatDoorMTopFirst5
import Derived.Test.YtacknhbgfijkcaaGreatDoorMTopFirst4
import Derived.Test.YtacknhbgfijkcaaGreatDoorMTopFirst2
import Derived.Test.YtacknhbgfijkcaaGreatDoorMTopFirst1
import Derived.Test.YtacknhbgfijkcaaGreatDoorMTopFirst0
import Derived.Test.YtacknhbgfijkcaaGreatDoorCards
import Derived.Test.YtacknhbgfijkcaaGreatDoorTie
import Derived.Test.YtacknhbgfijkcaaGreatDoorMTopFirst8
import Derived.Test.YtacknhbgfijkcaaGreatDoorMTopFirst8
import Derived.WalkKit
import Derived.ProofKit
import Derived.OpenShut
import Derived.ShutString
import Derived.ChangeOld
import Derived.Below
import Derived.SizedLaws
import Derived.Test.YtacknhbgfijkcaaGreatDoorMTopFirst3
import Derived.Test.YtacknhbgfijkcaaGreatDoorMTopFirst8
import Derived.Test.YtacknhbgfijkcaaGreatDoorMTopFirst8
import Derived.LaidMore
import Derived.Lay
import Derived.LaidOnce
import Derived.SevenTiedAt
set_option linter.unusedSimpArgs false
set_option linter.unusedVariables false
namespace Go.Proofs.YtacknhbgfijkcaaGreatDoor.topFirst
open Go.ChangeShapes Go.WideShapes Go.ChangeAt Go.RowKit Go.Proofs.YtacknhbgfijkcaaGreatDoor Go.Proofs.YtacknhbgfijkcaaGreatDoorW.PrintWords
open Go.ChangeMaps (open_string shut_string)
theorem own : ownKnob Tryz.prog.godebug = none:=by kernel_rfl
set_option maxRecDepth 100000 in
set_option maxHeartbeats 2000000 in
theorem lifted (os : Os) (started : os.Started) (H : Type) (enc : TypeId × Value → H) :
   ReturnsInHanded {} Tryz.checked os 3 .any (fun w args => (Rows.topFirstSpec.pre enc Tryz.prog Tryz.f3 [] false w args ∧ laidMetH Tryz.prog Rows.topFirstRow.laid w) ∧ sizedMet enc Tryz.prog Tryz.f3 (OpenSpec.ofChange Rows.topFirstSpec) false w args)
     (Rows.topFirstSpec.post enc Tryz.prog Tryz.f3 false true false false):=by
 refine Abs.returnsInHanded_of_change_both (C:=Tryz.checked) (X:=fun w _ => laidMetH Tryz.prog Rows.topFirstRow.laid w) (fun _ _ _ hh h => h.of_heap hh) own started (by kernel_rfl) Tryz.func3
   (ChangeSpec.witness_shaped (enc:=enc) (C:=Tryz.checked) (os:=os) (X:=fun w _ => laidMetH Tryz.prog Rows.topFirstRow.laid w) false (startW os Rows.topFirstRow.laid) #[.int .i64 0] 8 (startW_os _ _)
     (World.shaped_of_ZipB (by kernel_rfl) (by kernel_rfl)) (by kernel_rfl) (by kernel_rfl) (by kernel_rfl)
     (topFirst_met os _)) ?_
 intro W base args ds gs before hval0 hW _ hsz0 hLd hSh _
 have hsz : (DataW.weightsEach Tryz.prog (Tryz.f3.params.toList ++ Rows.topFirstSpec.plain.varTypes Tryz.prog) (ds ++ gs)).all (· ≤ reachBytes) = true:=hsz0
 have hval : ∀ (j : Nat) t v, Tryz.f3.params[j]? = some t → args[j]? = some v → Value.okWide Tryz.prog W .any base t v:=hval0
 have hW':=hW
 obtain ⟨p, q, hA0, hV, rfl, hfz, hnd⟩:=hW
 have hA : DataW.TrodAll enc Tryz.prog W 0 (fun _ => true) true Tryz.f3.params.toList args.toList ds p:=hA0
 rw [Tryz.params3] at hA hval hsz
 obtain ⟨v0, vs0, d0, ds0, p0, q0, hargs, rfl, rfl, h0, r0⟩:=trodAll_cons hA
 obtain ⟨rfl, rfl, rfl⟩:=trodAll_nil r0
 obtain rfl : args = #[v0]:=by cases args; simp_all
 obtain ⟨rfl, rfl⟩:=trodVars_none hV
 obtain ⟨a0, rfl, rfl, rfl, w0⟩:=open_int Tryz.underlying3 (hval 0 3 v0 rfl rfl) h0
 clear hA0 hval0 hsz0
 refine (moattop_TopFirst.walk a0 W (topFirst_world hLd hSh)).mono fun e W' ⟨he, bel⟩ => ?_
 subst he
 exact ⟨_, rfl, _, _, _, [], _, [], hW', trodAll_mk1 (shut_bool Tryz.underlying4 _), (trodAll_cons_mk (shut_int Tryz.underlying3 w0) trodAll_mk0), rfl, bel.frame _, fun h => by cases h⟩
end Go.Proofs.YtacknhbgfijkcaaGreatDoor.topFirst
