-- The row of the law moat/moatlaw15.FormulaTurns, by wip/lawrow.py. Not trusted: Lean checks it.
import Derived.Test.YtmelefiodhnlpaaRows
import Derived.Test.YtmelefiodhnlpaaTurns2
import Derived.Test.YtmelefiodhnlpaaOpen
import Derived.WalkKit
import Derived.ProofKit
import Derived.OpenShut
import Derived.ShutString
import Derived.ChangeOld
import Derived.Below
import Derived.SizedLaws
namespace Go.Proofs.Ytmelefiodhnlpaa.formulaTurns
open Go.ChangeShapes Go.WideShapes Go.ChangeAt Go.RowKit Go.Proofs.Ytmelefiodhnlpaa Go.Proofs.YtmelefiodhnlpaaW.PrintWords
open Go.ChangeMaps (open_string shut_string)
set_option linter.unusedVariables false
theorem own : ownKnob Try.prog.godebug = none := by kernel_rfl
theorem laidOut : laidOutB Try.prog = true := by kernel_rfl
set_option maxRecDepth 100000 in
set_option maxHeartbeats 2000000 in
theorem lifted (os : Os) (started : os.Started) (H : Type) (enc : TypeId × Value → H) :
    ReturnsInHanded {} Try.checked os 3 .any (Rows.formulaTurnsSpec.pre6 enc Try.prog Try.f3 Rows.formulaTurnsRow.domain false) (Rows.formulaTurnsSpec.post enc Try.prog Try.f3 false true false false) := by
  refine returnsInHanded_of_change_sized (C := Try.checked) own started (by kernel_rfl) Try.func3
    (ChangeSpec.witness6 (enc := enc) (C := Try.checked) false ⟨#[], #[.slice none 0 0, .slice none 0 0, .agg #[.int .i64 0, .bool false, .slice none 0 0, .slice none 0 0, .slice none 0 0, .slice none 0 0, .slice none 0 0, .slice none 0 0]], []⟩ 8 (by kernel_rfl) (by kernel_rfl) (by kernel_rfl) (by kernel_rfl)) ?_
  intro W base args ds gs before hval0 hW hcnd hsz0 _
  have hsz : (DataW.weightsEach Try.prog (Try.f3.params.toList ++ Rows.formulaTurnsSpec.plain.varTypes Try.prog) (ds ++ gs)).all (· ≤ reachBytes) = true := hsz0
  have hval : ∀ (j : Nat) t v, Try.f3.params[j]? = some t → args[j]? = some v → Value.okWide Try.prog W .any base t v := hval0
  have hW' := hW
  obtain ⟨p, q, hA0, hV, rfl, hfz, hnd⟩ := hW
  have hA : DataW.TrodAll enc Try.prog W 0 (fun _ => true) true Try.f3.params.toList args.toList ds p := hA0
  rw [Try.params3] at hA hval hsz
  obtain ⟨v0, vs0, d0, ds0, p0, q0, hargs, rfl, rfl, h0, r0⟩ := trodAll_cons hA
  obtain ⟨v1, vs1, d1, ds1, p1, q1, rfl, rfl, rfl, h1, r1⟩ := trodAll_cons r0
  obtain ⟨v2, vs2, d2, ds2, p2, q2, rfl, rfl, rfl, h2, r2⟩ := trodAll_cons r1
  obtain ⟨rfl, rfl, rfl⟩ := trodAll_nil r2
  obtain rfl : args = #[v0, v1, v2] := by cases args; simp_all
  obtain ⟨rfl, rfl⟩ := trodVars_none hV
  have k0 := h0
  have lt0 : ∀ x ∈ p0, x.block < W.heap.size := by obtain ⟨m, hm⟩ := k0; exact DataW.trod_lt m _ _ _ hm
  obtain ⟨va0, vl0, vc0, rfl⟩ := okWide_slice Try.underlying22 (hval 0 22 v0 rfl rfl)
  obtain ⟨x0, hK0, hB0⟩ := open_param (Opens.slice Try.underlying22 (by kernel_rfl) (Opens.struct Try.underlying32 (by kernel_rfl) (OpensF.cons (off' := 1) rfl (by kernel_rfl) (Opens.int Try.underlying3) (OpensF.one rfl (Opens.int Try.underlying3))))) h0 hsz (j := 0) rfl rfl
  obtain ⟨A0, c0, hc0, hle0, hC0⟩ := hK0
  obtain ⟨rfl, rfl, rfl⟩ : va0 = A0 ∧ vl0 = x0.length ∧ vc0 = c0 := by simpa [Value.cells] using hc0
  have k1 := h1
  have lt1 : ∀ x ∈ p1, x.block < W.heap.size := by obtain ⟨m, hm⟩ := k1; exact DataW.trod_lt m _ _ _ hm
  obtain ⟨va1, vl1, vc1, rfl⟩ := okWide_slice Try.underlying22 (hval 1 22 v1 rfl rfl)
  obtain ⟨x1, hK1, hB1⟩ := open_param (Opens.slice Try.underlying22 (by kernel_rfl) (Opens.struct Try.underlying32 (by kernel_rfl) (OpensF.cons (off' := 1) rfl (by kernel_rfl) (Opens.int Try.underlying3) (OpensF.one rfl (Opens.int Try.underlying3))))) h1 hsz (j := 1) rfl rfl
  obtain ⟨A1, c1, hc1, hle1, hC1⟩ := hK1
  obtain ⟨rfl, rfl, rfl⟩ : va1 = A1 ∧ vl1 = x1.length ∧ vc1 = c1 := by simpa [Value.cells] using hc1
  have k2 := h2
  have lt2 : ∀ x ∈ p2, x.block < W.heap.size := by obtain ⟨m, hm⟩ := k2; exact DataW.trod_lt m _ _ _ hm
  obtain ⟨x2, hK2, hB2⟩ := open_param (Opens.struct Try.underlying27 (by kernel_rfl) (OpensF.cons (off' := 1) rfl (by kernel_rfl) (Opens.int Try.underlying3) (OpensF.cons (off' := 2) rfl (by kernel_rfl) (Opens.bool Try.underlying4) (OpensF.cons (off' := 3) rfl (by kernel_rfl) (Opens.slice Try.underlying23 (by kernel_rfl) (Opens.int Try.underlying3)) (OpensF.cons (off' := 4) rfl (by kernel_rfl) (Opens.slice Try.underlying23 (by kernel_rfl) (Opens.int Try.underlying3)) (OpensF.cons (off' := 5) rfl (by kernel_rfl) (Opens.slice Try.underlying24 (by kernel_rfl) (Opens.bool Try.underlying4)) (OpensF.cons (off' := 6) rfl (by kernel_rfl) (Opens.slice Try.underlying24 (by kernel_rfl) (Opens.bool Try.underlying4)) (OpensF.cons (off' := 7) rfl (by kernel_rfl) (Opens.slice Try.underlying24 (by kernel_rfl) (Opens.bool Try.underlying4)) (OpensF.one rfl (Opens.slice Try.underlying25 (by kernel_rfl) (show Opens Try.prog 36 Go.Proofs.Ytmelefiodhnlpaa.PFormulaTurns.k36 _ from Opens.iso (g := fun a => ⟨a.1, a.2.1, a.2.2.1, a.2.2.2.1, a.2.2.2.2.1, a.2.2.2.2.2.1, a.2.2.2.2.2.2.1, a.2.2.2.2.2.2.2⟩) (fun _ => rfl) (Opens.struct Try.underlying36 (by kernel_rfl) (OpensF.cons (off' := 1) rfl (by kernel_rfl) (Opens.int Try.underlying3) (OpensF.cons (off' := 2) rfl (by kernel_rfl) (Opens.int Try.underlying3) (OpensF.cons (off' := 3) rfl (by kernel_rfl) (Opens.int Try.underlying3) (OpensF.cons (off' := 4) rfl (by kernel_rfl) (Opens.bool Try.underlying4) (OpensF.cons (off' := 5) rfl (by kernel_rfl) (Opens.bool Try.underlying4) (OpensF.cons (off' := 6) rfl (by kernel_rfl) (Opens.bool Try.underlying4) (OpensF.cons (off' := 7) rfl (by kernel_rfl) (Opens.int Try.underlying3) (OpensF.one rfl (Opens.slice Try.underlying23 (by kernel_rfl) (Opens.int Try.underlying3)))))))))))))))))))))) h2 hsz (j := 2) rfl rfl
  obtain ⟨_, _, hc2, rfl, ⟨_, _, rfl, rfl, ⟨_, _, rfl, hF2_2, ⟨_, _, rfl, hF2_3, ⟨_, _, rfl, hF2_4, ⟨_, _, rfl, hF2_5, ⟨_, _, rfl, hF2_6, hF2_7⟩⟩⟩⟩⟩⟩⟩ := hK2
  obtain ⟨A2_2, c2_2, rfl, hle2_2, hC2_2⟩ := hF2_2
  obtain ⟨A2_3, c2_3, rfl, hle2_3, hC2_3⟩ := hF2_3
  obtain ⟨A2_4, c2_4, rfl, hle2_4, hC2_4⟩ := hF2_4
  obtain ⟨A2_5, c2_5, rfl, hle2_5, hC2_5⟩ := hF2_5
  obtain ⟨A2_6, c2_6, rfl, hle2_6, hC2_6⟩ := hF2_6
  obtain ⟨A2_7, c2_7, rfl, hle2_7, hC2_7⟩ := hF2_7
  have hv2 := agg_of Try.underlying27 (hval 2 27 v2 rfl rfl) hc2
  simp only [List.cons_append, List.nil_append] at hv2
  subst hv2
  clear hA0 hval0 hsz0
  refine (FormulaTurns_any va0 vc0 x0 va1 vc1 x1 x2.1 x2.2.1 A2_2 c2_2 x2.2.2.1 A2_3 c2_3 x2.2.2.2.1 A2_4 c2_4 x2.2.2.2.2.1 A2_5 c2_5 x2.2.2.2.2.2.1 A2_6 c2_6 x2.2.2.2.2.2.2.1 A2_7 c2_7 x2.2.2.2.2.2.2.2 W hC0 hC1 hC2_2 hle2_2 hC2_3 hle2_3 hC2_4 hle2_4 hC2_5 hle2_5 hC2_6 hle2_6 hC2_7 hle2_7).mono fun e W' ⟨he, bel⟩ => ?_
  subst he
  exact ⟨_, rfl, _, _, _, [], _, [], hW', trodAll_mk1 (shut_bool Try.underlying4 _), (trodAll_cons_mk (Below.trod laidOut (by kernel_rfl) (of_decide_eq_true (by kernel_rfl)) k0 bel lt0) (trodAll_cons_mk (Below.trod laidOut (by kernel_rfl) (of_decide_eq_true (by kernel_rfl)) k1 bel lt1) (trodAll_cons_mk (Below.trod laidOut (by kernel_rfl) (of_decide_eq_true (by kernel_rfl)) k2 bel lt2) trodAll_mk0))), rfl, bel.frame _, fun h => by cases h⟩
theorem over : Rows.formulaTurnsRow.holds Try.pinned (OpenSpec.ofChange Rows.formulaTurnsSpec) :=
  OpenClaim.holds_of_wide 3 Try.f3 rfl rfl rfl rfl rfl rfl rfl ⟨rfl, rfl, rfl, rfl, rfl⟩ rfl rfl rfl rfl rfl (by kernel_rfl) Try.func3 (by kernel_rfl)
    (of_decide_eq_true (by kernel_rfl)) (by unfold Func.isWrapper; first | (rw [if_pos (by decide +kernel)]; kernel_rfl) | (rw [if_neg (by decide +kernel)]; exact ⟨rfl, rfl⟩))
    (fun os started H enc _ => lifted os started H enc)
theorem proved : Rows.FormulaTurnsSaid := over
#print axioms proved
end Go.Proofs.Ytmelefiodhnlpaa.formulaTurns
namespace Go.Proofs.Ytmelefiodhnlpaa
/-- The row, under a short name, for the claim. -/
theorem formulaTurns_holds : Rows.FormulaTurnsSaid := formulaTurns.proved
end Go.Proofs.Ytmelefiodhnlpaa
