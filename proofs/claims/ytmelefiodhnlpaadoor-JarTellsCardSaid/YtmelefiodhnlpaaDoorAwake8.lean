/- moatlaw8.awake answers true: a straight walk, each call by its contract. -/
import Derived.Test.YtmelefiodhnlpaaDoorJar
set_option linter.unusedSimpArgs false
set_option linter.unusedVariables false
namespace Go.Proofs.YtmelefiodhnlpaaDoor
open Go Go.RowKit Go.Proofs.YtmelefiodhnlpaaDoorW.PrintWords Go.Proofs.YtmelefiodhnlpaaDoorW.PrintLast Go.Proofs.YtmelefiodhnlpaaDoorW.PrintMore

theorem bcell {W w1 : World} (hb : Below W.heap.size W w1) : (∀ b o, b < W.heap.size → w1.cell? ⟨b, o, none⟩ = W.cell? ⟨b, o, none⟩) ∧ (∀ b o, b < W.heap.size → w1.frozen? ⟨b, o, none⟩ = W.frozen? ⟨b, o, none⟩) :=
  ⟨fun b o h => hb.cell (p := ⟨b, o, none⟩) h, fun b o h => hb.frozen (p := ⟨b, o, none⟩) h⟩

set_option maxRecDepth 100000 in
set_option maxHeartbeats 1000000 in
theorem awake8_calls (w : World) : Calls Tryd.prog 18 #[] w fun e w' => e = .returned (.bool true) ∧ Below w.heap.size w w' := by
  go_enter Tryd.func18, Tryd.ntmps18
  go_wp2_with fail
  refine (BB.jar_Fits.calls 1 _ _ _ _ _ _ _ _ _ _ _ _ _ true _ ?f1).mono ?_
  case f1 => rw [Fits_f _ _ _ _ _ _ _ _ _ _ _ _ _ _ (by decide) (by decide) (by decide) (by decide)]; exact congrArg some (by decide)
  rintro e w1 ⟨rfl, hb1⟩
  obtain ⟨hc1, hf1⟩ := bcell hb1
  have hz1 := hb1.size
  simp only [World.size_alloc] at hz1
  have z1 : w.heap.size < w1.heap.size := by omega
  have y1 : w.heap.size + 1 < w1.heap.size := by omega
  go_wp2_with fail
  refine (BB.jar_Visible.calls 1 _ _ _ _ _ _ _ _ _ _ _ _ _ false _ ?f2).mono ?_
  case f2 => rw [Visible_f _ _ _ _ _ _ _ _ _ _ _ _ _ _ (by decide) (by decide) (by decide) (by decide)]; exact congrArg some (by decide)
  rintro e w2 ⟨rfl, hb2⟩
  obtain ⟨hc2, hf2⟩ := bcell hb2
  have hz2 := hb2.size
  have z2 : w.heap.size < w2.heap.size := by omega
  have y2 : w.heap.size + 1 < w2.heap.size := by omega
  go_wp2_with fail
  refine (BB.jar_Goes.calls _ _ _ _ _ _ _ _ _ _ false _ ?f3).mono ?_
  case f3 => rw [Goes_f]; exact congrArg some (by decide)
  rintro e w3 ⟨rfl, hb3⟩
  obtain ⟨hc3, hf3⟩ := bcell hb3
  have hz3 := hb3.size
  have z3 : w.heap.size < w3.heap.size := by omega
  have y3 : w.heap.size + 1 < w3.heap.size := by omega
  go_wp2_with fail
  refine (BB.jar_Goes.calls _ _ _ _ _ _ _ _ _ _ true _ ?f4).mono ?_
  case f4 => rw [Goes_f]; exact congrArg some (by decide)
  rintro e w4 ⟨rfl, hb4⟩
  obtain ⟨hc4, hf4⟩ := bcell hb4
  have hz4 := hb4.size
  have z4 : w.heap.size < w4.heap.size := by omega
  have y4 : w.heap.size + 1 < w4.heap.size := by omega
  go_wp2_with fail
  refine (BB.jar_Near.calls (-2) 0 none 0 [] true _ (Kd.C_nil _ _) (Nat.le_refl _) ?f5).mono ?_
  case f5 => rfl
  rintro e w5 ⟨rfl, hb5⟩
  obtain ⟨hc5, hf5⟩ := bcell hb5
  have hz5 := hb5.size
  have z5 : w.heap.size < w5.heap.size := by omega
  have y5 : w.heap.size + 1 < w5.heap.size := by omega
  go_wp2_with fail
  refine (BB.jar_Near.calls (-1) 0 (some ⟨w5.heap.size, 0, none⟩) 1 [⟨⟨#[]⟩, ⟨#[104, 116, 116, 112]⟩, ⟨#[97, 46, 116, 101, 115, 116]⟩, 0⟩] false _ ?g6 (Nat.le_refl _) ?f6).mono ?_
  case f6 => rfl
  case g6 =>
    refine ⟨rfl, by decide, fun _ => ⟨_, rfl, fun j p hj => ?_⟩⟩
    cases j with
    | succ j => simp at hj
    | zero =>
      simp at hj
      subst hj
      refine ⟨_, rfl, BB.k32_mk _ _, fun i u hu => ?_⟩
      have e : (⟨w5.heap.size, 0, none⟩ : Addr).add (0 * 4 + i) = ⟨w5.heap.size, i, none⟩ := by
        simp [Addr.add]; intro h; exact h.symm
      rw [show BB.k32.sz = 4 from rfl, e]
      simp only [World.cell?_alloc_new]
      simpa using hu
  rintro e w6 ⟨rfl, hb6⟩
  go_wp2
  go_ret
  have b1 : Below w.heap.size w w1 := (((Below.refl _ w).alloc (Nat.le_refl _) _).alloc (by simp) _).trans (hb1.mono (by simp; omega))
  have b2 := b1.trans (hb2.mono (by omega))
  have b3 := b2.trans (hb3.mono (by omega))
  have b4 := b3.trans (hb4.mono (by omega))
  have b5 := (b4.trans (hb5.mono (by omega))).alloc (by omega) (.cells #[.string ⟨#[]⟩, .string ⟨#[104, 116, 116, 112]⟩, .string ⟨#[97, 46, 116, 101, 115, 116]⟩, .int .i64 0] 32)
  exact ⟨rfl, b5.trans (hb6.mono (by simp; omega))⟩

def moatlaw8_awake.f : Option Bool := some true
theorem moatlaw8_awake.calls (r : Bool) (w : World) (h : moatlaw8_awake.f = some r) :
    Calls Tryd.prog 18 #[] w fun e w' => e = .returned (.bool r) ∧ Below w.heap.size w w' := by
  obtain rfl := Option.some.inj h
  exact awake8_calls w
end Go.Proofs.YtmelefiodhnlpaaDoor
