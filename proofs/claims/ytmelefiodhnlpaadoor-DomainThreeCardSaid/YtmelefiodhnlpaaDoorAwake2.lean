/- moatlaw2.awake answers true: a straight walk, each call by its contract. -/
import Derived.Test.YtmelefiodhnlpaaDoorPlain
import Derived.Test.YtmelefiodhnlpaaDoorBBx
set_option linter.unusedSimpArgs false
set_option linter.unusedVariables false
namespace Go.Proofs.YtmelefiodhnlpaaDoor
open Go Go.RowKit Go.Proofs.YtmelefiodhnlpaaDoorW.PrintWords Go.Proofs.YtmelefiodhnlpaaDoorW.PrintLast Go.Proofs.YtmelefiodhnlpaaDoorW.PrintMore

theorem texts_new (W : World) (l : List ByteArray) (h : l.length ≤ 9223372036854775807) :
    Kd.C Kd.string (W.alloc (.cells (l.map Value.string).toArray 9)) (some ⟨W.heap.size, 0, none⟩) l.length l := by
  refine ⟨rfl, h, fun _ => ⟨_, rfl, fun j p hj => ⟨[.string p], rfl, rfl, fun i u hu => ?_⟩⟩⟩
  cases i with
  | succ i => simp at hu
  | zero =>
    simp at hu
    subst hu
    have e : (⟨W.heap.size, 0, none⟩ : Addr).add (j * 1 + 0) = ⟨W.heap.size, j, none⟩ := by
      simp [Addr.add]; intro h; exact h.symm
    rw [show Kd.string.sz = 1 from rfl, e]
    simp only [World.cell?_alloc_new]
    simp [hj]

set_option maxRecDepth 100000 in
set_option maxHeartbeats 1000000 in
theorem awake2_calls (w : World) : Calls Tryd.prog 11 #[] w fun e w' => e = .returned (.bool true) ∧ Below w.heap.size w w' := by
  go_enter Tryd.func11, Tryd.ntmps11
  go_wp2_with fail
  refine (BB.domain_Site.calls _ ⟨#[98, 46, 101, 120, 97, 109, 112, 108, 101]⟩ _ ?f1).mono ?_
  case f1 => rw [Site_f _ (by decide)]; exact congrArg some (by decide)
  rintro e w1 ⟨rfl, hb1⟩
  have hz1 := hb1.size
  go_wp2_with fail
  refine (BB.domain_Under.calls _ _ true _ ?f2).mono ?_
  case f2 => rw [Under_f _ _ (by decide) (by decide)]; exact congrArg some (by decide)
  rintro e w2 ⟨rfl, hb2⟩
  have hz2 := hb2.size
  go_wp2_with fail
  refine (BB.domain_Under.calls _ _ false _ ?f3).mono ?_
  case f3 => rw [Under_f _ _ (by decide) (by decide)]; exact congrArg some (by decide)
  rintro e w3 ⟨rfl, hb3⟩
  have hz3 := hb3.size
  go_wp2_with fail
  refine (BB.domain_SameSite.calls _ _ _ _ _ _ _ _ true _ ?f4).mono ?_
  case f4 => rw [SameSite_f _ _ _ _ _ _ _ _ (by decide) (by decide)]; exact congrArg some (by decide)
  rintro e w4 ⟨rfl, hb4⟩
  have hz4 := hb4.size
  go_wp2_with fail
  refine (BB.domain_Labels.calls _ [⟨#[97]⟩, ⟨#[98]⟩] _ ?f5).mono ?_
  case f5 => rw [Labels_f _ (by decide)]; exact congrArg some (by decide)
  rintro e w5 ⟨v5, rfl, hR5, hb5⟩
  have hz5 := hb5.size
  obtain ⟨A5, c5, rfl, hc5, hC5⟩ := Kd.R_reads hR5
  go_wp2_with fail
  refine (BB.moatlaw0_SameTexts.calls 4 A5 c5 [⟨#[97]⟩, ⟨#[98]⟩] (some ⟨w5.heap.size, 0, none⟩) 2 [⟨#[97]⟩, ⟨#[98]⟩] true _ (Kd.C_below hC5 ((Below.refl _ w5).alloc (Nat.le_refl _) _)) hc5 (texts_new w5 [⟨#[97]⟩, ⟨#[98]⟩] (by decide)) (Nat.le_refl _) ?f6).mono ?_
  case f6 =>
    simp only [BB.moatlaw0_SameTexts.f, BB.moatlaw0_SameTexts.l0, Go.ByteArray.toList_eq]
    decide +kernel
  rintro e w6 ⟨rfl, ⟨nd, rfl⟩⟩
  go_wp2
  go_ret
  have b2 := hb1.trans (hb2.mono (by omega))
  have b3 := b2.trans (hb3.mono (by omega))
  have b4 := b3.trans (hb4.mono (by omega))
  have b5 := (b4.trans (hb5.mono (by omega))).alloc (by omega) (.cells #[.string ⟨#[97]⟩, .string ⟨#[98]⟩] 9)
  exact ⟨rfl, pw_below_drewN b5 _⟩

def moatlaw2_awake.f : Option Bool := some true
theorem moatlaw2_awake.calls (r : Bool) (w : World) (h : moatlaw2_awake.f = some r) :
    Calls Tryd.prog 11 #[] w fun e w' => e = .returned (.bool r) ∧ Below w.heap.size w w' := by
  obtain rfl := Option.some.inj h
  exact awake2_calls w
end Go.Proofs.YtmelefiodhnlpaaDoor
