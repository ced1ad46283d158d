/- moatlaw0.SameTexts of a list and itself. -/
import Derived.Test.YtfmppmabnpkooaaDoorBFx1
set_option linter.unusedSimpArgs false
set_option linter.unusedVariables false
namespace Go.Proofs.YtfmppmabnpkooaaDoor
open Go Go.RowKit Go.Proofs.YtfmppmabnpkooaaDoorW.PrintWords Go.Proofs.YtfmppmabnpkooaaDoorW.PrintLast Go.Proofs.YtfmppmabnpkooaaDoorW.PrintMore

theorem texts_same (l : List ByteArray) (hl : l.length ≤ 1000000) : ∀ (d k i : Nat), i + d = l.length → BF.moatlaw0_SameTexts.l0 (k + d + 1) l l (i : Int) = some true := by
  intro d
  induction d with
  | zero =>
    intro k i h
    rw [show k + 0 + 1 = k + 1 from rfl]
    simp only [BF.moatlaw0_SameTexts.l0]
    rw [if_neg (by omega)]
  | succ d ih =>
    intro k i h
    rw [show k + (d + 1) + 1 = (k + d + 1) + 1 by omega]
    rw [BF.moatlaw0_SameTexts.l0.eq_2, if_pos (by omega), if_pos (by omega), if_pos (by omega), if_pos rfl, show wrap64 ((i : Int) + 1) = ((i + 1 : Nat) : Int) by unfold wrap64; omega]
    exact ih k (i + 1) (by omega)
theorem SameTexts_f (l : List ByteArray) (hl : l.length ≤ 1000000) (k : Nat) : BF.moatlaw0_SameTexts.f (k + l.length + 1) l l = some true := by
  unfold BF.moatlaw0_SameTexts.f
  rw [if_pos rfl]
  exact texts_same l hl l.length k 0 (by omega)

end Go.Proofs.YtfmppmabnpkooaaDoor
