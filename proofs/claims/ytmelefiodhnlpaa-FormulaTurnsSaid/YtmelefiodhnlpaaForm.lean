/- The package formula: takes, at, fold of depths: the walks. -/
import Derived.Test.YtmelefiodhnlpaaProg
import Derived.Below
import Derived.Deep.Draws
import Derived.Deep.AppendLies
import Derived.Maps.AppendAt
import Derived.OwnWalk
import Derived.Laws.BytesArg
import Derived.Laws.MakeOwn
import Derived.Laws.OwnMore
import Derived.Deep.OwnRows
import Derived.Tactics
import Derived.Lib.ConvBytes
import Derived.Laws.Slices
import Derived.WalkKit
import Derived.KernelRfl
import Derived.RowKit3
import Derived.Deep.LoopGhost
import Derived.Deep.QuietTactic
import Derived.BigQuiet
import Derived.WideLaws
import Derived.Deep.DeepCutAuto
import Derived.Deep.CutBlock
import Derived.Deep.RegionHeld3
import Derived.Laws.Rows
import Derived.Lib.AppendStr
import Derived.ArgAppend
import Derived.Laws.IdiomCopy
import Derived.OrdersHeld
import Derived.Laws.BitsLemmas
import Derived.RowKit
import Derived.Test.YtmelefiodhnlpaaFold
import Derived.Test.YtmelefiodhnlpaaReg
import Derived.Test.YtmelefiodhnlpaaWMore
import Derived.Deep.DeepCutAuto
import Derived.Lib.Hide
set_option linter.unusedSimpArgs false
set_option linter.unusedVariables false
namespace Go.Proofs.Ytmelefiodhnlpaa
open Go Go.RowKit Go.Proofs.YtmelefiodhnlpaaW.PrintWords Go.Proofs.YtmelefiodhnlpaaW.PrintLast Go.Proofs.YtmelefiodhnlpaaW.PrintMore

set_option maxHeartbeats 1000000 in
theorem takes_calls (k : Int) (w : World) : Calls Try.prog 16 #[.int .i64 k] w fun e w' => e = .returned (.int .i64 (takesL k)) ∧ w = w' := by
  by_cases h : k = 1 ∨ k = 2 ∨ k = 3 ∨ k = 4 ∨ k = 5 ∨ k = 6 ∨ k = 7 ∨ k = 8
  · rcases h with rfl | rfl | rfl | rfl | rfl | rfl | rfl | rfl
    all_goals
      go_enter Try.func16, Try.ntmps16
      go_wp2
      go_ret
      exact ⟨rfl, rfl⟩
  · have e1 : (k == 1) = false := beq_eq_false_iff_ne.2 (by omega)
    have e2 : (k == 2) = false := beq_eq_false_iff_ne.2 (by omega)
    have e3 : (k == 3) = false := beq_eq_false_iff_ne.2 (by omega)
    have e4 : (k == 4) = false := beq_eq_false_iff_ne.2 (by omega)
    have e5 : (k == 5) = false := beq_eq_false_iff_ne.2 (by omega)
    have e6 : (k == 6) = false := beq_eq_false_iff_ne.2 (by omega)
    have e7 : (k == 7) = false := beq_eq_false_iff_ne.2 (by omega)
    have e8 : (k == 8) = false := beq_eq_false_iff_ne.2 (by omega)
    have HT : Hid (takesL k = -1) := Lib.hid (by unfold takesL; rw [if_neg (by omega), if_neg (by omega), if_neg (by omega)])
    clear h
    go_enter Try.func16, Try.ntmps16
    go_wp2
    go_ret
    exact ⟨by rw [HT.out]; rfl, rfl⟩

/-- A slice of parts. -/
def partK : Kd (Int × Int) := Kd.pair (Kd.int .i64) (Kd.int .i64)
theorem part_at {w : World} {A : Option Addr} {n : Nat} {xs : List (Int × Int)} (h : Kd.C partK w A n xs) (i : Nat) (p : Int × Int) (hi : xs[i]? = some p) :
    ∃ ad, A = some ad ∧ w.cell? (ad.add (i * 2)) = some (.int .i64 p.1) ∧ w.cell? (ad.add (i * 2 + 1)) = some (.int .i64 p.2) := by
  obtain ⟨h1, _, h2⟩ := h
  have hlt : i < xs.length := (List.getElem?_eq_some_iff.1 hi).1
  obtain ⟨ad, e, hc⟩ := h2 (by omega)
  obtain ⟨c, _, hr, hcell⟩ := hc i p hi
  obtain ⟨_, _, rfl, rfl, rfl⟩ := hr
  exact ⟨ad, e, hcell 0 _ rfl, hcell 1 _ rfl⟩

set_option maxRecDepth 100000 in
set_option maxHeartbeats 1000000 in
theorem Deep1_calls (p : Int × Int) (A : Option Addr) (c : Nat) (xs : List Int) (w : World) (hC : Kd.C (Kd.int .i64) w A xs.length xs) (hb : ∀ x ∈ xs, 0 ≤ x ∧ x ≤ 1000000) (hl : xs.length ≤ 1000000) :
    Calls Try.prog 9 #[.agg #[.int .i64 p.1, .int .i64 p.2], .slice A xs.length c] w fun e w' => e = .returned (.int .i64 (depthD p xs)) ∧ Below w.heap.size w w' := by
  have HC := Lib.hid hC
  have HBd := Lib.hid hb
  clear hC hb
  go_enter Try.func9, Try.ntmps9
  go_wp2_with fail
  obtain ⟨W0, hW0⟩ : ∃ W0, w.alloc (.cells #[.int .i64 p.1, .int .i64 p.2] 32) = W0 := ⟨_, rfl⟩
  have hB0 : Below w.heap.size w W0 := by rw [← hW0]; exact (Below.refl _ w).alloc (Nat.le_refl _) _
  rw [hW0]
  clear hW0
  have HB0 := Lib.hid hB0
  have HC0 := Lib.hid (Kd.C_below HC.out hB0)
  clear hB0
  go_loopg [5, 10] xs.length (fun gk v5 v10 wr => ∃ i : Nat, v10 = .int .i64 i ∧ i + gk = xs.length ∧ v5 = .int .i64 ((xs.take i).foldl max 0) ∧ wr = W0)
  case atStart => exact ⟨0, rfl, by omega, rfl, rfl⟩
  case round =>
    obtain ⟨i, rfl, hik, rfl, rfl⟩ := hrel
    have hm := foldl_max (xs.take i) 0
    have hm2 := foldl_max_le (xs.take i) 0 1000000 (by omega) (fun y hy => (HBd.out y (List.mem_of_mem_take hy)).2)
    by_cases hi : i < xs.length
    · obtain ⟨ad, rfl, hc⟩ := Kd.at_int HC0.out (i : Int) (by omega) (by omega)
      simp only [Int.toNat_natCast] at hc
      have hx := HBd.out xs[i] (List.getElem_mem hi)
      have hrd : rd xs (i : Int) = xs[i] := by simp [rd, List.getD_eq_getElem?_getD, List.getElem?_eq_getElem hi]
      rw [hrd] at hc
      have HT := Lib.hid (show (xs.take (i + 1)).foldl max 0 = max ((xs.take i).foldl max 0) xs[i] by
        rw [List.take_succ_eq_append_getElem hi, List.foldl_append]; rfl)
      generalize xs[i] = x at hc hx HT
      clear hrd
      generalize (xs.take i).foldl max 0 = mx at *
      have hi1 : (i : Int) < (xs.length : Int) := by omega
      go_wp2
      all_goals
        go_roundg (gk - 1)
        case measure => omega
        case rel => exact ⟨i + 1, by go_num, by omega, by rw [HT.out]; exact congrArg _ (by omega), rfl⟩
    · have HT := Lib.hid (show (xs.take i).foldl max 0 = xs.foldl max 0 by rw [List.take_of_length_le (by omega)])
      generalize (xs.take i).foldl max 0 = mx at *
      go_wp2
      go_ret
      exact ⟨by unfold depthD; rw [← HT.out]; rfl, HB0.out⟩
end Go.Proofs.Ytmelefiodhnlpaa
