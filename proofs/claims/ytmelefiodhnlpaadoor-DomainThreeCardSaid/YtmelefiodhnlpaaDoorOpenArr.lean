/- A parameter that is an array of three numbers. -/
import Derived.Test.YtmelefiodhnlpaaDoorOpen
namespace Go.Proofs.YtmelefiodhnlpaaDoor
open Go Go.RowKit Go.ChangeShapes Go.WideShapes Go.Proofs.YtmelefiodhnlpaaDoorW.PrintWords
theorem agg_of_array {P : Program} {w : World} {r : Reach} {b : Nat} {t e : TypeId} {n : Nat} {v : Value} {l : List Value} (ht : P.underlying t = some (.array n e)) (h : Value.okWide P w r b t v) (hl : v.cells.toList = l) : v = .agg l.toArray := by
  simp only [Value.okWide, ht] at h
  obtain ⟨cs, rfl, _⟩ := h
  subst hl
  simp [Value.cells]
theorem three_ints {w : World} {hs : 0 < (Kd.int .i64).sz} {xs : List Int} {cs : List Value} (h : (Kd.arr 3 (Kd.int .i64) hs).K w xs cs) : ∃ a b c, xs = [a, b, c] ∧ cs = [.int .i64 a, .int .i64 b, .int .i64 c] := by
  obtain ⟨hl, hr1, hr2⟩ := h
  match xs, hl with
  | [a, b, c], _ =>
    match cs, hr1 with
    | [u0, u1, u2], _ =>
      have h0 := hr2 0 a rfl
      have h1 := hr2 1 b rfl
      have h2 := hr2 2 c rfl
      refine ⟨a, b, c, rfl, ?_⟩
      have g0 : [u0] = [.int .i64 a] := h0
      have g1 : [u1] = [.int .i64 b] := h1
      have g2 : [u2] = [.int .i64 c] := h2
      rw [List.singleton_inj.1 g0, List.singleton_inj.1 g1, List.singleton_inj.1 g2]
end Go.Proofs.YtmelefiodhnlpaaDoor
