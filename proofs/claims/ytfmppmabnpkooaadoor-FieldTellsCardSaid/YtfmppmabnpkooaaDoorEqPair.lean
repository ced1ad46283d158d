/- '==' of two arrays of two texts; a slice with a row of its own is written out; the cells of a row of pairs. -/
import Derived.Test.YtfmppmabnpkooaaDoorPairs
set_option linter.unusedSimpArgs false
set_option linter.unusedVariables false
namespace Go.Proofs.YtfmppmabnpkooaaDoor
open Go Go.RowKit Go.Proofs.YtfmppmabnpkooaaDoorW.PrintWords

theorem eq_str (d : Nat) (a c : ByteArray) (w : World) : (Op.equalIn (d + 1) 9 (.string a) (.string c)).run Tryd.prog w = .ok (a == c) w := by
  unfold Op.equalIn
  simp [run_underlying Tryd.underlying9]
theorem part0 (a b : ByteArray) (w : World) : (part 9 #[Value.string a, Value.string b] 0).run Tryd.prog w = .ok (.string a) w := by kernel_rfl
theorem part1 (a b : ByteArray) (w : World) : (part 9 #[Value.string a, Value.string b] 1).run Tryd.prog w = .ok (.string b) w := by kernel_rfl
theorem eq_pair (a b c d : ByteArray) (w : World) : (Op.equalIn 10000 29 (.agg #[.string a, .string b]) (.agg #[.string c, .string d])).run Tryd.prog w = .ok (a == c && b == d) w := by
  have e9 : ∀ x y w, (Op.equalIn 9999 9 (.string x) (.string y)).run Tryd.prog w = .ok (x == y) w := fun x y w => eq_str 9998 x y w
  rw [show (10000 : Nat) = 9999 + 1 from rfl]
  unfold Op.equalIn
  simp [run_underlying Tryd.underlying29]
  rw [show List.range' 0 2 = [0, 1] from rfl]
  simp [part0, part1, e9]
  cases (a == c) <;> cases (b == d) <;> simp [part0, part1, e9]
theorem eq_pair_same (a b : ByteArray) (w : World) : (Op.equalIn 10000 29 (.agg #[.string a, .string b]) (.agg #[.string a, .string b])).run Tryd.prog w = .ok true w := by
  have h : ∀ x : ByteArray, (x == x) = true := fun x => by
    obtain ⟨d⟩ := x
    show (d == d) = true
    simp
  rw [eq_pair, h, h]; rfl

theorem slice_of {W : World} {base : Nat} {e : TypeId} {size : Nat} {v : Value} {n : Nat} {xs : List Value} (h : W.ownsRow base e size v n xs) : ∃ oa c, v = .slice oa n c ∧ (0 < n → ∃ g, oa = some ⟨g, 0, none⟩) := by
  rcases h.2 with ⟨rfl, rfl⟩ | ⟨g, cap, cur, rfl, _⟩
  · exact ⟨_, _, rfl, fun h => absurd h (by omega)⟩
  · exact ⟨_, _, rfl, fun _ => ⟨g, rfl⟩⟩

theorem pair_flat : ∀ (l : List (ByteArray × ByteArray)) (i : Nat) (p : ByteArray × ByteArray), l[i]? = some p → (l.flatMap pairCells)[i * 2]? = some (.string p.1) ∧ (l.flatMap pairCells)[i * 2 + 1]? = some (.string p.2)
  | [], i, p, h => by simp at h
  | x :: l, 0, p, h => by
    obtain rfl : x = p := by simpa using h
    simp [pairCells]
  | x :: l, i + 1, p, h => by
    have ih := pair_flat l i p (by simpa using h)
    have e : (x :: l).flatMap pairCells = .string x.1 :: .string x.2 :: l.flatMap pairCells := by simp [pairCells]
    rw [e, show (i + 1) * 2 = i * 2 + 1 + 1 by omega]
    exact ih
end Go.Proofs.YtfmppmabnpkooaaDoor
