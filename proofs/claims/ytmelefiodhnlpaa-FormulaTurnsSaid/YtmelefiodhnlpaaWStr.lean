/- strings.Builder: WriteString: the walk. -/
import Derived.Test.YtmelefiodhnlpaaBld
import Derived.Test.YtmelefiodhnlpaaFoldW
set_option linter.unusedSimpArgs false
set_option linter.unusedVariables false
namespace Go.Proofs.Ytmelefiodhnlpaa
open Go Go.RowKit Go.Proofs Go.Proofs.YtmelefiodhnlpaaW.PrintWords Go.Proofs.YtmelefiodhnlpaaW.PrintLast Go.Proofs.YtmelefiodhnlpaaW.PrintMore

/-- Blocks of other types than a builder's are as they were. -/
def KeptT (w w' : World) : Prop := ∀ (k : Nat) cs T fr, w.heap[k]? = some (.cells cs T fr) → T ≠ 66 → T ≠ 5 → w'.heap[k]? = w.heap[k]?
theorem KeptT.trans {w w1 w2 : World} (h : KeptT w w1) (h' : KeptT w1 w2) : KeptT w w2 := fun k cs T fr hk h1 h2 => by
  have e := h k cs T fr hk h1 h2
  exact (h' k cs T fr (e.trans hk) h1 h2).trans e
theorem KeptT.refl (w : World) : KeptT w w := fun _ _ _ _ _ _ _ => rfl
theorem KeptT.of_below {w w' : World} (h : Below w.heap.size w w') : KeptT w w' := fun k cs T fr hk _ _ => h.block k (Array.getElem?_eq_some_iff.1 hk).1
theorem KeptT.set {w : World} {b : Nat} {cs : Array Value} {fr : Nat × Nat} (h : w.heap[b]? = some (.cells cs 66 fr)) (j : Nat) (v : Value) : KeptT w (w.setCell ⟨b, j, none⟩ v) := fun k cs' T fr' hk h1 h2 => by
  refine Below.heap_setCell _ _ _ _ (fun e => ?_)
  have e' : k = b := e
  subst e'
  rw [h] at hk
  cases hk
  exact h1 rfl
theorem KeptT.grown {w w' : World} {B : Nat} {v : Value} {n : Nat} {xs : List Value} (h : w.ownsRow B 5 1 v n xs) (hg : w.grownBy w' v.ownBlock) : KeptT w w' := fun k cs T fr hk h1 h2 => by
  refine hg.block k (Array.getElem?_eq_some_iff.1 hk).1 (fun e => ?_)
  rcases h.2 with ⟨rfl, _⟩ | ⟨g, cap, cur, rfl, _, hg2, _⟩
  · cases e
  · cases e
    rw [hg2] at hk
    cases hk
    exact h2 rfl
theorem copyCheck_kept (B b : Nat) (bs : List Value) (w : World) (h : Lib.IsBuilder 66 5 B b bs w) :
    Calls Try.prog 25 #[.pointer (some ⟨b, 0, none⟩)] w fun e w' => e = .returned (.tuple #[]) ∧ (Lib.BuilderAt 66 5 B b (.pointer (some ⟨b, 0, none⟩)) bs w' ∧ Below B w w') ∧ KeptT w w' := by
  rcases h with h | h
  · refine (copyCheck_fresh b w h.cell0 h.shape h.frozen0).mono ?_
    rintro e w' ⟨rfl, rfl⟩
    obtain ⟨h1, v, h2, h3⟩ := id h
    exact ⟨rfl, ⟨h.used _, (Below.refl B w).setCell (p := ⟨b, 0, none⟩) h.1 _⟩, KeptT.set h2 0 _⟩
  · refine (copyCheck_used b w h.cell0).mono ?_
    rintro e w' ⟨rfl, rfl⟩
    exact ⟨rfl, ⟨h, Below.refl B _⟩, KeptT.refl _⟩

set_option maxHeartbeats 1000000 in
theorem WriteString_calls (B b : Nat) (l : List UInt8) (s : ByteArray) (w : World) (h : Lib.IsBuilder 66 5 B b (Lib.byteCells l) w) (hB : B ≤ w.heap.size) (hl : l.length + s.size ≤ 1000000) :
    Calls Try.prog 23 #[.pointer (some ⟨b, 0, none⟩), .string s] w fun e w' => (∃ v, e = .returned v) ∧ (Lib.IsBuilder 66 5 B b (Lib.byteCells (l ++ s.data.toList)) w' ∧ Below B w w' ∧ KeptT w w') := by
  have HC := copyCheck_kept B b (Lib.byteCells l) w h
  clear h
  go_enter Try.func23, Try.ntmps23
  go_wp2_with fail
  refine HC.mono ?_
  clear HC
  rintro e w1 ⟨rfl, ⟨⟨hBb, v, hbk, hown, hne⟩, hb1⟩, hkt1⟩
  have HKT1 := Lib.hid hkt1
  clear hkt1
  have c1 := Lib.cell_of_heap hbk 1
  have f1 := Lib.frozen_of_heap hbk 1
  have hsz1 := hb1.size
  have HK := Lib.hid hbk
  have HO := Lib.hid hown
  clear hbk hown
  obtain ⟨j, hj, hj0, hj1, hj2⟩ : ∃ j, Try.prog.info? 5 = some j ∧ j.zero = some (.int .u8 0) ∧ j.size = 1 ∧ j.bytes = 1 := by
    obtain ⟨j, hj, he⟩ := Option.map_eq_some_iff.1 (show (Try.prog.info? 5).map (fun i => (i.zero, i.size, i.bytes)) = some (some (.int .u8 0), 1, 1) by kernel_rfl)
    simp only [Prod.mk.injEq] at he
    exact ⟨j, hj, he.1, he.2.1, he.2.2⟩
  have hlen : (Lib.byteCells l).length = l.length := by simp [Lib.byteCells]
  go_wp2_with (at_builtin; refine Lib.wpList_append_own_string _ rfl _ _ 64 9 rfl B 5 j Try.underlying64 Try.underlying9 hj hj0 hj1 hj2 v (Lib.byteCells l).length (Lib.byteCells l) rfl HO.out s rfl ?c3 ?c4 ?c5 ?_)
  case c3 => simp only [maxLen]; omega
  case c4 => omega
  case c5 => omega
  intro v' w2 hown2 hg2 _
  obtain ⟨oa, cc, rfl, _⟩ := slice_cap hown2
  have hb2 : Below B w w2 := hb1.grown hg2 (by omega) (fun r e => own_base HO.out r e)
  have hk2 : w2.heap[b]? = some (.cells #[.pointer (some ⟨b, 0, none⟩), v] 66 (0, 0)) := (hg2.block b (Array.getElem?_eq_some_iff.1 HK.out).1 (Ne.symm hne)).trans HK.out
  have c2 := Lib.cell_of_heap hk2 1
  have f2 := Lib.frozen_of_heap hk2 1
  have HB2 := Lib.hid hb2
  have HKT2 := Lib.hid ((HKT1.out.trans (KeptT.grown HO.out hg2)).trans (KeptT.set hk2 1 (Value.slice oa (l.length + s.size) cc)))
  have HP := Lib.hid (Lib.BuilderAt.put (bs' := Lib.byteCells (l ++ s.data.toList)) hBb hk2 (by
    have : Lib.byteCells (l ++ s.data.toList) = Lib.byteCells l ++ Lib.strCells s := by simp [Lib.byteCells, Lib.strCells]
    rw [this, List.length_append, Lib.strCells_length, show (Lib.byteCells l).length = l.length by simp [Lib.byteCells]]
    exact hown2) (by decide))
  clear hown2 hg2 hk2 hb2 hlen
  go_wp2
  go_ret2
  exact ⟨⟨_, rfl⟩, Or.inr HP.out, HB2.out.setCell (p := ⟨b, 1, none⟩) hBb _, HKT2.out⟩
end Go.Proofs.Ytmelefiodhnlpaa
