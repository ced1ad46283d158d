/- Rows of a formula's parts: cells, appends. -/
import Derived.Test.YtmelefiodhnlpaaFoldW
import Derived.Test.YtmelefiodhnlpaaReg
set_option linter.unusedSimpArgs false
set_option linter.unusedVariables false
namespace Go.Proofs.Ytmelefiodhnlpaa
open Go Go.RowKit Go.Proofs.YtmelefiodhnlpaaW.PrintWords Go.Proofs.YtmelefiodhnlpaaW.PrintLast Go.Proofs.YtmelefiodhnlpaaW.PrintMore

def pcs (f : List (Int × Int)) : List Value := f.flatMap fun p => [.int .i64 p.1, .int .i64 p.2]
theorem pcs_length : ∀ f, (pcs f).length = f.length * 2
  | [] => rfl
  | p :: f => by
    have := pcs_length f
    show (Value.int .i64 p.1 :: Value.int .i64 p.2 :: pcs f).length = _
    simp only [List.length_cons, this]; omega
theorem pcs_append (f g : List (Int × Int)) : pcs (f ++ g) = pcs f ++ pcs g := List.flatMap_append
theorem pcs_one (f : List (Int × Int)) : ∀ u ∈ pcs f, u.oneCell' = true := fun u hu => by
  obtain ⟨p, _, h⟩ := List.mem_flatMap.1 hu
  simp only [List.mem_cons, List.not_mem_nil, or_false] at h
  rcases h with rfl | rfl <;> rfl
theorem pcs_at {w : World} {ad : Addr} : ∀ (f : List (Int × Int)) (k : Nat), (∀ j p, f[j]? = some p → w.cell? (ad.add ((k + j) * 2)) = some (.int .i64 p.1) ∧ w.cell? (ad.add ((k + j) * 2 + 1)) = some (.int .i64 p.2)) →
    ∀ j u, (pcs f)[j]? = some u → w.cell? (ad.add (k * 2 + j)) = some u
  | [], _, _, j, u, h => by simp [pcs] at h
  | p :: f, k, hc, j, u, h => by
    have h' : (Value.int .i64 p.1 :: Value.int .i64 p.2 :: pcs f)[j]? = some u := h
    have h0 := hc 0 p rfl
    match j with
    | 0 => cases h'; exact h0.1
    | 1 => cases h'; exact h0.2
    | j + 2 =>
      have ih := pcs_at f (k + 1) (fun i q hq => by
        have := hc (i + 1) q hq
        rw [show k + (i + 1) = k + 1 + i by omega] at this
        exact this) j u h'
      rw [show (k + 1) * 2 + j = k * 2 + (j + 2) by omega] at ih
      exact ih
theorem pcs_news {w : World} {ad : Addr} {n : Nat} {f : List (Int × Int)} (h : Kd.C partK w (some ad) n f) : ∀ j u, (pcs f)[j]? = some u → w.cell? (ad.add j) = some u := fun j u hj => by
  have := pcs_at (w := w) (ad := ad) f 0 (fun j p hp => by
    obtain ⟨ad', e, q1, q2⟩ := part_at h j p hp
    cases e
    rw [Nat.zero_add]
    exact ⟨q1, q2⟩) j u hj
  rwa [Nat.zero_mul, Nat.zero_add] at this
theorem pcs_seg : ∀ (f : List (Int × Int)) (j : Nat) (p : Int × Int), f[j]? = some p → ((pcs f).drop (j * 2)).take 2 = [.int .i64 p.1, .int .i64 p.2]
  | [], j, p, h => by simp at h
  | q :: f, 0, p, h => by cases h; rfl
  | q :: f, j + 1, p, h => by
    have ih := pcs_seg f j p h
    rw [show (j + 1) * 2 = j * 2 + 2 by omega]
    exact ih
/-- A row of its own reads as its parts. -/
theorem parts_of_own {w : World} {base : Nat} {v : Value} {f : List (Int × Int)} (h : w.ownsRow base 32 2 v f.length (pcs f)) : ∃ A c, v = .slice A f.length c ∧ Kd.C partK w A f.length f := by
  have hR : Kd.R partK 32 w base (fun _ => True) v f := ⟨fun _ _ => trivial, pcs f, h, by rw [pcs_length]; rfl, fun j p hp => ⟨[.int .i64 p.1], [.int .i64 p.2], pcs_seg f j p hp, rfl, rfl⟩⟩
  obtain ⟨A, c, e, _, hC⟩ := Kd.R_reads hR
  exact ⟨A, c, e, hC⟩
/-- append onto a row of its own (or onto nothing). -/
theorem append_parts (o : Oper) (a : Act) (w : World) (s x : Operand) (base : Nat) (v : Value) (f g : List (Int × Int)) (ad : Addr) (c : Nat) (ho : o.op = .call { callee := .builtin .append, args := #[s, x], argTypes := #[22, 22] })
    (hs : a.eval s = v) (hx : a.eval x = .slice (some ad) g.length c) (hO : w.ownsRow base 32 2 v f.length (pcs f)) (hC : Kd.C partK w (some ad) g.length g) (hl : f.length + g.length ≤ 1000) (hb : base ≤ w.heap.size) :
    ∃ v1 w1, (execOp a.eval o).run Try.prog w = .ok (.value v1) w1 ∧ w1.ownsRow base 32 2 v1 (f ++ g).length (pcs (f ++ g)) ∧ w.grownBy w1 v.ownBlock ∧ ∀ r, v1.ownBlock = some r → (w.heap.size ≤ r ∧ r < w1.heap.size) ∨ v.ownBlock = some r := by
  obtain ⟨v1, w1, hr, hown, hg, hat⟩ := append_run (P := Try.prog) (oi := o) (a := a) (W := w) base s x 22 32 (.agg #[.int .i64 0, .int .i64 0]) 2 16 ho Try.underlying22 (by kernel_rfl) rfl (by decide) (by decide)
    v f.length (pcs f) (pcs g) hs ad g.length c hx (pcs_length g) (pcs_one g) hO (pcs_news hC) hb (by omega)
  refine ⟨v1, w1, hr, by rw [pcs_append, List.length_append]; exact hown, hg, fun r hr => ?_⟩
  rcases hat with h | h
  · exact .inr (h ▸ hr)
  · rw [h] at hr
    cases hr
    exact .inl ⟨Nat.le_refl _, (World.ownsRow.lt hown _ h).2⟩
theorem below_of_grown' {w w1 : World} (hg : w.grownBy w1 none) : Below w.heap.size w w1 := ⟨hg.os, hg.tape, hg.output, hg.size, fun k hk => hg.block k hk (by simp)⟩
theorem step_new {P : Program} {ops : Array Oper} {oi : Oper} {a : Act} {w : World} {K : Value → World → Prop} {base n : Nat} {e : TypeId} {size : Nat} {xs : List Value} (hw : Region.wanted oi (yielded ops a.tmps) = true)
    (h : ∃ v1 w1, (execOp a.eval oi).run P w = .ok (.value v1) w1 ∧ w1.ownsRow base e size v1 n xs ∧ w.grownBy w1 none ∧ ∀ r, v1.ownBlock = some r → (w.heap.size ≤ r ∧ r < w1.heap.size) ∨ (none : Option Nat) = some r)
    (hk : ∀ v1 w1, w1.ownsRow base e size v1 n xs → Below w.heap.size w w1 → (∀ r, v1.ownBlock = some r → w.heap.size ≤ r ∧ r < w1.heap.size) → K v1 w1) : StepF P ops oi a w K := by
  obtain ⟨v1, w1, hr, h1, h2, h3⟩ := h
  exact step_val hw hr (hk v1 w1 h1 (below_of_grown' h2) (fun r e => (h3 r e).resolve_right (fun h => by cases h)))
theorem step_take {P : Program} {ops : Array Oper} {oi : Oper} {a : Act} {w : World} {K : Value → World → Prop} {base n : Nat} {e : TypeId} {size : Nat} {xs : List Value} {row : Option Nat} (hw : Region.wanted oi (yielded ops a.tmps) = true)
    (h : ∃ v1 w1, (execOp a.eval oi).run P w = .ok (.value v1) w1 ∧ w1.ownsRow base e size v1 n xs ∧ w.grownBy w1 row ∧ ∀ r, v1.ownBlock = some r → (w.heap.size ≤ r ∧ r < w1.heap.size) ∨ row = some r)
    (hk : ∀ v1 w1, w1.ownsRow base e size v1 n xs → w.grownBy w1 row → (∀ r, v1.ownBlock = some r → (w.heap.size ≤ r ∧ r < w1.heap.size) ∨ row = some r) → K v1 w1) : StepF P ops oi a w K := by
  obtain ⟨v1, w1, hr, h1, h2, h3⟩ := h
  exact step_val hw hr (hk v1 w1 h1 h2 h3)
theorem grown_refl (w : World) (row : Option Nat) : w.grownBy w row := ⟨rfl, rfl, rfl, Nat.le_refl _, fun _ _ _ => rfl⟩
theorem lit_parts {w : World} {b : Nat} {l : List (Int × Int)} (h : w.heap[b]? = some (.cells (pcs l).toArray 32 (0, 0))) (hl : l.length ≤ 1000) : Kd.C partK w (some ⟨b, 0, none⟩) l.length l := by
  refine ⟨rfl, by omega, fun _ => ⟨_, rfl, fun j p hj => ⟨_, rfl, ⟨[.int .i64 p.1], [.int .i64 p.2], rfl, rfl, rfl⟩, fun i u hu => ?_⟩⟩⟩
  have hs := pcs_seg l j p hj
  have hu' : ([Value.int .i64 p.1, .int .i64 p.2] : List Value)[i]? = some u := hu
  rw [← hs, List.getElem?_take] at hu'
  split at hu'
  · rw [List.getElem?_drop] at hu'
    have e : (⟨b, 0, none⟩ : Addr).add (j * 2 + i) = ⟨b, j * 2 + i, none⟩ := by simp [Addr.add]; omega
    show w.cell? ((⟨b, 0, none⟩ : Addr).add (j * 2 + i)) = some u
    rw [e]
    simp [World.cell?, h, hu']
  · cases hu'
end Go.Proofs.Ytmelefiodhnlpaa
