/- Arguments of any kind opened: what a datum reads as, in the print's kinds: numbers, bools, texts, structs, arrays, slices, one within another. -/
import Derived.Test.YtmelefiodhnlpaaWArr
import Derived.Test.YtmelefiodhnlpaaWWords
import Derived.SizedLaws
import Derived.ChangeArms
import Derived.OpenShut
import Derived.Deep.Slices
import Derived.Deep.Fields
import Derived.ChangeSame
set_option linter.unusedSimpArgs false
set_option linter.unusedVariables false
namespace Go.Proofs.Ytmelefiodhnlpaa
open Go Go.RowKit Go.ChangeShapes Go.WideShapes Go.Deep Go.Proofs.YtmelefiodhnlpaaW.PrintWords

def Opens {α : Type} (P : Program) (t : TypeId) (d : Kd α) (B : α → Prop) : Prop :=
  ∀ (H : Type) (enc : TypeId × Value → H) (w : World) (sp : Nat → Bool) (held : Bool) (fuel : Nat) (cs : List Value) (x : DataW H × List MemPlace),
    DataW.trod enc P w 0 sp held fuel t cs = some x → (∀ n ∈ x.1.weights P t, n ≤ reachBytes) → ∃ a, d.K w a cs ∧ B a

theorem Opens.mono {α : Type} {P : Program} {t : TypeId} {d : Kd α} {B B' : α → Prop} (h : Opens P t d B) (hb : ∀ a, B a → B' a) : Opens P t d B' := fun H enc w sp held fuel cs x hx hw => by
  obtain ⟨a, h1, h2⟩ := h H enc w sp held fuel cs x hx hw
  exact ⟨a, h1, hb a h2⟩
theorem Opens.int {P : Program} {t : TypeId} {k : IntKind} (h : P.underlying t = some (.int k)) : Opens P t (Kd.int k) (fun n => (Lit.int k n).wf = true) := fun H enc w sp held fuel cs x hx _ => by
  obtain ⟨n, rfl, _, hw⟩ := DataW.trod_int h hx
  exact ⟨n, rfl, hw⟩
theorem Opens.bool {P : Program} {t : TypeId} (h : P.underlying t = some .bool) : Opens P t Kd.bool (fun _ => True) := fun H enc w sp held fuel cs x hx _ => by
  obtain ⟨b, rfl, _⟩ := DataW.trod_bool h hx
  exact ⟨b, rfl, trivial⟩
theorem Opens.string {P : Program} {t : TypeId} (h : P.underlying t = some .string) : Opens P t Kd.string (fun s => s.size ≤ 140737488351232) := fun H enc w sp held fuel cs x hx hw => by
  obtain ⟨s, rfl, rfl, _⟩ := DataW.trod_string h hx
  refine ⟨s, rfl, ?_⟩
  have := hw s.data.toList.length (by simp [DataW.weights])
  rw [Array.length_toList] at this
  exact this
theorem Opens.iso {α β : Type} {P : Program} {t : TypeId} {d : Kd α} {B : α → Prop} {f : β → α} (g : α → β) (hg : ∀ a, f (g a) = a) (h : Opens P t d B) : Opens P t (Kd.iso d f) (fun b => B (f b)) := fun H enc w sp held fuel cs x hx hw => by
  obtain ⟨a, h1, h2⟩ := h H enc w sp held fuel cs x hx hw
  exact ⟨g a, (show d.K w (f (g a)) cs by rw [hg]; exact h1), (show B (f (g a)) by rw [hg]; exact h2)⟩

/-- A struct's fields, from one of them on. -/
def OpensF {α : Type} (P : Program) (fs : List Field) (off : Nat) (d : Kd α) (B : α → Prop) : Prop :=
  ∀ (H : Type) (enc : TypeId × Value → H) (w : World) (sp : Nat → Bool) (held : Bool) (fuel : Nat) (cs : List Value) (ys : List (DataW H × List MemPlace)),
    (∀ (j : Nat) (f : Field), fs[j]? = some f → DataW.trod enc P w 0 sp held fuel f.type ((cs.drop f.offset).take (P.cellsOf f.type)) = ys[j]?) → ys.length = fs.length → off + (fs.map fun f => P.cellsOf f.type).sum = cs.length →
    (∀ n ∈ DataW.weightsEach P (fs.map (·.type)) (ys.map (·.1)), n ≤ reachBytes) → ∃ a, d.K w a (cs.drop off) ∧ B a

theorem OpensF.one {α : Type} {P : Program} {f : Field} {off : Nat} {d : Kd α} {B : α → Prop} (ho : f.offset = off) (h : Opens P f.type d B) : OpensF P [f] off d B := fun H enc w sp held fuel cs ys hf hl hs hw => by
  match ys, hl with
  | [y], _ =>
    have h0 := hf 0 f rfl
    rw [ho, List.take_of_length_le (by rw [List.length_drop]; simp at hs; omega)] at h0
    exact h H enc w sp held fuel _ y h0 (fun n hn => hw n (by simp [DataW.weightsEach, hn]))
theorem OpensF.cons {α β : Type} {P : Program} {f : Field} {fs : List Field} {off off' : Nat} {d : Kd α} {e : Kd β} {B : α → Prop} {C : β → Prop} (ho : f.offset = off) (ho' : off + P.cellsOf f.type = off') (h : Opens P f.type d B) (hr : OpensF P fs off' e C) :
    OpensF P (f :: fs) off (Kd.pair d e) (fun ab => B ab.1 ∧ C ab.2) := fun H enc w sp held fuel cs ys hf hl hs hw => by
  match ys, hl with
  | y :: ys, hl =>
    have h0 := hf 0 f rfl
    rw [ho] at h0
    obtain ⟨a, ha, hb⟩ := h H enc w sp held fuel _ y h0 (fun n hn => hw n (by simp [DataW.weightsEach, hn]))
    obtain ⟨b, hb1, hb2⟩ := hr H enc w sp held fuel cs ys (fun (j : Nat) (g : Field) hg => by have := hf (j + 1) g (by simpa using hg); simpa using this) (by simpa using hl) (by simp at hs; omega) (fun n hn => hw n (by simp [DataW.weightsEach, hn]))
    refine ⟨(a, b), ⟨(cs.drop off).take (P.cellsOf f.type), cs.drop off', ?_, ha, hb1⟩, hb, hb2⟩
    rw [← ho', ← List.drop_drop, List.take_append_drop]
theorem Opens.struct {α : Type} {P : Program} {t : TypeId} {fs : Array Field} {d : Kd α} {B : α → Prop} (h : P.underlying t = some (.struct fs)) (hc : (fs.toList.map fun f => P.cellsOf f.type).sum = P.cellsOf t) (hf : OpensF P fs.toList 0 d B) : Opens P t d B := fun H enc w sp held fuel cs x hx hw => by
  obtain ⟨xs, n, _, rfl, hl, hlen, hg⟩ := DataW.trod_struct h hx
  have := hf H enc w sp held n cs xs (fun (j : Nat) (f : Field) hj => hg j f (by simpa using hj)) (by simpa using hlen) (by rw [Nat.zero_add, hc, hl]) (fun m hm => hw m (by
    simp only [DataW.weights, h]
    exact hm))
  simpa using this

theorem weightsAll_mem {H : Type} {P : Program} {e : TypeId} : ∀ {l : List (DataW H)} {d : DataW H}, d ∈ l → ∀ n ∈ d.weights P e, n ∈ DataW.weightsAll P e l
  | x :: l, d, h, n, hn => by
    rcases List.mem_cons.1 h with rfl | h
    · simp [DataW.weightsAll, hn]
    · simp [DataW.weightsAll, weightsAll_mem h n hn]

/-- A choice for each place. -/
theorem choose_list {α : Type} {R : Nat → α → Prop} : ∀ (n : Nat), (∀ i, i < n → ∃ a, R i a) → ∃ l : List α, l.length = n ∧ ∀ i a, l[i]? = some a → R i a
  | 0, _ => ⟨[], rfl, by simp⟩
  | n + 1, h => by
    obtain ⟨l, hl, hr⟩ := choose_list n (fun i hi => h i (by omega))
    obtain ⟨a, ha⟩ := h n (by omega)
    refine ⟨l ++ [a], by simp [hl], fun i b hb => ?_⟩
    rcases Nat.lt_trichotomy i n with hi | hi | hi
    · rw [List.getElem?_append_left (by omega)] at hb; exact hr i b hb
    · subst hi
      rw [List.getElem?_append_right (by omega), hl] at hb
      simp at hb
      rw [← hb]; exact ha
    · rw [List.getElem?_eq_none (by simp; omega)] at hb; cases hb

theorem Opens.slice {α : Type} {P : Program} {t e : TypeId} {d : Kd α} {B : α → Prop} (ht : P.underlying t = some (.slice e)) (hc : P.cellsOf e = d.sz) (h : Opens P e d B) :
    Opens P t (Kd.slice e d) (fun xs => (∀ x ∈ xs, B x) ∧ xs.length * P.bytesOf e ≤ reachBytes ∧ xs.length ≤ maxLen) := fun H enc w sp held fuel cs x hx hw => by
  rcases open_slice ht hx with ⟨rfl, rfl⟩ | ⟨a, len, cap, m, n, D, Pl, rfl, hb, hl, hm, hmm, rfl, hi⟩
  · refine ⟨[], ⟨none, 0, rfl, Nat.le_refl _, ⟨rfl, by simp, fun h => by simp at h⟩⟩, by simp, by simp, by simp⟩
  · have hlm : len ≤ m := by rw [hmm]; split <;> omega
    have hws : ∀ n ∈ ((((List.range len).map D).length * P.bytesOf e) :: DataW.weightsAll P e ((List.range len).map D)), n ≤ reachBytes := fun k hk => by
      simp only [DataW.weights, ht] at hw
      rcases List.mem_cons.1 hk with rfl | hk
      · have := hw _ (by exact List.mem_cons_self)
        refine Nat.le_trans ?_ this
        exact Nat.mul_le_mul_right _ (by omega)
      · exact hw k (List.mem_cons_of_mem _ (List.mem_append_left _ hk))
    have hel : ∀ i, i < len → ∃ y, (∃ cs', cs'.length = d.sz ∧ d.K w y cs' ∧ ∀ j u, cs'[j]? = some u → w.cell? (a.add (i * d.sz + j)) = some u) ∧ B y := fun i hil => by
      obtain ⟨cs', hcs, htr⟩ := hi i (by omega)
      obtain ⟨_, hcl, hat⟩ := World.cells?_some hcs
      obtain ⟨y, hy, hby⟩ := h H enc w sp held n cs' _ htr (fun k hk => hws k (List.mem_cons_of_mem _ (weightsAll_mem (List.mem_map.2 ⟨i, List.mem_range.2 hil, rfl⟩) k hk)))
      rw [hc] at hcl hat
      refine ⟨y, ⟨cs', hcl, hy, fun j u hj => ?_⟩, hby⟩
      have hjl : j < d.sz := by rw [← hcl]; exact (List.getElem?_eq_some_iff.1 hj).1
      have := hat j hjl
      rw [hj, Go.Deep.add_add] at this
      exact this
    obtain ⟨l, hll, hlr⟩ := choose_list len hel
    have hmx : len ≤ 9223372036854775807 := by unfold maxLen at hm; omega
    refine ⟨l, ⟨some a, cap, by rw [hll], by rw [hll]; exact hl, ⟨rfl, by rw [hll]; exact hmx, fun _ => ⟨a, rfl, fun j p hp => (hlr j p hp).1⟩⟩⟩, fun y hy => ?_, ?_, ?_⟩
    · obtain ⟨i, hi⟩ := List.getElem?_of_mem hy
      exact (hlr i y hi).2
    · have := hws _ List.mem_cons_self
      simpa [hll] using this
    · rw [hll]; omega
theorem Opens.array {α : Type} {P : Program} {t e : TypeId} {n : Nat} {d : Kd α} {B : α → Prop} (hs : 0 < d.sz) (ht : P.underlying t = some (.array n e)) (hc : P.cellsOf e = d.sz) (hct : P.cellsOf t = n * d.sz) (h : Opens P e d B) :
    Opens P t (Kd.arr n d hs) (fun xs => ∀ x ∈ xs, B x) := fun H enc w sp held fuel cs x hx hw => by
  obtain ⟨xs, m, _, rfl, hl, hlen, hg⟩ := DataW.trod_array ht hx
  have hel : ∀ i, i < n → ∃ y, d.K w y ((cs.drop (i * d.sz)).take d.sz) ∧ B y := fun i hi => by
    have h1 := hg i hi
    rw [hc, List.getElem?_eq_getElem (by omega)] at h1
    exact h H enc w sp held m _ _ h1 (fun k hk => hw k (by
      simp only [DataW.weights, ht]
      exact weightsAll_mem (List.mem_map.2 ⟨_, List.getElem_mem _, rfl⟩) k hk))
  obtain ⟨l, hll, hlr⟩ := choose_list n hel
  refine ⟨l, ⟨hll, by rw [hl, hct, hll], fun j p hp => (hlr j p hp).1⟩, fun y hy => ?_⟩
  obtain ⟨i, hi⟩ := List.getElem?_of_mem hy
  exact (hlr i y hi).2

/-- A parameter: what its cells are. -/
theorem open_param {α : Type} {P : Program} {t : TypeId} {d : Kd α} {B : α → Prop} (ho : Opens P t d B) {H : Type} {enc : TypeId × Value → H} {w : World} {sp : Nat → Bool} {held : Bool} {v : Value} {x : DataW H} {p : List MemPlace}
    (h : DataW.Trod enc P w 0 sp held t v x p) {ts : List TypeId} {ds : List (DataW H)} (hsz : (DataW.weightsEach P ts ds).all (· ≤ reachBytes) = true) {j : Nat} (ht : ts[j]? = some t) (hd : ds[j]? = some x) : ∃ a, d.K w a v.cells.toList ∧ B a := by
  obtain ⟨fuel, hf⟩ := h
  refine ho H enc w sp held fuel _ _ hf (fun n hn => ?_)
  have := List.all_eq_true.1 hsz n (DataW.weights_mem_each ht hd n hn)
  simpa using this
theorem agg_of {P : Program} {w : World} {r : Reach} {b : Nat} {t : TypeId} {fs : Array Field} {v : Value} {l : List Value} (ht : P.underlying t = some (.struct fs)) (h : Value.okWide P w r b t v) (hl : v.cells.toList = l) : v = .agg l.toArray := by
  obtain ⟨cs, rfl, _⟩ := okWide_struct ht h
  subst hl
  simp [Value.cells]
theorem one_of_cells {v u : Value} (h : v.cells.toList = [u]) (hv : ∀ cs, v ≠ .agg cs) : v = u := by
  cases v <;> simp_all [Value.cells]
end Go.Proofs.Ytmelefiodhnlpaa
