/- RequestFits: part 8 of its proof: RqWalk, Open, DoorMetZ, RqRow. -/
import Derived.Test.YtmdjibkgnmjhbaaGreatDoorSRequestFits0
import Derived.Test.YtmdjibkgnmjhbaaGreatDoorSRequestFits1
import Derived.Test.YtmdjibkgnmjhbaaGreatDoorSRequestFits2
import Derived.Test.YtmdjibkgnmjhbaaGreatDoorSRequestFits3
import Derived.Test.YtmdjibkgnmjhbaaGreatDoorSRequestFits4
import Derived.Test.YtmdjibkgnmjhbaaGreatDoorSRequestFits5
import Derived.Test.YtmdjibkgnmjhbaaGreatDoorSRequestFits6
import Derived.Test.YtmdjibkgnmjhbaaGreatDoorSRequestFits7
import Derived.Test.YtmdjibkgnmjhbaaGreatDoorSRequestFits8
import Derived.Test.YtmdjibkgnmjhbaaGreatDoorSRequestFits9
import Derived.Test.YtmdjibkgnmjhbaaGreatDoorSRequestFits10
import Derived.Test.YtmdjibkgnmjhbaaGreatDoorSRequestFits11
import Derived.Test.YtmdjibkgnmjhbaaGreatDoorSRequestFits12
import Derived.Test.YtmdjibkgnmjhbaaGreatDoorSRequestFits13
import Derived.Test.YtmdjibkgnmjhbaaGreatDoorSRequestFits14
import Derived.Test.YtmdjibkgnmjhbaaGreatDoorSRequestFits15
import Derived.Test.YtmdjibkgnmjhbaaGreatDoorMRequestFits3
import Derived.SizedLaws
import Derived.ChangeArms
import Derived.OpenShut
import Derived.Deep.Slices
import Derived.Deep.Fields
import Derived.ChangeSame
import Derived.Test.YtmdjibkgnmjhbaaGreatDoorCards
import Derived.Test.YtmdjibkgnmjhbaaGreatDoorProg
import Derived.LaidMore
import Derived.LaidOnce
import Derived.Lay
import Derived.MakeChecks
import Derived.KernelRfl
import Derived.Test.YtmdjibkgnmjhbaaGreatDoorMRequestFits5
import Derived.Test.YtmdjibkgnmjhbaaGreatDoorMRequestFits0
import Derived.Test.YtmdjibkgnmjhbaaGreatDoorMRequestFits1
import Derived.Test.YtmdjibkgnmjhbaaGreatDoorMRequestFits2
import Derived.Test.YtmdjibkgnmjhbaaGreatDoorMRequestFits4
import Derived.Test.YtmdjibkgnmjhbaaGreatDoorMRequestFits6
import Derived.Test.YtmdjibkgnmjhbaaGreatDoorMRequestFits7
section
/- RequestFits: what the law does, whatever it is given. -/
set_option autoImplicit false
set_option linter.unusedSimpArgs false
set_option linter.unusedVariables false
namespace Go.Proofs.YtmdjibkgnmjhbaaGreatDoor
open Go Go.RowKit Go.Proofs.YtmdjibkgnmjhbaaGreatDoor.Abs

theorem rq_run (e1 e2 e3 e4 i j k : Nat) (s : Bool) (hi : i < 4) (hj : j < 4) (hk : k < 4) : runRq e1 e2 e3 e4 i j k s = true := by
  match i, j, k, hi, hj, hk with
  | 0, 0, 0, _, _, _ => exact match s with | false => rq_run0f0 .. | true => rq_run0t0 ..
  | 0, 0, 1, _, _, _ => exact match s with | false => rq_run1f0 .. | true => rq_run1t0 ..
  | 0, 0, 2, _, _, _ => exact match s with | false => rq_run2f0 .. | true => rq_run2t0 ..
  | 0, 0, 3, _, _, _ => exact match s with | false => rq_run3f0 .. | true => rq_run3t0 ..
  | 0, 1, 0, _, _, _ => exact match s with | false => rq_run0f1 .. | true => rq_run0t1 ..
  | 0, 1, 1, _, _, _ => exact match s with | false => rq_run1f1 .. | true => rq_run1t1 ..
  | 0, 1, 2, _, _, _ => exact match s with | false => rq_run2f1 .. | true => rq_run2t1 ..
  | 0, 1, 3, _, _, _ => exact match s with | false => rq_run3f1 .. | true => rq_run3t1 ..
  | 0, 2, 0, _, _, _ => exact match s with | false => rq_run0f2 .. | true => rq_run0t2 ..
  | 0, 2, 1, _, _, _ => exact match s with | false => rq_run1f2 .. | true => rq_run1t2 ..
  | 0, 2, 2, _, _, _ => exact match s with | false => rq_run2f2 .. | true => rq_run2t2 ..
  | 0, 2, 3, _, _, _ => exact match s with | false => rq_run3f2 .. | true => rq_run3t2 ..
  | 0, 3, 0, _, _, _ => exact match s with | false => rq_run0f3 .. | true => rq_run0t3 ..
  | 0, 3, 1, _, _, _ => exact match s with | false => rq_run1f3 .. | true => rq_run1t3 ..
  | 0, 3, 2, _, _, _ => exact match s with | false => rq_run2f3 .. | true => rq_run2t3 ..
  | 0, 3, 3, _, _, _ => exact match s with | false => rq_run3f3 .. | true => rq_run3t3 ..
  | 1, 0, 0, _, _, _ => exact match s with | false => rq_run4f0 .. | true => rq_run4t0 ..
  | 1, 0, 1, _, _, _ => exact match s with | false => rq_run5f0 .. | true => rq_run5t0 ..
  | 1, 0, 2, _, _, _ => exact match s with | false => rq_run6f0 .. | true => rq_run6t0 ..
  | 1, 0, 3, _, _, _ => exact match s with | false => rq_run7f0 .. | true => rq_run7t0 ..
  | 1, 1, 0, _, _, _ => exact match s with | false => rq_run4f1 .. | true => rq_run4t1 ..
  | 1, 1, 1, _, _, _ => exact match s with | false => rq_run5f1 .. | true => rq_run5t1 ..
  | 1, 1, 2, _, _, _ => exact match s with | false => rq_run6f1 .. | true => rq_run6t1 ..
  | 1, 1, 3, _, _, _ => exact match s with | false => rq_run7f1 .. | true => rq_run7t1 ..
  | 1, 2, 0, _, _, _ => exact match s with | false => rq_run4f2 .. | true => rq_run4t2 ..
  | 1, 2, 1, _, _, _ => exact match s with | false => rq_run5f2 .. | true => rq_run5t2 ..
  | 1, 2, 2, _, _, _ => exact match s with | false => rq_run6f2 .. | true => rq_run6t2 ..
  | 1, 2, 3, _, _, _ => exact match s with | false => rq_run7f2 .. | true => rq_run7t2 ..
  | 1, 3, 0, _, _, _ => exact match s with | false => rq_run4f3 .. | true => rq_run4t3 ..
  | 1, 3, 1, _, _, _ => exact match s with | false => rq_run5f3 .. | true => rq_run5t3 ..
  | 1, 3, 2, _, _, _ => exact match s with | false => rq_run6f3 .. | true => rq_run6t3 ..
  | 1, 3, 3, _, _, _ => exact match s with | false => rq_run7f3 .. | true => rq_run7t3 ..
  | 2, 0, 0, _, _, _ => exact match s with | false => rq_run8f0 .. | true => rq_run8t0 ..
  | 2, 0, 1, _, _, _ => exact match s with | false => rq_run9f0 .. | true => rq_run9t0 ..
  | 2, 0, 2, _, _, _ => exact match s with | false => rq_run10f0 .. | true => rq_run10t0 ..
  | 2, 0, 3, _, _, _ => exact match s with | false => rq_run11f0 .. | true => rq_run11t0 ..
  | 2, 1, 0, _, _, _ => exact match s with | false => rq_run8f1 .. | true => rq_run8t1 ..
  | 2, 1, 1, _, _, _ => exact match s with | false => rq_run9f1 .. | true => rq_run9t1 ..
  | 2, 1, 2, _, _, _ => exact match s with | false => rq_run10f1 .. | true => rq_run10t1 ..
  | 2, 1, 3, _, _, _ => exact match s with | false => rq_run11f1 .. | true => rq_run11t1 ..
  | 2, 2, 0, _, _, _ => exact match s with | false => rq_run8f2 .. | true => rq_run8t2 ..
  | 2, 2, 1, _, _, _ => exact match s with | false => rq_run9f2 .. | true => rq_run9t2 ..
  | 2, 2, 2, _, _, _ => exact match s with | false => rq_run10f2 .. | true => rq_run10t2 ..
  | 2, 2, 3, _, _, _ => exact match s with | false => rq_run11f2 .. | true => rq_run11t2 ..
  | 2, 3, 0, _, _, _ => exact match s with | false => rq_run8f3 .. | true => rq_run8t3 ..
  | 2, 3, 1, _, _, _ => exact match s with | false => rq_run9f3 .. | true => rq_run9t3 ..
  | 2, 3, 2, _, _, _ => exact match s with | false => rq_run10f3 .. | true => rq_run10t3 ..
  | 2, 3, 3, _, _, _ => exact match s with | false => rq_run11f3 .. | true => rq_run11t3 ..
  | 3, 0, 0, _, _, _ => exact match s with | false => rq_run12f0 .. | true => rq_run12t0 ..
  | 3, 0, 1, _, _, _ => exact match s with | false => rq_run13f0 .. | true => rq_run13t0 ..
  | 3, 0, 2, _, _, _ => exact match s with | false => rq_run14f0 .. | true => rq_run14t0 ..
  | 3, 0, 3, _, _, _ => exact match s with | false => rq_run15f0 .. | true => rq_run15t0 ..
  | 3, 1, 0, _, _, _ => exact match s with | false => rq_run12f1 .. | true => rq_run12t1 ..
  | 3, 1, 1, _, _, _ => exact match s with | false => rq_run13f1 .. | true => rq_run13t1 ..
  | 3, 1, 2, _, _, _ => exact match s with | false => rq_run14f1 .. | true => rq_run14t1 ..
  | 3, 1, 3, _, _, _ => exact match s with | false => rq_run15f1 .. | true => rq_run15t1 ..
  | 3, 2, 0, _, _, _ => exact match s with | false => rq_run12f2 .. | true => rq_run12t2 ..
  | 3, 2, 1, _, _, _ => exact match s with | false => rq_run13f2 .. | true => rq_run13t2 ..
  | 3, 2, 2, _, _, _ => exact match s with | false => rq_run14f2 .. | true => rq_run14t2 ..
  | 3, 2, 3, _, _, _ => exact match s with | false => rq_run15f2 .. | true => rq_run15t2 ..
  | 3, 3, 0, _, _, _ => exact match s with | false => rq_run12f3 .. | true => rq_run12t3 ..
  | 3, 3, 1, _, _, _ => exact match s with | false => rq_run13f3 .. | true => rq_run13t3 ..
  | 3, 3, 2, _, _, _ => exact match s with | false => rq_run14f3 .. | true => rq_run14t3 ..
  | 3, 3, 3, _, _, _ => exact match s with | false => rq_run15f3 .. | true => rq_run15t3 ..
theorem moatlaw17_RequestFits.walk (z1 z2 z3 : Int) (s : Bool) (z4 z5 : Int) (w : World) (h : WfWorld w) : Calls Tryz.prog 4 #[.int .i64 z1, .int .i64 z2, .int .i64 z3, .bool s, .int .i64 z4, .int .i64 z5] w fun e w' => e = .returned (.bool true) ∧ Below w.heap.size w w' := by
  obtain ⟨e1, e2, e3, e4, ι, hI, hf, h0, h1, h2, h3, h4⟩ := h.inv z1 z2 z3 z4 z5
  have hi : lowN z1 4 < 4 := by have := lowN_lt z1 4 (by decide); omega
  have hj : lowN z2 4 < 4 := by have := lowN_lt z2 4 (by decide); omega
  have hk : lowN z3 4 < 4 := by have := lowN_lt z3 4 (by decide); omega
  have hb : lowN z4 5 < 5 := by have := lowN_lt z4 5 (by decide); omega
  have hv : lowN z5 4 < 4 := by have := lowN_lt z5 4 (by decide); omega
  have hr := rq_run e1 e2 e3 e4 _ _ _ s hi hj hk
  obtain ⟨v, h', j, hc, hk⟩ := call_of_knot (tabRq_ok (i := lowN z1 4) (j := lowN z2 4) (k := lowN z3 4) hb hv) hr
  obtain rfl := kTrue_ok hk
  refine law_of_call (args' := [.int .i64 z1, .int .i64 z2, .int .i64 z3, .bool s, .int .i64 z4, .int .i64 z5]) noNG_prog (adraw_ok noNG_prog (by kernel_rfl)) (((G1_ok h.max).add (natLow_ok ?_)).add (sTrue17_ok h)) hc hI ?_ (of_decide_eq_true (by kernel_rfl)) hf
  · intro id n k hm
    simp only [TRq, List.mem_cons, Prod.mk.injEq, List.not_mem_nil, or_false] at hm
    rcases hm with ⟨rfl, rfl, rfl⟩ | ⟨rfl, rfl, rfl⟩ | ⟨rfl, rfl, rfl⟩ | ⟨rfl, rfl, rfl⟩ | ⟨rfl, rfl, rfl⟩
    · exact ⟨z1, h0, by decide, by decide, rfl⟩
    · exact ⟨z2, h1, by decide, by decide, rfl⟩
    · exact ⟨z3, h2, by decide, by decide, rfl⟩
    · exact ⟨z4, h3, by decide, by decide, rfl⟩
    · exact ⟨z5, h4, by decide, by decide, rfl⟩
  · have t1 := VRel.tok (ι := ι) 15 _ h0
    have t2 := VRel.tok (ι := ι) 16 _ h1
    have t3 := VRel.tok (ι := ι) 17 _ h2
    have t4 := VRel.tok (ι := ι) 18 _ h3
    have t5 := VRel.tok (ι := ι) 19 _ h4
    rw [tokLoc_z] at t1 t2 t3 t4 t5
    exact ⟨t1, t2, t3, .bool s, t4, t5, trivial⟩
end Go.Proofs.YtmdjibkgnmjhbaaGreatDoor
end
section
/- Arguments of any kind opened: what a datum reads as, in the print's kinds: numbers, bools, texts, structs, arrays, slices, one within another. -/
set_option linter.unusedSimpArgs false
set_option linter.unusedVariables false
namespace Go.Proofs.YtmdjibkgnmjhbaaGreatDoor
open Go Go.RowKit Go.ChangeShapes Go.WideShapes Go.Deep Go.Proofs.YtmdjibkgnmjhbaaGreatDoorW.PrintWords

def Opens {α : Type} (P : Program) (t : TypeId) (d : Kd α) (B : α → Prop) : Prop :=
  ∀ (H : Type) (enc : TypeId × Value → H) (w : World) (sp : Nat → Bool) (held : Bool) (fuel : Nat) (cs : List Value) (x : DataW H × List MemPlace),
    DataW.trod enc P w 0 sp held fuel t cs = some x → (∀ n ∈ x.1.weights P t, n ≤ reachBytes) → ∃ a, d.K w a cs ∧ B a

theorem Opens.mono {α : Type} {P : Program} {t : TypeId} {d : Kd α} {B B' : α → Prop} (h : Opens P t d B) (hb : ∀ a, B a → B' a) : Opens P t d B' := fun H enc w sp held fuel cs x hx hw => by
  obtain ⟨a, h1, h2⟩ := h H enc w sp held fuel cs x hx hw
  exact ⟨a, h1, hb a h2⟩
theorem Opens.int {P : Program} {t : TypeId} {k : IntKind} (h : P.underlying t = some (.int k)) : Opens P t (Kd.int k) (fun n => (Lit.int k n).wf = true) := fun H enc w sp held fuel cs x hx _ => by
  obtain ⟨n, rfl, _, hw⟩ := DataW.trod_int h hx
  exact ⟨n, rfl, hw⟩
theorem Opens.bool {P : Program} {t : TypeId} (h : P.underlying t = some .bool) : Opens P t Kd.bool (fun _ => True) := fun H enc w sp held fuel cs x hx _ => by
  obtain ⟨b, rfl, _⟩ := DataW.trod_bool h hx
  exact ⟨b, rfl, trivial⟩
theorem Opens.string {P : Program} {t : TypeId} (h : P.underlying t = some .string) : Opens P t Kd.string (fun s => s.size ≤ 140737488351232) := fun H enc w sp held fuel cs x hx hw => by
  obtain ⟨s, rfl, rfl, _⟩ := DataW.trod_string h hx
  refine ⟨s, rfl, ?_⟩
  have := hw s.data.toList.length (by simp [DataW.weights])
  rw [Array.length_toList] at this
  exact this
/-- A struct's fields, from one of them on. -/
def OpensF {α : Type} (P : Program) (fs : List Field) (off : Nat) (d : Kd α) (B : α → Prop) : Prop :=
  ∀ (H : Type) (enc : TypeId × Value → H) (w : World) (sp : Nat → Bool) (held : Bool) (fuel : Nat) (cs : List Value) (ys : List (DataW H × List MemPlace)),
    (∀ (j : Nat) (f : Field), fs[j]? = some f → DataW.trod enc P w 0 sp held fuel f.type ((cs.drop f.offset).take (P.cellsOf f.type)) = ys[j]?) → ys.length = fs.length → off + (fs.map fun f => P.cellsOf f.type).sum = cs.length →
    (∀ n ∈ DataW.weightsEach P (fs.map (·.type)) (ys.map (·.1)), n ≤ reachBytes) → ∃ a, d.K w a (cs.drop off) ∧ B a

theorem OpensF.one {α : Type} {P : Program} {f : Field} {off : Nat} {d : Kd α} {B : α → Prop} (ho : f.offset = off) (h : Opens P f.type d B) : OpensF P [f] off d B := fun H enc w sp held fuel cs ys hf hl hs hw => by
  match ys, hl with
  | [y], _ =>
    have h0 := hf 0 f rfl
    rw [ho, List.take_of_length_le (by rw [List.length_drop]; simp at hs; omega)] at h0
    exact h H enc w sp held fuel _ y h0 (fun n hn => hw n (by simp [DataW.weightsEach, hn]))
theorem OpensF.cons {α β : Type} {P : Program} {f : Field} {fs : List Field} {off off' : Nat} {d : Kd α} {e : Kd β} {B : α → Prop} {C : β → Prop} (ho : f.offset = off) (ho' : off + P.cellsOf f.type = off') (h : Opens P f.type d B) (hr : OpensF P fs off' e C) :
    OpensF P (f :: fs) off (Kd.pair d e) (fun ab => B ab.1 ∧ C ab.2) := fun H enc w sp held fuel cs ys hf hl hs hw => by
  match ys, hl with
  | y :: ys, hl =>
    have h0 := hf 0 f rfl
    rw [ho] at h0
    obtain ⟨a, ha, hb⟩ := h H enc w sp held fuel _ y h0 (fun n hn => hw n (by simp [DataW.weightsEach, hn]))
    obtain ⟨b, hb1, hb2⟩ := hr H enc w sp held fuel cs ys (fun (j : Nat) (g : Field) hg => by have := hf (j + 1) g (by simpa using hg); simpa using this) (by simpa using hl) (by simp at hs; omega) (fun n hn => hw n (by simp [DataW.weightsEach, hn]))
    refine ⟨(a, b), ⟨(cs.drop off).take (P.cellsOf f.type), cs.drop off', ?_, ha, hb1⟩, hb, hb2⟩
    rw [← ho', ← List.drop_drop, List.take_append_drop]
theorem Opens.struct {α : Type} {P : Program} {t : TypeId} {fs : Array Field} {d : Kd α} {B : α → Prop} (h : P.underlying t = some (.struct fs)) (hc : (fs.toList.map fun f => P.cellsOf f.type).sum = P.cellsOf t) (hf : OpensF P fs.toList 0 d B) : Opens P t d B := fun H enc w sp held fuel cs x hx hw => by
  obtain ⟨xs, n, _, rfl, hl, hlen, hg⟩ := DataW.trod_struct h hx
  have := hf H enc w sp held n cs xs (fun (j : Nat) (f : Field) hj => hg j f (by simpa using hj)) (by simpa using hlen) (by rw [Nat.zero_add, hc, hl]) (fun m hm => hw m (by
    simp only [DataW.weights, h]
    exact hm))
  simpa using this

theorem weightsAll_mem {H : Type} {P : Program} {e : TypeId} : ∀ {l : List (DataW H)} {d : DataW H}, d ∈ l → ∀ n ∈ d.weights P e, n ∈ DataW.weightsAll P e l
  | x :: l, d, h, n, hn => by
    rcases List.mem_cons.1 h with rfl | h
    · simp [DataW.weightsAll, hn]
    · simp [DataW.weightsAll, weightsAll_mem h n hn]

/-- A choice for each place. -/
theorem choose_list {α : Type} {R : Nat → α → Prop} : ∀ (n : Nat), (∀ i, i < n → ∃ a, R i a) → ∃ l : List α, l.length = n ∧ ∀ i a, l[i]? = some a → R i a
  | 0, _ => ⟨[], rfl, by simp⟩
  | n + 1, h => by
    obtain ⟨l, hl, hr⟩ := choose_list n (fun i hi => h i (by omega))
    obtain ⟨a, ha⟩ := h n (by omega)
    refine ⟨l ++ [a], by simp [hl], fun i b hb => ?_⟩
    rcases Nat.lt_trichotomy i n with hi | hi | hi
    · rw [List.getElem?_append_left (by omega)] at hb; exact hr i b hb
    · subst hi
      rw [List.getElem?_append_right (by omega), hl] at hb
      simp at hb
      rw [← hb]; exact ha
    · rw [List.getElem?_eq_none (by simp; omega)] at hb; cases hb

theorem Opens.slice {α : Type} {P : Program} {t e : TypeId} {d : Kd α} {B : α → Prop} (ht : P.underlying t = some (.slice e)) (hc : P.cellsOf e = d.sz) (h : Opens P e d B) :
    Opens P t (Kd.slice e d) (fun xs => (∀ x ∈ xs, B x) ∧ xs.length * P.bytesOf e ≤ reachBytes ∧ xs.length ≤ maxLen) := fun H enc w sp held fuel cs x hx hw => by
  rcases open_slice ht hx with ⟨rfl, rfl⟩ | ⟨a, len, cap, m, n, D, Pl, rfl, hb, hl, hm, hmm, rfl, hi⟩
  · refine ⟨[], ⟨none, 0, rfl, Nat.le_refl _, ⟨rfl, by simp, fun h => by simp at h⟩⟩, by simp, by simp, by simp⟩
  · have hlm : len ≤ m := by rw [hmm]; split <;> omega
    have hws : ∀ n ∈ ((((List.range len).map D).length * P.bytesOf e) :: DataW.weightsAll P e ((List.range len).map D)), n ≤ reachBytes := fun k hk => by
      simp only [DataW.weights, ht] at hw
      rcases List.mem_cons.1 hk with rfl | hk
      · have := hw _ (by exact List.mem_cons_self)
        refine Nat.le_trans ?_ this
        exact Nat.mul_le_mul_right _ (by omega)
      · exact hw k (List.mem_cons_of_mem _ (List.mem_append_left _ hk))
    have hel : ∀ i, i < len → ∃ y, (∃ cs', cs'.length = d.sz ∧ d.K w y cs' ∧ ∀ j u, cs'[j]? = some u → w.cell? (a.add (i * d.sz + j)) = some u) ∧ B y := fun i hil => by
      obtain ⟨cs', hcs, htr⟩ := hi i (by omega)
      obtain ⟨_, hcl, hat⟩ := World.cells?_some hcs
      obtain ⟨y, hy, hby⟩ := h H enc w sp held n cs' _ htr (fun k hk => hws k (List.mem_cons_of_mem _ (weightsAll_mem (List.mem_map.2 ⟨i, List.mem_range.2 hil, rfl⟩) k hk)))
      rw [hc] at hcl hat
      refine ⟨y, ⟨cs', hcl, hy, fun j u hj => ?_⟩, hby⟩
      have hjl : j < d.sz := by rw [← hcl]; exact (List.getElem?_eq_some_iff.1 hj).1
      have := hat j hjl
      rw [hj, Go.Deep.add_add] at this
      exact this
    obtain ⟨l, hll, hlr⟩ := choose_list len hel
    have hmx : len ≤ 9223372036854775807 := by unfold maxLen at hm; omega
    refine ⟨l, ⟨some a, cap, by rw [hll], by rw [hll]; exact hl, ⟨rfl, by rw [hll]; exact hmx, fun _ => ⟨a, rfl, fun j p hp => (hlr j p hp).1⟩⟩⟩, fun y hy => ?_, ?_, ?_⟩
    · obtain ⟨i, hi⟩ := List.getElem?_of_mem hy
      exact (hlr i y hi).2
    · have := hws _ List.mem_cons_self
      simpa [hll] using this
    · rw [hll]; omega
theorem Opens.array {α : Type} {P : Program} {t e : TypeId} {n : Nat} {d : Kd α} {B : α → Prop} (hs : 0 < d.sz) (ht : P.underlying t = some (.array n e)) (hc : P.cellsOf e = d.sz) (hct : P.cellsOf t = n * d.sz) (h : Opens P e d B) :
    Opens P t (Kd.arr n d hs) (fun xs => ∀ x ∈ xs, B x) := fun H enc w sp held fuel cs x hx hw => by
  obtain ⟨xs, m, _, rfl, hl, hlen, hg⟩ := DataW.trod_array ht hx
  have hel : ∀ i, i < n → ∃ y, d.K w y ((cs.drop (i * d.sz)).take d.sz) ∧ B y := fun i hi => by
    have h1 := hg i hi
    rw [hc, List.getElem?_eq_getElem (by omega)] at h1
    exact h H enc w sp held m _ _ h1 (fun k hk => hw k (by
      simp only [DataW.weights, ht]
      exact weightsAll_mem (List.mem_map.2 ⟨_, List.getElem_mem _, rfl⟩) k hk))
  obtain ⟨l, hll, hlr⟩ := choose_list n hel
  refine ⟨l, ⟨hll, by rw [hl, hct, hll], fun j p hp => (hlr j p hp).1⟩, fun y hy => ?_⟩
  obtain ⟨i, hi⟩ := List.getElem?_of_mem hy
  exact (hlr i y hi).2

end Go.Proofs.YtmdjibkgnmjhbaaGreatDoor
end
section
/- A start that meets the rows' condition where a listed variable is a map and another is pinned: what the door's own run leaves, and the pinned table laid behind it. -/
namespace Go.Proofs.YtmdjibkgnmjhbaaGreatDoor
open Go
noncomputable def pinnedOf (l : List (String × DataW Unit)) : List (String × DataW Unit) := l.filter fun x => ["unicode/utf8.first"].contains x.1
noncomputable def startW (os : Os) (l : List (String × DataW Unit)) : World := (World.doorLaid Tryz.prog 4000 os).layVars Tryz.prog (pinnedOf l)
noncomputable def startB (os : Os) : List Nat := (List.range (World.doorLaid Tryz.prog 4000 os).heap.size).filter fun b => !(b == 11)
theorem startW_os (os : Os) (l : List (String × DataW Unit)) : (startW os l).os = os := World.layVars_os _ _ _
theorem start_met (os : Os) (l : List (String × DataW Unit)) (hl : (l.all fun x => x.2.handleName?.isNone) = true)
    (hf : (World.doorLaid Tryz.prog 4000 os).layFits Tryz.prog (pinnedOf l) (startB os) = true) (hi : (World.doorLaid Tryz.prog 4000 os).layIfaces Tryz.prog (pinnedOf l) (startW os l) = true)
    (h1 : (DataW.laidRun Tryz.prog (startW os l) 8 ((l.filter fun x => !["unicode/utf8.first"].contains x.1).map (·.1))).map (·.1) = some (l.filter fun x => !["unicode/utf8.first"].contains x.1))
    (h2 : (DataW.laidRun Tryz.prog (startW os l) 8 ((l.filter fun x => !["unicode/utf8.first"].contains x.1).map (·.1))).map (fun x => nodupB (x.2.map MemPlace.codeOf)) = some true)
    (h3 : (DataW.laidRun Tryz.prog (startW os l) 8 ((l.filter fun x => !["unicode/utf8.first"].contains x.1).map (·.1))).map (fun x => laidRowsB Tryz.prog (startW os l) x.2) = some true)
    (h4 : (DataW.laidRun Tryz.prog (startW os l) 8 ((l.filter fun x => !["unicode/utf8.first"].contains x.1).map (·.1))).map (fun x => x.2.all fun p => (startB os).contains p.block) = some true)
    (args : Array Value) : laidMetH Tryz.prog l ((startW os l).forCall (fun _ _ => 0) ⟨#[], args, []⟩).memory := by
  rw [MakeChecks.laidMetH_plain _ _ _ hl]
  have h : laidMet Tryz.prog l (startW os l) := laidMet_layVars (w0 := World.doorLaid Tryz.prog 4000 os) ["unicode/utf8.first"] (startB os) rfl hf hi (LaidIn.of_run (startB os) 8 h1 h2 h3 h4)
  exact h.of_heap (by simp [World.memory, World.forCall, Input.heap])
end Go.Proofs.YtmdjibkgnmjhbaaGreatDoor
end
section
/- What a row of the chapters from 12 on gives the walk: the world that WfNat speaks of; a start that meets the rows' condition. -/
namespace Go.Proofs.YtmdjibkgnmjhbaaGreatDoor
open Go Go.Proofs.YtmdjibkgnmjhbaaGreatDoor.Abs
set_option maxRecDepth 100000 in
theorem wfWorld_of {W : World} {l : List (String × DataW Unit)} (hl : (l.all fun x => x.2.handleName?.isNone) = true) (h1 : ("moat/cookie.sames", Rows.laid_moat_cookie_sames) ∈ l) (h2 : ("moat/url.schemes", Rows.laid_moat_url_schemes) ∈ l) (h3 : ("moat/wf.most", Rows.laid_moat_wf_most) ∈ l) (h4 : ("moat/wf.asked", Rows.laid_moat_wf_asked) ∈ l)
    (h : laidMetH Tryz.prog l W) (hs : W.ShapedOpen Tryz.prog) : WfWorld W := by
  rw [MakeChecks.laidMetH_plain _ _ _ hl] at h
  refine ⟨?_, cells_of_reads h h1 (g := 4) (t := 213) (by kernel_rfl) (by kernel_rfl) (fun enc sp held fuel b us p hd => ?_), ?_, ?_, ?_⟩
  · exact Go.Proofs.cell_of_shapedOpen_int (zero := #[.int .i64 0]) (t := 3) hs (of_decide_eq_true (by kernel_rfl)) (by kernel_rfl) rfl (by kernel_rfl) (by kernel_rfl) (by kernel_rfl)
  · exact strs_of_tab (ss := samesL) (n := 4) (e := 9) (by kernel_rfl) (by kernel_rfl) (by kernel_rfl) (by kernel_rfl) hd
  · exact tab_of_laid h h2 (g := 1) (t := 73) (k := 9) (e := 3) (by kernel_rfl) (by kernel_rfl) (by kernel_rfl) (by kernel_rfl) (.inr ⟨.i64, by kernel_rfl⟩) (by kernel_rfl)
  · exact tab_of_laid h h3 (g := 0) (t := 73) (k := 9) (e := 3) (by kernel_rfl) (by kernel_rfl) (by kernel_rfl) (by kernel_rfl) (.inr ⟨.i64, by kernel_rfl⟩) (by kernel_rfl)
  · exact tab_of_laid h h4 (g := 5) (t := 236) (k := 9) (e := 9) (by kernel_rfl) (by kernel_rfl) (by kernel_rfl) (by kernel_rfl) (.inl (by kernel_rfl)) (by kernel_rfl)
theorem mem_of_at {l : List (String × DataW Unit)} {x : String × DataW Unit} (i : Nat) (h : l[i]? = some x) : x ∈ l := List.mem_of_getElem? h
theorem requestFits_world {W : World} (h : laidMetH Tryz.prog Rows.requestFitsRow.laid W) (hs : W.ShapedOpen Tryz.prog) : WfWorld W :=
  wfWorld_of (by kernel_rfl) (mem_of_at 7 (by kernel_rfl)) (mem_of_at 6 (by kernel_rfl)) (mem_of_at 8 (by kernel_rfl)) (mem_of_at 9 (by kernel_rfl)) h hs
set_option maxRecDepth 100000 in
theorem requestFits_met (os : Os) (args : Array Value) : laidMetH Tryz.prog Rows.requestFitsRow.laid ((startW os Rows.requestFitsRow.laid).forCall (fun _ _ => 0) ⟨#[], args, []⟩).memory :=
  start_met os _ (by kernel_rfl) (by kernel_rfl) (by kernel_rfl) (by kernel_rfl) (by kernel_rfl) (by kernel_rfl) (by kernel_rfl) args
end Go.Proofs.YtmdjibkgnmjhbaaGreatDoor
end
