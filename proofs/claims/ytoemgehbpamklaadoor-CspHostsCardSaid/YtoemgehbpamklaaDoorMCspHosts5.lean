/- CspHosts: part 5 of its proof: ChWalk, Open, DoorMetZ, CspRow, CardCspHosts. -/
import Derived.Test.YtoemgehbpamklaaDoorSCspHosts0
import Derived.Test.YtoemgehbpamklaaDoorSCspHosts1
import Derived.Test.YtoemgehbpamklaaDoorSCspHosts2
import Derived.Test.YtoemgehbpamklaaDoorSCspHosts3
import Derived.Test.YtoemgehbpamklaaDoorSCspHosts4
import Derived.Test.YtoemgehbpamklaaDoorSCspHosts5
import Derived.Test.YtoemgehbpamklaaDoorMCspHosts3
import Derived.SizedLaws
import Derived.ChangeArms
import Derived.OpenShut
import Derived.Deep.Slices
import Derived.Deep.Fields
import Derived.ChangeSame
import Derived.Test.YtoemgehbpamklaaDoorCards
import Derived.Test.YtoemgehbpamklaaDoorProg
import Derived.LaidMore
import Derived.LaidOnce
import Derived.Lay
import Derived.MakeChecks
import Derived.KernelRfl
import Derived.Test.YtoemgehbpamklaaDoorMCspHosts4
import Derived.Test.YtoemgehbpamklaaDoorTie
import Derived.WalkKit
import Derived.ProofKit
import Derived.ShutString
import Derived.ChangeOld
import Derived.Below
import Derived.SevenTiedAt
import Derived.Test.YtoemgehbpamklaaDoorMCspHosts0
import Derived.Test.YtoemgehbpamklaaDoorMCspHosts1
import Derived.Test.YtoemgehbpamklaaDoorMCspHosts2
section
/- CspHosts: what the law does, whatever it is given. -/
set_option autoImplicit false
set_option linter.unusedSimpArgs false
set_option linter.unusedVariables false
namespace Go.Proofs.YtoemgehbpamklaaDoor
open Go Go.RowKit Go.Proofs.YtoemgehbpamklaaDoor.Abs

theorem ch_run (e1 : Nat) (a : Bool) (i : Nat) (hi : i < 3) : runCh e1 a i = true := by
  match a, i, hi with
  | false, 0, _ => exact ch_run0 e1
  | false, 1, _ => exact ch_run1 e1
  | false, 2, _ => exact ch_run2 e1
  | true, 0, _ => exact ch_run3 e1
  | true, 1, _ => exact ch_run4 e1
  | true, 2, _ => exact ch_run5 e1
theorem moatlaw6_CspHosts.walk (a : Bool) (z1 z2 z3 z4 : Int) (b c : Bool) (w : World) (h : CspWorld w) : Calls Tryd.prog 3 #[.bool a, .int .i64 z1, .int .i64 z2, .int .i64 z3, .int .i64 z4, .bool b, .bool c] w fun e w' => e = .returned (.bool true) ∧ Below w.heap.size w w' := by
  obtain ⟨e1, ι, hI, hf, h0, h1, h2, h3⟩ := h.inv z1 z2 z3 z4
  have hi : lowN z1 3 < 3 := by have := lowN_lt z1 3 (by decide); omega
  have hj : lowN z2 4 < 4 := by have := lowN_lt z2 4 (by decide); omega
  have hk : lowN z3 4 < 4 := by have := lowN_lt z3 4 (by decide); omega
  have hl : lowN z4 3 < 3 := by have := lowN_lt z4 3 (by decide); omega
  have hr := allB_ok (allB_ok (allB_ok (bits2_ok (ch_run e1 a _ hi) b c) _ hj) _ hk) _ hl
  obtain ⟨v, h', j, hc, hk⟩ := call_of_knot (tabCh_ok _ _ _ _) hr
  obtain rfl := kTrue_ok hk
  refine law_of_call (args' := [.bool a, .int .i64 z1, .int .i64 z2, .int .i64 z3, .int .i64 z4, .bool b, .bool c]) noNG_prog (adraw_ok noNG_prog (by kernel_rfl)) (((G0_ok h).add (natLow_ok ?_)).add (sTrue6_ok h)) hc hI ?_ (of_decide_eq_true (by kernel_rfl)) hf
  · intro id n k hm
    simp only [TCh, List.mem_cons, Prod.mk.injEq, List.not_mem_nil, or_false] at hm
    rcases hm with ⟨rfl, rfl, rfl⟩ | ⟨rfl, rfl, rfl⟩ | ⟨rfl, rfl, rfl⟩ | ⟨rfl, rfl, rfl⟩
    · exact ⟨z1, h0, by decide, by decide, rfl⟩
    · exact ⟨z2, h1, by decide, by decide, rfl⟩
    · exact ⟨z3, h2, by decide, by decide, rfl⟩
    · exact ⟨z4, h3, by decide, by decide, rfl⟩
  · have t1 := VRel.tok (ι := ι) 9 _ h0
    have t2 := VRel.tok (ι := ι) 10 _ h1
    have t3 := VRel.tok (ι := ι) 11 _ h2
    have t4 := VRel.tok (ι := ι) 12 _ h3
    rw [tokLoc_z] at t1 t2 t3 t4
    exact ⟨.bool a, t1, t2, t3, t4, .bool b, .bool c, trivial⟩
end Go.Proofs.YtoemgehbpamklaaDoor
end
section
/- Arguments of any kind opened: what a datum reads as, in the print's kinds: numbers, bools, texts, structs, arrays, slices, one within another. -/
set_option linter.unusedSimpArgs false
set_option linter.unusedVariables false
namespace Go.Proofs.YtoemgehbpamklaaDoor
open Go Go.RowKit Go.ChangeShapes Go.WideShapes Go.Deep Go.Proofs.YtoemgehbpamklaaDoorW.PrintWords

def Opens {α : Type} (P : Program) (t : TypeId) (d : Kd α) (B : α → Prop) : Prop :=
  ∀ (H : Type) (enc : TypeId × Value → H) (w : World) (sp : Nat → Bool) (held : Bool) (fuel : Nat) (cs : List Value) (x : DataW H × List MemPlace),
    DataW.trod enc P w 0 sp held fuel t cs = some x → (∀ n ∈ x.1.weights P t, n ≤ reachBytes) → ∃ a, d.K w a cs ∧ B a

theorem Opens.mono {α : Type} {P : Program} {t : TypeId} {d : Kd α} {B B' : α → Prop} (h : Opens P t d B) (hb : ∀ a, B a → B' a) : Opens P t d B' := fun H enc w sp held fuel cs x hx hw => by
  obtain ⟨a, h1, h2⟩ := h H enc w sp held fuel cs x hx hw
  exact ⟨a, h1, hb a h2⟩
theorem Opens.int {P : Program} {t : TypeId} {k : IntKind} (h : P.underlying t = some (.int k)) : Opens P t (Kd.int k) (fun n => (Lit.int k n).wf = true) := fun H enc w sp held fuel cs x hx _ => by
  obtain ⟨n, rfl, _, hw⟩ := DataW.trod_int h hx
  exact ⟨n, rfl, hw⟩
theorem Opens.bool {P : Program} {t : TypeId} (h : P.underlying t = some .bool) : Opens P t Kd.bool (fun _ => True) := fun H enc w sp held fuel cs x hx _ => by
  obtain ⟨b, rfl, _⟩ := DataW.trod_bool h hx
  exact ⟨b, rfl, trivial⟩
theorem Opens.string {P : Program} {t : TypeId} (h : P.underlying t = some .string) : Opens P t Kd.string (fun s => s.size ≤ 140737488351232) := fun H enc w sp held fuel cs x hx hw => by
  obtain ⟨s, rfl, rfl, _⟩ := DataW.trod_string h hx
  refine ⟨s, rfl, ?_⟩
  have := hw s.data.toList.length (by simp [DataW.weights])
  rw [Array.length_toList] at this
  exact this
/-- A struct's fields, from one of them on. -/
def OpensF {α : Type} (P : Program) (fs : List Field) (off : Nat) (d : Kd α) (B : α → Prop) : Prop :=
  ∀ (H : Type) (enc : TypeId × Value → H) (w : World) (sp : Nat → Bool) (held : Bool) (fuel : Nat) (cs : List Value) (ys : List (DataW H × List MemPlace)),
    (∀ (j : Nat) (f : Field), fs[j]? = some f → DataW.trod enc P w 0 sp held fuel f.type ((cs.drop f.offset).take (P.cellsOf f.type)) = ys[j]?) → ys.length = fs.length → off + (fs.map fun f => P.cellsOf f.type).sum = cs.length →
    (∀ n ∈ DataW.weightsEach P (fs.map (·.type)) (ys.map (·.1)), n ≤ reachBytes) → ∃ a, d.K w a (cs.drop off) ∧ B a

theorem OpensF.one {α : Type} {P : Program} {f : Field} {off : Nat} {d : Kd α} {B : α → Prop} (ho : f.offset = off) (h : Opens P f.type d B) : OpensF P [f] off d B := fun H enc w sp held fuel cs ys hf hl hs hw => by
  match ys, hl with
  | [y], _ =>
    have h0 := hf 0 f rfl
    rw [ho, List.take_of_length_le (by rw [List.length_drop]; simp at hs; omega)] at h0
    exact h H enc w sp held fuel _ y h0 (fun n hn => hw n (by simp [DataW.weightsEach, hn]))
theorem OpensF.cons {α β : Type} {P : Program} {f : Field} {fs : List Field} {off off' : Nat} {d : Kd α} {e : Kd β} {B : α → Prop} {C : β → Prop} (ho : f.offset = off) (ho' : off + P.cellsOf f.type = off') (h : Opens P f.type d B) (hr : OpensF P fs off' e C) :
    OpensF P (f :: fs) off (Kd.pair d e) (fun ab => B ab.1 ∧ C ab.2) := fun H enc w sp held fuel cs ys hf hl hs hw => by
  match ys, hl with
  | y :: ys, hl =>
    have h0 := hf 0 f rfl
    rw [ho] at h0
    obtain ⟨a, ha, hb⟩ := h H enc w sp held fuel _ y h0 (fun n hn => hw n (by simp [DataW.weightsEach, hn]))
    obtain ⟨b, hb1, hb2⟩ := hr H enc w sp held fuel cs ys (fun (j : Nat) (g : Field) hg => by have := hf (j + 1) g (by simpa using hg); simpa using this) (by simpa using hl) (by simp at hs; omega) (fun n hn => hw n (by simp [DataW.weightsEach, hn]))
    refine ⟨(a, b), ⟨(cs.drop off).take (P.cellsOf f.type), cs.drop off', ?_, ha, hb1⟩, hb, hb2⟩
    rw [← ho', ← List.drop_drop, List.take_append_drop]
theorem Opens.struct {α : Type} {P : Program} {t : TypeId} {fs : Array Field} {d : Kd α} {B : α → Prop} (h : P.underlying t = some (.struct fs)) (hc : (fs.toList.map fun f => P.cellsOf f.type).sum = P.cellsOf t) (hf : OpensF P fs.toList 0 d B) : Opens P t d B := fun H enc w sp held fuel cs x hx hw => by
  obtain ⟨xs, n, _, rfl, hl, hlen, hg⟩ := DataW.trod_struct h hx
  have := hf H enc w sp held n cs xs (fun (j : Nat) (f : Field) hj => hg j f (by simpa using hj)) (by simpa using hlen) (by rw [Nat.zero_add, hc, hl]) (fun m hm => hw m (by
    simp only [DataW.weights, h]
    exact hm))
  simpa using this

theorem weightsAll_mem {H : Type} {P : Program} {e : TypeId} : ∀ {l : List (DataW H)} {d : DataW H}, d ∈ l → ∀ n ∈ d.weights P e, n ∈ DataW.weightsAll P e l
  | x :: l, d, h, n, hn => by
    rcases List.mem_cons.1 h with rfl | h
    · simp [DataW.weightsAll, hn]
    · simp [DataW.weightsAll, weightsAll_mem h n hn]

/-- A choice for each place. -/
theorem choose_list {α : Type} {R : Nat → α → Prop} : ∀ (n : Nat), (∀ i, i < n → ∃ a, R i a) → ∃ l : List α, l.length = n ∧ ∀ i a, l[i]? = some a → R i a
  | 0, _ => ⟨[], rfl, by simp⟩
  | n + 1, h => by
    obtain ⟨l, hl, hr⟩ := choose_list n (fun i hi => h i (by omega))
    obtain ⟨a, ha⟩ := h n (by omega)
    refine ⟨l ++ [a], by simp [hl], fun i b hb => ?_⟩
    rcases Nat.lt_trichotomy i n with hi | hi | hi
    · rw [List.getElem?_append_left (by omega)] at hb; exact hr i b hb
    · subst hi
      rw [List.getElem?_append_right (by omega), hl] at hb
      simp at hb
      rw [← hb]; exact ha
    · rw [List.getElem?_eq_none (by simp; omega)] at hb; cases hb

theorem Opens.slice {α : Type} {P : Program} {t e : TypeId} {d : Kd α} {B : α → Prop} (ht : P.underlying t = some (.slice e)) (hc : P.cellsOf e = d.sz) (h : Opens P e d B) :
    Opens P t (Kd.slice e d) (fun xs => (∀ x ∈ xs, B x) ∧ xs.length * P.bytesOf e ≤ reachBytes ∧ xs.length ≤ maxLen) := fun H enc w sp held fuel cs x hx hw => by
  rcases open_slice ht hx with ⟨rfl, rfl⟩ | ⟨a, len, cap, m, n, D, Pl, rfl, hb, hl, hm, hmm, rfl, hi⟩
  · refine ⟨[], ⟨none, 0, rfl, Nat.le_refl _, ⟨rfl, by simp, fun h => by simp at h⟩⟩, by simp, by simp, by simp⟩
  · have hlm : len ≤ m := by rw [hmm]; split <;> omega
    have hws : ∀ n ∈ ((((List.range len).map D).length * P.bytesOf e) :: DataW.weightsAll P e ((List.range len).map D)), n ≤ reachBytes := fun k hk => by
      simp only [DataW.weights, ht] at hw
      rcases List.mem_cons.1 hk with rfl | hk
      · have := hw _ (by exact List.mem_cons_self)
        refine Nat.le_trans ?_ this
        exact Nat.mul_le_mul_right _ (by omega)
      · exact hw k (List.mem_cons_of_mem _ (List.mem_append_left _ hk))
    have hel : ∀ i, i < len → ∃ y, (∃ cs', cs'.length = d.sz ∧ d.K w y cs' ∧ ∀ j u, cs'[j]? = some u → w.cell? (a.add (i * d.sz + j)) = some u) ∧ B y := fun i hil => by
      obtain ⟨cs', hcs, htr⟩ := hi i (by omega)
      obtain ⟨_, hcl, hat⟩ := World.cells?_some hcs
      obtain ⟨y, hy, hby⟩ := h H enc w sp held n cs' _ htr (fun k hk => hws k (List.mem_cons_of_mem _ (weightsAll_mem (List.mem_map.2 ⟨i, List.mem_range.2 hil, rfl⟩) k hk)))
      rw [hc] at hcl hat
      refine ⟨y, ⟨cs', hcl, hy, fun j u hj => ?_⟩, hby⟩
      have hjl : j < d.sz := by rw [← hcl]; exact (List.getElem?_eq_some_iff.1 hj).1
      have := hat j hjl
      rw [hj, Go.Deep.add_add] at this
      exact this
    obtain ⟨l, hll, hlr⟩ := choose_list len hel
    have hmx : len ≤ 9223372036854775807 := by unfold maxLen at hm; omega
    refine ⟨l, ⟨some a, cap, by rw [hll], by rw [hll]; exact hl, ⟨rfl, by rw [hll]; exact hmx, fun _ => ⟨a, rfl, fun j p hp => (hlr j p hp).1⟩⟩⟩, fun y hy => ?_, ?_, ?_⟩
    · obtain ⟨i, hi⟩ := List.getElem?_of_mem hy
      exact (hlr i y hi).2
    · have := hws _ List.mem_cons_self
      simpa [hll] using this
    · rw [hll]; omega
theorem Opens.array {α : Type} {P : Program} {t e : TypeId} {n : Nat} {d : Kd α} {B : α → Prop} (hs : 0 < d.sz) (ht : P.underlying t = some (.array n e)) (hc : P.cellsOf e = d.sz) (hct : P.cellsOf t = n * d.sz) (h : Opens P e d B) :
    Opens P t (Kd.arr n d hs) (fun xs => ∀ x ∈ xs, B x) := fun H enc w sp held fuel cs x hx hw => by
  obtain ⟨xs, m, _, rfl, hl, hlen, hg⟩ := DataW.trod_array ht hx
  have hel : ∀ i, i < n → ∃ y, d.K w y ((cs.drop (i * d.sz)).take d.sz) ∧ B y := fun i hi => by
    have h1 := hg i hi
    rw [hc, List.getElem?_eq_getElem (by omega)] at h1
    exact h H enc w sp held m _ _ h1 (fun k hk => hw k (by
      simp only [DataW.weights, ht]
      exact weightsAll_mem (List.mem_map.2 ⟨_, List.getElem_mem _, rfl⟩) k hk))
  obtain ⟨l, hll, hlr⟩ := choose_list n hel
  refine ⟨l, ⟨hll, by rw [hl, hct, hll], fun j p hp => (hlr j p hp).1⟩, fun y hy => ?_⟩
  obtain ⟨i, hi⟩ := List.getElem?_of_mem hy
  exact (hlr i y hi).2

end Go.Proofs.YtoemgehbpamklaaDoor
end
section
/- A start that meets the rows' condition where a listed variable is a map and another is pinned: what the door's own run leaves, and the pinned table laid behind it. -/
namespace Go.Proofs.YtoemgehbpamklaaDoor
open Go
noncomputable def pinnedOf (l : List (String × DataW Unit)) : List (String × DataW Unit) := l.filter fun x => ["unicode/utf8.first"].contains x.1
noncomputable def startW (os : Os) (l : List (String × DataW Unit)) : World := (World.doorLaid Tryd.prog 4000 os).layVars Tryd.prog (pinnedOf l)
noncomputable def startB (os : Os) : List Nat := (List.range (World.doorLaid Tryd.prog 4000 os).heap.size).filter fun b => !(b == 4)
theorem startW_os (os : Os) (l : List (String × DataW Unit)) : (startW os l).os = os := World.layVars_os _ _ _
theorem start_met (os : Os) (l : List (String × DataW Unit)) (hl : (l.all fun x => x.2.handleName?.isNone) = true)
    (hf : (World.doorLaid Tryd.prog 4000 os).layFits Tryd.prog (pinnedOf l) (startB os) = true) (hi : (World.doorLaid Tryd.prog 4000 os).layIfaces Tryd.prog (pinnedOf l) (startW os l) = true)
    (h1 : (DataW.laidRun Tryd.prog (startW os l) 8 ((l.filter fun x => !["unicode/utf8.first"].contains x.1).map (·.1))).map (·.1) = some (l.filter fun x => !["unicode/utf8.first"].contains x.1))
    (h2 : (DataW.laidRun Tryd.prog (startW os l) 8 ((l.filter fun x => !["unicode/utf8.first"].contains x.1).map (·.1))).map (fun x => nodupB (x.2.map MemPlace.codeOf)) = some true)
    (h3 : (DataW.laidRun Tryd.prog (startW os l) 8 ((l.filter fun x => !["unicode/utf8.first"].contains x.1).map (·.1))).map (fun x => laidRowsB Tryd.prog (startW os l) x.2) = some true)
    (h4 : (DataW.laidRun Tryd.prog (startW os l) 8 ((l.filter fun x => !["unicode/utf8.first"].contains x.1).map (·.1))).map (fun x => x.2.all fun p => (startB os).contains p.block) = some true)
    (args : Array Value) : laidMetH Tryd.prog l ((startW os l).forCall (fun _ _ => 0) ⟨#[], args, []⟩).memory := by
  rw [MakeChecks.laidMetH_plain _ _ _ hl]
  have h : laidMet Tryd.prog l (startW os l) := laidMet_layVars (w0 := World.doorLaid Tryd.prog 4000 os) ["unicode/utf8.first"] (startB os) rfl hf hi (LaidIn.of_run (startB os) 8 h1 h2 h3 h4)
  exact h.of_heap (by simp [World.memory, World.forCall, Input.heap])
end Go.Proofs.YtoemgehbpamklaaDoor
end
section
/- What the row of CspHosts gives the walk: the world that CspW speaks of; a start that meets the row's condition. -/
namespace Go.Proofs.YtoemgehbpamklaaDoor
open Go Go.Proofs.YtoemgehbpamklaaDoor.Abs
theorem mem_of_at {l : List (String × DataW Unit)} {x : String × DataW Unit} (i : Nat) (h : l[i]? = some x) : x ∈ l := List.mem_of_getElem? h
theorem iface_of {H : Type} {enc : TypeId × Value → H} {P : Program} {w : World} {b : Nat} {sp : Nat → Bool} {held : Bool} {fuel : Nat} {t : TypeId} {ms : Array (String × TypeId)} {cs : List Value} {nm : String} {d : DataW H} {p : List MemPlace}
    (ht : P.underlying t = some (.interface ms)) (h : DataW.trod enc P w b sp held fuel t cs = some (.iface nm d, p)) : ∃ u v, cs = [.iface u v] := by
  cases fuel with
  | zero => simp [DataW.trod] at h
  | succ fuel =>
    simp only [DataW.trod, ht] at h
    split at h
    all_goals first
      | exact ⟨_, _, rfl⟩
      | (simp_all; done)
theorem cspPort_of {W : World} {l : List (String × DataW Unit)} (h : laidMet Tryd.prog l W) (h1 : ("internal/strconv.uint64pow10", Rows.laid_internal_strconv_uint64pow10) ∈ l) (h2 : ("strconv.ErrSyntax", Rows.laid_strconv_ErrSyntax) ∈ l) : PortAt W := by
  refine ⟨?_, ?_⟩
  · obtain ⟨g', t', us, fuel, p, g1, g2, g3, g4⟩ := Lib.laidMet.reads h h1
    obtain rfl := Option.some.inj ((show Tryd.prog.globalNamed "internal/strconv.uint64pow10" = some 6 by kernel_rfl).symm.trans g1)
    obtain rfl := Option.some.inj ((show (Tryd.prog.globals[6]?).map (·.type) = some 105 by kernel_rfl).symm.trans g2)
    have e : Rows.laid_internal_strconv_uint64pow10 = (Lib.tabData .u64 Lib.pow10Tab : DataW Unit) := by kernel_rfl
    rw [e] at g4
    have := Lib.cells_of_tab (n := 20) (e := 84) (by kernel_rfl) (by kernel_rfl) (by kernel_rfl) (by kernel_rfl) g4
    show W.var? Tryd.prog _ = _
    rw [g3, ← this]
  · obtain ⟨g', t', us, fuel, p, g1, g2, g3, g4⟩ := Lib.laidMet.reads h h2
    have hg := (show Tryd.prog.globalNamed "strconv.ErrSyntax" = some 2 by kernel_rfl)
    obtain rfl := Option.some.inj (hg.symm.trans g1)
    obtain rfl := Option.some.inj ((show (Tryd.prog.globals[2]?).map (·.type) = some 57 by kernel_rfl).symm.trans g2)
    obtain ⟨u, v, hu⟩ := iface_of (t := 57) (ms := (match Tryd.prog.underlying 57 with | some (.interface ms) => ms | _ => #[])) (by kernel_rfl) g4
    refine ⟨u, v, ?_⟩
    have h0 := World.var?_cell hg g3 0
    rw [h0, ← Array.getElem?_toList, hu]
    rfl
set_option maxRecDepth 100000 in
theorem cspHosts_world {W : World} (h : laidMetH Tryd.prog Rows.cspHostsRow.laid W) (hs : W.ShapedOpen Tryd.prog) : CspWorld W := by
  rw [MakeChecks.laidMetH_plain _ _ _ (by kernel_rfl)] at h
  refine ⟨?_, cspPort_of h (mem_of_at 2 (by kernel_rfl)) (mem_of_at 5 (by kernel_rfl)), ?_⟩
  · exact Go.Proofs.cell_of_shapedOpen_int (zero := #[.int .i64 0]) (t := 3) hs (of_decide_eq_true (by kernel_rfl)) (by kernel_rfl) rfl (by kernel_rfl) (by kernel_rfl) (by kernel_rfl)
  · exact tab_of_laid h (mem_of_at (x := ("moat/csp.ports", Rows.laid_moat_csp_ports)) 6 (by kernel_rfl)) (g := 0) (t := 46) (k := 9) (e := 3) (by kernel_rfl) (by kernel_rfl) (by kernel_rfl) (by kernel_rfl) (.inr ⟨.i64, by kernel_rfl⟩) (by kernel_rfl)
set_option maxRecDepth 100000 in
theorem cspHosts_met (os : Os) (args : Array Value) : laidMetH Tryd.prog Rows.cspHostsRow.laid ((startW os Rows.cspHostsRow.laid).forCall (fun _ _ => 0) ⟨#[], args, []⟩).memory :=
  start_met os _ (by kernel_rfl) (by kernel_rfl) (by kernel_rfl) (by kernel_rfl) (by kernel_rfl) (by kernel_rfl) (by kernel_rfl) args
end Go.Proofs.YtoemgehbpamklaaDoor
end
section
/- CspHosts: the tied card of CspHosts: for every input the law answers true, and its arguments read as before; the listed variables hold what the program's text lays. Proved from the walk and the pure statement. -/
namespace Go.Proofs.YtoemgehbpamklaaDoor.cspHosts
open Go.ChangeShapes Go.WideShapes Go.ChangeAt Go.RowKit Go.Proofs.YtoemgehbpamklaaDoor Go.Proofs.YtoemgehbpamklaaDoorW.PrintWords
open Go.ChangeMaps (open_string shut_string)
set_option linter.unusedVariables false
theorem own : ownKnob Tryd.prog.godebug = none := by kernel_rfl
theorem laidOut : laidOutB Tryd.prog = true := by kernel_rfl
set_option maxRecDepth 100000 in
set_option maxHeartbeats 2000000 in
theorem lifted (os : Os) (started : os.Started) (H : Type) (enc : TypeId × Value → H) :
    ReturnsInHanded {} Tryd.checked os 3 .any (fun w args => (Rows.cspHostsSpec.pre enc Tryd.prog Tryd.f3 [] false w args ∧ laidMetH Tryd.prog Rows.cspHostsRow.laid w) ∧ sizedMet enc Tryd.prog Tryd.f3 (OpenSpec.ofChange Rows.cspHostsSpec) false w args)
      (Rows.cspHostsSpec.post enc Tryd.prog Tryd.f3 false true false false) := by
  refine Abs.returnsInHanded_of_change_both (C := Tryd.checked) (X := fun w _ => laidMetH Tryd.prog Rows.cspHostsRow.laid w) (fun _ _ _ hh h => h.of_heap hh) own started (by kernel_rfl) Tryd.func3
    (ChangeSpec.witness_shaped (enc := enc) (C := Tryd.checked) (os := os) (X := fun w _ => laidMetH Tryd.prog Rows.cspHostsRow.laid w) false (startW os Rows.cspHostsRow.laid) #[.bool false, .int .i64 0, .int .i64 0, .int .i64 0, .int .i64 0, .bool false, .bool false] 8 (startW_os _ _)
      (World.shaped_of_ZipB (by kernel_rfl) (by kernel_rfl)) (by kernel_rfl) (by kernel_rfl) (by kernel_rfl)
      (cspHosts_met os _)) ?_
  intro W base args ds gs before hval0 hW _ hsz0 hLd hSh _
  have hsz : (DataW.weightsEach Tryd.prog (Tryd.f3.params.toList ++ Rows.cspHostsSpec.plain.varTypes Tryd.prog) (ds ++ gs)).all (· ≤ reachBytes) = true := hsz0
  have hval : ∀ (j : Nat) t v, Tryd.f3.params[j]? = some t → args[j]? = some v → Value.okWide Tryd.prog W .any base t v := hval0
  have hW' := hW
  obtain ⟨p, q, hA0, hV, rfl, hfz, hnd⟩ := hW
  have hA : DataW.TrodAll enc Tryd.prog W 0 (fun _ => true) true Tryd.f3.params.toList args.toList ds p := hA0
  rw [Tryd.params3] at hA hval hsz
  obtain ⟨v0, vs0, d0, ds0, p0, q0, hargs, rfl, rfl, h0, r0⟩ := trodAll_cons hA
  obtain ⟨v1, vs1, d1, ds1, p1, q1, rfl, rfl, rfl, h1, r1⟩ := trodAll_cons r0
  obtain ⟨v2, vs2, d2, ds2, p2, q2, rfl, rfl, rfl, h2, r2⟩ := trodAll_cons r1
  obtain ⟨v3, vs3, d3, ds3, p3, q3, rfl, rfl, rfl, h3, r3⟩ := trodAll_cons r2
  obtain ⟨v4, vs4, d4, ds4, p4, q4, rfl, rfl, rfl, h4, r4⟩ := trodAll_cons r3
  obtain ⟨v5, vs5, d5, ds5, p5, q5, rfl, rfl, rfl, h5, r5⟩ := trodAll_cons r4
  obtain ⟨v6, vs6, d6, ds6, p6, q6, rfl, rfl, rfl, h6, r6⟩ := trodAll_cons r5
  obtain ⟨rfl, rfl, rfl⟩ := trodAll_nil r6
  obtain rfl : args = #[v0, v1, v2, v3, v4, v5, v6] := by cases args; simp_all
  obtain ⟨rfl, rfl⟩ := trodVars_none hV
  obtain ⟨a0, rfl, rfl, rfl⟩ := open_bool Tryd.underlying4 (hval 0 4 v0 rfl rfl) h0
  obtain ⟨a1, rfl, rfl, rfl, w1⟩ := open_int Tryd.underlying3 (hval 1 3 v1 rfl rfl) h1
  obtain ⟨a2, rfl, rfl, rfl, w2⟩ := open_int Tryd.underlying3 (hval 2 3 v2 rfl rfl) h2
  obtain ⟨a3, rfl, rfl, rfl, w3⟩ := open_int Tryd.underlying3 (hval 3 3 v3 rfl rfl) h3
  obtain ⟨a4, rfl, rfl, rfl, w4⟩ := open_int Tryd.underlying3 (hval 4 3 v4 rfl rfl) h4
  obtain ⟨a5, rfl, rfl, rfl⟩ := open_bool Tryd.underlying4 (hval 5 4 v5 rfl rfl) h5
  obtain ⟨a6, rfl, rfl, rfl⟩ := open_bool Tryd.underlying4 (hval 6 4 v6 rfl rfl) h6
  clear hA0 hval0 hsz0
  refine (moatlaw6_CspHosts.walk a0 a1 a2 a3 a4 a5 a6 W (cspHosts_world hLd hSh)).mono fun e W' ⟨he, bel⟩ => ?_
  subst he
  exact ⟨_, rfl, _, _, _, [], _, [], hW', trodAll_mk1 (shut_bool Tryd.underlying4 _), (trodAll_cons_mk (shut_bool Tryd.underlying4 _) (trodAll_cons_mk (shut_int Tryd.underlying3 w1) (trodAll_cons_mk (shut_int Tryd.underlying3 w2) (trodAll_cons_mk (shut_int Tryd.underlying3 w3) (trodAll_cons_mk (shut_int Tryd.underlying3 w4) (trodAll_cons_mk (shut_bool Tryd.underlying4 _) (trodAll_cons_mk (shut_bool Tryd.underlying4 _) trodAll_mk0))))))), rfl, bel.frame _, fun h => by cases h⟩
theorem over : Rows.cspHostsRow.holds Tryd.pinned (OpenSpec.ofChange Rows.cspHostsSpec) :=
  OpenClaim.holds_of_wide 3 Tryd.f3 rfl rfl rfl rfl rfl rfl rfl ⟨rfl, rfl, rfl, rfl, rfl⟩ rfl rfl rfl rfl rfl (by kernel_rfl) Tryd.func3 (by kernel_rfl)
    (of_decide_eq_true (by kernel_rfl)) (by unfold Func.isWrapper; first | (rw [if_pos (by decide +kernel)]; kernel_rfl) | (rw [if_neg (by decide +kernel)]; exact ⟨rfl, rfl⟩))
    (fun os started H enc _ => lifted os started H enc)
theorem proved : Rows.CspHostsSaid := over
end Go.Proofs.YtoemgehbpamklaaDoor.cspHosts
namespace Go.Proofs.YtoemgehbpamklaaDoor
open Go
theorem cspHosts_holds : Rows.CspHostsSaid := cspHosts.proved
theorem cspHosts_card : Rows.CspHostsCardSaid :=
  Claim7.holds_tied_plain_at .later [] [.data, .data, .data, .data, .sentinel, .sentinel, .mapped, .pinned] true (true, "4b9af426c021ecac7498a58f1e7ed8ae9709b8f605a57cc715118d539e313a12") true
    cspHosts_holds (fun _ h => by cases h) (by kernel_rfl) (fun _ h => by cases h) cspHosts_row_tie rfl ⟨rfl, rfl⟩ (by kernel_rfl) rfl
    (fun f fn hf hfn => by
      obtain rfl : f = 3 := Option.some.inj ((show Tryd.prog.funcNamed "moat/moatlaw6.CspHosts" = some 3 by kernel_rfl).symm.trans hf) |>.symm
      obtain rfl : fn = Tryd.f3 := (Option.some.inj (Tryd.func3.symm.trans hfn)).symm
      exact ⟨by kernel_rfl, fun j t ht => by
        rw [Tryd.params3] at ht
        have hm : t ∈ [3, 4] := by
          have hin := Array.mem_def.1 (Array.mem_of_getElem? ht)
          exact (show ∀ u ∈ ([4, 3, 3, 3, 3, 4, 4] : List TypeId), u ∈ ([3, 4] : List TypeId) by decide) t hin
        have hall : ([3, 4].all fun u => !Tryd.prog.wantsStandIn u) = true := by kernel_rfl
        exact (show Tryd.prog.wantsStandIn t = false by simpa using List.all_eq_true.1 hall t hm)⟩)
    (by kernel_rfl)
end Go.Proofs.YtoemgehbpamklaaDoor
end
#print axioms Go.Proofs.YtoemgehbpamklaaDoor.cspHosts_card
