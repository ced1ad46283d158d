/- TopFirst: part 8 of its proof: TfDef, TfWalk, Open, DoorMetZ, TopRow. -/
import Derived.Test.YtacknhbgfijkcaaGreatDoorSTopFirst0
import Derived.Test.YtacknhbgfijkcaaGreatDoorMTopFirst7
import Derived.Test.YtacknhbgfijkcaaGreatDoorSTopFirst1
import Derived.Test.YtacknhbgfijkcaaGreatDoorSTopFirst2
import Derived.Test.YtacknhbgfijkcaaGreatDoorSTopFirst3
import Derived.Test.YtacknhbgfijkcaaGreatDoorSTopFirst4
import Derived.Test.YtacknhbgfijkcaaGreatDoorSTopFirst5
import Derived.Test.YtacknhbgfijkcaaGreatDoorSTopFirst6
import Derived.Test.YtacknhbgfijkcaaGreatDoorMTopFirst3
import Derived.SizedLaws
import Derived.ChangeArms
import Derived.OpenShut
import Derived.Deep.Slices
import Derived.Deep.Fields
import Derived.ChangeSame
import Derived.Test.YtacknhbgfijkcaaGreatDoorCards
import Derived.Test.YtacknhbgfijkcaaGreatDoorProg
import Derived.LaidMore
import Derived.LaidOnce
import Derived.Lay
import Derived.MakeChecks
import Derived.KernelRfl
import Derived.Test.YtacknhbgfijkcaaGreatDoorMTopFirst5
import Derived.Test.YtacknhbgfijkcaaGreatDoorMTopFirst0
import Derived.Test.YtacknhbgfijkcaaGreatDoorMTopFirst1
import Derived.Test.YtacknhbgfijkcaaGreatDoorMTopFirst2
import Derived.Test.YtacknhbgfijkcaaGreatDoorMTopFirst4
import Derived.Test.YtacknhbgfijkcaaGreatDoorMTopFirst6
set_option linter.unusedSimpArgs false
set_option linter.unusedVariables false
set_option linter.unusedSectionVars false
section
/- TopFirst: what is run. -/
namespace Go.Proofs.YtacknhbgfijkcaaGreatDoor
open Go Go.RowKit Go.Proofs.YtacknhbgfijkcaaGreatDoor.Abs
theorem awakeT_calls {w : World} (h : TopWorld w) : Calls Tryz.prog 12 #[] w fun e w' => e = .returned (.bool true) ∧ Below w.heap.size w w':=by
 obtain ⟨e1, e2, e3, e4, e5, e6, e7, ι, hI, hf, _⟩:=h.inv 0 0 0 0 0
 obtain ⟨v, h', j, hc, hk⟩:=call_of_knot tabTA_ok (awakeT_run e1 e2 e3 e4 e5 e6 e7)
 obtain rfl:=kTrue_ok hk
 exact law_of_call (args':=[]) noNG_prog (adraw_ok noNG_prog (by kernel_rfl)) (G4_ok h.bo.wf.max) hc hI trivial (of_decide_eq_true (by kernel_rfl)) hf
theorem sTrueT_ok {w : World} {ι0 : Nat → Option Abs.Loc} (h : TopWorld w) : NatOk Tryz.prog w.heap.size ⟨w, ι0⟩ 12 (natFlat sTrue):=by
 refine natFlat_ok fun args v hv => ?_
 unfold sTrue at hv
 split at hv
 · cases hv
   exact ⟨rfl, rfl, fun w' hb => awakeT_calls (h.below hb)⟩
 · cases hv
end Go.Proofs.YtacknhbgfijkcaaGreatDoor
end
section
/- TopFirst: what the law does, whatever the number. -/
namespace Go.Proofs.YtacknhbgfijkcaaGreatDoor
open Go Go.RowKit Go.Proofs.YtacknhbgfijkcaaGreatDoor.Abs
theorem tf_run (e1 e2 e3 e4 e5 e6 e7 i : Nat) (hi : i < 6) : runTf e1 e2 e3 e4 e5 e6 e7 i = true:=by
 match i, hi with
 | 0, _ => exact tf_run0 ..
 | 1, _ => exact tf_run1 ..
 | 2, _ => exact tf_run2 ..
 | 3, _ => exact tf_run3 ..
 | 4, _ => exact tf_run4 ..
 | 5, _ => exact tf_run5 ..
theorem moattop_TopFirst.walk (z1 : Int) (w : World) (h : TopWorld w) : Calls Tryz.prog 3 #[.int .i64 z1] w fun e w' => e = .returned (.bool true) ∧ Below w.heap.size w w':=by
 obtain ⟨e1, e2, e3, e4, e5, e6, e7, ι, hI, hf, h0, _⟩:=h.inv z1 0 0 0 0
 have hi : lowN z1 6 < 6:=by have:=lowN_lt z1 6 (by decide); omega
 have hr:=tf_run e1 e2 e3 e4 e5 e6 e7 _ hi
 obtain ⟨v, h', j, hc, hk⟩:=call_of_knot (tabTf_ok _) hr
 obtain rfl:=kTrue_ok hk
 refine law_of_call (args':=[.int .i64 z1]) noNG_prog (adraw_ok noNG_prog (by kernel_rfl)) (((G4_ok h.bo.wf.max).add (natLow_ok ?_)).add (sTrueT_ok h)) hc hI ?_ (of_decide_eq_true (by kernel_rfl)) hf
 · intro id n k hm
   simp only [TTf, List.mem_cons, Prod.mk.injEq, List.not_mem_nil, or_false] at hm
   obtain ⟨rfl, rfl, rfl⟩:=hm
   exact ⟨z1, h0, by decide, by decide, rfl⟩
 · have t1:=VRel.tok (ι:=ι) 16 _ h0
   rw [tokLoc_z] at t1
   exact ⟨t1, trivial⟩
end Go.Proofs.YtacknhbgfijkcaaGreatDoor
end
section
/- Arguments of any kind opened: what a datum reads as, in the print's kinds: numbers, bools, texts, structs, arrays, slices, one within another. -/
namespace Go.Proofs.YtacknhbgfijkcaaGreatDoor
open Go Go.RowKit Go.ChangeShapes Go.WideShapes Go.Deep Go.Proofs.YtacknhbgfijkcaaGreatDoorW.PrintWords
def Opens {α : Type} (P : Program) (t : TypeId) (d : Kd α) (B : α → Prop) : Prop :=
 ∀ (H : Type) (enc : TypeId × Value → H) (w : World) (sp : Nat → Bool) (held : Bool) (fuel : Nat) (cs : List Value) (x : DataW H × List MemPlace),
   DataW.trod enc P w 0 sp held fuel t cs = some x → (∀ n ∈ x.1.weights P t, n ≤ reachBytes) → ∃ a, d.K w a cs ∧ B a
theorem Opens.mono {α : Type} {P : Program} {t : TypeId} {d : Kd α} {B B' : α → Prop} (h : Opens P t d B) (hb : ∀ a, B a → B' a) : Opens P t d B':=fun H enc w sp held fuel cs x hx hw => by
 obtain ⟨a, h1, h2⟩:=h H enc w sp held fuel cs x hx hw
 exact ⟨a, h1, hb a h2⟩
theorem Opens.int {P : Program} {t : TypeId} {k : IntKind} (h : P.underlying t = some (.int k)) : Opens P t (Kd.int k) (fun n => (Lit.int k n).wf = true):=fun H enc w sp held fuel cs x hx _ => by
 obtain ⟨n, rfl, _, hw⟩:=DataW.trod_int h hx
 exact ⟨n, rfl, hw⟩
theorem Opens.bool {P : Program} {t : TypeId} (h : P.underlying t = some .bool) : Opens P t Kd.bool (fun _ => True):=fun H enc w sp held fuel cs x hx _ => by
 obtain ⟨b, rfl, _⟩:=DataW.trod_bool h hx
 exact ⟨b, rfl, trivial⟩
theorem Opens.string {P : Program} {t : TypeId} (h : P.underlying t = some .string) : Opens P t Kd.string (fun s => s.size ≤ 140737488351232):=fun H enc w sp held fuel cs x hx hw => by
 obtain ⟨s, rfl, rfl, _⟩:=DataW.trod_string h hx
 refine ⟨s, rfl, ?_⟩
 have:=hw s.data.toList.length (by simp [DataW.weights])
 rw [Array.length_toList] at this
 exact this
def OpensF {α : Type} (P : Program) (fs : List Field) (off : Nat) (d : Kd α) (B : α → Prop) : Prop :=
 ∀ (H : Type) (enc : TypeId × Value → H) (w : World) (sp : Nat → Bool) (held : Bool) (fuel : Nat) (cs : List Value) (ys : List (DataW H × List MemPlace)),
   (∀ (j : Nat) (f : Field), fs[j]? = some f → DataW.trod enc P w 0 sp held fuel f.type ((cs.drop f.offset).take (P.cellsOf f.type)) = ys[j]?) → ys.length = fs.length → off + (fs.map fun f => P.cellsOf f.type).sum = cs.length →
   (∀ n ∈ DataW.weightsEach P (fs.map (·.type)) (ys.map (·.1)), n ≤ reachBytes) → ∃ a, d.K w a (cs.drop off) ∧ B a
theorem OpensF.one {α : Type} {P : Program} {f : Field} {off : Nat} {d : Kd α} {B : α → Prop} (ho : f.offset = off) (h : Opens P f.type d B) : OpensF P [f] off d B:=fun H enc w sp held fuel cs ys hf hl hs hw => by
 match ys, hl with
 | [y], _ =>
   have h0:=hf 0 f rfl
   rw [ho, List.take_of_length_le (by rw [List.length_drop]; simp at hs; omega)] at h0
   exact h H enc w sp held fuel _ y h0 (fun n hn => hw n (by simp [DataW.weightsEach, hn]))
theorem OpensF.cons {α β : Type} {P : Program} {f : Field} {fs : List Field} {off off' : Nat} {d : Kd α} {e : Kd β} {B : α → Prop} {C : β → Prop} (ho : f.offset = off) (ho' : off + P.cellsOf f.type = off') (h : Opens P f.type d B) (hr : OpensF P fs off' e C) :
   OpensF P (f :: fs) off (Kd.pair d e) (fun ab => B ab.1 ∧ C ab.2):=fun H enc w sp held fuel cs ys hf hl hs hw => by
 match ys, hl with
 | y :: ys, hl =>
   have h0:=hf 0 f rfl
   rw [ho] at h0
   obtain ⟨a, ha, hb⟩:=h H enc w sp held fuel _ y h0 (fun n hn => hw n (by simp [DataW.weightsEach, hn]))
   obtain ⟨b, hb1, hb2⟩:=hr H enc w sp held fuel cs ys (fun (j : Nat) (g : Field) hg => by have:=hf (j + 1) g (by simpa using hg); simpa using this) (by simpa using hl) (by simp at hs; omega) (fun n hn => hw n (by simp [DataW.weightsEach, hn]))
   refine ⟨(a, b), ⟨(cs.drop off).take (P.cellsOf f.type), cs.drop off', ?_, ha, hb1⟩, hb, hb2⟩
   rw [← ho', ← List.drop_drop, List.take_append_drop]
theorem Opens.struct {α : Type} {P : Program} {t : TypeId} {fs : Array Field} {d : Kd α} {B : α → Prop} (h : P.underlying t = some (.struct fs)) (hc : (fs.toList.map fun f => P.cellsOf f.type).sum = P.cellsOf t) (hf : OpensF P fs.toList 0 d B) : Opens P t d B:=fun H enc w sp held fuel cs x hx hw => by
 obtain ⟨xs, n, _, rfl, hl, hlen, hg⟩:=DataW.trod_struct h hx
 have:=hf H enc w sp held n cs xs (fun (j : Nat) (f : Field) hj => hg j f (by simpa using hj)) (by simpa using hlen) (by rw [Nat.zero_add, hc, hl]) (fun m hm => hw m (by
   simp only [DataW.weights, h]
   exact hm))
 simpa using this
theorem weightsAll_mem {H : Type} {P : Program} {e : TypeId} : ∀ {l : List (DataW H)} {d : DataW H}, d ∈ l → ∀ n ∈ d.weights P e, n ∈ DataW.weightsAll P e l
 | x :: l, d, h, n, hn => by
   rcases List.mem_cons.1 h with rfl | h
   · simp [DataW.weightsAll, hn]
   · simp [DataW.weightsAll, weightsAll_mem h n hn]
theorem choose_list {α : Type} {R : Nat → α → Prop} : ∀ (n : Nat), (∀ i, i < n → ∃ a, R i a) → ∃ l : List α, l.length = n ∧ ∀ i a, l[i]? = some a → R i a
 | 0, _ => ⟨[], rfl, by simp⟩
 | n + 1, h => by
   obtain ⟨l, hl, hr⟩:=choose_list n (fun i hi => h i (by omega))
   obtain ⟨a, ha⟩:=h n (by omega)
   refine ⟨l ++ [a], by simp [hl], fun i b hb => ?_⟩
   rcases Nat.lt_trichotomy i n with hi | hi | hi
   · rw [List.getElem?_append_left (by omega)] at hb; exact hr i b hb
   · subst hi
     rw [List.getElem?_append_right (by omega), hl] at hb
     simp at hb
     rw [← hb]; exact ha
   · rw [List.getElem?_eq_none (by simp; omega)] at hb; cases hb
theorem Opens.slice {α : Type} {P : Program} {t e : TypeId} {d : Kd α} {B : α → Prop} (ht : P.underlying t = some (.slice e)) (hc : P.cellsOf e = d.sz) (h : Opens P e d B) :
   Opens P t (Kd.slice e d) (fun xs => (∀ x ∈ xs, B x) ∧ xs.length * P.bytesOf e ≤ reachBytes ∧ xs.length ≤ maxLen):=fun H enc w sp held fuel cs x hx hw => by
 rcases open_slice ht hx with ⟨rfl, rfl⟩ | ⟨a, len, cap, m, n, D, Pl, rfl, hb, hl, hm, hmm, rfl, hi⟩
 · refine ⟨[], ⟨none, 0, rfl, Nat.le_refl _, ⟨rfl, by simp, fun h => by simp at h⟩⟩, by simp, by simp, by simp⟩
 · have hlm : len ≤ m:=by rw [hmm]; split <;> omega
   have hws : ∀ n ∈ ((((List.range len).map D).length * P.bytesOf e) :: DataW.weightsAll P e ((List.range len).map D)), n ≤ reachBytes:=fun k hk => by
     simp only [DataW.weights, ht] at hw
     rcases List.mem_cons.1 hk with rfl | hk
     · have:=hw _ (by exact List.mem_cons_self)
       refine Nat.le_trans ?_ this
       exact Nat.mul_le_mul_right _ (by omega)
     · exact hw k (List.mem_cons_of_mem _ (List.mem_append_left _ hk))
   have hel : ∀ i, i < len → ∃ y, (∃ cs', cs'.length = d.sz ∧ d.K w y cs' ∧ ∀ j u, cs'[j]? = some u → w.cell? (a.add (i * d.sz + j)) = some u) ∧ B y:=fun i hil => by
     obtain ⟨cs', hcs, htr⟩:=hi i (by omega)
     obtain ⟨_, hcl, hat⟩:=World.cells?_some hcs
     obtain ⟨y, hy, hby⟩:=h H enc w sp held n cs' _ htr (fun k hk => hws k (List.mem_cons_of_mem _ (weightsAll_mem (List.mem_map.2 ⟨i, List.mem_range.2 hil, rfl⟩) k hk)))
     rw [hc] at hcl hat
     refine ⟨y, ⟨cs', hcl, hy, fun j u hj => ?_⟩, hby⟩
     have hjl : j < d.sz:=by rw [← hcl]; exact (List.getElem?_eq_some_iff.1 hj).1
     have:=hat j hjl
     rw [hj, Go.Deep.add_add] at this
     exact this
   obtain ⟨l, hll, hlr⟩:=choose_list len hel
   have hmx : len ≤ 9223372036854775807:=by unfold maxLen at hm; omega
   refine ⟨l, ⟨some a, cap, by rw [hll], by rw [hll]; exact hl, ⟨rfl, by rw [hll]; exact hmx, fun _ => ⟨a, rfl, fun j p hp => (hlr j p hp).1⟩⟩⟩, fun y hy => ?_, ?_, ?_⟩
   · obtain ⟨i, hi⟩:=List.getElem?_of_mem hy
     exact (hlr i y hi).2
   · have:=hws _ List.mem_cons_self
     simpa [hll] using this
   · rw [hll]; omega
theorem Opens.array {α : Type} {P : Program} {t e : TypeId} {n : Nat} {d : Kd α} {B : α → Prop} (hs : 0 < d.sz) (ht : P.underlying t = some (.array n e)) (hc : P.cellsOf e = d.sz) (hct : P.cellsOf t = n * d.sz) (h : Opens P e d B) :
   Opens P t (Kd.arr n d hs) (fun xs => ∀ x ∈ xs, B x):=fun H enc w sp held fuel cs x hx hw => by
 obtain ⟨xs, m, _, rfl, hl, hlen, hg⟩:=DataW.trod_array ht hx
 have hel : ∀ i, i < n → ∃ y, d.K w y ((cs.drop (i * d.sz)).take d.sz) ∧ B y:=fun i hi => by
   have h1:=hg i hi
   rw [hc, List.getElem?_eq_getElem (by omega)] at h1
   exact h H enc w sp held m _ _ h1 (fun k hk => hw k (by
     simp only [DataW.weights, ht]
     exact weightsAll_mem (List.mem_map.2 ⟨_, List.getElem_mem _, rfl⟩) k hk))
 obtain ⟨l, hll, hlr⟩:=choose_list n hel
 refine ⟨l, ⟨hll, by rw [hl, hct, hll], fun j p hp => (hlr j p hp).1⟩, fun y hy => ?_⟩
 obtain ⟨i, hi⟩:=List.getElem?_of_mem hy
 exact (hlr i y hi).2
end Go.Proofs.YtacknhbgfijkcaaGreatDoor
end
section
/- A start that meets the rows' condition where a listed variable is a map and another is pinned: what the door's own run leaves, and the pinned table laid behind it. -/
namespace Go.Proofs.YtacknhbgfijkcaaGreatDoor
open Go
noncomputable def pinnedOf (l : List (String × DataW Unit)) : List (String × DataW Unit) := l.filter fun x => ["unicode/utf8.first"].contains x.1
noncomputable def startW (os : Os) (l : List (String × DataW Unit)) : World:=(World.doorLaid Tryz.prog 4000 os).layVars Tryz.prog (pinnedOf l)
noncomputable def startB (os : Os) : List Nat:=(List.range (World.doorLaid Tryz.prog 4000 os).heap.size).filter fun b => !(b == 8)
theorem startW_os (os : Os) (l : List (String × DataW Unit)) : (startW os l).os = os:=World.layVars_os _ _ _
theorem start_met (os : Os) (l : List (String × DataW Unit)) (hl : (l.all fun x => x.2.handleName?.isNone) = true)
   (hf : (World.doorLaid Tryz.prog 4000 os).layFits Tryz.prog (pinnedOf l) (startB os) = true) (hi : (World.doorLaid Tryz.prog 4000 os).layIfaces Tryz.prog (pinnedOf l) (startW os l) = true)
   (h1 : (DataW.laidRun Tryz.prog (startW os l) 8 ((l.filter fun x => !["unicode/utf8.first"].contains x.1).map (·.1))).map (·.1) = some (l.filter fun x => !["unicode/utf8.first"].contains x.1))
   (h2 : (DataW.laidRun Tryz.prog (startW os l) 8 ((l.filter fun x => !["unicode/utf8.first"].contains x.1).map (·.1))).map (fun x => nodupB (x.2.map MemPlace.codeOf)) = some true)
   (h3 : (DataW.laidRun Tryz.prog (startW os l) 8 ((l.filter fun x => !["unicode/utf8.first"].contains x.1).map (·.1))).map (fun x => laidRowsB Tryz.prog (startW os l) x.2) = some true)
   (h4 : (DataW.laidRun Tryz.prog (startW os l) 8 ((l.filter fun x => !["unicode/utf8.first"].contains x.1).map (·.1))).map (fun x => x.2.all fun p => (startB os).contains p.block) = some true)
   (args : Array Value) : laidMetH Tryz.prog l ((startW os l).forCall (fun _ _ => 0) ⟨#[], args, []⟩).memory:=by
 rw [MakeChecks.laidMetH_plain _ _ _ hl]
 have h : laidMet Tryz.prog l (startW os l) := laidMet_layVars (w0 := World.doorLaid Tryz.prog 4000 os) ["unicode/utf8.first"] (startB os) rfl hf hi (LaidIn.of_run (startB os) 8 h1 h2 h3 h4)
 exact h.of_heap (by simp [World.memory, World.forCall, Input.heap])
end Go.Proofs.YtacknhbgfijkcaaGreatDoor
end
section
/- What a row of the chapters from 12 on gives the walk: the world that WfNat speaks of; a start that meets the rows' condition. -/
namespace Go.Proofs.YtacknhbgfijkcaaGreatDoor
open Go Go.Proofs.YtacknhbgfijkcaaGreatDoor.Abs
set_option maxRecDepth 100000 in
theorem wfWorld_of {W : World} {l : List (String × DataW Unit)} (hl : (l.all fun x => x.2.handleName?.isNone) = true) (h1 : ("moat/cookie.sames", Rows.laid_moat_cookie_sames) ∈ l) (h2 : ("moat/url.schemes", Rows.laid_moat_url_schemes) ∈ l) (h3 : ("moat/wf.most", Rows.laid_moat_wf_most) ∈ l) (h4 : ("moat/wf.asked", Rows.laid_moat_wf_asked) ∈ l)
   (h : laidMetH Tryz.prog l W) (hs : W.ShapedOpen Tryz.prog) : WfWorld W:=by
 rw [MakeChecks.laidMetH_plain _ _ _ hl] at h
 refine ⟨?_, cells_of_reads h h1 (g:=6) (t:=274) (by kernel_rfl) (by kernel_rfl) (fun enc sp held fuel b us p hd => ?_), ?_, ?_, ?_⟩
 · exact Go.Proofs.cell_of_shapedOpen_int (zero:=#[.int .i64 0]) (t:=3) hs (of_decide_eq_true (by kernel_rfl)) (by kernel_rfl) rfl (by kernel_rfl) (by kernel_rfl) (by kernel_rfl)
 · exact strs_of_tab (ss:=samesL) (n:=4) (e:=9) (by kernel_rfl) (by kernel_rfl) (by kernel_rfl) (by kernel_rfl) hd
 · exact tab_of_laid h h2 (g:=4) (t:=67) (k:=9) (e:=3) (by kernel_rfl) (by kernel_rfl) (by kernel_rfl) (by kernel_rfl) (.inr ⟨.i64, by kernel_rfl⟩) (by kernel_rfl)
 · exact tab_of_laid h h3 (g:=1) (t:=67) (k:=9) (e:=3) (by kernel_rfl) (by kernel_rfl) (by kernel_rfl) (by kernel_rfl) (.inr ⟨.i64, by kernel_rfl⟩) (by kernel_rfl)
 · exact tab_of_laid h h4 (g:=5) (t:=232) (k:=9) (e:=9) (by kernel_rfl) (by kernel_rfl) (by kernel_rfl) (by kernel_rfl) (.inl (by kernel_rfl)) (by kernel_rfl)
theorem mem_of_at {l : List (String × DataW Unit)} {x : String × DataW Unit} (i : Nat) (h : l[i]? = some x) : x ∈ l:=List.mem_of_getElem? h
theorem boWorld_of {W : World} {l : List (String × DataW Unit)} (hl : (l.all fun x => x.2.handleName?.isNone) = true) (h1 : ("moat/build.leaves", Rows.laid_moat_build_leaves) ∈ l) (h2 : ("moat/build.joints", Rows.laid_moat_build_joints) ∈ l) (h : laidMetH Tryz.prog l W) (hw : WfWorld W) : BoWorld W := by
 rw [MakeChecks.laidMetH_plain _ _ _ hl] at h
 refine ⟨hw, ?_, ?_⟩
 · exact tab_of_laid h h1 (g:=2) (t:=67) (k:=9) (e:=3) (by kernel_rfl) (by kernel_rfl) (by kernel_rfl) (by kernel_rfl) (.inr ⟨.i64, by kernel_rfl⟩) (by kernel_rfl)
 · exact tab_of_laid h h2 (g:=3) (t:=67) (k:=9) (e:=3) (by kernel_rfl) (by kernel_rfl) (by kernel_rfl) (by kernel_rfl) (.inr ⟨.i64, by kernel_rfl⟩) (by kernel_rfl)
theorem topWorld_of {W : World} {l : List (String × DataW Unit)} (hl : (l.all fun x => x.2.handleName?.isNone) = true) (h1 : ("moat/trace.words", Rows.laid_moat_trace_words) ∈ l) (h : laidMetH Tryz.prog l W) (hw : BoWorld W) : TopWorld W := by
 rw [MakeChecks.laidMetH_plain _ _ _ hl] at h
 refine ⟨hw, cells_of_reads h h1 (g:=0) (t:=142) (by kernel_rfl) (by kernel_rfl) (fun enc sp held fuel b us p hd => ?_)⟩
 exact strs_of_tab (ss:=wordsL) (n:=13) (e:=9) (by kernel_rfl) (by kernel_rfl) (by kernel_rfl) (by kernel_rfl) hd
theorem topFirst_world {W : World} (h : laidMetH Tryz.prog Rows.topFirstRow.laid W) (hs : W.ShapedOpen Tryz.prog) : TopWorld W :=
 topWorld_of (by kernel_rfl) (mem_of_at 13 (by kernel_rfl)) h (boWorld_of (by kernel_rfl) (mem_of_at 11 (by kernel_rfl)) (mem_of_at 12 (by kernel_rfl)) h (wfWorld_of (by kernel_rfl) (mem_of_at 7 (by kernel_rfl)) (mem_of_at 6 (by kernel_rfl)) (mem_of_at 9 (by kernel_rfl)) (mem_of_at 10 (by kernel_rfl)) h hs))
set_option maxRecDepth 100000 in
theorem topFirst_met (os : Os) (args : Array Value) : laidMetH Tryz.prog Rows.topFirstRow.laid ((startW os Rows.topFirstRow.laid).forCall (fun _ _ => 0) ⟨#[], args, []⟩).memory :=
 start_met os _ (by kernel_rfl) (by kernel_rfl) (by kernel_rfl) (by kernel_rfl) (by kernel_rfl) (by kernel_rfl) (by kernel_rfl) args
end Go.Proofs.YtacknhbgfijkcaaGreatDoor
end
