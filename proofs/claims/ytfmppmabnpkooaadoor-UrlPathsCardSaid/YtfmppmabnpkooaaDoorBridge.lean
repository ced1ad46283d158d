/- The engine's bridge to the rows: the wrap that gives both the listed variables and the world's shape; a listed map of texts and numbers, as a table of the sketch. -/
import Derived.Test.YtfmppmabnpkooaaDoorAbsE
import Derived.HandedShaped
import Derived.StringKeys
import Derived.LaidSub
import Derived.Lib.LaidU8
import Derived.Shelf.Vars
set_option autoImplicit false
set_option linter.unusedSimpArgs false
set_option linter.unusedVariables false
namespace Go.Proofs.YtfmppmabnpkooaaDoor.Abs
open Go Go.RowKit

section
variable {H : Type} {enc : TypeId × Value → H}
theorem returnsInHanded_of_change_both {a : Assume} {C : Checked} {os : Os} {f : FuncId} {fn : Func} {s : ChangeSpec} {conds : List PathCond} {apart fresh handsOn again : Bool} {X : World → Array Value → Prop}
    (hX : ∀ (w w' : World) (args : Array Value), w.heap = w'.heap → X w args → X w' args)
    (own : ownKnob C.prog.godebug = none) (started : os.Started) (noInit : C.prog.inits.idxOf? f = none) (hfn : C.prog.funcs[f]? = some fn)
    (witness : ∃ (w : World) (tape : Tape) (i : Input), w.os = os ∧ (w.forCall tape i).Shaped C.prog ∧ i.vars = [] ∧ Input.okWide C.prog (w.forCall tape i) .any w.heap.size f i ∧
      ((s.pre enc C.prog fn conds apart (w.forCall tape i).memory i.args ∧ X (w.forCall tape i).memory i.args) ∧ sizedMet enc C.prog fn (OpenSpec.ofChange s) apart (w.forCall tape i).memory i.args) ∧ a.holds C.prog (lone (Frame.enter C.prog f i.args .normal) [] (w.forCall tape i)))
    (contract : ∀ (W : World) (base : Nat) (args : Array Value) (ds gs : List (DataW H)) (before : List MemPlace),
      (∀ (j : Nat) t v, fn.params[j]? = some t → args[j]? = some v → Value.okWide C.prog W .any base t v) →
      DataW.Whole enc C.prog fn.params.toList s.vars apart W args.toList ds gs before →
      conds.all (PathCond.test C.prog ⟨fn.params.toList, ds, s.plain.varTypes C.prog, gs⟩) = true →
      (DataW.weightsEach C.prog (fn.params.toList ++ s.plain.varTypes C.prog) (ds ++ gs)).all (· ≤ reachBytes) = true → X W args → W.ShapedOpen C.prog →
      a.holds C.prog (lone (Frame.enter C.prog f args .normal) [] W) →
      Calls C.prog f args W fun e W' => ∃ v, e = .returned v ∧ s.post enc C.prog fn apart fresh handsOn again W args v W') :
    ReturnsInHanded a C os f .any (fun w args => (s.pre enc C.prog fn conds apart w args ∧ X w args) ∧ sizedMet enc C.prog fn (OpenSpec.ofChange s) apart w args) (s.post enc C.prog fn apart fresh handsOn again) := by
  refine returnsInHanded_of_calls own started noInit witness ?_
  intro w tape i _ hsh _ hok hpre hholds
  obtain ⟨_, _, _, fn', hfn', _, _, _, _, hval⟩ := hok
  have e : fn' = fn := Option.some.inj (hfn'.symm.trans hfn)
  subst e
  obtain ⟨⟨⟨ds, gs, before, hw, hc⟩, hx⟩, hz⟩ := hpre
  have hw' := DataW.Whole.of_heap (w' := w.forCall tape i) (by rfl) hw
  refine (contract (w.forCall tape i) w.heap.size i.args ds gs before hval hw' hc (hz.weights hw) (hX _ _ _ (by rfl) hx) hsh hholds).mono fun e W' ⟨v, he, hp⟩ => ?_
  subst he
  exact ChangeSpec.post_blind hp
end

/-- A map of texts and numbers, as it is listed. -/
structure MapAt (P : Program) (w : World) (g bm : Nat) (k : TypeId) (kd : IntKind) (L : List (Lit × DataW Unit)) : Prop where
  cell : ∃ ty fz, w.heap[g]? = some (.cells #[.map (some bm)] ty fz)
  map : ∃ es clock, w.heap[bm]? = some (.map es clock) ∧ WideMaps.Fit Unit P k kd es clock ∧ (es.toList.map (WideMaps.rg Unit P k kd)).foldr DataW.insert [] = L
theorem MapAt.below {P : Program} {w w' : World} {g bm : Nat} {k : TypeId} {kd : IntKind} {L : List (Lit × DataW Unit)} (h : MapAt P w g bm k kd L) (hb : Below w.heap.size w w') : MapAt P w' g bm k kd L := by
  obtain ⟨⟨ty, fz, h1⟩, ⟨es, clock, h2, h3⟩⟩ := h
  have lt : ∀ {b : Nat} {o : Obj}, w.heap[b]? = some o → b < w.heap.size := fun h => by
    obtain ⟨hi, _⟩ := Array.getElem?_eq_some_iff.1 h
    exact hi
  exact ⟨⟨ty, fz, (hb.block _ (lt h1)).trans h1⟩, ⟨es, clock, (hb.block _ (lt h2)).trans h2, h3⟩⟩

theorem laid_map {P : Program} {w : World} {l : List (String × DataW Unit)} (h : laidMet P l w) {n : String} {L : List (Lit × DataW Unit)} (hm : (n, DataW.map L) ∈ l) {g : Nat} {t k e : TypeId} {kd : IntKind} (hg : P.globalNamed n = some g) (ht : (P.globals[g]?).map (·.type) = some t)
    (hut : P.underlying t = some (.map k e)) (he : P.underlying e = some (.int kd)) : ∃ bm, MapAt P w g bm k kd L := by
  obtain ⟨g', t', cs, fuel, p, h1, h2, h3, h4⟩ := Lib.laidMet.reads h hm
  obtain rfl := Option.some.inj (hg.symm.trans h1)
  obtain rfl := Option.some.inj (ht.symm.trans h2)
  have hv : ∃ ty fz, w.heap[g]? = some (.cells cs ty fz) := by
    unfold World.var? at h3
    rw [hg] at h3
    simp only [Option.bind_some] at h3
    split at h3
    · rename_i cs' ty fz hh
      cases h3
      exact ⟨ty, fz, hh⟩
    · cases h3
  rcases WideMaps.open_map hut he h4 with ⟨_, hx⟩ | ⟨bm, es, clock, hcs, hb, _, F, hx⟩
  · cases hx
  · simp only [Prod.mk.injEq, DataW.map.injEq] at hx
    refine ⟨bm, ⟨?_, ⟨es, clock, hb, F, hx.1.symm⟩⟩⟩
    obtain ⟨ty, fz, hh⟩ := hv
    obtain ⟨cl⟩ := cs
    simp only at hcs
    subst hcs
    exact ⟨ty, fz, hh⟩

theorem str_eq {s s' : ByteArray} (h : s.data.toList = s'.data.toList) : s = s' := by
  obtain ⟨⟨l⟩⟩ := s
  obtain ⟨⟨l'⟩⟩ := s'
  simp only at h
  rw [h]

theorem MapAt.table {P : Program} {w : World} {g bm : Nat} {k : TypeId} {kd : IntKind} {L : List (Lit × DataW Unit)} (h : MapAt P w g bm k kd L) (hk : P.underlying k = some .string) {f : ByteArray → Option Value}
    (hf : ∀ s : ByteArray, match f s with
      | some v => ∃ z, v = .int kd z ∧ (∃ x, (Lit.string s.data.toList, x) ∈ L) ∧ ∀ x, (Lit.string s.data.toList, x) ∈ L → x = .lit (.int kd z)
      | none => ∀ x, (Lit.string s.data.toList, x) ∉ L) (base : Nat) (ι : Nat → Option Loc) : ORel P base ι ⟨bm, 0, 0, 0⟩ w (.table f) := by
  obtain ⟨_, es, clock, hb, F, hL⟩ := h
  refine ⟨es, clock, hb, fun kt s hkt => ?_⟩
  have perm := WideShapes.sorted_perm (es.toList.map (WideMaps.rg Unit P k kd))
  rw [hL] at perm
  have rdof : ∀ e ∈ es.toList, ∃ n s', e.key = .string s' ∧ e.val = .int kd n ∧ WideMaps.rg Unit P k kd e = (.string s'.data.toList, .lit (.int kd n)) := by
    intro e he
    obtain ⟨y, hy⟩ := F.reads e he
    obtain ⟨s', e1, e2, _⟩ := WideMaps.string_of_keyOf hk (WideMaps.rd_key hy)
    obtain ⟨n, n1, n2, _⟩ := WideMaps.rd_val hy
    exact ⟨n, s', e1, n1, by rw [WideMaps.rg_of hy]; exact Prod.ext e2 n2⟩
  have there : ∀ e ∈ es.toList, e.key = .string s → ∃ n, e.val = .int kd n ∧ (Lit.string s.data.toList, DataW.lit (.int kd n)) ∈ L := by
    intro e he hke
    obtain ⟨n, s', e1, e2, e3⟩ := rdof e he
    rw [hke] at e1
    cases e1
    exact ⟨n, e2, perm.mem_iff.2 (List.mem_map.2 ⟨e, he, e3⟩)⟩
  have back : ∀ x, (Lit.string s.data.toList, x) ∈ L → ∃ e ∈ es.toList, e.key = .string s := by
    intro x hx
    obtain ⟨e, he, hr⟩ := List.mem_map.1 (perm.mem_iff.1 hx)
    obtain ⟨n, s', e1, e2, e3⟩ := rdof e he
    rw [e3] at hr
    simp only [Prod.mk.injEq, Lit.string.injEq] at hr
    rw [str_eq hr.1] at e1
    exact ⟨e, he, e1⟩
  have hks : ∀ x ∈ es.toList, MapKept.IsKey .string x.key := fun x hx => by
    obtain ⟨n, s', e1, _, _⟩ := rdof x hx
    rw [e1]
    trivial
  have hfs := hf s
  rcases MapKept.findNow_spec (d := .string) (k := .string s) trivial es.toList 0 hks with ⟨h1, h2⟩ | ⟨j, e0, h1, h2, h3⟩
  · split at hfs
    · obtain ⟨z, _, ⟨x, hx⟩, _⟩ := hfs
      obtain ⟨e, he, hke⟩ := back x hx
      exact absurd hke (h2 e he)
    · rename_i hfn
      rw [hfn]
      exact fun w' => MapKept.run_findKey hkt h1
  · have he0 : e0 ∈ es.toList := List.mem_of_getElem? h2
    obtain ⟨n, hn, hin⟩ := there e0 he0 h3
    split at hfs
    · rename_i v hfn
      obtain ⟨z, rfl, _, hall⟩ := hfs
      have := hall _ hin
      simp only [DataW.lit.injEq, Lit.int.injEq, true_and] at this
      subst this
      rw [hfn]
      rw [hn] at h1
      exact ⟨rfl, _, fun w' => MapKept.run_findKey hkt h1⟩
    · exact absurd hin (hfs _)

/-- The sketch of a world with one listed map: g the variable, m the map's number in the sketch. -/
theorem MapAt.inv {P : Program} {w : World} {g bm : Nat} {k : TypeId} {kd : IntKind} {L : List (Lit × DataW Unit)} (h : MapAt P w g bm k kd L) (hk : P.underlying k = some .string) {f : ByteArray → Option Value}
    (hf : ∀ s : ByteArray, match f s with
      | some v => ∃ z, v = .int kd z ∧ (∃ x, (Lit.string s.data.toList, x) ∈ L) ∧ ∀ x, (Lit.string s.data.toList, x) ∈ L → x = .lit (.int kd z)
      | none => ∀ x, (Lit.string s.data.toList, x) ∉ L) {m : Nat} (hm : P.globals.size ≤ m) (hgm : g < P.globals.size) {ι0 ι : Nat → Option Loc} {H : Nat → Option AObj} (hI : Inv P w.heap.size ⟨w, ι0⟩ ι H w)
    (h1 : ι g = none) (h2 : ι m = none) (hold : ∀ id j o', ι id = some j → H id = some o' → o'.wr = false) :
    ∃ e i j, Inv P w.heap.size ⟨w, ι0⟩ (fupd (fupd ι m (some i)) g (some j)) (fupd (fupd H m (some (.table f))) g (some (.cells [.map (some m)] e false))) w := by
  obtain ⟨⟨ty, fz, hc⟩, es, clock, hb, F, hL⟩ := h
  have lt : ∀ {b : Nat} {o : Obj}, w.heap[b]? = some o → b < w.heap.size := fun h => by
    obtain ⟨hi, _⟩ := Array.getElem?_eq_some_iff.1 h
    exact hi
  have hI1 := hI.know h2 (i := ⟨bm, 0, 0, 0⟩) (lt hb) (o := .table f) rfl (MapAt.table ⟨⟨ty, fz, hc⟩, es, clock, hb, F, hL⟩ hk hf _ _) hold (fun h => absurd h (by omega))
  have hne : g ≠ m := by omega
  have hold' : ∀ id j o', fupd ι m (some ⟨bm, 0, 0, 0⟩) id = some j → fupd H m (some (.table f)) id = some o' → o'.wr = false := by
    intro id j o' a b
    by_cases e : id = m
    · subst e
      rw [fupd_eq] at b
      cases b
      rfl
    · rw [fupd_ne _ _ _ _ e] at a b
      exact hold id j o' a b
  refine ⟨ty, ⟨bm, 0, 0, 0⟩, ⟨g, 0, 1, szD P ty⟩, hI1.know (by rw [fupd_ne _ _ _ _ hne]; exact h1) (lt hc) rfl ⟨#[.map (some bm)], fz, hc, rfl, by simp, ?_, rfl, fun h => by cases h⟩ hold' (fun _ => ⟨rfl, rfl⟩)⟩
  intro j c hj
  match j, hj with
  | 0, hj =>
    simp only [List.getElem?_cons_zero, Option.some.injEq] at hj
    subst hj
    refine ⟨.map (some bm), rfl, .map m ⟨bm, 0, 0, 0⟩ ?_⟩
    rw [fupd_ne _ _ _ _ (by omega), fupd_eq]
  | j + 1, hj => simp at hj
end Go.Proofs.YtfmppmabnpkooaaDoor.Abs
