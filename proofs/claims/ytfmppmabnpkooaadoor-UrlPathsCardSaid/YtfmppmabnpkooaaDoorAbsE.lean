/- The engine, part 14: functions whose answers are given, by contracts or by the engine itself; a law out of what the engine says of it. -/
import Derived.Test.YtfmppmabnpkooaaDoorAbsD
import Derived.Test.YtfmppmabnpkooaaDoorEngA
set_option autoImplicit false
set_option linter.unusedSimpArgs false
set_option linter.unusedVariables false
namespace Go.Proofs.YtfmppmabnpkooaaDoor.Abs
open Go Go.RowKit

abbrev Native := List Value → Hp → Option (CRet × Hp)
abbrev GivenT := FuncId → Option Native

section
variable {P : Program} {base : Nat} {w0 : Start}

/-- What is given of one function is so. -/
def NatOk (P : Program) (base : Nat) (w0 : Start) (f : FuncId) (g : Native) : Prop := ∀ args h r h', g args h = some (r, h') → h.n ≤ h'.n ∧
  ∀ ι w args', Inv P base w0 ι h.t.get w → LRel ι args args' → P.globals.size ≤ h.n → (∀ id, h.n ≤ id → id < h'.n → ι id = none) → Calls P f args'.toArray w (CallRel P base w0 ι h r h')

noncomputable def gAdd (f : FuncId) (g : Native) (G : GivenT) : GivenT := fun x => if x = f then some g else G x
def gNone : GivenT := fun _ => none
theorem GivenOk.none : GivenOk P base w0 gNone := fun f g h => by cases h
theorem GivenOk.add {G : GivenT} {f : FuncId} {g : Native} (hG : GivenOk P base w0 G) (hg : NatOk P base w0 f g) : GivenOk P base w0 (gAdd f g G) := by
  intro x g' hx
  unfold gAdd at hx
  split at hx
  · rename_i e
    cases hx
    subst e
    exact hg
  · exact hG x g' hx

theorem LRel.flats {ι : Nat → Option Loc} : ∀ {a b : List Value}, LRel ι a b → a.all flat = true → b = a
  | [], [], _, _ => rfl
  | a :: as, b :: bs, ⟨h1, h⟩, hs => by
    rw [List.all_cons, Bool.and_eq_true] at hs
    rw [h1.flat_eq hs.1, LRel.flats h hs.2]

/-- A function of values without addresses, by a contract. -/
noncomputable def natFlat (spec : List Value → Option Value) : Native := fun args h =>
  match spec args with
  | some v => some (.ret v, h)
  | none => none
theorem natFlat_ok {f : FuncId} {spec : List Value → Option Value} (hs : ∀ args v, spec args = some v → args.all flat = true ∧ flat v = true ∧ ∀ w, Below base w0.w w → Calls P f args.toArray w fun e w' => e = .returned v ∧ Below w.heap.size w w') : NatOk P base w0 f (natFlat spec) := by
  intro args h r h' hg
  unfold natFlat at hg
  split at hg
  · rename_i v hv
    cases hg
    obtain ⟨h1, h2, h3⟩ := hs args v hv
    refine ⟨Nat.le_refl _, fun ι w args' hI hr hgl hf => ?_⟩
    rw [hr.flats h1]
    refine (h3 w hI.below).mono fun e w' hq => ?_
    obtain ⟨rfl, hb⟩ := hq
    exact ⟨ι, Turn.refl _ _ _, hI.still hb, v, rfl, VRel.of_flat h2⟩
  · cases hg

/-- A function, by the engine's own walk. -/
theorem natCall_ok (hP : noNG P = true) (hD : DrawOk P base w0) {G : GivenT} (hG : GivenOk P base w0 G) {f : FuncId} {g : Native} (hs : ∀ args h r, g args h = some r → ∃ k, call P G k f args h = some r) : NatOk P base w0 f g := by
  intro args h r h' hg
  obtain ⟨k, hk⟩ := hs _ _ _ hg
  exact callBy_ok hG (exec_ok hP hD hG k).1 f args h r h' hk

/-- A law: what the engine says of it, in a world that the sketch stands for. -/
theorem law_of_call {w : World} {ι0 : Nat → Option Loc} (hP : noNG P = true) (hD : DrawOk P w.heap.size ⟨w, ι0⟩) {G : GivenT} (hG : GivenOk P w.heap.size ⟨w, ι0⟩ G) {k : Nat} {f : FuncId} {args args' : List Value} {h h' : Hp} {b : Bool} (hc : call P G k f args h = some (.ret (.bool b), h')) {ι : Nat → Option Loc}
    (hI : Inv P w.heap.size ⟨w, ι0⟩ ι h.t.get w) (hr : LRel ι args args') (hgl : P.globals.size ≤ h.n) (hf : ∀ id, h.n ≤ id → ι id = none) : Calls P f args'.toArray w fun e w' => e = .returned (.bool b) ∧ Below w.heap.size w w' := by
  obtain ⟨h1, h2⟩ := callBy_ok hG (exec_ok hP hD hG k).1 f args h _ _ hc
  refine (h2 ι w args' hI hr hgl (fun id h3 _ => hf id h3)).mono fun e w' hq => ?_
  obtain ⟨ι', t, hI', v', rfl, hv⟩ := hq
  cases hv
  exact ⟨rfl, hI'.below⟩

/-- The empty sketch stands for every world. -/
theorem Inv.start (w : World) : Inv P w.heap.size ⟨w, fun _ => none⟩ (fun _ => none) (fun _ => none) w where
  init := Grows.refl _
  below := Below.refl _ _
  base_le := Nat.le_refl _
  obj := fun id i o h => by cases h
  inj := fun id id' i i' o o' h => by cases h
  lt := fun id i h => by cases h
  glob := fun g hg h => by cases h

/-- More is known of what was there at the start: a block that is only read. -/
theorem Inv.know {w : World} {ι0 ι : Nat → Option Loc} {H : Nat → Option AObj} (hI : Inv P w.heap.size ⟨w, ι0⟩ ι H w) {m : Nat} (hm : ι m = none) {i : Loc} (hi : i.rb < w.heap.size) {o : AObj} (how : o.wr = false) (ho : ORel P w.heap.size (fupd ι m (some i)) i w o)
    (hold : ∀ id j o', ι id = some j → H id = some o' → o'.wr = false) (hg : m < P.globals.size → i.rb = m ∧ i.δ = 0) : Inv P w.heap.size ⟨w, ι0⟩ (fupd ι m (some i)) (fupd H m (some o)) w := by
  refine ⟨hI.below, hI.base_le, hI.init.trans (Grows.upd hm i), ?_, ?_, ?_, ?_⟩
  · intro id j o' h1 h2
    by_cases e : id = m
    · subst e
      rw [fupd_eq] at h1 h2
      cases h1; cases h2
      exact ho
    · rw [fupd_ne _ _ _ _ e] at h1 h2
      exact (hI.obj id j o' h1 h2).grow (Grows.upd hm i) rfl
  · intro id id' j j' o1 o2 h1 h2 h3 h4 hne hw
    by_cases e : id = m
    · subst e
      rw [fupd_eq] at h3
      cases h3
      rw [how] at hw
      cases hw
    · rw [fupd_ne _ _ _ _ e] at h1 h3
      have := hold id j o1 h1 h3
      rw [this] at hw
      cases hw
  · intro id j h1
    by_cases e : id = m
    · subst e
      rw [fupd_eq] at h1
      cases h1
      exact hi
    · rw [fupd_ne _ _ _ _ e] at h1
      exact hI.lt id j h1
  · intro g hlt hs
    by_cases e : g = m
    · subst e
      exact ⟨i, fupd_eq _ _ _, hg hlt⟩
    · rw [fupd_ne _ _ _ _ e] at hs
      obtain ⟨j, h1, h2⟩ := hI.glob g hlt hs
      exact ⟨j, by rw [fupd_ne _ _ _ _ e]; exact h1, h2⟩
end
/-- What is known at the start is known to all. -/
theorem Inv.fix {w : World} {ι0 ι : Nat → Option Loc} {H : Nat → Option AObj} {P : Program} (hI : Inv P w.heap.size ⟨w, ι0⟩ ι H w) : Inv P w.heap.size ⟨w, ι⟩ ι H w :=
  ⟨hI.below, hI.base_le, Grows.refl _, hI.obj, hI.inj, hI.lt, hI.glob⟩
/-- A number that is told by its name. -/
def tokLoc (z : Int) : Loc := ⟨0, z.toNat, (-z).toNat, 0⟩
theorem tokLoc_z (z : Int) : ((tokLoc z).δ : Int) - ((tokLoc z).tot : Int) = z := by
  simp only [tokLoc]
  omega
theorem Inv.name {P : Program} {w : World} {ι0 ι : Nat → Option Loc} {H : Nat → Option AObj} (hI : Inv P w.heap.size ⟨w, ι0⟩ ι H w) {m : Nat} (hm : ι m = none) (hH : H m = none) (hg : P.globals.size ≤ m) (hw : 0 < w.heap.size) (z : Int) :
    Inv P w.heap.size ⟨w, ι0⟩ (fupd ι m (some (tokLoc z))) H w := by
  have hgr := Grows.upd hm (tokLoc z)
  have ne : ∀ {id : Nat} {o : AObj}, H id = some o → id ≠ m := fun {id o} h e => by subst e; rw [hH] at h; cases h
  refine ⟨hI.below, hI.base_le, hI.init.trans hgr, ?_, ?_, ?_, ?_⟩
  · intro id j o h1 h2
    rw [fupd_ne _ _ _ _ (ne h2)] at h1
    exact (hI.obj id j o h1 h2).grow hgr rfl
  · intro id id' j j' o o' h1 h2 h3 h4
    rw [fupd_ne _ _ _ _ (ne h3)] at h1
    rw [fupd_ne _ _ _ _ (ne h4)] at h2
    exact hI.inj id id' j j' o o' h1 h2 h3 h4
  · intro id j h1
    by_cases e : id = m
    · subst e
      rw [fupd_eq] at h1
      cases h1
      exact hw
    · rw [fupd_ne _ _ _ _ e] at h1
      exact hI.lt id j h1
  · intro g hlt hs
    have e : g ≠ m := by omega
    obtain ⟨j, h1, h2⟩ := hI.glob g hlt hs
    exact ⟨j, by rw [fupd_ne _ _ _ _ e]; exact h1, h2⟩
theorem drawOk_none (P : Program) (base : Nat) (w0 : Start) : DrawOk P base w0 := fun cf lim ops s e s' hc h => by cases h
end Go.Proofs.YtfmppmabnpkooaaDoor.Abs
