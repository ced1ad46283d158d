/- Chapter 1, by the engine: what is known of the world; what is given of functions; the law's own awake. -/
import Derived.Test.YtfmppmabnpkooaaDoorBridge
import Derived.Test.YtfmppmabnpkooaaDoorHostU
import Derived.Test.YtfmppmabnpkooaaDoorProg
import Derived.Test.YtfmppmabnpkooaaDoorShelf
import Derived.Lib.CutLaws
import Derived.KernelRfl
set_option autoImplicit false
set_option linter.unusedSimpArgs false
set_option linter.unusedVariables false
namespace Go.Proofs.YtfmppmabnpkooaaDoor
open Go Go.RowKit Go.Proofs.YtfmppmabnpkooaaDoor.Abs

noncomputable def sHost : List Value → Option Value
  | [.string s] => if s.size ≤ 140737488355328 then some (.bool (hostL s.data.toList)) else none
  | _ => none
noncomputable def sCut : List Value → Option Value
  | [.string s, .string sep] => if s.size < 4294967281 then some (.tuple #[.string ⟨(Lib.cut s.data.toList sep.data.toList).1.toArray⟩, .string ⟨(Lib.cut s.data.toList sep.data.toList).2.1.toArray⟩, .bool (Lib.cut s.data.toList sep.data.toList).2.2]) else none
  | _ => none
noncomputable def GU : GivenT := gAdd 41 (natFlat sHost) (gAdd 57 (natFlat sCut) gNone)
noncomputable def schemesT (s : ByteArray) : Option Value := if beqB s ⟨#[104, 116, 116, 112]⟩ = true then some (.int .i64 80) else if beqB s ⟨#[104, 116, 116, 112, 115]⟩ = true then some (.int .i64 443) else none
def schemesL : List (Lit × DataW Unit) := [(.string [104, 116, 116, 112], .lit (.int .i64 80)), (.string [104, 116, 116, 112, 115], .lit (.int .i64 443))]
theorem eq_of_beq_bytes {a b : ByteArray} (h : (a == b) = true) : a = b := by
  obtain ⟨x⟩ := a
  obtain ⟨y⟩ := b
  have h' : (x == y) = true := h
  rw [beq_iff_eq] at h'
  rw [h']
theorem schemesT_ok (s : ByteArray) : match schemesT s with
      | some v => ∃ z, v = .int .i64 z ∧ (∃ x, (Lit.string s.data.toList, x) ∈ schemesL) ∧ ∀ x, (Lit.string s.data.toList, x) ∈ schemesL → x = .lit (.int .i64 z)
      | none => ∀ x, (Lit.string s.data.toList, x) ∉ schemesL := by
  unfold schemesT
  by_cases h1 : s = ⟨#[104, 116, 116, 112]⟩
  · subst h1
    rw [if_pos (by rfl)]
    exact ⟨80, rfl, ⟨_, List.mem_cons_self⟩, fun x hx => by simpa [schemesL] using hx⟩
  · have b1 : ¬ beqB s ⟨#[104, 116, 116, 112]⟩ = true := fun h => h1 (by rw [beqB_beq] at h; exact str_eq (by have := eq_of_beq_bytes h; rw [this]))
    rw [if_neg b1]
    by_cases h2 : s = ⟨#[104, 116, 116, 112, 115]⟩
    · subst h2
      rw [if_pos (by rfl)]
      exact ⟨443, rfl, ⟨_, List.mem_cons_of_mem _ List.mem_cons_self⟩, fun x hx => by simpa [schemesL] using hx⟩
    · have b2 : ¬ beqB s ⟨#[104, 116, 116, 112, 115]⟩ = true := fun h => h2 (by rw [beqB_beq] at h; exact str_eq (by have := eq_of_beq_bytes h; rw [this]))
      rw [if_neg b2]
      intro x hx
      simp only [schemesL, List.mem_cons, Prod.mk.injEq, Lit.string.injEq, List.not_mem_nil, or_false] at hx
      rcases hx with ⟨hx, _⟩ | ⟨hx, _⟩
      · exact h1 (str_eq hx)
      · exact h2 (str_eq hx)

/-- What is known of the world. -/
def UrlWorld (w : World) : Prop := (∃ bm, MapAt Tryd.prog w 1 bm 9 .i64 schemesL) ∧ ∃ m, w.cell? ⟨3, 0, none⟩ = some (.int .i64 m)
theorem cell_lt {w : World} {b off : Nat} {v : Value} (h : w.cell? ⟨b, off, none⟩ = some v) : b < w.heap.size := by
  apply Classical.byContradiction
  intro hn
  have : w.heap[b]? = none := Array.getElem?_eq_none (by omega)
  simp [World.cell?, this] at h
theorem UrlWorld.below {w w' : World} (h : UrlWorld w) (hb : Below w.heap.size w w') : UrlWorld w' := by
  obtain ⟨⟨bm, h1⟩, m, h2⟩ := h
  refine ⟨⟨bm, h1.below hb⟩, m, ?_⟩
  rw [← h2]
  exact hb.cell (cell_lt h2)

theorem GU_ok {w : World} {ι0 : Nat → Option Abs.Loc} (h : UrlWorld w) : GivenOk Tryd.prog w.heap.size ⟨w, ι0⟩ GU := by
  refine (GivenOk.none.add ?_).add ?_
  · refine natFlat_ok fun args v hv => ?_
    unfold sCut at hv
    split at hv
    · rename_i s sep
      split at hv
      · rename_i hs
        cases hv
        refine ⟨rfl, rfl, fun w' hb => ?_⟩
        obtain ⟨_, m, hm⟩ := h.below hb
        refine (Tryd.strings_Cut s sep m w' hs hm).mono fun e w2 hq => ?_
        obtain ⟨rfl, n, rfl⟩ := hq
        exact ⟨rfl, Below.trans (Below.refl _ _) ⟨rfl, rfl, rfl, Nat.le_refl _, fun _ _ => rfl⟩⟩
      · cases hv
    · cases hv
  · refine natFlat_ok fun args v hv => ?_
    unfold sHost at hv
    split at hv
    · rename_i s
      split at hv
      · rename_i hs
        cases hv
        exact ⟨rfl, rfl, fun w' hb => Host_calls s hs w'⟩
      · cases hv
    · cases hv

noncomputable def hU (e : Nat) : Hp := ⟨(Tr.nil.set 11 (some (.table schemesT))).set 1 (some (.cells [.map (some 11)] e false)), 12⟩
theorem UrlWorld.inv {w : World} (h : UrlWorld w) : ∃ e ι, Inv Tryd.prog w.heap.size ⟨w, ι⟩ ι (hU e).t.get w ∧ (∀ id, 12 ≤ id → ι id = none) := by
  obtain ⟨⟨bm, h1⟩, _⟩ := h
  obtain ⟨e, i, j, hI⟩ := MapAt.inv h1 (k := 9) Tryd.underlying9 schemesT_ok (m := 11) (P := Tryd.prog) (of_decide_eq_true (by kernel_rfl)) (of_decide_eq_true (by kernel_rfl)) (Inv.start w) rfl rfl (fun id j o' h => by cases h)
  refine ⟨e, fupd (fupd (fun _ => none) 11 (some i)) 1 (some j), ?_, ?_⟩
  · have hf := hI.fix
    have he : (hU e).t.get = fupd (fupd (fun _ => none) 11 (some (.table schemesT))) 1 (some (.cells [.map (some 11)] e false)) := by
      unfold hU
      rw [Tr.get_set_fun, Tr.get_set_fun]
      rfl
    rw [he]
    exact hf
  · intro id hid
    rw [fupd_ne _ _ _ _ (by omega), fupd_ne _ _ _ _ (by omega)]
noncomputable def isTrue (r : Option (CRet × Hp)) : Bool := match r with | some (.ret (.bool b), _) => b | _ => false
theorem isTrue_eq {r : Option (CRet × Hp)} (h : isTrue r = true) : ∃ h', r = some (.ret (.bool true), h') := by
  unfold isTrue at h
  split at h
  · subst h
    exact ⟨_, rfl⟩
  · cases h
set_option maxRecDepth 1000000 in
theorem awake1_run (e : Nat) : isTrue (call Tryd.prog GU 100 36 [] (hU e)) = true := by kernel_rfl
theorem noNG_prog : noNG Tryd.prog = true := by kernel_rfl
theorem awake1_calls {w : World} (h : UrlWorld w) : Calls Tryd.prog 36 #[] w fun e w' => e = .returned (.bool true) ∧ Below w.heap.size w w' := by
  obtain ⟨e, ι, hI, hf⟩ := h.inv
  obtain ⟨h', hc⟩ := isTrue_eq (awake1_run e)
  exact law_of_call (args' := []) noNG_prog (drawOk_none _ _ _) (GU_ok h) hc hI trivial (of_decide_eq_true (by kernel_rfl)) hf
#print axioms awake1_calls
end Go.Proofs.YtfmppmabnpkooaaDoor
