/- Contracts in the print's own form for what the print does not take: strings.Count, strings.Index (one byte), strings.explode (never reached: nothing is said), strings.Join, url.Host. -/
import Derived.Test.YtmelefiodhnlpaaDoorHost
set_option linter.unusedSimpArgs false
set_option linter.unusedVariables false
namespace Go.Proofs.YtmelefiodhnlpaaDoor
open Go Go.RowKit Go.Shelf Go.Proofs Go.Proofs.YtmelefiodhnlpaaDoorW.PrintWords Go.Proofs.YtmelefiodhnlpaaDoorW.PrintLast Go.Proofs.YtmelefiodhnlpaaDoorW.PrintMore

theorem one_byte (s : ByteArray) (h : s.size = 1) : s = ⟨#[s.data.toList.headD 0]⟩ := by
  obtain ⟨⟨l⟩⟩ := s
  match l, h with
  | [x], _ => rfl

def strings_Count.f (a0 : ByteArray) (a1 : ByteArray) : Option Int := if a1.size = 1 then some (Lib.countByte a0.data.toList (a1.data.toList.headD 0)) else none
theorem strings_Count.calls (a0 : ByteArray) (a1 : ByteArray) (r : Int) (w : World) (h : strings_Count.f a0 a1 = some r) :
    Calls Tryd.prog 50 #[.string a0, .string a1] w fun e w' => e = .returned (.int .i64 r) ∧ Drawn0 w w' := by
  unfold strings_Count.f at h
  split at h
  · rename_i h1
    obtain rfl := Option.some.inj h
    have e := one_byte a1 h1
    generalize a1.data.toList.headD 0 = c at e ⊢
    subst e
    exact (Tryd.strings_Count_one a0 c w).mono fun e w' ⟨he, hw⟩ => ⟨he, hw ▸ Drawn0.refl w⟩
  · cases h

def strings_Index.f (a0 : ByteArray) (a1 : ByteArray) : Option Int := if a1.size = 1 then some (Lib.indexByte a0.data.toList (a1.data.toList.headD 0)) else none
theorem strings_Index.calls (a0 : ByteArray) (a1 : ByteArray) (r : Int) (w : World) (h : strings_Index.f a0 a1 = some r) :
    Calls Tryd.prog 51 #[.string a0, .string a1] w fun e w' => e = .returned (.int .i64 r) ∧ Drawn0 w w' := by
  unfold strings_Index.f at h
  split at h
  · rename_i h1
    obtain rfl := Option.some.inj h
    have e := one_byte a1 h1
    generalize a1.data.toList.headD 0 = c at e ⊢
    subst e
    exact (Tryd.strings_Index_one a0 c w).mono fun e w' ⟨he, hw⟩ => ⟨he, hw ▸ Drawn0.refl w⟩
  · cases h

def strings_explode.f (_ : ByteArray) (_ : Int) : Option (List ByteArray) := none
theorem strings_explode.calls (a0 : ByteArray) (a1 : Int) (r : List ByteArray) (w : World) (h : strings_explode.f a0 a1 = some r) :
    Calls Tryd.prog 49 #[.string a0, .int .i64 a1] w fun e w' => ∃ v0_ : Value, e = .returned (v0_) ∧ Kd.R Kd.string 9 w' w.heap.size (fun _ => True) v0_ r ∧ Below w.heap.size w w' := by cases h

/-- strings.Split at one byte: the pieces in a new block, and nothing else. -/
theorem splitB_cut (c : UInt8) : ∀ (k : Nat) (s : ByteArray), Lib.splitB ⟨#[c]⟩ 0 k s = cutB c k s
  | 0, _ => rfl
  | k + 1, s => by
    have e : Lib.indexB s ⟨#[c]⟩ = Lib.indexByte s.data.toList c := Lib.index_one _ _
    have hge := Lib.indexByte_ge s.data.toList c
    unfold Lib.splitB cutB
    rw [e]
    by_cases h : Lib.indexByte s.data.toList c = -1
    · rw [if_pos (by rw [h]; rfl), if_pos (by omega)]
    · rw [if_neg (by simpa using h), if_neg (by omega), splitB_cut c k]
      rfl

theorem Split_one (s : ByteArray) (c : UInt8) (hs : s.size < 4294967281) (w : World) :
    Calls Tryd.prog 30 #[.string s, .string ⟨#[c]⟩] w fun e w' =>
      e = .returned (.slice (some ⟨w.heap.size, 0, none⟩) (pieces c s).length (pieces c s).length) ∧ w' = w.alloc (.cells ((pieces c s).map Value.string).toArray 9) := by
  have hp : Lib.splitB ⟨#[c]⟩ 0 (s.data.toList.count c) s = pieces c s := by
    rw [splitB_cut]; exact cutB_more c _ _ s (Nat.le_refl _) (count_size s c)
  have hlen : (pieces c s).length = s.data.toList.count c + 1 := by
    have := congrArg List.length (pieces_split c s); rw [List.length_map, splitL_length] at this; exact this
  have hcb : Lib.countB s ⟨#[c]⟩ = s.data.toList.count c := Lib.count_one _ _
  have hle := count_size s c
  have k := Any.strings_genSplit_core { Tryd.lays146 with } (by kernel_rfl) s ⟨#[c]⟩ 0 (-1) (s.data.toList.count c + 1) w hs (Nat.le_refl 1) (Nat.zero_le _)
    (fun x d hx => by rw [show Lib.indexB x ⟨#[c]⟩ = Lib.indexByte x.data.toList c from Lib.index_one _ _]; exact Any.strings_Index_one { Tryd.lays146 with } x c _)
    (by rw [hcb]; exact Any.strings_Count_one { Tryd.lays146 with } s c w)
    (by decide) (by decide) (by rw [if_pos (by decide), hcb]; omega)
  rw [Nat.add_sub_cancel, hp, show Lib.cellsOf (pieces c s) (s.data.toList.count c + 1) = ((pieces c s).map Value.string).toArray by rw [← hlen]; exact Lib.cellsOf_full _, ← hlen] at k
  generalize pieces c s = ps at k ⊢
  clear hp hlen hcb hle
  go_enter Tryd.func30, Tryd.ntmps30
  go_wp2_with (go_at_call 41; refine k.mono ?_; rintro e w' ⟨rfl, hw⟩; rw [hw])
  go_ret
  exact ⟨rfl, rfl⟩

def strings_Split.f (a0 : ByteArray) (a1 : ByteArray) : Option (List ByteArray) := if a1.size = 1 ∧ a0.size < 4294967281 then some (pieces (a1.data.toList.headD 0) a0) else none
theorem strings_Split.calls (a0 : ByteArray) (a1 : ByteArray) (r : List ByteArray) (w : World) (h : strings_Split.f a0 a1 = some r) :
    Calls Tryd.prog 30 #[.string a0, .string a1] w fun e w' => ∃ v0_ : Value, e = .returned (v0_) ∧ Kd.R Kd.string 9 w' w.heap.size (fun _ => True) v0_ r ∧ Below w.heap.size w w' := by
  unfold strings_Split.f at h
  split at h
  · rename_i h1
    obtain rfl := Option.some.inj h
    have e := one_byte a1 h1.1
    generalize a1.data.toList.headD 0 = c at e ⊢
    subst e
    have hlen : (pieces c a0).length = a0.data.toList.count c + 1 := by
      have := congrArg List.length (pieces_split c a0); rw [List.length_map, splitL_length] at this; exact this
    have hle := count_size a0 c
    refine (Split_one a0 c h1.2 w).mono fun e w' ⟨he, hw⟩ => ⟨_, he, ?_, ?_⟩
    · rw [hw]
      have hr : Reps (fun (x : ByteArray) (cs : List Value) => cs = [Value.string x]) 1 (pieces c a0) ((pieces c a0).map Value.string) := ⟨by simp, fun j p hj => by
        obtain ⟨hlt, hx⟩ := List.getElem?_eq_some_iff.1 hj
        rw [Nat.mul_one]
        apply List.ext_getElem?
        intro i
        rw [List.getElem?_take, List.getElem?_drop, List.getElem?_map]
        by_cases hi : i < 1
        · obtain rfl : i = 0 := by omega
          simp [hj]
        · rw [if_neg hi]; simp; omega⟩
      exact ⟨fun _ _ => trivial, OwnRow.lit w w.heap.size hr (Nat.le_refl _) (by omega)⟩
    · rw [hw]; exact (Below.refl _ w).alloc (Nat.le_refl _) _
  · cases h

def joinB (l : List ByteArray) (sep : ByteArray) : ByteArray := ⟨(Lib.join (l.map (·.data.toList)) sep.data.toList).toArray⟩
def strings_Join.f (l0 : List ByteArray) (a1 : ByteArray) : Option ByteArray :=
  if l0.length ≤ 140737488355328 ∧ (Lib.join (l0.map (·.data.toList)) a1.data.toList).length ≤ 140737488355328 then some (joinB l0 a1) else none
theorem strings_Join.calls (A0 : Option Addr) (c0 : Nat) (l0 : List ByteArray) (a1 : ByteArray) (r : ByteArray) (w : World) (hr0 : Kd.C Kd.string w A0 l0.length l0) (hc0 : l0.length ≤ c0) (h : strings_Join.f l0 a1 = some r) :
    Calls Tryd.prog 29 #[.slice A0 l0.length c0, .string a1] w fun e w' => e = .returned (.string r) ∧ Below w.heap.size w w' := by
  unfold strings_Join.f at h
  split at h
  · rename_i h1
    obtain rfl := Option.some.inj h
    by_cases hz : l0.length = 0
    · obtain rfl := List.eq_nil_of_length_eq_zero hz
      exact (Tryd.strings_Join_none A0 c0 a1 w).mono fun e w' ⟨he, hw⟩ => ⟨he, by rw [hw]; exact Below.refl _ _⟩
    · obtain ⟨ad, rfl, hc⟩ := Kd.at_string hr0 0 (Int.le_refl 0) (by omega)
      have hsp : ∀ (a : Addr) (v : Value), w.cell? a = some v → a.spot = none := fun a v hv => by
        unfold World.cell? at hv
        split at hv
        · split at hv
          · cases hv
          · rename_i hs; simpa using hs
        · cases hv
      obtain ⟨bk, o, sp⟩ := ad
      obtain rfl : sp = none := hsp _ _ hc
      refine (Tryd.strings_Join bk o c0 l0 a1 w (fun j x hj => ?_) (World.block_lt_of_cell? w _ hc) h1.1 hc0 h1.2).mono fun e w' ⟨he, hb⟩ => ⟨he, hb⟩
      obtain ⟨hlt, hx⟩ := List.getElem?_eq_some_iff.1 hj
      obtain ⟨ad2, e2, hc2⟩ := Kd.at_string hr0 (j : Int) (by omega) (by omega)
      cases e2
      rw [show rdOf ByteArray.empty l0 (j : Int) = x by simp [rdOf, List.getD, hj]] at hc2
      by_cases hj0 : j = 0
      · subst hj0; simpa [Addr.add] using hc2
      · simpa [Addr.add, hj0] using hc2
  · cases h

def url_Host.f (a0 : ByteArray) : Option Bool := if a0.size ≤ 140737488355328 then some (hostL a0.data.toList) else none
theorem url_Host.calls (a0 : ByteArray) (r : Bool) (w : World) (h : url_Host.f a0 = some r) :
    Calls Tryd.prog 27 #[.string a0] w fun e w' => e = .returned (.bool r) ∧ Below w.heap.size w w' := by
  unfold url_Host.f at h
  split at h
  · rename_i h1
    obtain rfl := Option.some.inj h
    exact Host_calls a0 h1 w
  · cases h
end Go.Proofs.YtmelefiodhnlpaaDoor
