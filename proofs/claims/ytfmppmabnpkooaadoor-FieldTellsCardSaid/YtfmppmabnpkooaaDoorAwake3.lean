/- field.List's contract in the print's form; moatlaw3.awake answers true: a straight walk, each call by its contract. -/
import Derived.Test.YtfmppmabnpkooaaDoorPairs
import Derived.Test.YtfmppmabnpkooaaDoorBFx1
set_option linter.unusedSimpArgs false
set_option linter.unusedVariables false
namespace Go.Proofs.YtfmppmabnpkooaaDoor
open Go Go.RowKit Go.Proofs.YtfmppmabnpkooaaDoorW.PrintWords Go.Proofs.YtfmppmabnpkooaaDoorW.PrintLast Go.Proofs.YtfmppmabnpkooaaDoorW.PrintMore

theorem texts_new (W : World) (l : List ByteArray) (h : l.length ≤ 9223372036854775807) :
    Kd.C Kd.string (W.alloc (.cells (l.map Value.string).toArray 9)) (some ⟨W.heap.size, 0, none⟩) l.length l := by
  refine ⟨rfl, h, fun _ => ⟨_, rfl, fun j p hj => ⟨[.string p], rfl, rfl, fun i u hu => ?_⟩⟩⟩
  cases i with
  | succ i => simp at hu
  | zero =>
    simp at hu
    subst hu
    have e : (⟨W.heap.size, 0, none⟩ : Addr).add (j * 1 + 0) = ⟨W.heap.size, j, none⟩ := by
      simp [Addr.add]; intro h; exact h.symm
    rw [show Kd.string.sz = 1 from rfl, e]
    simp only [World.cell?_alloc_new]
    simp [hj]

theorem List_calls_R (a0 : ByteArray) (hn : a0.size ≤ 1099511627776) (w : World) :
    Calls Tryd.prog 18 #[.string a0] w fun e w' => ∃ v0_ : Value, e = .returned (.tuple #[v0_, .bool (listF (pieces 44 a0)).2]) ∧ Kd.R Kd.string 9 w' w.heap.size (fun _ => True) v0_ (listF (pieces 44 a0)).1 ∧ Below w.heap.size w w' :=
  (List_calls a0 hn w).mono fun e w' ⟨v, he, ho, hb⟩ => ⟨v, he, Kd.R_of_own (enc := Value.string) ho (fun _ _ => trivial), hb⟩

def field_List.f (a0 : ByteArray) : Option (List ByteArray × Bool) := if a0.size ≤ 1099511627776 then some (listF (pieces 44 a0)) else none
theorem field_List.calls (a0 : ByteArray) (r1 : List ByteArray) (r2 : Bool) (w : World) (h : field_List.f a0 = some (r1, r2)) :
    Calls Tryd.prog 18 #[.string a0] w fun e w' => ∃ v0_ : Value, e = .returned (.tuple #[v0_, .bool r2]) ∧ Kd.R Kd.string 9 w' w.heap.size (fun _ => True) v0_ r1 ∧ Below w.heap.size w w' := by
  unfold field_List.f at h
  split at h
  · rename_i h1
    have h2 := Option.some.inj h
    have := List_calls_R a0 h1 w
    rw [h2] at this
    exact this
  · cases h

set_option maxRecDepth 100000 in
set_option maxHeartbeats 2000000 in
theorem awake3_calls (w : World) : Calls Tryd.prog 17 #[] w fun e w' => e = .returned (.bool true) ∧ Below w.heap.size w w' := by
  go_enter Tryd.func17, Tryd.ntmps17
  go_wp2_with fail
  refine (field_List.calls _ [⟨#[120, 45, 97]⟩, ⟨#[98]⟩] true _ ?f1).mono ?_
  case f1 => decide +kernel
  rintro e w1 ⟨v1, rfl, hR1, hb1⟩
  obtain ⟨A1, c1, rfl, hc1, hC1⟩ := Kd.R_reads hR1
  have hz1 := hb1.size
  go_wp2_with fail
  refine (field_List.calls _ [] false _ ?f2).mono ?_
  case f2 => decide +kernel
  rintro e w2 ⟨v2, rfl, hR2, hb2⟩
  have hz2 := hb2.size
  go_wp2_with fail
  refine (Pairs_calls _ (by decide) _).mono ?_
  rintro e w3 ⟨v3, rfl, ho3, hb3⟩
  rw [show pairsF (pieces 59 ⟨#[80, 97, 116, 104, 61, 47, 97, 59, 32, 83, 101, 99, 117, 114, 101]⟩) = [(⟨#[112, 97, 116, 104]⟩, ⟨#[47, 97]⟩), (⟨#[115, 101, 99, 117, 114, 101]⟩, ⟨#[]⟩)] by decide +kernel] at ho3
  have hz3 := hb3.size
  obtain ⟨g3, cap3, rfl⟩ := ownsRow_succ ho3
  go_wp2_with fail
  have hb13 := hb2.trans (hb3.mono hz2)
  refine (BF.moatlaw0_SameTexts.calls 4 A1 c1 [⟨#[120, 45, 97]⟩, ⟨#[98]⟩] (some ⟨w3.heap.size, 0, none⟩) 2 [⟨#[120, 45, 97]⟩, ⟨#[98]⟩] true _ (Kd.C_below hC1 (hb13.alloc (by omega) _)) hc1 (texts_new w3 [⟨#[120, 45, 97]⟩, ⟨#[98]⟩] (by decide)) (Nat.le_refl _) ?f6).mono ?_
  case f6 => decide +kernel
  rintro e w4 ⟨rfl, ⟨nd, hnd⟩⟩
  have hb4 : Below w3.heap.size w3 w4 := by rw [hnd]; exact pw_below_drewN ((Below.refl _ w3).alloc (Nat.le_refl _) _) nd
  clear hnd
  have ho4 := ownsRow_below ho3 hb4
  have hz4 := hb4.size
  have q0 := ho4.cellAt 0 (by decide)
  have q1 := ho4.cellAt 1 (by decide)
  have q2 := ho4.cellAt 2 (by decide)
  have q3 := ho4.cellAt 3 (by decide)
  simp only [pairCells, List.flatMap_cons, List.flatMap_nil, List.append_nil, List.cons_append, List.nil_append, List.getElem?_cons_zero, List.getElem?_cons_succ] at q0 q1 q2 q3
  clear ho3 ho4
  have x1 : ∀ w, (Op.equalIn 10000 29 (.agg #[.string ⟨#[112, 97, 116, 104]⟩, .string ⟨#[47, 97]⟩]) (.agg #[.string ⟨#[112, 97, 116, 104]⟩, .string ⟨#[47, 97]⟩])).run Tryd.prog w = .ok true w := fun w => by kernel_rfl
  have x2 : ∀ w, (Op.equalIn 10000 29 (.agg #[.string ⟨#[115, 101, 99, 117, 114, 101]⟩, .string ⟨#[]⟩]) (.agg #[.string ⟨#[115, 101, 99, 117, 114, 101]⟩, .string ⟨#[]⟩])).run Tryd.prog w = .ok true w := fun w => by kernel_rfl
  have n1 := name_calls ⟨#[120, 45, 97]⟩ (by decide)
  rw [show nameL (⟨#[120, 45, 97]⟩ : ByteArray).data.toList = true by decide +kernel] at n1
  have n2 := Lower_calls ⟨#[65, 98, 67]⟩ (by decide)
  rw [show (⟨(lowL (⟨#[65, 98, 67]⟩ : ByteArray).data.toList).toArray⟩ : ByteArray) = ⟨#[97, 98, 99]⟩ by decide +kernel] at n2
  have n3 := trim_calls ⟨#[32, 97, 32]⟩ (by decide)
  rw [show (⟨(trimL (⟨#[32, 97, 32]⟩ : ByteArray).data.toList).toArray⟩ : ByteArray) = ⟨#[97]⟩ by decide +kernel] at n3
  go_wp2_with fail
  refine (n1 _).mono ?_
  rintro e w5 ⟨rfl, ⟨nd5, hnd5⟩⟩
  have hb5 : Below w4.heap.size w4 w5 := by rw [hnd5]; exact pw_below_drewN (Below.refl _ _) nd5
  clear hnd5
  go_wp2_with fail
  refine (n2 _).mono ?_
  rintro e w6 ⟨rfl, hb6⟩
  go_wp2_with fail
  refine (n3 _).mono ?_
  rintro e w7 ⟨rfl, hb7⟩
  go_wp2
  go_ret
  have b3 := hb1.trans (hb13.mono hz1)
  have b4 := b3.trans (hb4.mono (by omega))
  have hz5 := hb5.size
  have hz6 := hb6.size
  have b5 := b4.trans (hb5.mono (by omega))
  have b6 := b5.trans (hb6.mono (by omega))
  exact ⟨rfl, b6.trans (hb7.mono (by omega))⟩

def moatlaw3_awake.f : Option Bool := some true
theorem moatlaw3_awake.calls (r : Bool) (w : World) (h : moatlaw3_awake.f = some r) :
    Calls Tryd.prog 17 #[] w fun e w' => e = .returned (.bool r) ∧ Below w.heap.size w w' := by
  obtain rfl := Option.some.inj h
  exact awake3_calls w
end Go.Proofs.YtfmppmabnpkooaaDoor
