/- moatref8.Fits: the walk: the same as jar.Fits answers. -/
import Derived.Test.YtmelefiodhnlpaaDoorRef2
import Derived.Deep.DeepCutAuto
set_option linter.unusedSimpArgs false
set_option linter.unusedVariables false
namespace Go.Proofs.YtmelefiodhnlpaaDoor
open Go Go.RowKit Go.Proofs.YtmelefiodhnlpaaDoorW.PrintWords Go.Proofs.YtmelefiodhnlpaaDoorW.PrintLast Go.Proofs.YtmelefiodhnlpaaDoorW.PrintMore

def endsL (cp : List UInt8) : Bool := [47].isSuffixOf cp
def headIs (l : List UInt8) : Bool := decide (l.head? = some 47)
theorem wayL_eq (cp p : List UInt8) : wayL cp p = (cp.isPrefixOf p && (decide (p.drop cp.length = []) || (endsL cp || headIs (p.drop cp.length)))) := rfl
theorem ends_at (s : ByteArray) (h : 0 < s.size) : endsL s.data.toList = decide (s[s.size - 1] = 47) := by
  have hl := Lib.size_eq s
  have hg : s[s.size - 1] = s.data.toList[s.data.toList.length - 1]'(by omega) := by
    simp only [← hl]
    simp [ByteArray.getElem_eq_getElem_data]
  rw [hg]
  unfold endsL
  rw [Bool.eq_iff_iff, List.isSuffixOf_iff_suffix, List.suffix_iff_eq_drop, decide_eq_true_eq]
  rw [List.length_singleton, List.drop_eq_getElem_cons (by omega), List.drop_of_length_le (by omega), List.cons.injEq]
  exact ⟨fun h => h.1.symm, fun h => ⟨h.symm, rfl⟩⟩
theorem ends_no (s : ByteArray) (h : ¬ 0 < s.size) : endsL s.data.toList = false := by
  have hl := Lib.size_eq s
  have : s.data.toList = [] := List.eq_nil_of_length_eq_zero (by omega)
  rw [this]; rfl
theorem head_at (s : ByteArray) (h : 0 < s.size) : headIs s.data.toList = decide (s[0] = 47) := by
  have hl := Lib.size_eq s
  have hg : s[0] = s.data.toList[0]'(by omega) := by simp [ByteArray.getElem_eq_getElem_data]
  rw [hg]
  unfold headIs
  rw [List.head?_eq_getElem?, List.getElem?_eq_getElem (by omega)]
  simp
theorem byte47 (c : UInt8) : ((c.toNat : Int) == 47) = decide (c = 47) := by
  rw [Bool.eq_iff_iff, beq_iff_eq, decide_eq_true_eq]
  exact ⟨fun h => UInt8.toNat_inj.1 (by have : (47 : UInt8).toNat = 47 := rfl; omega), fun h => by rw [h]; rfl⟩

set_option maxRecDepth 100000 in
set_option maxHeartbeats 4000000 in
theorem RefFits_calls (n : ByteArray) (o : Int) (d cp : ByteArray) (s h : Bool) (m : Int) (host tn ts th : ByteArray) (tp : Int) (p : ByteArray) (w : World)
    (hp : p.size ≤ 1000000) (hc : cp.size ≤ 1000000) (ht : th.size ≤ 1000000) (hd : d.size ≤ 1000000) :
    Calls Tryd.prog 19 #[.agg #[.string n, .int .i64 o, .string d, .string cp, .bool s, .bool h, .int .i64 m], .string host, .agg #[.string tn, .string ts, .string th, .int .i64 tp], .string p] w fun e w' =>
      e = .returned (.bool (fitsL d.data.toList cp.data.toList s host.data.toList ts.data.toList th.data.toList p.data.toList)) ∧ Below w.heap.size w w' := by
  have hU := fun w => BE.moatref2_Under.calls (3 * th.size + 3 * d.size + 11) th d _ w (RefUnder_f _ th d ht hd (by omega))
  obtain ⟨rest, pre, hH, hpre, hrest⟩ : ∃ rest pre, BE.moatref1_Head.f p cp = some (rest, pre) ∧ pre = cp.data.toList.isPrefixOf p.data.toList ∧ (pre = true → rest.data.toList = p.data.toList.drop cp.data.toList.length) := by
    rw [RefHead_f]
    cases hx : cp.data.toList.isPrefixOf p.data.toList with
    | true => exact ⟨_, _, rfl, rfl, fun _ => by rw [extract_list, List.take_of_length_le (by rw [List.length_drop, Lib.size_eq p]; omega), ← Lib.size_eq cp]⟩
    | false => exact ⟨_, _, rfl, rfl, fun h => by cases h⟩
  have hHC := fun w => BE.moatref1_Head.calls p cp rest pre w hH
  obtain ⟨FB, hFB⟩ : ∃ b, hostFits d.data.toList host.data.toList th.data.toList = b := ⟨_, rfl⟩
  obtain ⟨EB, hEB⟩ : ∃ b, endsL cp.data.toList = b := ⟨_, rfl⟩
  obtain ⟨WB, hWB⟩ : ∃ b, wayL cp.data.toList p.data.toList = b := ⟨_, rfl⟩
  have HWB := Lib.hid hWB
  have HFB := Lib.hid hFB
  have HEB := Lib.hid hEB
  have HPRE := Lib.hid hpre
  have HREST := Lib.hid hrest
  clear hWB hFB hEB hH hpre hrest
  go_enter Tryd.func19, Tryd.ntmps19
  go_upto_region 1 with (fail)
  obtain ⟨W0, hW0⟩ : ∃ W0, (w.alloc (.cells #[.string n, .int .i64 o, .string d, .string cp, .bool s, .bool h, .int .i64 m] 39)).alloc (.cells #[.string tn, .string ts, .string th, .int .i64 tp] 32) = W0 := ⟨_, rfl⟩
  have hs0 : W0.heap.size = w.heap.size + 2 := by rw [← hW0]; simp
  have hbl : Below w.heap.size w W0 := by rw [← hW0]; exact ((Below.refl _ w).alloc (Nat.le_refl _) _).alloc (by simp) _
  have hbk : W0.heap[w.heap.size]? = some (.cells #[.string n, .int .i64 o, .string d, .string cp, .bool s, .bool h, .int .i64 m] 39 (0, 0)) := by
    rw [← hW0]; exact (Below.heap_alloc _ _ _ (by simp)).trans (World.alloc_heap_new w _)
  have hbk2 : W0.heap[w.heap.size + 1]? = some (.cells #[.string tn, .string ts, .string th, .int .i64 tp] 32 (0, 0)) := by
    rw [← hW0]; have := World.alloc_heap_new (w.alloc (.cells #[.string n, .int .i64 o, .string d, .string cp, .bool s, .bool h, .int .i64 m] 39)) (.cells #[.string tn, .string ts, .string th, .int .i64 tp] 32); rwa [World.size_alloc] at this
  rw [hW0]
  clear hW0
  have HB0 := Lib.hid hbl
  clear hbl
  have K : ∀ wc, Below W0.heap.size W0 wc → wc.cell? ⟨w.heap.size, 2, none⟩ = some (.string d) ∧ wc.cell? ⟨w.heap.size, 3, none⟩ = some (.string cp) ∧ wc.cell? ⟨w.heap.size, 4, none⟩ = some (.bool s) ∧
      wc.cell? ⟨w.heap.size + 1, 1, none⟩ = some (.string ts) ∧ wc.cell? ⟨w.heap.size + 1, 2, none⟩ = some (.string th) := fun wc hb => by
    have e1 := (hb.block w.heap.size (by omega)).trans hbk
    have e2 := (hb.block (w.heap.size + 1) (by omega)).trans hbk2
    refine ⟨?_, ?_, ?_, ?_, ?_⟩ <;> simp [World.cell?, e1, e2]
  have HK := Lib.hid K
  clear K hbk hbk2
  go_cut [9] (fun v9 wc => v9 = .bool FB ∧ Aside0 (Below W0.heap.size W0 wc))
  case first =>
    obtain ⟨k1, _, _, _, k5⟩ := HK.out W0 (Below.refl _ _)
    by_cases e1 : th.data.toList = host.data.toList
    · have g1 : (th.toList == host.toList) = true := by rw [Go.ByteArray.toList_eq, Go.ByteArray.toList_eq]; exact beq_iff_eq.2 e1
      go_wp2
      go_meet
      exact ⟨by rw [← HFB.out]; unfold hostFits; rw [decide_eq_true e1]; rfl, ⟨Below.refl _ _⟩⟩
    · have g1 : (th.toList == host.toList) = false := by rw [Go.ByteArray.toList_eq, Go.ByteArray.toList_eq]; exact beq_eq_false_iff_ne.2 e1
      by_cases e2 : d.data.toList = []
      · have g2 : d.toList.isEmpty = true := by rw [Go.ByteArray.toList_eq]; exact List.isEmpty_iff.2 e2
        have g3 : (d.toList == ([] : List UInt8)) = true := by rw [Go.ByteArray.toList_eq]; exact beq_iff_eq.2 e2
        go_wp2
        go_meet
        exact ⟨by rw [← HFB.out]; unfold hostFits; rw [decide_eq_false e1, decide_eq_false (fun h => h e2)]; rfl, ⟨Below.refl _ _⟩⟩
      · have g2 : d.toList.isEmpty = false := by rw [Go.ByteArray.toList_eq]; exact Bool.eq_false_iff.2 fun h => e2 (List.isEmpty_iff.1 h)
        have g3 : (d.toList == ([] : List UInt8)) = false := by rw [Go.ByteArray.toList_eq]; exact beq_eq_false_iff_ne.2 e2
        go_wp2_with (go_at_call 31; refine (hU _).mono ?_; rintro e w1 ⟨rfl, hb1⟩)
        go_meet
        exact ⟨by rw [← HFB.out]; unfold hostFits; rw [decide_eq_false e1, decide_eq_true e2]; rfl, ⟨hb1⟩⟩
  case rest =>
    obtain ⟨rfl, hB⟩ := hcut
    have hk := HK.out wc hB.out
    obtain ⟨k1, k2, k3, k4, k5⟩ := hk
    go_upto_region 3 with (go_at_call 32; refine (hHC _).mono ?_; rintro e w2 ⟨rfl, hd2⟩; have hb2 := hB.out.trans (hd2.below.mono hB.out.size); clear hd2)
    clear k1 k2 k3 k4 k5 hB hHC hU
    have HB2 := Lib.hid hb2
    clear hb2
    go_cut [12] (fun v12 wc => v12 = .bool EB ∧ Aside0 (Below W0.heap.size W0 wc))
    case first =>
      obtain ⟨_, k2, _, _, _⟩ := HK.out w2 HB2.out
      by_cases hz : 0 < cp.size
      · have hz1 : (0 : Int) < (cp.size : Int) := by omega
        obtain ⟨c, hc1⟩ : ∃ c, cp[cp.size - 1] = c := ⟨_, rfl⟩
        have he := ends_at cp hz
        rw [hc1] at he
        by_cases h47 : c = 47
        · have g1 : ((c.toNat : Int) == 47) = true := by rw [byte47, h47]; rfl
          have HE : Hid (EB = true) := Lib.hid (by rw [← HEB.out, he, h47]; rfl)
          clear he
          go_wp2
          go_meet
          exact ⟨by rw [HE.out], ⟨HB2.out⟩⟩
        · have g1 : ((c.toNat : Int) == 47) = false := by rw [byte47, decide_eq_false h47]
          have HE : Hid (EB = false) := Lib.hid (by rw [← HEB.out, he, decide_eq_false h47])
          clear he
          go_wp2
          go_meet
          exact ⟨by rw [HE.out], ⟨HB2.out⟩⟩
      · have hz1 : ¬ (0 : Int) < (cp.size : Int) := by omega
        have HE : Hid (EB = false) := Lib.hid (by rw [← HEB.out, ends_no cp hz])
        go_wp2
        go_meet
        exact ⟨by rw [HE.out], ⟨HB2.out⟩⟩
    case rest =>
      obtain ⟨rfl, hB3⟩ := hcut
      go_upto_region 4 with (fail)
      go_cut [11, 12, 13] (fun v11 v12 v13 wd => v13 = .bool WB ∧ Aside0 (Below W0.heap.size W0 wd))
      case first =>
        cases hp1 : pre with
        | false =>
          have HW : Hid (WB = false) := Lib.hid (by rw [← HWB.out, wayL_eq, ← HPRE.out, hp1]; rfl)
          go_wp2
          go_meet
          exact ⟨by rw [HW.out], ⟨hB3.out⟩⟩
        | true =>
          have hr := HREST.out hp1
          have hw : WB = (decide (rest.data.toList = []) || (EB || headIs rest.data.toList)) := by rw [← HWB.out, wayL_eq, ← HPRE.out, hp1, ← hr, HEB.out]; rfl
          have HW := Lib.hid hw
          clear hw hr
          by_cases hE : rest.data.toList = []
          · have g1 : rest.toList.isEmpty = true := by rw [Go.ByteArray.toList_eq]; exact List.isEmpty_iff.2 hE
            have g2 : (rest.toList == ([] : List UInt8)) = true := by rw [Go.ByteArray.toList_eq]; exact beq_iff_eq.2 hE
            go_wp2
            go_meet
            exact ⟨by rw [HW.out, decide_eq_true hE]; rfl, ⟨hB3.out⟩⟩
          · have g1 : rest.toList.isEmpty = false := by rw [Go.ByteArray.toList_eq]; exact Bool.eq_false_iff.2 fun h => hE (List.isEmpty_iff.1 h)
            have g2 : (rest.toList == ([] : List UInt8)) = false := by rw [Go.ByteArray.toList_eq]; exact beq_eq_false_iff_ne.2 hE
            have hpos : 0 < rest.size := by rw [Lib.size_eq]; exact List.length_pos_iff.2 hE
            cases EB with
            | true =>
              go_wp2
              go_meet
              exact ⟨by rw [HW.out, decide_eq_false hE]; rfl, ⟨hB3.out⟩⟩
            | false =>
              have hh := head_at rest hpos
              obtain ⟨c, hc1⟩ : ∃ c, rest[0] = c := ⟨_, rfl⟩
              rw [hc1] at hh
              have HH := Lib.hid hh
              clear hh
              have g3 := byte47 c
              go_wp2
              go_meet
              exact ⟨by rw [HW.out, decide_eq_false hE, HH.out]; simp, ⟨hB3.out⟩⟩
      case rest =>
        obtain ⟨rfl, hB4⟩ := hcut
        obtain ⟨_, _, k3, k4, _⟩ := HK.out wc hB4.out
        have hend : Below w.heap.size w wc := HB0.out.trans (hB4.out.mono (by omega))
        have HF : Hid (fitsL d.data.toList cp.data.toList s host.data.toList ts.data.toList th.data.toList p.data.toList = (FB && ((!s || decide (ts.data.toList = [104, 116, 116, 112, 115])) && WB))) := Lib.hid (by unfold fitsL; rw [HFB.out, HWB.out])
        have HEND := Lib.hid hend
        clear hend
        cases FB with
        | false =>
          go_wp2
          go_ret
          exact ⟨by rw [HF.out]; rfl, HEND.out⟩
        | true =>
          cases WB with
          | false =>
            go_wp2
            go_ret
            exact ⟨by rw [HF.out]; simp, HEND.out⟩
          | true =>
            cases s with
            | false =>
              go_wp2
              go_ret
              exact ⟨by rw [HF.out]; rfl, HEND.out⟩
            | true =>
              have g1 : (ts.toList == [104, 116, 116, 112, 115]) = decide (ts.data.toList = [104, 116, 116, 112, 115]) := by rw [Go.ByteArray.toList_eq, Bool.eq_iff_iff]; simp
              go_wp2
              go_ret
              exact ⟨by rw [HF.out]; simp, HEND.out⟩
end Go.Proofs.YtmelefiodhnlpaaDoor
