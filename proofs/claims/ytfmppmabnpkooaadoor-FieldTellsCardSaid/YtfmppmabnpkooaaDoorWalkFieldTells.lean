/- moatlaw3.FieldTells: the walk: what the package field answers is what the document's own text answers. -/
import Derived.Test.YtfmppmabnpkooaaDoorRefPairs
import Derived.Test.YtfmppmabnpkooaaDoorRefList
import Derived.Test.YtfmppmabnpkooaaDoorOver
import Derived.Test.YtfmppmabnpkooaaDoorSame
import Derived.Deep.QuietTactic
import Derived.BigQuiet
set_option linter.unusedSimpArgs false
set_option linter.unusedVariables false
namespace Go.Proofs.YtfmppmabnpkooaaDoor
open Go Go.RowKit Go.Proofs.YtfmppmabnpkooaaDoorW.PrintWords Go.Proofs.YtfmppmabnpkooaaDoorW.PrintLast Go.Proofs.YtfmppmabnpkooaaDoorW.PrintMore

theorem bytes_beq (x : ByteArray) : (x == x) = true := by
  obtain ⟨d⟩ := x
  show (d == d) = true
  simp

set_option maxRecDepth 100000 in
set_option maxHeartbeats 4000000 in
theorem moatlaw3_FieldTells.walk (_ : True) (s : ByteArray) (w : World) (w0 : s.size ≤ 140737488351232) :
    Calls Tryd.prog 3 #[.string s] w fun e w' => e = .returned (.bool true) ∧ Below w.heap.size w w' := by
  by_cases hn : 300 < s.size
  · have hn1 : (300 : Int) < (s.size : Int) := by omega
    go_enter Tryd.func3, Tryd.ntmps3
    go_wp2_with (go_at_call 17; refine (awake3_calls _).mono ?_; rintro e w1 ⟨rfl, hb1⟩)
    go_ret
    exact ⟨rfl, hb1⟩
  · have hn1 : ¬ (300 : Int) < (s.size : Int) := by omega
    have hs : s.size ≤ 300 := by omega
    have hL1 := fun w => List_calls s (by omega) w
    have hL2 := fun w => BG.moatref3_List.calls (8 * s.size + 41) s (listF (pieces 44 s)).1 (listF (pieces 44 s)).2 w (RefList_f _ s (by omega) (by omega))
    have hP1 := fun w => Pairs_calls s (by omega) w
    have hP2 := fun w => RefPairs_calls s (by omega) w
    have hT1 := fun w => trim_calls s (by omega) w
    have hT2 := fun w => BG.moatref3_Trim.calls (2 * s.size + 3) s _ w (RefTrim_f _ s (by omega) (by omega))
    have hW1 := fun w => Lower_calls s (by omega) w
    have hW2 := fun w => RefLower_calls s (by omega) w
    have hN1 := fun w => name_calls s (by omega) w
    have hN2 := fun w => BG.moatref3_Name.calls (3 * s.size + 1) s _ w (RefName_f _ s (by omega) (by omega))
    have hlen1 : (listF (pieces 44 s)).1.length ≤ 301 := by
      have h2 := congrArg List.length (pieces_split 44 s)
      rw [List.length_map, splitL_length] at h2
      have h3 := count_size s 44
      unfold listF
      split
      · exact Nat.le_trans (outs_len _) (by omega)
      · simp
    have hlen2 : (pairsF (pieces 59 s)).length ≤ 301 := by
      have h2 := congrArg List.length (pieces_split 59 s)
      rw [List.length_map, splitL_length] at h2
      have h3 := count_size s 59
      exact Nat.le_trans (pairs_len _) (by omega)
    generalize (listF (pieces 44 s)).1 = L at *
    generalize (listF (pieces 44 s)).2 = B at *
    generalize pairsF (pieces 59 s) = P at *
    generalize (⟨(trimL s.data.toList).toArray⟩ : ByteArray) = T at *
    generalize (⟨(lowL s.data.toList).toArray⟩ : ByteArray) = U at *
    generalize nameL s.data.toList = Nm at *
    have hst := SameTexts_f L (by omega) 0
    have hbb : (B != B) = false := by cases B <;> rfl
    have hU := bytes_beq U
    have hT := bytes_beq T
    go_enter Tryd.func3, Tryd.ntmps3
    go_wp2_with (go_at_call 18; refine (hL1 _).mono ?_; rintro e w1 ⟨v1, rfl, ho1, hb1⟩)
    go_wp2_with fail
    refine (hL2 _).mono ?_
    rintro e w2 ⟨v2, rfl, hR2, hb2⟩
    clear hL1 hL2
    obtain ⟨A2, c2, rfl, hc2, hC2⟩ := Kd.R_reads hR2
    clear hR2
    obtain ⟨oa1, c1, rfl, hoa1⟩ := slice_of ho1
    have HO1 := Lib.hid ho1
    have HC2 := Lib.hid hC2
    have HB1 := Lib.hid hb1
    have HB2 := Lib.hid hb2
    have z1 := hb1.size
    have z2 := hb2.size
    clear ho1 hC2 hb1 hb2 hoa1
    go_wp2_with fail
    refine (hP1 _).mono ?_
    rintro e w3 ⟨v3, rfl, ho3, hb3⟩
    obtain ⟨oa3, c3, rfl, hoa3⟩ := slice_of ho3
    have HO3 := Lib.hid ho3
    have HB3 := Lib.hid hb3
    have G3 := Lib.hid hoa3
    have z3 := hb3.size
    clear ho3 hb3 hP1 hoa3
    go_wp2_with fail
    refine (hP2 _).mono ?_
    rintro e w4 ⟨v4, rfl, ho4, hb4⟩
    obtain ⟨oa4, c4, rfl, hoa4⟩ := slice_of ho4
    have HO4 := Lib.hid ho4
    have HB4 := Lib.hid hb4
    have G4 := Lib.hid hoa4
    have z4 := hb4.size
    clear ho4 hb4 hP2 hoa4
    have B24 := HB3.out.trans (HB4.out.mono z3)
    have B14 := HB2.out.trans (B24.mono z2)
    have hO1 := ownsRow_below HO1.out B14
    obtain ⟨_, hk1, hC1⟩ := Kd.R_reads' (Kd.R_of_own (enc := Value.string) (h1 := fun _ => rfl) (ok := fun _ => True) hO1 (fun _ _ => trivial))
    have hC2 := Kd.C_below HC2.out B24
    have HO14 := Lib.hid hO1
    have HB14 := Lib.hid B14
    clear hO1 B14 B24
    go_wp2_with fail
    refine (BF.moatlaw0_SameTexts.calls _ oa1 c1 L A2 c2 L true _ hC1 hk1 hC2 hc2 hst).mono ?_
    rintro e w5 ⟨rfl, hd5⟩
    have HB5 := Lib.hid hd5.below
    have z5 := HB5.out.size
    clear hd5 hC1 hC2 hst
    have hpp : ((P.length : Int) != (P.length : Int)) = false := by simp
    go_wp2_with fail
    go_loopg [9] P.length (fun gk v9 wr => ∃ i : Nat, v9 = .int .i64 i ∧ i + gk = P.length ∧ Aside0 (Below w5.heap.size w5 wr))
    case atStart => exact ⟨0, rfl, by omega, ⟨Below.refl _ _⟩⟩
    case round =>
      obtain ⟨i, rfl, hik, hBx⟩ := hrel
      by_cases hi : i < P.length
      · have hi1 : (i : Int) < (P.length : Int) := by omega
        obtain ⟨b3, rfl⟩ := G3.out (by omega)
        obtain ⟨b4, rfl⟩ := G4.out (by omega)
        obtain ⟨p, hp⟩ : ∃ p, P[i]? = some p := ⟨_, List.getElem?_eq_getElem hi⟩
        obtain ⟨x1, x2⟩ := pair_flat P i p hp
        have b34 := HB4.out.trans ((HB5.out.trans (hBx.out.mono z5)).mono z4)
        have b45 := HB5.out.trans (hBx.out.mono z5)
        have q1 := (ownsRow_below HO3.out b34).cellAt (i * 2) (by omega)
        have q2 := (ownsRow_below HO3.out b34).cellAt (i * 2 + 1) (by omega)
        have q3 := (ownsRow_below HO4.out b45).cellAt (i * 2) (by omega)
        have q4 := (ownsRow_below HO4.out b45).cellAt (i * 2 + 1) (by omega)
        rw [x1] at q1 q3
        rw [x2] at q2 q4
        have hsame := eq_pair_same p.1 p.2
        clear x1 x2 hp b34 b45
        go_wp2_with fail
        go_quiet (fail)
        go_wp2_with fail
        go_roundg (gk - 1)
        case measure => omega
        case rel => exact ⟨i + 1, rfl, by omega, ⟨pw_below_drewN hBx.out _⟩⟩
      · have b45 := HB5.out.trans (hBx.out.mono z5)
        have hwz := hBx.out.size
        have HOr := Lib.hid (ownsRow_below HO14.out b45)
        have HBr := Lib.hid (HB1.out.trans ((HB14.out.trans (b45.mono (by omega))).mono z1))
        clear b45
        go_wp2_with fail
        refine (OverTexts_calls w.heap.size _ L _ HOr.out (by omega) (by omega)).mono ?_
        rintro e w6 ⟨rfl, hg6⟩
        have hb6 : Below w.heap.size w w6 := HBr.out.grown hg6 (by omega) (fun r e => own_base HOr.out r e)
        clear hg6
        have HB6 := Lib.hid hb6
        have z6 := hb6.size
        clear hb6
        go_wp2_with fail
        refine (hN1 _).mono ?_
        rintro e w7 ⟨rfl, hd7⟩
        have HB7 := Lib.hid (HB6.out.trans (hd7.below.mono z6))
        have z7 := HB7.out.size
        clear hd7 hN1
        go_wp2_with fail
        refine (hN2 _).mono ?_
        rintro e w8 ⟨rfl, hd8⟩
        have HB8 := Lib.hid (HB7.out.trans (hd8.below.mono z7))
        have z8 := HB8.out.size
        clear hd8 hN2
        have hnn : (Nm == Nm) = true := by cases Nm <;> rfl
        go_wp2_with fail
        refine (hW1 _).mono ?_
        rintro e w9 ⟨rfl, hb9⟩
        have HB9 := Lib.hid (HB8.out.trans (hb9.mono z8))
        have z9 := HB9.out.size
        clear hb9 hW1
        go_wp2_with fail
        refine (hW2 _).mono ?_
        rintro e w10 ⟨rfl, hb10⟩
        have HB10 := Lib.hid (HB9.out.trans (hb10.mono z9))
        have z10 := HB10.out.size
        clear hb10 hW2
        go_wp2_with fail
        refine (hT1 _).mono ?_
        rintro e w11 ⟨rfl, hb11⟩
        have HB11 := Lib.hid (HB10.out.trans (hb11.mono z10))
        have z11 := HB11.out.size
        clear hb11 hT1
        go_wp2_with fail
        refine (hT2 _).mono ?_
        rintro e w12 ⟨rfl, hd12⟩
        have HB12 := Lib.hid (HB11.out.trans (hd12.below.mono z11))
        have z12 := HB12.out.size
        clear hd12 hT2
        go_wp2_with fail
        refine (awake3_calls _).mono ?_
        rintro e w13 ⟨rfl, hb13⟩
        go_wp2
        go_ret
        exact ⟨rfl, HB12.out.trans (hb13.mono z12)⟩
end Go.Proofs.YtfmppmabnpkooaaDoor
