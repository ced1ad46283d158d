/- fold[*tree]: the walk. -/
import Derived.Test.YtmelefiodhnlpaaTree
set_option linter.unusedSimpArgs false
set_option linter.unusedVariables false
namespace Go.Proofs.Ytmelefiodhnlpaa
open Go Go.RowKit Go.Proofs.YtmelefiodhnlpaaW.PrintWords Go.Proofs.YtmelefiodhnlpaaW.PrintLast Go.Proofs.YtmelefiodhnlpaaW.PrintMore

def treeD (p : Int × Int) (xs : List Tr) : Tr := .node p.1 p.2 xs
def treeZ : Tr := .node 0 0 []
theorem own_any (oa : Option Addr) (n n' c c' : Nat) : (Value.slice oa n c).ownBlock = (Value.slice oa n' c').ownBlock := by
  cases oa with
  | none => rfl
  | some ad => rfl
set_option maxRecDepth 100000 in
set_option maxHeartbeats 4000000 in
theorem FoldTree_calls (A : Option Addr) (c : Nat) (f : List (Int × Int)) (w : World) (hC : Kd.C partK w A f.length f) (hf : f.length ≤ 1000) :
    Calls Try.prog 18 #[.slice A f.length c, .func (.func 19) #[] #[]] w fun e w' => ∃ q, e = .returned (.tuple #[.pointer q, .bool (foldL treeZ treeD f).2]) ∧ (((foldL treeZ treeD f).2 = true → TreeAt w' (fun _ => True) q (foldL treeZ treeD f).1) ∧ Below w.heap.size w w') := by
  obtain ⟨i0, hi0, hz0, hz1, hz2⟩ := info_parts (show (Try.prog.info? 56).map (fun i => (i.zero, i.size, i.bytes)) = some (some (.pointer none), 1, 8) by kernel_rfl)
  have HC := Lib.hid hC
  clear hC
  go_enter Try.func18, Try.ntmps18
  go_wp2_with fail
  go_loopg [6, 14] f.length (fun gk v6 v14 wr => ∃ (i : Nat) (st : List Tr) (ps : List (Option Addr)), v14 = .int .i64 i ∧ i + gk = f.length ∧ Aside0 (runL treeD (f.take i) [] = some st) ∧ Aside0 (wr.ownsRow w.heap.size 56 1 v6 ps.length (encs Value.pointer ps)) ∧ Aside0 (Below w.heap.size w wr) ∧ Aside0 (Pts wr (fun k => v6.ownBlock ≠ some k) ps st))
  case atStart => exact ⟨0, [], [], rfl, by omega, ⟨rfl⟩, ⟨World.ownsRow_nil _ _ _ _⟩, ⟨Below.refl _ _⟩, ⟨⟨rfl, fun i p x h => by cases h⟩⟩⟩
  case round =>
    obtain ⟨i, st, ps, rfl, hik, hrun, hO, hB, hP⟩ := hrel
    have HPS := Lib.hid hP.out.1
    have hsl := runL_len treeD _ _ _ hrun.out
    rw [List.length_take] at hsl
    simp only [List.length_nil, Nat.zero_add] at hsl
    have hpl : ps.length ≤ i := by have := HPS.out; omega
    obtain ⟨oa, c6, rfl, hoa⟩ := slice_cap hO.out
    by_cases hi : i < f.length
    · obtain ⟨p, hp⟩ : ∃ p, f[i]? = some p := ⟨f[i], List.getElem?_eq_getElem hi⟩
      obtain ⟨ad, rfl, q1, q2⟩ := part_at (Kd.C_below HC.out hB.out) i p hp
      rw [add_field _ _ 1 (by omega)] at q2
      have HTK := Lib.hid (show f.take (i + 1) = f.take i ++ [p] by rw [List.take_add_one, hp]; rfl)
      have HDR := Lib.hid (show f = f.take i ++ (p :: f.drop (i + 1)) by
        have h1 := List.take_append_drop i f
        rw [List.drop_eq_getElem_cons hi] at h1
        rw [List.getElem?_eq_getElem hi] at hp
        cases hp
        exact h1.symm)
      have hbd := takesL_bd p.1
      have hi1 : (i : Int) < (f.length : Int) := by omega
      obtain ⟨tk, htk⟩ : ∃ tk, takesL p.1 = tk := ⟨_, rfl⟩
      have htc := fun w => takes_calls p.1 w
      rw [htk] at htc hbd
      have HTKL := Lib.hid htk
      clear htk hp
      go_upto_region 6 with (fail)
      obtain ⟨W0, hW0⟩ : ∃ W0, wr.alloc (.cells #[.int .i64 p.1, .int .i64 p.2] 32) = W0 := ⟨_, rfl⟩
      have hb0 : Below wr.heap.size wr W0 := by rw [← hW0]; exact (Below.refl _ wr).alloc (Nat.le_refl _) _
      have hk0 : W0.heap[wr.heap.size]? = some (.cells #[.int .i64 p.1, .int .i64 p.2] 32 (0, 0)) := by rw [← hW0]; exact heap_alloc_new wr _
      have hs0 : W0.heap.size = wr.heap.size + 1 := by rw [← hW0]; simp
      rw [hW0]
      clear hW0 q1 q2
      have e1 : W0.cell? ⟨wr.heap.size, 0, none⟩ = some (.int .i64 p.1) := by simp [World.cell?, hk0]
      have HK0 := Lib.hid hk0
      have HB0 := Lib.hid hb0
      clear hk0 hb0
      have hwz := hB.out.size
      have fail_ : ∀ s, stepL treeD st p = none → s = foldL treeZ treeD f → s = (treeZ, false) := fun s hs hsf => by
        rw [hsf]
        unfold foldL
        rw [HDR.out, runL_append, hrun.out]
        simp only [Option.bind_some, runL, hs, Option.bind_none]
      have HFAIL := Lib.hid fail_
      clear fail_
      by_cases hneg : tk < 0
      · have HS : Hid (stepL treeD st p = none) := Lib.hid (by unfold stepL; rw [if_pos (.inl (by rw [HTKL.out]; exact hneg))])
        go_wp2_with (go_at_call 16; refine (htc _).mono ?_; rintro e w1 ⟨rfl, rfl⟩)
        go_ret2
        exact ⟨none, by rw [HFAIL.out _ HS.out rfl]; rfl, by rw [HFAIL.out _ HS.out rfl]; exact fun h => (by cases h), hB.out.trans (HB0.out.mono hwz)⟩
      · by_cases hgt : (ps.length : Int) < tk
        · have HS : Hid (stepL treeD st p = none) := Lib.hid (by unfold stepL; rw [if_pos (.inr (by rw [HTKL.out]; have hps := HPS.out; omega))])
          go_wp2_with (go_at_call 16; refine (htc _).mono ?_; rintro e w1 ⟨rfl, rfl⟩)
          go_ret2
          exact ⟨none, by rw [HFAIL.out _ HS.out rfl]; rfl, by rw [HFAIL.out _ HS.out rfl]; exact fun h => (by cases h), hB.out.trans (HB0.out.mono hwz)⟩
        · obtain ⟨nn, rfl⟩ : ∃ nn : Nat, tk = (nn : Int) := ⟨tk.toNat, by omega⟩
          have HS : Hid (stepL treeD st p = some (st.take (st.length - nn) ++ [treeD p (st.drop (st.length - nn))])) := Lib.hid (by unfold stepL; rw [if_neg (by rw [HTKL.out]; have hps := HPS.out; omega), HTKL.out]; rfl)
          have hnn : nn ≤ ps.length := by omega
          have hps := HPS.out
          obtain ⟨A1, hcut1, hread1⟩ := print_cut_of (P := Try.prog) Value.pointer none 59 56 .i64 Try.underlying59 hi0 hz1 oa ps.length c6 (ps.length - nn) (by omega)
          rw [show ps.length - (ps.length - nn) = nn by omega] at hcut1 hread1
          have hcut2 := cut_to (P := Try.prog) 59 56 .i64 Try.underlying59 hi0 oa ps.length c6 ((ps.length - nn : Nat) : Int) (by omega) (by omega) hoa
          rw [Int.toNat_natCast] at hcut2
          have hsub : IntKind.i64.wrap ((ps.length : Int) - (nn : Int)) = ((ps.length - nn : Nat) : Int) := by rw [IntKind.wrap_i64]; omega
          have hO0 := ownsRow_below' hO.out HB0.out
          have hC0 : Kd.C ptrK W0 oa ps.length ps := by
            obtain ⟨A9, c9, h9, hr9⟩ := own_reads_of (d := none) hO0
            cases h9
            exact Kd.C_of_reads hr9
          have HREAD : Hid (∀ w', Kd.C ptrK w' oa ps.length ps → Kd.C ptrK w' A1 (ps.drop (ps.length - nn)).length (ps.drop (ps.length - nn))) := Lib.hid (fun w' h => by
            have h2 := hread1 w' ps hoa (reads_of_C h)
            rw [List.length_drop, show ps.length - (ps.length - nn) = nn by omega]
            exact Kd.C_of_reads h2)
          have hlen : (ps.drop (ps.length - nn)).length = nn := by rw [List.length_drop]; omega
          rw [hlen] at HREAD
          have hPD : Hid (∀ w', Pts w' (fun k => (Value.slice oa ps.length c6).ownBlock ≠ some k) ps st → Pts w' (fun k => (Value.slice oa ps.length c6).ownBlock ≠ some k) (ps.drop (ps.length - nn)) (st.drop (st.length - nn))) := Lib.hid (fun w' h => ⟨by rw [List.length_drop, List.length_drop, h.1], fun i p x h1 h2 => by
            rw [List.getElem?_drop] at h1 h2
            rw [HPS.out] at h1
            exact h.2 _ p x h1 h2⟩)
          have HLEN := Lib.hid hlen
          have HDN : Hid (∀ w', Below w.heap.size w w' → Kd.C ptrK w' A1 nn (ps.drop (ps.length - nn)) → Pts w' (fun k => (Value.slice oa ps.length c6).ownBlock ≠ some k) ps st → wr.heap.size ≤ w'.heap.size → Calls Try.prog 19 #[.agg #[.int .i64 p.1, .int .i64 p.2], .slice A1 nn (c6 - (ps.length - nn))] w' fun e w'' => ∃ q, e = .returned (.pointer q) ∧ (TreeAt w'' (fun k => (Value.slice oa ps.length c6).ownBlock ≠ some k) q (treeD p (st.drop (st.length - nn))) ∧ Below w'.heap.size w' w'')) := Lib.hid (fun w' h1 h2 h3 h4 => by
            have h := Text1_calls p.1 p.2 A1 (c6 - (ps.length - nn)) (ps.drop (ps.length - nn)) (st.drop (st.length - nn)) w' (by rw [hlen]; exact h2) _ (fun k hk e => by have := own_lt hO.out k e; omega) (hPD.out w' h3) (by rw [hlen]; omega)
            rw [hlen] at h
            exact h)
          have HC0 := Lib.hid hC0
          have HO0 := Lib.hid hO0
          clear hlen
          clear hread1 hC0 hO0
          clear hps
          go_upto_region 9 with (go_at_call 16; refine (htc _).mono ?_; rintro e w1 ⟨rfl, rfl⟩)
          refine region_plan (tk := false) (m := 10) (by kernel_rfl) (by kernel_rfl) (fun W hW => ?_)
          have hWW : Below W0.heap.size W0 W := by rw [hW]; exact below_drew1 (Below.refl _ _)
          have HKW := fun w' (hb : Below W.heap.size W w') => show w'.cell? ⟨wr.heap.size, 0, none⟩ = some (.int .i64 p.1) ∧ w'.cell? ⟨wr.heap.size, 1, none⟩ = some (.int .i64 p.2) by
            have h1 := ((hWW.trans (hb.mono hWW.size)).block wr.heap.size (by omega)).trans HK0.out
            constructor <;> simp [World.cell?, h1]
          have HPW := Lib.hid ((hP.out.later HB0.out).later hWW)
          have HCW := Kd.C_below HC0.out hWW
          have HBW := Lib.hid (hB.out.trans ((HB0.out.trans (hWW.mono (by omega))).mono hwz))
          have HEND := Lib.hid hWW
          have hzW := HBW.out.size
          clear hW hWW e1
          refine plan_fix (N := some 30) (v := ?_) (a' := ?_) rfl rfl (fun u w' hBr hvr => step_val (by rfl) ?_ ⟨rfl, Below.refl _ _⟩) ?_ ?_
          rotate_left 2
          · go_simp
            with_reducible rfl
          · intro u
            simp only [Act.put, List.setIfInBounds_toArray, List.set_cons_zero, List.set_cons_succ]
            rfl
          refine plan_fix (N := some 31) (v := ?_) (a' := ?_) rfl rfl (fun u w' hBr hvr => step_val (by rfl) ?_ ⟨rfl, Below.refl _ _⟩) ?_ ?_
          rotate_left 2
          · obtain ⟨k0, k1⟩ := HKW w' hBr
            go_simp
            with_reducible rfl
          · intro u
            simp only [Act.put, List.setIfInBounds_toArray, List.set_cons_zero, List.set_cons_succ]
            rfl
          refine plan_fix (N := some 32) (v := ?_) (a' := ?_) rfl rfl (fun u w' hBr hvr => step_val (by rfl) ?_ ⟨rfl, Below.refl _ _⟩) ?_ ?_
          rotate_left 2
          · go_simp
            with_reducible rfl
          · intro u
            simp only [Act.put, List.setIfInBounds_toArray, List.set_cons_zero, List.set_cons_succ]
            rfl
          refine plan_fix (N := some 33) (v := ?_) (a' := ?_) rfl rfl (fun u w' hBr hvr => step_val (by rfl) ?_ ⟨rfl, Below.refl _ _⟩) ?_ ?_
          rotate_left 2
          · go_simp
            with_reducible rfl
          · intro u
            simp only [Act.put, List.setIfInBounds_toArray, List.set_cons_zero, List.set_cons_succ]
            rfl
          refine plan_fix (N := some 34) (v := ?_) (a' := ?_) rfl rfl (fun u w' hBr hvr => step_val (by rfl) ?_ ⟨rfl, Below.refl _ _⟩) ?_ ?_
          rotate_left 2
          · go_simp
            with_reducible rfl
          · intro u
            simp only [Act.put, List.setIfInBounds_toArray, List.set_cons_zero, List.set_cons_succ]
            rfl
          refine plan_fix (N := some 35) (v := ?_) (a' := ?_) rfl rfl (fun u w' hBr hvr => step_val (by rfl) ?_ ⟨rfl, Below.refl _ _⟩) ?_ ?_
          rotate_left 2
          · go_simp
            with_reducible rfl
          · intro u
            simp only [Act.put, List.setIfInBounds_toArray, List.set_cons_zero, List.set_cons_succ]
            rfl
          refine plan_fix (N := some 36) (v := ?_) (a' := ?_) rfl rfl (fun u w' hBr hvr => step_val (by rfl) ?_ ⟨rfl, Below.refl _ _⟩) ?_ ?_
          rotate_left 2
          · go_simp
            with_reducible rfl
          · intro u
            simp only [Act.put, List.setIfInBounds_toArray, List.set_cons_zero, List.set_cons_succ]
            rfl
          refine plan_fix (N := some 37) (v := ?_) (a' := ?_) rfl rfl (fun u w' hBr hvr => step_val (by rfl) ?_ ⟨rfl, Below.refl _ _⟩) ?_ ?_
          rotate_left 2
          · go_simp
            with_reducible rfl
          · intro u
            simp only [Act.put, List.setIfInBounds_toArray, List.set_cons_zero, List.set_cons_succ]
            rfl
          refine plan_new (N := some 38) (V := fun x w => ∃ q, x = .pointer q ∧ TreeAt w (fun k => (Value.slice oa ps.length c6).ownBlock ≠ some k) q (treeD p (st.drop (st.length - nn)))) (a' := ?_) rfl rfl (stable_below (fun u w w' h hb => by obtain ⟨q, h1, h2⟩ := h; exact ⟨q, h1, h2.later hb⟩)) (fun u w' hBr hvr => step_callv (w := w') Try.func19 (by kernel_rfl) rfl #[.agg #[.int .i64 p.1, .int .i64 p.2], .slice A1 nn (c6 - (ps.length - nn))] #[] (by rfl) rfl (by rfl) (by (try simp only [List.map_toArray, List.map_cons, List.map_nil]); first | done | rfl) ?_) ?_ ?_
          rotate_left
          · refine (HDN.out w' (HBW.out.trans (hBr.mono hzW)) (HREAD.out w' (Kd.C_below HCW hBr)) (HPW.out.later hBr) (by have := hBr.size; have := HEND.out.size; omega)).mono ?_
            · rintro e w'' ⟨q, rfl, hT, hbn⟩
              exact ⟨_, rfl, ⟨q, rfl, hT⟩, hbn, fun r e => by cases e⟩
          · intro u
            simp only [Act.put, List.setIfInBounds_toArray, List.set_cons_zero, List.set_cons_succ]
            rfl
          refine plan_new (N := some 11) (V := fun x w => ∃ q, x = .pointer q ∧ TreeAt w (fun k => (Value.slice oa ps.length c6).ownBlock ≠ some k) q (treeD p (st.drop (st.length - nn)))) (a' := ?_) rfl rfl (stable_below (fun u w w' h hb => by obtain ⟨q, h1, h2⟩ := h; exact ⟨q, h1, h2.later hb⟩)) (fun u w' hBr hvr => ?_) ?_ ?_
          rotate_left
          · obtain ⟨⟨q, hu, hT⟩, _⟩ := hvr _ List.mem_cons_self (by kernel_rfl)
            refine step_val (x := .pointer q) (w' := w') (by rfl) ?_ ⟨⟨q, rfl, hT⟩, Below.refl _ _, fun r e => by cases e⟩
            simp only at hu
            go_simp
          · intro u
            simp only [Act.put, List.setIfInBounds_toArray, List.set_cons_zero, List.set_cons_succ]
            rfl
          refine plan_end rfl rfl (fun u wz hBz hv => ?_)
          obtain ⟨q, hq, hT⟩ := hv _ List.mem_cons_self
          clear hv
          generalize u 9 = xq at hq ⊢
          generalize u 8 = xq8
          subst hq
          have hbz : Below W0.heap.size W0 wz := HEND.out.trans (hBz.mono HEND.out.size)
          have HO1 := Lib.hid (own_take (ownsRow_below' HO0.out hbz) (m := ps.length - nn) (by omega))
          have HBZ := Lib.hid (hB.out.trans ((HB0.out.trans (hbz.mono (by omega))).mono hwz))
          have HPZ := Lib.hid ((hP.out.later HB0.out).later hbz)
          have HT := Lib.hid hT
          clear hT
          have hzz := HBZ.out.size
          clear hbz hBz
          go_wp2_with (at_builtin; refine wpList_append_own_at _ rfl _ _ 59 rfl w.heap.size 56 i0 (.pointer none) 1 8 Try.underlying59 hi0 hz0 hz1 hz2 rfl (by decide) _ _ _ rfl (HO1.out.alloc _) ⟨wz.heap.size, 0, none⟩ 1 1 [Value.pointer q] rfl rfl (cell_one_new _ _ _) (by simp [Value.oneCell']) (by unfold maxLen; omega) (by omega) (by simp; omega) ?_; intro v' w1 hown' hgrow _ hat)
          go_roundg (gk - 1)
          case measure => omega
          case rel =>
            have MV : ∀ k, k < wz.heap.size → (Value.slice oa ps.length c6).ownBlock ≠ some k → v'.ownBlock ≠ some k ∧ w1.heap[k]? = wz.heap[k]? := fun k h1 h2 => by
              refine ⟨fun e => ?_, (hgrow.block k (by simp; omega) (fun e => h2 ((own_any oa _ _ _ _).trans e.symm))).trans (((Below.refl _ wz).alloc (Nat.le_refl _) _).block k h1)⟩
              rcases hat with h | h
              · exact h2 ((own_any oa _ _ _ _).trans (h.symm.trans e))
              · rw [h] at e
                cases e
                rw [World.size_alloc] at h1
                omega
            refine ⟨i + 1, st.take (st.length - nn) ++ [treeD p (st.drop (st.length - nn))], ps.take (ps.length - nn) ++ [q], by go_num, by omega, ⟨?_⟩, ⟨?_⟩, ⟨?_⟩, ⟨?_⟩⟩
            · rw [HTK.out, runL_append, hrun.out]
              simp only [Option.bind_some, runL, HS.out]
            · have h := hown'
              have e1 : (ps.take (ps.length - nn) ++ [q]).length = ps.length - nn + 1 := by simp
              rw [e1]
              simpa [encs, List.map_take] using h
            · exact (HBZ.out.alloc (by omega) _).grown hgrow (by simp; omega) (fun r e => own_base HO1.out r e)
            · exact (HPZ.out.push HT.out (by have := HPS.out; omega)).move MV
    · have hall : f.take i = f := List.take_of_length_le (by omega)
      have hr : runL treeD f [] = some st := by have := hrun.out; rwa [hall] at this
      have HR := Lib.hid hr
      clear hr hall
      have hi2 : ¬ (i : Int) < (f.length : Int) := by omega
      by_cases h1 : ps.length = 1
      · obtain ⟨q, rfl⟩ : ∃ q, ps = [q] := by
          match ps, h1 with
          | [q], _ => exact ⟨q, rfl⟩
        obtain ⟨x, rfl⟩ : ∃ x, st = [x] := by
          match st, (show st.length = 1 from HPS.out.symm) with
          | [x], _ => exact ⟨x, rfl⟩
        have hT := Lib.hid ((hP.out.2 0 q x rfl rfl).move (ok' := fun _ => True) (fun k _ _ => ⟨trivial, rfl⟩))
        have hC0 : Kd.C ptrK wr oa 1 [q] := by
          obtain ⟨A9, c9, h9, hr9⟩ := own_reads_of (d := none) hO.out
          cases h9
          exact Kd.C_of_reads hr9
        obtain ⟨ad, rfl, hx⟩ := (reads_of_C (d := none) hC0).at_ 0 (by omega) (by omega)
        have hx' : wr.cell? ad = some (Value.pointer q) := by
          have e0 : ad.add 0 = ad := by simp [Addr.add]
          rw [← e0]; simpa [rdOf] using hx
        clear hx hC0
        go_wp2
        go_ret2
        exact ⟨q, by rw [fold_of HR.out]; rfl, by rw [fold_of HR.out]; exact fun _ => hT.out, hB.out⟩
      · have h1' : ((ps.length : Int) == 1) = false := beq_eq_false_iff_ne.2 (by omega)
        have HR2 : Hid (foldL treeZ treeD f = (treeZ, false)) := Lib.hid (fold_ne HR.out (by have hps := HPS.out; omega))
        go_wp2
        go_ret2
        exact ⟨none, by rw [HR2.out]; rfl, by rw [HR2.out]; exact fun h => (by cases h), hB.out⟩
end Go.Proofs.Ytmelefiodhnlpaa
