/- The package formula's fold, of numbers and of bools: the walks. -/
import Derived.Test.YtmelefiodhnlpaaForm
set_option linter.unusedSimpArgs false
set_option linter.unusedVariables false
namespace Go.Proofs.Ytmelefiodhnlpaa
open Go Go.RowKit Go.Proofs.YtmelefiodhnlpaaW.PrintWords Go.Proofs.YtmelefiodhnlpaaW.PrintLast Go.Proofs.YtmelefiodhnlpaaW.PrintMore
theorem ownsRow_below' {W W' : World} {base : Nat} {e : TypeId} {size : Nat} {v : Value} {k : Nat} {xs : List Value} (h : W.ownsRow base e size v k xs) (hb : Below W.heap.size W W') : W'.ownsRow base e size v k xs := pw_own_below h hb
theorem fold_ne {T : Type} {z : T} {d : Int × Int → List T → T} {f : List (Int × Int)} {st : List T} (h : runL d f [] = some st) (h1 : st.length ≠ 1) : foldL z d f = (z, false) := by
  unfold foldL
  rw [h]
  match st, h1 with
  | [], _ => rfl
  | [x], h => exact absurd rfl h
  | _ :: _ :: _, _ => rfl
theorem slice_cap {W : World} {base : Nat} {e : TypeId} {size : Nat} {v : Value} {n : Nat} {xs : List Value} (h : W.ownsRow base e size v n xs) : ∃ oa c, v = .slice oa n c ∧ n ≤ c := by
  rcases h.2 with ⟨rfl, rfl⟩ | ⟨g, cap, cur, rfl, _, _, h1, _⟩
  · exact ⟨_, _, rfl, Nat.le_refl _⟩
  · exact ⟨_, _, rfl, h1⟩
theorem reads_of_C {α : Type} {enc : α → Value} {d : α} {h1 : ∀ x, (enc x).oneCell' = true} {w : World} {A : Option Addr} {n : Nat} {xs : List α} (h : Kd.C (Kd.scalar enc h1) w A n xs) : ReadsOf enc d w A n xs := by
  obtain ⟨hl, hm, hc⟩ := h
  refine ⟨hl, hm, fun hn => ?_⟩
  obtain ⟨ad, e, hcell⟩ := hc hn
  refine ⟨ad, e, fun j hj => ?_⟩
  have hjl : j < xs.length := by omega
  obtain ⟨c, _, hk, hx⟩ := hcell j xs[j] (List.getElem?_eq_getElem hjl)
  have hk' : c = [enc xs[j]] := hk
  subst hk'
  have := hx 0 _ rfl
  rw [List.getD_eq_getElem?_getD, List.getElem?_eq_getElem hjl]
  simpa [Kd.scalar] using this

set_option maxRecDepth 100000 in
set_option maxHeartbeats 4000000 in
theorem FoldInt_calls (g : FuncId) (fn : Func) (hg : Try.prog.funcs[g]? = some fn) (hname : (fn.name == "runtime.NumGoroutine") = false) (hbody : fn.body.isSome = true) (cap : Array Value) (d : Int × Int → List Int → Int) (G : Int → Prop)
    (hG : ∀ f st, runL d f [] = some st → f.length ≤ 100000 → ∀ x ∈ st, G x) (A : Option Addr) (c : Nat) (f : List (Int × Int)) (w : World) (hC : Kd.C partK w A f.length f) (hf : f.length ≤ 100000)
    (hdo : ∀ (p : Int × Int) (A' : Option Addr) (c' : Nat) (xs : List Int) (W : World), Below w.heap.size w W → Kd.C (Kd.int .i64) W A' xs.length xs → (∀ x ∈ xs, G x) → xs.length = (takesL p.1).toNat → 0 ≤ takesL p.1 →
      Calls Try.prog g (#[.agg #[.int .i64 p.1, .int .i64 p.2], .slice A' xs.length c'] ++ cap) W fun e w' => e = .returned (Value.int .i64 (d p xs)) ∧ Below W.heap.size W w') :
    Calls Try.prog 8 #[.slice A f.length c, .func (.func g) #[] cap] w fun e w' => e = .returned (.tuple #[Value.int .i64 (foldL 0 d f).1, .bool (foldL 0 d f).2]) ∧ Below w.heap.size w w' := by
  obtain ⟨i0, hi0, hz0, hz1, hz2⟩ := info_parts (show (Try.prog.info? 3).map (fun i => (i.zero, i.size, i.bytes)) = some (some (.int .i64 0), 1, 8) by kernel_rfl)
  have HC := Lib.hid hC
  have HDO := Lib.hid hdo
  have HG := Lib.hid hG
  clear hC hdo hG
  go_enter Try.func8, Try.ntmps8
  go_wp2_with fail
  go_loopg [6, 14] f.length (fun gk v6 v14 wr => ∃ (i : Nat) (st : List Int), v14 = .int .i64 i ∧ i + gk = f.length ∧ Aside0 (runL d (f.take i) [] = some st) ∧ Aside0 (wr.ownsRow w.heap.size 3 1 v6 st.length (encs (Value.int .i64) st)) ∧ Aside0 (Below w.heap.size w wr))
  case atStart => exact ⟨0, [], rfl, by omega, ⟨rfl⟩, ⟨World.ownsRow_nil _ _ _ _⟩, ⟨Below.refl _ _⟩⟩
  case round =>
    obtain ⟨i, st, rfl, hik, hrun, hO, hB⟩ := hrel
    have hsl := runL_len d _ _ _ hrun.out
    rw [List.length_take] at hsl
    simp only [List.length_nil, Nat.zero_add] at hsl
    obtain ⟨oa, c6, rfl, hoa⟩ := slice_cap hO.out
    have HGS := Lib.hid (HG.out _ _ hrun.out (by rw [List.length_take]; omega))
    by_cases hi : i < f.length
    · obtain ⟨p, hp⟩ : ∃ p, f[i]? = some p := ⟨f[i], List.getElem?_eq_getElem hi⟩
      obtain ⟨ad, rfl, q1, q2⟩ := part_at (Kd.C_below HC.out hB.out) i p hp
      rw [add_field _ _ 1 (by omega)] at q2
      have HTK := Lib.hid (show f.take (i + 1) = f.take i ++ [p] by rw [List.take_add_one, hp]; rfl)
      have HDR := Lib.hid (show f = f.take i ++ (p :: f.drop (i + 1)) by
        have h1 := List.take_append_drop i f
        rw [List.drop_eq_getElem_cons hi] at h1
        rw [List.getElem?_eq_getElem hi] at hp
        cases hp
        exact h1.symm)
      have hbd := takesL_bd p.1
      have hi1 : (i : Int) < (f.length : Int) := by omega
      obtain ⟨tk, htk⟩ : ∃ tk, takesL p.1 = tk := ⟨_, rfl⟩
      have htc := fun w => takes_calls p.1 w
      rw [htk] at htc hbd
      have HTKL := Lib.hid htk
      clear htk hp
      go_upto_region 6 with (fail)
      obtain ⟨W0, hW0⟩ : ∃ W0, wr.alloc (.cells #[.int .i64 p.1, .int .i64 p.2] 32) = W0 := ⟨_, rfl⟩
      have hb0 : Below wr.heap.size wr W0 := by rw [← hW0]; exact (Below.refl _ wr).alloc (Nat.le_refl _) _
      have hk0 : W0.heap[wr.heap.size]? = some (.cells #[.int .i64 p.1, .int .i64 p.2] 32 (0, 0)) := by rw [← hW0]; exact heap_alloc_new wr _
      have hs0 : W0.heap.size = wr.heap.size + 1 := by rw [← hW0]; simp
      rw [hW0]
      clear hW0 q1 q2
      have e1 : W0.cell? ⟨wr.heap.size, 0, none⟩ = some (.int .i64 p.1) := by simp [World.cell?, hk0]
      have HK0 := Lib.hid hk0
      have HB0 := Lib.hid hb0
      clear hk0 hb0
      have hwz := hB.out.size
      have fail_ : ∀ s, stepL d st p = none → s = foldL 0 d f → s = (0, false) := fun s hs hsf => by
        rw [hsf]
        unfold foldL
        rw [HDR.out, runL_append, hrun.out]
        simp only [Option.bind_some, runL, hs, Option.bind_none]
      have HFAIL := Lib.hid fail_
      clear fail_
      by_cases hneg : tk < 0
      · have HS : Hid (stepL d st p = none) := Lib.hid (by unfold stepL; rw [if_pos (.inl (by rw [HTKL.out]; exact hneg))])
        go_wp2_with (go_at_call 16; refine (htc _).mono ?_; rintro e w1 ⟨rfl, rfl⟩)
        go_ret2
        exact ⟨by rw [HFAIL.out _ HS.out rfl]; rfl, hB.out.trans (HB0.out.mono hwz)⟩
      · by_cases hgt : (st.length : Int) < tk
        · have HS : Hid (stepL d st p = none) := Lib.hid (by unfold stepL; rw [if_pos (.inr (by rw [HTKL.out]; exact hgt))])
          go_wp2_with (go_at_call 16; refine (htc _).mono ?_; rintro e w1 ⟨rfl, rfl⟩)
          go_ret2
          exact ⟨by rw [HFAIL.out _ HS.out rfl]; rfl, hB.out.trans (HB0.out.mono hwz)⟩
        · obtain ⟨nn, rfl⟩ : ∃ nn : Nat, tk = (nn : Int) := ⟨tk.toNat, by omega⟩
          have HS : Hid (stepL d st p = some (st.take (st.length - nn) ++ [d p (st.drop (st.length - nn))])) := Lib.hid (by unfold stepL; rw [if_neg (by rw [HTKL.out]; omega), HTKL.out]; rfl)
          have hnn : nn ≤ st.length := by omega
          obtain ⟨A1, hcut1, hread1⟩ := print_cut_of (P := Try.prog) (Value.int .i64) 0 23 3 .i64 Try.underlying23 hi0 hz1 oa st.length c6 (st.length - nn) (by omega)
          rw [show st.length - (st.length - nn) = nn by omega] at hcut1 hread1
          have hcut2 := cut_to (P := Try.prog) 23 3 .i64 Try.underlying23 hi0 oa st.length c6 ((st.length - nn : Nat) : Int) (by omega) (by omega) hoa
          rw [Int.toNat_natCast] at hcut2
          have hsub : IntKind.i64.wrap ((st.length : Int) - (nn : Int)) = ((st.length - nn : Nat) : Int) := by rw [IntKind.wrap_i64]; omega
          have hO0 := ownsRow_below' hO.out HB0.out
          have hC0 : Kd.C (Kd.int .i64) W0 oa st.length st := by
            obtain ⟨A9, c9, h9, hr9⟩ := own_reads_of (d := 0) hO0
            cases h9
            exact Kd.C_of_reads hr9
          have HREAD : Hid (∀ w', Kd.C (Kd.int .i64) w' oa st.length st → Kd.C (Kd.int .i64) w' A1 (st.drop (st.length - nn)).length (st.drop (st.length - nn))) := Lib.hid (fun w' h => by
            have h2 := hread1 w' st hoa (reads_of_C h)
            rw [List.length_drop, show st.length - (st.length - nn) = nn by omega]
            exact Kd.C_of_reads h2)
          have hlen : (st.drop (st.length - nn)).length = nn := by rw [List.length_drop]; omega
          rw [hlen] at HREAD
          have HDN : Hid (∀ w', Below w.heap.size w w' → Kd.C (Kd.int .i64) w' A1 nn (st.drop (st.length - nn)) → Calls Try.prog g (#[.agg #[.int .i64 p.1, .int .i64 p.2], .slice A1 nn (c6 - (st.length - nn))] ++ cap) w' fun e w'' => e = .returned (Value.int .i64 (d p (st.drop (st.length - nn)))) ∧ Below w'.heap.size w' w'') := Lib.hid (fun w' h1 h2 => by
            have h := HDO.out p A1 (c6 - (st.length - nn)) (st.drop (st.length - nn)) w' h1 (by rw [hlen]; exact h2) (fun y hy => HGS.out y (List.mem_of_mem_drop hy)) (by rw [hlen, HTKL.out]; rfl) (by rw [HTKL.out]; omega)
            rw [hlen] at h
            exact h)
          have HC0 := Lib.hid hC0
          have HO0 := Lib.hid hO0
          clear hlen
          clear hread1 hC0 hO0
          go_upto_region 9 with (go_at_call 16; refine (htc _).mono ?_; rintro e w1 ⟨rfl, rfl⟩)
          refine region_plan (tk := false) (m := 10) (by kernel_rfl) (by kernel_rfl) (fun W hW => ?_)
          have hWW : Below W0.heap.size W0 W := by rw [hW]; exact below_drew1 (Below.refl _ _)
          have HKW := fun w' (hb : Below W.heap.size W w') => show w'.cell? ⟨wr.heap.size, 0, none⟩ = some (.int .i64 p.1) ∧ w'.cell? ⟨wr.heap.size, 1, none⟩ = some (.int .i64 p.2) by
            have h1 := ((hWW.trans (hb.mono hWW.size)).block wr.heap.size (by omega)).trans HK0.out
            constructor <;> simp [World.cell?, h1]
          have HCW := Kd.C_below HC0.out hWW
          have HBW := Lib.hid (hB.out.trans ((HB0.out.trans (hWW.mono (by omega))).mono hwz))
          have HEND := Lib.hid hWW
          have hzW := HBW.out.size
          clear hW hWW e1
          refine plan_fix (N := some 30) (v := ?_) (a' := ?_) rfl rfl (fun u w' hBr hvr => step_val (by rfl) ?_ ⟨rfl, Below.refl _ _⟩) ?_ ?_
          rotate_left 2
          · go_simp
            with_reducible rfl
          · intro u
            simp only [Act.put, List.setIfInBounds_toArray, List.set_cons_zero, List.set_cons_succ]
            rfl
          refine plan_fix (N := some 31) (v := ?_) (a' := ?_) rfl rfl (fun u w' hBr hvr => step_val (by rfl) ?_ ⟨rfl, Below.refl _ _⟩) ?_ ?_
          rotate_left 2
          · obtain ⟨k0, k1⟩ := HKW w' hBr
            go_simp
            with_reducible rfl
          · intro u
            simp only [Act.put, List.setIfInBounds_toArray, List.set_cons_zero, List.set_cons_succ]
            rfl
          refine plan_fix (N := some 32) (v := ?_) (a' := ?_) rfl rfl (fun u w' hBr hvr => step_val (by rfl) ?_ ⟨rfl, Below.refl _ _⟩) ?_ ?_
          rotate_left 2
          · go_simp
            with_reducible rfl
          · intro u
            simp only [Act.put, List.setIfInBounds_toArray, List.set_cons_zero, List.set_cons_succ]
            rfl
          refine plan_fix (N := some 33) (v := ?_) (a' := ?_) rfl rfl (fun u w' hBr hvr => step_val (by rfl) ?_ ⟨rfl, Below.refl _ _⟩) ?_ ?_
          rotate_left 2
          · go_simp
            with_reducible rfl
          · intro u
            simp only [Act.put, List.setIfInBounds_toArray, List.set_cons_zero, List.set_cons_succ]
            rfl
          refine plan_fix (N := some 34) (v := ?_) (a' := ?_) rfl rfl (fun u w' hBr hvr => step_val (by rfl) ?_ ⟨rfl, Below.refl _ _⟩) ?_ ?_
          rotate_left 2
          · go_simp
            with_reducible rfl
          · intro u
            simp only [Act.put, List.setIfInBounds_toArray, List.set_cons_zero, List.set_cons_succ]
            rfl
          refine plan_fix (N := some 35) (v := ?_) (a' := ?_) rfl rfl (fun u w' hBr hvr => step_val (by rfl) ?_ ⟨rfl, Below.refl _ _⟩) ?_ ?_
          rotate_left 2
          · go_simp
            with_reducible rfl
          · intro u
            simp only [Act.put, List.setIfInBounds_toArray, List.set_cons_zero, List.set_cons_succ]
            rfl
          refine plan_fix (N := some 36) (v := ?_) (a' := ?_) rfl rfl (fun u w' hBr hvr => step_val (by rfl) ?_ ⟨rfl, Below.refl _ _⟩) ?_ ?_
          rotate_left 2
          · go_simp
            with_reducible rfl
          · intro u
            simp only [Act.put, List.setIfInBounds_toArray, List.set_cons_zero, List.set_cons_succ]
            rfl
          refine plan_fix (N := some 37) (v := ?_) (a' := ?_) rfl rfl (fun u w' hBr hvr => step_val (by rfl) ?_ ⟨rfl, Below.refl _ _⟩) ?_ ?_
          rotate_left 2
          · go_simp
            with_reducible rfl
          · intro u
            simp only [Act.put, List.setIfInBounds_toArray, List.set_cons_zero, List.set_cons_succ]
            rfl
          refine plan_fix (N := some 38) (v := Value.int .i64 (d p (st.drop (st.length - nn)))) (a' := ?_) rfl rfl (fun u w' hBr hvr => step_callv (w := w') hg hname hbody #[.agg #[.int .i64 p.1, .int .i64 p.2], .slice A1 nn (c6 - (st.length - nn))] cap (by rfl) rfl (by rfl) (by (try simp only [List.map_toArray, List.map_cons, List.map_nil]); first | done | rfl) ?_) ?_ ?_
          rotate_left
          · refine (HDN.out w' (HBW.out.trans (hBr.mono hzW)) (HREAD.out w' (Kd.C_below HCW hBr))).mono ?_
            · rintro e w'' ⟨rfl, hbn⟩
              exact ⟨_, rfl, rfl, hbn⟩
          · intro u
            simp only [Act.put, List.setIfInBounds_toArray, List.set_cons_zero, List.set_cons_succ]
            rfl
          refine plan_fix (N := some 11) (v := ?_) (a' := ?_) rfl rfl (fun u w' hBr hvr => step_val (by rfl) ?_ ⟨rfl, Below.refl _ _⟩) ?_ ?_
          rotate_left 2
          · go_simp
            with_reducible rfl
          · intro u
            simp only [Act.put, List.setIfInBounds_toArray, List.set_cons_zero, List.set_cons_succ]
            rfl
          refine plan_end rfl rfl (fun u wz hBz _ => ?_)
          have hbz : Below W0.heap.size W0 wz := HEND.out.trans (hBz.mono HEND.out.size)
          have HO1 := Lib.hid (own_take (ownsRow_below' HO0.out hbz) (m := st.length - nn) (by omega))
          have HBZ := Lib.hid (hB.out.trans ((HB0.out.trans (hbz.mono (by omega))).mono hwz))
          have hzz := HBZ.out.size
          clear hbz hBz
          go_wp2_with (at_builtin; refine wpList_append_own _ rfl _ _ 23 rfl w.heap.size 3 i0 (.int .i64 0) 1 8 Try.underlying23 hi0 hz0 hz1 hz2 rfl (by decide) _ _ _ rfl (HO1.out.alloc _) ⟨wz.heap.size, 0, none⟩ 1 1 [Value.int .i64 (d p (st.drop (st.length - nn)))] rfl rfl (cell_one_new _ _ _) (by simp [Value.oneCell']) (by unfold maxLen; omega) (by omega) (by simp; omega) ?_; intro v' w1 hown' hgrow _)
          go_roundg (gk - 1)
          case measure => omega
          case rel =>
            refine ⟨i + 1, st.take (st.length - nn) ++ [d p (st.drop (st.length - nn))], by go_num, by omega, ⟨?_⟩, ⟨?_⟩, ⟨?_⟩⟩
            · rw [HTK.out, runL_append, hrun.out]
              simp only [Option.bind_some, runL, HS.out]
            · have h := hown'
              have e1 : (st.take (st.length - nn) ++ [d p (st.drop (st.length - nn))]).length = st.length - nn + 1 := by simp
              rw [e1]
              simpa [encs, List.map_take] using h
            · exact (HBZ.out.alloc (by omega) _).grown hgrow (by simp; omega) (fun r e => own_base HO1.out r e)
    · have hall : f.take i = f := List.take_of_length_le (by omega)
      have hr : runL d f [] = some st := by have := hrun.out; rwa [hall] at this
      have HR := Lib.hid hr
      clear hr hall
      have hi2 : ¬ (i : Int) < (f.length : Int) := by omega
      by_cases h1 : st.length = 1
      · obtain ⟨x, rfl⟩ : ∃ x, st = [x] := by
          match st, h1 with
          | [x], _ => exact ⟨x, rfl⟩
        have hC0 : Kd.C (Kd.int .i64) wr oa 1 [x] := by
          obtain ⟨A9, c9, h9, hr9⟩ := own_reads_of (d := 0) hO.out
          cases h9
          exact Kd.C_of_reads hr9
        obtain ⟨ad, rfl, hx⟩ := (reads_of_C (d := 0) hC0).at_ 0 (by omega) (by omega)
        have hx' : wr.cell? ad = some (Value.int .i64 x) := by
          have e0 : ad.add 0 = ad := by simp [Addr.add]
          rw [← e0]; simpa [rdOf] using hx
        clear hx hC0
        go_wp2
        go_ret2
        exact ⟨by rw [fold_of HR.out]; rfl, hB.out⟩
      · have h1' : ((st.length : Int) == 1) = false := beq_eq_false_iff_ne.2 (by omega)
        have HR2 : Hid (foldL 0 d f = (0, false)) := Lib.hid (fold_ne HR.out h1)
        go_wp2
        go_ret2
        exact ⟨by rw [HR2.out]; rfl, hB.out⟩

set_option maxRecDepth 100000 in
set_option maxHeartbeats 4000000 in
theorem FoldBool_calls (g : FuncId) (fn : Func) (hg : Try.prog.funcs[g]? = some fn) (hname : (fn.name == "runtime.NumGoroutine") = false) (hbody : fn.body.isSome = true) (cap : Array Value) (d : Int × Int → List Bool → Bool) (G : Bool → Prop)
    (hG : ∀ f st, runL d f [] = some st → f.length ≤ 100000 → ∀ x ∈ st, G x) (A : Option Addr) (c : Nat) (f : List (Int × Int)) (w : World) (hC : Kd.C partK w A f.length f) (hf : f.length ≤ 100000)
    (hdo : ∀ (p : Int × Int) (A' : Option Addr) (c' : Nat) (xs : List Bool) (W : World), Below w.heap.size w W → Kd.C (Kd.bool) W A' xs.length xs → (∀ x ∈ xs, G x) → xs.length = (takesL p.1).toNat → 0 ≤ takesL p.1 →
      Calls Try.prog g (#[.agg #[.int .i64 p.1, .int .i64 p.2], .slice A' xs.length c'] ++ cap) W fun e w' => e = .returned (Value.bool (d p xs)) ∧ Below W.heap.size W w') :
    Calls Try.prog 12 #[.slice A f.length c, .func (.func g) #[] cap] w fun e w' => e = .returned (.tuple #[Value.bool (foldL false d f).1, .bool (foldL false d f).2]) ∧ Below w.heap.size w w' := by
  obtain ⟨i0, hi0, hz0, hz1, hz2⟩ := info_parts (show (Try.prog.info? 4).map (fun i => (i.zero, i.size, i.bytes)) = some (some (.bool false), 1, 1) by kernel_rfl)
  have HC := Lib.hid hC
  have HDO := Lib.hid hdo
  have HG := Lib.hid hG
  clear hC hdo hG
  go_enter Try.func12, Try.ntmps12
  go_wp2_with fail
  go_loopg [6, 14] f.length (fun gk v6 v14 wr => ∃ (i : Nat) (st : List Bool), v14 = .int .i64 i ∧ i + gk = f.length ∧ Aside0 (runL d (f.take i) [] = some st) ∧ Aside0 (wr.ownsRow w.heap.size 4 1 v6 st.length (encs (Value.bool) st)) ∧ Aside0 (Below w.heap.size w wr))
  case atStart => exact ⟨0, [], rfl, by omega, ⟨rfl⟩, ⟨World.ownsRow_nil _ _ _ _⟩, ⟨Below.refl _ _⟩⟩
  case round =>
    obtain ⟨i, st, rfl, hik, hrun, hO, hB⟩ := hrel
    have hsl := runL_len d _ _ _ hrun.out
    rw [List.length_take] at hsl
    simp only [List.length_nil, Nat.zero_add] at hsl
    obtain ⟨oa, c6, rfl, hoa⟩ := slice_cap hO.out
    have HGS := Lib.hid (HG.out _ _ hrun.out (by rw [List.length_take]; omega))
    by_cases hi : i < f.length
    · obtain ⟨p, hp⟩ : ∃ p, f[i]? = some p := ⟨f[i], List.getElem?_eq_getElem hi⟩
      obtain ⟨ad, rfl, q1, q2⟩ := part_at (Kd.C_below HC.out hB.out) i p hp
      rw [add_field _ _ 1 (by omega)] at q2
      have HTK := Lib.hid (show f.take (i + 1) = f.take i ++ [p] by rw [List.take_add_one, hp]; rfl)
      have HDR := Lib.hid (show f = f.take i ++ (p :: f.drop (i + 1)) by
        have h1 := List.take_append_drop i f
        rw [List.drop_eq_getElem_cons hi] at h1
        rw [List.getElem?_eq_getElem hi] at hp
        cases hp
        exact h1.symm)
      have hbd := takesL_bd p.1
      have hi1 : (i : Int) < (f.length : Int) := by omega
      obtain ⟨tk, htk⟩ : ∃ tk, takesL p.1 = tk := ⟨_, rfl⟩
      have htc := fun w => takes_calls p.1 w
      rw [htk] at htc hbd
      have HTKL := Lib.hid htk
      clear htk hp
      go_upto_region 6 with (fail)
      obtain ⟨W0, hW0⟩ : ∃ W0, wr.alloc (.cells #[.int .i64 p.1, .int .i64 p.2] 32) = W0 := ⟨_, rfl⟩
      have hb0 : Below wr.heap.size wr W0 := by rw [← hW0]; exact (Below.refl _ wr).alloc (Nat.le_refl _) _
      have hk0 : W0.heap[wr.heap.size]? = some (.cells #[.int .i64 p.1, .int .i64 p.2] 32 (0, 0)) := by rw [← hW0]; exact heap_alloc_new wr _
      have hs0 : W0.heap.size = wr.heap.size + 1 := by rw [← hW0]; simp
      rw [hW0]
      clear hW0 q1 q2
      have e1 : W0.cell? ⟨wr.heap.size, 0, none⟩ = some (.int .i64 p.1) := by simp [World.cell?, hk0]
      have HK0 := Lib.hid hk0
      have HB0 := Lib.hid hb0
      clear hk0 hb0
      have hwz := hB.out.size
      have fail_ : ∀ s, stepL d st p = none → s = foldL false d f → s = (false, false) := fun s hs hsf => by
        rw [hsf]
        unfold foldL
        rw [HDR.out, runL_append, hrun.out]
        simp only [Option.bind_some, runL, hs, Option.bind_none]
      have HFAIL := Lib.hid fail_
      clear fail_
      by_cases hneg : tk < 0
      · have HS : Hid (stepL d st p = none) := Lib.hid (by unfold stepL; rw [if_pos (.inl (by rw [HTKL.out]; exact hneg))])
        go_wp2_with (go_at_call 16; refine (htc _).mono ?_; rintro e w1 ⟨rfl, rfl⟩)
        go_ret2
        exact ⟨by rw [HFAIL.out _ HS.out rfl]; rfl, hB.out.trans (HB0.out.mono hwz)⟩
      · by_cases hgt : (st.length : Int) < tk
        · have HS : Hid (stepL d st p = none) := Lib.hid (by unfold stepL; rw [if_pos (.inr (by rw [HTKL.out]; exact hgt))])
          go_wp2_with (go_at_call 16; refine (htc _).mono ?_; rintro e w1 ⟨rfl, rfl⟩)
          go_ret2
          exact ⟨by rw [HFAIL.out _ HS.out rfl]; rfl, hB.out.trans (HB0.out.mono hwz)⟩
        · obtain ⟨nn, rfl⟩ : ∃ nn : Nat, tk = (nn : Int) := ⟨tk.toNat, by omega⟩
          have HS : Hid (stepL d st p = some (st.take (st.length - nn) ++ [d p (st.drop (st.length - nn))])) := Lib.hid (by unfold stepL; rw [if_neg (by rw [HTKL.out]; omega), HTKL.out]; rfl)
          have hnn : nn ≤ st.length := by omega
          obtain ⟨A1, hcut1, hread1⟩ := print_cut_of (P := Try.prog) (Value.bool) false 24 4 .i64 Try.underlying24 hi0 hz1 oa st.length c6 (st.length - nn) (by omega)
          rw [show st.length - (st.length - nn) = nn by omega] at hcut1 hread1
          have hcut2 := cut_to (P := Try.prog) 24 4 .i64 Try.underlying24 hi0 oa st.length c6 ((st.length - nn : Nat) : Int) (by omega) (by omega) hoa
          rw [Int.toNat_natCast] at hcut2
          have hsub : IntKind.i64.wrap ((st.length : Int) - (nn : Int)) = ((st.length - nn : Nat) : Int) := by rw [IntKind.wrap_i64]; omega
          have hO0 := ownsRow_below' hO.out HB0.out
          have hC0 : Kd.C (Kd.bool) W0 oa st.length st := by
            obtain ⟨A9, c9, h9, hr9⟩ := own_reads_of (d := false) hO0
            cases h9
            exact Kd.C_of_reads hr9
          have HREAD : Hid (∀ w', Kd.C (Kd.bool) w' oa st.length st → Kd.C (Kd.bool) w' A1 (st.drop (st.length - nn)).length (st.drop (st.length - nn))) := Lib.hid (fun w' h => by
            have h2 := hread1 w' st hoa (reads_of_C h)
            rw [List.length_drop, show st.length - (st.length - nn) = nn by omega]
            exact Kd.C_of_reads h2)
          have hlen : (st.drop (st.length - nn)).length = nn := by rw [List.length_drop]; omega
          rw [hlen] at HREAD
          have HDN : Hid (∀ w', Below w.heap.size w w' → Kd.C (Kd.bool) w' A1 nn (st.drop (st.length - nn)) → Calls Try.prog g (#[.agg #[.int .i64 p.1, .int .i64 p.2], .slice A1 nn (c6 - (st.length - nn))] ++ cap) w' fun e w'' => e = .returned (Value.bool (d p (st.drop (st.length - nn)))) ∧ Below w'.heap.size w' w'') := Lib.hid (fun w' h1 h2 => by
            have h := HDO.out p A1 (c6 - (st.length - nn)) (st.drop (st.length - nn)) w' h1 (by rw [hlen]; exact h2) (fun y hy => HGS.out y (List.mem_of_mem_drop hy)) (by rw [hlen, HTKL.out]; rfl) (by rw [HTKL.out]; omega)
            rw [hlen] at h
            exact h)
          have HC0 := Lib.hid hC0
          have HO0 := Lib.hid hO0
          clear hlen
          clear hread1 hC0 hO0
          go_upto_region 9 with (go_at_call 16; refine (htc _).mono ?_; rintro e w1 ⟨rfl, rfl⟩)
          refine region_plan (tk := false) (m := 10) (by kernel_rfl) (by kernel_rfl) (fun W hW => ?_)
          have hWW : Below W0.heap.size W0 W := by rw [hW]; exact below_drew1 (Below.refl _ _)
          have HKW := fun w' (hb : Below W.heap.size W w') => show w'.cell? ⟨wr.heap.size, 0, none⟩ = some (.int .i64 p.1) ∧ w'.cell? ⟨wr.heap.size, 1, none⟩ = some (.int .i64 p.2) by
            have h1 := ((hWW.trans (hb.mono hWW.size)).block wr.heap.size (by omega)).trans HK0.out
            constructor <;> simp [World.cell?, h1]
          have HCW := Kd.C_below HC0.out hWW
          have HBW := Lib.hid (hB.out.trans ((HB0.out.trans (hWW.mono (by omega))).mono hwz))
          have HEND := Lib.hid hWW
          have hzW := HBW.out.size
          clear hW hWW e1
          refine plan_fix (N := some 30) (v := ?_) (a' := ?_) rfl rfl (fun u w' hBr hvr => step_val (by rfl) ?_ ⟨rfl, Below.refl _ _⟩) ?_ ?_
          rotate_left 2
          · go_simp
            with_reducible rfl
          · intro u
            simp only [Act.put, List.setIfInBounds_toArray, List.set_cons_zero, List.set_cons_succ]
            rfl
          refine plan_fix (N := some 31) (v := ?_) (a' := ?_) rfl rfl (fun u w' hBr hvr => step_val (by rfl) ?_ ⟨rfl, Below.refl _ _⟩) ?_ ?_
          rotate_left 2
          · obtain ⟨k0, k1⟩ := HKW w' hBr
            go_simp
            with_reducible rfl
          · intro u
            simp only [Act.put, List.setIfInBounds_toArray, List.set_cons_zero, List.set_cons_succ]
            rfl
          refine plan_fix (N := some 32) (v := ?_) (a' := ?_) rfl rfl (fun u w' hBr hvr => step_val (by rfl) ?_ ⟨rfl, Below.refl _ _⟩) ?_ ?_
          rotate_left 2
          · go_simp
            with_reducible rfl
          · intro u
            simp only [Act.put, List.setIfInBounds_toArray, List.set_cons_zero, List.set_cons_succ]
            rfl
          refine plan_fix (N := some 33) (v := ?_) (a' := ?_) rfl rfl (fun u w' hBr hvr => step_val (by rfl) ?_ ⟨rfl, Below.refl _ _⟩) ?_ ?_
          rotate_left 2
          · go_simp
            with_reducible rfl
          · intro u
            simp only [Act.put, List.setIfInBounds_toArray, List.set_cons_zero, List.set_cons_succ]
            rfl
          refine plan_fix (N := some 34) (v := ?_) (a' := ?_) rfl rfl (fun u w' hBr hvr => step_val (by rfl) ?_ ⟨rfl, Below.refl _ _⟩) ?_ ?_
          rotate_left 2
          · go_simp
            with_reducible rfl
          · intro u
            simp only [Act.put, List.setIfInBounds_toArray, List.set_cons_zero, List.set_cons_succ]
            rfl
          refine plan_fix (N := some 35) (v := ?_) (a' := ?_) rfl rfl (fun u w' hBr hvr => step_val (by rfl) ?_ ⟨rfl, Below.refl _ _⟩) ?_ ?_
          rotate_left 2
          · go_simp
            with_reducible rfl
          · intro u
            simp only [Act.put, List.setIfInBounds_toArray, List.set_cons_zero, List.set_cons_succ]
            rfl
          refine plan_fix (N := some 36) (v := ?_) (a' := ?_) rfl rfl (fun u w' hBr hvr => step_val (by rfl) ?_ ⟨rfl, Below.refl _ _⟩) ?_ ?_
          rotate_left 2
          · go_simp
            with_reducible rfl
          · intro u
            simp only [Act.put, List.setIfInBounds_toArray, List.set_cons_zero, List.set_cons_succ]
            rfl
          refine plan_fix (N := some 37) (v := ?_) (a' := ?_) rfl rfl (fun u w' hBr hvr => step_val (by rfl) ?_ ⟨rfl, Below.refl _ _⟩) ?_ ?_
          rotate_left 2
          · go_simp
            with_reducible rfl
          · intro u
            simp only [Act.put, List.setIfInBounds_toArray, List.set_cons_zero, List.set_cons_succ]
            rfl
          refine plan_fix (N := some 38) (v := Value.bool (d p (st.drop (st.length - nn)))) (a' := ?_) rfl rfl (fun u w' hBr hvr => step_callv (w := w') hg hname hbody #[.agg #[.int .i64 p.1, .int .i64 p.2], .slice A1 nn (c6 - (st.length - nn))] cap (by rfl) rfl (by rfl) (by (try simp only [List.map_toArray, List.map_cons, List.map_nil]); first | done | rfl) ?_) ?_ ?_
          rotate_left
          · refine (HDN.out w' (HBW.out.trans (hBr.mono hzW)) (HREAD.out w' (Kd.C_below HCW hBr))).mono ?_
            · rintro e w'' ⟨rfl, hbn⟩
              exact ⟨_, rfl, rfl, hbn⟩
          · intro u
            simp only [Act.put, List.setIfInBounds_toArray, List.set_cons_zero, List.set_cons_succ]
            rfl
          refine plan_fix (N := some 11) (v := ?_) (a' := ?_) rfl rfl (fun u w' hBr hvr => step_val (by rfl) ?_ ⟨rfl, Below.refl _ _⟩) ?_ ?_
          rotate_left 2
          · go_simp
            with_reducible rfl
          · intro u
            simp only [Act.put, List.setIfInBounds_toArray, List.set_cons_zero, List.set_cons_succ]
            rfl
          refine plan_end rfl rfl (fun u wz hBz _ => ?_)
          have hbz : Below W0.heap.size W0 wz := HEND.out.trans (hBz.mono HEND.out.size)
          have HO1 := Lib.hid (own_take (ownsRow_below' HO0.out hbz) (m := st.length - nn) (by omega))
          have HBZ := Lib.hid (hB.out.trans ((HB0.out.trans (hbz.mono (by omega))).mono hwz))
          have hzz := HBZ.out.size
          clear hbz hBz
          go_wp2_with (at_builtin; refine wpList_append_own _ rfl _ _ 24 rfl w.heap.size 4 i0 (.bool false) 1 1 Try.underlying24 hi0 hz0 hz1 hz2 rfl (by decide) _ _ _ rfl (HO1.out.alloc _) ⟨wz.heap.size, 0, none⟩ 1 1 [Value.bool (d p (st.drop (st.length - nn)))] rfl rfl (cell_one_new _ _ _) (by simp [Value.oneCell']) (by unfold maxLen; omega) (by omega) (by simp; omega) ?_; intro v' w1 hown' hgrow _)
          go_roundg (gk - 1)
          case measure => omega
          case rel =>
            refine ⟨i + 1, st.take (st.length - nn) ++ [d p (st.drop (st.length - nn))], by go_num, by omega, ⟨?_⟩, ⟨?_⟩, ⟨?_⟩⟩
            · rw [HTK.out, runL_append, hrun.out]
              simp only [Option.bind_some, runL, HS.out]
            · have h := hown'
              have e1 : (st.take (st.length - nn) ++ [d p (st.drop (st.length - nn))]).length = st.length - nn + 1 := by simp
              rw [e1]
              simpa [encs, List.map_take] using h
            · exact (HBZ.out.alloc (by omega) _).grown hgrow (by simp; omega) (fun r e => own_base HO1.out r e)
    · have hall : f.take i = f := List.take_of_length_le (by omega)
      have hr : runL d f [] = some st := by have := hrun.out; rwa [hall] at this
      have HR := Lib.hid hr
      clear hr hall
      have hi2 : ¬ (i : Int) < (f.length : Int) := by omega
      by_cases h1 : st.length = 1
      · obtain ⟨x, rfl⟩ : ∃ x, st = [x] := by
          match st, h1 with
          | [x], _ => exact ⟨x, rfl⟩
        have hC0 : Kd.C (Kd.bool) wr oa 1 [x] := by
          obtain ⟨A9, c9, h9, hr9⟩ := own_reads_of (d := false) hO.out
          cases h9
          exact Kd.C_of_reads hr9
        obtain ⟨ad, rfl, hx⟩ := (reads_of_C (d := false) hC0).at_ 0 (by omega) (by omega)
        have hx' : wr.cell? ad = some (Value.bool x) := by
          have e0 : ad.add 0 = ad := by simp [Addr.add]
          rw [← e0]; simpa [rdOf] using hx
        clear hx hC0
        go_wp2
        go_ret2
        exact ⟨by rw [fold_of HR.out]; rfl, hB.out⟩
      · have h1' : ((st.length : Int) == 1) = false := beq_eq_false_iff_ne.2 (by omega)
        have HR2 : Hid (foldL false d f = (false, false)) := Lib.hid (fold_ne HR.out h1)
        go_wp2
        go_ret2
        exact ⟨by rw [HR2.out]; rfl, hB.out⟩
end Go.Proofs.Ytmelefiodhnlpaa
