/- moatlaw15.FormulaTurns: the walk. -/
import Derived.Test.YtmelefiodhnlpaaParts
import Derived.Test.YtmelefiodhnlpaaAwake15
import Derived.Test.YtmelefiodhnlpaaPFormulaTurnsx1
import Derived.Test.YtmelefiodhnlpaaFold
set_option linter.unusedSimpArgs false
set_option linter.unusedVariables false
namespace Go.Proofs.Ytmelefiodhnlpaa
open Go Go.RowKit Go.Proofs Go.Proofs.YtmelefiodhnlpaaW.PrintWords Go.Proofs.YtmelefiodhnlpaaW.PrintLast Go.Proofs.YtmelefiodhnlpaaW.PrintMore

theorem Holds_f8 {P : Program} {fi : FuncId} {args : Array Value} {w : World} {x b : Bool} (e : x = b) (h : Calls P fi args w fun e w' => e = .returned (.bool x) ∧ Below w.heap.size w w') : Calls P fi args w fun e w' => e = .returned (.bool b) ∧ Below w.heap.size w w' := e ▸ h
theorem Deep_d {P : Program} {fi : FuncId} {args : Array Value} {w : World} {x b : Int} (e : x = b) (h : Calls P fi args w fun e w' => e = .returned (.int .i64 x) ∧ Below w.heap.size w w') : Calls P fi args w fun e w' => e = .returned (.int .i64 b) ∧ Below w.heap.size w w' := e ▸ h
theorem deep_bounds (f : List (Int × Int)) : 0 ≤ deepL f ∧ deepL f ≤ f.length := by
  unfold deepL foldL
  cases h : runL depthD f [] with
  | none => simp
  | some st =>
    have h2 := runL_deep f [] st 0 (by omega) h (by simp)
    match st with
    | [] => simp
    | [x] =>
      have := h2 x (by simp)
      show 0 ≤ x ∧ x ≤ _
      omega
    | _ :: _ :: _ => simp
theorem cells8 {w : World} {b : Nat} {e : TypeId} {x0 x1 x2 x3 x4 x5 x6 x7 : Value} (h : w.heap[b]? = some (.cells #[x0, x1, x2, x3, x4, x5, x6, x7] e (0, 0))) :
    w.cell? ⟨b, 0, none⟩ = some x0 ∧ w.cell? ⟨b, 1, none⟩ = some x1 ∧ w.cell? ⟨b, 2, none⟩ = some x2 ∧ w.cell? ⟨b, 3, none⟩ = some x3 ∧ w.cell? ⟨b, 4, none⟩ = some x4 ∧ w.cell? ⟨b, 5, none⟩ = some x5 ∧ w.cell? ⟨b, 6, none⟩ = some x6 ∧ w.cell? ⟨b, 7, none⟩ = some x7 := by
  refine ⟨?_, ?_, ?_, ?_, ?_, ?_, ?_, ?_⟩ <;> simp [World.cell?, h]
theorem cells222 {w : World} {b b' b'' : Nat} {e e' e'' : TypeId} {x0 x1 x2 x3 x4 x5 : Value} (h : w.heap[b]? = some (.cells #[x0, x1] e (0, 0))) (h' : w.heap[b']? = some (.cells #[x2, x3] e' (0, 0))) (h'' : w.heap[b'']? = some (.cells #[x4, x5] e'' (0, 0))) :
    w.cell? ⟨b, 0, none⟩ = some x0 ∧ w.cell? ⟨b, 1, none⟩ = some x1 ∧ w.cell? ⟨b', 0, none⟩ = some x2 ∧ w.cell? ⟨b', 1, none⟩ = some x3 ∧ w.cell? ⟨b'', 0, none⟩ = some x4 ∧ w.cell? ⟨b'', 1, none⟩ = some x5 := by
  refine ⟨?_, ?_, ?_, ?_, ?_, ?_⟩ <;> simp [World.cell?, h, h', h'']
set_option maxRecDepth 100000 in
set_option maxHeartbeats 8000000 in
theorem moatlaw15_FormulaTurns.walk (A0 : Option Addr) (c0 : Nat) (f : List (Int × Int)) (A1 : Option Addr) (c1 : Nat) (g : List (Int × Int)) (v0 v1 v2 v7 : Value) (A3 : Option Addr) (c3 : Nat) (ch : List Int) (A4 : Option Addr) (c4 : Nat) (kn : List Bool) (A5 : Option Addr) (c5 : Nat) (stl : List Bool) (A6 : Option Addr) (c6 : Nat) (rn : List Bool) (GS : Bool) (w : World)
    (hC0 : Kd.C partK w A0 f.length f) (hC1 : Kd.C partK w A1 g.length g) (h1 : v0.oneCell' = true) (h2 : v1.oneCell' = true) (h3 : v2.oneCell' = true) (h7 : v7.oneCell' = true)
    (hch : Kd.C (Kd.int .i64) w A3 ch.length ch) (hkn : Kd.C Kd.bool w A4 kn.length kn) (hst : Kd.C Kd.bool w A5 stl.length stl) (hrn : Kd.C Kd.bool w A6 rn.length rn)
    (hGS : ∀ w', Below w.heap.size w w' → Calls Try.prog 4 #[.agg #[v0, v1, v2, .slice A3 ch.length c3, .slice A4 kn.length c4, .slice A5 stl.length c5, .slice A6 rn.length c6, v7]] w' fun e w'' => e = .returned (.bool GS) ∧ Below w'.heap.size w' w'') :
    Calls Try.prog 3 #[.slice A0 f.length c0, .slice A1 g.length c1, .agg #[v0, v1, v2, .slice A3 ch.length c3, .slice A4 kn.length c4, .slice A5 stl.length c5, .slice A6 rn.length c6, v7]] w fun e w' => e = .returned (.bool true) ∧ Below w.heap.size w w' := by
  go_enter Try.func3, Try.ntmps3
  go_upto_region 1 with (fail)
  obtain ⟨W0, hW0⟩ : ∃ W0, w.alloc (.cells #[v0, v1, v2, .slice A3 ch.length c3, .slice A4 kn.length c4, .slice A5 stl.length c5, .slice A6 rn.length c6, v7] 27) = W0 := ⟨_, rfl⟩
  have h0 : Below w.heap.size w W0 := by rw [← hW0]; exact (Below.refl _ w).alloc (Nat.le_refl _) _
  have hbx : W0.heap[w.heap.size]? = some (.cells #[v0, v1, v2, .slice A3 ch.length c3, .slice A4 kn.length c4, .slice A5 stl.length c5, .slice A6 rn.length c6, v7] 27 (0, 0)) := by rw [← hW0]; exact heap_alloc_new w _
  have hs0 : W0.heap.size = w.heap.size + 1 := by rw [← hW0]; simp
  rw [hW0]
  clear hW0
  have HBX := Lib.hid hbx
  have H0 := Lib.hid h0
  have HF0 := Lib.hid (fun (w' : World) (hb : Below W0.heap.size W0 w') => Kd.C_below (Kd.C_below hC0 h0) hb)
  have HG0 := Lib.hid (fun (w' : World) (hb : Below W0.heap.size W0 w') => Kd.C_below (Kd.C_below hC1 h0) hb)
  have HGS := Lib.hid (fun (w' : World) (hb : Below W0.heap.size W0 w') => hGS w' (h0.trans (hb.mono h0.size)))
  have HHO := Lib.hid (fun (w' : World) (hb : Below W0.heap.size W0 w') (A : Option Addr) (c : Nat) (l : List (Int × Int)) (hC : Kd.C partK w' A l.length l) (hl : l.length ≤ 100000) =>
    Holds_calls (v0 := v0) (v1 := v1) (v2 := v2) (v7 := v7) (A3 := A3) (c3 := c3) (ch := ch) (A4 := A4) (c4 := c4) (kn := kn) (A5 := A5) (c5 := c5) (stl := stl) (A6 := A6) (c6 := c6) (rn := rn) A c l w' hC hl h1 h2 h3 h7
      (Kd.C_below (Kd.C_below hch h0) hb) (Kd.C_below (Kd.C_below hkn h0) hb) (Kd.C_below (Kd.C_below hst h0) hb) (Kd.C_below (Kd.C_below hrn h0) hb))
  clear hC0 hC1 hch hkn hst hrn hGS hbx h0
  have HKB := Lib.hid (fun (w' : World) (hb : Below W0.heap.size W0 w') => cells8 ((hb.block w.heap.size (by omega)).trans HBX.out))
  by_cases hf15 : 15 < f.length
  · have hf15' : (15 : Int) < (f.length : Int) := by omega
    go_wp2_with (go_at_call 6; refine (awake15_calls _).mono ?_; rintro e w5 ⟨rfl, hb5⟩)
    go_ret
    exact ⟨rfl, H0.out.trans (hb5.mono (by omega))⟩
  have hf15' : ¬ (15 : Int) < (f.length : Int) := by omega
  by_cases hg15 : 15 < g.length
  · have hg15' : (15 : Int) < (g.length : Int) := by omega
    go_wp2_with (go_at_call 6; refine (awake15_calls _).mono ?_; rintro e w5 ⟨rfl, hb5⟩)
    go_ret
    exact ⟨rfl, H0.out.trans (hb5.mono (by omega))⟩
  have hg15' : ¬ (15 : Int) < (g.length : Int) := by omega
  obtain ⟨k0, k1, k2, k3, k4, k5, k6, k7⟩ := HKB.out W0 (Below.refl _ _)
  cases GS with
  | true =>
    go_wp2_with (go_at_call 4; refine (HGS.out _ (Below.refl _ _)).mono ?_; rintro e w1 ⟨rfl, hb1⟩)
    refine (awake15_calls _).mono ?_
    rintro e w5 ⟨rfl, hb5⟩
    go_wp2
    go_ret
    exact ⟨rfl, H0.out.trans ((hb1.trans (hb5.mono hb1.size)).mono (by omega))⟩
  | false =>
  go_wp2_with (go_at_call 4; refine (HGS.out _ (Below.refl _ _)).mono ?_; rintro e w1 ⟨rfl, hb1⟩)
  clear k0 k1 k2 k3 k4 k5 k6 k7
  refine (Deep_calls A0 c0 f w1 (HF0.out w1 hb1) (by omega)).mono ?_
  rintro e w2 ⟨rfl, hb2⟩
  have hB2 := hb1.trans (hb2.mono hb1.size)
  by_cases hd : deepL f = 0
  · have hd' : (deepL f == 0) = true := by simp [hd]
    go_wp2_with fail
    refine (awake15_calls _).mono ?_
    rintro e w5 ⟨rfl, hb5⟩
    go_wp2
    go_ret
    exact ⟨rfl, H0.out.trans ((hB2.trans (hb5.mono hB2.size)).mono (by omega))⟩
  have hd' : (deepL f == 0) = false := by simp [hd]
  obtain ⟨df, hdf⟩ : ∃ df, deepL f = df := ⟨_, rfl⟩
  rw [hdf] at hd hd' ⊢
  go_wp2_with fail
  refine (Deep_calls A1 c1 g w2 (HG0.out w2 hB2) (by omega)).mono ?_
  rintro e w3 ⟨rfl, hb3⟩
  have hB3 := hB2.trans (hb3.mono hB2.size)
  by_cases hd2 : deepL g = 0
  · have hd2' : (deepL g == 0) = true := by simp [hd2]
    go_wp2_with fail
    refine (awake15_calls _).mono ?_
    rintro e w5 ⟨rfl, hb5⟩
    go_wp2
    go_ret
    exact ⟨rfl, H0.out.trans ((hB3.trans (hb5.mono hB3.size)).mono (by omega))⟩
  have hd2' : (deepL g == 0) = false := by simp [hd2]
  obtain ⟨dg, hdg⟩ : ∃ dg, deepL g = dg := ⟨_, rfl⟩
  rw [hdg] at hd2 hd2' ⊢
  have HD := Lib.hid (turns (askL ch kn stl rn) f g (by rw [hdf]; exact hd) (by rw [hdg]; exact hd2))
  have HDF := Lib.hid hdf
  have HDG := Lib.hid hdg
  clear hdf hdg
  go_upto_region 4 with (fail)
  have hfp : 0 < f.length := by
    cases f with
    | nil => exact absurd HDF.out.symm (fun h => hd (h.trans rfl))
    | cons _ _ => simp
  have hgp : 0 < g.length := by
    cases g with
    | nil => exact absurd HDG.out.symm (fun h => hd2 (h.trans rfl))
    | cons _ _ => simp
  obtain ⟨adf, rfl, _⟩ := (HF0.out W0 (Below.refl _ _)).2.2 hfp
  obtain ⟨adg, rfl, _⟩ := (HG0.out W0 (Below.refl _ _)).2.2 hgp
  obtain ⟨WB, hWB⟩ : ∃ WB, ((w3.alloc (.cells #[.int .i64 6, .int .i64 0] 32)).alloc (.cells #[.int .i64 7, .int .i64 0] 32)).alloc (.cells #[.int .i64 8, .int .i64 0] 32) = WB := ⟨_, rfl⟩
  have hbl : Below w3.heap.size w3 WB := by rw [← hWB]; exact (((Below.refl _ w3).alloc (Nat.le_refl _) _).alloc (by simp) _).alloc (by simp; omega) _
  have hsB : WB.heap.size = w3.heap.size + 3 := by rw [← hWB]; simp
  have hk0 : WB.heap[w3.heap.size]? = some (.cells #[.int .i64 6, .int .i64 0] 32 (0, 0)) := by
    rw [← hWB]; exact ((Below.heap_alloc _ _ _ (by simp; omega)).trans (Below.heap_alloc _ _ _ (by simp))).trans (heap_alloc_new w3 _)
  have hk1 : WB.heap[w3.heap.size + 1]? = some (.cells #[.int .i64 7, .int .i64 0] 32 (0, 0)) := by
    rw [← hWB]; refine (Below.heap_alloc _ _ _ (by simp)).trans ?_
    have := heap_alloc_new (w3.alloc (.cells #[.int .i64 6, .int .i64 0] 32)) (.cells #[.int .i64 7, .int .i64 0] 32)
    rwa [World.size_alloc] at this
  have hk2 : WB.heap[w3.heap.size + 1 + 1]? = some (.cells #[.int .i64 8, .int .i64 0] 32 (0, 0)) := by
    rw [← hWB]
    have := heap_alloc_new ((w3.alloc (.cells #[.int .i64 6, .int .i64 0] 32)).alloc (.cells #[.int .i64 7, .int .i64 0] 32)) (.cells #[.int .i64 8, .int .i64 0] 32)
    rwa [World.size_alloc, World.size_alloc] at this
  rw [hWB]
  clear hWB
  have hB0 : Below W0.heap.size W0 WB := hB3.trans (hbl.mono hB3.size)
  have HMF := Lib.hid (fun (w' : World) (hb : Below WB.heap.size WB w') => HF0.out w' (hB0.trans (hb.mono hB0.size)))
  have HMG := Lib.hid (fun (w' : World) (hb : Below WB.heap.size WB w') => HG0.out w' (hB0.trans (hb.mono hB0.size)))
  have HMB := Lib.hid (fun (w' : World) (hb : Below WB.heap.size WB w') => cells222 ((hb.block w3.heap.size (by omega)).trans hk0) ((hb.block (w3.heap.size + 1) (by omega)).trans hk1) ((hb.block (w3.heap.size + 1 + 1) (by omega)).trans hk2))
  have HB0 := Lib.hid hB0
  have hgl : g.length ≤ 15 := by omega
  have hfl : f.length ≤ 15 := by omega
  clear hb1 hb2 hb3 hB2 hB3 hbl hk0 hk1 hk2 hB0 hfp hgp hd hd' hd2 hd2' hf15 hg15
  obtain ⟨WP4, hWP4⟩ : ∃ W, W = WB := ⟨_, rfl⟩
  have HBP4 : Hid (Below WB.heap.size WB WP4) := Lib.hid (by rw [hWP4]; exact Below.refl _ _)
  rw [← hWP4]
  clear hWP4
  refine region_plan (tk := true) (m := 9) (by kernel_rfl) (by kernel_rfl) (fun W4r hW => ?_)
  have hb : Below WP4.heap.size WP4 W4r := by rw [hW]; exact below_drew1 (Below.refl _ _)
  have hB : Below WB.heap.size WB W4r := HBP4.out.trans (hb.mono HBP4.out.size)
  have HF := fun (w' : World) (hb : Below W4r.heap.size W4r w') => HMF.out w' (hB.trans (hb.mono hB.size))
  have HG := fun (w' : World) (hb : Below W4r.heap.size W4r w') => HMG.out w' (hB.trans (hb.mono hB.size))
  have HB := fun (w' : World) (hb : Below W4r.heap.size W4r w') => HMB.out w' (hB.trans (hb.mono hB.size))
  have HQ4 := Lib.hid hB
  have HP4 := Lib.hid hb
  have hz4 := hB.size
  clear hW hb hB
  refine plan_fix (N := some 41) (v := ?_) (a' := ?_) rfl rfl (fun u w' hBr hvr => step_val (by rfl) ?_ ⟨rfl, Below.refl _ _⟩) ?_ ?_
  rotate_left 2
  · go_simp
    with_reducible rfl
  · intro u
    simp only [Act.put, List.setIfInBounds_toArray, List.set_cons_zero, List.set_cons_succ]
    rfl
  refine plan_new (N := some 42) (V := (fun u w => w.ownsRow 0 32 2 u (f).length (pcs (f)))) (a' := ?_) rfl rfl (stable_own _ _ _ _ _) (fun u w' hBr hvr => ?_) ?_ ?_
  rotate_left
  · exact step_new (by rfl) (append_parts _ _ w' (.const (.slice none 0 0)) (.tmp 41) 0 (.slice none 0 0) [] (f) adf c0 rfl rfl (by rfl) (World.ownsRow_nil _ _ _ _) (HF w' hBr) (by (try simp only [List.length_nil]); omega) (Nat.zero_le _)) (fun _ _ h1 h2 h3 => ⟨h1, h2, h3⟩)
  · intro u
    simp only [Act.put, List.setIfInBounds_toArray, List.set_cons_zero, List.set_cons_succ]
    rfl
  refine plan_fix (N := some 43) (v := ?_) (a' := ?_) rfl rfl (fun u w' hBr hvr => step_val (by rfl) ?_ ⟨rfl, Below.refl _ _⟩) ?_ ?_
  rotate_left 2
  · go_simp
    with_reducible rfl
  · intro u
    simp only [Act.put, List.setIfInBounds_toArray, List.set_cons_zero, List.set_cons_succ]
    rfl
  refine plan_take (N := some 44) (j := 1) (Vj := (fun u w => w.ownsRow 0 32 2 u (f).length (pcs (f)))) (V := (fun u w => w.ownsRow 0 32 2 u (f ++ g).length (pcs (f ++ g)))) (a' := ?_) (vs' := []) rfl rfl (stable_own _ _ _ _ _) rfl (List.mem_cons_self) (by kernel_rfl) (fun x hx => by cases hx) (fun u w' hBr hvr => ?_) ?_ ?_
  rotate_left
  · have hj := (hvr (1, (fun u w => w.ownsRow 0 32 2 u (f).length (pcs (f)))) (List.mem_cons_self) (by kernel_rfl)).1
    exact step_take (by rfl) (append_parts _ _ w' (.tmp 42) (.tmp 43) 0 (u 1) (f) (g) adg c1 rfl (by rfl) (by rfl) hj (HG w' hBr) (by (try simp only [List.length_append, List.length_cons, List.length_nil]); omega) (Nat.zero_le _)) (fun _ _ h1 h2 h3 => ⟨h1, h2, h3⟩)
  · intro u
    simp only [Act.put, List.setIfInBounds_toArray, List.set_cons_zero, List.set_cons_succ]
    rfl
  refine plan_fix (N := some 45) (v := ?_) (a' := ?_) rfl rfl (fun u w' hBr hvr => step_val (by rfl) ?_ ⟨rfl, Below.refl _ _⟩) ?_ ?_
  rotate_left 2
  · have hk := HB w' hBr; obtain ⟨k0, k1, k2, k3, k4, k5⟩ := hk
    go_simp
    with_reducible rfl
  · intro u
    simp only [Act.put, List.setIfInBounds_toArray, List.set_cons_zero, List.set_cons_succ]
    rfl
  refine plan_fix (N := some 46) (v := ?_) (a' := ?_) rfl rfl (fun u w' hBr hvr => step_val (by rfl) ?_ ⟨rfl, Below.refl _ _⟩) ?_ ?_
  rotate_left 2
  · have hk := HB w' hBr; obtain ⟨k0, k1, k2, k3, k4, k5⟩ := hk
    go_simp
    with_reducible rfl
  · intro u
    simp only [Act.put, List.setIfInBounds_toArray, List.set_cons_zero, List.set_cons_succ]
    rfl
  refine plan_new (N := some 47) (V := IsLit 32 2 #[.int .i64 7, .int .i64 0, .int .i64 6, .int .i64 0]) (a' := ?_) rfl rfl (stable_lit _ _ _) (fun u w' hBr hvr => step_val (w' := w'.alloc (.cells #[.int .i64 7, .int .i64 0, .int .i64 6, .int .i64 0] 32)) (x := .slice (some ⟨w'.heap.size, 0, none⟩) 2 2) (by rfl) ?_ ⟨⟨_, rfl, heap_alloc_new w' _⟩, (Below.refl _ _).alloc (Nat.le_refl _) _, fun r e => by cases e; simp⟩) ?_ ?_
  rotate_left
  · go_simp
  · intro u
    simp only [Act.put, List.setIfInBounds_toArray, List.set_cons_zero, List.set_cons_succ]
    rfl
  refine plan_take (N := some 48) (j := 3) (Vj := (fun u w => w.ownsRow 0 32 2 u (f ++ g).length (pcs (f ++ g)))) (V := (fun u w => w.ownsRow 0 32 2 u (f ++ g ++ [((7 : Int), (0 : Int)), ((6 : Int), (0 : Int))]).length (pcs (f ++ g ++ [((7 : Int), (0 : Int)), ((6 : Int), (0 : Int))])))) (a' := ?_) (vs' := []) rfl rfl (stable_own _ _ _ _ _) rfl (List.mem_cons_of_mem _ List.mem_cons_self) (by kernel_rfl) (fun x hx => by cases hx) (fun u w' hBr hvr => ?_) ?_ ?_
  rotate_left
  · have hj := (hvr (3, (fun u w => w.ownsRow 0 32 2 u (f ++ g).length (pcs (f ++ g)))) (List.mem_cons_of_mem _ List.mem_cons_self) (by kernel_rfl)).1
    obtain ⟨b, hu, hb⟩ := (hvr _ List.mem_cons_self (by kernel_rfl)).1
    exact step_take (by rfl) (append_parts _ _ w' (.tmp 44) (.tmp 47) 0 (u 3) (f ++ g) ([((7 : Int), (0 : Int)), ((6 : Int), (0 : Int))]) ⟨b, 0, none⟩ 2 rfl (by rfl) hu hj (lit_parts (l := [((7 : Int), (0 : Int)), ((6 : Int), (0 : Int))]) hb (by decide)) (by (try simp only [List.length_append, List.length_cons, List.length_nil]); omega) (Nat.zero_le _)) (fun _ _ h1 h2 h3 => ⟨h1, h2, h3⟩)
  · intro u
    simp only [Act.put, List.setIfInBounds_toArray, List.set_cons_zero, List.set_cons_succ]
    rfl
  refine plan_take (N := some 10) (j := 7) (Vj := (fun u w => w.ownsRow 0 32 2 u (f ++ g ++ [((7 : Int), (0 : Int)), ((6 : Int), (0 : Int))]).length (pcs (f ++ g ++ [((7 : Int), (0 : Int)), ((6 : Int), (0 : Int))])))) (V := (fun u w => w.ownsRow 0 32 2 u (f ++ g ++ [((7 : Int), (0 : Int)), ((6 : Int), (0 : Int))]).length (pcs (f ++ g ++ [((7 : Int), (0 : Int)), ((6 : Int), (0 : Int))])))) (a' := ?_) (vs' := []) rfl rfl (stable_own _ _ _ _ _) rfl (List.mem_cons_self) (by kernel_rfl) (fun x hx => by cases hx) (fun u w' hBr hvr => ?_) ?_ ?_
  rotate_left
  · have hj := (hvr (7, (fun u w => w.ownsRow 0 32 2 u (f ++ g ++ [((7 : Int), (0 : Int)), ((6 : Int), (0 : Int))]).length (pcs (f ++ g ++ [((7 : Int), (0 : Int)), ((6 : Int), (0 : Int))])))) (List.mem_cons_self) (by kernel_rfl)).1
    refine step_val (x := u 7) (w' := w') (by rfl) ?_ ⟨hj, grown_refl _ _, fun r e => .inr e⟩
    go_simp
  · intro u
    simp only [Act.put, List.setIfInBounds_toArray, List.set_cons_zero, List.set_cons_succ]
    rfl
  refine plan_end rfl rfl (fun u wz hBz hv => ?_)
  obtain ⟨Q4, d4, e4, hC4⟩ := parts_of_own (hv _ List.mem_cons_self)
  clear hv HF HG HB
  generalize u 8 = x at e4 ⊢
  subst e4
  obtain ⟨l4, hl4⟩ : ∃ l, f ++ g ++ [((7 : Int), (0 : Int)), ((6 : Int), (0 : Int))] = l := ⟨_, rfl⟩
  have hn4 : l4.length ≤ 100 := by rw [← hl4]; simp only [List.length_append, List.length_cons, List.length_nil]; omega
  rw [hl4] at hC4 ⊢
  have HL4 := Lib.hid hl4
  clear hl4
  have HD4 := Lib.hid hC4
  have HBP5 := Lib.hid (HQ4.out.trans (hBz.mono hz4))
  have HS4 := Lib.hid (HP4.out.trans (hBz.mono HP4.out.size))
  clear hC4 hz4 hBz
  obtain ⟨WP5, hWP5⟩ : ∃ W, W = wz := ⟨_, rfl⟩
  subst hWP5
  go_upto_region 5 with (fail)
  refine region_plan (tk := true) (m := 12) (by kernel_rfl) (by kernel_rfl) (fun W5r hW => ?_)
  have hb : Below WP5.heap.size WP5 W5r := by rw [hW]; exact below_drew1 (Below.refl _ _)
  have hB : Below WB.heap.size WB W5r := HBP5.out.trans (hb.mono HBP5.out.size)
  have HF := fun (w' : World) (hb : Below W5r.heap.size W5r w') => HMF.out w' (hB.trans (hb.mono hB.size))
  have HG := fun (w' : World) (hb : Below W5r.heap.size W5r w') => HMG.out w' (hB.trans (hb.mono hB.size))
  have HB := fun (w' : World) (hb : Below W5r.heap.size W5r w') => HMB.out w' (hB.trans (hb.mono hB.size))
  have HQ5 := Lib.hid hB
  have HP5 := Lib.hid hb
  have hz5 := hB.size
  clear hW hb hB
  refine plan_fix (N := some 49) (v := ?_) (a' := ?_) rfl rfl (fun u w' hBr hvr => step_val (by rfl) ?_ ⟨rfl, Below.refl _ _⟩) ?_ ?_
  rotate_left 2
  · go_simp
    with_reducible rfl
  · intro u
    simp only [Act.put, List.setIfInBounds_toArray, List.set_cons_zero, List.set_cons_succ]
    rfl
  refine plan_new (N := some 50) (V := (fun u w => w.ownsRow 0 32 2 u (f).length (pcs (f)))) (a' := ?_) rfl rfl (stable_own _ _ _ _ _) (fun u w' hBr hvr => ?_) ?_ ?_
  rotate_left
  · exact step_new (by rfl) (append_parts _ _ w' (.const (.slice none 0 0)) (.tmp 49) 0 (.slice none 0 0) [] (f) adf c0 rfl rfl (by rfl) (World.ownsRow_nil _ _ _ _) (HF w' hBr) (by (try simp only [List.length_nil]); omega) (Nat.zero_le _)) (fun _ _ h1 h2 h3 => ⟨h1, h2, h3⟩)
  · intro u
    simp only [Act.put, List.setIfInBounds_toArray, List.set_cons_zero, List.set_cons_succ]
    rfl
  refine plan_fix (N := some 51) (v := ?_) (a' := ?_) rfl rfl (fun u w' hBr hvr => step_val (by rfl) ?_ ⟨rfl, Below.refl _ _⟩) ?_ ?_
  rotate_left 2
  · have hk := HB w' hBr; obtain ⟨k0, k1, k2, k3, k4, k5⟩ := hk
    go_simp
    with_reducible rfl
  · intro u
    simp only [Act.put, List.setIfInBounds_toArray, List.set_cons_zero, List.set_cons_succ]
    rfl
  refine plan_new (N := some 52) (V := IsLit 32 1 #[.int .i64 6, .int .i64 0]) (a' := ?_) rfl rfl (stable_lit _ _ _) (fun u w' hBr hvr => step_val (w' := w'.alloc (.cells #[.int .i64 6, .int .i64 0] 32)) (x := .slice (some ⟨w'.heap.size, 0, none⟩) 1 1) (by rfl) ?_ ⟨⟨_, rfl, heap_alloc_new w' _⟩, (Below.refl _ _).alloc (Nat.le_refl _) _, fun r e => by cases e; simp⟩) ?_ ?_
  rotate_left
  · go_simp
  · intro u
    simp only [Act.put, List.setIfInBounds_toArray, List.set_cons_zero, List.set_cons_succ]
    rfl
  refine plan_take (N := some 53) (j := 1) (Vj := (fun u w => w.ownsRow 0 32 2 u (f).length (pcs (f)))) (V := (fun u w => w.ownsRow 0 32 2 u (f ++ [((6 : Int), (0 : Int))]).length (pcs (f ++ [((6 : Int), (0 : Int))])))) (a' := ?_) (vs' := []) rfl rfl (stable_own _ _ _ _ _) rfl (List.mem_cons_of_mem _ List.mem_cons_self) (by kernel_rfl) (fun x hx => by cases hx) (fun u w' hBr hvr => ?_) ?_ ?_
  rotate_left
  · have hj := (hvr (1, (fun u w => w.ownsRow 0 32 2 u (f).length (pcs (f)))) (List.mem_cons_of_mem _ List.mem_cons_self) (by kernel_rfl)).1
    obtain ⟨b, hu, hb⟩ := (hvr _ List.mem_cons_self (by kernel_rfl)).1
    exact step_take (by rfl) (append_parts _ _ w' (.tmp 50) (.tmp 52) 0 (u 1) (f) ([((6 : Int), (0 : Int))]) ⟨b, 0, none⟩ 1 rfl (by rfl) hu hj (lit_parts (l := [((6 : Int), (0 : Int))]) hb (by decide)) (by (try simp only [List.length_append, List.length_cons, List.length_nil]); omega) (Nat.zero_le _)) (fun _ _ h1 h2 h3 => ⟨h1, h2, h3⟩)
  · intro u
    simp only [Act.put, List.setIfInBounds_toArray, List.set_cons_zero, List.set_cons_succ]
    rfl
  refine plan_fix (N := some 54) (v := ?_) (a' := ?_) rfl rfl (fun u w' hBr hvr => step_val (by rfl) ?_ ⟨rfl, Below.refl _ _⟩) ?_ ?_
  rotate_left 2
  · go_simp
    with_reducible rfl
  · intro u
    simp only [Act.put, List.setIfInBounds_toArray, List.set_cons_zero, List.set_cons_succ]
    rfl
  refine plan_take (N := some 55) (j := 4) (Vj := (fun u w => w.ownsRow 0 32 2 u (f ++ [((6 : Int), (0 : Int))]).length (pcs (f ++ [((6 : Int), (0 : Int))])))) (V := (fun u w => w.ownsRow 0 32 2 u (f ++ [((6 : Int), (0 : Int))] ++ g).length (pcs (f ++ [((6 : Int), (0 : Int))] ++ g)))) (a' := ?_) (vs' := []) rfl rfl (stable_own _ _ _ _ _) rfl (List.mem_cons_self) (by kernel_rfl) (fun x hx => by cases hx) (fun u w' hBr hvr => ?_) ?_ ?_
  rotate_left
  · have hj := (hvr (4, (fun u w => w.ownsRow 0 32 2 u (f ++ [((6 : Int), (0 : Int))]).length (pcs (f ++ [((6 : Int), (0 : Int))])))) (List.mem_cons_self) (by kernel_rfl)).1
    exact step_take (by rfl) (append_parts _ _ w' (.tmp 53) (.tmp 54) 0 (u 4) (f ++ [((6 : Int), (0 : Int))]) (g) adg c1 rfl (by rfl) (by rfl) hj (HG w' hBr) (by (try simp only [List.length_append, List.length_cons, List.length_nil]); omega) (Nat.zero_le _)) (fun _ _ h1 h2 h3 => ⟨h1, h2, h3⟩)
  · intro u
    simp only [Act.put, List.setIfInBounds_toArray, List.set_cons_zero, List.set_cons_succ]
    rfl
  refine plan_fix (N := some 56) (v := ?_) (a' := ?_) rfl rfl (fun u w' hBr hvr => step_val (by rfl) ?_ ⟨rfl, Below.refl _ _⟩) ?_ ?_
  rotate_left 2
  · have hk := HB w' hBr; obtain ⟨k0, k1, k2, k3, k4, k5⟩ := hk
    go_simp
    with_reducible rfl
  · intro u
    simp only [Act.put, List.setIfInBounds_toArray, List.set_cons_zero, List.set_cons_succ]
    rfl
  refine plan_fix (N := some 57) (v := ?_) (a' := ?_) rfl rfl (fun u w' hBr hvr => step_val (by rfl) ?_ ⟨rfl, Below.refl _ _⟩) ?_ ?_
  rotate_left 2
  · have hk := HB w' hBr; obtain ⟨k0, k1, k2, k3, k4, k5⟩ := hk
    go_simp
    with_reducible rfl
  · intro u
    simp only [Act.put, List.setIfInBounds_toArray, List.set_cons_zero, List.set_cons_succ]
    rfl
  refine plan_new (N := some 58) (V := IsLit 32 2 #[.int .i64 6, .int .i64 0, .int .i64 8, .int .i64 0]) (a' := ?_) rfl rfl (stable_lit _ _ _) (fun u w' hBr hvr => step_val (w' := w'.alloc (.cells #[.int .i64 6, .int .i64 0, .int .i64 8, .int .i64 0] 32)) (x := .slice (some ⟨w'.heap.size, 0, none⟩) 2 2) (by rfl) ?_ ⟨⟨_, rfl, heap_alloc_new w' _⟩, (Below.refl _ _).alloc (Nat.le_refl _) _, fun r e => by cases e; simp⟩) ?_ ?_
  rotate_left
  · go_simp
  · intro u
    simp only [Act.put, List.setIfInBounds_toArray, List.set_cons_zero, List.set_cons_succ]
    rfl
  refine plan_take (N := some 59) (j := 6) (Vj := (fun u w => w.ownsRow 0 32 2 u (f ++ [((6 : Int), (0 : Int))] ++ g).length (pcs (f ++ [((6 : Int), (0 : Int))] ++ g)))) (V := (fun u w => w.ownsRow 0 32 2 u (f ++ [((6 : Int), (0 : Int))] ++ g ++ [((6 : Int), (0 : Int)), ((8 : Int), (0 : Int))]).length (pcs (f ++ [((6 : Int), (0 : Int))] ++ g ++ [((6 : Int), (0 : Int)), ((8 : Int), (0 : Int))])))) (a' := ?_) (vs' := []) rfl rfl (stable_own _ _ _ _ _) rfl (List.mem_cons_of_mem _ List.mem_cons_self) (by kernel_rfl) (fun x hx => by cases hx) (fun u w' hBr hvr => ?_) ?_ ?_
  rotate_left
  · have hj := (hvr (6, (fun u w => w.ownsRow 0 32 2 u (f ++ [((6 : Int), (0 : Int))] ++ g).length (pcs (f ++ [((6 : Int), (0 : Int))] ++ g)))) (List.mem_cons_of_mem _ List.mem_cons_self) (by kernel_rfl)).1
    obtain ⟨b, hu, hb⟩ := (hvr _ List.mem_cons_self (by kernel_rfl)).1
    exact step_take (by rfl) (append_parts _ _ w' (.tmp 55) (.tmp 58) 0 (u 6) (f ++ [((6 : Int), (0 : Int))] ++ g) ([((6 : Int), (0 : Int)), ((8 : Int), (0 : Int))]) ⟨b, 0, none⟩ 2 rfl (by rfl) hu hj (lit_parts (l := [((6 : Int), (0 : Int)), ((8 : Int), (0 : Int))]) hb (by decide)) (by (try simp only [List.length_append, List.length_cons, List.length_nil]); omega) (Nat.zero_le _)) (fun _ _ h1 h2 h3 => ⟨h1, h2, h3⟩)
  · intro u
    simp only [Act.put, List.setIfInBounds_toArray, List.set_cons_zero, List.set_cons_succ]
    rfl
  refine plan_take (N := some 11) (j := 10) (Vj := (fun u w => w.ownsRow 0 32 2 u (f ++ [((6 : Int), (0 : Int))] ++ g ++ [((6 : Int), (0 : Int)), ((8 : Int), (0 : Int))]).length (pcs (f ++ [((6 : Int), (0 : Int))] ++ g ++ [((6 : Int), (0 : Int)), ((8 : Int), (0 : Int))])))) (V := (fun u w => w.ownsRow 0 32 2 u (f ++ [((6 : Int), (0 : Int))] ++ g ++ [((6 : Int), (0 : Int)), ((8 : Int), (0 : Int))]).length (pcs (f ++ [((6 : Int), (0 : Int))] ++ g ++ [((6 : Int), (0 : Int)), ((8 : Int), (0 : Int))])))) (a' := ?_) (vs' := []) rfl rfl (stable_own _ _ _ _ _) rfl (List.mem_cons_self) (by kernel_rfl) (fun x hx => by cases hx) (fun u w' hBr hvr => ?_) ?_ ?_
  rotate_left
  · have hj := (hvr (10, (fun u w => w.ownsRow 0 32 2 u (f ++ [((6 : Int), (0 : Int))] ++ g ++ [((6 : Int), (0 : Int)), ((8 : Int), (0 : Int))]).length (pcs (f ++ [((6 : Int), (0 : Int))] ++ g ++ [((6 : Int), (0 : Int)), ((8 : Int), (0 : Int))])))) (List.mem_cons_self) (by kernel_rfl)).1
    refine step_val (x := u 10) (w' := w') (by rfl) ?_ ⟨hj, grown_refl _ _, fun r e => .inr e⟩
    go_simp
  · intro u
    simp only [Act.put, List.setIfInBounds_toArray, List.set_cons_zero, List.set_cons_succ]
    rfl
  refine plan_end rfl rfl (fun u wz hBz hv => ?_)
  obtain ⟨Q5, d5, e5, hC5⟩ := parts_of_own (hv _ List.mem_cons_self)
  clear hv HF HG HB
  generalize u 11 = x at e5 ⊢
  subst e5
  obtain ⟨l5, hl5⟩ : ∃ l, f ++ [((6 : Int), (0 : Int))] ++ g ++ [((6 : Int), (0 : Int)), ((8 : Int), (0 : Int))] = l := ⟨_, rfl⟩
  have hn5 : l5.length ≤ 100 := by rw [← hl5]; simp only [List.length_append, List.length_cons, List.length_nil]; omega
  rw [hl5] at hC5 ⊢
  have HL5 := Lib.hid hl5
  clear hl5
  have HD5 := Lib.hid hC5
  have HBP6 := Lib.hid (HQ5.out.trans (hBz.mono hz5))
  have HS5 := Lib.hid (HP5.out.trans (hBz.mono HP5.out.size))
  clear hC5 hz5 hBz
  obtain ⟨WP6, hWP6⟩ : ∃ W, W = wz := ⟨_, rfl⟩
  subst hWP6
  go_upto_region 6 with (fail)
  refine region_plan (tk := true) (m := 7) (by kernel_rfl) (by kernel_rfl) (fun W6r hW => ?_)
  have hb : Below WP6.heap.size WP6 W6r := by rw [hW]; exact below_drew1 (Below.refl _ _)
  have hB : Below WB.heap.size WB W6r := HBP6.out.trans (hb.mono HBP6.out.size)
  have HF := fun (w' : World) (hb : Below W6r.heap.size W6r w') => HMF.out w' (hB.trans (hb.mono hB.size))
  have HG := fun (w' : World) (hb : Below W6r.heap.size W6r w') => HMG.out w' (hB.trans (hb.mono hB.size))
  have HB := fun (w' : World) (hb : Below W6r.heap.size W6r w') => HMB.out w' (hB.trans (hb.mono hB.size))
  have HQ6 := Lib.hid hB
  have HP6 := Lib.hid hb
  have hz6 := hB.size
  clear hW hb hB
  refine plan_fix (N := some 60) (v := ?_) (a' := ?_) rfl rfl (fun u w' hBr hvr => step_val (by rfl) ?_ ⟨rfl, Below.refl _ _⟩) ?_ ?_
  rotate_left 2
  · go_simp
    with_reducible rfl
  · intro u
    simp only [Act.put, List.setIfInBounds_toArray, List.set_cons_zero, List.set_cons_succ]
    rfl
  refine plan_new (N := some 61) (V := (fun u w => w.ownsRow 0 32 2 u (f).length (pcs (f)))) (a' := ?_) rfl rfl (stable_own _ _ _ _ _) (fun u w' hBr hvr => ?_) ?_ ?_
  rotate_left
  · exact step_new (by rfl) (append_parts _ _ w' (.const (.slice none 0 0)) (.tmp 60) 0 (.slice none 0 0) [] (f) adf c0 rfl rfl (by rfl) (World.ownsRow_nil _ _ _ _) (HF w' hBr) (by (try simp only [List.length_nil]); omega) (Nat.zero_le _)) (fun _ _ h1 h2 h3 => ⟨h1, h2, h3⟩)
  · intro u
    simp only [Act.put, List.setIfInBounds_toArray, List.set_cons_zero, List.set_cons_succ]
    rfl
  refine plan_fix (N := some 62) (v := ?_) (a' := ?_) rfl rfl (fun u w' hBr hvr => step_val (by rfl) ?_ ⟨rfl, Below.refl _ _⟩) ?_ ?_
  rotate_left 2
  · have hk := HB w' hBr; obtain ⟨k0, k1, k2, k3, k4, k5⟩ := hk
    go_simp
    with_reducible rfl
  · intro u
    simp only [Act.put, List.setIfInBounds_toArray, List.set_cons_zero, List.set_cons_succ]
    rfl
  refine plan_fix (N := some 63) (v := ?_) (a' := ?_) rfl rfl (fun u w' hBr hvr => step_val (by rfl) ?_ ⟨rfl, Below.refl _ _⟩) ?_ ?_
  rotate_left 2
  · have hk := HB w' hBr; obtain ⟨k0, k1, k2, k3, k4, k5⟩ := hk
    go_simp
    with_reducible rfl
  · intro u
    simp only [Act.put, List.setIfInBounds_toArray, List.set_cons_zero, List.set_cons_succ]
    rfl
  refine plan_new (N := some 64) (V := IsLit 32 2 #[.int .i64 6, .int .i64 0, .int .i64 6, .int .i64 0]) (a' := ?_) rfl rfl (stable_lit _ _ _) (fun u w' hBr hvr => step_val (w' := w'.alloc (.cells #[.int .i64 6, .int .i64 0, .int .i64 6, .int .i64 0] 32)) (x := .slice (some ⟨w'.heap.size, 0, none⟩) 2 2) (by rfl) ?_ ⟨⟨_, rfl, heap_alloc_new w' _⟩, (Below.refl _ _).alloc (Nat.le_refl _) _, fun r e => by cases e; simp⟩) ?_ ?_
  rotate_left
  · go_simp
  · intro u
    simp only [Act.put, List.setIfInBounds_toArray, List.set_cons_zero, List.set_cons_succ]
    rfl
  refine plan_take (N := some 65) (j := 1) (Vj := (fun u w => w.ownsRow 0 32 2 u (f).length (pcs (f)))) (V := (fun u w => w.ownsRow 0 32 2 u (f ++ [((6 : Int), (0 : Int)), ((6 : Int), (0 : Int))]).length (pcs (f ++ [((6 : Int), (0 : Int)), ((6 : Int), (0 : Int))])))) (a' := ?_) (vs' := []) rfl rfl (stable_own _ _ _ _ _) rfl (List.mem_cons_of_mem _ List.mem_cons_self) (by kernel_rfl) (fun x hx => by cases hx) (fun u w' hBr hvr => ?_) ?_ ?_
  rotate_left
  · have hj := (hvr (1, (fun u w => w.ownsRow 0 32 2 u (f).length (pcs (f)))) (List.mem_cons_of_mem _ List.mem_cons_self) (by kernel_rfl)).1
    obtain ⟨b, hu, hb⟩ := (hvr _ List.mem_cons_self (by kernel_rfl)).1
    exact step_take (by rfl) (append_parts _ _ w' (.tmp 61) (.tmp 64) 0 (u 1) (f) ([((6 : Int), (0 : Int)), ((6 : Int), (0 : Int))]) ⟨b, 0, none⟩ 2 rfl (by rfl) hu hj (lit_parts (l := [((6 : Int), (0 : Int)), ((6 : Int), (0 : Int))]) hb (by decide)) (by (try simp only [List.length_append, List.length_cons, List.length_nil]); omega) (Nat.zero_le _)) (fun _ _ h1 h2 h3 => ⟨h1, h2, h3⟩)
  · intro u
    simp only [Act.put, List.setIfInBounds_toArray, List.set_cons_zero, List.set_cons_succ]
    rfl
  refine plan_take (N := some 12) (j := 5) (Vj := (fun u w => w.ownsRow 0 32 2 u (f ++ [((6 : Int), (0 : Int)), ((6 : Int), (0 : Int))]).length (pcs (f ++ [((6 : Int), (0 : Int)), ((6 : Int), (0 : Int))])))) (V := (fun u w => w.ownsRow 0 32 2 u (f ++ [((6 : Int), (0 : Int)), ((6 : Int), (0 : Int))]).length (pcs (f ++ [((6 : Int), (0 : Int)), ((6 : Int), (0 : Int))])))) (a' := ?_) (vs' := []) rfl rfl (stable_own _ _ _ _ _) rfl (List.mem_cons_self) (by kernel_rfl) (fun x hx => by cases hx) (fun u w' hBr hvr => ?_) ?_ ?_
  rotate_left
  · have hj := (hvr (5, (fun u w => w.ownsRow 0 32 2 u (f ++ [((6 : Int), (0 : Int)), ((6 : Int), (0 : Int))]).length (pcs (f ++ [((6 : Int), (0 : Int)), ((6 : Int), (0 : Int))])))) (List.mem_cons_self) (by kernel_rfl)).1
    refine step_val (x := u 5) (w' := w') (by rfl) ?_ ⟨hj, grown_refl _ _, fun r e => .inr e⟩
    go_simp
  · intro u
    simp only [Act.put, List.setIfInBounds_toArray, List.set_cons_zero, List.set_cons_succ]
    rfl
  refine plan_end rfl rfl (fun u wz hBz hv => ?_)
  obtain ⟨Q6, d6, e6, hC6⟩ := parts_of_own (hv _ List.mem_cons_self)
  clear hv HF HG HB
  generalize u 6 = x at e6 ⊢
  subst e6
  obtain ⟨l6, hl6⟩ : ∃ l, f ++ [((6 : Int), (0 : Int)), ((6 : Int), (0 : Int))] = l := ⟨_, rfl⟩
  have hn6 : l6.length ≤ 100 := by rw [← hl6]; simp only [List.length_append, List.length_cons, List.length_nil]; omega
  rw [hl6] at hC6 ⊢
  have HL6 := Lib.hid hl6
  clear hl6
  have HD6 := Lib.hid hC6
  have HBP7 := Lib.hid (HQ6.out.trans (hBz.mono hz6))
  have HS6 := Lib.hid (HP6.out.trans (hBz.mono HP6.out.size))
  clear hC6 hz6 hBz
  obtain ⟨WP7, hWP7⟩ : ∃ W, W = wz := ⟨_, rfl⟩
  subst hWP7
  go_upto_region 7 with (fail)
  refine region_plan (tk := true) (m := 8) (by kernel_rfl) (by kernel_rfl) (fun W7r hW => ?_)
  have hb : Below WP7.heap.size WP7 W7r := by rw [hW]; exact below_drew1 (Below.refl _ _)
  have hB : Below WB.heap.size WB W7r := HBP7.out.trans (hb.mono HBP7.out.size)
  have HF := fun (w' : World) (hb : Below W7r.heap.size W7r w') => HMF.out w' (hB.trans (hb.mono hB.size))
  have HG := fun (w' : World) (hb : Below W7r.heap.size W7r w') => HMG.out w' (hB.trans (hb.mono hB.size))
  have HB := fun (w' : World) (hb : Below W7r.heap.size W7r w') => HMB.out w' (hB.trans (hb.mono hB.size))
  have HQ7 := Lib.hid hB
  have HP7 := Lib.hid hb
  have hz7 := hB.size
  clear hW hb hB
  refine plan_fix (N := some 66) (v := ?_) (a' := ?_) rfl rfl (fun u w' hBr hvr => step_val (by rfl) ?_ ⟨rfl, Below.refl _ _⟩) ?_ ?_
  rotate_left 2
  · go_simp
    with_reducible rfl
  · intro u
    simp only [Act.put, List.setIfInBounds_toArray, List.set_cons_zero, List.set_cons_succ]
    rfl
  refine plan_new (N := some 67) (V := (fun u w => w.ownsRow 0 32 2 u (f).length (pcs (f)))) (a' := ?_) rfl rfl (stable_own _ _ _ _ _) (fun u w' hBr hvr => ?_) ?_ ?_
  rotate_left
  · exact step_new (by rfl) (append_parts _ _ w' (.const (.slice none 0 0)) (.tmp 66) 0 (.slice none 0 0) [] (f) adf c0 rfl rfl (by rfl) (World.ownsRow_nil _ _ _ _) (HF w' hBr) (by (try simp only [List.length_nil]); omega) (Nat.zero_le _)) (fun _ _ h1 h2 h3 => ⟨h1, h2, h3⟩)
  · intro u
    simp only [Act.put, List.setIfInBounds_toArray, List.set_cons_zero, List.set_cons_succ]
    rfl
  refine plan_fix (N := some 68) (v := ?_) (a' := ?_) rfl rfl (fun u w' hBr hvr => step_val (by rfl) ?_ ⟨rfl, Below.refl _ _⟩) ?_ ?_
  rotate_left 2
  · go_simp
    with_reducible rfl
  · intro u
    simp only [Act.put, List.setIfInBounds_toArray, List.set_cons_zero, List.set_cons_succ]
    rfl
  refine plan_take (N := some 69) (j := 1) (Vj := (fun u w => w.ownsRow 0 32 2 u (f).length (pcs (f)))) (V := (fun u w => w.ownsRow 0 32 2 u (f ++ f).length (pcs (f ++ f)))) (a' := ?_) (vs' := []) rfl rfl (stable_own _ _ _ _ _) rfl (List.mem_cons_self) (by kernel_rfl) (fun x hx => by cases hx) (fun u w' hBr hvr => ?_) ?_ ?_
  rotate_left
  · have hj := (hvr (1, (fun u w => w.ownsRow 0 32 2 u (f).length (pcs (f)))) (List.mem_cons_self) (by kernel_rfl)).1
    exact step_take (by rfl) (append_parts _ _ w' (.tmp 67) (.tmp 68) 0 (u 1) (f) (f) adf c0 rfl (by rfl) (by rfl) hj (HF w' hBr) (by (try simp only [List.length_append, List.length_cons, List.length_nil]); omega) (Nat.zero_le _)) (fun _ _ h1 h2 h3 => ⟨h1, h2, h3⟩)
  · intro u
    simp only [Act.put, List.setIfInBounds_toArray, List.set_cons_zero, List.set_cons_succ]
    rfl
  refine plan_fix (N := some 70) (v := ?_) (a' := ?_) rfl rfl (fun u w' hBr hvr => step_val (by rfl) ?_ ⟨rfl, Below.refl _ _⟩) ?_ ?_
  rotate_left 2
  · have hk := HB w' hBr; obtain ⟨k0, k1, k2, k3, k4, k5⟩ := hk
    go_simp
    with_reducible rfl
  · intro u
    simp only [Act.put, List.setIfInBounds_toArray, List.set_cons_zero, List.set_cons_succ]
    rfl
  refine plan_new (N := some 71) (V := IsLit 32 1 #[.int .i64 8, .int .i64 0]) (a' := ?_) rfl rfl (stable_lit _ _ _) (fun u w' hBr hvr => step_val (w' := w'.alloc (.cells #[.int .i64 8, .int .i64 0] 32)) (x := .slice (some ⟨w'.heap.size, 0, none⟩) 1 1) (by rfl) ?_ ⟨⟨_, rfl, heap_alloc_new w' _⟩, (Below.refl _ _).alloc (Nat.le_refl _) _, fun r e => by cases e; simp⟩) ?_ ?_
  rotate_left
  · go_simp
  · intro u
    simp only [Act.put, List.setIfInBounds_toArray, List.set_cons_zero, List.set_cons_succ]
    rfl
  refine plan_take (N := some 72) (j := 3) (Vj := (fun u w => w.ownsRow 0 32 2 u (f ++ f).length (pcs (f ++ f)))) (V := (fun u w => w.ownsRow 0 32 2 u (f ++ f ++ [((8 : Int), (0 : Int))]).length (pcs (f ++ f ++ [((8 : Int), (0 : Int))])))) (a' := ?_) (vs' := []) rfl rfl (stable_own _ _ _ _ _) rfl (List.mem_cons_of_mem _ List.mem_cons_self) (by kernel_rfl) (fun x hx => by cases hx) (fun u w' hBr hvr => ?_) ?_ ?_
  rotate_left
  · have hj := (hvr (3, (fun u w => w.ownsRow 0 32 2 u (f ++ f).length (pcs (f ++ f)))) (List.mem_cons_of_mem _ List.mem_cons_self) (by kernel_rfl)).1
    obtain ⟨b, hu, hb⟩ := (hvr _ List.mem_cons_self (by kernel_rfl)).1
    exact step_take (by rfl) (append_parts _ _ w' (.tmp 69) (.tmp 71) 0 (u 3) (f ++ f) ([((8 : Int), (0 : Int))]) ⟨b, 0, none⟩ 1 rfl (by rfl) hu hj (lit_parts (l := [((8 : Int), (0 : Int))]) hb (by decide)) (by (try simp only [List.length_append, List.length_cons, List.length_nil]); omega) (Nat.zero_le _)) (fun _ _ h1 h2 h3 => ⟨h1, h2, h3⟩)
  · intro u
    simp only [Act.put, List.setIfInBounds_toArray, List.set_cons_zero, List.set_cons_succ]
    rfl
  refine plan_take (N := some 13) (j := 6) (Vj := (fun u w => w.ownsRow 0 32 2 u (f ++ f ++ [((8 : Int), (0 : Int))]).length (pcs (f ++ f ++ [((8 : Int), (0 : Int))])))) (V := (fun u w => w.ownsRow 0 32 2 u (f ++ f ++ [((8 : Int), (0 : Int))]).length (pcs (f ++ f ++ [((8 : Int), (0 : Int))])))) (a' := ?_) (vs' := []) rfl rfl (stable_own _ _ _ _ _) rfl (List.mem_cons_self) (by kernel_rfl) (fun x hx => by cases hx) (fun u w' hBr hvr => ?_) ?_ ?_
  rotate_left
  · have hj := (hvr (6, (fun u w => w.ownsRow 0 32 2 u (f ++ f ++ [((8 : Int), (0 : Int))]).length (pcs (f ++ f ++ [((8 : Int), (0 : Int))])))) (List.mem_cons_self) (by kernel_rfl)).1
    refine step_val (x := u 6) (w' := w') (by rfl) ?_ ⟨hj, grown_refl _ _, fun r e => .inr e⟩
    go_simp
  · intro u
    simp only [Act.put, List.setIfInBounds_toArray, List.set_cons_zero, List.set_cons_succ]
    rfl
  refine plan_end rfl rfl (fun u wz hBz hv => ?_)
  obtain ⟨Q7, d7, e7, hC7⟩ := parts_of_own (hv _ List.mem_cons_self)
  clear hv HF HG HB
  generalize u 7 = x at e7 ⊢
  subst e7
  obtain ⟨l7, hl7⟩ : ∃ l, f ++ f ++ [((8 : Int), (0 : Int))] = l := ⟨_, rfl⟩
  have hn7 : l7.length ≤ 100 := by rw [← hl7]; simp only [List.length_append, List.length_cons, List.length_nil]; omega
  rw [hl7] at hC7 ⊢
  have HL7 := Lib.hid hl7
  clear hl7
  have HD7 := Lib.hid hC7
  have HBP8 := Lib.hid (HQ7.out.trans (hBz.mono hz7))
  have HS7 := Lib.hid (HP7.out.trans (hBz.mono HP7.out.size))
  clear hC7 hz7 hBz
  obtain ⟨WP8, hWP8⟩ : ∃ W, W = wz := ⟨_, rfl⟩
  subst hWP8
  go_upto_region 8 with (fail)
  have hd := HD.out
  rw [HL4.out, HL5.out, HL6.out, HL7.out, HDF.out, HDG.out] at hd
  obtain ⟨e1, e2, e3, e4, e5⟩ := hd
  obtain ⟨HH, hHH⟩ : ∃ b, holdsL (askL ch kn stl rn) f = b := ⟨_, rfl⟩
  obtain ⟨HX, hHX⟩ : ∃ b, holdsL (askL ch kn stl rn) l4 = b := ⟨_, rfl⟩
  have hdb := deep_bounds f
  have hgb := deep_bounds g
  rw [HDF.out] at hdb
  rw [HDG.out] at hgb
  have HE1 := Lib.hid e1
  have HE2 := Lib.hid e2
  have HE3 := Lib.hid e3
  have HE4' := Lib.hid e4
  have HE5 := Lib.hid e5
  have HHH := Lib.hid hHH
  have HHX := Lib.hid hHX
  clear e1 e2 e3 e4 e5 hHH hHX
  have hB8 := HBP8.out
  have hz8 := hB8.size
  have hB08 := HB0.out.trans (hB8.mono HB0.out.size)
  have HF8 := Holds_f8 HHH.out (HHO.out WP8 hB08 (some adf) c0 f (HMF.out WP8 hB8) (by omega))
  obtain ⟨k0, k1, k2, k3, k4, k5, k6, k7⟩ := HKB.out WP8 hB08
  clear hB8
  go_upto_region 9 with (go_at_call 7; refine HF8.mono ?_; rintro e w9 ⟨rfl, hb9⟩)
  clear k0 k1 k2 k3 k4 k5 k6 k7 HF8
  refine region_plan (tk := false) (m := 44) (by kernel_rfl) (by kernel_rfl) (fun W hW => ?_)
  have hb : Below w9.heap.size w9 W := by rw [hW]; exact below_drew1 (Below.refl _ _)
  have hB8W : Below WP8.heap.size WP8 W := hb9.trans (hb.mono hb9.size)
  have hB0W : Below W0.heap.size W0 W := hB08.trans (hB8W.mono hB08.size)
  have hBBW : Below WB.heap.size WB W := HBP8.out.trans (hB8W.mono hz8)
  have HKS := fun (w' : World) (hb : Below W.heap.size W w') => HKB.out w' (hB0W.trans (hb.mono hB0W.size))
  have HEF := fun (w' : World) (hb : Below W.heap.size W w') => Deep_d HDF.out (Deep_calls (some adf) c0 f w' (HMF.out w' (hBBW.trans (hb.mono hBBW.size))) (by omega))
  have HEG := fun (w' : World) (hb : Below W.heap.size W w') => Deep_d HDG.out (Deep_calls (some adg) c1 g w' (HMG.out w' (hBBW.trans (hb.mono hBBW.size))) (by omega))
  have hC4 := fun (w' : World) (hb : Below W.heap.size W w') => Kd.C_below HD4.out ((((HS5.out).trans ((((HS6.out).trans ((((HS7.out).trans ((hB8W).mono HS7.out.size))).mono HS6.out.size))).mono HS5.out.size))).trans (hb.mono (((HS5.out).trans ((((HS6.out).trans ((((HS7.out).trans ((hB8W).mono HS7.out.size))).mono HS6.out.size))).mono HS5.out.size))).size))
  have HO4 := fun (w' : World) (hb : Below W.heap.size W w') => Holds_f8 HHX.out (HHO.out w' (hB0W.trans (hb.mono hB0W.size)) Q4 d4 l4 (hC4 w' hb) (by omega))
  have hC5 := fun (w' : World) (hb : Below W.heap.size W w') => Kd.C_below HD5.out ((((HS6.out).trans ((((HS7.out).trans ((hB8W).mono HS7.out.size))).mono HS6.out.size))).trans (hb.mono (((HS6.out).trans ((((HS7.out).trans ((hB8W).mono HS7.out.size))).mono HS6.out.size))).size))
  have HO5 := fun (w' : World) (hb : Below W.heap.size W w') => Holds_f8 (HE1.out.symm.trans HHX.out) (HHO.out w' (hB0W.trans (hb.mono hB0W.size)) Q5 d5 l5 (hC5 w' hb) (by omega))
  have hC6 := fun (w' : World) (hb : Below W.heap.size W w') => Kd.C_below HD6.out ((((HS7.out).trans ((hB8W).mono HS7.out.size))).trans (hb.mono (((HS7.out).trans ((hB8W).mono HS7.out.size))).size))
  have HO6 := fun (w' : World) (hb : Below W.heap.size W w') => Holds_f8 (HE2.out.trans HHH.out) (HHO.out w' (hB0W.trans (hb.mono hB0W.size)) Q6 d6 l6 (hC6 w' hb) (by omega))
  have hC7 := fun (w' : World) (hb : Below W.heap.size W w') => Kd.C_below HD7.out ((hB8W).trans (hb.mono (hB8W).size))
  have HO7 := fun (w' : World) (hb : Below W.heap.size W w') => Holds_f8 (HE3.out.trans HHH.out) (HHO.out w' (hB0W.trans (hb.mono hB0W.size)) Q7 d7 l7 (hC7 w' hb) (by omega))
  have HE6 := fun (w' : World) (hb : Below W.heap.size W w') => Deep_d HE4'.out (Deep_calls Q6 d6 l6 w' (hC6 w' hb) (by omega))
  have HE4 := fun (w' : World) (hb : Below W.heap.size W w') => Deep_d HE5.out (Deep_calls Q4 d4 l4 w' (hC4 w' hb) (by omega))
  have hw1 : IntKind.i64.wrap (df + 2) = df + 2 := by rw [IntKind.wrap_i64]; omega
  have hw2 : IntKind.i64.wrap (2 + max df dg) = 2 + max df dg := by rw [IntKind.wrap_i64]; omega
  have hxx : (HX == HX) = true := by cases HX <;> rfl
  have hhh : (HH == HH) = true := by cases HH <;> rfl
  have HEND := Lib.hid (H0.out.trans (hB0W.mono (by omega)))
  have hzE := HEND.out.size
  clear hW hb hb9 hB8W hB0W hBBW hC4 hC5 hC6 hC7 hB08
  refine plan_fix (N := some 76) (v := ?_) (a' := ?_) rfl rfl (fun u w' hBr hvr => step_val (by rfl) ?_ ⟨rfl, Below.refl _ _⟩) ?_ ?_
  rotate_left 2
  · go_simp
    with_reducible rfl
  · intro u
    simp only [Act.put, List.setIfInBounds_toArray, List.set_cons_zero, List.set_cons_succ]
    rfl
  refine plan_fix (N := some 77) (v := ?_) (a' := ?_) rfl rfl (fun u w' hBr hvr => step_val (by rfl) ?_ ⟨rfl, Below.refl _ _⟩) ?_ ?_
  rotate_left 2
  · have hk := HKS w' hBr; obtain ⟨k0, k1, k2, k3, k4, k5, k6, k7⟩ := hk
    go_simp
    with_reducible rfl
  · intro u
    simp only [Act.put, List.setIfInBounds_toArray, List.set_cons_zero, List.set_cons_succ]
    rfl
  refine plan_fix (N := some 78) (v := ?_) (a' := ?_) rfl rfl (fun u w' hBr hvr => step_call Try.func7 (by kernel_rfl) rfl #[.slice Q4 l4.length d4, .agg #[v0, v1, v2, .slice A3 ch.length c3, .slice A4 kn.length c4, .slice A5 stl.length c5, .slice A6 rn.length c6, v7]] (by rfl) rfl (by (try simp only [List.map_toArray, List.map_cons, List.map_nil]); first | done | rfl) ?_) ?_ ?_
  rotate_left 2
  · refine (HO4 w' hBr).mono ?_
    rintro e w'' ⟨rfl, hbn⟩
    refine ⟨_, rfl, ?_, hbn⟩
    with_reducible rfl
  · intro u
    simp only [Act.put, List.setIfInBounds_toArray, List.set_cons_zero, List.set_cons_succ]
    rfl
  refine plan_fix (N := some 79) (v := ?_) (a' := ?_) rfl rfl (fun u w' hBr hvr => step_val (by rfl) ?_ ⟨rfl, Below.refl _ _⟩) ?_ ?_
  rotate_left 2
  · go_simp
    with_reducible rfl
  · intro u
    simp only [Act.put, List.setIfInBounds_toArray, List.set_cons_zero, List.set_cons_succ]
    rfl
  refine plan_fix (N := some 80) (v := ?_) (a' := ?_) rfl rfl (fun u w' hBr hvr => step_val (by rfl) ?_ ⟨rfl, Below.refl _ _⟩) ?_ ?_
  rotate_left 2
  · have hk := HKS w' hBr; obtain ⟨k0, k1, k2, k3, k4, k5, k6, k7⟩ := hk
    go_simp
    with_reducible rfl
  · intro u
    simp only [Act.put, List.setIfInBounds_toArray, List.set_cons_zero, List.set_cons_succ]
    rfl
  refine plan_fix (N := some 81) (v := ?_) (a' := ?_) rfl rfl (fun u w' hBr hvr => step_call Try.func7 (by kernel_rfl) rfl #[.slice Q5 l5.length d5, .agg #[v0, v1, v2, .slice A3 ch.length c3, .slice A4 kn.length c4, .slice A5 stl.length c5, .slice A6 rn.length c6, v7]] (by rfl) rfl (by (try simp only [List.map_toArray, List.map_cons, List.map_nil]); first | done | rfl) ?_) ?_ ?_
  rotate_left 2
  · refine (HO5 w' hBr).mono ?_
    rintro e w'' ⟨rfl, hbn⟩
    refine ⟨_, rfl, ?_, hbn⟩
    with_reducible rfl
  · intro u
    simp only [Act.put, List.setIfInBounds_toArray, List.set_cons_zero, List.set_cons_succ]
    rfl
  refine plan_fix (N := some 82) (v := .bool true) (a' := ?_) rfl rfl (fun u w' hBr hvr => step_val (w' := w') (by rfl) ?_ ⟨rfl, Below.refl _ _⟩) ?_ ?_
  rotate_left
  · go_simp
  · intro u
    simp only [Act.put, List.setIfInBounds_toArray, List.set_cons_zero, List.set_cons_succ]
    rfl
  refine plan_fix (N := some 83) (v := ?_) (a' := ?_) rfl rfl (fun u w' hBr hvr => step_val (by rfl) ?_ ⟨rfl, Below.refl _ _⟩) ?_ ?_
  rotate_left 2
  · go_simp
    with_reducible rfl
  · intro u
    simp only [Act.put, List.setIfInBounds_toArray, List.set_cons_zero, List.set_cons_succ]
    rfl
  refine plan_fix (N := some 84) (v := ?_) (a' := ?_) rfl rfl (fun u w' hBr hvr => step_val (by rfl) ?_ ⟨rfl, Below.refl _ _⟩) ?_ ?_
  rotate_left 2
  · go_simp
    with_reducible rfl
  · intro u
    simp only [Act.put, List.setIfInBounds_toArray, List.set_cons_zero, List.set_cons_succ]
    rfl
  refine plan_fix (N := some 85) (v := ?_) (a' := ?_) rfl rfl (fun u w' hBr hvr => step_val (by rfl) ?_ ⟨rfl, Below.refl _ _⟩) ?_ ?_
  rotate_left 2
  · have hk := HKS w' hBr; obtain ⟨k0, k1, k2, k3, k4, k5, k6, k7⟩ := hk
    go_simp
    with_reducible rfl
  · intro u
    simp only [Act.put, List.setIfInBounds_toArray, List.set_cons_zero, List.set_cons_succ]
    rfl
  refine plan_fix (N := some 86) (v := ?_) (a' := ?_) rfl rfl (fun u w' hBr hvr => step_call Try.func7 (by kernel_rfl) rfl #[.slice Q6 l6.length d6, .agg #[v0, v1, v2, .slice A3 ch.length c3, .slice A4 kn.length c4, .slice A5 stl.length c5, .slice A6 rn.length c6, v7]] (by rfl) rfl (by (try simp only [List.map_toArray, List.map_cons, List.map_nil]); first | done | rfl) ?_) ?_ ?_
  rotate_left 2
  · refine (HO6 w' hBr).mono ?_
    rintro e w'' ⟨rfl, hbn⟩
    refine ⟨_, rfl, ?_, hbn⟩
    with_reducible rfl
  · intro u
    simp only [Act.put, List.setIfInBounds_toArray, List.set_cons_zero, List.set_cons_succ]
    rfl
  refine plan_fix (N := some 87) (v := ?_) (a' := ?_) rfl rfl (fun u w' hBr hvr => step_val (by rfl) ?_ ⟨rfl, Below.refl _ _⟩) ?_ ?_
  rotate_left 2
  · go_simp
    with_reducible rfl
  · intro u
    simp only [Act.put, List.setIfInBounds_toArray, List.set_cons_zero, List.set_cons_succ]
    rfl
  refine plan_fix (N := some 88) (v := .bool true) (a' := ?_) rfl rfl (fun u w' hBr hvr => step_val (w' := w') (by rfl) ?_ ⟨rfl, Below.refl _ _⟩) ?_ ?_
  rotate_left
  · go_simp
  · intro u
    simp only [Act.put, List.setIfInBounds_toArray, List.set_cons_zero, List.set_cons_succ]
    rfl
  refine plan_fix (N := some 89) (v := ?_) (a' := ?_) rfl rfl (fun u w' hBr hvr => step_val (by rfl) ?_ ⟨rfl, Below.refl _ _⟩) ?_ ?_
  rotate_left 2
  · go_simp
    with_reducible rfl
  · intro u
    simp only [Act.put, List.setIfInBounds_toArray, List.set_cons_zero, List.set_cons_succ]
    rfl
  refine plan_fix (N := some 90) (v := ?_) (a' := ?_) rfl rfl (fun u w' hBr hvr => step_val (by rfl) ?_ ⟨rfl, Below.refl _ _⟩) ?_ ?_
  rotate_left 2
  · go_simp
    with_reducible rfl
  · intro u
    simp only [Act.put, List.setIfInBounds_toArray, List.set_cons_zero, List.set_cons_succ]
    rfl
  refine plan_fix (N := some 91) (v := ?_) (a' := ?_) rfl rfl (fun u w' hBr hvr => step_val (by rfl) ?_ ⟨rfl, Below.refl _ _⟩) ?_ ?_
  rotate_left 2
  · go_simp
    with_reducible rfl
  · intro u
    simp only [Act.put, List.setIfInBounds_toArray, List.set_cons_zero, List.set_cons_succ]
    rfl
  refine plan_fix (N := some 92) (v := ?_) (a' := ?_) rfl rfl (fun u w' hBr hvr => step_val (by rfl) ?_ ⟨rfl, Below.refl _ _⟩) ?_ ?_
  rotate_left 2
  · have hk := HKS w' hBr; obtain ⟨k0, k1, k2, k3, k4, k5, k6, k7⟩ := hk
    go_simp
    with_reducible rfl
  · intro u
    simp only [Act.put, List.setIfInBounds_toArray, List.set_cons_zero, List.set_cons_succ]
    rfl
  refine plan_fix (N := some 93) (v := ?_) (a' := ?_) rfl rfl (fun u w' hBr hvr => step_call Try.func7 (by kernel_rfl) rfl #[.slice Q7 l7.length d7, .agg #[v0, v1, v2, .slice A3 ch.length c3, .slice A4 kn.length c4, .slice A5 stl.length c5, .slice A6 rn.length c6, v7]] (by rfl) rfl (by (try simp only [List.map_toArray, List.map_cons, List.map_nil]); first | done | rfl) ?_) ?_ ?_
  rotate_left 2
  · refine (HO7 w' hBr).mono ?_
    rintro e w'' ⟨rfl, hbn⟩
    refine ⟨_, rfl, ?_, hbn⟩
    with_reducible rfl
  · intro u
    simp only [Act.put, List.setIfInBounds_toArray, List.set_cons_zero, List.set_cons_succ]
    rfl
  refine plan_fix (N := some 94) (v := ?_) (a' := ?_) rfl rfl (fun u w' hBr hvr => step_val (by rfl) ?_ ⟨rfl, Below.refl _ _⟩) ?_ ?_
  rotate_left 2
  · go_simp
    with_reducible rfl
  · intro u
    simp only [Act.put, List.setIfInBounds_toArray, List.set_cons_zero, List.set_cons_succ]
    rfl
  refine plan_fix (N := some 95) (v := .bool true) (a' := ?_) rfl rfl (fun u w' hBr hvr => step_val (w' := w') (by rfl) ?_ ⟨rfl, Below.refl _ _⟩) ?_ ?_
  rotate_left
  · go_simp
  · intro u
    simp only [Act.put, List.setIfInBounds_toArray, List.set_cons_zero, List.set_cons_succ]
    rfl
  refine plan_fix (N := some 96) (v := ?_) (a' := ?_) rfl rfl (fun u w' hBr hvr => step_val (by rfl) ?_ ⟨rfl, Below.refl _ _⟩) ?_ ?_
  rotate_left 2
  · go_simp
    with_reducible rfl
  · intro u
    simp only [Act.put, List.setIfInBounds_toArray, List.set_cons_zero, List.set_cons_succ]
    rfl
  refine plan_fix (N := some 97) (v := ?_) (a' := ?_) rfl rfl (fun u w' hBr hvr => step_val (by rfl) ?_ ⟨rfl, Below.refl _ _⟩) ?_ ?_
  rotate_left 2
  · go_simp
    with_reducible rfl
  · intro u
    simp only [Act.put, List.setIfInBounds_toArray, List.set_cons_zero, List.set_cons_succ]
    rfl
  refine plan_fix (N := some 98) (v := ?_) (a' := ?_) rfl rfl (fun u w' hBr hvr => step_val (by rfl) ?_ ⟨rfl, Below.refl _ _⟩) ?_ ?_
  rotate_left 2
  · go_simp
    with_reducible rfl
  · intro u
    simp only [Act.put, List.setIfInBounds_toArray, List.set_cons_zero, List.set_cons_succ]
    rfl
  refine plan_fix (N := some 99) (v := ?_) (a' := ?_) rfl rfl (fun u w' hBr hvr => step_call Try.func5 (by kernel_rfl) rfl #[.slice Q6 l6.length d6] (by rfl) rfl (by (try simp only [List.map_toArray, List.map_cons, List.map_nil]); first | done | rfl) ?_) ?_ ?_
  rotate_left 2
  · refine (HE6 w' hBr).mono ?_
    rintro e w'' ⟨rfl, hbn⟩
    refine ⟨_, rfl, ?_, hbn⟩
    with_reducible rfl
  · intro u
    simp only [Act.put, List.setIfInBounds_toArray, List.set_cons_zero, List.set_cons_succ]
    rfl
  refine plan_fix (N := some 100) (v := ?_) (a' := ?_) rfl rfl (fun u w' hBr hvr => step_val (by rfl) ?_ ⟨rfl, Below.refl _ _⟩) ?_ ?_
  rotate_left 2
  · go_simp
    with_reducible rfl
  · intro u
    simp only [Act.put, List.setIfInBounds_toArray, List.set_cons_zero, List.set_cons_succ]
    rfl
  refine plan_fix (N := some 101) (v := ?_) (a' := ?_) rfl rfl (fun u w' hBr hvr => step_call Try.func5 (by kernel_rfl) rfl #[.slice (some adf) f.length c0] (by rfl) rfl (by (try simp only [List.map_toArray, List.map_cons, List.map_nil]); first | done | rfl) ?_) ?_ ?_
  rotate_left 2
  · refine (HEF w' hBr).mono ?_
    rintro e w'' ⟨rfl, hbn⟩
    refine ⟨_, rfl, ?_, hbn⟩
    with_reducible rfl
  · intro u
    simp only [Act.put, List.setIfInBounds_toArray, List.set_cons_zero, List.set_cons_succ]
    rfl
  refine plan_fix (N := some 102) (v := .int .i64 (df + 2)) (a' := ?_) rfl rfl (fun u w' hBr hvr => step_val (w' := w') (by rfl) ?_ ⟨rfl, Below.refl _ _⟩) ?_ ?_
  rotate_left
  · go_simp
  · intro u
    simp only [Act.put, List.setIfInBounds_toArray, List.set_cons_zero, List.set_cons_succ]
    rfl
  refine plan_fix (N := some 103) (v := .bool true) (a' := ?_) rfl rfl (fun u w' hBr hvr => step_val (w' := w') (by rfl) ?_ ⟨rfl, Below.refl _ _⟩) ?_ ?_
  rotate_left
  · go_simp
  · intro u
    simp only [Act.put, List.setIfInBounds_toArray, List.set_cons_zero, List.set_cons_succ]
    rfl
  refine plan_fix (N := some 104) (v := ?_) (a' := ?_) rfl rfl (fun u w' hBr hvr => step_val (by rfl) ?_ ⟨rfl, Below.refl _ _⟩) ?_ ?_
  rotate_left 2
  · go_simp
    with_reducible rfl
  · intro u
    simp only [Act.put, List.setIfInBounds_toArray, List.set_cons_zero, List.set_cons_succ]
    rfl
  refine plan_fix (N := some 105) (v := ?_) (a' := ?_) rfl rfl (fun u w' hBr hvr => step_val (by rfl) ?_ ⟨rfl, Below.refl _ _⟩) ?_ ?_
  rotate_left 2
  · go_simp
    with_reducible rfl
  · intro u
    simp only [Act.put, List.setIfInBounds_toArray, List.set_cons_zero, List.set_cons_succ]
    rfl
  refine plan_fix (N := some 106) (v := ?_) (a' := ?_) rfl rfl (fun u w' hBr hvr => step_val (by rfl) ?_ ⟨rfl, Below.refl _ _⟩) ?_ ?_
  rotate_left 2
  · go_simp
    with_reducible rfl
  · intro u
    simp only [Act.put, List.setIfInBounds_toArray, List.set_cons_zero, List.set_cons_succ]
    rfl
  refine plan_fix (N := some 107) (v := ?_) (a' := ?_) rfl rfl (fun u w' hBr hvr => step_call Try.func5 (by kernel_rfl) rfl #[.slice Q4 l4.length d4] (by rfl) rfl (by (try simp only [List.map_toArray, List.map_cons, List.map_nil]); first | done | rfl) ?_) ?_ ?_
  rotate_left 2
  · refine (HE4 w' hBr).mono ?_
    rintro e w'' ⟨rfl, hbn⟩
    refine ⟨_, rfl, ?_, hbn⟩
    with_reducible rfl
  · intro u
    simp only [Act.put, List.setIfInBounds_toArray, List.set_cons_zero, List.set_cons_succ]
    rfl
  refine plan_fix (N := some 108) (v := ?_) (a' := ?_) rfl rfl (fun u w' hBr hvr => step_val (by rfl) ?_ ⟨rfl, Below.refl _ _⟩) ?_ ?_
  rotate_left 2
  · go_simp
    with_reducible rfl
  · intro u
    simp only [Act.put, List.setIfInBounds_toArray, List.set_cons_zero, List.set_cons_succ]
    rfl
  refine plan_fix (N := some 109) (v := ?_) (a' := ?_) rfl rfl (fun u w' hBr hvr => step_call Try.func5 (by kernel_rfl) rfl #[.slice (some adf) f.length c0] (by rfl) rfl (by (try simp only [List.map_toArray, List.map_cons, List.map_nil]); first | done | rfl) ?_) ?_ ?_
  rotate_left 2
  · refine (HEF w' hBr).mono ?_
    rintro e w'' ⟨rfl, hbn⟩
    refine ⟨_, rfl, ?_, hbn⟩
    with_reducible rfl
  · intro u
    simp only [Act.put, List.setIfInBounds_toArray, List.set_cons_zero, List.set_cons_succ]
    rfl
  refine plan_fix (N := some 110) (v := ?_) (a' := ?_) rfl rfl (fun u w' hBr hvr => step_val (by rfl) ?_ ⟨rfl, Below.refl _ _⟩) ?_ ?_
  rotate_left 2
  · go_simp
    with_reducible rfl
  · intro u
    simp only [Act.put, List.setIfInBounds_toArray, List.set_cons_zero, List.set_cons_succ]
    rfl
  refine plan_fix (N := some 111) (v := ?_) (a' := ?_) rfl rfl (fun u w' hBr hvr => step_call Try.func5 (by kernel_rfl) rfl #[.slice (some adg) g.length c1] (by rfl) rfl (by (try simp only [List.map_toArray, List.map_cons, List.map_nil]); first | done | rfl) ?_) ?_ ?_
  rotate_left 2
  · refine (HEG w' hBr).mono ?_
    rintro e w'' ⟨rfl, hbn⟩
    refine ⟨_, rfl, ?_, hbn⟩
    with_reducible rfl
  · intro u
    simp only [Act.put, List.setIfInBounds_toArray, List.set_cons_zero, List.set_cons_succ]
    rfl
  refine plan_fix (N := some 112) (v := .int .i64 (max df dg)) (a' := ?_) rfl rfl (fun u w' hBr hvr => step_val (w' := w') (by rfl) ?_ ⟨rfl, Below.refl _ _⟩) ?_ ?_
  rotate_left
  · go_simp
  · intro u
    simp only [Act.put, List.setIfInBounds_toArray, List.set_cons_zero, List.set_cons_succ]
    rfl
  refine plan_fix (N := some 113) (v := .int .i64 (2 + max df dg)) (a' := ?_) rfl rfl (fun u w' hBr hvr => step_val (w' := w') (by rfl) ?_ ⟨rfl, Below.refl _ _⟩) ?_ ?_
  rotate_left
  · go_simp
  · intro u
    simp only [Act.put, List.setIfInBounds_toArray, List.set_cons_zero, List.set_cons_succ]
    rfl
  refine plan_fix (N := some 114) (v := .bool true) (a' := ?_) rfl rfl (fun u w' hBr hvr => step_val (w' := w') (by rfl) ?_ ⟨rfl, Below.refl _ _⟩) ?_ ?_
  rotate_left
  · go_simp
  · intro u
    simp only [Act.put, List.setIfInBounds_toArray, List.set_cons_zero, List.set_cons_succ]
    rfl
  refine plan_fix (N := some 115) (v := ?_) (a' := ?_) rfl rfl (fun u w' hBr hvr => step_val (by rfl) ?_ ⟨rfl, Below.refl _ _⟩) ?_ ?_
  rotate_left 2
  · go_simp
    with_reducible rfl
  · intro u
    simp only [Act.put, List.setIfInBounds_toArray, List.set_cons_zero, List.set_cons_succ]
    rfl
  refine plan_fix (N := some 116) (v := ?_) (a' := ?_) rfl rfl (fun u w' hBr hvr => step_val (by rfl) ?_ ⟨rfl, Below.refl _ _⟩) ?_ ?_
  rotate_left 2
  · go_simp
    with_reducible rfl
  · intro u
    simp only [Act.put, List.setIfInBounds_toArray, List.set_cons_zero, List.set_cons_succ]
    rfl
  refine plan_fix (N := some 117) (v := ?_) (a' := ?_) rfl rfl (fun u w' hBr hvr => step_call Try.func6 (by kernel_rfl) rfl #[] (by rfl) rfl (by (try simp only [List.map_toArray, List.map_cons, List.map_nil]); first | done | rfl) ?_) ?_ ?_
  rotate_left 2
  · refine (awake15_calls w').mono ?_
    rintro e w'' ⟨rfl, hbn⟩
    refine ⟨_, rfl, ?_, hbn⟩
    with_reducible rfl
  · intro u
    simp only [Act.put, List.setIfInBounds_toArray, List.set_cons_zero, List.set_cons_succ]
    rfl
  refine plan_fix (N := some 118) (v := ?_) (a' := ?_) rfl rfl (fun u w' hBr hvr => step_val (by rfl) ?_ ⟨rfl, Below.refl _ _⟩) ?_ ?_
  rotate_left 2
  · go_simp
    with_reducible rfl
  · intro u
    simp only [Act.put, List.setIfInBounds_toArray, List.set_cons_zero, List.set_cons_succ]
    rfl
  refine plan_fix (N := some 6) (v := ?_) (a' := ?_) rfl rfl (fun u w' hBr hvr => step_val (by rfl) ?_ ⟨rfl, Below.refl _ _⟩) ?_ ?_
  rotate_left 2
  · go_simp
    with_reducible rfl
  · intro u
    simp only [Act.put, List.setIfInBounds_toArray, List.set_cons_zero, List.set_cons_succ]
    rfl
  refine plan_end rfl rfl (fun u wz hBz _ => ?_)
  go_wp2
  go_ret
  exact ⟨rfl, HEND.out.trans (hBz.mono hzE)⟩
end Go.Proofs.Ytmelefiodhnlpaa
