/- moatlaw8.JarTells: the walk: what the package jar answers is what the document's own text answers. -/
import Derived.Test.YtmelefiodhnlpaaDoorRefFits
import Derived.Test.YtmelefiodhnlpaaDoorAwake8
import Derived.Test.YtmelefiodhnlpaaDoorReg
set_option linter.unusedSimpArgs false
set_option linter.unusedVariables false
namespace Go.Proofs.YtmelefiodhnlpaaDoor
open Go Go.RowKit Go.Proofs.YtmelefiodhnlpaaDoorW.PrintWords Go.Proofs.YtmelefiodhnlpaaDoorW.PrintLast Go.Proofs.YtmelefiodhnlpaaDoorW.PrintMore Go.Proofs.YtmelefiodhnlpaaDoor.BB

theorem near_same (k : Nat) (a b : Int) (l : List S32) (hl : ∀ x ∈ l, x.f2.size ≤ 100) (hk : 700 ≤ k) : ∃ r, BB.jar_Near.f a b l = some r ∧ BE.moatref8_Near.f k a b l = some r := by
  have hrd : ∀ i : Int, 0 ≤ i → i < (l.length : Int) → (rd_T32 l i).f2.size ≤ 100 := fun i h0 h1 => by
    have hi : i.toNat < l.length := by omega
    unfold rd_T32
    rw [List.getD_eq_getElem?_getD, List.getElem?_eq_getElem hi]
    exact hl _ (List.getElem_mem hi)
  unfold BB.jar_Near.f BE.moatref8_Near.f
  by_cases h1 : a = -2
  · exact ⟨true, by rw [if_pos h1], by rw [if_pos h1]⟩
  · rw [if_neg h1, if_neg h1]
    by_cases h2 : a ≥ 0
    · rw [if_pos h2, if_pos h2]
      by_cases h3 : a < (l.length : Int)
      · rw [if_pos h3, if_pos h3]
        by_cases h4 : b ≥ 0
        · rw [if_pos h4, if_pos h4]
          by_cases h5 : b < (l.length : Int)
          · have z1 := hrd a h2 h3
            have z2 := hrd b h4 h5
            rw [if_pos h5, if_pos h5, if_pos h2, if_pos h2, if_pos h4, if_pos h4, SameSite_f _ _ _ _ _ _ _ _ (by omega) (by omega), RefSameSite_f k _ _ _ _ _ _ _ _ (by omega) (by omega) (by omega)]
            exact ⟨_, rfl, rfl⟩
          · exact ⟨false, by simp [h2, h4, h5], by simp [h2, h4, h5]⟩
        · exact ⟨false, by simp [h2, h4], by simp [h2, h4]⟩
      · exact ⟨false, by simp [h2, h3], by simp [h2, h3]⟩
    · exact ⟨false, by rw [if_neg h2], by rw [if_neg h2]⟩

set_option maxRecDepth 100000 in
set_option maxHeartbeats 8000000 in
theorem moatlaw8_JarTells.walk (n : ByteArray) (o : Int) (d cp : ByteArray) (s h : Bool) (m : Int) (host tn ts th : ByteArray) (tp : Int) (p method : ByteArray) (bits by_ at_ : Int) (A0 : Option Addr) (cap : Nat) (l : List S32) (w : World)
    (hC : Kd.C k32 w A0 l.length l) (hcap : l.length ≤ cap) (hd : d.size ≤ 140737488351232) (hcp : cp.size ≤ 140737488351232) (hhost : host.size ≤ 140737488351232) (hth : th.size ≤ 140737488351232) (hp : p.size ≤ 140737488351232) :
    Calls Tryd.prog 6 #[.agg #[.string n, .int .i64 o, .string d, .string cp, .bool s, .bool h, .int .i64 m], .string host, .agg #[.string tn, .string ts, .string th, .int .i64 tp], .string p, .string method, .int .i64 bits, .int .i64 by_, .int .i64 at_, .slice A0 l.length cap] w fun e w' =>
      e = .returned (.bool true) ∧ Below w.heap.size w w' := by
  have HC := Lib.hid hC
  clear hC
  go_enter Tryd.func6, Tryd.ntmps6
  go_upto_region 1 with (fail)
  obtain ⟨W0, hW0⟩ : ∃ W0, (w.alloc (.cells #[.string n, .int .i64 o, .string d, .string cp, .bool s, .bool h, .int .i64 m] 39)).alloc (.cells #[.string tn, .string ts, .string th, .int .i64 tp] 32) = W0 := ⟨_, rfl⟩
  have hs0 : W0.heap.size = w.heap.size + 2 := by rw [← hW0]; simp
  have hbl : Below w.heap.size w W0 := by rw [← hW0]; exact ((Below.refl _ w).alloc (Nat.le_refl _) _).alloc (by simp) _
  have hbk : W0.heap[w.heap.size]? = some (.cells #[.string n, .int .i64 o, .string d, .string cp, .bool s, .bool h, .int .i64 m] 39 (0, 0)) := by
    rw [← hW0]; exact (Below.heap_alloc _ _ _ (by simp)).trans (World.alloc_heap_new w _)
  have hbk2 : W0.heap[w.heap.size + 1]? = some (.cells #[.string tn, .string ts, .string th, .int .i64 tp] 32 (0, 0)) := by
    rw [← hW0]; have := World.alloc_heap_new (w.alloc (.cells #[.string n, .int .i64 o, .string d, .string cp, .bool s, .bool h, .int .i64 m] 39)) (.cells #[.string tn, .string ts, .string th, .int .i64 tp] 32); rwa [World.size_alloc] at this
  rw [hW0]
  clear hW0
  have HB0 := Lib.hid hbl
  have HC0 := Lib.hid (Kd.C_below HC.out hbl)
  clear hbl
  have K : ∀ wc, Below W0.heap.size W0 wc → wc.cell? ⟨w.heap.size, 0, none⟩ = some (.string n) ∧ wc.cell? ⟨w.heap.size, 1, none⟩ = some (.int .i64 o) ∧ wc.cell? ⟨w.heap.size, 2, none⟩ = some (.string d) ∧ wc.cell? ⟨w.heap.size, 3, none⟩ = some (.string cp) ∧ wc.cell? ⟨w.heap.size, 4, none⟩ = some (.bool s) ∧ wc.cell? ⟨w.heap.size, 5, none⟩ = some (.bool h) ∧ wc.cell? ⟨w.heap.size, 6, none⟩ = some (.int .i64 m) ∧
      wc.cell? ⟨w.heap.size + 1, 0, none⟩ = some (.string tn) ∧ wc.cell? ⟨w.heap.size + 1, 1, none⟩ = some (.string ts) ∧ wc.cell? ⟨w.heap.size + 1, 2, none⟩ = some (.string th) ∧ wc.cell? ⟨w.heap.size + 1, 3, none⟩ = some (.int .i64 tp) := fun wc hb => by
    have e1 := (hb.block w.heap.size (by omega)).trans hbk
    have e2 := (hb.block (w.heap.size + 1) (by omega)).trans hbk2
    refine ⟨?_, ?_, ?_, ?_, ?_, ?_, ?_, ?_, ?_, ?_, ?_⟩ <;> simp [World.cell?, e1, e2]
  have HK := Lib.hid K
  clear K hbk hbk2
  obtain ⟨k0, k1, k2, k3, k4, k5, k6, j0, j1, j2, j3⟩ := HK.out W0 (Below.refl _ _)
  by_cases hbig : 300 < d.size + cp.size + host.size + p.size + th.size
  · have hbig1 : (300 : Int) < (d.size : Int) + (cp.size : Int) + (host.size : Int) + (p.size : Int) + (th.size : Int) := by omega
    go_wp2_with (go_at_call 18; refine (awake8_calls _).mono ?_; rintro e w1 ⟨rfl, hb1⟩)
    go_ret
    exact ⟨rfl, HB0.out.trans (hb1.mono (by omega))⟩
  · have hbig1 : ¬ (300 : Int) < (d.size : Int) + (cp.size : Int) + (host.size : Int) + (p.size : Int) + (th.size : Int) := by omega
    by_cases hmany : 8 < l.length
    · have hmany1 : (8 : Int) < (l.length : Int) := by omega
      go_wp2_with (go_at_call 18; refine (awake8_calls _).mono ?_; rintro e w1 ⟨rfl, hb1⟩)
      go_ret
      exact ⟨rfl, HB0.out.trans (hb1.mono (by omega))⟩
    · have hmany1 : ¬ (8 : Int) < (l.length : Int) := by omega
      clear k0 k1 k2 k3 k4 k5 k6 j0 j1 j2 j3 hbig1 hmany1
      have hd0 : d.size ≤ 300 := by omega
      have hcp0 : cp.size ≤ 300 := by omega
      have hth0 : th.size ≤ 300 := by omega
      have hp0 : p.size ≤ 300 := by omega
      obtain ⟨k0, k1, k2, k3, k4, k5, k6, j0, j1, j2, j3⟩ := HK.out W0 (Below.refl _ _)
      have hbig1 : ¬ (300 : Int) < (d.size : Int) + (cp.size : Int) + (host.size : Int) + (p.size : Int) + (th.size : Int) := by omega
      have hmany1 : ¬ (8 : Int) < (l.length : Int) := by omega
      go_wp2_with fail
      clear k0 k1 k2 k3 k4 k5 k6 j0 j1 j2 j3 hbig1 hmany1
      go_loopg [19] l.length (fun gk v19 wr => ∃ i : Nat, v19 = .int .i64 i ∧ i + gk = l.length ∧ wr = W0 ∧ Aside0 (∀ x ∈ l.take i, x.f2.size ≤ 100))
      case atStart => exact ⟨0, rfl, by omega, rfl, ⟨by simp⟩⟩
      case round =>
        obtain ⟨i, rfl, hik, rfl, hall⟩ := hrel
        by_cases hi : i < l.length
        · have hi1 : (i : Int) < (l.length : Int) := by omega
          obtain ⟨ad, rfl, _, _, q2, _⟩ := at_T32 HC0.out (i : Int) (by omega) (by omega)
          simp only [Int.toNat_natCast] at q2
          have hx : rd_T32 l (i : Int) = l[i] := by
            unfold rd_T32
            rw [Int.toNat_natCast, List.getD_eq_getElem?_getD, List.getElem?_eq_getElem hi]; rfl
          rw [hx] at q2
          have HTK := Lib.hid (show l.take (i + 1) = l.take i ++ [l[i]] from List.take_succ_eq_append_getElem hi)
          generalize l[i] = x at q2 HTK
          clear hx
          by_cases h100 : 100 < x.f2.size
          · have h100' : (100 : Int) < (x.f2.size : Int) := by omega
            go_wp2_with (go_at_call 18; refine (awake8_calls _).mono ?_; rintro e w1 ⟨rfl, hb1⟩)
            go_ret
            exact ⟨rfl, HB0.out.trans (hb1.mono (by omega))⟩
          · have h100' : ¬ (100 : Int) < (x.f2.size : Int) := by omega
            go_wp2
            go_roundg (gk - 1)
            case measure => omega
            case rel => exact ⟨i + 1, by go_num, by omega, rfl, ⟨by
              rw [HTK.out]
              intro y hy
              rcases List.mem_append.1 hy with h | h
              · exact hall.out y h
              · rw [List.mem_singleton.1 h]; omega⟩⟩
        · have hall' : ∀ x ∈ l, x.f2.size ≤ 100 := by
            have := hall.out
            rw [List.take_of_length_le (by omega)] at this
            exact this
          obtain ⟨NB, hn1, hn2⟩ := near_same 700 by_ at_ l hall' (Nat.le_refl _)
          have hNear := fun (w' : World) (hc : Kd.C k32 w' A0 l.length l) => BB.jar_Near.calls by_ at_ A0 cap l NB w' hc hcap hn1
          have hRNear := fun (w' : World) (hc : Kd.C k32 w' A0 l.length l) => BE.moatref8_Near.calls 700 by_ at_ A0 cap l NB w' hc hcap hn2
          have hFits := fun w' => BB.jar_Fits.calls 1 n o d cp s h m host tn ts th tp p _ w' (Fits_f 0 n o d cp s h m host tn ts th tp p (by omega) (by omega) (by omega) (by omega))
          have hVis := fun w' => BB.jar_Visible.calls 1 n o d cp s h m host tn ts th tp p _ w' (Visible_f 0 n o d cp s h m host tn ts th tp p (by omega) (by omega) (by omega) (by omega))
          have hRFits := fun w' => RefFits_calls n o d cp s h m host tn ts th tp p w' (by omega) (by omega) (by omega) (by omega)
          clear hn1 hn2 hall' hall
          generalize fitsL d.data.toList cp.data.toList s host.data.toList ts.data.toList th.data.toList p.data.toList = FT at *
          obtain ⟨k0, k1, k2, k3, k4, k5, k6, j0, j1, j2, j3⟩ := HK.out wr (Below.refl _ _)
          go_upto_region 9 with (go_at_call 19; refine (hRFits _).mono ?_; rintro e w1 ⟨rfl, hb1⟩)
          go_upto_region 10 with (fail)
          clear k0 k1 k2 k3 k4 k5 k6 j0 j1 j2 j3 hRFits
          generalize (Go.bits .and .i64 bits 1 == 1) = ne
          generalize (Go.bits .and .i64 bits 2 == 2) = nt
          have hGoes := fun w' => BB.jar_Goes.calls n o d cp s h m ne nt method _ w' (Goes_f n o d cp s h m ne nt method)
          have hRGoes := fun w' => BE.moatref8_Goes.calls n o d cp s h m ne nt method _ w' (RefGoes_f n o d cp s h m ne nt method)
          generalize goesL m ne nt method.data.toList = GB at *
          have hgg : (GB == GB) = true := by cases GB <;> rfl
          have hnn : (NB == NB) = true := by cases NB <;> rfl
          have hhh : ((!h) == (!h)) = true := by cases h <;> rfl
          cases FT with
          | true =>
            simp only [Bool.true_and] at hVis
            refine region_plan (m := 49) (by kernel_rfl) (by kernel_rfl) (fun W hW => ?_)
            have hWW : Below wr.heap.size wr W := by rw [hW]; exact below_drew1 hb1
            have HKW := fun w' (hb : Below W.heap.size W w') => HK.out w' (hWW.trans (hb.mono hWW.size))
            have HCW := Kd.C_below HC0.out hWW
            have HEND := Lib.hid hWW
            have hzW := hWW.size
            clear hW hWW
            refine plan_fix (N := some 72) (v := ?_) (a' := ?_) rfl rfl (fun u w' hBr hvr => step_val (by rfl) ?_ ⟨rfl, Below.refl _ _⟩) ?_ ?_
            rotate_left 2
            · obtain ⟨k0, k1, k2, k3, k4, k5, k6, j0, j1, j2, j3⟩ := HKW w' hBr
              go_simp
              with_reducible rfl
            · intro u
              simp only [Act.put, List.setIfInBounds_toArray, List.set_cons_zero, List.set_cons_succ]
              rfl
            refine plan_fix (N := some 73) (v := ?_) (a' := ?_) rfl rfl (fun u w' hBr hvr => step_val (by rfl) ?_ ⟨rfl, Below.refl _ _⟩) ?_ ?_
            rotate_left 2
            · go_simp
              with_reducible rfl
            · intro u
              simp only [Act.put, List.setIfInBounds_toArray, List.set_cons_zero, List.set_cons_succ]
              rfl
            refine plan_fix (N := some 74) (v := ?_) (a' := ?_) rfl rfl (fun u w' hBr hvr => step_val (by rfl) ?_ ⟨rfl, Below.refl _ _⟩) ?_ ?_
            rotate_left 2
            · obtain ⟨k0, k1, k2, k3, k4, k5, k6, j0, j1, j2, j3⟩ := HKW w' hBr
              go_simp
              with_reducible rfl
            · intro u
              simp only [Act.put, List.setIfInBounds_toArray, List.set_cons_zero, List.set_cons_succ]
              rfl
            refine plan_fix (N := some 75) (v := ?_) (a' := ?_) rfl rfl (fun u w' hBr hvr => step_val (by rfl) ?_ ⟨rfl, Below.refl _ _⟩) ?_ ?_
            rotate_left 2
            · go_simp
              with_reducible rfl
            · intro u
              simp only [Act.put, List.setIfInBounds_toArray, List.set_cons_zero, List.set_cons_succ]
              rfl
            refine plan_fix (N := some 76) (v := ?_) (a' := ?_) rfl rfl (fun u w' hBr hvr => step_call Tryd.func20 (by kernel_rfl) rfl #[.agg #[.string n, .int .i64 o, .string d, .string cp, .bool s, .bool h, .int .i64 m], .string host, .agg #[.string tn, .string ts, .string th, .int .i64 tp], .string p] (by rfl) rfl (by (try simp only [List.map_toArray, List.map_cons, List.map_nil]); first | done | rfl) ?_) ?_ ?_
            rotate_left 2
            · refine (hFits w').mono ?_
              rintro e w'' ⟨rfl, hbn⟩
              refine ⟨_, rfl, ?_, hbn⟩
              with_reducible rfl
            · intro u
              simp only [Act.put, List.setIfInBounds_toArray, List.set_cons_zero, List.set_cons_succ]
              rfl
            refine plan_fix (N := some 77) (v := ?_) (a' := ?_) rfl rfl (fun u w' hBr hvr => step_val (by rfl) ?_ ⟨rfl, Below.refl _ _⟩) ?_ ?_
            rotate_left 2
            · go_simp
              with_reducible rfl
            · intro u
              simp only [Act.put, List.setIfInBounds_toArray, List.set_cons_zero, List.set_cons_succ]
              rfl
            refine plan_fix (N := some 78) (v := ?_) (a' := ?_) rfl rfl (fun u w' hBr hvr => step_val (by rfl) ?_ ⟨rfl, Below.refl _ _⟩) ?_ ?_
            rotate_left 2
            · go_simp
              with_reducible rfl
            · intro u
              simp only [Act.put, List.setIfInBounds_toArray, List.set_cons_zero, List.set_cons_succ]
              rfl
            refine plan_fix (N := some 79) (v := ?_) (a' := ?_) rfl rfl (fun u w' hBr hvr => step_val (by rfl) ?_ ⟨rfl, Below.refl _ _⟩) ?_ ?_
            rotate_left 2
            · go_simp
              with_reducible rfl
            · intro u
              simp only [Act.put, List.setIfInBounds_toArray, List.set_cons_zero, List.set_cons_succ]
              rfl
            refine plan_fix (N := some 80) (v := ?_) (a' := ?_) rfl rfl (fun u w' hBr hvr => step_val (by rfl) ?_ ⟨rfl, Below.refl _ _⟩) ?_ ?_
            rotate_left 2
            · obtain ⟨k0, k1, k2, k3, k4, k5, k6, j0, j1, j2, j3⟩ := HKW w' hBr
              go_simp
              with_reducible rfl
            · intro u
              simp only [Act.put, List.setIfInBounds_toArray, List.set_cons_zero, List.set_cons_succ]
              rfl
            refine plan_fix (N := some 81) (v := ?_) (a' := ?_) rfl rfl (fun u w' hBr hvr => step_val (by rfl) ?_ ⟨rfl, Below.refl _ _⟩) ?_ ?_
            rotate_left 2
            · go_simp
              with_reducible rfl
            · intro u
              simp only [Act.put, List.setIfInBounds_toArray, List.set_cons_zero, List.set_cons_succ]
              rfl
            refine plan_fix (N := some 82) (v := ?_) (a' := ?_) rfl rfl (fun u w' hBr hvr => step_val (by rfl) ?_ ⟨rfl, Below.refl _ _⟩) ?_ ?_
            rotate_left 2
            · obtain ⟨k0, k1, k2, k3, k4, k5, k6, j0, j1, j2, j3⟩ := HKW w' hBr
              go_simp
              with_reducible rfl
            · intro u
              simp only [Act.put, List.setIfInBounds_toArray, List.set_cons_zero, List.set_cons_succ]
              rfl
            refine plan_fix (N := some 83) (v := ?_) (a' := ?_) rfl rfl (fun u w' hBr hvr => step_val (by rfl) ?_ ⟨rfl, Below.refl _ _⟩) ?_ ?_
            rotate_left 2
            · go_simp
              with_reducible rfl
            · intro u
              simp only [Act.put, List.setIfInBounds_toArray, List.set_cons_zero, List.set_cons_succ]
              rfl
            refine plan_fix (N := some 84) (v := ?_) (a' := ?_) rfl rfl (fun u w' hBr hvr => step_call Tryd.func21 (by kernel_rfl) rfl #[.agg #[.string n, .int .i64 o, .string d, .string cp, .bool s, .bool h, .int .i64 m], .string host, .agg #[.string tn, .string ts, .string th, .int .i64 tp], .string p] (by rfl) rfl (by (try simp only [List.map_toArray, List.map_cons, List.map_nil]); first | done | rfl) ?_) ?_ ?_
            rotate_left 2
            · refine (hVis w').mono ?_
              rintro e w'' ⟨rfl, hbn⟩
              refine ⟨_, rfl, ?_, hbn⟩
              with_reducible rfl
            · intro u
              simp only [Act.put, List.setIfInBounds_toArray, List.set_cons_zero, List.set_cons_succ]
              rfl
            refine plan_fix (N := some 85) (v := ?_) (a' := ?_) rfl rfl (fun u w' hBr hvr => step_val (by rfl) ?_ ⟨rfl, Below.refl _ _⟩) ?_ ?_
            rotate_left 2
            · go_simp
              with_reducible rfl
            · intro u
              simp only [Act.put, List.setIfInBounds_toArray, List.set_cons_zero, List.set_cons_succ]
              rfl
            refine plan_fix (N := some 86) (v := ?_) (a' := ?_) rfl rfl (fun u w' hBr hvr => step_val (by rfl) ?_ ⟨rfl, Below.refl _ _⟩) ?_ ?_
            rotate_left 2
            · go_simp
              with_reducible rfl
            · intro u
              simp only [Act.put, List.setIfInBounds_toArray, List.set_cons_zero, List.set_cons_succ]
              rfl
            refine plan_fix (N := some 87) (v := ?_) (a' := ?_) rfl rfl (fun u w' hBr hvr => step_val (by rfl) ?_ ⟨rfl, Below.refl _ _⟩) ?_ ?_
            rotate_left 2
            · go_simp
              with_reducible rfl
            · intro u
              simp only [Act.put, List.setIfInBounds_toArray, List.set_cons_zero, List.set_cons_succ]
              rfl
            refine plan_fix (N := some 88) (v := ?_) (a' := ?_) rfl rfl (fun u w' hBr hvr => step_val (by rfl) ?_ ⟨rfl, Below.refl _ _⟩) ?_ ?_
            rotate_left 2
            · obtain ⟨k0, k1, k2, k3, k4, k5, k6, j0, j1, j2, j3⟩ := HKW w' hBr
              go_simp
              with_reducible rfl
            · intro u
              simp only [Act.put, List.setIfInBounds_toArray, List.set_cons_zero, List.set_cons_succ]
              rfl
            refine plan_fix (N := some 89) (v := ?_) (a' := ?_) rfl rfl (fun u w' hBr hvr => step_val (by rfl) ?_ ⟨rfl, Below.refl _ _⟩) ?_ ?_
            rotate_left 2
            · go_simp
              with_reducible rfl
            · intro u
              simp only [Act.put, List.setIfInBounds_toArray, List.set_cons_zero, List.set_cons_succ]
              rfl
            refine plan_fix (N := some 90) (v := ?_) (a' := ?_) rfl rfl (fun u w' hBr hvr => step_val (by rfl) ?_ ⟨rfl, Below.refl _ _⟩) ?_ ?_
            rotate_left 2
            · go_simp
              with_reducible rfl
            · intro u
              simp only [Act.put, List.setIfInBounds_toArray, List.set_cons_zero, List.set_cons_succ]
              rfl
            refine plan_fix (N := some 91) (v := ?_) (a' := ?_) rfl rfl (fun u w' hBr hvr => step_val (by rfl) ?_ ⟨rfl, Below.refl _ _⟩) ?_ ?_
            rotate_left 2
            · go_simp
              with_reducible rfl
            · intro u
              simp only [Act.put, List.setIfInBounds_toArray, List.set_cons_zero, List.set_cons_succ]
              rfl
            refine plan_fix (N := some 92) (v := ?_) (a' := ?_) rfl rfl (fun u w' hBr hvr => step_val (by rfl) ?_ ⟨rfl, Below.refl _ _⟩) ?_ ?_
            rotate_left 2
            · go_simp
              with_reducible rfl
            · intro u
              simp only [Act.put, List.setIfInBounds_toArray, List.set_cons_zero, List.set_cons_succ]
              rfl
            refine plan_fix (N := some 93) (v := ?_) (a' := ?_) rfl rfl (fun u w' hBr hvr => step_val (by rfl) ?_ ⟨rfl, Below.refl _ _⟩) ?_ ?_
            rotate_left 2
            · go_simp
              with_reducible rfl
            · intro u
              simp only [Act.put, List.setIfInBounds_toArray, List.set_cons_zero, List.set_cons_succ]
              rfl
            refine plan_fix (N := some 94) (v := ?_) (a' := ?_) rfl rfl (fun u w' hBr hvr => step_val (by rfl) ?_ ⟨rfl, Below.refl _ _⟩) ?_ ?_
            rotate_left 2
            · obtain ⟨k0, k1, k2, k3, k4, k5, k6, j0, j1, j2, j3⟩ := HKW w' hBr
              go_simp
              with_reducible rfl
            · intro u
              simp only [Act.put, List.setIfInBounds_toArray, List.set_cons_zero, List.set_cons_succ]
              rfl
            refine plan_fix (N := some 95) (v := ?_) (a' := ?_) rfl rfl (fun u w' hBr hvr => step_val (by rfl) ?_ ⟨rfl, Below.refl _ _⟩) ?_ ?_
            rotate_left 2
            · go_simp
              with_reducible rfl
            · intro u
              simp only [Act.put, List.setIfInBounds_toArray, List.set_cons_zero, List.set_cons_succ]
              rfl
            refine plan_fix (N := some 96) (v := ?_) (a' := ?_) rfl rfl (fun u w' hBr hvr => step_val (by rfl) ?_ ⟨rfl, Below.refl _ _⟩) ?_ ?_
            rotate_left 2
            · go_simp
              with_reducible rfl
            · intro u
              simp only [Act.put, List.setIfInBounds_toArray, List.set_cons_zero, List.set_cons_succ]
              rfl
            refine plan_fix (N := some 97) (v := ?_) (a' := ?_) rfl rfl (fun u w' hBr hvr => step_val (by rfl) ?_ ⟨rfl, Below.refl _ _⟩) ?_ ?_
            rotate_left 2
            · go_simp
              with_reducible rfl
            · intro u
              simp only [Act.put, List.setIfInBounds_toArray, List.set_cons_zero, List.set_cons_succ]
              rfl
            refine plan_fix (N := some 98) (v := ?_) (a' := ?_) rfl rfl (fun u w' hBr hvr => step_call Tryd.func22 (by kernel_rfl) rfl #[.agg #[.string n, .int .i64 o, .string d, .string cp, .bool s, .bool h, .int .i64 m], .bool _, .bool _, .string method] (by rfl) rfl (by (try simp only [List.map_toArray, List.map_cons, List.map_nil]); first | done | rfl) ?_) ?_ ?_
            rotate_left 2
            · refine (hGoes w').mono ?_
              rintro e w'' ⟨rfl, hbn⟩
              refine ⟨_, rfl, ?_, hbn⟩
              with_reducible rfl
            · intro u
              simp only [Act.put, List.setIfInBounds_toArray, List.set_cons_zero, List.set_cons_succ]
              rfl
            refine plan_fix (N := some 99) (v := ?_) (a' := ?_) rfl rfl (fun u w' hBr hvr => step_val (by rfl) ?_ ⟨rfl, Below.refl _ _⟩) ?_ ?_
            rotate_left 2
            · obtain ⟨k0, k1, k2, k3, k4, k5, k6, j0, j1, j2, j3⟩ := HKW w' hBr
              go_simp
              with_reducible rfl
            · intro u
              simp only [Act.put, List.setIfInBounds_toArray, List.set_cons_zero, List.set_cons_succ]
              rfl
            refine plan_fix (N := some 100) (v := ?_) (a' := ?_) rfl rfl (fun u w' hBr hvr => step_val (by rfl) ?_ ⟨rfl, Below.refl _ _⟩) ?_ ?_
            rotate_left 2
            · go_simp
              with_reducible rfl
            · intro u
              simp only [Act.put, List.setIfInBounds_toArray, List.set_cons_zero, List.set_cons_succ]
              rfl
            refine plan_fix (N := some 101) (v := ?_) (a' := ?_) rfl rfl (fun u w' hBr hvr => step_val (by rfl) ?_ ⟨rfl, Below.refl _ _⟩) ?_ ?_
            rotate_left 2
            · go_simp
              with_reducible rfl
            · intro u
              simp only [Act.put, List.setIfInBounds_toArray, List.set_cons_zero, List.set_cons_succ]
              rfl
            refine plan_fix (N := some 102) (v := ?_) (a' := ?_) rfl rfl (fun u w' hBr hvr => step_val (by rfl) ?_ ⟨rfl, Below.refl _ _⟩) ?_ ?_
            rotate_left 2
            · go_simp
              with_reducible rfl
            · intro u
              simp only [Act.put, List.setIfInBounds_toArray, List.set_cons_zero, List.set_cons_succ]
              rfl
            refine plan_fix (N := some 103) (v := ?_) (a' := ?_) rfl rfl (fun u w' hBr hvr => step_call Tryd.func23 (by kernel_rfl) rfl #[.agg #[.string n, .int .i64 o, .string d, .string cp, .bool s, .bool h, .int .i64 m], .bool _, .bool _, .string method] (by rfl) rfl (by (try simp only [List.map_toArray, List.map_cons, List.map_nil]); first | done | rfl) ?_) ?_ ?_
            rotate_left 2
            · refine (hRGoes w').mono ?_
              rintro e w'' ⟨rfl, hbn⟩
              refine ⟨_, rfl, ?_, hbn⟩
              with_reducible rfl
            · intro u
              simp only [Act.put, List.setIfInBounds_toArray, List.set_cons_zero, List.set_cons_succ]
              rfl
            refine plan_fix (N := some 104) (v := ?_) (a' := ?_) rfl rfl (fun u w' hBr hvr => step_val (by rfl) ?_ ⟨rfl, Below.refl _ _⟩) ?_ ?_
            rotate_left 2
            · go_simp
              with_reducible rfl
            · intro u
              simp only [Act.put, List.setIfInBounds_toArray, List.set_cons_zero, List.set_cons_succ]
              rfl
            refine plan_fix (N := some 105) (v := ?_) (a' := ?_) rfl rfl (fun u w' hBr hvr => step_val (by rfl) ?_ ⟨rfl, Below.refl _ _⟩) ?_ ?_
            rotate_left 2
            · go_simp
              with_reducible rfl
            · intro u
              simp only [Act.put, List.setIfInBounds_toArray, List.set_cons_zero, List.set_cons_succ]
              rfl
            refine plan_fix (N := some 106) (v := ?_) (a' := ?_) rfl rfl (fun u w' hBr hvr => step_val (by rfl) ?_ ⟨rfl, Below.refl _ _⟩) ?_ ?_
            rotate_left 2
            · go_simp
              with_reducible rfl
            · intro u
              simp only [Act.put, List.setIfInBounds_toArray, List.set_cons_zero, List.set_cons_succ]
              rfl
            refine plan_fix (N := some 107) (v := ?_) (a' := ?_) rfl rfl (fun u w' hBr hvr => step_val (by rfl) ?_ ⟨rfl, Below.refl _ _⟩) ?_ ?_
            rotate_left 2
            · go_simp
              with_reducible rfl
            · intro u
              simp only [Act.put, List.setIfInBounds_toArray, List.set_cons_zero, List.set_cons_succ]
              rfl
            refine plan_fix (N := some 108) (v := ?_) (a' := ?_) rfl rfl (fun u w' hBr hvr => step_val (by rfl) ?_ ⟨rfl, Below.refl _ _⟩) ?_ ?_
            rotate_left 2
            · go_simp
              with_reducible rfl
            · intro u
              simp only [Act.put, List.setIfInBounds_toArray, List.set_cons_zero, List.set_cons_succ]
              rfl
            refine plan_fix (N := some 109) (v := ?_) (a' := ?_) rfl rfl (fun u w' hBr hvr => step_val (by rfl) ?_ ⟨rfl, Below.refl _ _⟩) ?_ ?_
            rotate_left 2
            · go_simp
              with_reducible rfl
            · intro u
              simp only [Act.put, List.setIfInBounds_toArray, List.set_cons_zero, List.set_cons_succ]
              rfl
            refine plan_fix (N := some 110) (v := ?_) (a' := ?_) rfl rfl (fun u w' hBr hvr => step_call Tryd.func24 (by kernel_rfl) rfl #[.int .i64 by_, .int .i64 at_, .slice A0 l.length cap] (by rfl) rfl (by (try simp only [List.map_toArray, List.map_cons, List.map_nil]); first | done | rfl) ?_) ?_ ?_
            rotate_left 2
            · refine (hNear w' (Kd.C_below HCW hBr)).mono ?_
              rintro e w'' ⟨rfl, hbn⟩
              refine ⟨_, rfl, ?_, hbn⟩
              with_reducible rfl
            · intro u
              simp only [Act.put, List.setIfInBounds_toArray, List.set_cons_zero, List.set_cons_succ]
              rfl
            refine plan_fix (N := some 111) (v := ?_) (a' := ?_) rfl rfl (fun u w' hBr hvr => step_val (by rfl) ?_ ⟨rfl, Below.refl _ _⟩) ?_ ?_
            rotate_left 2
            · go_simp
              with_reducible rfl
            · intro u
              simp only [Act.put, List.setIfInBounds_toArray, List.set_cons_zero, List.set_cons_succ]
              rfl
            refine plan_fix (N := some 112) (v := ?_) (a' := ?_) rfl rfl (fun u w' hBr hvr => step_val (by rfl) ?_ ⟨rfl, Below.refl _ _⟩) ?_ ?_
            rotate_left 2
            · go_simp
              with_reducible rfl
            · intro u
              simp only [Act.put, List.setIfInBounds_toArray, List.set_cons_zero, List.set_cons_succ]
              rfl
            refine plan_fix (N := some 113) (v := ?_) (a' := ?_) rfl rfl (fun u w' hBr hvr => step_val (by rfl) ?_ ⟨rfl, Below.refl _ _⟩) ?_ ?_
            rotate_left 2
            · go_simp
              with_reducible rfl
            · intro u
              simp only [Act.put, List.setIfInBounds_toArray, List.set_cons_zero, List.set_cons_succ]
              rfl
            refine plan_fix (N := some 114) (v := ?_) (a' := ?_) rfl rfl (fun u w' hBr hvr => step_call Tryd.func25 (by kernel_rfl) rfl #[.int .i64 by_, .int .i64 at_, .slice A0 l.length cap] (by rfl) rfl (by (try simp only [List.map_toArray, List.map_cons, List.map_nil]); first | done | rfl) ?_) ?_ ?_
            rotate_left 2
            · refine (hRNear w' (Kd.C_below HCW hBr)).mono ?_
              rintro e w'' ⟨rfl, hbn⟩
              refine ⟨_, rfl, ?_, hbn⟩
              with_reducible rfl
            · intro u
              simp only [Act.put, List.setIfInBounds_toArray, List.set_cons_zero, List.set_cons_succ]
              rfl
            refine plan_fix (N := some 115) (v := ?_) (a' := ?_) rfl rfl (fun u w' hBr hvr => step_val (by rfl) ?_ ⟨rfl, Below.refl _ _⟩) ?_ ?_
            rotate_left 2
            · go_simp
              with_reducible rfl
            · intro u
              simp only [Act.put, List.setIfInBounds_toArray, List.set_cons_zero, List.set_cons_succ]
              rfl
            refine plan_fix (N := some 116) (v := ?_) (a' := ?_) rfl rfl (fun u w' hBr hvr => step_val (by rfl) ?_ ⟨rfl, Below.refl _ _⟩) ?_ ?_
            rotate_left 2
            · go_simp
              with_reducible rfl
            · intro u
              simp only [Act.put, List.setIfInBounds_toArray, List.set_cons_zero, List.set_cons_succ]
              rfl
            refine plan_fix (N := some 117) (v := ?_) (a' := ?_) rfl rfl (fun u w' hBr hvr => step_val (by rfl) ?_ ⟨rfl, Below.refl _ _⟩) ?_ ?_
            rotate_left 2
            · go_simp
              with_reducible rfl
            · intro u
              simp only [Act.put, List.setIfInBounds_toArray, List.set_cons_zero, List.set_cons_succ]
              rfl
            refine plan_fix (N := some 118) (v := ?_) (a' := ?_) rfl rfl (fun u w' hBr hvr => step_call Tryd.func18 (by kernel_rfl) rfl #[] (by rfl) rfl (by (try simp only [List.map_toArray, List.map_cons, List.map_nil]); first | done | rfl) ?_) ?_ ?_
            rotate_left 2
            · refine (awake8_calls w').mono ?_
              rintro e w'' ⟨rfl, hbn⟩
              refine ⟨_, rfl, ?_, hbn⟩
              with_reducible rfl
            · intro u
              simp only [Act.put, List.setIfInBounds_toArray, List.set_cons_zero, List.set_cons_succ]
              rfl
            refine plan_fix (N := some 119) (v := ?_) (a' := ?_) rfl rfl (fun u w' hBr hvr => step_val (by rfl) ?_ ⟨rfl, Below.refl _ _⟩) ?_ ?_
            rotate_left 2
            · go_simp
              with_reducible rfl
            · intro u
              simp only [Act.put, List.setIfInBounds_toArray, List.set_cons_zero, List.set_cons_succ]
              rfl
            refine plan_fix (N := some 18) (v := ?_) (a' := ?_) rfl rfl (fun u w' hBr hvr => step_val (by rfl) ?_ ⟨rfl, Below.refl _ _⟩) ?_ ?_
            rotate_left 2
            · go_simp
              with_reducible rfl
            · intro u
              simp only [Act.put, List.setIfInBounds_toArray, List.set_cons_zero, List.set_cons_succ]
              rfl
            refine plan_end rfl rfl (fun u wz hBz _ => ?_)
            go_wp2
            go_ret
            exact ⟨rfl, HB0.out.trans ((HEND.out.trans (hBz.mono hzW)).mono (by omega))⟩
          | false =>
            simp only [Bool.false_and] at hVis
            refine region_plan (m := 49) (by kernel_rfl) (by kernel_rfl) (fun W hW => ?_)
            have hWW : Below wr.heap.size wr W := by rw [hW]; exact below_drew1 hb1
            have HKW := fun w' (hb : Below W.heap.size W w') => HK.out w' (hWW.trans (hb.mono hWW.size))
            have HCW := Kd.C_below HC0.out hWW
            have HEND := Lib.hid hWW
            have hzW := hWW.size
            clear hW hWW
            refine plan_fix (N := some 72) (v := ?_) (a' := ?_) rfl rfl (fun u w' hBr hvr => step_val (by rfl) ?_ ⟨rfl, Below.refl _ _⟩) ?_ ?_
            rotate_left 2
            · obtain ⟨k0, k1, k2, k3, k4, k5, k6, j0, j1, j2, j3⟩ := HKW w' hBr
              go_simp
              with_reducible rfl
            · intro u
              simp only [Act.put, List.setIfInBounds_toArray, List.set_cons_zero, List.set_cons_succ]
              rfl
            refine plan_fix (N := some 73) (v := ?_) (a' := ?_) rfl rfl (fun u w' hBr hvr => step_val (by rfl) ?_ ⟨rfl, Below.refl _ _⟩) ?_ ?_
            rotate_left 2
            · go_simp
              with_reducible rfl
            · intro u
              simp only [Act.put, List.setIfInBounds_toArray, List.set_cons_zero, List.set_cons_succ]
              rfl
            refine plan_fix (N := some 74) (v := ?_) (a' := ?_) rfl rfl (fun u w' hBr hvr => step_val (by rfl) ?_ ⟨rfl, Below.refl _ _⟩) ?_ ?_
            rotate_left 2
            · obtain ⟨k0, k1, k2, k3, k4, k5, k6, j0, j1, j2, j3⟩ := HKW w' hBr
              go_simp
              with_reducible rfl
            · intro u
              simp only [Act.put, List.setIfInBounds_toArray, List.set_cons_zero, List.set_cons_succ]
              rfl
            refine plan_fix (N := some 75) (v := ?_) (a' := ?_) rfl rfl (fun u w' hBr hvr => step_val (by rfl) ?_ ⟨rfl, Below.refl _ _⟩) ?_ ?_
            rotate_left 2
            · go_simp
              with_reducible rfl
            · intro u
              simp only [Act.put, List.setIfInBounds_toArray, List.set_cons_zero, List.set_cons_succ]
              rfl
            refine plan_fix (N := some 76) (v := ?_) (a' := ?_) rfl rfl (fun u w' hBr hvr => step_call Tryd.func20 (by kernel_rfl) rfl #[.agg #[.string n, .int .i64 o, .string d, .string cp, .bool s, .bool h, .int .i64 m], .string host, .agg #[.string tn, .string ts, .string th, .int .i64 tp], .string p] (by rfl) rfl (by (try simp only [List.map_toArray, List.map_cons, List.map_nil]); first | done | rfl) ?_) ?_ ?_
            rotate_left 2
            · refine (hFits w').mono ?_
              rintro e w'' ⟨rfl, hbn⟩
              refine ⟨_, rfl, ?_, hbn⟩
              with_reducible rfl
            · intro u
              simp only [Act.put, List.setIfInBounds_toArray, List.set_cons_zero, List.set_cons_succ]
              rfl
            refine plan_fix (N := some 77) (v := ?_) (a' := ?_) rfl rfl (fun u w' hBr hvr => step_val (by rfl) ?_ ⟨rfl, Below.refl _ _⟩) ?_ ?_
            rotate_left 2
            · go_simp
              with_reducible rfl
            · intro u
              simp only [Act.put, List.setIfInBounds_toArray, List.set_cons_zero, List.set_cons_succ]
              rfl
            refine plan_fix (N := some 78) (v := ?_) (a' := ?_) rfl rfl (fun u w' hBr hvr => step_val (by rfl) ?_ ⟨rfl, Below.refl _ _⟩) ?_ ?_
            rotate_left 2
            · go_simp
              with_reducible rfl
            · intro u
              simp only [Act.put, List.setIfInBounds_toArray, List.set_cons_zero, List.set_cons_succ]
              rfl
            refine plan_fix (N := some 79) (v := ?_) (a' := ?_) rfl rfl (fun u w' hBr hvr => step_val (by rfl) ?_ ⟨rfl, Below.refl _ _⟩) ?_ ?_
            rotate_left 2
            · go_simp
              with_reducible rfl
            · intro u
              simp only [Act.put, List.setIfInBounds_toArray, List.set_cons_zero, List.set_cons_succ]
              rfl
            refine plan_fix (N := some 80) (v := ?_) (a' := ?_) rfl rfl (fun u w' hBr hvr => step_val (by rfl) ?_ ⟨rfl, Below.refl _ _⟩) ?_ ?_
            rotate_left 2
            · obtain ⟨k0, k1, k2, k3, k4, k5, k6, j0, j1, j2, j3⟩ := HKW w' hBr
              go_simp
              with_reducible rfl
            · intro u
              simp only [Act.put, List.setIfInBounds_toArray, List.set_cons_zero, List.set_cons_succ]
              rfl
            refine plan_fix (N := some 81) (v := ?_) (a' := ?_) rfl rfl (fun u w' hBr hvr => step_val (by rfl) ?_ ⟨rfl, Below.refl _ _⟩) ?_ ?_
            rotate_left 2
            · go_simp
              with_reducible rfl
            · intro u
              simp only [Act.put, List.setIfInBounds_toArray, List.set_cons_zero, List.set_cons_succ]
              rfl
            refine plan_fix (N := some 82) (v := ?_) (a' := ?_) rfl rfl (fun u w' hBr hvr => step_val (by rfl) ?_ ⟨rfl, Below.refl _ _⟩) ?_ ?_
            rotate_left 2
            · obtain ⟨k0, k1, k2, k3, k4, k5, k6, j0, j1, j2, j3⟩ := HKW w' hBr
              go_simp
              with_reducible rfl
            · intro u
              simp only [Act.put, List.setIfInBounds_toArray, List.set_cons_zero, List.set_cons_succ]
              rfl
            refine plan_fix (N := some 83) (v := ?_) (a' := ?_) rfl rfl (fun u w' hBr hvr => step_val (by rfl) ?_ ⟨rfl, Below.refl _ _⟩) ?_ ?_
            rotate_left 2
            · go_simp
              with_reducible rfl
            · intro u
              simp only [Act.put, List.setIfInBounds_toArray, List.set_cons_zero, List.set_cons_succ]
              rfl
            refine plan_fix (N := some 84) (v := ?_) (a' := ?_) rfl rfl (fun u w' hBr hvr => step_call Tryd.func21 (by kernel_rfl) rfl #[.agg #[.string n, .int .i64 o, .string d, .string cp, .bool s, .bool h, .int .i64 m], .string host, .agg #[.string tn, .string ts, .string th, .int .i64 tp], .string p] (by rfl) rfl (by (try simp only [List.map_toArray, List.map_cons, List.map_nil]); first | done | rfl) ?_) ?_ ?_
            rotate_left 2
            · refine (hVis w').mono ?_
              rintro e w'' ⟨rfl, hbn⟩
              refine ⟨_, rfl, ?_, hbn⟩
              with_reducible rfl
            · intro u
              simp only [Act.put, List.setIfInBounds_toArray, List.set_cons_zero, List.set_cons_succ]
              rfl
            refine plan_fix (N := some 85) (v := ?_) (a' := ?_) rfl rfl (fun u w' hBr hvr => step_val (by rfl) ?_ ⟨rfl, Below.refl _ _⟩) ?_ ?_
            rotate_left 2
            · go_simp
              with_reducible rfl
            · intro u
              simp only [Act.put, List.setIfInBounds_toArray, List.set_cons_zero, List.set_cons_succ]
              rfl
            refine plan_fix (N := some 86) (v := ?_) (a' := ?_) rfl rfl (fun u w' hBr hvr => step_val (by rfl) ?_ ⟨rfl, Below.refl _ _⟩) ?_ ?_
            rotate_left 2
            · go_simp
              with_reducible rfl
            · intro u
              simp only [Act.put, List.setIfInBounds_toArray, List.set_cons_zero, List.set_cons_succ]
              rfl
            refine plan_fix (N := some 87) (v := undef) (a' := ?_) rfl rfl (fun u w' hBr hvr => step_off (by rfl) ⟨rfl, Below.refl _ _⟩) ?_ ?_
            rotate_left
            · intro u
              simp only [Act.put, List.setIfInBounds_toArray, List.set_cons_zero, List.set_cons_succ]
              rfl
            refine plan_fix (N := some 88) (v := undef) (a' := ?_) rfl rfl (fun u w' hBr hvr => step_off (by rfl) ⟨rfl, Below.refl _ _⟩) ?_ ?_
            rotate_left
            · intro u
              simp only [Act.put, List.setIfInBounds_toArray, List.set_cons_zero, List.set_cons_succ]
              rfl
            refine plan_fix (N := some 89) (v := undef) (a' := ?_) rfl rfl (fun u w' hBr hvr => step_off (by rfl) ⟨rfl, Below.refl _ _⟩) ?_ ?_
            rotate_left
            · intro u
              simp only [Act.put, List.setIfInBounds_toArray, List.set_cons_zero, List.set_cons_succ]
              rfl
            refine plan_fix (N := some 90) (v := ?_) (a' := ?_) rfl rfl (fun u w' hBr hvr => step_val (by rfl) ?_ ⟨rfl, Below.refl _ _⟩) ?_ ?_
            rotate_left 2
            · go_simp
              with_reducible rfl
            · intro u
              simp only [Act.put, List.setIfInBounds_toArray, List.set_cons_zero, List.set_cons_succ]
              rfl
            refine plan_fix (N := some 91) (v := ?_) (a' := ?_) rfl rfl (fun u w' hBr hvr => step_val (by rfl) ?_ ⟨rfl, Below.refl _ _⟩) ?_ ?_
            rotate_left 2
            · go_simp
              with_reducible rfl
            · intro u
              simp only [Act.put, List.setIfInBounds_toArray, List.set_cons_zero, List.set_cons_succ]
              rfl
            refine plan_fix (N := some 92) (v := ?_) (a' := ?_) rfl rfl (fun u w' hBr hvr => step_val (by rfl) ?_ ⟨rfl, Below.refl _ _⟩) ?_ ?_
            rotate_left 2
            · go_simp
              with_reducible rfl
            · intro u
              simp only [Act.put, List.setIfInBounds_toArray, List.set_cons_zero, List.set_cons_succ]
              rfl
            refine plan_fix (N := some 93) (v := ?_) (a' := ?_) rfl rfl (fun u w' hBr hvr => step_val (by rfl) ?_ ⟨rfl, Below.refl _ _⟩) ?_ ?_
            rotate_left 2
            · go_simp
              with_reducible rfl
            · intro u
              simp only [Act.put, List.setIfInBounds_toArray, List.set_cons_zero, List.set_cons_succ]
              rfl
            refine plan_fix (N := some 94) (v := ?_) (a' := ?_) rfl rfl (fun u w' hBr hvr => step_val (by rfl) ?_ ⟨rfl, Below.refl _ _⟩) ?_ ?_
            rotate_left 2
            · obtain ⟨k0, k1, k2, k3, k4, k5, k6, j0, j1, j2, j3⟩ := HKW w' hBr
              go_simp
              with_reducible rfl
            · intro u
              simp only [Act.put, List.setIfInBounds_toArray, List.set_cons_zero, List.set_cons_succ]
              rfl
            refine plan_fix (N := some 95) (v := ?_) (a' := ?_) rfl rfl (fun u w' hBr hvr => step_val (by rfl) ?_ ⟨rfl, Below.refl _ _⟩) ?_ ?_
            rotate_left 2
            · go_simp
              with_reducible rfl
            · intro u
              simp only [Act.put, List.setIfInBounds_toArray, List.set_cons_zero, List.set_cons_succ]
              rfl
            refine plan_fix (N := some 96) (v := ?_) (a' := ?_) rfl rfl (fun u w' hBr hvr => step_val (by rfl) ?_ ⟨rfl, Below.refl _ _⟩) ?_ ?_
            rotate_left 2
            · go_simp
              with_reducible rfl
            · intro u
              simp only [Act.put, List.setIfInBounds_toArray, List.set_cons_zero, List.set_cons_succ]
              rfl
            refine plan_fix (N := some 97) (v := ?_) (a' := ?_) rfl rfl (fun u w' hBr hvr => step_val (by rfl) ?_ ⟨rfl, Below.refl _ _⟩) ?_ ?_
            rotate_left 2
            · go_simp
              with_reducible rfl
            · intro u
              simp only [Act.put, List.setIfInBounds_toArray, List.set_cons_zero, List.set_cons_succ]
              rfl
            refine plan_fix (N := some 98) (v := ?_) (a' := ?_) rfl rfl (fun u w' hBr hvr => step_call Tryd.func22 (by kernel_rfl) rfl #[.agg #[.string n, .int .i64 o, .string d, .string cp, .bool s, .bool h, .int .i64 m], .bool _, .bool _, .string method] (by rfl) rfl (by (try simp only [List.map_toArray, List.map_cons, List.map_nil]); first | done | rfl) ?_) ?_ ?_
            rotate_left 2
            · refine (hGoes w').mono ?_
              rintro e w'' ⟨rfl, hbn⟩
              refine ⟨_, rfl, ?_, hbn⟩
              with_reducible rfl
            · intro u
              simp only [Act.put, List.setIfInBounds_toArray, List.set_cons_zero, List.set_cons_succ]
              rfl
            refine plan_fix (N := some 99) (v := ?_) (a' := ?_) rfl rfl (fun u w' hBr hvr => step_val (by rfl) ?_ ⟨rfl, Below.refl _ _⟩) ?_ ?_
            rotate_left 2
            · obtain ⟨k0, k1, k2, k3, k4, k5, k6, j0, j1, j2, j3⟩ := HKW w' hBr
              go_simp
              with_reducible rfl
            · intro u
              simp only [Act.put, List.setIfInBounds_toArray, List.set_cons_zero, List.set_cons_succ]
              rfl
            refine plan_fix (N := some 100) (v := ?_) (a' := ?_) rfl rfl (fun u w' hBr hvr => step_val (by rfl) ?_ ⟨rfl, Below.refl _ _⟩) ?_ ?_
            rotate_left 2
            · go_simp
              with_reducible rfl
            · intro u
              simp only [Act.put, List.setIfInBounds_toArray, List.set_cons_zero, List.set_cons_succ]
              rfl
            refine plan_fix (N := some 101) (v := ?_) (a' := ?_) rfl rfl (fun u w' hBr hvr => step_val (by rfl) ?_ ⟨rfl, Below.refl _ _⟩) ?_ ?_
            rotate_left 2
            · go_simp
              with_reducible rfl
            · intro u
              simp only [Act.put, List.setIfInBounds_toArray, List.set_cons_zero, List.set_cons_succ]
              rfl
            refine plan_fix (N := some 102) (v := ?_) (a' := ?_) rfl rfl (fun u w' hBr hvr => step_val (by rfl) ?_ ⟨rfl, Below.refl _ _⟩) ?_ ?_
            rotate_left 2
            · go_simp
              with_reducible rfl
            · intro u
              simp only [Act.put, List.setIfInBounds_toArray, List.set_cons_zero, List.set_cons_succ]
              rfl
            refine plan_fix (N := some 103) (v := ?_) (a' := ?_) rfl rfl (fun u w' hBr hvr => step_call Tryd.func23 (by kernel_rfl) rfl #[.agg #[.string n, .int .i64 o, .string d, .string cp, .bool s, .bool h, .int .i64 m], .bool _, .bool _, .string method] (by rfl) rfl (by (try simp only [List.map_toArray, List.map_cons, List.map_nil]); first | done | rfl) ?_) ?_ ?_
            rotate_left 2
            · refine (hRGoes w').mono ?_
              rintro e w'' ⟨rfl, hbn⟩
              refine ⟨_, rfl, ?_, hbn⟩
              with_reducible rfl
            · intro u
              simp only [Act.put, List.setIfInBounds_toArray, List.set_cons_zero, List.set_cons_succ]
              rfl
            refine plan_fix (N := some 104) (v := ?_) (a' := ?_) rfl rfl (fun u w' hBr hvr => step_val (by rfl) ?_ ⟨rfl, Below.refl _ _⟩) ?_ ?_
            rotate_left 2
            · go_simp
              with_reducible rfl
            · intro u
              simp only [Act.put, List.setIfInBounds_toArray, List.set_cons_zero, List.set_cons_succ]
              rfl
            refine plan_fix (N := some 105) (v := ?_) (a' := ?_) rfl rfl (fun u w' hBr hvr => step_val (by rfl) ?_ ⟨rfl, Below.refl _ _⟩) ?_ ?_
            rotate_left 2
            · go_simp
              with_reducible rfl
            · intro u
              simp only [Act.put, List.setIfInBounds_toArray, List.set_cons_zero, List.set_cons_succ]
              rfl
            refine plan_fix (N := some 106) (v := ?_) (a' := ?_) rfl rfl (fun u w' hBr hvr => step_val (by rfl) ?_ ⟨rfl, Below.refl _ _⟩) ?_ ?_
            rotate_left 2
            · go_simp
              with_reducible rfl
            · intro u
              simp only [Act.put, List.setIfInBounds_toArray, List.set_cons_zero, List.set_cons_succ]
              rfl
            refine plan_fix (N := some 107) (v := ?_) (a' := ?_) rfl rfl (fun u w' hBr hvr => step_val (by rfl) ?_ ⟨rfl, Below.refl _ _⟩) ?_ ?_
            rotate_left 2
            · go_simp
              with_reducible rfl
            · intro u
              simp only [Act.put, List.setIfInBounds_toArray, List.set_cons_zero, List.set_cons_succ]
              rfl
            refine plan_fix (N := some 108) (v := ?_) (a' := ?_) rfl rfl (fun u w' hBr hvr => step_val (by rfl) ?_ ⟨rfl, Below.refl _ _⟩) ?_ ?_
            rotate_left 2
            · go_simp
              with_reducible rfl
            · intro u
              simp only [Act.put, List.setIfInBounds_toArray, List.set_cons_zero, List.set_cons_succ]
              rfl
            refine plan_fix (N := some 109) (v := ?_) (a' := ?_) rfl rfl (fun u w' hBr hvr => step_val (by rfl) ?_ ⟨rfl, Below.refl _ _⟩) ?_ ?_
            rotate_left 2
            · go_simp
              with_reducible rfl
            · intro u
              simp only [Act.put, List.setIfInBounds_toArray, List.set_cons_zero, List.set_cons_succ]
              rfl
            refine plan_fix (N := some 110) (v := ?_) (a' := ?_) rfl rfl (fun u w' hBr hvr => step_call Tryd.func24 (by kernel_rfl) rfl #[.int .i64 by_, .int .i64 at_, .slice A0 l.length cap] (by rfl) rfl (by (try simp only [List.map_toArray, List.map_cons, List.map_nil]); first | done | rfl) ?_) ?_ ?_
            rotate_left 2
            · refine (hNear w' (Kd.C_below HCW hBr)).mono ?_
              rintro e w'' ⟨rfl, hbn⟩
              refine ⟨_, rfl, ?_, hbn⟩
              with_reducible rfl
            · intro u
              simp only [Act.put, List.setIfInBounds_toArray, List.set_cons_zero, List.set_cons_succ]
              rfl
            refine plan_fix (N := some 111) (v := ?_) (a' := ?_) rfl rfl (fun u w' hBr hvr => step_val (by rfl) ?_ ⟨rfl, Below.refl _ _⟩) ?_ ?_
            rotate_left 2
            · go_simp
              with_reducible rfl
            · intro u
              simp only [Act.put, List.setIfInBounds_toArray, List.set_cons_zero, List.set_cons_succ]
              rfl
            refine plan_fix (N := some 112) (v := ?_) (a' := ?_) rfl rfl (fun u w' hBr hvr => step_val (by rfl) ?_ ⟨rfl, Below.refl _ _⟩) ?_ ?_
            rotate_left 2
            · go_simp
              with_reducible rfl
            · intro u
              simp only [Act.put, List.setIfInBounds_toArray, List.set_cons_zero, List.set_cons_succ]
              rfl
            refine plan_fix (N := some 113) (v := ?_) (a' := ?_) rfl rfl (fun u w' hBr hvr => step_val (by rfl) ?_ ⟨rfl, Below.refl _ _⟩) ?_ ?_
            rotate_left 2
            · go_simp
              with_reducible rfl
            · intro u
              simp only [Act.put, List.setIfInBounds_toArray, List.set_cons_zero, List.set_cons_succ]
              rfl
            refine plan_fix (N := some 114) (v := ?_) (a' := ?_) rfl rfl (fun u w' hBr hvr => step_call Tryd.func25 (by kernel_rfl) rfl #[.int .i64 by_, .int .i64 at_, .slice A0 l.length cap] (by rfl) rfl (by (try simp only [List.map_toArray, List.map_cons, List.map_nil]); first | done | rfl) ?_) ?_ ?_
            rotate_left 2
            · refine (hRNear w' (Kd.C_below HCW hBr)).mono ?_
              rintro e w'' ⟨rfl, hbn⟩
              refine ⟨_, rfl, ?_, hbn⟩
              with_reducible rfl
            · intro u
              simp only [Act.put, List.setIfInBounds_toArray, List.set_cons_zero, List.set_cons_succ]
              rfl
            refine plan_fix (N := some 115) (v := ?_) (a' := ?_) rfl rfl (fun u w' hBr hvr => step_val (by rfl) ?_ ⟨rfl, Below.refl _ _⟩) ?_ ?_
            rotate_left 2
            · go_simp
              with_reducible rfl
            · intro u
              simp only [Act.put, List.setIfInBounds_toArray, List.set_cons_zero, List.set_cons_succ]
              rfl
            refine plan_fix (N := some 116) (v := ?_) (a' := ?_) rfl rfl (fun u w' hBr hvr => step_val (by rfl) ?_ ⟨rfl, Below.refl _ _⟩) ?_ ?_
            rotate_left 2
            · go_simp
              with_reducible rfl
            · intro u
              simp only [Act.put, List.setIfInBounds_toArray, List.set_cons_zero, List.set_cons_succ]
              rfl
            refine plan_fix (N := some 117) (v := ?_) (a' := ?_) rfl rfl (fun u w' hBr hvr => step_val (by rfl) ?_ ⟨rfl, Below.refl _ _⟩) ?_ ?_
            rotate_left 2
            · go_simp
              with_reducible rfl
            · intro u
              simp only [Act.put, List.setIfInBounds_toArray, List.set_cons_zero, List.set_cons_succ]
              rfl
            refine plan_fix (N := some 118) (v := ?_) (a' := ?_) rfl rfl (fun u w' hBr hvr => step_call Tryd.func18 (by kernel_rfl) rfl #[] (by rfl) rfl (by (try simp only [List.map_toArray, List.map_cons, List.map_nil]); first | done | rfl) ?_) ?_ ?_
            rotate_left 2
            · refine (awake8_calls w').mono ?_
              rintro e w'' ⟨rfl, hbn⟩
              refine ⟨_, rfl, ?_, hbn⟩
              with_reducible rfl
            · intro u
              simp only [Act.put, List.setIfInBounds_toArray, List.set_cons_zero, List.set_cons_succ]
              rfl
            refine plan_fix (N := some 119) (v := ?_) (a' := ?_) rfl rfl (fun u w' hBr hvr => step_val (by rfl) ?_ ⟨rfl, Below.refl _ _⟩) ?_ ?_
            rotate_left 2
            · go_simp
              with_reducible rfl
            · intro u
              simp only [Act.put, List.setIfInBounds_toArray, List.set_cons_zero, List.set_cons_succ]
              rfl
            refine plan_fix (N := some 18) (v := ?_) (a' := ?_) rfl rfl (fun u w' hBr hvr => step_val (by rfl) ?_ ⟨rfl, Below.refl _ _⟩) ?_ ?_
            rotate_left 2
            · go_simp
              with_reducible rfl
            · intro u
              simp only [Act.put, List.setIfInBounds_toArray, List.set_cons_zero, List.set_cons_succ]
              rfl
            refine plan_end rfl rfl (fun u wz hBz _ => ?_)
            go_wp2
            go_ret
            exact ⟨rfl, HB0.out.trans ((HEND.out.trans (hBz.mono hzW)).mono (by omega))⟩
end Go.Proofs.YtmelefiodhnlpaaDoor
