/- formula.many, May of awake's site: the walks. -/
import Derived.Test.YtmelefiodhnlpaaText
set_option linter.unusedSimpArgs false
set_option linter.unusedVariables false
namespace Go.Proofs.Ytmelefiodhnlpaa
open Go Go.RowKit Go.Proofs.YtmelefiodhnlpaaW.PrintWords Go.Proofs.YtmelefiodhnlpaaW.PrintLast Go.Proofs.YtmelefiodhnlpaaW.PrintMore

def manyS (k : Int) : Int := if k = 1 ∨ k = 2 then 0 else if k = 3 then 1 else if k = 4 ∨ k = 5 then 0 else 1
theorem many_calls (sb : Nat) (k : Int) (w : World) (hk : k = 3 ∨ k = 6) : Calls Try.prog 17 #[siteV sb, .int .i64 k] w fun e w' => e = .returned (.int .i64 (manyS k)) ∧ Below w.heap.size w w' := by
  unfold siteV
  rcases hk with rfl | rfl
  · go_enter Try.func17, Try.ntmps17
    go_wp2
    go_ret
    exact ⟨rfl, (Below.refl _ w).alloc (Nat.le_refl _) _⟩
  · go_enter Try.func17, Try.ntmps17
    go_wp2
    go_ret
    exact ⟨rfl, (Below.refl _ w).alloc (Nat.le_refl _) _⟩
theorem site_cells {w : World} {b : Nat} {e : TypeId} {x0 x1 x2 x3 x4 x5 : Value} (h : w.heap[b]? = some (.cells #[x0, x1, x2, x3, x4, x5] e (0, 0))) :
    w.cell? ⟨b, 0, none⟩ = some x0 ∧ w.cell? ⟨b, 1, none⟩ = some x1 ∧ w.cell? ⟨b, 2, none⟩ = some x2 ∧ w.cell? ⟨b, 3, none⟩ = some x3 ∧ w.cell? ⟨b, 4, none⟩ = some x4 ∧ w.cell? ⟨b, 5, none⟩ = some x5 := by
  refine ⟨?_, ?_, ?_, ?_, ?_, ?_⟩ <;> simp [World.cell?, h]

set_option maxRecDepth 100000 in
set_option maxHeartbeats 2000000 in
theorem May_calls (sb : Nat) (A : Option Addr) (c : Nat) (f : List (Int × Int)) (w : World) (hC : Kd.C partK w A f.length f) (hf : f.length ≤ 1000) (hall : ∀ p ∈ f, (p.1 = 3 ∨ p.1 = 6) ∧ p.2 = 0) :
    Calls Try.prog 10 #[siteV sb, .slice A f.length c] w fun e w' => e = .returned (.bool (decide (0 < deepL f))) ∧ Below w.heap.size w w' := by
  unfold siteV
  have h0 : Below w.heap.size w (w.alloc (.cells #[.slice none 0 0, .slice none 0 0, .slice (some ⟨sb, 0, none⟩) 1 1, .slice none 0 0, .slice none 0 0, .bool false] 46)) := (Below.refl _ w).alloc (Nat.le_refl _) _
  go_enter Try.func10, Try.ntmps10
  go_upto_region 2 with (fail)
  obtain ⟨W0, hW0⟩ : ∃ W0, w.alloc (.cells #[.slice none 0 0, .slice none 0 0, .slice (some ⟨sb, 0, none⟩) 1 1, .slice none 0 0, .slice none 0 0, .bool false] 46) = W0 := ⟨_, rfl⟩
  have hbx : W0.heap[w.heap.size]? = some (.cells #[.slice none 0 0, .slice none 0 0, .slice (some ⟨sb, 0, none⟩) 1 1, .slice none 0 0, .slice none 0 0, .bool false] 46 (0, 0)) := by rw [← hW0]; exact heap_alloc_new w _
  have hs0 : W0.heap.size = w.heap.size + 1 := by rw [← hW0]; simp
  rw [hW0] at h0 ⊢
  clear hW0
  have HC0 := Lib.hid (Kd.C_below hC h0)
  have HBX := Lib.hid hbx
  have H0 := Lib.hid h0
  have HALL := Lib.hid hall
  clear hC hbx h0 hall
  go_loopg [9] f.length (fun gk v9 wr => ∃ i : Nat, v9 = .int .i64 i ∧ i + gk = f.length ∧ Aside0 (Below W0.heap.size W0 wr))
  case atStart => exact ⟨0, rfl, by omega, ⟨Below.refl _ _⟩⟩
  case round =>
    obtain ⟨i, rfl, hik, hB⟩ := hrel
    by_cases hi : i < f.length
    · obtain ⟨p, hp⟩ : ∃ p, f[i]? = some p := ⟨f[i], List.getElem?_eq_getElem hi⟩
      obtain ⟨hp1, hp2⟩ := HALL.out p (List.mem_of_getElem? hp)
      obtain ⟨ad, rfl, q1, q2⟩ := part_at (Kd.C_below HC0.out hB.out) i p hp
      rw [add_field _ _ 1 (by omega)] at q2
      rw [hp2] at q2
      have hi1 : (i : Int) < (f.length : Int) := by omega
      have hmn : manyS p.1 = 1 := by rcases hp1 with h | h <;> rw [h] <;> rfl
      have HM := Lib.hid (fun w => many_calls sb p.1 w hp1)
      rw [hmn] at HM
      clear hp hmn hp2 hp1
      generalize p.1 = k at q1 HM
      go_upto_region 4 with (fail)
      obtain ⟨W1, hW1⟩ : ∃ W1, wr.alloc (.cells #[.int .i64 k, .int .i64 0] 32) = W1 := ⟨_, rfl⟩
      have hb1 : Below wr.heap.size wr W1 := by rw [← hW1]; exact (Below.refl _ wr).alloc (Nat.le_refl _) _
      have hk1 : W1.heap[wr.heap.size]? = some (.cells #[.int .i64 k, .int .i64 0] 32 (0, 0)) := by rw [← hW1]; exact heap_alloc_new wr _
      have hs1 : W1.heap.size = wr.heap.size + 1 := by rw [← hW1]; simp
      rw [hW1]
      clear hW1 q1 q2
      have hsB := hB.out.size
      refine region_plan (tk := false) (m := 12) (by kernel_rfl) (by kernel_rfl) (fun W hW => ?_)
      have hWW : Below W1.heap.size W1 W := by rw [hW]; exact below_drew1 (Below.refl _ _)
      have hW0W : Below W0.heap.size W0 W := hB.out.trans ((hb1.trans (hWW.mono hb1.size)).mono hsB)
      have HK := fun (w' : World) (hb : Below W.heap.size W w') => site_cells (((hW0W.trans (hb.mono hW0W.size)).block w.heap.size (by omega)).trans HBX.out)
      have HP := fun (w' : World) (hb : Below W.heap.size W w') => show w'.cell? ⟨wr.heap.size, 0, none⟩ = some (.int .i64 k) ∧ w'.cell? ⟨wr.heap.size, 1, none⟩ = some (.int .i64 0) by
        have h1 := ((hWW.trans (hb.mono hWW.size)).block wr.heap.size (by omega)).trans hk1
        constructor <;> simp [World.cell?, h1]
      have HBW := Lib.hid hW0W
      have hzW := hW0W.size
      clear hW hWW hW0W hk1 hb1
      -- PLAN4
      refine plan_fix (N := some 13) (v := ?_) (a' := ?_) rfl rfl (fun u w' hBr hvr => step_val (by rfl) ?_ ⟨rfl, Below.refl _ _⟩) ?_ ?_
      rotate_left 2
      · go_simp
        with_reducible rfl
      · intro u
        simp only [Act.put, List.setIfInBounds_toArray, List.set_cons_zero, List.set_cons_succ]
        rfl
      refine plan_fix (N := some 14) (v := ?_) (a' := ?_) rfl rfl (fun u w' hBr hvr => step_val (by rfl) ?_ ⟨rfl, Below.refl _ _⟩) ?_ ?_
      rotate_left 2
      · have hk := HP w' hBr; obtain ⟨k0, k1⟩ := hk
        go_simp
        with_reducible rfl
      · intro u
        simp only [Act.put, List.setIfInBounds_toArray, List.set_cons_zero, List.set_cons_succ]
        rfl
      refine plan_fix (N := some 15) (v := ?_) (a' := ?_) rfl rfl (fun u w' hBr hvr => step_val (by rfl) ?_ ⟨rfl, Below.refl _ _⟩) ?_ ?_
      rotate_left 2
      · go_simp
        with_reducible rfl
      · intro u
        simp only [Act.put, List.setIfInBounds_toArray, List.set_cons_zero, List.set_cons_succ]
        rfl
      refine plan_fix (N := some 16) (v := ?_) (a' := ?_) rfl rfl (fun u w' hBr hvr => step_val (by rfl) ?_ ⟨rfl, Below.refl _ _⟩) ?_ ?_
      rotate_left 2
      · go_simp
        with_reducible rfl
      · intro u
        simp only [Act.put, List.setIfInBounds_toArray, List.set_cons_zero, List.set_cons_succ]
        rfl
      refine plan_fix (N := some 17) (v := ?_) (a' := ?_) rfl rfl (fun u w' hBr hvr => step_val (by rfl) ?_ ⟨rfl, Below.refl _ _⟩) ?_ ?_
      rotate_left 2
      · go_simp
        with_reducible rfl
      · intro u
        simp only [Act.put, List.setIfInBounds_toArray, List.set_cons_zero, List.set_cons_succ]
        rfl
      refine plan_fix (N := some 18) (v := ?_) (a' := ?_) rfl rfl (fun u w' hBr hvr => step_val (by rfl) ?_ ⟨rfl, Below.refl _ _⟩) ?_ ?_
      rotate_left 2
      · have hk := HP w' hBr; obtain ⟨k0, k1⟩ := hk
        go_simp
        with_reducible rfl
      · intro u
        simp only [Act.put, List.setIfInBounds_toArray, List.set_cons_zero, List.set_cons_succ]
        rfl
      refine plan_fix (N := some 19) (v := ?_) (a' := ?_) rfl rfl (fun u w' hBr hvr => step_val (by rfl) ?_ ⟨rfl, Below.refl _ _⟩) ?_ ?_
      rotate_left 2
      · have hk := HK w' hBr; obtain ⟨k0, k1, k2, k3, k4, k5⟩ := hk
        go_simp
        with_reducible rfl
      · intro u
        simp only [Act.put, List.setIfInBounds_toArray, List.set_cons_zero, List.set_cons_succ]
        rfl
      refine plan_fix (N := some 20) (v := ?_) (a' := ?_) rfl rfl (fun u w' hBr hvr => step_val (by rfl) ?_ ⟨rfl, Below.refl _ _⟩) ?_ ?_
      rotate_left 2
      · go_simp
        with_reducible rfl
      · intro u
        simp only [Act.put, List.setIfInBounds_toArray, List.set_cons_zero, List.set_cons_succ]
        rfl
      refine plan_fix (N := some 21) (v := ?_) (a' := ?_) rfl rfl (fun u w' hBr hvr => step_val (by rfl) ?_ ⟨rfl, Below.refl _ _⟩) ?_ ?_
      rotate_left 2
      · have hk := HP w' hBr; obtain ⟨k0, k1⟩ := hk
        go_simp
        with_reducible rfl
      · intro u
        simp only [Act.put, List.setIfInBounds_toArray, List.set_cons_zero, List.set_cons_succ]
        rfl
      refine plan_fix (N := some 22) (v := ?_) (a' := ?_) rfl rfl (fun u w' hBr hvr => step_call Try.func17 (by kernel_rfl) rfl #[.agg #[.slice none 0 0, .slice none 0 0, .slice (some ⟨sb, 0, none⟩) 1 1, .slice none 0 0, .slice none 0 0, .bool false], .int .i64 k] (by rfl) rfl (by (try simp only [List.map_toArray, List.map_cons, List.map_nil]); first | done | rfl) ?_) ?_ ?_
      rotate_left 2
      · refine (HM.out w').mono ?_
        rintro e w'' ⟨rfl, hbn⟩
        refine ⟨_, rfl, ?_, hbn⟩
        with_reducible rfl
      · intro u
        simp only [Act.put, List.setIfInBounds_toArray, List.set_cons_zero, List.set_cons_succ]
        rfl
      refine plan_fix (N := some 23) (v := ?_) (a' := ?_) rfl rfl (fun u w' hBr hvr => step_val (by rfl) ?_ ⟨rfl, Below.refl _ _⟩) ?_ ?_
      rotate_left 2
      · go_simp
        with_reducible rfl
      · intro u
        simp only [Act.put, List.setIfInBounds_toArray, List.set_cons_zero, List.set_cons_succ]
        rfl
      refine plan_fix (N := some 24) (v := ?_) (a' := ?_) rfl rfl (fun u w' hBr hvr => step_val (by rfl) ?_ ⟨rfl, Below.refl _ _⟩) ?_ ?_
      rotate_left 2
      · go_simp
        with_reducible rfl
      · intro u
        simp only [Act.put, List.setIfInBounds_toArray, List.set_cons_zero, List.set_cons_succ]
        rfl
      -- PLAN4ED
      refine plan_end rfl rfl (fun u wz hBz _ => ?_)
      have HBZ := Lib.hid (HBW.out.trans (hBz.mono hzW))
      clear hBz
      go_wp2
      go_roundg (gk - 1)
      case measure => omega
      case rel => exact ⟨i + 1, by go_num, by omega, ⟨HBZ.out⟩⟩
    · have hi2 : ¬ (i : Int) < (f.length : Int) := by omega
      have hD := Deep_calls A c f wr (Kd.C_below HC0.out hB.out) (by omega)
      have HE := Lib.hid (H0.out.trans (hB.out.mono (by omega)))
      have hsE := HE.out.size
      go_wp2_with (go_at_call 5; refine hD.mono ?_; rintro e w5 ⟨rfl, hb5⟩)
      go_ret
      exact ⟨rfl, HE.out.trans (hb5.mono hsE)⟩
end Go.Proofs.Ytmelefiodhnlpaa
