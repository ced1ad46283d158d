/- formula.Text of awake's formula; moatlaw15.awake: the walks. -/
import Derived.Test.YtmelefiodhnlpaaMay
import Derived.Test.YtmelefiodhnlpaaShelf
set_option linter.unusedSimpArgs false
set_option linter.unusedVariables false
namespace Go.Proofs.Ytmelefiodhnlpaa
open Go Go.RowKit Go.Proofs Go.Proofs.YtmelefiodhnlpaaW.PrintWords Go.Proofs.YtmelefiodhnlpaaW.PrintLast Go.Proofs.YtmelefiodhnlpaaW.PrintMore

theorem tree_not {w : World} {q : Option Addr} (h : TreeAt w (fun _ => True) q (.node 6 0 [.node 3 0 []])) :
    ∃ tb t2 v oa c ad, q = some ⟨tb, 0, none⟩ ∧ w.heap[tb]? = some (.cells #[.int .i64 6, .int .i64 0, .slice oa 1 c] 61 (0, 0)) ∧ w.heap[t2]? = some (.cells #[.int .i64 3, .int .i64 0, v] 61 (0, 0)) ∧ oa = some ad ∧
      (∃ cur, w.heap[ad.block]? = some (.cells cur 56 (0, 0)) ∧ ad = ⟨ad.block, 0, none⟩ ∧ cur[0]? = some (.pointer (some ⟨t2, 0, none⟩))) := by
  cases h with
  | mk tb k a v ps xs hb hC ht hv hl hs =>
    match ps, (show ps.length = 1 from hl) with
    | [p0], _ =>
      have hT := hs 0 p0 _ rfl rfl
      cases hT with
      | mk t2 k2 a2 v2 ps2 xs2 hb2 _ _ _ _ _ =>
        rcases hC.2 with ⟨_, h0⟩ | ⟨g, cap, cur, rfl, _, hg, hn, _, hcs, htk⟩
        · simp at h0
        · refine ⟨tb, t2, v2, some ⟨g, 0, none⟩, cap, ⟨g, 0, none⟩, rfl, hb, hb2, rfl, cur, hg, rfl, ?_⟩
          have h1 : cur.toList.take 1 = [.pointer (some ⟨t2, 0, none⟩)] := htk
          have h2 : (cur.toList.take 1)[0]? = some (.pointer (some ⟨t2, 0, none⟩)) := by rw [h1]; rfl
          rw [List.getElem?_take, if_pos (by omega)] at h2
          simpa using h2

def awF : List (Int × Int) := [(3, 0), (6, 0)]
set_option maxRecDepth 100000 in
set_option maxHeartbeats 1000000 in
theorem Text_calls (sb : Nat) (A : Option Addr) (c : Nat) (w : World) (hC : Kd.C partK w A awF.length awF) (hs : SecAt sb w) :
    Calls Try.prog 11 #[siteV sb, .slice A awF.length c] w fun e w' => e = .returned (.string ⟨#[110, 111, 116, 32, 107, 110, 111, 119, 115, 32, 115]⟩) ∧ Below w.heap.size w w' := by
  have hM := fun w' h => May_calls sb A c awF w' h (by decide) (by decide)
  have hd : decide (0 < deepL awF) = true := by decide
  rw [hd] at hM
  have hF := fun w' h => FoldTree_calls A c awF w' h (by decide)
  have hfd : foldL treeZ treeD awF = (.node 6 0 [.node 3 0 []], true) := rfl
  rw [hfd] at hF
  unfold siteV at *
  have h0 : Below w.heap.size w (w.alloc (.cells #[.slice none 0 0, .slice none 0 0, .slice (some ⟨sb, 0, none⟩) 1 1, .slice none 0 0, .slice none 0 0, .bool false] 46)) := (Below.refl _ w).alloc (Nat.le_refl _) _
  have hsl := hs.lt
  go_enter Try.func11, Try.ntmps11
  go_upto_region 1 with (fail)
  obtain ⟨W0, hW0⟩ : ∃ W0, w.alloc (.cells #[.slice none 0 0, .slice none 0 0, .slice (some ⟨sb, 0, none⟩) 1 1, .slice none 0 0, .slice none 0 0, .bool false] 46) = W0 := ⟨_, rfl⟩
  have hbx : W0.heap[w.heap.size]? = some (.cells #[.slice none 0 0, .slice none 0 0, .slice (some ⟨sb, 0, none⟩) 1 1, .slice none 0 0, .slice none 0 0, .bool false] 46 (0, 0)) := by rw [← hW0]; exact heap_alloc_new w _
  have hs0 : W0.heap.size = w.heap.size + 1 := by rw [← hW0]; simp
  rw [hW0] at h0 ⊢
  clear hW0
  have HC0 := Lib.hid (Kd.C_below hC h0)
  have HBX := Lib.hid hbx
  have H0 := Lib.hid h0
  have HS := Lib.hid (hs.later h0 hsl)
  clear hC h0 hs hfd hd
  obtain ⟨k0, k1, k2, k3, k4, k5⟩ := site_cells HBX.out
  go_upto_region 3 with (go_at_call 10; refine (hM _ HC0.out).mono ?_; rintro e w1 ⟨rfl, hb1⟩)
  clear k0 k1 k2 k3 k4 k5 hM
  have hsz1 := hb1.size
  have HFC := Lib.hid (hF w1 (Kd.C_below HC0.out hb1))
  go_upto_region 5 with (go_at_call 18; refine HFC.out.mono ?_; rintro e w2 ⟨q, rfl, hT, hb2⟩)
  have hsz2 := hb2.size
  have hB2 : Below W0.heap.size W0 w2 := hb1.trans (hb2.mono hsz1)
  obtain ⟨tb, t2, v, oa, cc, ad, rfl, ht, ht2, had, hbk⟩ := tree_not (by first | exact hT trivial | exact hT rfl | exact hT)
  have htl := (Array.getElem?_eq_some_iff.1 ht).1
  have htl2 := (Array.getElem?_eq_some_iff.1 ht2).1
  have hal : ad.block < w2.heap.size := by
    obtain ⟨cur, h, _⟩ := hbk
    exact (Array.getElem?_eq_some_iff.1 h).1
  have hb3 : Below w2.heap.size w2 (w2.alloc (.cells #[.pointer none, .slice none 0 0] 66)) := (Below.refl _ w2).alloc (Nat.le_refl _) _
  have hsz3 : (w2.alloc (.cells #[.pointer none, .slice none 0 0] 66)).heap.size = w2.heap.size + 1 := by simp
  have hisb : Lib.IsBuilder 66 5 w2.heap.size w2.heap.size (Lib.byteCells []) (w2.alloc (.cells #[.pointer none, .slice none 0 0] 66)) := Lib.fresh_isBuilder _ _ w2
  have hbx3 := ((hB2.trans (hb3.mono (hB2.size))).block w.heap.size (by omega)).trans HBX.out
  have hbk3 : ∃ cur, (w2.alloc (.cells #[.pointer none, .slice none 0 0] 66)).heap[ad.block]? = some (.cells cur 56 (0, 0)) ∧ ad = ⟨ad.block, 0, none⟩ ∧ cur[0]? = some (.pointer (some ⟨t2, 0, none⟩)) := by
    obtain ⟨cur, h1, h2⟩ := hbk
    exact ⟨cur, (hb3.block _ hal).trans h1, h2⟩
  have hW := writeNot_calls w2.heap.size w2.heap.size tb t2 sb v oa cc _ (HS.out.later (hB2.trans (hb3.mono hB2.size)) (by omega)) ((hb3.block _ htl).trans ht) ((hb3.block _ htl2).trans ht2) ad had hbk3 (by omega) htl htl2 hal (by omega) hisb
  have HW := Lib.hid hW
  have HE := Lib.hid (H0.out.trans ((hB2.mono (by omega))))
  clear hW hT ht ht2 hbk hbk3 hisb hb2 hb1 HFC hF htl htl2 hal had
  obtain ⟨k0, k1, k2, k3, k4, k5⟩ := site_cells hbx3
  clear hbx3
  unfold siteV at HW
  have HE3 := Lib.hid hb3
  clear hb3 hB2
  go_upto_region 6 with (go_at_call 20; refine HW.out.mono ?_; rintro e w4 ⟨rfl, hbl, hbe⟩)
  clear k0 k1 k2 k3 k4 k5 HW
  have hbe2 : Below w2.heap.size w2 w4 := HE3.out.trans hbe
  have hsz4 := hbe2.size
  have HS2 := Lib.hid (Try.Builder_String_any w2.heap.size w2.heap.size _ w4 hbl hsz4)
  have HE4 := Lib.hid (HE.out.trans (hbe2.mono (by omega)))
  clear hbl hbe hbe2
  go_wp2_with (go_at_call 21; refine HS2.out.mono ?_; rintro e w5 ⟨rfl, hb5⟩)
  go_ret
  exact ⟨rfl, HE4.out.trans (hb5.mono (by omega))⟩

theorem parts_two {w : World} {b : Nat} (h : w.heap[b]? = some (.cells #[.int .i64 3, .int .i64 0, .int .i64 6, .int .i64 0] 32 (0, 0))) : Kd.C partK w (some ⟨b, 0, none⟩) awF.length awF ∧ Kd.C partK w (some ⟨b, 2, none⟩) [((6 : Int), (0 : Int))].length [(6, 0)] := by
  have c0 : w.cell? ⟨b, 0, none⟩ = some (.int .i64 3) := by simp [World.cell?, h]
  have c1 : w.cell? ⟨b, 1, none⟩ = some (.int .i64 0) := by simp [World.cell?, h]
  have c2 : w.cell? ⟨b, 2, none⟩ = some (.int .i64 6) := by simp [World.cell?, h]
  have c3 : w.cell? ⟨b, 3, none⟩ = some (.int .i64 0) := by simp [World.cell?, h]
  constructor
  · refine ⟨rfl, by decide, fun _ => ⟨_, rfl, fun j p hj => ?_⟩⟩
    match j with
    | 0 =>
      cases hj
      refine ⟨[.int .i64 3, .int .i64 0], rfl, ⟨[.int .i64 3], [.int .i64 0], rfl, rfl, rfl⟩, fun i u hu => ?_⟩
      match i with
      | 0 => cases hu; exact c0
      | 1 => cases hu; exact c1
    | 1 =>
      cases hj
      refine ⟨[.int .i64 6, .int .i64 0], rfl, ⟨[.int .i64 6], [.int .i64 0], rfl, rfl, rfl⟩, fun i u hu => ?_⟩
      match i with
      | 0 => cases hu; exact c2
      | 1 => cases hu; exact c3
  · refine ⟨rfl, by decide, fun _ => ⟨_, rfl, fun j p hj => ?_⟩⟩
    match j with
    | 0 =>
      cases hj
      refine ⟨[.int .i64 6, .int .i64 0], rfl, ⟨[.int .i64 6], [.int .i64 0], rfl, rfl, rfl⟩, fun i u hu => ?_⟩
      match i with
      | 0 => cases hu; exact c2
      | 1 => cases hu; exact c3
/-- A state that knows, or does not. -/
def stV (b : Nat) : Value := .agg #[.int .i64 0, .bool false, .slice none 0 0, .slice none 0 0, .slice (some ⟨b, 0, none⟩) 1 1, .slice none 0 0, .slice none 0 0, .slice none 0 0]
theorem holds_one (b : Nat) (v : Bool) (w : World) (A : Option Addr) (c : Nat) (hC : Kd.C partK w A awF.length awF) (hb : w.heap[b]? = some (.cells #[.bool v] 4 (0, 0))) :
    Calls Try.prog 7 #[.slice A awF.length c, stV b] w fun e w' => e = .returned (.bool (!v)) ∧ Below w.heap.size w w' := by
  have h := Holds_calls (v0 := .int .i64 0) (v1 := .bool false) (v2 := .slice none 0 0) (v7 := .slice none 0 0) (A3 := none) (c3 := 0) (ch := []) (A4 := some ⟨b, 0, none⟩) (c4 := 1) (kn := [v]) (A5 := none) (c5 := 0) (stl := []) (A6 := none) (c6 := 0) (rn := [])
    A c awF w hC (by decide) rfl rfl rfl rfl ⟨rfl, by decide, fun h => absurd h (by decide)⟩ (Kd.C_of_reads (enc := Value.bool) (d := false) ⟨rfl, by simp, fun _ => ⟨_, rfl, fun j hj => by
      obtain rfl : j = 0 := by simp only [List.length_singleton] at hj; omega
      simp [World.cell?, Addr.add, hb]⟩⟩) ⟨rfl, by decide, fun h => absurd h (by decide)⟩ ⟨rfl, by decide, fun h => absurd h (by decide)⟩
  refine h.mono ?_
  rintro e w' ⟨rfl, hb'⟩
  exact ⟨by cases v <;> rfl, hb'⟩

set_option maxRecDepth 100000 in
set_option maxHeartbeats 4000000 in
theorem awake15_calls (w : World) : Calls Try.prog 6 #[] w fun e w' => e = .returned (.bool true) ∧ Below w.heap.size w w' := by
  go_enter Try.func6, Try.ntmps6
  go_upto_region 3 with (fail)
  obtain ⟨W0, hW0⟩ : ∃ W0, ((w.alloc (.cells #[.string ⟨#[115]⟩] 9)).alloc (.cells #[.slice none 0 0, .slice none 0 0, .slice (some ⟨w.heap.size, 0, none⟩) 1 1, .slice none 0 0, .slice none 0 0, .bool false] 46)).alloc (.cells #[.int .i64 3, .int .i64 0, .int .i64 6, .int .i64 0] 32) = W0 := ⟨_, rfl⟩
  have hbl : Below w.heap.size w W0 := by rw [← hW0]; exact (((Below.refl _ w).alloc (Nat.le_refl _) _).alloc (by simp) _).alloc (by simp; omega) _
  have hs0 : W0.heap.size = w.heap.size + 3 := by rw [← hW0]; simp
  have hk0 : W0.heap[w.heap.size]? = some (.cells #[.string ⟨#[115]⟩] 9 (0, 0)) := by
    rw [← hW0]; exact ((Below.heap_alloc _ _ _ (by simp; omega)).trans (Below.heap_alloc _ _ _ (by simp))).trans (heap_alloc_new w _)
  have hk1 : W0.heap[w.heap.size + 1]? = some (.cells #[.slice none 0 0, .slice none 0 0, .slice (some ⟨w.heap.size, 0, none⟩) 1 1, .slice none 0 0, .slice none 0 0, .bool false] 46 (0, 0)) := by
    rw [← hW0]; refine (Below.heap_alloc _ _ _ (by simp)).trans ?_
    have := heap_alloc_new (w.alloc (.cells #[.string ⟨#[115]⟩] 9)) (.cells #[.slice none 0 0, .slice none 0 0, .slice (some ⟨w.heap.size, 0, none⟩) 1 1, .slice none 0 0, .slice none 0 0, .bool false] 46)
    rwa [World.size_alloc] at this
  have hk2 : W0.heap[w.heap.size + 1 + 1]? = some (.cells #[.int .i64 3, .int .i64 0, .int .i64 6, .int .i64 0] 32 (0, 0)) := by
    rw [← hW0]
    have := heap_alloc_new ((w.alloc (.cells #[.string ⟨#[115]⟩] 9)).alloc (.cells #[.slice none 0 0, .slice none 0 0, .slice (some ⟨w.heap.size, 0, none⟩) 1 1, .slice none 0 0, .slice none 0 0, .bool false] 46)) (.cells #[.int .i64 3, .int .i64 0, .int .i64 6, .int .i64 0] 32)
    rwa [World.size_alloc, World.size_alloc] at this
  rw [hW0]
  clear hW0
  refine region_plan (tk := false) (m := 35) (by kernel_rfl) (by kernel_rfl) (fun W hW => ?_)
  have hWW : Below W0.heap.size W0 W := by rw [hW]; exact below_drew1 (Below.refl _ _)
  have HK := fun (w' : World) (hb : Below W.heap.size W w') => site_cells (((hWW.trans (hb.mono hWW.size)).block (w.heap.size + 1) (by omega)).trans hk1)
  have HP := fun (w' : World) (hb : Below W.heap.size W w') => (parts_two (((hWW.trans (hb.mono hWW.size)).block (w.heap.size + 1 + 1) (by omega)).trans hk2)).1
  have HP1 := fun (w' : World) (hb : Below W.heap.size W w') => (parts_two (((hWW.trans (hb.mono hWW.size)).block (w.heap.size + 1 + 1) (by omega)).trans hk2)).2
  have HS := fun (w' : World) (hb : Below W.heap.size W w') => show SecAt w.heap.size w' from ((hWW.trans (hb.mono hWW.size)).block w.heap.size (by omega)).trans hk0
  have HM := fun w' h => May_calls w.heap.size (some ⟨w.heap.size + 1 + 1, 0, none⟩) 2 awF w' h (by decide) (by decide)
  have HM1 := fun w' h => May_calls w.heap.size (some ⟨w.heap.size + 1 + 1, 2, none⟩) 1 [(6, 0)] w' h (by decide) (by decide)
  have HT := fun w' h h2 => Text_calls w.heap.size (some ⟨w.heap.size + 1 + 1, 0, none⟩) 2 w' h h2
  have HD := fun w' h => Deep_calls (some ⟨w.heap.size + 1 + 1, 0, none⟩) 2 awF w' h (by decide)
  have e1 : decide (0 < deepL awF) = true := by decide
  have e2 : decide (0 < deepL [(6, 0)]) = false := by decide
  have e3 : deepL awF = 2 := by decide
  rw [e1] at HM
  rw [e2] at HM1
  rw [e3] at HD
  unfold siteV at HM HM1 HT
  have HBL := Lib.hid hbl
  have HBW := Lib.hid hWW
  have hzW := hWW.size
  clear hW hWW hk0 hk1 hk2 e1 e2 e3 hbl
  -- PLANA
  refine plan_fix (N := some 8) (v := ?_) (a' := ?_) rfl rfl (fun u w' hBr hvr => step_val (by rfl) ?_ ⟨rfl, Below.refl _ _⟩) ?_ ?_
  rotate_left 2
  · have hk := HK w' hBr; obtain ⟨k0, k1, k2, k3, k4, k5⟩ := hk
    go_simp
    with_reducible rfl
  · intro u
    simp only [Act.put, List.setIfInBounds_toArray, List.set_cons_zero, List.set_cons_succ]
    rfl
  refine plan_fix (N := some 9) (v := ?_) (a' := ?_) rfl rfl (fun u w' hBr hvr => step_val (by rfl) ?_ ⟨rfl, Below.refl _ _⟩) ?_ ?_
  rotate_left 2
  · go_simp
    with_reducible rfl
  · intro u
    simp only [Act.put, List.setIfInBounds_toArray, List.set_cons_zero, List.set_cons_succ]
    rfl
  refine plan_fix (N := some 10) (v := ?_) (a' := ?_) rfl rfl (fun u w' hBr hvr => step_call Try.func10 (by kernel_rfl) rfl #[.agg #[.slice none 0 0, .slice none 0 0, .slice (some ⟨w.heap.size, 0, none⟩) 1 1, .slice none 0 0, .slice none 0 0, .bool false], .slice (some ⟨w.heap.size + 1 + 1, 0, none⟩) 2 2] (by rfl) rfl (by (try simp only [List.map_toArray, List.map_cons, List.map_nil]); first | done | rfl) ?_) ?_ ?_
  rotate_left 2
  · refine (HM w' (HP w' hBr)).mono ?_
    rintro e w'' ⟨rfl, hbn⟩
    refine ⟨_, rfl, ?_, hbn⟩
    with_reducible rfl
  · intro u
    simp only [Act.put, List.setIfInBounds_toArray, List.set_cons_zero, List.set_cons_succ]
    rfl
  refine plan_fix (N := some 11) (v := ?_) (a' := ?_) rfl rfl (fun u w' hBr hvr => step_val (by rfl) ?_ ⟨rfl, Below.refl _ _⟩) ?_ ?_
  rotate_left 2
  · go_simp
    with_reducible rfl
  · intro u
    simp only [Act.put, List.setIfInBounds_toArray, List.set_cons_zero, List.set_cons_succ]
    rfl
  refine plan_fix (N := some 12) (v := ?_) (a' := ?_) rfl rfl (fun u w' hBr hvr => step_val (by rfl) ?_ ⟨rfl, Below.refl _ _⟩) ?_ ?_
  rotate_left 2
  · have hk := HK w' hBr; obtain ⟨k0, k1, k2, k3, k4, k5⟩ := hk
    go_simp
    with_reducible rfl
  · intro u
    simp only [Act.put, List.setIfInBounds_toArray, List.set_cons_zero, List.set_cons_succ]
    rfl
  refine plan_fix (N := some 13) (v := ?_) (a' := ?_) rfl rfl (fun u w' hBr hvr => step_val (by rfl) ?_ ⟨rfl, Below.refl _ _⟩) ?_ ?_
  rotate_left 2
  · go_simp
    with_reducible rfl
  · intro u
    simp only [Act.put, List.setIfInBounds_toArray, List.set_cons_zero, List.set_cons_succ]
    rfl
  refine plan_fix (N := some 14) (v := ?_) (a' := ?_) rfl rfl (fun u w' hBr hvr => step_val (by rfl) ?_ ⟨rfl, Below.refl _ _⟩) ?_ ?_
  rotate_left 2
  · go_simp
    with_reducible rfl
  · intro u
    simp only [Act.put, List.setIfInBounds_toArray, List.set_cons_zero, List.set_cons_succ]
    rfl
  refine plan_fix (N := some 15) (v := ?_) (a' := ?_) rfl rfl (fun u w' hBr hvr => step_call Try.func10 (by kernel_rfl) rfl #[.agg #[.slice none 0 0, .slice none 0 0, .slice (some ⟨w.heap.size, 0, none⟩) 1 1, .slice none 0 0, .slice none 0 0, .bool false], .slice (some ⟨w.heap.size + 1 + 1, 2, none⟩) 1 1] (by rfl) rfl (by (try simp only [List.map_toArray, List.map_cons, List.map_nil]); first | done | rfl) ?_) ?_ ?_
  rotate_left 2
  · refine (HM1 w' (HP1 w' hBr)).mono ?_
    rintro e w'' ⟨rfl, hbn⟩
    refine ⟨_, rfl, ?_, hbn⟩
    with_reducible rfl
  · intro u
    simp only [Act.put, List.setIfInBounds_toArray, List.set_cons_zero, List.set_cons_succ]
    rfl
  refine plan_fix (N := some 16) (v := ?_) (a' := ?_) rfl rfl (fun u w' hBr hvr => step_val (by rfl) ?_ ⟨rfl, Below.refl _ _⟩) ?_ ?_
  rotate_left 2
  · go_simp
    with_reducible rfl
  · intro u
    simp only [Act.put, List.setIfInBounds_toArray, List.set_cons_zero, List.set_cons_succ]
    rfl
  refine plan_fix (N := some 17) (v := ?_) (a' := ?_) rfl rfl (fun u w' hBr hvr => step_val (by rfl) ?_ ⟨rfl, Below.refl _ _⟩) ?_ ?_
  rotate_left 2
  · go_simp
    with_reducible rfl
  · intro u
    simp only [Act.put, List.setIfInBounds_toArray, List.set_cons_zero, List.set_cons_succ]
    rfl
  refine plan_fix (N := some 18) (v := ?_) (a' := ?_) rfl rfl (fun u w' hBr hvr => step_val (by rfl) ?_ ⟨rfl, Below.refl _ _⟩) ?_ ?_
  rotate_left 2
  · go_simp
    with_reducible rfl
  · intro u
    simp only [Act.put, List.setIfInBounds_toArray, List.set_cons_zero, List.set_cons_succ]
    rfl
  refine plan_fix (N := some 19) (v := ?_) (a' := ?_) rfl rfl (fun u w' hBr hvr => step_val (by rfl) ?_ ⟨rfl, Below.refl _ _⟩) ?_ ?_
  rotate_left 2
  · go_simp
    with_reducible rfl
  · intro u
    simp only [Act.put, List.setIfInBounds_toArray, List.set_cons_zero, List.set_cons_succ]
    rfl
  refine plan_new (N := some 20) (V := IsLit 4 1 #[.bool false]) (a' := ?_) rfl rfl (stable_lit _ _ _) (fun u w' hBr hvr => step_val (w' := w'.alloc (.cells #[.bool false] 4)) (x := .slice (some ⟨w'.heap.size, 0, none⟩) 1 1) (by rfl) ?_ ⟨⟨_, rfl, heap_alloc_new w' _⟩, (Below.refl _ _).alloc (Nat.le_refl _) _, fun r e => by cases e; simp⟩) ?_ ?_
  rotate_left
  · go_simp
  · intro u
    simp only [Act.put, List.setIfInBounds_toArray, List.set_cons_zero, List.set_cons_succ]
    rfl
  refine plan_new (N := some 21) (V := fun x w => ∃ b, x = stV b ∧ w.heap[b]? = some (.cells #[.bool false] 4 (0, 0))) (a' := ?_) rfl rfl (stable_below (fun u w w' h hb => by obtain ⟨b, h1, h2⟩ := h; exact ⟨b, h1, (hb.block b (Array.getElem?_eq_some_iff.1 h2).1).trans h2⟩)) (fun u w' hBr hvr => ?_) ?_ ?_
  rotate_left
  · obtain ⟨⟨b, hu, hb⟩, _⟩ := hvr _ List.mem_cons_self (by kernel_rfl)
    refine step_val (x := stV b) (w' := w') (by rfl) ?_ ⟨⟨b, rfl, hb⟩, Below.refl _ _, fun r e => by cases e⟩
    simp only at hu
    unfold stV
    go_simp
  · intro u
    simp only [Act.put, List.setIfInBounds_toArray, List.set_cons_zero, List.set_cons_succ]
    rfl
  refine plan_fix (N := some 22) (v := .bool true) (a' := ?_) rfl rfl (fun u w' hBr hvr => step_call Try.func7 (by kernel_rfl) rfl #[.slice (some ⟨w.heap.size + 1 + 1, 0, none⟩) 2 2, u 13] (by rfl) rfl (by (try simp only [List.map_toArray, List.map_cons, List.map_nil]); first | done | rfl) ?_) ?_ ?_
  rotate_left
  · obtain ⟨⟨b, hu, hb⟩, _⟩ := hvr _ List.mem_cons_self (by kernel_rfl)
    simp only at hu
    rw [hu]
    refine (holds_one b false w' _ _ (HP w' hBr) hb).mono ?_
    rintro e w'' ⟨rfl, hbn⟩
    exact ⟨_, rfl, by rfl, hbn⟩
  · intro u
    simp only [Act.put, List.setIfInBounds_toArray, List.set_cons_zero, List.set_cons_succ]
    rfl
  refine plan_fix (N := some 23) (v := ?_) (a' := ?_) rfl rfl (fun u w' hBr hvr => step_val (by rfl) ?_ ⟨rfl, Below.refl _ _⟩) ?_ ?_
  rotate_left 2
  · go_simp
    with_reducible rfl
  · intro u
    simp only [Act.put, List.setIfInBounds_toArray, List.set_cons_zero, List.set_cons_succ]
    rfl
  refine plan_fix (N := some 24) (v := ?_) (a' := ?_) rfl rfl (fun u w' hBr hvr => step_val (by rfl) ?_ ⟨rfl, Below.refl _ _⟩) ?_ ?_
  rotate_left 2
  · go_simp
    with_reducible rfl
  · intro u
    simp only [Act.put, List.setIfInBounds_toArray, List.set_cons_zero, List.set_cons_succ]
    rfl
  refine plan_fix (N := some 25) (v := ?_) (a' := ?_) rfl rfl (fun u w' hBr hvr => step_val (by rfl) ?_ ⟨rfl, Below.refl _ _⟩) ?_ ?_
  rotate_left 2
  · go_simp
    with_reducible rfl
  · intro u
    simp only [Act.put, List.setIfInBounds_toArray, List.set_cons_zero, List.set_cons_succ]
    rfl
  refine plan_new (N := some 26) (V := IsLit 4 1 #[.bool true]) (a' := ?_) rfl rfl (stable_lit _ _ _) (fun u w' hBr hvr => step_val (w' := w'.alloc (.cells #[.bool true] 4)) (x := .slice (some ⟨w'.heap.size, 0, none⟩) 1 1) (by rfl) ?_ ⟨⟨_, rfl, heap_alloc_new w' _⟩, (Below.refl _ _).alloc (Nat.le_refl _) _, fun r e => by cases e; simp⟩) ?_ ?_
  rotate_left
  · go_simp
  · intro u
    simp only [Act.put, List.setIfInBounds_toArray, List.set_cons_zero, List.set_cons_succ]
    rfl
  refine plan_new (N := some 27) (V := fun x w => ∃ b, x = stV b ∧ w.heap[b]? = some (.cells #[.bool true] 4 (0, 0))) (a' := ?_) rfl rfl (stable_below (fun u w w' h hb => by obtain ⟨b, h1, h2⟩ := h; exact ⟨b, h1, (hb.block b (Array.getElem?_eq_some_iff.1 h2).1).trans h2⟩)) (fun u w' hBr hvr => ?_) ?_ ?_
  rotate_left
  · obtain ⟨⟨b, hu, hb⟩, _⟩ := hvr _ List.mem_cons_self (by kernel_rfl)
    refine step_val (x := stV b) (w' := w') (by rfl) ?_ ⟨⟨b, rfl, hb⟩, Below.refl _ _, fun r e => by cases e⟩
    simp only at hu
    unfold stV
    go_simp
  · intro u
    simp only [Act.put, List.setIfInBounds_toArray, List.set_cons_zero, List.set_cons_succ]
    rfl
  refine plan_fix (N := some 28) (v := .bool false) (a' := ?_) rfl rfl (fun u w' hBr hvr => step_call Try.func7 (by kernel_rfl) rfl #[.slice (some ⟨w.heap.size + 1 + 1, 0, none⟩) 2 2, u 19] (by rfl) rfl (by (try simp only [List.map_toArray, List.map_cons, List.map_nil]); first | done | rfl) ?_) ?_ ?_
  rotate_left
  · obtain ⟨⟨b, hu, hb⟩, _⟩ := hvr _ List.mem_cons_self (by kernel_rfl)
    simp only at hu
    rw [hu]
    refine (holds_one b true w' _ _ (HP w' hBr) hb).mono ?_
    rintro e w'' ⟨rfl, hbn⟩
    exact ⟨_, rfl, by rfl, hbn⟩
  · intro u
    simp only [Act.put, List.setIfInBounds_toArray, List.set_cons_zero, List.set_cons_succ]
    rfl
  refine plan_fix (N := some 29) (v := ?_) (a' := ?_) rfl rfl (fun u w' hBr hvr => step_val (by rfl) ?_ ⟨rfl, Below.refl _ _⟩) ?_ ?_
  rotate_left 2
  · go_simp
    with_reducible rfl
  · intro u
    simp only [Act.put, List.setIfInBounds_toArray, List.set_cons_zero, List.set_cons_succ]
    rfl
  refine plan_fix (N := some 30) (v := ?_) (a' := ?_) rfl rfl (fun u w' hBr hvr => step_val (by rfl) ?_ ⟨rfl, Below.refl _ _⟩) ?_ ?_
  rotate_left 2
  · go_simp
    with_reducible rfl
  · intro u
    simp only [Act.put, List.setIfInBounds_toArray, List.set_cons_zero, List.set_cons_succ]
    rfl
  refine plan_fix (N := some 31) (v := ?_) (a' := ?_) rfl rfl (fun u w' hBr hvr => step_val (by rfl) ?_ ⟨rfl, Below.refl _ _⟩) ?_ ?_
  rotate_left 2
  · go_simp
    with_reducible rfl
  · intro u
    simp only [Act.put, List.setIfInBounds_toArray, List.set_cons_zero, List.set_cons_succ]
    rfl
  refine plan_fix (N := some 32) (v := ?_) (a' := ?_) rfl rfl (fun u w' hBr hvr => step_val (by rfl) ?_ ⟨rfl, Below.refl _ _⟩) ?_ ?_
  rotate_left 2
  · have hk := HK w' hBr; obtain ⟨k0, k1, k2, k3, k4, k5⟩ := hk
    go_simp
    with_reducible rfl
  · intro u
    simp only [Act.put, List.setIfInBounds_toArray, List.set_cons_zero, List.set_cons_succ]
    rfl
  refine plan_fix (N := some 33) (v := ?_) (a' := ?_) rfl rfl (fun u w' hBr hvr => step_val (by rfl) ?_ ⟨rfl, Below.refl _ _⟩) ?_ ?_
  rotate_left 2
  · go_simp
    with_reducible rfl
  · intro u
    simp only [Act.put, List.setIfInBounds_toArray, List.set_cons_zero, List.set_cons_succ]
    rfl
  refine plan_fix (N := some 34) (v := ?_) (a' := ?_) rfl rfl (fun u w' hBr hvr => step_call Try.func11 (by kernel_rfl) rfl #[.agg #[.slice none 0 0, .slice none 0 0, .slice (some ⟨w.heap.size, 0, none⟩) 1 1, .slice none 0 0, .slice none 0 0, .bool false], .slice (some ⟨w.heap.size + 1 + 1, 0, none⟩) 2 2] (by rfl) rfl (by (try simp only [List.map_toArray, List.map_cons, List.map_nil]); first | done | rfl) ?_) ?_ ?_
  rotate_left 2
  · refine (HT w' (HP w' hBr) (HS w' hBr)).mono ?_
    rintro e w'' ⟨rfl, hbn⟩
    refine ⟨_, rfl, ?_, hbn⟩
    with_reducible rfl
  · intro u
    simp only [Act.put, List.setIfInBounds_toArray, List.set_cons_zero, List.set_cons_succ]
    rfl
  refine plan_fix (N := some 35) (v := ?_) (a' := ?_) rfl rfl (fun u w' hBr hvr => step_val (by rfl) ?_ ⟨rfl, Below.refl _ _⟩) ?_ ?_
  rotate_left 2
  · go_simp
    with_reducible rfl
  · intro u
    simp only [Act.put, List.setIfInBounds_toArray, List.set_cons_zero, List.set_cons_succ]
    rfl
  refine plan_fix (N := some 36) (v := ?_) (a' := ?_) rfl rfl (fun u w' hBr hvr => step_val (by rfl) ?_ ⟨rfl, Below.refl _ _⟩) ?_ ?_
  rotate_left 2
  · go_simp
    with_reducible rfl
  · intro u
    simp only [Act.put, List.setIfInBounds_toArray, List.set_cons_zero, List.set_cons_succ]
    rfl
  refine plan_fix (N := some 37) (v := ?_) (a' := ?_) rfl rfl (fun u w' hBr hvr => step_val (by rfl) ?_ ⟨rfl, Below.refl _ _⟩) ?_ ?_
  rotate_left 2
  · go_simp
    with_reducible rfl
  · intro u
    simp only [Act.put, List.setIfInBounds_toArray, List.set_cons_zero, List.set_cons_succ]
    rfl
  refine plan_fix (N := some 38) (v := ?_) (a' := ?_) rfl rfl (fun u w' hBr hvr => step_val (by rfl) ?_ ⟨rfl, Below.refl _ _⟩) ?_ ?_
  rotate_left 2
  · go_simp
    with_reducible rfl
  · intro u
    simp only [Act.put, List.setIfInBounds_toArray, List.set_cons_zero, List.set_cons_succ]
    rfl
  refine plan_fix (N := some 39) (v := ?_) (a' := ?_) rfl rfl (fun u w' hBr hvr => step_call Try.func5 (by kernel_rfl) rfl #[.slice (some ⟨w.heap.size + 1 + 1, 0, none⟩) 2 2] (by rfl) rfl (by (try simp only [List.map_toArray, List.map_cons, List.map_nil]); first | done | rfl) ?_) ?_ ?_
  rotate_left 2
  · refine (HD w' (HP w' hBr)).mono ?_
    rintro e w'' ⟨rfl, hbn⟩
    refine ⟨_, rfl, ?_, hbn⟩
    with_reducible rfl
  · intro u
    simp only [Act.put, List.setIfInBounds_toArray, List.set_cons_zero, List.set_cons_succ]
    rfl
  refine plan_fix (N := some 40) (v := ?_) (a' := ?_) rfl rfl (fun u w' hBr hvr => step_val (by rfl) ?_ ⟨rfl, Below.refl _ _⟩) ?_ ?_
  rotate_left 2
  · go_simp
    with_reducible rfl
  · intro u
    simp only [Act.put, List.setIfInBounds_toArray, List.set_cons_zero, List.set_cons_succ]
    rfl
  refine plan_fix (N := some 41) (v := ?_) (a' := ?_) rfl rfl (fun u w' hBr hvr => step_val (by rfl) ?_ ⟨rfl, Below.refl _ _⟩) ?_ ?_
  rotate_left 2
  · go_simp
    with_reducible rfl
  · intro u
    simp only [Act.put, List.setIfInBounds_toArray, List.set_cons_zero, List.set_cons_succ]
    rfl
  refine plan_fix (N := some 0) (v := ?_) (a' := ?_) rfl rfl (fun u w' hBr hvr => step_val (by rfl) ?_ ⟨rfl, Below.refl _ _⟩) ?_ ?_
  rotate_left 2
  · go_simp
    with_reducible rfl
  · intro u
    simp only [Act.put, List.setIfInBounds_toArray, List.set_cons_zero, List.set_cons_succ]
    rfl
  -- PLANAED
  refine plan_end rfl rfl (fun u wz hBz _ => ?_)
  go_wp2
  go_ret
  exact ⟨rfl, HBL.out.trans ((HBW.out.trans (hBz.mono hzW)).mono (by omega))⟩
end Go.Proofs.Ytmelefiodhnlpaa
