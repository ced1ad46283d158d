/- formula.level, leaf, write, Text of awake's formula: the walks. -/
import Derived.Test.YtmelefiodhnlpaaFoldT
import Derived.Test.YtmelefiodhnlpaaWStr
import Derived.Test.YtmelefiodhnlpaaFormula
set_option linter.unusedSimpArgs false
set_option linter.unusedVariables false
namespace Go.Proofs.Ytmelefiodhnlpaa
open Go Go.RowKit Go.Proofs.YtmelefiodhnlpaaW.PrintWords Go.Proofs.YtmelefiodhnlpaaW.PrintLast Go.Proofs.YtmelefiodhnlpaaW.PrintMore

theorem level3_calls (a : Int) (w : World) : Calls Try.prog 22 #[.agg #[.int .i64 3, .int .i64 a]] w fun e w' => e = .returned (.int .i64 4) ∧ Below w.heap.size w w' := by
  go_enter Try.func22, Try.ntmps22
  go_wp2
  go_ret
  exact ⟨rfl, (Below.refl _ w).alloc (Nat.le_refl _) _⟩
theorem level6_calls (a : Int) (w : World) : Calls Try.prog 22 #[.agg #[.int .i64 6, .int .i64 a]] w fun e w' => e = .returned (.int .i64 3) ∧ Below w.heap.size w w' := by
  go_enter Try.func22, Try.ntmps22
  go_wp2
  go_ret
  exact ⟨rfl, (Below.refl _ w).alloc (Nat.le_refl _) _⟩
/-- awake's site. -/
def siteV (sb : Nat) : Value := .agg #[.slice none 0 0, .slice none 0 0, .slice (some ⟨sb, 0, none⟩) 1 1, .slice none 0 0, .slice none 0 0, .bool false]
def SecAt (sb : Nat) (w : World) : Prop := w.heap[sb]? = some (.cells #[.string ⟨#[115]⟩] 9 (0, 0))
theorem SecAt.later {sb : Nat} {w w' : World} (h : SecAt sb w) {B : Nat} (hb : Below B w w') (hB : sb < B) : SecAt sb w' := (hb.block sb hB).trans h
theorem SecAt.cell {sb : Nat} {w : World} (h : SecAt sb w) : w.cell? ⟨sb, 0, none⟩ = some (.string ⟨#[115]⟩) := by
  have h' : w.heap[sb]? = some (.cells #[.string ⟨#[115]⟩] 9 (0, 0)) := h
  simp [World.cell?, h']
theorem SecAt.lt {sb : Nat} {w : World} (h : SecAt sb w) : sb < w.heap.size := (Array.getElem?_eq_some_iff.1 h).1
theorem leaf_calls (sb : Nat) (w : World) (hs : SecAt sb w) : Calls Try.prog 24 #[siteV sb, .agg #[.int .i64 3, .int .i64 0]] w fun e w' => e = .returned (.string ⟨#[107, 110, 111, 119, 115, 32, 115]⟩) ∧ Below w.heap.size w w' := by
  have hb : Below w.heap.size w ((w.alloc (.cells #[.slice none 0 0, .slice none 0 0, .slice (some ⟨sb, 0, none⟩) 1 1, .slice none 0 0, .slice none 0 0, .bool false] 46)).alloc (.cells #[.int .i64 3, .int .i64 0] 32)) := ((Below.refl _ w).alloc (Nat.le_refl _) _).alloc (by simp) _
  have hc := (hs.later hb hs.lt).cell
  have HB := Lib.hid hb
  clear hs hb
  unfold siteV
  go_enter Try.func24, Try.ntmps24
  go_wp2
  go_ret
  exact ⟨by rfl, HB.out⟩

theorem isB_below {T e : TypeId} {B b : Nat} {bs : List Value} {w w' : World} (h : Lib.IsBuilder T e B b bs w) (hb : Below w.heap.size w w') : Lib.IsBuilder T e B b bs w' := by
  rcases h with ⟨h1, v, h2, h3, h4⟩ | ⟨h1, v, h2, h3, h4⟩
  · exact .inl ⟨h1, v, (hb.block b (Array.getElem?_eq_some_iff.1 h2).1).trans h2, ownsRow_below' h3 hb, h4⟩
  · exact .inr ⟨h1, v, (hb.block b (Array.getElem?_eq_some_iff.1 h2).1).trans h2, ownsRow_below' h3 hb, h4⟩
theorem write_cells {w : World} {b tb : Nat} {e e' : TypeId} {x0 x1 x2 x3 x4 x5 x y z : Value} (h : w.heap[b]? = some (.cells #[x0, x1, x2, x3, x4, x5] e (0, 0))) (h' : w.heap[tb]? = some (.cells #[x, y, z] e' (0, 0))) :
    w.cell? ⟨b, 0, none⟩ = some x0 ∧ w.cell? ⟨b, 1, none⟩ = some x1 ∧ w.cell? ⟨b, 2, none⟩ = some x2 ∧ w.cell? ⟨b, 3, none⟩ = some x3 ∧ w.cell? ⟨b, 4, none⟩ = some x4 ∧ w.cell? ⟨b, 5, none⟩ = some x5 ∧
    w.cell? ⟨tb, 0, none⟩ = some x ∧ w.cell? ⟨tb, 1, none⟩ = some y ∧ w.cell? ⟨tb, 2, none⟩ = some z := by
  refine ⟨?_, ?_, ?_, ?_, ?_, ?_, ?_, ?_, ?_⟩ <;> simp [World.cell?, h, h']
theorem cells3 {w : World} {b : Nat} {e : TypeId} {x y z : Value} (h : w.heap[b]? = some (.cells #[x, y, z] e (0, 0))) : w.cell? ⟨b, 0, none⟩ = some x ∧ w.cell? ⟨b, 1, none⟩ = some y ∧ w.cell? ⟨b, 2, none⟩ = some z := by
  refine ⟨?_, ?_, ?_⟩ <;> simp [World.cell?, h]
set_option maxHeartbeats 1000000 in
theorem writeLeaf_calls (B b tb sb : Nat) (v : Value) (l : List UInt8) (least : Int) (w : World) (hl : least ≤ 4) (hs : SecAt sb w) (ht : w.heap[tb]? = some (.cells #[.int .i64 3, .int .i64 0, v] 61 (0, 0))) (hsB : sb < B) (htB : tb < B) (hB : B ≤ w.heap.size)
    (hb : Lib.IsBuilder 66 5 B b (Lib.byteCells l) w) (hll : l.length ≤ 1000) :
    Calls Try.prog 20 #[.pointer (some ⟨tb, 0, none⟩), .pointer (some ⟨b, 0, none⟩), siteV sb, .int .i64 least] w fun e w' => e = .returned (.tuple #[]) ∧ (Lib.IsBuilder 66 5 B b (Lib.byteCells (l ++ [107, 110, 111, 119, 115, 32, 115])) w' ∧ Below B w w') := by
  unfold siteV
  have h0 : Below w.heap.size w (w.alloc (.cells #[.slice none 0 0, .slice none 0 0, .slice (some ⟨sb, 0, none⟩) 1 1, .slice none 0 0, .slice none 0 0, .bool false] 46)) := (Below.refl _ w).alloc (Nat.le_refl _) _
  go_enter Try.func20, Try.ntmps20
  go_upto_region 1 with (fail)
  obtain ⟨W0, hW0⟩ : ∃ W0, w.alloc (.cells #[.slice none 0 0, .slice none 0 0, .slice (some ⟨sb, 0, none⟩) 1 1, .slice none 0 0, .slice none 0 0, .bool false] 46) = W0 := ⟨_, rfl⟩
  have hbx : W0.heap[w.heap.size]? = some (.cells #[.slice none 0 0, .slice none 0 0, .slice (some ⟨sb, 0, none⟩) 1 1, .slice none 0 0, .slice none 0 0, .bool false] 46 (0, 0)) := by rw [← hW0]; exact heap_alloc_new w _
  have hs0 : W0.heap.size = w.heap.size + 1 := by rw [← hW0]; simp
  rw [hW0] at h0 ⊢
  clear hW0
  obtain ⟨j0, j1, j2⟩ := cells3 ((h0.block tb (by omega)).trans ht)
  have HS0 := Lib.hid (hs.later h0 (by omega))
  have HT0 := Lib.hid ((h0.block tb (by omega)).trans ht)
  have HBX := Lib.hid hbx
  have HB0 := Lib.hid (isB_below hb h0)
  have H0 := Lib.hid h0
  clear hs ht hb h0 hbx
  have hl2 : ¬ (4 : Int) < least := by omega
  go_upto_region 7 with (go_at_call 22; refine (level3_calls _ _).mono ?_; rintro e w1 ⟨rfl, hb1⟩; clear j0 j1 j2; obtain ⟨j0, j1, j2⟩ := cells3 ((hb1.block tb (by omega)).trans HT0.out))
  clear j0 j1 j2 hl2
  refine region_plan (tk := false) (m := 7) (by kernel_rfl) (by kernel_rfl) (fun W hW => ?_)
  have hWW : Below W0.heap.size W0 W := hb1.trans ((show Below w1.heap.size w1 W by rw [hW]; exact below_drew1 (Below.refl _ _)).mono hb1.size)
  have HK := fun (w' : World) (hb : Below W.heap.size W w') => write_cells (((hWW.trans (hb.mono hWW.size)).block w.heap.size (by omega)).trans HBX.out) (((hWW.trans (hb.mono hWW.size)).block tb (by omega)).trans HT0.out)
  have HSW := fun (w' : World) (hb : Below W.heap.size W w') => HS0.out.later (hWW.trans (hb.mono hWW.size)) (by omega)
  have hzW := hWW.size
  have HBW := Lib.hid hWW
  clear hW hWW hb1
  -- PLAN7
  refine plan_fix (N := some 31) (v := ?_) (a' := ?_) rfl rfl (fun u w' hBr hvr => step_val (by rfl) ?_ ⟨rfl, Below.refl _ _⟩) ?_ ?_
  rotate_left 2
  · go_simp
    with_reducible rfl
  · intro u
    simp only [Act.put, List.setIfInBounds_toArray, List.set_cons_zero, List.set_cons_succ]
    rfl
  refine plan_fix (N := some 32) (v := ?_) (a' := ?_) rfl rfl (fun u w' hBr hvr => step_val (by rfl) ?_ ⟨rfl, Below.refl _ _⟩) ?_ ?_
  rotate_left 2
  · have hk := HK w' hBr; obtain ⟨k0, k1, k2, k3, k4, k5, j0, j1, j2⟩ := hk
    go_simp
    with_reducible rfl
  · intro u
    simp only [Act.put, List.setIfInBounds_toArray, List.set_cons_zero, List.set_cons_succ]
    rfl
  refine plan_fix (N := some 33) (v := ?_) (a' := ?_) rfl rfl (fun u w' hBr hvr => step_val (by rfl) ?_ ⟨rfl, Below.refl _ _⟩) ?_ ?_
  rotate_left 2
  · go_simp
    with_reducible rfl
  · intro u
    simp only [Act.put, List.setIfInBounds_toArray, List.set_cons_zero, List.set_cons_succ]
    rfl
  refine plan_fix (N := some 34) (v := ?_) (a' := ?_) rfl rfl (fun u w' hBr hvr => step_val (by rfl) ?_ ⟨rfl, Below.refl _ _⟩) ?_ ?_
  rotate_left 2
  · go_simp
    with_reducible rfl
  · intro u
    simp only [Act.put, List.setIfInBounds_toArray, List.set_cons_zero, List.set_cons_succ]
    rfl
  refine plan_fix (N := some 35) (v := ?_) (a' := ?_) rfl rfl (fun u w' hBr hvr => step_val (by rfl) ?_ ⟨rfl, Below.refl _ _⟩) ?_ ?_
  rotate_left 2
  · go_simp
    with_reducible rfl
  · intro u
    simp only [Act.put, List.setIfInBounds_toArray, List.set_cons_zero, List.set_cons_succ]
    rfl
  refine plan_fix (N := some 36) (v := ?_) (a' := ?_) rfl rfl (fun u w' hBr hvr => step_val (by rfl) ?_ ⟨rfl, Below.refl _ _⟩) ?_ ?_
  rotate_left 2
  · have hk := HK w' hBr; obtain ⟨k0, k1, k2, k3, k4, k5, j0, j1, j2⟩ := hk
    go_simp
    with_reducible rfl
  · intro u
    simp only [Act.put, List.setIfInBounds_toArray, List.set_cons_zero, List.set_cons_succ]
    rfl
  refine plan_fix (N := some 37) (v := ?_) (a' := ?_) rfl rfl (fun u w' hBr hvr => step_call Try.func24 (by kernel_rfl) rfl #[.agg #[.slice none 0 0, .slice none 0 0, .slice (some ⟨sb, 0, none⟩) 1 1, .slice none 0 0, .slice none 0 0, .bool false], .agg #[.int .i64 3, .int .i64 0]] (by rfl) rfl (by (try simp only [List.map_toArray, List.map_cons, List.map_nil]); first | done | rfl) ?_) ?_ ?_
  rotate_left 2
  · refine (leaf_calls sb w' (HSW w' hBr)).mono ?_
    rintro e w'' ⟨rfl, hbn⟩
    refine ⟨_, rfl, ?_, hbn⟩
    with_reducible rfl
  · intro u
    simp only [Act.put, List.setIfInBounds_toArray, List.set_cons_zero, List.set_cons_succ]
    rfl
  -- PLAN7ED
  refine plan_rest #[true, true, true, true, true, true, true, false] rfl rfl (by kernel_rfl) (fun u wz hBz hvz => any_last ?_)
  clear hvz
  have hBz2 := HBW.out.trans (hBz.mono hzW)
  have HWS := WriteString_calls B b l ⟨#[107, 110, 111, 119, 115, 32, 115]⟩ wz (isB_below HB0.out hBz2) (by have := hBz2.size; omega) (by show l.length + 7 ≤ 1000000; omega)
  have HE := Lib.hid (H0.out.trans (hBz2.mono (by omega)))
  refine last_ (i := 7) (N := some 38) #[true, true, true, true, true, true, true, true] rfl rfl (by kernel_rfl) (by decide) (fun K hK => ?_)
  go_simp
  refine HWS.mono ?_
  rintro e w5 ⟨⟨v5, rfl⟩, hbl, hbe, _⟩
  refine hK.out _ _ ?_
  clear hK K HWS
  refine done_ (by kernel_rfl) ?_
  go_wp2
  go_end0
  exact ⟨rfl, hbl, (HE.out.mono hB).trans hbe⟩

set_option maxHeartbeats 1000000 in
theorem writeNot_calls (B b tb t2 sb : Nat) (v : Value) (oa : Option Addr) (c : Nat) (w : World) (hs : SecAt sb w) (ht : w.heap[tb]? = some (.cells #[.int .i64 6, .int .i64 0, .slice oa 1 c] 61 (0, 0))) (ht2 : w.heap[t2]? = some (.cells #[.int .i64 3, .int .i64 0, v] 61 (0, 0)))
    (ad : Addr) (had : oa = some ad) (hbk : ∃ cur, w.heap[ad.block]? = some (.cells cur 56 (0, 0)) ∧ ad = ⟨ad.block, 0, none⟩ ∧ cur[0]? = some (.pointer (some ⟨t2, 0, none⟩))) (hsB : sb < B) (htB : tb < B) (ht2B : t2 < B) (haB : ad.block < B) (hB : B ≤ w.heap.size)
    (hb : Lib.IsBuilder 66 5 B b (Lib.byteCells []) w) :
    Calls Try.prog 20 #[.pointer (some ⟨tb, 0, none⟩), .pointer (some ⟨b, 0, none⟩), siteV sb, .int .i64 0] w fun e w' => e = .returned (.tuple #[]) ∧ (Lib.IsBuilder 66 5 B b (Lib.byteCells [110, 111, 116, 32, 107, 110, 111, 119, 115, 32, 115]) w' ∧ Below B w w') := by
  subst had
  unfold siteV
  have h0 : Below w.heap.size w (w.alloc (.cells #[.slice none 0 0, .slice none 0 0, .slice (some ⟨sb, 0, none⟩) 1 1, .slice none 0 0, .slice none 0 0, .bool false] 46)) := (Below.refl _ w).alloc (Nat.le_refl _) _
  go_enter Try.func20, Try.ntmps20
  go_upto_region 1 with (fail)
  obtain ⟨W0, hW0⟩ : ∃ W0, w.alloc (.cells #[.slice none 0 0, .slice none 0 0, .slice (some ⟨sb, 0, none⟩) 1 1, .slice none 0 0, .slice none 0 0, .bool false] 46) = W0 := ⟨_, rfl⟩
  have hbx : W0.heap[w.heap.size]? = some (.cells #[.slice none 0 0, .slice none 0 0, .slice (some ⟨sb, 0, none⟩) 1 1, .slice none 0 0, .slice none 0 0, .bool false] 46 (0, 0)) := by rw [← hW0]; exact heap_alloc_new w _
  have hs0 : W0.heap.size = w.heap.size + 1 := by rw [← hW0]; simp
  rw [hW0] at h0 ⊢
  clear hW0
  obtain ⟨j0, j1, j2⟩ := cells3 ((h0.block tb (by omega)).trans ht)
  have HS0 := Lib.hid (hs.later h0 (by omega))
  have HT0 := Lib.hid ((h0.block tb (by omega)).trans ht)
  have HT2 := Lib.hid ((h0.block t2 (by omega)).trans ht2)
  have HAD := Lib.hid (show ∃ cur, W0.heap[ad.block]? = some (.cells cur 56 (0, 0)) ∧ ad = ⟨ad.block, 0, none⟩ ∧ cur[0]? = some (.pointer (some ⟨t2, 0, none⟩)) by
    obtain ⟨cur, h1, h2⟩ := hbk
    exact ⟨cur, (h0.block _ (by omega)).trans h1, h2⟩)
  have HBX := Lib.hid hbx
  have HB0 := Lib.hid (isB_below hb h0)
  have H0 := Lib.hid h0
  clear hs ht ht2 hbk hb h0 hbx
  go_upto_region 9 with (go_at_call 22; refine (level6_calls _ _).mono ?_; rintro e w1 ⟨rfl, hb1⟩; clear j0 j1 j2; obtain ⟨j0, j1, j2⟩ := cells3 ((hb1.block tb (by omega)).trans HT0.out))
  have hsz1 := hb1.size
  have HWS := WriteString_calls B b [] ⟨#[110, 111, 116, 32]⟩ w1 (isB_below HB0.out hb1) (by omega) (by show 0 + 4 ≤ 1000000; omega)
  go_upto_region 10 with (go_at_call 23; refine HWS.mono ?_; rintro e w2 ⟨⟨v5, rfl⟩, hbl, hbe, hkt⟩)
  clear j0 j1 j2 HWS
  have hsz2 := hbe.size
  have hB2 : Below B W0 w2 := (hb1.mono (by omega)).trans hbe
  refine region_plan (tk := false) (m := 9) (by kernel_rfl) (by kernel_rfl) (fun W hW => ?_)
  have hWW : Below w2.heap.size w2 W := by rw [hW]; exact below_drew1 (Below.refl _ _)
  have hbx2 : w2.heap[w.heap.size]? = some (.cells #[.slice none 0 0, .slice none 0 0, .slice (some ⟨sb, 0, none⟩) 1 1, .slice none 0 0, .slice none 0 0, .bool false] 46 (0, 0)) :=
    (hkt _ _ _ _ ((hb1.block _ (by omega)).trans HBX.out) (by decide) (by decide)).trans ((hb1.block _ (by omega)).trans HBX.out)
  have HK := fun (w' : World) (hb : Below W.heap.size W w') => write_cells (((hWW.trans (hb.mono hWW.size)).block w.heap.size (by omega)).trans hbx2) (((hB2.trans ((hWW.trans (hb.mono hWW.size)).mono (by omega))).block tb htB).trans HT0.out)
  have HA := fun (w' : World) (hb : Below W.heap.size W w') => show w'.cell? ad = some (.pointer (some ⟨t2, 0, none⟩)) by
    obtain ⟨cur, h1, h2, h3⟩ := HAD.out
    have h4 := ((hB2.trans ((hWW.trans (hb.mono hWW.size)).mono (by omega))).block ad.block haB).trans h1
    rw [h2]
    simp [World.cell?, h4, h3]
  have hzW := hWW.size
  have HBW := Lib.hid hWW
  have HB2 := Lib.hid hB2
  have HE2 := Lib.hid (((H0.out.mono hB).trans hB2))
  have HBL := Lib.hid hbl
  clear hW hWW hb1 hbx2 hkt hbe hB2 hbl
  -- PLAN10
  refine plan_fix (N := some 43) (v := ?_) (a' := ?_) rfl rfl (fun u w' hBr hvr => step_val (by rfl) ?_ ⟨rfl, Below.refl _ _⟩) ?_ ?_
  rotate_left 2
  · go_simp
    with_reducible rfl
  · intro u
    simp only [Act.put, List.setIfInBounds_toArray, List.set_cons_zero, List.set_cons_succ]
    rfl
  refine plan_fix (N := some 44) (v := ?_) (a' := ?_) rfl rfl (fun u w' hBr hvr => step_val (by rfl) ?_ ⟨rfl, Below.refl _ _⟩) ?_ ?_
  rotate_left 2
  · go_simp
    with_reducible rfl
  · intro u
    simp only [Act.put, List.setIfInBounds_toArray, List.set_cons_zero, List.set_cons_succ]
    rfl
  refine plan_fix (N := some 45) (v := ?_) (a' := ?_) rfl rfl (fun u w' hBr hvr => step_val (by rfl) ?_ ⟨rfl, Below.refl _ _⟩) ?_ ?_
  rotate_left 2
  · go_simp
    with_reducible rfl
  · intro u
    simp only [Act.put, List.setIfInBounds_toArray, List.set_cons_zero, List.set_cons_succ]
    rfl
  refine plan_fix (N := some 46) (v := ?_) (a' := ?_) rfl rfl (fun u w' hBr hvr => step_val (by rfl) ?_ ⟨rfl, Below.refl _ _⟩) ?_ ?_
  rotate_left 2
  · have hk := HK w' hBr; obtain ⟨k0, k1, k2, k3, k4, k5, j0, j1, j2⟩ := hk
    go_simp
    with_reducible rfl
  · intro u
    simp only [Act.put, List.setIfInBounds_toArray, List.set_cons_zero, List.set_cons_succ]
    rfl
  refine plan_fix (N := some 47) (v := ?_) (a' := ?_) rfl rfl (fun u w' hBr hvr => step_val (by rfl) ?_ ⟨rfl, Below.refl _ _⟩) ?_ ?_
  rotate_left 2
  · go_simp
    with_reducible rfl
  · intro u
    simp only [Act.put, List.setIfInBounds_toArray, List.set_cons_zero, List.set_cons_succ]
    rfl
  refine plan_fix (N := some 48) (v := ?_) (a' := ?_) rfl rfl (fun u w' hBr hvr => step_val (by rfl) ?_ ⟨rfl, Below.refl _ _⟩) ?_ ?_
  rotate_left 2
  · have hk := HA w' hBr
    go_simp
    with_reducible rfl
  · intro u
    simp only [Act.put, List.setIfInBounds_toArray, List.set_cons_zero, List.set_cons_succ]
    rfl
  refine plan_fix (N := some 49) (v := ?_) (a' := ?_) rfl rfl (fun u w' hBr hvr => step_val (by rfl) ?_ ⟨rfl, Below.refl _ _⟩) ?_ ?_
  rotate_left 2
  · go_simp
    with_reducible rfl
  · intro u
    simp only [Act.put, List.setIfInBounds_toArray, List.set_cons_zero, List.set_cons_succ]
    rfl
  refine plan_fix (N := some 50) (v := ?_) (a' := ?_) rfl rfl (fun u w' hBr hvr => step_val (by rfl) ?_ ⟨rfl, Below.refl _ _⟩) ?_ ?_
  rotate_left 2
  · have hk := HK w' hBr; obtain ⟨k0, k1, k2, k3, k4, k5, j0, j1, j2⟩ := hk
    go_simp
    with_reducible rfl
  · intro u
    simp only [Act.put, List.setIfInBounds_toArray, List.set_cons_zero, List.set_cons_succ]
    rfl
  refine plan_fix (N := some 51) (v := ?_) (a' := ?_) rfl rfl (fun u w' hBr hvr => step_val (by rfl) ?_ ⟨rfl, Below.refl _ _⟩) ?_ ?_
  rotate_left 2
  · go_simp
    with_reducible rfl
  · intro u
    simp only [Act.put, List.setIfInBounds_toArray, List.set_cons_zero, List.set_cons_succ]
    rfl
  -- PLAN10ED
  refine plan_rest #[true, true, true, true, true, true, true, true, true, false] rfl rfl (by kernel_rfl) (fun u wz hBz hvz => any_last ?_)
  clear hvz
  have hBz2 := HBW.out.trans (hBz.mono hzW)
  have hBz3 := HB2.out.trans (hBz2.mono (by omega))
  have hszz := hBz2.size
  have HWL := writeLeaf_calls B b t2 sb v ([] ++ [110, 111, 116, 32]) 3 wz (by omega) (HS0.out.later hBz3 hsB) ((hBz3.block t2 ht2B).trans HT2.out) hsB ht2B (by omega) (isB_below HBL.out hBz2) (by decide)
  have HE := Lib.hid (HE2.out.trans (hBz2.mono (by omega)))
  refine last_ (i := 9) (N := some 52) #[true, true, true, true, true, true, true, true, true, true] rfl rfl (by kernel_rfl) (by decide) (fun K hK => ?_)
  unfold siteV at HWL
  go_simp
  refine HWL.mono ?_
  rintro e w5 ⟨rfl, hbl, hbe⟩
  refine hK.out _ _ ?_
  clear hK K HWL
  refine done_ (by kernel_rfl) ?_
  go_wp2
  go_end0
  exact ⟨rfl, hbl, HE.out.trans hbe⟩
end Go.Proofs.Ytmelefiodhnlpaa
