/- field.Pairs in plain words: what stands between semicolons, trimmed: a name (in small letters) and a value. -/
import Derived.Test.YtfmppmabnpkooaaDoorList
import Derived.Test.YtfmppmabnpkooaaDoorCutEq
import Derived.Test.YtfmppmabnpkooaaDoorRound
import Derived.Test.YtfmppmabnpkooaaDoorWTab
set_option linter.unusedSimpArgs false
set_option linter.unusedVariables false
namespace Go.Proofs.YtfmppmabnpkooaaDoor
open Go Go.RowKit Go.Shelf Go.Proofs Go.Proofs.YtfmppmabnpkooaaDoorW.PrintWords Go.Proofs.YtfmppmabnpkooaaDoorW.PrintLast Go.Proofs.YtfmppmabnpkooaaDoorW.PrintMore
attribute [local go_sem] Oper.semAt_some

/-- One piece as it stands in the pairs. -/
def pairB (x : ByteArray) : ByteArray × ByteArray := (⟨(lowL (trimL (cutA 61 (trimL x.data.toList)))).toArray⟩, ⟨(trimL (cutZ 61 (trimL x.data.toList))).toArray⟩)
def pairsF (ps : List ByteArray) : List (ByteArray × ByteArray) := (ps.filter fun x => decide (trimL x.data.toList ≠ [])).map pairB
def pairCells (p : ByteArray × ByteArray) : List Value := [.string p.1, .string p.2]

theorem pairs_hit (pre : List ByteArray) (x : ByteArray) (h : trimL x.data.toList ≠ []) : pairsF (pre ++ [x]) = pairsF pre ++ [pairB x] := by
  simp [pairsF, h]
theorem pairs_miss (pre : List ByteArray) (x : ByteArray) (h : trimL x.data.toList = []) : pairsF (pre ++ [x]) = pairsF pre := by
  simp [pairsF, h]
theorem pairs_len (pre : List ByteArray) : (pairsF pre).length ≤ pre.length := by
  unfold pairsF
  rw [List.length_map]
  exact List.length_filter_le _ _

theorem Pairs_info : (Tryd.prog.info? 29).map (fun i => (i.zero, i.size, i.bytes)) = some (some (.agg #[.string ⟨#[]⟩, .string ⟨#[]⟩]), 2, 32) := by kernel_rfl

set_option maxRecDepth 100000 in
set_option maxHeartbeats 4000000 in
theorem Pairs_calls (s : ByteArray) (hn : s.size ≤ 1099511627776) (w : World) :
    Calls Tryd.prog 20 #[.string s] w fun e w' => ∃ v, e = .returned v ∧ w'.ownsRow w.heap.size 29 2 v (pairsF (pieces 59 s)).length ((pairsF (pieces 59 s)).flatMap pairCells) ∧ Below w.heap.size w w' := by
  refine (callsIn_wide (n := 4)).1 ?_
  refine callsIn_of_wp_marks Tryd.func20 rfl trivial ?_ rfl
  simp only [Tryd.ntmps20, List.size_toArray, List.length_cons, List.length_nil, Nat.reduceAdd, Nat.reduceSub, Array.replicate_succ, Array.replicate_zero, List.push_toArray, List.append_toArray, List.nil_append, List.cons_append]
  gi_wp2_with (refine ⟨trivial, ?_⟩; gi_at_call 55; refine (callsIn_wide.2 (SplitSeq_any _ _ _)).mono ?_; rintro e w' ⟨rfl, rfl⟩)
  obtain ⟨W0, hW0⟩ : ∃ W0, (((w.alloc (.cells #[.slice none 0 0] 26)).alloc (.cells #[.string s] 9)).alloc (.cells #[.string ⟨#[59]⟩] 9)).alloc (.cells #[.int .i64 0] 3) = W0 := ⟨_, rfl⟩
  have hs0 : W0.heap.size = w.heap.size + 4 := by rw [← hW0]; simp
  have hbx : Boxes (w.heap.size + 1) 59 s W0 := by
    have := boxes_new s 59 (w.alloc (.cells #[.slice none 0 0] 26)); rw [World.size_alloc] at this; rw [← hW0]; exact this
  have hbl : Below w.heap.size w W0 := by
    rw [← hW0]; exact ((((Below.refl _ w).alloc (Nat.le_refl _) _).alloc (by simp) _).alloc (by simp; omega) _).alloc (by simp; omega) _
  have hk2 : Boxed W0 w.heap.size 26 (.slice none 0 0) := by
    rw [← hW0]; exact (((Boxed.new w _ _).alloc _).alloc _).alloc _
  rw [hW0]
  clear hW0
  have hsz := Lib.hid (Lib.size_eq s)
  refine wpIn_rangeBox rfl (by omega) (gf := 99) rfl trivial (enters_of Tryd.func99 (by kernel_rfl) rfl) (bs := w.heap.size + 1) (lo := w.heap.size + 1) (xs0 := pieces 59 s)
    (splitSeq1_box _ (by omega) _ _ _ _ (by omega) (by omega) hbx) (by omega) (by omega) rfl
    (fun pre W => (∃ v, Boxed W w.heap.size 26 v ∧ W.ownsRow (w.heap.size + 4) 29 2 v (pairsF pre).length ((pairsF pre).flatMap pairCells)) ∧ Below w.heap.size w W)
    (fun c pre W => False)
    ((BoxOwn.holds (fun pre => (pairsF pre).length) (fun pre => (pairsF pre).flatMap pairCells) (by omega) (by omega)).and (BoxOwn.below (Nat.le_refl _) (by omega) (by omega)))
    (fun c => BoxOwn.pure)
    ⟨⟨_, hk2, World.ownsRow_nil _ _ _ _⟩, hbl⟩
    (fun x => { tmps := #[.string s, undef, .slice none 0 0, .pointer (some ⟨w.heap.size, 0, none⟩), .string x, undef, undef, undef, .string s, .func (.func 99) #[] #[.pointer (some ⟨w.heap.size + 1 + 1, 0, none⟩), .pointer (some ⟨w.heap.size + 1, 0, none⟩), .pointer (some ⟨w.heap.size + 1 + 2, 0, none⟩)], .string x, undef, undef, undef, undef, undef, undef, undef, undef, undef, undef, undef, undef, undef, undef, undef, undef, undef, undef, undef, undef], defers := [] }) ?assign ?body ?done ?stop
  case assign =>
    intro l x W K hK
    gi_wp2
    exact hK
  case body =>
    rintro l pre x W ⟨⟨v, hv, hrow⟩, hb⟩ hpre hle
    have hx : x.size ≤ 140737488355328 := by
      have : x ∈ pieces 59 s := hpre.subset (by simp)
      have := piece_size 59 _ _ _ this
      omega
    have hlen : (pairsF pre).length + 1 ≤ 1099511627777 := by
      have h1 := hpre.length_le
      have h2 := congrArg List.length (pieces_split 59 s)
      rw [List.length_map, splitL_length] at h2
      have h3 := count_size s 59
      have h4 := pairs_len pre
      simp only [List.length_append, List.length_cons, List.length_nil] at h1
      omega
    obtain ⟨T, hT⟩ : ∃ T : ByteArray, (⟨(trimL x.data.toList).toArray⟩ : ByteArray) = T := ⟨_, rfl⟩
    have hTl : T.data.toList = trimL x.data.toList := by rw [← hT]
    have hTs : T.size ≤ 140737488355328 := by
      have := trimL_len x.data.toList
      rw [Lib.size_eq] at hx ⊢
      rw [hTl]; omega
    have hTc := trim_calls x hx
    rw [hT] at hTc
    by_cases hE : trimL x.data.toList = []
    · have hE1 : (T.toList == ([] : List UInt8)) = true := by rw [Go.ByteArray.toList_eq, hTl]; exact beq_iff_eq.2 hE
      have hE2 : T.toList.isEmpty = true := by rw [Go.ByteArray.toList_eq, hTl]; exact List.isEmpty_iff.2 hE
      gi_wp2_with (first
        | (refine ⟨trivial, ?_⟩; gi_at_call 28; refine (CallsIn.inRound l (callsIn_wide.2 (hTc _))).mono ?_; rintro e w1 ⟨rfl, hb3⟩))
      refine ⟨keepsFrom_below hb3, KeepB.below hb3 (by omega), ⟨v, (boxed_below hv hb3), ?_⟩, hb.trans (hb3.mono hb.size)⟩
      rw [pairs_miss pre x hE]; exact ownsRow_below hrow hb3
    · have hE1 : (T.toList == ([] : List UInt8)) = false := by rw [Go.ByteArray.toList_eq, hTl]; exact beq_eq_false_iff_ne.2 hE
      have hE2 : T.toList.isEmpty = false := by rw [Go.ByteArray.toList_eq, hTl]; exact Bool.eq_false_iff.2 fun h => hE (List.isEmpty_iff.1 h)
      obtain ⟨bc, hcut⟩ := cut_calls T 61 hTs
      obtain ⟨A, hA⟩ : ∃ A : ByteArray, (⟨(cutA 61 T.data.toList).toArray⟩ : ByteArray) = A := ⟨_, rfl⟩
      obtain ⟨Z, hZ⟩ : ∃ Z : ByteArray, (⟨(cutZ 61 T.data.toList).toArray⟩ : ByteArray) = Z := ⟨_, rfl⟩
      rw [hA, hZ] at hcut
      have hAl : A.data.toList = cutA 61 (trimL x.data.toList) := by rw [← hA, hTl]
      have hZl : Z.data.toList = cutZ 61 (trimL x.data.toList) := by rw [← hZ, hTl]
      have hAs : A.size ≤ 140737488355328 := by
        have := cutA_len 61 (trimL x.data.toList)
        rw [Lib.size_eq] at hTs ⊢
        rw [hAl]; rw [hTl] at hTs; omega
      have hZs : Z.size ≤ 140737488355328 := by
        have := cutZ_len 61 (trimL x.data.toList)
        rw [Lib.size_eq] at hTs ⊢
        rw [hZl]; rw [hTl] at hTs; omega
      have hA1 := trim_calls A hAs
      have hA2 := item_calls A hAs
      have hZ1 := trim_calls Z hZs
      have hpair : pairB x = (itemB A, ⟨(trimL Z.data.toList).toArray⟩) := by unfold pairB itemB itemL; rw [hAl, hZl]
      have HP := Lib.hid hpair
      clear hpair hAl hZl hA hZ hT hTl hTs
      gi_wp2_with (first
        | (refine ⟨trivial, ?_⟩; gi_at_call 28; refine (CallsIn.inRound l (callsIn_wide.2 (hTc _))).mono ?_; rintro e w1 ⟨rfl, hb1⟩)
        | (refine ⟨trivial, ?_⟩; gi_at_call 57; refine (CallsIn.inRound l (callsIn_wide.2 (hcut _))).mono ?_; rintro e w3 ⟨rfl, ⟨nd, rfl⟩⟩; have hb3 := pw_below_drewN hb1 nd; clear hb1; generalize World.drewN _ nd = w3 at *))
      have hv3 := boxed_below hv hb3
      refine start_in (n := 10) (S := fun w' => w'.cell? ⟨w.heap.size, 0, none⟩ = some v) (ds := [9]) #[false, false, false, false, false, false, false, false, false, false] (by kernel_rfl) rfl (by rintro ⟨a, w, h⟩; exact h) rfl rfl hv3.cell (fun hHeld => ?_)
      have hb4 := below_drew1 hb3
      clear hb3 hv3
      generalize World.drew w3 = w4 at *
      refine pure_ (i := 1) (N := some 22) (v := ?_) (a' := ?_) #[false, true, false, false, false, false, false, false, false, false] rfl rfl (by kernel_rfl) (fun _ _ _ h => h) (Or.inl ⟨by rfl, ?_⟩) ?_ ?_
      rotate_left
      · intro w'
        go_simp
        with_reducible rfl
      rotate_left
      · simp only [Act.put, List.setIfInBounds_toArray, List.set_cons_zero, List.set_cons_succ]
        rfl
      refine pure_ (i := 4) (N := some 25) (v := ?_) (a' := ?_) #[false, true, false, false, true, false, false, false, false, false] rfl rfl (by kernel_rfl) (fun _ _ _ h => h) (Or.inl ⟨by rfl, ?_⟩) ?_ ?_
      rotate_left
      · intro w'
        go_simp
        with_reducible rfl
      rotate_left
      · simp only [Act.put, List.setIfInBounds_toArray, List.set_cons_zero, List.set_cons_succ]
        rfl
      refine take_ (i := 0) (N := some 21) (v := ?_) (a' := ?_) #[true, true, false, false, true, false, false, false, false, false] rfl rfl (by kernel_rfl) (fun _ _ _ h => h) (Or.inl ⟨by rfl, ?_⟩) hHeld ?_ ?_
      rotate_left
      · rintro w' s0
        go_simp
        with_reducible rfl
      rotate_left
      · simp only [Act.put, List.setIfInBounds_toArray, List.set_cons_zero, List.set_cons_succ]
        rfl
      refine one_ (i := 2) (N := some 23) #[true, true, true, false, true, false, false, false, false, false] rfl rfl (by kernel_rfl) (by decide) (fun K hK => ?_)
      refine goes_ Tryd.func28 (by kernel_rfl) rfl #[.string A] (by rfl) rfl rfl (by (try simp only [List.map_toArray, List.map_cons, List.map_nil]); first | done | rfl) ?_
      refine (hA1 _).mono ?_
      rintro e w5 ⟨rfl, hbn⟩
      refine ⟨_, rfl, ?_⟩
      have hbw5 := hb4.trans (hbn.mono hb4.size)
      clear hbn
      refine hK.out _ _ (boxed_below hv hbw5).cell (fun hHeld => ?_)
      clear hK K
      refine norm_ (a' := ?_) ?_ ?_
      rotate_left
      · show Act.put _ (some 23) _ = _
        simp only [Act.put, List.setIfInBounds_toArray, List.set_cons_zero, List.set_cons_succ]
        rfl
      refine one_ (i := 3) (N := some 24) #[true, true, true, true, true, false, false, false, false, false] rfl rfl (by kernel_rfl) (by decide) (fun K hK => ?_)
      refine goes_ Tryd.func26 (by kernel_rfl) rfl #[.string _] (by rfl) rfl rfl (by (try simp only [List.map_toArray, List.map_cons, List.map_nil]); first | done | rfl) ?_
      refine (hA2 _).mono ?_
      rintro e w6 ⟨rfl, hbn⟩
      refine ⟨_, rfl, ?_⟩
      have hbw6 := hbw5.trans (hbn.mono hbw5.size)
      clear hbn
      refine hK.out _ _ (boxed_below hv hbw6).cell (fun hHeld => ?_)
      clear hK K
      refine norm_ (a' := ?_) ?_ ?_
      rotate_left
      · show Act.put _ (some 24) _ = _
        simp only [Act.put, List.setIfInBounds_toArray, List.set_cons_zero, List.set_cons_succ]
        rfl
      refine one_ (i := 5) (N := some 26) #[true, true, true, true, true, true, false, false, false, false] rfl rfl (by kernel_rfl) (by decide) (fun K hK => ?_)
      refine goes_ Tryd.func28 (by kernel_rfl) rfl #[.string Z] (by rfl) rfl rfl (by (try simp only [List.map_toArray, List.map_cons, List.map_nil]); first | done | rfl) ?_
      refine (hZ1 _).mono ?_
      rintro e w7 ⟨rfl, hbn⟩
      refine ⟨_, rfl, ?_⟩
      have hbw7 := hbw6.trans (hbn.mono hbw6.size)
      clear hbn
      refine hK.out _ _ (boxed_below hv hbw7).cell (fun hHeld => ?_)
      clear hK K
      refine norm_ (a' := ?_) ?_ ?_
      rotate_left
      · show Act.put _ (some 26) _ = _
        simp only [Act.put, List.setIfInBounds_toArray, List.set_cons_zero, List.set_cons_succ]
        rfl
      refine pure_ (i := 6) (N := some 27) (v := ?_) (a' := ?_) #[true, true, true, true, true, true, true, false, false, false] rfl rfl (by kernel_rfl) (fun _ _ _ h => h) (Or.inl ⟨by rfl, ?_⟩) ?_ ?_
      rotate_left
      · intro w'
        go_simp
        with_reducible rfl
      rotate_left
      · simp only [Act.put, List.setIfInBounds_toArray, List.set_cons_zero, List.set_cons_succ]
        rfl
      refine one_ (i := 7) (N := some 28) #[true, true, true, true, true, true, true, true, false, false] rfl rfl (by kernel_rfl) (by decide) (fun K hK => ?_)
      go_simp
      have hv7 := boxed_below hv hbw7
      have hr7 := ownsRow_below hrow hbw7
      have hs7 := hbw7.size
      refine hK.out _ _ (hv7.alloc _).cell (fun hHeld => ?_)
      clear hK K
      refine one_ (i := 8) (N := some 29) #[true, true, true, true, true, true, true, true, true, false] rfl rfl (by kernel_rfl) (by decide) (fun K hK => ?_)
      refine step_append_cells (w0 := w7) (W := w7) (w.heap.size + 4) (by rfl) (.tmp 21) (.tmp 28) 26 29 (.agg #[.string ⟨#[]⟩, .string ⟨#[]⟩]) 2 32 rfl Tryd.underlying26 Pairs_info (by rfl) (by decide) (by decide) v _ _ [.string (itemB A), .string ⟨(trimL Z.data.toList).toArray⟩] (by rfl) (by rfl) rfl (by simp [Value.oneCell']) hr7 (Below.refl _ _) (by omega) (by omega) ?_
      intro v1 w8 hown8 _ hg8 _
      obtain ⟨g', cap', rfl⟩ := ownsRow_succ hown8
      have hv8 := hv7.kept hg8 (hv7.not_row (by decide) hr7)
      refine hK.out _ _ hv8.cell (fun hHeld => ?_)
      clear hK K
      have hc8 := hv8.cell
      have hf8 := hv8.frozen
      refine last_ (i := 9) (N := none) #[true, true, true, true, true, true, true, true, true, true] rfl rfl (by kernel_rfl) (by decide) (fun K hK => ?_)
      go_simp
      refine hK.out _ _ ?_
      clear hK K
      refine done_ (by kernel_rfl) ?_
      have hset := KeepsOthers.setCell w8 ⟨w.heap.size, 0, none⟩ (.slice (some ⟨g', 0, none⟩) ((pairsF pre).length + 1) cap')
      have hrg : ∀ r, v.ownBlock = some r → w.heap.size + 4 ≤ r ∧ ∃ o : Obj, w7.heap[r]? = some o ∧ o.isCells = true := by
        intro r e
        rcases hr7.2 with ⟨rfl, _⟩ | ⟨g, cap, cur, rfl, hgb, hh, _⟩
        · simp [Value.ownBlock] at e
        · obtain rfl : g = r := by simpa [Value.ownBlock] using e
          exact ⟨hgb, _, hh, rfl⟩
      have hk8 : KeepsOthers w7 w8 := KeepsOthers.of_grownBy hg8 fun j o ej hj => by
        obtain ⟨_, o', ho', hc'⟩ := hrg j ej
        rw [hj] at ho'; cases ho'; exact hc'
      have hb8 : Below w.heap.size w w8 := (hb.trans (hbw7.mono hb.size)).grown hg8 (by omega) (fun r e => by have := (hrg r e).1; omega)
      refine ⟨(keepsFrom_below hbw7).trans ((hk8.trans hset).from _), ((KeepB.below hbw7 (by omega)).trans ((KeepB.grown hg8 (by omega) (fun r e => by have := (hrg r e).1; omega)).trans (KeepB.setCell _ _ _ (.inl (by simp))))), ⟨_, hv8.set _, ?_⟩, hb8.setCell (p := ⟨w.heap.size, 0, none⟩) (Nat.le_refl _) _⟩
      rw [pairs_hit pre x hE, HP.out]
      have hr6 := hown8.kept (grownBy_setCell' w8 w.heap.size (.slice (some ⟨g', 0, none⟩) ((pairsF pre).length + 1) cap')) (.inr (hv8.not_row (by decide) hown8).symm)
      simpa [pairCells] using hr6
  case done =>
    rintro D W hD ⟨⟨v, hv, hrow⟩, hb⟩ hK
    obtain ⟨oa, k0, c0, rfl⟩ : ∃ oa k0 c0, v = .slice oa k0 c0 := by
      rcases hrow.2 with ⟨rfl, _⟩ | ⟨g, cap, cur, rfl, _, _, _⟩
      · exact ⟨_, _, _, rfl⟩
      · exact ⟨_, _, _, rfl⟩
    have e2 := hv.cell
    have HR := Lib.hid hrow
    clear hrow
    gi_wp2
    refine ⟨by simp, .inl ⟨_, _, rfl, run_takeDeferred hK, ?_⟩⟩
    exact ⟨_, results_tmp rfl _ _ _, _, rfl, ownsRow_lower (ownsRow_putObj HR.out _ hK rfl) (by omega), hb.trans (belowK_b (w := w) (Nat.le_refl _) _ D _ _ (by omega) hK rfl rfl)⟩
  case stop => rintro D c pre W hD hpre h _; exact h.elim
end Go.Proofs.YtfmppmabnpkooaaDoor
