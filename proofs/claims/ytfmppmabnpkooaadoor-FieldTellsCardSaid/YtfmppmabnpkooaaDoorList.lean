/- field.List in plain words: what stands between commas, trimmed, in small letters, without the empty ones; none if one of them is no name. -/
import Derived.Test.YtfmppmabnpkooaaDoorSplitSeq
import Derived.Test.YtfmppmabnpkooaaDoorName
import Derived.Test.YtfmppmabnpkooaaDoorPieces
import Derived.RangeFuncBox
import Derived.Maps.AppendAt
set_option linter.unusedSimpArgs false
set_option linter.unusedVariables false
namespace Go.Proofs.YtfmppmabnpkooaaDoor
open Go Go.RowKit Go.Shelf Go.Proofs Go.Proofs.YtfmppmabnpkooaaDoorW.PrintWords Go.Proofs.YtfmppmabnpkooaaDoorW.PrintLast Go.Proofs.YtfmppmabnpkooaaDoorW.PrintMore
attribute [local go_sem] Oper.semAt_some

/-- A box that holds a slice with a row of its own, beyond the iterator's block. -/
theorem BoxOwn.holds {β : Type} {bs B b base : Nat} {t e : TypeId} {size : Nat} (k : β → Nat) (f : β → List Value) (hb : b ≠ bs) (hbase : bs < base) :
    BoxOwn bs B (fun s W => ∃ v, Boxed W b t v ∧ W.ownsRow base e size v (k s) (f s)) := by
  rintro s W W' row ⟨v, hv, hrow⟩ hg hr
  refine ⟨v, boxBlock_kept hg hr hv rfl hb, hrow.kept hg ?_⟩
  rcases hrow.2 with ⟨rfl, _⟩ | ⟨g, cap, cur, rfl, hgb, hh, _⟩
  · exact .inl rfl
  · refine .inr fun e' => ?_
    rcases hr g (by simpa [Value.ownBlock] using e'.symm) with h | ⟨_, o, ho, hc⟩
    · omega
    · rw [hh] at ho; cases ho; cases hc

theorem ownsRow_lower {W : World} {base base' : Nat} {e : TypeId} {size : Nat} {v : Value} {k : Nat} {xs : List Value} (h : W.ownsRow base e size v k xs) (hb : base' ≤ base) : W.ownsRow base' e size v k xs := by
  refine ⟨h.1, ?_⟩
  rcases h.2 with hn | ⟨g, cap, cur, hv, hbg, rest⟩
  · exact .inl hn
  · exact .inr ⟨g, cap, cur, hv, Nat.le_trans hb hbg, rest⟩

theorem keepsFrom_below {B : Nat} {W W' : World} (h : Below W.heap.size W W') : KeepsFrom B W W' :=
  ⟨h.size, fun k o _ hk _ => (h.block k (Array.getElem?_eq_some_iff.1 hk).1).trans hk⟩
theorem boxed_below {W W' : World} {b : Nat} {t : TypeId} {v : Value} (h : Boxed W b t v) (hb : Below W.heap.size W W') : Boxed W' b t v := (hb.block b h.lt).trans h
theorem ownsRow_below {W W' : World} {base : Nat} {e : TypeId} {size : Nat} {v : Value} {k : Nat} {xs : List Value} (h : W.ownsRow base e size v k xs) (hb : Below W.heap.size W W') : W'.ownsRow base e size v k xs := by
  refine own_move h fun j hj => hb.block j ?_
  obtain ⟨cells, hc⟩ := own_typed h j hj
  exact (Array.getElem?_eq_some_iff.1 hc).1

/-- One piece as it stands in the list. -/
def itemL (l : List UInt8) : List UInt8 := lowL (trimL l)
def itemB (x : ByteArray) : ByteArray := ⟨(itemL x.data.toList).toArray⟩
def itemOk (x : ByteArray) : Bool := decide (itemL x.data.toList = []) || nameL (itemL x.data.toList)
def outs (ps : List ByteArray) : List ByteArray := (ps.map itemB).filter fun y => decide (y.data.toList ≠ [])
def listF (ps : List ByteArray) : List ByteArray × Bool := if ps.all itemOk then (outs ps, true) else ([], false)

theorem outs_hit (pre : List ByteArray) (x : ByteArray) (h : itemL x.data.toList ≠ []) : outs (pre ++ [x]) = outs pre ++ [itemB x] := by
  simp [outs, itemB, h]
theorem outs_miss (pre : List ByteArray) (x : ByteArray) (h : itemL x.data.toList = []) : outs (pre ++ [x]) = outs pre := by
  simp [outs, itemB, h]
theorem outs_len (pre : List ByteArray) : (outs pre).length ≤ pre.length := by
  unfold outs
  exact Nat.le_trans (List.length_filter_le _ _) (by simp)

theorem trimL_len (l : List UInt8) : (trimL l).length ≤ l.length := by
  unfold trimL Lib.trimS Lib.trimLeftS Lib.trimRightS
  have h1 := (List.dropWhile_sublist (fun x => [32, 9].contains x) (l := (l.reverse.dropWhile fun x => [32, 9].contains x).reverse)).length_le
  have h2 := (List.dropWhile_sublist (fun x => [32, 9].contains x) (l := l.reverse)).length_le
  simp only [List.length_reverse] at h1 h2
  exact Nat.le_trans h1 h2

theorem itemB_size (x : ByteArray) : (itemB x).size ≤ x.size := by
  rw [Lib.size_eq, Lib.size_eq]
  show (itemL x.data.toList).length ≤ _
  unfold itemL lowL
  rw [List.length_map]
  exact trimL_len _

theorem trim_calls (x : ByteArray) (hx : x.size ≤ 140737488355328) (w : World) :
    Calls Tryd.prog 28 #[.string x] w fun e w' => e = .returned (.string ⟨(trimL x.data.toList).toArray⟩) ∧ Below w.heap.size w w' :=
  BF.field_Trim.calls x _ w (by unfold BF.field_Trim.f strings_Trim.f; rw [if_pos ⟨rfl, hx⟩]; rfl)
theorem item_calls (x : ByteArray) (hx : x.size ≤ 140737488355328) (w : World) :
    Calls Tryd.prog 26 #[.string ⟨(trimL x.data.toList).toArray⟩] w fun e w' => e = .returned (.string (itemB x)) ∧ Below w.heap.size w w' :=
  Lower_calls ⟨(trimL x.data.toList).toArray⟩ (by rw [Lib.size_eq] at *; exact Nat.le_trans (trimL_len x.data.toList) hx) w
theorem name_calls (x : ByteArray) (hx : x.size ≤ 140737488355328) (w : World) :
    Calls Tryd.prog 24 #[.string x] w fun e w' => e = .returned (.bool (nameL x.data.toList)) ∧ Drawn0 w w' :=
  BF.field_Name.calls (x.size + 1) x _ w (Name_f _ x hx (by omega))

theorem List_info : (Tryd.prog.info? 9).map (fun i => (i.zero, i.size, i.bytes)) = some (some (.string ⟨#[]⟩), 1, 16) := by kernel_rfl

set_option maxRecDepth 100000 in
set_option maxHeartbeats 4000000 in
theorem List_calls (s : ByteArray) (hn : s.size ≤ 1099511627776) (w : World) :
    Calls Tryd.prog 18 #[.string s] w fun e w' => ∃ v, e = .returned (.tuple #[v, .bool (listF (pieces 44 s)).2]) ∧ w'.ownsRow w.heap.size 9 1 v (listF (pieces 44 s)).1.length ((listF (pieces 44 s)).1.map Value.string) ∧ Below w.heap.size w w' := by
  obtain ⟨i0, hi, hz0, hz1, hz2⟩ := info_parts List_info
  refine (callsIn_wide (n := 4)).1 ?_
  refine callsIn_of_wp_marks Tryd.func18 rfl trivial ?_ rfl
  simp only [Tryd.ntmps18, List.size_toArray, List.length_cons, List.length_nil, Nat.reduceAdd, Nat.reduceSub, Array.replicate_succ, Array.replicate_zero, List.push_toArray, List.append_toArray, List.nil_append, List.cons_append]
  gi_wp2_with (refine ⟨trivial, ?_⟩; gi_at_call 55; refine (callsIn_wide.2 (SplitSeq_any _ _ _)).mono ?_; rintro e w' ⟨rfl, rfl⟩)
  obtain ⟨W0, hW0⟩ : ∃ W0, (((((w.alloc (.cells #[.slice none 0 0] 23)).alloc (.cells #[.bool false] 4)).alloc (.cells #[.slice none 0 0] 23)).alloc (.cells #[.string s] 9)).alloc (.cells #[.string ⟨#[44]⟩] 9)).alloc (.cells #[.int .i64 0] 3) = W0 := ⟨_, rfl⟩
  have hs0 : W0.heap.size = w.heap.size + 6 := by rw [← hW0]; simp
  have hbx : Boxes (w.heap.size + 3) 44 s W0 := by
    have := boxes_new s 44 (((w.alloc (.cells #[.slice none 0 0] 23)).alloc (.cells #[.bool false] 4)).alloc (.cells #[.slice none 0 0] 23)); rw [World.size_alloc, World.size_alloc, World.size_alloc] at this; rw [← hW0]; exact this
  have hbl : Below w.heap.size w W0 := by
    rw [← hW0]; exact ((((((Below.refl _ w).alloc (Nat.le_refl _) _).alloc (by simp) _).alloc (by simp; omega) _).alloc (by simp; omega) _).alloc (by simp; omega) _).alloc (by simp; omega) _
  have hk0 : Boxed W0 w.heap.size 23 (.slice none 0 0) := by
    rw [← hW0]; exact (((((Boxed.new w _ _).alloc _).alloc _).alloc _).alloc _).alloc _
  have hk1 : Boxed W0 (w.heap.size + 1) 4 (.bool false) := by
    have := Boxed.new (w.alloc (.cells #[.slice none 0 0] 23)) 4 (.bool false)
    rw [World.size_alloc] at this
    rw [← hW0]; exact (((this.alloc _).alloc _).alloc _).alloc _
  have hk2 : Boxed W0 (w.heap.size + 2) 23 (.slice none 0 0) := by
    have := Boxed.new ((w.alloc (.cells #[.slice none 0 0] 23)).alloc (.cells #[.bool false] 4)) 23 (.slice none 0 0)
    rw [World.size_alloc, World.size_alloc] at this
    rw [← hW0]; exact ((this.alloc _).alloc _).alloc _
  rw [hW0]
  clear hW0
  have hsz := Lib.hid (Lib.size_eq s)
  refine wpIn_rangeBox rfl (by omega) (gf := 99) rfl trivial (enters_of Tryd.func99 (by kernel_rfl) rfl) (bs := w.heap.size + 3) (lo := w.heap.size + 3) (xs0 := pieces 44 s)
    (splitSeq1_box _ (by omega) _ _ _ _ (by omega) (by omega) hbx) (by omega) (by omega) rfl
    (fun pre W => ((Boxed W w.heap.size 23 (.slice none 0 0) ∧ Boxed W (w.heap.size + 1) 4 (.bool false)) ∧ (∃ v, Boxed W (w.heap.size + 2) 23 v ∧ W.ownsRow (w.heap.size + 6) 9 1 v (outs pre).length ((outs pre).map Value.string)) ∧ Below w.heap.size w W) ∧ pre.all itemOk = true)
    (fun c pre W => ((Boxed W w.heap.size 23 (.slice none 0 0) ∧ Boxed W (w.heap.size + 1) 4 (.bool false)) ∧ Below w.heap.size w W) ∧ c = .ret ∧ pre.all itemOk = false)
    ((((BoxOwn.block (f := fun _ => .cells #[.slice none 0 0] 23 (0, 0)) (fun _ => rfl) (by omega)).and (BoxOwn.block (f := fun _ => .cells #[.bool false] 4 (0, 0)) (fun _ => rfl) (by omega))).and
      ((BoxOwn.holds (fun pre => (outs pre).length) (fun pre => (outs pre).map Value.string) (by omega) (by omega)).and (BoxOwn.below (Nat.le_refl _) (by omega) (by omega)))).and BoxOwn.pure)
    (fun c => (((BoxOwn.block (f := fun _ => .cells #[.slice none 0 0] 23 (0, 0)) (fun _ => rfl) (by omega)).and (BoxOwn.block (f := fun _ => .cells #[.bool false] 4 (0, 0)) (fun _ => rfl) (by omega))).and (BoxOwn.below (Nat.le_refl _) (by omega) (by omega))).and BoxOwn.pure)
    ⟨⟨⟨hk0, hk1⟩, ⟨_, hk2, World.ownsRow_nil _ _ _ _⟩, hbl⟩, rfl⟩
    (fun x => { tmps := #[.string s, undef, .pointer (some ⟨w.heap.size, 0, none⟩), .pointer (some ⟨w.heap.size + 1, 0, none⟩), .pointer (some ⟨w.heap.size + 2, 0, none⟩), .string x, .string s, .func (.func 99) #[] #[.pointer (some ⟨w.heap.size + 3 + 1, 0, none⟩), .pointer (some ⟨w.heap.size + 3, 0, none⟩), .pointer (some ⟨w.heap.size + 3 + 2, 0, none⟩)], .string x, undef, undef, undef, undef, undef, undef, undef, undef, undef, undef, undef, undef, undef, undef, undef], defers := [] }) ?assign ?body ?done ?stop
  case assign =>
    intro l x W K hK
    gi_wp2
    exact hK
  case body =>
    rintro l pre x W ⟨⟨⟨hr0, hr1⟩, ⟨v, hv, hrow⟩, hb⟩, hall⟩ hpre hle
    have hx : x.size ≤ 140737488355328 := by
      have : x ∈ pieces 44 s := hpre.subset (by simp)
      have := piece_size 44 _ _ _ this
      omega
    have hy : (itemB x).size ≤ 140737488355328 := Nat.le_trans (itemB_size x) hx
    have hlen : (outs pre).length + 1 ≤ 1099511627777 := by
      have h1 := hpre.length_le
      have h2 := congrArg List.length (pieces_split 44 s)
      rw [List.length_map, splitL_length] at h2
      have h3 := count_size s 44
      have h4 := outs_len pre
      simp only [List.length_append, List.length_cons, List.length_nil] at h1
      omega
    by_cases hE : itemL x.data.toList = []
    · have hE1 : ((itemB x).toList == ([] : List UInt8)) = true := by rw [Go.ByteArray.toList_eq]; exact beq_iff_eq.2 hE
      have hE2 : (itemB x).toList.isEmpty = true := by rw [Go.ByteArray.toList_eq]; exact List.isEmpty_iff.2 hE
      gi_wp2_with (first
        | (refine ⟨trivial, ?_⟩; gi_at_call 28; refine (CallsIn.inRound l (callsIn_wide.2 (trim_calls x hx _))).mono ?_; rintro e w1 ⟨rfl, hb1⟩)
        | (refine ⟨trivial, ?_⟩; gi_at_call 26; refine (CallsIn.inRound l (callsIn_wide.2 (item_calls x hx _))).mono ?_; rintro e w2 ⟨rfl, hb2⟩))
      have hb3 := hb1.trans (hb2.mono hb1.size)
      refine ⟨keepsFrom_below hb3, KeepB.below hb3 (by omega), ⟨⟨(boxed_below hr0 hb3), (boxed_below hr1 hb3)⟩, ⟨v, (boxed_below hv hb3), ?_⟩, hb.trans (hb3.mono hb.size)⟩, ?_⟩
      · rw [outs_miss pre x hE]; exact ownsRow_below hrow hb3
      · rw [List.all_append, hall]; simp [itemOk, hE]
    · have hE1 : ((itemB x).toList == ([] : List UInt8)) = false := by rw [Go.ByteArray.toList_eq]; exact beq_eq_false_iff_ne.2 hE
      have hE2 : (itemB x).toList.isEmpty = false := by rw [Go.ByteArray.toList_eq]; exact Bool.eq_false_iff.2 fun h => hE (List.isEmpty_iff.1 h)
      have hN0 := name_calls (itemB x) hy
      cases hN : nameL (itemL x.data.toList) with
      | false =>
        rw [show nameL (itemB x).data.toList = false from hN] at hN0
        have HN := Lib.hid hN
        clear hN
        gi_wp2_with (first
          | (refine ⟨trivial, ?_⟩; gi_at_call 28; refine (CallsIn.inRound l (callsIn_wide.2 (trim_calls x hx _))).mono ?_; rintro e w1 ⟨rfl, hb1⟩)
          | (refine ⟨trivial, ?_⟩; gi_at_call 26; refine (CallsIn.inRound l (callsIn_wide.2 (item_calls x hx _))).mono ?_; rintro e w2 ⟨rfl, hb2⟩; have hb3 := hb1.trans (hb2.mono hb1.size); have g0 := (boxed_below hr0 hb3); have g1 := (boxed_below hr1 hb3); have c0 := g0.cell; have c1 := g1.cell; have f0 := g0.frozen; have f1 := g1.frozen)
          | (refine ⟨trivial, ?_⟩; gi_at_call 24; refine (CallsIn.inRound l (callsIn_wide.2 (hN0 _))).mono ?_; rintro e w3 ⟨rfl, ⟨nd, rfl⟩⟩; have hb4 := pw_below_drewN hb3 nd; have g0 := boxed_below hr0 hb4; have g1 := boxed_below hr1 hb4; have c0 := g0.cell; have c1 := g1.cell; have f0 := g0.frozen; have f1 := g1.frozen; clear hb3 hb1 hb2; generalize World.drewN _ nd = w4 at *))
        have hset := (KeepsOthers.setCell w4 ⟨w.heap.size, 0, none⟩ (.slice none 0 0)).trans (KeepsOthers.setCell _ ⟨w.heap.size + 1, 0, none⟩ (.bool false))
        refine ⟨(keepsFrom_below hb4).trans (hset.from _), ⟨⟨?_, ?_⟩, ?_⟩, rfl, ?_⟩
        · exact (g0.set (.slice none 0 0)).kept (grownBy_setCell' _ _ _) (by simp)
        · exact (g1.kept (grownBy_setCell' _ _ _) (by simp)).set (.bool false)
        · exact ((hb.trans (hb4.mono hb.size)).setCell (p := ⟨w.heap.size, 0, none⟩) (Nat.le_refl _) _).setCell (p := ⟨w.heap.size + 1, 0, none⟩) (by simp) _
        · rw [List.all_append, hall]; simp [itemOk, hE, HN.out]
      | true =>
        rw [show nameL (itemB x).data.toList = true from hN] at hN0
        have HN := Lib.hid hN
        clear hN
        have hpl := outs_len pre
        gi_wp2_with (first
          | (refine ⟨trivial, ?_⟩; gi_at_call 28; refine (CallsIn.inRound l (callsIn_wide.2 (trim_calls x hx _))).mono ?_; rintro e w1 ⟨rfl, hb1⟩)
          | (refine ⟨trivial, ?_⟩; gi_at_call 26; refine (CallsIn.inRound l (callsIn_wide.2 (item_calls x hx _))).mono ?_; rintro e w2 ⟨rfl, hb2⟩; have hb3 := hb1.trans (hb2.mono hb1.size))
          | (refine ⟨trivial, ?_⟩; gi_at_call 24; refine (CallsIn.inRound l (callsIn_wide.2 (hN0 _))).mono ?_; rintro e w3 ⟨rfl, ⟨nd, rfl⟩⟩; have hb4 := pw_below_drewN hb3 nd; have hv4 := (boxed_below hv hb4); have hr4 := ownsRow_below hrow hb4; have c4 := hv4.cell; clear hb3 hb1 hb2; generalize World.drewN _ nd = w4 at *)
          | (gi_at_builtin; refine wpListIn_append_own _ rfl _ _ 23 rfl (w.heap.size + 6) 9 i0 (.string ⟨#[]⟩) 1 16 Tryd.underlying23 hi hz0 hz1 hz2 rfl (by decide) _ _ _ rfl (hr4.alloc _) ⟨w4.heap.size, 0, none⟩ 1 1 [.string (itemB x)] rfl rfl (cell_one_new _ _ _) (by simp [Value.oneCell']) (Nat.le_trans hlen (by decide)) (by omega) (by have h9 := hb4.size; rw [World.size_alloc]; omega) ?_; intro v' w1 hown' hgrow _; obtain ⟨g', cap', rfl⟩ := ownsRow_succ hown'; obtain ⟨hv1, hv2, hr2, hk2, hb2⟩ := hv4.appended (by decide) (ownsRow_lower hr4 (base' := w.heap.size + 2) (by omega)) (by have := hb4.size; omega) (Nat.le_refl _) (ownsRow_lower hown' (base' := w.heap.size + 2) (by omega)) hgrow; have hc1 := hv1.cell; have hf1 := hv1.frozen))
        have hg0 := boxed_below hr0 hb4
        have hg1 := boxed_below hr1 hb4
        have hb5 := (hb.trans (hb4.mono hb.size)).trans (hb2.mono (by omega))
        refine ⟨(keepsFrom_below hb4).trans (hk2.from _), ((KeepB.below hb4 (by omega)).trans ((KeepB.grown (World.grownBy_alloc w4 _ none) (by have := hb4.size; omega) (fun r e => by cases e)).trans ((KeepB.grown (row := v.ownBlock) hgrow (by have := hb4.size; rw [World.size_alloc]; omega) ?_).trans (KeepB.setCell _ _ _ (.inl (by simp)))))), ⟨⟨?_, ?_⟩, ⟨_, hv2, ?_⟩, hb5⟩, ?_⟩
        · intro r e
          rcases hr4.2 with ⟨rfl, _⟩ | ⟨g, cap, cur, rfl, hgb, _, _⟩
          · simp [Value.ownBlock] at e
          · obtain rfl : g = r := by simpa [Value.ownBlock] using e
            right; omega
        · exact (hb2.block _ (by omega)).trans hg0
        · exact (hb2.block _ (by omega)).trans hg1
        · rw [outs_hit pre x hE]
          have hr6 := hown'.kept (grownBy_setCell' w1 (w.heap.size + 2) (.slice (some ⟨g', 0, none⟩) ((outs pre).length + 1) cap')) (.inr (hv1.not_row (by decide) hown').symm)
          simpa using hr6
        · rw [List.all_append, hall]; simp [itemOk, HN.out]
  case done =>
    rintro D W hD ⟨⟨⟨hr0, hr1⟩, ⟨v, hv, hrow⟩, hb⟩, hall⟩ hK
    have hlf : listF (pieces 44 s) = (outs (pieces 44 s), true) := if_pos hall
    have HV := Lib.hid hlf
    clear hlf
    obtain ⟨oa, k0, c0, rfl⟩ : ∃ oa k0 c0, v = .slice oa k0 c0 := by
      rcases hrow.2 with ⟨rfl, _⟩ | ⟨g, cap, cur, rfl, _, _, _⟩
      · exact ⟨_, _, _, rfl⟩
      · exact ⟨_, _, _, rfl⟩
    have e0 := hr0.cell
    have e1 := hr1.cell
    have e2 := hv.cell
    have q0 := hr0.frozen
    have q1 := hr1.frozen
    have HR := Lib.hid hrow
    clear hrow
    gi_wp2
    have h0 := (hr0.set (.slice oa k0 c0)).kept (grownBy_setCell' _ (w.heap.size + 1) (.bool true)) (by simp)
    have h1 := (hr1.kept (grownBy_setCell' W w.heap.size (.slice oa k0 c0)) (by simp)).set (.bool true)
    have hK2 := ((KeepsOthers.setCell W ⟨w.heap.size, 0, none⟩ (.slice oa k0 c0)).trans (KeepsOthers.setCell _ ⟨w.heap.size + 1, 0, none⟩ (.bool true))).same D _ hK rfl
    have hb2 := (hb.setCell (p := ⟨w.heap.size, 0, none⟩) (Nat.le_refl _) (.slice oa k0 c0)).setCell (p := ⟨w.heap.size + 1, 0, none⟩) (by simp) (.bool true)
    have hr2 := HR.out.kept (grownBy_setCell' W w.heap.size (.slice oa k0 c0)) (.inr (hr0.not_row (by decide) HR.out).symm)
    have hr3 := hr2.kept (grownBy_setCell' _ (w.heap.size + 1) (.bool true)) (.inr ((hr1.kept (grownBy_setCell' W w.heap.size (.slice oa k0 c0)) (by simp)).not_row (by decide) hr2).symm)
    refine ⟨by simp, .inl ⟨_, _, rfl, run_takeDeferred hK2, ?_⟩⟩
    have hc5 := cell_kept h0.cell (grownBy_putObj' _ D (.deferred none)) (fun r e => by cases e; exact ⟨_, hK2, rfl⟩)
    have hc6 := cell_kept h1.cell (grownBy_putObj' _ D (.deferred none)) (fun r e => by cases e; exact ⟨_, hK2, rfl⟩)
    refine ⟨.tuple #[.slice oa k0 c0, .bool true], ?_, _, by rw [HV.out], ?_, hb2.trans (belowK_b (w := w) (Nat.le_refl _) _ D _ _ (by omega) hK2 rfl rfl)⟩
    · simp [results, Tryd.f18, go_sem, hc5, hc6]
    · rw [HV.out]; exact ownsRow_lower (ownsRow_putObj hr3 _ hK2 rfl) (by omega)
  case stop =>
    rintro D c pre W hD hpre ⟨⟨⟨hr0, hr1⟩, hb⟩, rfl, hall⟩ hK
    have hlf : listF (pieces 44 s) = ([], false) := by
      refine if_neg ?_
      intro h
      rw [Bool.eq_false_iff] at hall
      exact hall (List.all_eq_true.2 fun x hx => List.all_eq_true.1 h x (hpre.subset hx))
    have HV := Lib.hid hlf
    clear hlf
    have e0 := hr0.cell
    have e1 := hr1.cell
    gi_wp2
    refine ⟨by simp, .inl ⟨_, _, rfl, run_takeDeferred hK, ?_⟩⟩
    have hc5 := cell_kept e0 (grownBy_putObj' _ D (.deferred none)) (fun r e => by cases e; exact ⟨_, hK, rfl⟩)
    have hc6 := cell_kept e1 (grownBy_putObj' _ D (.deferred none)) (fun r e => by cases e; exact ⟨_, hK, rfl⟩)
    refine ⟨.tuple #[.slice none 0 0, .bool false], ?_, _, by rw [HV.out], ?_, hb.trans (belowK_b (w := w) (Nat.le_refl _) _ D _ _ (by omega) hK rfl rfl)⟩
    · simp [results, Tryd.f18, go_sem, hc5, hc6]
    · rw [HV.out]; exact World.ownsRow_nil _ _ _ _
end Go.Proofs.YtfmppmabnpkooaaDoor
