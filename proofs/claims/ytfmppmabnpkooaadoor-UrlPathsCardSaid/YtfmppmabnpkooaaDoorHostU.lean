/- url.Host in plain words: each piece between the dots is a label; at most 60 bytes. -/
import Derived.Test.YtfmppmabnpkooaaDoorLabelU
import Derived.Test.YtfmppmabnpkooaaDoorSplitSeq
set_option linter.unusedSimpArgs false
set_option linter.unusedVariables false
namespace Go.Proofs.YtfmppmabnpkooaaDoor
open Go Go.RowKit Go.Shelf Go.Proofs Go.Proofs.YtfmppmabnpkooaaDoorW.PrintWords Go.Proofs.YtfmppmabnpkooaaDoorW.PrintLast Go.Proofs.YtfmppmabnpkooaaDoorW.PrintMore
attribute [local go_sem] Oper.semAt_some

def hostL (l : List UInt8) : Bool := (splitL 46 l).all labelL && decide (l.length ≤ 60)

theorem host_pieces (s : ByteArray) : ((pieces 46 s).all fun x => labelL x.data.toList) = (splitL 46 s.data.toList).all labelL := by
  rw [← pieces_split, List.all_map]; rfl

theorem piece_size (c : UInt8) : ∀ (k : Nat) (s x : ByteArray), x ∈ cutB c k s → x.size ≤ s.size
  | 0, s, x, h => by simp [cutB] at h; rw [h]; exact Nat.le_refl _
  | k + 1, s, x, h => by
    unfold cutB at h
    split at h
    · simp at h; rw [h]; exact Nat.le_refl _
    · rcases List.mem_cons.1 h with rfl | h
      · simp; omega
      · have := piece_size c k _ x h
        simp at this
        omega

set_option maxRecDepth 100000 in
set_option maxHeartbeats 2000000 in
theorem Host_calls (s : ByteArray) (hn : s.size ≤ 140737488355328) (w : World) :
    Calls Tryd.prog 41 #[.string s] w fun e w' => e = .returned (.bool (hostL s.data.toList)) ∧ Below w.heap.size w w' := by
  refine (callsIn_wide (n := 4)).1 ?_
  refine callsIn_of_wp_marks Tryd.func41 rfl trivial ?_ rfl
  simp only [Tryd.ntmps41, List.size_toArray, List.length_cons, List.length_nil, Nat.reduceAdd, Nat.reduceSub, Array.replicate_succ, Array.replicate_zero, List.push_toArray, List.append_toArray, List.nil_append, List.cons_append]
  gi_wp2_with (refine ⟨trivial, ?_⟩; gi_at_call 55; refine (callsIn_wide.2 (SplitSeq_any _ _ _)).mono ?_; rintro e w' ⟨rfl, rfl⟩)
  obtain ⟨W0, hW0⟩ : ∃ W0, (((w.alloc (.cells #[.bool false] 4)).alloc (.cells #[.string s] 9)).alloc (.cells #[.string ⟨#[46]⟩] 9)).alloc (.cells #[.int .i64 0] 3) = W0 := ⟨_, rfl⟩
  have hs0 : W0.heap.size = w.heap.size + 4 := by rw [← hW0]; simp
  have hbx : Boxes (w.heap.size + 1) 46 s W0 := by
    have := boxes_new s 46 (w.alloc (.cells #[.bool false] 4)); rw [World.size_alloc] at this; rw [← hW0]; exact this
  have hbl : Below w.heap.size w W0 := by
    rw [← hW0]; exact ((((Below.refl _ w).alloc (Nat.le_refl _) _).alloc (by simp) _).alloc (by simp; omega) _).alloc (by simp; omega) _
  have hbk : W0.heap[w.heap.size]? = some (.cells #[.bool false] 4 (0, 0)) := by
    rw [← hW0]; exact (((Below.heap_alloc _ _ _ (by simp; omega)).trans (Below.heap_alloc _ _ _ (by simp; omega))).trans (Below.heap_alloc _ _ _ (by simp))).trans (World.alloc_heap_new w _)
  rw [hW0]
  clear hW0
  refine wpIn_rangeBox rfl (by omega) (gf := 99) rfl trivial (enters_of Tryd.func99 (by kernel_rfl) rfl) (bs := w.heap.size + 1) (lo := w.heap.size + 1) (xs0 := pieces 46 s)
    (splitSeq1_box _ (by omega) _ _ _ _ (by omega) (by omega) hbx) (by omega) (by omega) rfl
    (fun pre W => (W.heap[w.heap.size]? = some (.cells #[.bool false] 4 (0, 0)) ∧ Below w.heap.size w W) ∧ ∀ x ∈ pre, labelL x.data.toList = true)
    (fun c pre W => (W.heap[w.heap.size]? = some (.cells #[.bool false] 4 (0, 0)) ∧ Below w.heap.size w W) ∧ c = .ret ∧ ∃ x ∈ pre, labelL x.data.toList = false)
    (((BoxOwn.block (f := fun _ => .cells #[.bool false] 4 (0, 0)) (fun _ => rfl) (by omega)).and (BoxOwn.below (Nat.le_refl _) (by omega) (by omega))).and BoxOwn.pure)
    (fun c => ((BoxOwn.block (f := fun _ => .cells #[.bool false] 4 (0, 0)) (fun _ => rfl) (by omega)).and (BoxOwn.below (Nat.le_refl _) (by omega) (by omega))).and BoxOwn.pure)
    ⟨⟨hbk, hbl⟩, by simp⟩
    (fun x => { tmps := #[.string s, undef, .pointer (some ⟨w.heap.size, 0, none⟩), .string x, .string s, .func (.func 99) #[] #[.pointer (some ⟨w.heap.size + 1 + 1, 0, none⟩), .pointer (some ⟨w.heap.size + 1, 0, none⟩), .pointer (some ⟨w.heap.size + 1 + 2, 0, none⟩)], .string x, undef, undef, undef, undef, undef, undef], defers := [] }) ?assign ?body ?done ?stop
  case assign =>
    intro l x W K hK
    gi_wp2
    exact hK
  case body =>
    rintro l pre x W ⟨⟨hk, hb⟩, hall⟩ hpre hle
    have hx : x.size ≤ 140737488355328 := by
      have : x ∈ pieces 46 s := hpre.subset (by simp)
      have := piece_size 46 _ _ _ this
      omega
    have hcell : W.cell? ⟨w.heap.size, 0, none⟩ = some (.bool false) := by simp [World.cell?, hk]
    have hfr : W.frozen? ⟨w.heap.size, 0, none⟩ = false := by simp [World.frozen?, hk]
    cases hL : labelL x.data.toList with
    | true =>
      have HL := Lib.hid hL
      clear hL
      gi_wp2_with (refine ⟨trivial, ?_⟩; gi_at_call 68; refine (CallsIn.inRound l (callsIn_wide.2 (label_calls x hx _))).mono ?_; rintro e w' ⟨rfl, ⟨nd, rfl⟩⟩; rw [HL.out])
      exact ⟨⟨Nat.le_refl _, fun _ _ _ h _ => h⟩, fun _ _ _ => rfl, ⟨hk, pw_below_drewN hb _⟩, fun y hy => by rcases List.mem_append.1 hy with h | h; exact hall y h; (simp at h; rw [h]; exact HL.out)⟩
    | false =>
      have HL := Lib.hid hL
      clear hL
      gi_wp2_with (refine ⟨trivial, ?_⟩; gi_at_call 68; refine (CallsIn.inRound l (callsIn_wide.2 (label_calls x hx _))).mono ?_; rintro e w' ⟨rfl, ⟨nd, rfl⟩⟩; rw [HL.out])
      exact ⟨(keepsFrom_drewN _ W nd).trans ((KeepsOthers.setCell (W.drewN nd) _ _).from _), ⟨one_set (W := W.drewN nd) hk _, (pw_below_drewN hb nd).setCell (p := ⟨w.heap.size, 0, none⟩) (Nat.le_refl _) _⟩, rfl, x, by simp, HL.out⟩
  case done =>
    rintro D W hD ⟨⟨hk, hb⟩, hall⟩ hK
    have hcell := one_cell hk
    have hfr := one_free hk
    have hv : hostL s.data.toList = decide ((s.size : Int) ≤ 60) := by
      have h1 : ((pieces 46 s).all fun x => labelL x.data.toList) = true := List.all_eq_true.2 hall
      rw [host_pieces] at h1
      unfold hostL
      rw [h1, ← Lib.size_eq, Bool.true_and]
      exact decide_eq_decide.2 (by omega)
    have HV := Lib.hid hv
    clear hv
    gi_wp2
    have hk2 := one_set hk (.bool (decide ((s.size : Int) ≤ 60)))
    have hK2 := (KeepsOthers.setCell W ⟨w.heap.size, 0, none⟩ (.bool (decide ((s.size : Int) ≤ 60)))).same D _ hK rfl
    have hb2 := hb.setCell (p := ⟨w.heap.size, 0, none⟩) (Nat.le_refl _) (.bool (decide ((s.size : Int) ≤ 60)))
    refine ⟨by simp, .inl ⟨_, _, rfl, run_takeDeferred hK2, ?_⟩⟩
    have hc5 := cell_kept (one_cell hk2) (grownBy_putObj' _ D (.deferred none)) (fun r e => by cases e; exact ⟨_, hK2, rfl⟩)
    refine ⟨.bool (decide ((s.size : Int) ≤ 60)), ?_, by rw [HV.out], hb2.trans (belowK_b (w := w) (Nat.le_refl _) _ D _ _ (by omega) hK2 rfl rfl)⟩
    simp [results, Tryd.f41, go_sem, hc5]
  case stop =>
    rintro D c pre W hD hpre ⟨⟨hk, hb⟩, rfl, x, hx, hxl⟩ hK
    have hv : hostL s.data.toList = false := by
      have h1 : ((pieces 46 s).all fun x => labelL x.data.toList) = false := by
        rw [← Bool.not_eq_true, List.all_eq_true]
        intro h
        have := h x (hpre.subset hx)
        rw [hxl] at this
        cases this
      rw [host_pieces] at h1
      unfold hostL
      rw [h1, Bool.false_and]
    have HV := Lib.hid hv
    clear hv
    gi_wp2
    refine ⟨by simp, .inl ⟨_, _, rfl, run_takeDeferred hK, ?_⟩⟩
    have hc5 := cell_kept (one_cell hk) (grownBy_putObj' _ D (.deferred none)) (fun r e => by cases e; exact ⟨_, hK, rfl⟩)
    refine ⟨.bool false, ?_, by rw [HV.out], hb.trans (belowK_b (w := w) (Nat.le_refl _) _ D _ _ (by omega) hK rfl rfl)⟩
    simp [results, Tryd.f41, go_sem, hc5]
end Go.Proofs.YtfmppmabnpkooaaDoor
