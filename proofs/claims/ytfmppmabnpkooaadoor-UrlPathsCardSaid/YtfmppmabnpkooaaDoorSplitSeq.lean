/- strings.SplitSeq at a separator of one byte: what it hands back is an iterator whose rounds are the pieces, in order; its state is the block of s. -/
import Derived.Test.YtfmppmabnpkooaaDoorSeq
import Derived.Test.YtfmppmabnpkooaaDoorCut
import Derived.Test.YtfmppmabnpkooaaDoorShelf
import Derived.RangeFuncBox
import Derived.RangeFuncCalls
import Derived.RangeFuncLeaves
import Derived.Shelf.Abstract
import Derived.Shelf.RegionOpen
import Derived.WalkKit
import Derived.OwnWalkIn
import Derived.TacticsInMore
import Derived.LoopNIn
import Derived.LoopIn
import Derived.Lib.Hide
set_option linter.unusedSimpArgs false
set_option linter.unusedVariables false
namespace Go.Proofs.YtfmppmabnpkooaaDoor
open Go Go.RowKit Go.Shelf Go.Proofs
attribute [local go_sem] Oper.semAt_some

/-- The three boxes of strings.splitSeq: s, sep, sepSave. -/
def Boxes (lo : Nat) (c : UInt8) (s : ByteArray) (W : World) : Prop :=
  W.heap[lo]? = some (.cells #[.string s] 9 (0, 0)) ∧ W.heap[lo + 1]? = some (.cells #[.string ⟨#[c]⟩] 9 (0, 0)) ∧ W.heap[lo + 2]? = some (.cells #[.int .i64 0] 3 (0, 0))

theorem Boxes.keep {lo : Nat} {c : UInt8} {s : ByteArray} {W W' : World} (h : Boxes lo c s W) (k : KeepB lo W W') : Boxes lo c s W' :=
  ⟨(k lo (by omega) (by omega)).trans h.1, (k (lo + 1) (by omega) (by omega)).trans h.2.1, (k (lo + 2) (by omega) (by omega)).trans h.2.2⟩

theorem Boxes.cells {lo : Nat} {c : UInt8} {s : ByteArray} {W : World} (h : Boxes lo c s W) :
    W.cell? ⟨lo, 0, none⟩ = some (.string s) ∧ W.cell? ⟨lo + 1, 0, none⟩ = some (.string ⟨#[c]⟩) ∧ W.cell? ⟨lo + 2, 0, none⟩ = some (.int .i64 0) ∧ W.frozen? ⟨lo, 0, none⟩ = false := by
  obtain ⟨a, b, d⟩ := h
  refine ⟨?_, ?_, ?_, ?_⟩
  · simp [World.cell?, a]
  · simp [World.cell?, b]
  · simp [World.cell?, d]
  · simp [World.frozen?, a]

theorem Boxes.set {lo : Nat} {c : UInt8} {s : ByteArray} {W : World} (h : Boxes lo c s W) (x : ByteArray) : Boxes lo c x (W.setCell ⟨lo, 0, none⟩ (.string x)) := by
  obtain ⟨a, b, d⟩ := h
  refine ⟨?_, (Below.heap_setCell W ⟨lo, 0, none⟩ (.string x) (lo + 1) (by simp)).trans b, (Below.heap_setCell W ⟨lo, 0, none⟩ (.string x) (lo + 2) (by simp)).trans d⟩
  simp [World.setCell, Array.getElem?_modify, a]

/-- What is still to be cut: for the loop's measure. -/
def boxLeft (lo : Nat) (W : World) : Nat := match W.cell? ⟨lo, 0, none⟩ with | some (.string s) => s.size | _ => 0
theorem Boxes.left {lo : Nat} {c : UInt8} {s : ByteArray} {W : World} (h : Boxes lo c s W) : boxLeft lo W = s.size := by
  unfold boxLeft; rw [h.cells.1]

set_option maxRecDepth 100000 in
set_option maxHeartbeats 2000000 in
theorem splitSeq1_box (n : Nat) (hn : 2 ≤ n) (lo : Nat) (c : UInt8) (s0 : ByteArray) (w : World) (hlo : lo + 3 ≤ w.heap.size) (hs0 : s0.size ≤ 9223372036854775807) (hB : Boxes lo c s0 w) :
    SeqBox Fence.wide n Tryd.prog 99 #[.pointer (some ⟨lo + 1, 0, none⟩), .pointer (some ⟨lo, 0, none⟩), .pointer (some ⟨lo + 2, 0, none⟩)] Value.string lo lo (pieces c s0) w := fun l J Jx W hW hJ hJx hY h0 => by
  have hn1 : 1 ≤ n := by omega
  have hB0 : Boxes lo c s0 W := hB.keep (KeepB.below hW hlo)
  have hc0 := hB0.cells
  refine callsIn_of_wp Tryd.func99 rfl trivial ?_ rfl
  simp only [Tryd.ntmps99, List.size_toArray, List.length_cons, List.length_nil, Nat.reduceAdd, Nat.reduceSub, Array.replicate_succ, Array.replicate_zero, List.push_toArray, List.append_toArray, List.nil_append, List.cons_append]
  have q1 := hc0.1
  have q2 := hc0.2.1
  have q3 := hc0.2.2.1
  clear hc0
  gi_wp2
  gi_loopw [7] (fun _ wr => ∃ (pre : List ByteArray) (s : ByteArray), pieces c s0 = pre ++ pieces c s ∧ Boxes lo c s wr ∧ s.size ≤ s0.size ∧ J pre wr) (fun _ wr => boxLeft lo wr)
  case atStart => exact ⟨[], s0, rfl, hB0, Nat.le_refl _, h0⟩
  case round =>
    obtain ⟨pre, s, hp, hb, hle, hj⟩ := hrel
    clear q1 q2 q3
    have q1 := hb.cells.1
    have q2 := hb.cells.2.1
    have q3 := hb.cells.2.2.1
    rcases indexByte_cases s.data.toList c with ⟨h1, _⟩ | ⟨i, h1, hlt, _, _⟩
    · have hpre := pieces_miss c s (by omega)
      rw [hpre] at hp
      obtain ⟨f1, t1, a1, b1, hy1, hR1⟩ := hY pre s wr hj (by rw [hp]; exact List.prefix_rfl)
      have H1 := Lib.hid h1
      clear h1 hpre
      gi_wp2_with (refine ⟨trivial, ?_⟩; gi_at_call 101; refine (callsIn_wide.2 (Tryd.strings_Index_one _ _ _)).mono ?_; rintro e w' ⟨rfl, rfl⟩; rw [H1.out])
      refine hR1.mono ?_
      rintro e W3 (⟨rfl, hJ3, _⟩ | ⟨rfl, hJx3⟩)
      · gi_wp2
        go_end0
        exact ⟨⟨_, rfl⟩, .inl (by rw [hp]; exact hJ3)⟩
      · gi_wp2
        go_end0
        exact ⟨⟨_, rfl⟩, .inr ⟨pre ++ [s], by rw [hp]; exact List.prefix_rfl, hJx3⟩⟩
    · have hs : s.data.toList.length = s.size := (Lib.size_eq s).symm
      have hpre := pieces_hit c s i h1
      rw [hpre] at hp
      obtain ⟨f1, t1, a1, b1, hy1, hR1⟩ := hY pre (s.extract 0 i) wr hj (by rw [hp]; exact ⟨pieces c (s.extract (i + 1) s.size), by simp⟩)
      have H1 := Lib.hid h1
      have htl := tail_size s i (by omega)
      have HT := Lib.hid htl
      have hlt2 : i < s.size := by omega
      clear h1 hpre hs hlt htl
      gi_wp2_with (refine ⟨trivial, ?_⟩; gi_at_call 101; refine (callsIn_wide.2 (Tryd.strings_Index_one _ _ _)).mono ?_; rintro e w' ⟨rfl, rfl⟩; rw [H1.out])
      refine hR1.mono ?_
      rintro e W3 (⟨rfl, hJ3, hk3⟩ | ⟨rfl, hJx3⟩)
      · have hb3 := hb.keep hk3
        have r1 := hb3.cells.1
        have r2 := hb3.cells.2.1
        have r3 := hb3.cells.2.2.2
        gi_wp2
        have ht := HT.out
        refine ⟨⟨pre ++ [s.extract 0 i], s.extract (i + 1) s.size, by rw [hp]; simp, hb3.set _, by rw [ht]; omega, hJ _ W3 _ (some lo) hJ3 (grownBy_setCell' W3 lo _) (fun r e => .inl (by cases e; rfl))⟩, ?_⟩
        rw [(hb3.set _).left, hb.left, ht]
        omega
      · gi_wp2
        refine bodyPost_ret (results_none rfl _ _ _) rfl ?_
        exact ⟨⟨_, rfl⟩, .inr ⟨pre ++ [s.extract 0 i], by rw [hp]; exact ⟨pieces c (s.extract (i + 1) s.size), by simp⟩, hJx3⟩⟩

set_option maxHeartbeats 1000000 in
/-- strings.splitSeq: three boxes, and the closure over them. -/
theorem splitSeq_any (s sep : ByteArray) (w : World) :
    Calls Tryd.prog 77 #[.string s, .string sep, .int .i64 0] w fun e w' =>
      e = .returned (.func (.func 99) #[] #[.pointer (some ⟨w.heap.size + 1, 0, none⟩), .pointer (some ⟨w.heap.size, 0, none⟩), .pointer (some ⟨w.heap.size + 2, 0, none⟩)]) ∧
      w' = ((w.alloc (.cells #[.string s] 9 (0, 0))).alloc (.cells #[.string sep] 9 (0, 0))).alloc (.cells #[.int .i64 0] 3 (0, 0)) := by
  go_enter Tryd.func77, Tryd.ntmps77
  go_wp2
  go_ret
  exact ⟨rfl, rfl⟩

set_option maxHeartbeats 1000000 in
/-- strings.SplitSeq. -/
theorem SplitSeq_any (s sep : ByteArray) (w : World) :
    Calls Tryd.prog 55 #[.string s, .string sep] w fun e w' =>
      e = .returned (.func (.func 99) #[] #[.pointer (some ⟨w.heap.size + 1, 0, none⟩), .pointer (some ⟨w.heap.size, 0, none⟩), .pointer (some ⟨w.heap.size + 2, 0, none⟩)]) ∧
      w' = ((w.alloc (.cells #[.string s] 9 (0, 0))).alloc (.cells #[.string sep] 9 (0, 0))).alloc (.cells #[.int .i64 0] 3 (0, 0)) := by
  go_enter Tryd.func55, Tryd.ntmps55
  go_wp2_with (go_at_call 77; refine (splitSeq_any _ _ _).mono ?_; rintro e w' ⟨rfl, rfl⟩)
  go_ret
  exact ⟨rfl, rfl⟩

theorem boxes_new (s : ByteArray) (c : UInt8) (w : World) : Boxes w.heap.size c s (((w.alloc (.cells #[.string s] 9 (0, 0))).alloc (.cells #[.string ⟨#[c]⟩] 9 (0, 0))).alloc (.cells #[.int .i64 0] 3 (0, 0))) := by
  refine ⟨?_, ?_, ?_⟩
  · exact ((Below.heap_alloc _ _ _ (by simp; omega)).trans (Below.heap_alloc _ _ _ (by simp))).trans (World.alloc_heap_new w _)
  · refine (Below.heap_alloc _ _ _ (by simp)).trans ?_
    have := World.alloc_heap_new (w.alloc (.cells #[.string s] 9 (0, 0))) (.cells #[.string ⟨#[c]⟩] 9 (0, 0)); rwa [World.size_alloc] at this
  · have := World.alloc_heap_new ((w.alloc (.cells #[.string s] 9 (0, 0))).alloc (.cells #[.string ⟨#[c]⟩] 9 (0, 0))) (.cells #[.int .i64 0] 3 (0, 0)); rwa [World.size_alloc, World.size_alloc] at this
end Go.Proofs.YtfmppmabnpkooaaDoor
