/- field.Lower, moatref3.Lower: a text's capital letters as small ones: the two walks, and their contracts in the print's form. -/
import Derived.Test.YtfmppmabnpkooaaDoorGivenF
import Derived.Laws.IdiomStrings
import Derived.Deep.LoopGhost
import Derived.WalkKit
import Derived.Below
set_option linter.unusedSimpArgs false
set_option linter.unusedVariables false
namespace Go.Proofs.YtfmppmabnpkooaaDoor
open Go Go.RowKit Go.Shelf Go.Proofs Go.Proofs.YtfmppmabnpkooaaDoorW.PrintWords Go.Proofs.YtfmppmabnpkooaaDoorW.PrintLast Go.Proofs.YtfmppmabnpkooaaDoorW.PrintMore

def lowB (c : UInt8) : UInt8 := if 65 ≤ c.toNat ∧ c.toNat ≤ 90 then c + 32 else c
def lowL (l : List UInt8) : List UInt8 := l.map lowB
def lowTo (l : List UInt8) (j : Nat) : List UInt8 := lowL (l.take j) ++ l.drop j

theorem lowTo_zero (l : List UInt8) : lowTo l 0 = l := by simp [lowTo, lowL]
theorem lowTo_all (l : List UInt8) : lowTo l l.length = lowL l := by simp [lowTo, lowL]
theorem lowTo_len (l : List UInt8) (j : Nat) : (lowTo l j).length = l.length := by simp [lowTo, lowL]; omega
theorem lowTo_at (l : List UInt8) (j : Nat) (h : j < l.length) : (lowTo l j)[j]? = some l[j] := by
  unfold lowTo lowL
  rw [List.getElem?_append_right (by simp; omega)]
  simp [List.getElem?_drop, Nat.min_eq_left (Nat.le_of_lt h), h]
theorem lowTo_step (l : List UInt8) (j : Nat) (h : j < l.length) : lowTo l (j + 1) = (lowTo l j).set j (lowB l[j]) := by
  apply List.ext_getElem?
  intro i
  unfold lowTo lowL
  rw [List.getElem?_set]
  simp only [List.getElem?_append, List.length_map, List.length_take, List.getElem?_map, List.getElem?_take, List.getElem?_drop, List.length_append, List.length_drop]
  by_cases h1 : i = j
  · subst h1
    have h3 : i < min i l.length + (l.length - i) := by omega
    simp [h, Nat.min_eq_left (Nat.succ_le_of_lt h), h3]
  · rw [if_neg (Ne.symm h1)]
    by_cases h2 : i < j
    · rw [if_pos (by omega), if_pos (by omega), if_pos (by omega), if_pos (by omega)]
    · rw [if_neg (by omega), if_neg (by omega)]
      congr 1
      omega

theorem lowB_up (x : UInt8) (h : 65 ≤ x.toNat) (h2 : x.toNat ≤ 90) : ((lowB x).toNat : Int) = (x.toNat : Int) - 65 + 97 := by
  unfold lowB
  rw [if_pos ⟨h, h2⟩, UInt8.toNat_add]
  simp
  omega
theorem lowB_other (x : UInt8) (h : ¬ (65 ≤ x.toNat ∧ x.toNat ≤ 90)) : lowB x = x := if_neg h
theorem lowTo_stay (l : List UInt8) (j : Nat) (x : UInt8) (h : (lowTo l j)[j]? = some x) (h2 : lowTo l (j + 1) = (lowTo l j).set j (lowB x)) (h3 : lowB x = x) : lowTo l (j + 1) = lowTo l j := by
  obtain ⟨hl, rfl⟩ := List.getElem?_eq_some_iff.1 h
  rw [h2, h3]
  exact List.set_getElem_self hl

/-- A block of the walk's own that holds these bytes, none of them frozen. -/
def ByteRow (w : World) (b : Nat) (l : List UInt8) : Prop := ∀ (i : Nat) x, l[i]? = some x → w.cell? ⟨b, i, none⟩ = some (.int .u8 (x.toNat : Int)) ∧ w.frozen? ⟨b, i, none⟩ = false

theorem ByteRow.set {w : World} {b : Nat} {l : List UInt8} (h : ByteRow w b l) (j : Nat) (hj : j < l.length) (y : UInt8) : ByteRow (w.setCell ⟨b, j, none⟩ (.int .u8 (y.toNat : Int))) b (l.set j y) := by
  intro i x hx
  rw [List.getElem?_set] at hx
  by_cases e : j = i
  · subst e
    rw [if_pos rfl, if_pos hj] at hx
    obtain rfl := Option.some.inj hx
    obtain ⟨h1, h2⟩ := h j _ (List.getElem?_eq_getElem hj)
    exact ⟨World.cell?_setCell_same _ _ _ h1, (World.frozen?_setCell _ _ _ _).trans h2⟩
  · rw [if_neg e] at hx
    obtain ⟨h1, h2⟩ := h i x hx
    exact ⟨(World.cell?_setCell_other _ _ _ _ (fun hh => e (congrArg Addr.off hh))).trans h1, (World.frozen?_setCell _ _ _ _).trans h2⟩

theorem byteRow_new (w : World) (s : ByteArray) (cap : Nat) (t : TypeId) (n : Nat) (hn : s.size ≤ n) : ByteRow (w.alloc (.cells (bytesRow s cap) t (n, n + 1))) w.heap.size s.data.toList := by
  intro i x hx
  obtain ⟨hi, rfl⟩ := List.getElem?_eq_some_iff.1 hx
  have hi' : i < s.data.size := by simpa using hi
  refine ⟨?_, ?_⟩
  · rw [World.cell?_alloc_mark, bytesRow_at s cap i hi']
    simp
  · rw [World.frozen?_alloc_mark]
    have : i < n := Nat.lt_of_lt_of_le hi' hn
    simp; omega

theorem grownCap_le (w : World) (s : ByteArray) (t : TypeId) : s.size ≤ grownCap w s.size 0 t := by
  exact grownCap_ge w s.size 0 t

set_option maxRecDepth 100000 in
set_option maxHeartbeats 2000000 in
theorem Lower_calls (s : ByteArray) (hn : s.size ≤ 140737488355328) (w : World) :
    Calls Tryd.prog 26 #[.string s] w fun e w' => e = .returned (.string ⟨(lowL s.data.toList).toArray⟩) ∧ Below w.heap.size w w' := by
  have hsz := Lib.size_eq s
  obtain ⟨C, cap, hcap, hrow, hconv⟩ : ∃ C cap, s.size ≤ cap ∧ ByteRow (w.drew.alloc (.cells C 5 (C.size, C.size + 1))) w.heap.size s.data.toList ∧
      (convert 9 57 (.string s)).run Tryd.prog w = .ok (.slice (some ⟨w.heap.size, 0, none⟩) s.size cap) (w.drew.alloc (.cells C 5 (C.size, C.size + 1))) :=
    ⟨_, _, grownCap_le w s 5, byteRow_new w.drew s _ 5 _ (by simp [bytesRow]), run_bytes_of_string (P := Tryd.prog) w 9 57 5 s Tryd.underlying9 Tryd.underlying57 Tryd.underlying5⟩
  clear hsz
  go_enter Tryd.func26, Tryd.ntmps26
  have hbel : Below w.heap.size w (w.drew.alloc (.cells C 5 (C.size, C.size + 1))) := (below_drew1 (Below.refl _ w)).alloc (by simp) _
  go_wp2_with fail
  clear hconv
  rw [show w.drew.alloc (.cells C 5 (C.size, C.size + 1)) = (w.alloc (.cells C 5 (C.size, C.size + 1))).drew from rfl] at hrow hbel
  generalize (w.alloc (.cells C 5 (C.size, C.size + 1))).drew = W0 at hrow hbel ⊢
  go_loopg [10] s.size (fun k v10 wr => ∃ j : Nat, v10 = .int .i64 j ∧ j + k = s.size ∧ Aside0 (ByteRow wr w.heap.size (lowTo s.data.toList j)) ∧ Aside0 (Below w.heap.size w wr))
  case atStart => exact ⟨0, rfl, by omega, ⟨by rw [lowTo_zero]; exact hrow⟩, ⟨hbel⟩⟩
  case round =>
    obtain ⟨j, rfl, hjk, hrw, hbw⟩ := hrel
    by_cases hj : j < s.size
    · have hjl : j < s.data.toList.length := by rw [← Lib.size_eq]; exact hj
      have hat := Aside0.mk (lowTo_at _ j hjl)
      obtain ⟨hc, hf⟩ := hrw.out j _ hat.out
      have hstep := Aside0.mk (lowTo_step s.data.toList j hjl)
      have hjl' := Aside0.mk (show j < (lowTo s.data.toList j).length by rw [lowTo_len]; exact hjl)
      generalize s.data.toList[j] = x at hc hstep hat
      clear hjl
      by_cases hlo : 65 ≤ x.toNat
      · by_cases hhi : x.toNat ≤ 90
        · go_wp2
          go_roundg (s.size - (j + 1))
          case measure => omega
          case rel =>
            have hset := hrw.out.set j hjl'.out (lowB x)
            rw [lowB_up x hlo hhi, ← hstep.out] at hset
            exact ⟨j + 1, rfl, by omega, ⟨hset⟩, ⟨hbw.out.setCell (p := ⟨w.heap.size, j, none⟩) (Nat.le_refl _) _⟩⟩
        · go_wp2
          go_roundg (s.size - (j + 1))
          case measure => omega
          case rel => exact ⟨j + 1, rfl, by omega, ⟨by rw [lowTo_stay _ j x hat.out hstep.out (lowB_other x (by omega))]; exact hrw.out⟩, hbw⟩
      · go_wp2
        go_roundg (s.size - (j + 1))
        case measure => omega
        case rel => exact ⟨j + 1, rfl, by omega, ⟨by rw [lowTo_stay _ j x hat.out hstep.out (lowB_other x (by omega))]; exact hrw.out⟩, hbw⟩
    · have hall : lowTo s.data.toList j = lowL s.data.toList := by
        rw [← lowTo_all, ← Lib.size_eq]; congr 1; omega
      have hback : (convert 57 9 (.slice (some ⟨w.heap.size, 0, none⟩) s.size cap)).run Tryd.prog wr = .ok (.string ⟨(lowL s.data.toList).toArray⟩) wr := by
        have hlen : (lowL s.data.toList).length = s.size := by rw [lowL, List.length_map, Lib.size_eq]
        have := run_convert_bytes_back (P := Tryd.prog) wr 57 9 5 ⟨w.heap.size, 0, none⟩ cap (lowL s.data.toList) Tryd.underlying57 Tryd.underlying5 Tryd.underlying9
          (fun i hi => by
            have := (hrw.out i ((lowL s.data.toList)[i]) (by rw [hall]; exact List.getElem?_eq_getElem hi)).1
            rw [show (⟨w.heap.size, 0, none⟩ : Addr).add i = ⟨w.heap.size, i, none⟩ by cases i <;> simp [Addr.add]]
            exact this)
        rw [hlen] at this
        exact this
      clear hall
      go_wp2
      go_ret
      exact ⟨rfl, hbw.out⟩

def field_Lower.f (a0 : ByteArray) : Option ByteArray := if a0.size ≤ 140737488355328 then some ⟨(lowL a0.data.toList).toArray⟩ else none
theorem field_Lower.calls (a0 : ByteArray) (r : ByteArray) (w : World) (h : field_Lower.f a0 = some r) :
    Calls Tryd.prog 26 #[.string a0] w fun e w' => e = .returned (.string r) ∧ Below w.heap.size w w' := by
  unfold field_Lower.f at h
  split at h
  · rename_i h1
    obtain rfl := Option.some.inj h
    exact Lower_calls a0 h1 w
  · cases h
end Go.Proofs.YtfmppmabnpkooaaDoor
