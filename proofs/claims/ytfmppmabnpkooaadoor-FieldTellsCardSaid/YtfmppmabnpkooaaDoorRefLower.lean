/- moatref3.Lower: a text's capital letters as small ones: the walk, and its contract in the print's form. -/
import Derived.Test.YtfmppmabnpkooaaDoorLower
set_option linter.unusedSimpArgs false
set_option linter.unusedVariables false
namespace Go.Proofs.YtfmppmabnpkooaaDoor
open Go Go.RowKit Go.Shelf Go.Proofs Go.Proofs.YtfmppmabnpkooaaDoorW.PrintWords Go.Proofs.YtfmppmabnpkooaaDoorW.PrintLast Go.Proofs.YtfmppmabnpkooaaDoorW.PrintMore

theorem lowB_add (x : UInt8) (h : 65 ≤ x.toNat) (h2 : x.toNat ≤ 90) : ((lowB x).toNat : Int) = (x.toNat : Int) + 32 := by
  rw [lowB_up x h h2]; omega

set_option maxRecDepth 100000 in
set_option maxHeartbeats 2000000 in
theorem RefLower_calls (s : ByteArray) (hn : s.size ≤ 140737488355328) (w : World) :
    Calls Tryd.prog 27 #[.string s] w fun e w' => e = .returned (.string ⟨(lowL s.data.toList).toArray⟩) ∧ Below w.heap.size w w' := by
  have hsz := Lib.size_eq s
  obtain ⟨C, cap, hcap, hrow, hconv⟩ : ∃ C cap, s.size ≤ cap ∧ ByteRow (w.drew.alloc (.cells C 5 (C.size, C.size + 1))) w.heap.size s.data.toList ∧
      (convert 9 57 (.string s)).run Tryd.prog w = .ok (.slice (some ⟨w.heap.size, 0, none⟩) s.size cap) (w.drew.alloc (.cells C 5 (C.size, C.size + 1))) :=
    ⟨_, _, grownCap_le w s 5, byteRow_new w.drew s _ 5 _ (by simp [bytesRow]), run_bytes_of_string (P := Tryd.prog) w 9 57 5 s Tryd.underlying9 Tryd.underlying57 Tryd.underlying5⟩
  clear hsz
  go_enter Tryd.func27, Tryd.ntmps27
  have hbel : Below w.heap.size w (w.drew.alloc (.cells C 5 (C.size, C.size + 1))) := (below_drew1 (Below.refl _ w)).alloc (by simp) _
  go_wp2_with fail
  clear hconv
  rw [show w.drew.alloc (.cells C 5 (C.size, C.size + 1)) = (w.alloc (.cells C 5 (C.size, C.size + 1))).drew from rfl] at hrow hbel
  generalize (w.alloc (.cells C 5 (C.size, C.size + 1))).drew = W0 at hrow hbel ⊢
  go_loopg [4] s.size (fun k v4 wr => ∃ j : Nat, v4 = .int .i64 j ∧ j + k = s.size ∧ Aside0 (ByteRow wr w.heap.size (lowTo s.data.toList j)) ∧ Aside0 (Below w.heap.size w wr))
  case atStart => exact ⟨0, rfl, by omega, ⟨by rw [lowTo_zero]; exact hrow⟩, ⟨hbel⟩⟩
  case round =>
    obtain ⟨j, rfl, hjk, hrw, hbw⟩ := hrel
    by_cases hj : j < s.size
    · have hjl : j < s.data.toList.length := by rw [← Lib.size_eq]; exact hj
      have hat := Aside0.mk (lowTo_at _ j hjl)
      obtain ⟨hc, hf⟩ := hrw.out j _ hat.out
      have hstep := Aside0.mk (lowTo_step s.data.toList j hjl)
      have hjl' := Aside0.mk (show j < (lowTo s.data.toList j).length by rw [lowTo_len]; exact hjl)
      generalize s.data.toList[j] = x at hc hstep hat
      clear hjl
      by_cases hlo : 65 ≤ x.toNat
      · by_cases hhi : x.toNat ≤ 90
        · go_wp2
          go_roundg (s.size - (j + 1))
          case measure => omega
          case rel =>
            have hset := hrw.out.set j hjl'.out (lowB x)
            rw [lowB_add x hlo hhi, ← hstep.out] at hset
            exact ⟨j + 1, rfl, by omega, ⟨hset⟩, ⟨hbw.out.setCell (p := ⟨w.heap.size, j, none⟩) (Nat.le_refl _) _⟩⟩
        · go_wp2
          go_roundg (s.size - (j + 1))
          case measure => omega
          case rel => exact ⟨j + 1, rfl, by omega, ⟨by rw [lowTo_stay _ j x hat.out hstep.out (lowB_other x (by omega))]; exact hrw.out⟩, hbw⟩
      · go_wp2
        go_roundg (s.size - (j + 1))
        case measure => omega
        case rel => exact ⟨j + 1, rfl, by omega, ⟨by rw [lowTo_stay _ j x hat.out hstep.out (lowB_other x (by omega))]; exact hrw.out⟩, hbw⟩
    · have hall : lowTo s.data.toList j = lowL s.data.toList := by
        rw [← lowTo_all, ← Lib.size_eq]; congr 1; omega
      have hback : (convert 57 9 (.slice (some ⟨w.heap.size, 0, none⟩) s.size cap)).run Tryd.prog wr = .ok (.string ⟨(lowL s.data.toList).toArray⟩) wr := by
        have hlen : (lowL s.data.toList).length = s.size := by rw [lowL, List.length_map, Lib.size_eq]
        have := run_convert_bytes_back (P := Tryd.prog) wr 57 9 5 ⟨w.heap.size, 0, none⟩ cap (lowL s.data.toList) Tryd.underlying57 Tryd.underlying5 Tryd.underlying9
          (fun i hi => by
            have := (hrw.out i ((lowL s.data.toList)[i]) (by rw [hall]; exact List.getElem?_eq_getElem hi)).1
            rw [show (⟨w.heap.size, 0, none⟩ : Addr).add i = ⟨w.heap.size, i, none⟩ by cases i <;> simp [Addr.add]]
            exact this)
        rw [hlen] at this
        exact this
      clear hall
      go_wp2
      go_ret
      exact ⟨rfl, hbw.out⟩

def moatref3_Lower.f (a0 : ByteArray) : Option ByteArray := if a0.size ≤ 140737488355328 then some ⟨(lowL a0.data.toList).toArray⟩ else none
theorem moatref3_Lower.calls (a0 : ByteArray) (r : ByteArray) (w : World) (h : moatref3_Lower.f a0 = some r) :
    Calls Tryd.prog 27 #[.string a0] w fun e w' => e = .returned (.string r) ∧ Below w.heap.size w w' := by
  unfold moatref3_Lower.f at h
  split at h
  · rename_i h1
    obtain rfl := Option.some.inj h
    exact RefLower_calls a0 h1 w
  · cases h
end Go.Proofs.YtfmppmabnpkooaaDoor
