/- A piece between separators is no longer than the whole. -/
import Derived.Test.YtfmppmabnpkooaaDoorSplitSeq
namespace Go.Proofs.YtfmppmabnpkooaaDoor
open Go
theorem piece_size (c : UInt8) : ∀ (k : Nat) (s x : ByteArray), x ∈ cutB c k s → x.size ≤ s.size
  | 0, s, x, h => by simp [cutB] at h; rw [h]; exact Nat.le_refl _
  | k + 1, s, x, h => by
    unfold cutB at h
    split at h
    · simp at h; rw [h]; exact Nat.le_refl _
    · rcases List.mem_cons.1 h with rfl | h
      · simp; omega
      · have := piece_size c k _ x h
        simp at this
        omega
end Go.Proofs.YtfmppmabnpkooaaDoor
