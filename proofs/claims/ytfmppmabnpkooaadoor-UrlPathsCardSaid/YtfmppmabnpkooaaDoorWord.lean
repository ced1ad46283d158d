/- Small words beside the print's: a text held against the empty one. -/
namespace Go.Proofs.YtfmppmabnpkooaaDoor
theorem isEmpty_bne (l : List UInt8) : (l != []) = !l.isEmpty := by cases l <;> rfl
theorem isEmpty_beq (l : List UInt8) : (l == []) = l.isEmpty := by cases l <;> rfl
end Go.Proofs.YtfmppmabnpkooaaDoor
