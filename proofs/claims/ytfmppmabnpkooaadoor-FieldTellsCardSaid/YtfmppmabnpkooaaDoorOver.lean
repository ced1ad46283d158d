/- moatlaw0.OverTexts: what was answered is written over; all else stays. -/
import Derived.Test.YtfmppmabnpkooaaDoorEqPair
import Derived.Test.YtfmppmabnpkooaaDoorAwake3
set_option linter.unusedSimpArgs false
set_option linter.unusedVariables false
namespace Go.Proofs.YtfmppmabnpkooaaDoor
open Go Go.RowKit Go.Proofs.YtfmppmabnpkooaaDoorW.PrintWords Go.Proofs.YtfmppmabnpkooaaDoorW.PrintLast Go.Proofs.YtfmppmabnpkooaaDoorW.PrintMore

theorem own_slot {W : World} {base g n cap : Nat} {e : TypeId} {xs : List Value} (h : W.ownsRow base e 1 (.slice (some ⟨g, 0, none⟩) n cap) n xs) (i : Nat) (hi : i < n) : (∃ y, W.cell? ⟨g, i, none⟩ = some y) ∧ W.frozen? ⟨g, i, none⟩ = false := by
  rcases h.2 with ⟨hv, _⟩ | ⟨g', cap', cur, hv, _, hh, hn, _, hs, _⟩
  · cases hv
  · cases hv
    have : i < cur.size := by omega
    exact ⟨⟨cur[i], by simp [World.cell?, hh, this]⟩, by simp [World.frozen?, hh]⟩

set_option maxRecDepth 100000 in
set_option maxHeartbeats 2000000 in
theorem OverTexts_calls (base : Nat) (v : Value) (l : List ByteArray) (w : World) (HO : w.ownsRow base 9 1 v l.length (encs Value.string l)) (hbase : base ≤ w.heap.size) (hl : l.length ≤ 1000000) :
    Calls Tryd.prog 23 #[v] w fun e w' => e = .returned (.tuple #[]) ∧ w.grownBy w' v.ownBlock := by
  obtain ⟨i0, hi, hz0, hz1, hz2⟩ := info_parts List_info
  obtain ⟨oa, c, rfl, hoa⟩ := slice_of HO
  have HOA := Lib.hid hoa
  clear hoa
  have H0 := Aside0.mk HO
  clear HO
  go_enter Tryd.func23, Tryd.ntmps23
  go_wp2
  go_loopg [2] l.length (fun gk v2 wr => ∃ i : Nat, v2 = .int .i64 i ∧ i + gk = l.length ∧ Aside0 (∃ ys : List ByteArray, ys.length = l.length ∧ wr.ownsRow base 9 1 (.slice oa l.length c) ys.length (encs Value.string ys)) ∧ Aside0 (w.grownBy wr (Value.slice oa l.length c).ownBlock))
  case atStart => exact ⟨0, rfl, by omega, ⟨l, rfl, H0.out⟩, ⟨⟨rfl, rfl, rfl, Nat.le_refl _, fun _ _ _ => rfl⟩⟩⟩
  case round =>
    obtain ⟨i, rfl, hik, ⟨ys, hyl, hO⟩, hG⟩ := hrel
    by_cases hil : i < l.length
    · obtain ⟨g, rfl⟩ := HOA.out (by omega)
      rw [← hyl] at hO
      obtain ⟨⟨y, hc⟩, hf⟩ := own_slot hO i (by omega)
      have hput := own_put_of hO (i : Int) (⟨#[111, 118, 101, 114]⟩ : ByteArray)
      rw [Int.toNat_natCast] at hput
      have HP := Aside0.mk hput
      have HYL := Lib.hid hyl
      clear hput hO hyl
      go_wp2
      go_roundg (gk - 1)
      case measure => omega
      case rel =>
        refine ⟨i + 1, by go_num, by omega, ⟨ys.set i ⟨#[111, 118, 101, 114]⟩, by rw [List.length_set]; exact HYL.out, ?_⟩, ⟨World.grownBy.trans hG.out ⟨rfl, rfl, rfl, by simp, fun k _ hne => Below.heap_setCell _ _ _ k (fun e => hne (by rw [e]; rfl))⟩⟩⟩
        rw [← HYL.out]; exact HP.out
    · have hz := hG.out.size
      have HOO := Aside0.mk (show wr.ownsRow base 9 1 (.slice oa l.length c) l.length (encs Value.string ys) by rw [← hyl] at hO ⊢; exact hO)
      have HYL := Lib.hid hyl
      clear hO hyl
      go_wp2_with (at_builtin; refine wpList_append_own _ rfl _ _ 23 rfl base 9 i0 (.string ⟨#[]⟩) 1 16 Tryd.underlying23 hi hz0 hz1 hz2 rfl (by decide) _ _ _ rfl (HOO.out.alloc _) ⟨wr.heap.size, 0, none⟩ 1 1 [.string ⟨#[111, 118, 101, 114]⟩] rfl rfl (cell_one_new _ _ _) (by simp [Value.oneCell']) (by unfold maxLen; omega) (by omega) (by simp; omega) ?_; intro v' w1 hown' hgrow _)
      go_end0
      exact ⟨rfl, World.grownBy.trans hG.out (World.grownBy.trans (World.grownBy_alloc wr _ _) hgrow)⟩
end Go.Proofs.YtfmppmabnpkooaaDoor
