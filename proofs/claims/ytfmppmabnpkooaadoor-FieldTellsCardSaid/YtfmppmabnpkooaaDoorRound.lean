/- A region that draws its order, inside a round of a range over an iterator: what is proved of it outside of rounds holds there too, if it defers nothing. -/
import Derived.Test.YtfmppmabnpkooaaDoorWLast
import Derived.RangeFuncCalls
import Derived.WalkKit
import Derived.OrdersIn
set_option linter.unusedSimpArgs false
set_option linter.unusedVariables false
namespace Go.Proofs.YtfmppmabnpkooaaDoor
open Go

theorem rows_in {P : Program} {row : String} {args : Array Value} {w : World} {R : Value → World → Prop} {l n : Nat} (h : Rows P row args w R) : RowsIn (Fence.wide.inRound l) n P row args w R :=
  fun c cs _ => let ⟨v, w', r, s⟩ := h c cs; ⟨v, w', r, stepsIn_wide.2 s⟩

theorem oper_in {P : Program} {o : Oper} {a : Act} {w : World} {K K' : Act → World → Prop} {Q : Exit → Act → World → Prop} {l n : Nat} (hd : ∀ c, o.op ≠ .defer c)
    (hK : ∀ a w, K a w → K' a w) (h : o.wp P a w K Q) : o.wpIn (Fence.wide.inRound l) n P a w K' Q := by
  refine ⟨fun _ _ => trivial, ?_⟩
  rw [Oper.semAt_eq _ _ _ hd]
  unfold Oper.wp at h
  generalize (execOp a.eval o).run P w = R at h ⊢
  rcases R with ⟨nx, w'⟩ | ⟨hh, w'⟩
  · cases nx with
    | value v => exact hK _ _ h
    | skip => exact hK _ _ h
    | defer d => exact hK _ _ h
    | enter f args =>
      refine ⟨fun hdep => by simp [Fence.wide] at hdep, CallsIn.inRound l (callsIn_wide.2 (Calls.mono (show Calls P f args w' _ from h) ?_))⟩
      intro e w'' he
      cases e with
      | returned v => exact hK _ _ he
      | panicked c => exact he
      | outgrown => exact he
    | row row args =>
      refine ⟨fun hdep => by simp [Fence.wide] at hdep, rows_in (Rows.mono (show Rows P row args w' _ from h) fun v w'' he => hK _ _ he)⟩
    | _ => exact (h : False).elim
  · cases hh with
    | panic v => exact h
    | _ => exact (h : False).elim

theorem any_in {P : Program} {md : Region.Mode} {ops : Array Oper} {Q : Exit → Act → World → Prop} {l n : Nat} (hd : ∀ (i : Nat) (o : Oper) c, ops[i]? = some o → o.op ≠ .defer c) (hlo : ¬ LetsOut Q) :
    ∀ (fuel : Nat) (listed : Array Bool) (a : Act) (w : World), wpAny P md ops Q fuel listed a w → wpAnyIn (Fence.wide.inRound l) n P md ops Q fuel listed a w := by
  intro fuel
  induction fuel with
  | zero => exact fun listed a w h => h
  | succ fuel ih =>
    intro listed a w h
    refine ⟨h.1, fun i hi => ?_⟩
    have hw := h.2 i hi
    unfold wpOp at hw
    unfold wpOpIn
    cases ho : ops[i]? with
    | none => rw [ho] at hw; exact ih _ _ _ hw
    | some o =>
      rw [ho] at hw
      by_cases hwant : Region.wanted o (yielded ops a.tmps) = true
      · simp only [hwant, if_true] at hw ⊢
        exact oper_in (hd i o · ho) (ih _) (hw.resolve_right fun h => hlo h.2)
      · simp only [hwant, if_false, Bool.false_eq_true] at hw ⊢
        exact ⟨fun _ _ => trivial, ih _ _ _ hw⟩

/-- The start of a drawn region, as the print's words walk it, inside a round. -/
theorem start_in {P : Program} {ops : Array Oper} {Q : Exit → Act → World → Prop} {S : World → Prop} {ds : List Nat} {l n0 id n : Nat} {a : Act} {w : World} (lst : Array Bool) (hm : P.follows .mixedOrders = true)
    (hd : (ops.toList.all fun o => match o.op with | .defer _ => false | _ => true) = true) (hlo : ¬ LetsOut Q) (hn : ops.size = n) (hl : Array.replicate n false = lst) (hS : S w.drew)
    (h : S w.drew → Go.Proofs.YtfmppmabnpkooaaDoorW.PrintLast.wpAnyLast P .any ops Q S ds n lst a w.drew) : (Code.region id ops true).wpIn (Fence.wide.inRound l) n0 P Q a w := by
  subst hn
  subst hl
  refine wpIn_region_any hm (any_in (fun i o c ho e => ?_) hlo _ _ _ _ (Go.Proofs.YtfmppmabnpkooaaDoorW.PrintLast.wpAny_of_last _ _ _ _ (h hS)))
  have := List.all_eq_true.1 hd o (by simpa using Array.mem_of_getElem? ho)
  rw [e] at this
  cases this
end Go.Proofs.YtfmppmabnpkooaaDoor
