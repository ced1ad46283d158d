/- moatlaw15.FormulaTurns: the walk, of arguments of any kind. -/
import Derived.Test.YtmelefiodhnlpaaTurns
set_option linter.unusedSimpArgs false
set_option linter.unusedVariables false
namespace Go.Proofs.Ytmelefiodhnlpaa
open Go Go.RowKit Go.Proofs Go.Proofs.YtmelefiodhnlpaaW.PrintWords Go.Proofs.YtmelefiodhnlpaaW.PrintLast Go.Proofs.YtmelefiodhnlpaaW.PrintMore
open PFormulaTurns

theorem great_loop (a : Int) (b : Bool) (l2 l3 : List Int) (l4 l5 l6 : List Bool) (l7 : List S36) (hl : l7.length ≤ 1000) : ∀ (d k i : Nat), i + d = l7.length → d < k → ∃ r, moatlaw0_GreatState.l0 k (i : Int) a b l2 l3 l4 l5 l6 l7 = some r
  | 0, k, i, h, hk => by
    obtain ⟨k, rfl⟩ : ∃ m, k = m + 1 := ⟨k - 1, by omega⟩
    refine ⟨false, ?_⟩
    rw [moatlaw0_GreatState.l0.eq_2, if_neg (by omega)]
  | d + 1, k, i, h, hk => by
    obtain ⟨k, rfl⟩ : ∃ m, k = m + 1 := ⟨k - 1, by omega⟩
    obtain ⟨r, hr⟩ := great_loop a b l2 l3 l4 l5 l6 l7 hl d k (i + 1) (by omega) (by omega)
    have hw : wrap64 ((i : Int) + 1) = ((i + 1 : Nat) : Int) := by unfold wrap64; omega
    rw [moatlaw0_GreatState.l0.eq_2, if_pos (by omega), if_pos (by omega), hw]
    split
    · exact ⟨true, rfl⟩
    · exact ⟨r, hr⟩
theorem great_j0 (x : Bool) (a : Int) (b : Bool) (l2 l3 : List Int) (l4 l5 l6 : List Bool) (l7 : List S36) (h : x = false → l7.length ≤ 6) : ∃ r, moatlaw0_GreatState.j0 10 x a b l2 l3 l4 l5 l6 l7 = some r := by
  rw [moatlaw0_GreatState.j0.eq_2]
  cases x with
  | true => exact ⟨true, rfl⟩
  | false =>
    have hl := h rfl
    obtain ⟨r, hr⟩ := great_loop a b l2 l3 l4 l5 l6 l7 (by omega) l7.length 9 0 (by omega) (by omega)
    exact ⟨r, by simpa using hr⟩
theorem great_total (a : Int) (b : Bool) (l2 l3 : List Int) (l4 l5 l6 : List Bool) (l7 : List S36) : ∃ r, moatlaw0_GreatState.f 10 a b l2 l3 l4 l5 l6 l7 = some r := by
  unfold moatlaw0_GreatState.f
  have h := great_j0 true a b l2 l3 l4 l5 l6 l7 (fun h => by cases h)
  repeat' split
  all_goals first
    | exact h
    | exact great_j0 _ a b l2 l3 l4 l5 l6 l7 (fun h => by simp at h; omega)

theorem FormulaTurns_any (A0 : Option Addr) (c0 : Nat) (f : List (Int × Int)) (A1 : Option Addr) (c1 : Nat) (g : List (Int × Int)) (a : Int) (b : Bool) (A2 : Option Addr) (c2 : Nat) (l2 : List Int) (A3 : Option Addr) (c3 : Nat) (ch : List Int) (A4 : Option Addr) (c4 : Nat) (kn : List Bool) (A5 : Option Addr) (c5 : Nat) (stl : List Bool) (A6 : Option Addr) (c6 : Nat) (rn : List Bool) (A7 : Option Addr) (c7 : Nat) (l7 : List S36) (w : World)
    (hC0 : Kd.C partK w A0 f.length f) (hC1 : Kd.C partK w A1 g.length g) (hj : Kd.C (Kd.int .i64) w A2 l2.length l2) (hj' : l2.length ≤ c2)
    (hch : Kd.C (Kd.int .i64) w A3 ch.length ch) (hch' : ch.length ≤ c3) (hkn : Kd.C Kd.bool w A4 kn.length kn) (hkn' : kn.length ≤ c4) (hst : Kd.C Kd.bool w A5 stl.length stl) (hst' : stl.length ≤ c5) (hrn : Kd.C Kd.bool w A6 rn.length rn) (hrn' : rn.length ≤ c6)
    (hp : Kd.C k36 w A7 l7.length l7) (hp' : l7.length ≤ c7) :
    Calls Try.prog 3 #[.slice A0 f.length c0, .slice A1 g.length c1, .agg #[.int .i64 a, .bool b, .slice A2 l2.length c2, .slice A3 ch.length c3, .slice A4 kn.length c4, .slice A5 stl.length c5, .slice A6 rn.length c6, .slice A7 l7.length c7]] w fun e w' => e = .returned (.bool true) ∧ Below w.heap.size w w' := by
  obtain ⟨r, hr⟩ := great_total a b l2 ch kn stl rn l7
  exact moatlaw15_FormulaTurns.walk A0 c0 f A1 c1 g (.int .i64 a) (.bool b) (.slice A2 l2.length c2) (.slice A7 l7.length c7) A3 c3 ch A4 c4 kn A5 c5 stl A6 c6 rn r w hC0 hC1 rfl rfl rfl rfl hch hkn hst hrn
    (fun w' hb => moatlaw0_GreatState.calls 10 a b A2 c2 l2 A3 c3 ch A4 c4 kn A5 c5 stl A6 c6 rn A7 c7 l7 r w' (Kd.C_below hj hb) hj' (Kd.C_below hch hb) hch' (Kd.C_below hkn hb) hkn' (Kd.C_below hst hb) hst' (Kd.C_below hrn hb) hrn' (Kd.C_below hp hb) hp' hr)
end Go.Proofs.Ytmelefiodhnlpaa
