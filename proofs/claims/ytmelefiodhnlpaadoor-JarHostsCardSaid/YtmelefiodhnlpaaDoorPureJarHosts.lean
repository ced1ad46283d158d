/- JarHosts, the plain law: which cookie goes to which host; finitely many cases, decided. -/
import Derived.Test.YtmelefiodhnlpaaDoorBCx4
import Derived.Test.YtmelefiodhnlpaaDoorLow
set_option linter.unusedSimpArgs false
set_option linter.unusedVariables false
namespace Go.Proofs.YtmelefiodhnlpaaDoor.Pure
open Go Go.RowKit Go.Proofs.YtmelefiodhnlpaaDoor Go.Proofs.YtmelefiodhnlpaaDoor.BC Go.Proofs.YtmelefiodhnlpaaDoorW.PrintMore Go.Proofs.YtmelefiodhnlpaaDoorW.PrintWords Go.Proofs.YtmelefiodhnlpaaDoorW.PrintLast

theorem low_idem (a : Int) (n : Nat) (h : 0 < (n : Int)) (h2 : (n : Int) ≤ 9223372036854775807) : BB.moatlaw0_Low.f (lowN a n : Int) n = BB.moatlaw0_Low.f a n := by
  rw [Low_f _ _ h h2, Low_f _ _ h h2]
  have hl := lowN_lt a n h
  have e : IntKind.u64.wrap (lowN a n : Int) = lowN a n := by
    simp only [IntKind.wrap, IntKind.signed, IntKind.bits]
    simp
    omega
  have e2 : lowN (lowN a n : Int) n = lowN a n := by
    show (IntKind.u64.wrap (lowN a n : Int) % n).toNat = lowN a n
    rw [e, Int.emod_eq_of_lt (by omega) hl, Int.toNat_natCast]
  rw [e2]

theorem j0_low (k : Nat) (x2 : Int) (x3 x4 : Bool) (x12 x13 x14 a b c : ByteArray) (d : Int) :
    moatlaw8_JarHosts.j0 k (lowN x2 5 : Int) x3 x4 x12 x13 x14 a b c d = moatlaw8_JarHosts.j0 k x2 x3 x4 x12 x13 x14 a b c d := by
  cases k with
  | zero => rfl
  | succ k =>
    have h := low_idem x2 5 (by decide) (by decide)
    simp only [moatlaw8_JarHosts.j0]
    rw [show BB.moatlaw0_Low.f (lowN x2 5 : Int) 5 = BB.moatlaw0_Low.f x2 5 from h]

theorem f_low (k : Nat) (a0 a1 a2 : Int) (s h : Bool) :
    moatlaw8_JarHosts.f k (lowN a0 3 : Int) (lowN a1 3 : Int) (lowN a2 5 : Int) s h = moatlaw8_JarHosts.f k a0 a1 a2 s h := by
  have h0 := low_idem a0 3 (by decide) (by decide)
  have h1 := low_idem a1 3 (by decide) (by decide)
  have h2 := low_idem a2 5 (by decide) (by decide)
  unfold moatlaw8_JarHosts.f
  rw [show BB.moatlaw0_Low.f (lowN a0 3 : Int) 3 = BB.moatlaw0_Low.f a0 3 from h0, show BB.moatlaw0_Low.f (lowN a1 3 : Int) 3 = BB.moatlaw0_Low.f a1 3 from h1,
    show BB.moatlaw0_Low.f (lowN a2 5 : Int) 5 = BB.moatlaw0_Low.f a2 5 from h2]
  simp only [j0_low]

theorem all_cases : ∀ i < 3, ∀ d < 3, ∀ j < 5, ∀ s h : Bool, moatlaw8_JarHosts.f 30 (i : Nat) (d : Nat) (j : Nat) s h = some true := by decide +kernel

theorem JarHosts : moatlaw8_JarHosts.Pure := by
  intro a0 a1 a2 s h w0 w1 w2
  refine ⟨30, ?_⟩
  have l0 := lowN_lt a0 3 (by decide)
  have l1 := lowN_lt a1 3 (by decide)
  have l2 := lowN_lt a2 5 (by decide)
  rw [← f_low]
  exact all_cases _ (by omega) _ (by omega) _ (by omega) s h
end Go.Proofs.YtmelefiodhnlpaaDoor.Pure
