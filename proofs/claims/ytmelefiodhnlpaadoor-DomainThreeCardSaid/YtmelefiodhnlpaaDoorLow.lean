/- moatlaw0.Low: a number from 0 to below n. -/
import Derived.Test.YtmelefiodhnlpaaDoorBBx4
set_option linter.unusedSimpArgs false
set_option linter.unusedVariables false
namespace Go.Proofs.YtmelefiodhnlpaaDoor
open Go Go.RowKit Go.Proofs.YtmelefiodhnlpaaDoorW.PrintWords Go.Proofs.YtmelefiodhnlpaaDoorW.PrintLast Go.Proofs.YtmelefiodhnlpaaDoorW.PrintMore

theorem wrap_u64_pos (n : Int) (h : 0 < n) (h2 : n ≤ 9223372036854775807) : IntKind.u64.wrap n = n := by
  simp only [IntKind.wrap, IntKind.signed, IntKind.bits]
  simp
  omega

theorem wrap_u64_nonneg (n : Int) : 0 ≤ IntKind.u64.wrap n ∧ IntKind.u64.wrap n < 18446744073709551616 := by
  simp only [IntKind.wrap, IntKind.signed, IntKind.bits]
  simp
  omega

def lowN (a n : Int) : Nat := (IntKind.u64.wrap a % n).toNat

theorem lowN_lt (a n : Int) (h : 0 < n) : (lowN a n : Int) < n := by
  unfold lowN
  have := Int.emod_lt_of_pos (IntKind.u64.wrap a) h
  have := Int.emod_nonneg (IntKind.u64.wrap a) (Int.ne_of_gt h)
  omega

theorem Low_f (a n : Int) (h : 0 < n) (h2 : n ≤ 9223372036854775807) : BB.moatlaw0_Low.f a n = some (lowN a n : Int) := by
  unfold BB.moatlaw0_Low.f
  have hw := wrap_u64_nonneg a
  rw [wrap_u64_pos n h h2, if_neg (by omega)]
  have h1 := Int.emod_lt_of_pos (IntKind.u64.wrap a) h
  have h3 := Int.emod_nonneg (IntKind.u64.wrap a) (Int.ne_of_gt h)
  congr 1
  rw [Int.tmod_eq_emod_of_nonneg hw.1]
  unfold lowN wrap64
  omega

/-- 'x & (2^i - 1)' of an int: what is left of x by 2^i. -/
theorem bits_low (x : Int) (i : Nat) (hi : i ≤ 62) : Go.bits .and .i64 x ((2 ^ i - 1 : Nat) : Int) = x % (2 ^ i : Nat) := by
  have hp : 2 ^ i ≤ 2 ^ 62 := Nat.pow_le_pow_right (by decide) hi
  have hpos : 0 < 2 ^ i := Nat.pow_pos (by decide)
  have hx : ((BitVec.ofInt 64 x).toNat : Int) = x % 18446744073709551616 := by
    rw [BitVec.toNat_ofInt]
    simp
    omega
  have h3 : (BitVec.ofInt 64 ((2 ^ i - 1 : Nat) : Int)).toNat = 2 ^ i - 1 := by
    rw [BitVec.ofInt_natCast, BitVec.toNat_ofNat]
    exact Nat.mod_eq_of_lt (by omega)
  have hdvd : ((2 ^ i : Nat) : Int) ∣ 18446744073709551616 := by
    refine ⟨((2 ^ (64 - i) : Nat) : Int), ?_⟩
    rw [← Int.natCast_mul, ← Nat.pow_add, show i + (64 - i) = 64 by omega]
    rfl
  unfold Go.bits
  show IntKind.i64.wrap (((BitVec.ofInt 64 x) &&& (BitVec.ofInt 64 ((2 ^ i - 1 : Nat) : Int))).toNat : Int) = _
  rw [BitVec.toNat_and, h3, Nat.and_two_pow_sub_one_eq_mod]
  have hm : (((BitVec.ofInt 64 x).toNat % 2 ^ i : Nat) : Int) = x % (2 ^ i : Nat) := by
    rw [Int.natCast_emod, hx, Int.emod_emod_of_dvd _ hdvd]
  have hlt : (BitVec.ofInt 64 x).toNat % 2 ^ i < 2 ^ i := Nat.mod_lt _ hpos
  rw [← hm, IntKind.wrap_i64]
  omega
end Go.Proofs.YtmelefiodhnlpaaDoor
