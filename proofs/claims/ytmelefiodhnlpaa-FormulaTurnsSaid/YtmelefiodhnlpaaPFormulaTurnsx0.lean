-- PRINTED BY print.sh 35421559b90ae4d0a3588c463048766b98c2df88dd9212a6774a882060cdf62d: not written by this session
import Derived.Test.YtmelefiodhnlpaaProg
import Derived.Below
import Derived.Deep.Draws
import Derived.Deep.AppendLies
import Derived.Maps.AppendAt
import Derived.OwnWalk
import Derived.Laws.BytesArg
import Derived.Laws.MakeOwn
import Derived.Laws.OwnMore
import Derived.Deep.OwnRows
import Derived.Tactics
import Derived.Lib.ConvBytes
import Derived.Laws.Slices
import Derived.WalkKit
import Derived.KernelRfl
import Derived.RowKit3
import Derived.Deep.LoopGhost
import Derived.Deep.QuietTactic
import Derived.BigQuiet
import Derived.WideLaws
import Derived.Deep.DeepCutAuto
import Derived.Deep.CutBlock
import Derived.Deep.RegionHeld3
import Derived.Laws.Rows
import Derived.Lib.AppendStr
import Derived.ArgAppend
import Derived.Laws.IdiomCopy
import Derived.OrdersHeld
import Derived.Laws.BitsLemmas
import Derived.RowKit
import Derived.Test.YtmelefiodhnlpaaWWords
import Derived.Test.YtmelefiodhnlpaaWLast
import Derived.Test.YtmelefiodhnlpaaWTab
import Derived.Test.YtmelefiodhnlpaaWFour
import Derived.Test.YtmelefiodhnlpaaWQPut
import Derived.Test.YtmelefiodhnlpaaWApart
import Derived.Test.YtmelefiodhnlpaaWArr
import Derived.Test.YtmelefiodhnlpaaWZeros
import Derived.Test.YtmelefiodhnlpaaWFoot
import Derived.Test.YtmelefiodhnlpaaWKept
import Derived.Test.YtmelefiodhnlpaaWShare
import Derived.Test.YtmelefiodhnlpaaWN
import Derived.Test.YtmelefiodhnlpaaWFootNe
import Derived.Test.YtmelefiodhnlpaaWAt
import Derived.Test.YtmelefiodhnlpaaWEqStruct
import Derived.Test.YtmelefiodhnlpaaWRepsOne
import Derived.Test.YtmelefiodhnlpaaWInv
import Derived.Test.YtmelefiodhnlpaaWInvWords
import Derived.Test.YtmelefiodhnlpaaWGuard
import Derived.Test.YtmelefiodhnlpaaWNEv
import Derived.Test.YtmelefiodhnlpaaWMore
namespace Go.Proofs.Ytmelefiodhnlpaa.PFormulaTurns
open Go.RowKit Go.Proofs.YtmelefiodhnlpaaW.PrintWords Go.Proofs.YtmelefiodhnlpaaW.PrintLast Go.Proofs.YtmelefiodhnlpaaW.PrintMore
attribute [local go_sem] max2_int min2_int max_two min_two max_three min_three max_four min_four   -- for this text's walks alone
set_option linter.unusedVariables false
set_option linter.unusedSimpArgs false



def errW : Option Int → Value
  | none => .nilIface
  | some c => .iface 0 (.int .i64 c)
theorem errW_none : errW none = .nilIface := rfl
theorem errW_some (c : Int) : errW (some c) = .iface 0 (.int .i64 c) := rfl

-- the values' own types
def rd_L2 (xs : List (List Int)) (i : Int) : (List Int) := xs.getD i.toNat ([] : List Int)
theorem at_L2 {w : World} {A : Option Addr} {n : Nat} {xs : List (List Int)} (h : Kd.C (Kd.slice 3 (Kd.int .i64)) w A n xs) (i : Int) (h0 : 0 ≤ i) (h1 : i < n) : ∃ ad A0 c0, A = some ad ∧ w.cell? (ad.add i.toNat) = some (.slice A0 (rd_L2 xs i).length c0) ∧ (rd_L2 xs i).length ≤ c0 ∧ (Kd.int .i64).C w A0 (rd_L2 xs i).length (rd_L2 xs i) := by
  obtain ⟨ad, c, e, _, hK, hc0⟩ := Kd.C_get h ([] : List Int) i h0 h1
  have hc : ∀ j u, c[j]? = some u → w.cell? (ad.add (i.toNat * 1 + j)) = some u := hc0
  obtain ⟨A0, c0, rfl, l0, g0⟩ := hK
  exact ⟨ad, A0, c0, e, by have hq := hc 0 _ rfl; rwa [Nat.mul_one, Nat.add_zero] at hq, l0, g0⟩

/-! #### struct type 36 -/
structure S36 where
  f0 : Int
  f1 : Int
  f2 : Int
  f3 : Bool
  f4 : Bool
  f5 : Bool
  f6 : Int
  f7 : (List Int)
def z36 : S36 := ⟨(0 : Int), (0 : Int), (0 : Int), false, false, false, (0 : Int), ([] : List Int)⟩
def k36 : Kd S36 := Kd.iso (Kd.pair (Kd.int .i64) (Kd.pair (Kd.int .i64) (Kd.pair (Kd.int .i64) (Kd.pair Kd.bool (Kd.pair Kd.bool (Kd.pair Kd.bool (Kd.pair (Kd.int .i64) (Kd.slice 3 (Kd.int .i64))))))))) (fun x : S36 => (x.f0, x.f1, x.f2, x.f3, x.f4, x.f5, x.f6, x.f7))
theorem k36_open {w : World} {x : S36} {cs : List Value} (h : k36.K w x cs) : ∃ A7 c7, cs = [.int .i64 x.f0, .int .i64 x.f1, .int .i64 x.f2, .bool x.f3, .bool x.f4, .bool x.f5, .int .i64 x.f6, .slice A7 x.f7.length c7] ∧ x.f7.length ≤ c7 ∧ (Kd.int .i64).C w A7 x.f7.length x.f7 := by
  obtain ⟨_, _, rfl, rfl, ⟨_, _, rfl, rfl, ⟨_, _, rfl, rfl, ⟨_, _, rfl, rfl, ⟨_, _, rfl, rfl, ⟨_, _, rfl, rfl, ⟨_, _, rfl, rfl, ⟨A7, c7, rfl, l7, g7⟩⟩⟩⟩⟩⟩⟩⟩ := h
  exact ⟨A7, c7, rfl, l7, g7⟩
theorem k36_openM {w : World} {base : Nat} {ok : Nat → Prop} {x : S36} {cs : List Value} (h : k36.M w base ok x cs) : ∃ v7, cs = [.int .i64 x.f0, .int .i64 x.f1, .int .i64 x.f2, .bool x.f3, .bool x.f4, .bool x.f5, .int .i64 x.f6, v7] ∧ (Kd.int .i64).R 3 w base ok v7 x.f7 := by
  obtain ⟨_, _, rfl, rfl, ⟨_, _, rfl, rfl, ⟨_, _, rfl, rfl, ⟨_, _, rfl, rfl, ⟨_, _, rfl, rfl, ⟨_, _, rfl, rfl, ⟨_, _, rfl, rfl, ⟨v7, rfl, g7⟩⟩⟩⟩⟩⟩⟩⟩ := h
  exact ⟨v7, rfl, g7⟩
theorem k36_mk (w : World) (x : S36) {A7 : Option Addr} {c7 : Nat} (l7 : x.f7.length ≤ c7) (g7 : (Kd.int .i64).C w A7 x.f7.length x.f7) : k36.K w x [.int .i64 x.f0, .int .i64 x.f1, .int .i64 x.f2, .bool x.f3, .bool x.f4, .bool x.f5, .int .i64 x.f6, .slice A7 x.f7.length c7] := ⟨[.int .i64 x.f0], [.int .i64 x.f1, .int .i64 x.f2, .bool x.f3, .bool x.f4, .bool x.f5, .int .i64 x.f6, .slice A7 x.f7.length c7], rfl, rfl, ⟨[.int .i64 x.f1], [.int .i64 x.f2, .bool x.f3, .bool x.f4, .bool x.f5, .int .i64 x.f6, .slice A7 x.f7.length c7], rfl, rfl, ⟨[.int .i64 x.f2], [.bool x.f3, .bool x.f4, .bool x.f5, .int .i64 x.f6, .slice A7 x.f7.length c7], rfl, rfl, ⟨[.bool x.f3], [.bool x.f4, .bool x.f5, .int .i64 x.f6, .slice A7 x.f7.length c7], rfl, rfl, ⟨[.bool x.f4], [.bool x.f5, .int .i64 x.f6, .slice A7 x.f7.length c7], rfl, rfl, ⟨[.bool x.f5], [.int .i64 x.f6, .slice A7 x.f7.length c7], rfl, rfl, ⟨[.int .i64 x.f6], [.slice A7 x.f7.length c7], rfl, rfl, ⟨A7, c7, rfl, l7, g7⟩⟩⟩⟩⟩⟩⟩⟩
theorem k36_mkM (w : World) (base : Nat) (ok : Nat → Prop) (x : S36) {v7 : Value} (g7 : (Kd.int .i64).R 3 w base ok v7 x.f7) : k36.M w base ok x [.int .i64 x.f0, .int .i64 x.f1, .int .i64 x.f2, .bool x.f3, .bool x.f4, .bool x.f5, .int .i64 x.f6, v7] := ⟨[.int .i64 x.f0], [.int .i64 x.f1, .int .i64 x.f2, .bool x.f3, .bool x.f4, .bool x.f5, .int .i64 x.f6, v7], rfl, rfl, ⟨[.int .i64 x.f1], [.int .i64 x.f2, .bool x.f3, .bool x.f4, .bool x.f5, .int .i64 x.f6, v7], rfl, rfl, ⟨[.int .i64 x.f2], [.bool x.f3, .bool x.f4, .bool x.f5, .int .i64 x.f6, v7], rfl, rfl, ⟨[.bool x.f3], [.bool x.f4, .bool x.f5, .int .i64 x.f6, v7], rfl, rfl, ⟨[.bool x.f4], [.bool x.f5, .int .i64 x.f6, v7], rfl, rfl, ⟨[.bool x.f5], [.int .i64 x.f6, v7], rfl, rfl, ⟨[.int .i64 x.f6], [v7], rfl, rfl, ⟨v7, rfl, g7⟩⟩⟩⟩⟩⟩⟩⟩
def rd_T36 (xs : List S36) (i : Int) : S36 := xs.getD i.toNat z36
theorem at_T36 {w : World} {A : Option Addr} {n : Nat} {xs : List S36} (h : Kd.C k36 w A n xs) (i : Int) (h0 : 0 ≤ i) (h1 : i < n) : ∃ ad A7 c7, A = some ad ∧ w.cell? (ad.add (i.toNat * 8)) = some (.int .i64 (rd_T36 xs i).f0) ∧ w.cell? ⟨(ad.add (i.toNat * 8)).block, (ad.add (i.toNat * 8)).off + 1, none⟩ = some (.int .i64 (rd_T36 xs i).f1) ∧ w.cell? ⟨(ad.add (i.toNat * 8)).block, (ad.add (i.toNat * 8)).off + 2, none⟩ = some (.int .i64 (rd_T36 xs i).f2) ∧ w.cell? ⟨(ad.add (i.toNat * 8)).block, (ad.add (i.toNat * 8)).off + 3, none⟩ = some (.bool (rd_T36 xs i).f3) ∧ w.cell? ⟨(ad.add (i.toNat * 8)).block, (ad.add (i.toNat * 8)).off + 4, none⟩ = some (.bool (rd_T36 xs i).f4) ∧ w.cell? ⟨(ad.add (i.toNat * 8)).block, (ad.add (i.toNat * 8)).off + 5, none⟩ = some (.bool (rd_T36 xs i).f5) ∧ w.cell? ⟨(ad.add (i.toNat * 8)).block, (ad.add (i.toNat * 8)).off + 6, none⟩ = some (.int .i64 (rd_T36 xs i).f6) ∧ w.cell? ⟨(ad.add (i.toNat * 8)).block, (ad.add (i.toNat * 8)).off + 7, none⟩ = some (.slice A7 (rd_T36 xs i).f7.length c7) ∧ (rd_T36 xs i).f7.length ≤ c7 ∧ (Kd.int .i64).C w A7 (rd_T36 xs i).f7.length (rd_T36 xs i).f7 := by
  obtain ⟨ad, c, e, _, hK, hc0⟩ := Kd.C_get h z36 i h0 h1
  have hc : ∀ j u, c[j]? = some u → w.cell? (ad.add (i.toNat * 8 + j)) = some u := hc0
  obtain ⟨A7, c7, rfl, l7, g7⟩ := k36_open hK
  exact ⟨ad, A7, c7, e, hc 0 _ rfl, by rw [← add_field _ _ 1 (by omega)]; exact hc 1 _ rfl, by rw [← add_field _ _ 2 (by omega)]; exact hc 2 _ rfl, by rw [← add_field _ _ 3 (by omega)]; exact hc 3 _ rfl, by rw [← add_field _ _ 4 (by omega)]; exact hc 4 _ rfl, by rw [← add_field _ _ 5 (by omega)]; exact hc 5 _ rfl, by rw [← add_field _ _ 6 (by omega)]; exact hc 6 _ rfl, by rw [← add_field _ _ 7 (by omega)]; exact hc 7 _ rfl, l7, g7⟩

/-! #### struct type 81 -/
structure S81 where
  f0 : ByteArray
  f1 : ByteArray
  f2 : ByteArray
  f3 : Int
def z81 : S81 := ⟨(⟨#[]⟩ : ByteArray), (⟨#[]⟩ : ByteArray), (⟨#[]⟩ : ByteArray), (0 : Int)⟩
def k81 : Kd S81 := Kd.iso (Kd.pair Kd.string (Kd.pair Kd.string (Kd.pair Kd.string (Kd.int .i64)))) (fun x : S81 => (x.f0, x.f1, x.f2, x.f3))
theorem k81_open {w : World} {x : S81} {cs : List Value} (h : k81.K w x cs) : cs = [.string x.f0, .string x.f1, .string x.f2, .int .i64 x.f3] := by
  obtain ⟨_, _, rfl, rfl, ⟨_, _, rfl, rfl, ⟨_, _, rfl, rfl, rfl⟩⟩⟩ := h
  exact rfl
theorem k81_openM {w : World} {base : Nat} {ok : Nat → Prop} {x : S81} {cs : List Value} (h : k81.M w base ok x cs) : cs = [.string x.f0, .string x.f1, .string x.f2, .int .i64 x.f3] := by
  obtain ⟨_, _, rfl, rfl, ⟨_, _, rfl, rfl, ⟨_, _, rfl, rfl, rfl⟩⟩⟩ := h
  exact rfl
theorem k81_mk (w : World) (x : S81)  : k81.K w x [.string x.f0, .string x.f1, .string x.f2, .int .i64 x.f3] := ⟨[.string x.f0], [.string x.f1, .string x.f2, .int .i64 x.f3], rfl, rfl, ⟨[.string x.f1], [.string x.f2, .int .i64 x.f3], rfl, rfl, ⟨[.string x.f2], [.int .i64 x.f3], rfl, rfl, rfl⟩⟩⟩
theorem k81_mkM (w : World) (base : Nat) (ok : Nat → Prop) (x : S81)  : k81.M w base ok x [.string x.f0, .string x.f1, .string x.f2, .int .i64 x.f3] := ⟨[.string x.f0], [.string x.f1, .string x.f2, .int .i64 x.f3], rfl, rfl, ⟨[.string x.f1], [.string x.f2, .int .i64 x.f3], rfl, rfl, ⟨[.string x.f2], [.int .i64 x.f3], rfl, rfl, rfl⟩⟩⟩
def rd_T81 (xs : List S81) (i : Int) : S81 := xs.getD i.toNat z81
theorem at_T81 {w : World} {A : Option Addr} {n : Nat} {xs : List S81} (h : Kd.C k81 w A n xs) (i : Int) (h0 : 0 ≤ i) (h1 : i < n) : ∃ ad , A = some ad ∧ w.cell? (ad.add (i.toNat * 4)) = some (.string (rd_T81 xs i).f0) ∧ w.cell? ⟨(ad.add (i.toNat * 4)).block, (ad.add (i.toNat * 4)).off + 1, none⟩ = some (.string (rd_T81 xs i).f1) ∧ w.cell? ⟨(ad.add (i.toNat * 4)).block, (ad.add (i.toNat * 4)).off + 2, none⟩ = some (.string (rd_T81 xs i).f2) ∧ w.cell? ⟨(ad.add (i.toNat * 4)).block, (ad.add (i.toNat * 4)).off + 3, none⟩ = some (.int .i64 (rd_T81 xs i).f3) := by
  obtain ⟨ad, c, e, _, hK, hc0⟩ := Kd.C_get h z81 i h0 h1
  have hc : ∀ j u, c[j]? = some u → w.cell? (ad.add (i.toNat * 4 + j)) = some u := hc0
  obtain rfl := k81_open hK
  exact ⟨ad, e, hc 0 _ rfl, by rw [← add_field _ _ 1 (by omega)]; exact hc 1 _ rfl, by rw [← add_field _ _ 2 (by omega)]; exact hc 2 _ rfl, by rw [← add_field _ _ 3 (by omega)]; exact hc 3 _ rfl⟩

/-! #### struct type 79 -/
structure S79 where
  f0 : ByteArray
  f1 : Int
  f2 : ByteArray
  f3 : ByteArray
  f4 : Bool
  f5 : Bool
  f6 : Int
def z79 : S79 := ⟨(⟨#[]⟩ : ByteArray), (0 : Int), (⟨#[]⟩ : ByteArray), (⟨#[]⟩ : ByteArray), false, false, (0 : Int)⟩
def k79 : Kd S79 := Kd.iso (Kd.pair Kd.string (Kd.pair (Kd.int .i64) (Kd.pair Kd.string (Kd.pair Kd.string (Kd.pair Kd.bool (Kd.pair Kd.bool (Kd.int .i64))))))) (fun x : S79 => (x.f0, x.f1, x.f2, x.f3, x.f4, x.f5, x.f6))
theorem k79_open {w : World} {x : S79} {cs : List Value} (h : k79.K w x cs) : cs = [.string x.f0, .int .i64 x.f1, .string x.f2, .string x.f3, .bool x.f4, .bool x.f5, .int .i64 x.f6] := by
  obtain ⟨_, _, rfl, rfl, ⟨_, _, rfl, rfl, ⟨_, _, rfl, rfl, ⟨_, _, rfl, rfl, ⟨_, _, rfl, rfl, ⟨_, _, rfl, rfl, rfl⟩⟩⟩⟩⟩⟩ := h
  exact rfl
theorem k79_openM {w : World} {base : Nat} {ok : Nat → Prop} {x : S79} {cs : List Value} (h : k79.M w base ok x cs) : cs = [.string x.f0, .int .i64 x.f1, .string x.f2, .string x.f3, .bool x.f4, .bool x.f5, .int .i64 x.f6] := by
  obtain ⟨_, _, rfl, rfl, ⟨_, _, rfl, rfl, ⟨_, _, rfl, rfl, ⟨_, _, rfl, rfl, ⟨_, _, rfl, rfl, ⟨_, _, rfl, rfl, rfl⟩⟩⟩⟩⟩⟩ := h
  exact rfl
theorem k79_mk (w : World) (x : S79)  : k79.K w x [.string x.f0, .int .i64 x.f1, .string x.f2, .string x.f3, .bool x.f4, .bool x.f5, .int .i64 x.f6] := ⟨[.string x.f0], [.int .i64 x.f1, .string x.f2, .string x.f3, .bool x.f4, .bool x.f5, .int .i64 x.f6], rfl, rfl, ⟨[.int .i64 x.f1], [.string x.f2, .string x.f3, .bool x.f4, .bool x.f5, .int .i64 x.f6], rfl, rfl, ⟨[.string x.f2], [.string x.f3, .bool x.f4, .bool x.f5, .int .i64 x.f6], rfl, rfl, ⟨[.string x.f3], [.bool x.f4, .bool x.f5, .int .i64 x.f6], rfl, rfl, ⟨[.bool x.f4], [.bool x.f5, .int .i64 x.f6], rfl, rfl, ⟨[.bool x.f5], [.int .i64 x.f6], rfl, rfl, rfl⟩⟩⟩⟩⟩⟩
theorem k79_mkM (w : World) (base : Nat) (ok : Nat → Prop) (x : S79)  : k79.M w base ok x [.string x.f0, .int .i64 x.f1, .string x.f2, .string x.f3, .bool x.f4, .bool x.f5, .int .i64 x.f6] := ⟨[.string x.f0], [.int .i64 x.f1, .string x.f2, .string x.f3, .bool x.f4, .bool x.f5, .int .i64 x.f6], rfl, rfl, ⟨[.int .i64 x.f1], [.string x.f2, .string x.f3, .bool x.f4, .bool x.f5, .int .i64 x.f6], rfl, rfl, ⟨[.string x.f2], [.string x.f3, .bool x.f4, .bool x.f5, .int .i64 x.f6], rfl, rfl, ⟨[.string x.f3], [.bool x.f4, .bool x.f5, .int .i64 x.f6], rfl, rfl, ⟨[.bool x.f4], [.bool x.f5, .int .i64 x.f6], rfl, rfl, ⟨[.bool x.f5], [.int .i64 x.f6], rfl, rfl, rfl⟩⟩⟩⟩⟩⟩
def rd_T79 (xs : List S79) (i : Int) : S79 := xs.getD i.toNat z79
theorem at_T79 {w : World} {A : Option Addr} {n : Nat} {xs : List S79} (h : Kd.C k79 w A n xs) (i : Int) (h0 : 0 ≤ i) (h1 : i < n) : ∃ ad , A = some ad ∧ w.cell? (ad.add (i.toNat * 7)) = some (.string (rd_T79 xs i).f0) ∧ w.cell? ⟨(ad.add (i.toNat * 7)).block, (ad.add (i.toNat * 7)).off + 1, none⟩ = some (.int .i64 (rd_T79 xs i).f1) ∧ w.cell? ⟨(ad.add (i.toNat * 7)).block, (ad.add (i.toNat * 7)).off + 2, none⟩ = some (.string (rd_T79 xs i).f2) ∧ w.cell? ⟨(ad.add (i.toNat * 7)).block, (ad.add (i.toNat * 7)).off + 3, none⟩ = some (.string (rd_T79 xs i).f3) ∧ w.cell? ⟨(ad.add (i.toNat * 7)).block, (ad.add (i.toNat * 7)).off + 4, none⟩ = some (.bool (rd_T79 xs i).f4) ∧ w.cell? ⟨(ad.add (i.toNat * 7)).block, (ad.add (i.toNat * 7)).off + 5, none⟩ = some (.bool (rd_T79 xs i).f5) ∧ w.cell? ⟨(ad.add (i.toNat * 7)).block, (ad.add (i.toNat * 7)).off + 6, none⟩ = some (.int .i64 (rd_T79 xs i).f6) := by
  obtain ⟨ad, c, e, _, hK, hc0⟩ := Kd.C_get h z79 i h0 h1
  have hc : ∀ j u, c[j]? = some u → w.cell? (ad.add (i.toNat * 7 + j)) = some u := hc0
  obtain rfl := k79_open hK
  exact ⟨ad, e, hc 0 _ rfl, by rw [← add_field _ _ 1 (by omega)]; exact hc 1 _ rfl, by rw [← add_field _ _ 2 (by omega)]; exact hc 2 _ rfl, by rw [← add_field _ _ 3 (by omega)]; exact hc 3 _ rfl, by rw [← add_field _ _ 4 (by omega)]; exact hc 4 _ rfl, by rw [← add_field _ _ 5 (by omega)]; exact hc 5 _ rfl, by rw [← add_field _ _ 6 (by omega)]; exact hc 6 _ rfl⟩

def rd_L7 (xs : List (List ByteArray)) (i : Int) : (List ByteArray) := xs.getD i.toNat ([] : List ByteArray)
theorem at_L7 {w : World} {A : Option Addr} {n : Nat} {xs : List (List ByteArray)} (h : Kd.C (Kd.slice 9 Kd.string) w A n xs) (i : Int) (h0 : 0 ≤ i) (h1 : i < n) : ∃ ad A0 c0, A = some ad ∧ w.cell? (ad.add i.toNat) = some (.slice A0 (rd_L7 xs i).length c0) ∧ (rd_L7 xs i).length ≤ c0 ∧ Kd.string.C w A0 (rd_L7 xs i).length (rd_L7 xs i) := by
  obtain ⟨ad, c, e, _, hK, hc0⟩ := Kd.C_get h ([] : List ByteArray) i h0 h1
  have hc : ∀ j u, c[j]? = some u → w.cell? (ad.add (i.toNat * 1 + j)) = some u := hc0
  obtain ⟨A0, c0, rfl, l0, g0⟩ := hK
  exact ⟨ad, A0, c0, e, by have hq := hc 0 _ rfl; rwa [Nat.mul_one, Nat.add_zero] at hq, l0, g0⟩

/-! #### struct type 77 -/
structure S77 where
  f0 : ByteArray
  f1 : Int
  f2 : ByteArray
  f3 : ByteArray
  f4 : Bool
  f5 : Bool
  f6 : (List Int)
  f7 : (List Int)
  f8 : (List ByteArray)
  f9 : Bool
  f10 : (List Int)
  f11 : (List Int)
  f12 : Bool
  f13 : Bool
  f14 : Int
  f15 : Bool
  f16 : Bool
  f17 : (List Int)
  f18 : (List ByteArray)
  f19 : (List ByteArray)
  f20 : ByteArray
def z77 : S77 := ⟨(⟨#[]⟩ : ByteArray), (0 : Int), (⟨#[]⟩ : ByteArray), (⟨#[]⟩ : ByteArray), false, false, ([] : List Int), ([] : List Int), ([] : List ByteArray), false, ([] : List Int), ([] : List Int), false, false, (0 : Int), false, false, ([] : List Int), ([] : List ByteArray), ([] : List ByteArray), (⟨#[]⟩ : ByteArray)⟩
def k77 : Kd S77 := Kd.iso (Kd.pair Kd.string (Kd.pair (Kd.int .i64) (Kd.pair Kd.string (Kd.pair Kd.string (Kd.pair Kd.bool (Kd.pair Kd.bool (Kd.pair (Kd.slice 3 (Kd.int .i64)) (Kd.pair (Kd.slice 3 (Kd.int .i64)) (Kd.pair (Kd.slice 9 Kd.string) (Kd.pair Kd.bool (Kd.pair (Kd.slice 3 (Kd.int .i64)) (Kd.pair (Kd.slice 3 (Kd.int .i64)) (Kd.pair Kd.bool (Kd.pair Kd.bool (Kd.pair (Kd.int .i64) (Kd.pair Kd.bool (Kd.pair Kd.bool (Kd.pair (Kd.slice 3 (Kd.int .i64)) (Kd.pair (Kd.slice 9 Kd.string) (Kd.pair (Kd.slice 9 Kd.string) Kd.string)))))))))))))))))))) (fun x : S77 => (x.f0, x.f1, x.f2, x.f3, x.f4, x.f5, x.f6, x.f7, x.f8, x.f9, x.f10, x.f11, x.f12, x.f13, x.f14, x.f15, x.f16, x.f17, x.f18, x.f19, x.f20))
theorem k77_open {w : World} {x : S77} {cs : List Value} (h : k77.K w x cs) : ∃ A6 c6 A7 c7 A8 c8 A10 c10 A11 c11 A17 c17 A18 c18 A19 c19, cs = [.string x.f0, .int .i64 x.f1, .string x.f2, .string x.f3, .bool x.f4, .bool x.f5, .slice A6 x.f6.length c6, .slice A7 x.f7.length c7, .slice A8 x.f8.length c8, .bool x.f9, .slice A10 x.f10.length c10, .slice A11 x.f11.length c11, .bool x.f12, .bool x.f13, .int .i64 x.f14, .bool x.f15, .bool x.f16, .slice A17 x.f17.length c17, .slice A18 x.f18.length c18, .slice A19 x.f19.length c19, .string x.f20] ∧ x.f6.length ≤ c6 ∧ (Kd.int .i64).C w A6 x.f6.length x.f6 ∧ x.f7.length ≤ c7 ∧ (Kd.int .i64).C w A7 x.f7.length x.f7 ∧ x.f8.length ≤ c8 ∧ Kd.string.C w A8 x.f8.length x.f8 ∧ x.f10.length ≤ c10 ∧ (Kd.int .i64).C w A10 x.f10.length x.f10 ∧ x.f11.length ≤ c11 ∧ (Kd.int .i64).C w A11 x.f11.length x.f11 ∧ x.f17.length ≤ c17 ∧ (Kd.int .i64).C w A17 x.f17.length x.f17 ∧ x.f18.length ≤ c18 ∧ Kd.string.C w A18 x.f18.length x.f18 ∧ x.f19.length ≤ c19 ∧ Kd.string.C w A19 x.f19.length x.f19 := by
  obtain ⟨_, _, rfl, rfl, ⟨_, _, rfl, rfl, ⟨_, _, rfl, rfl, ⟨_, _, rfl, rfl, ⟨_, _, rfl, rfl, ⟨_, _, rfl, rfl, ⟨_, _, rfl, ⟨A6, c6, rfl, l6, g6⟩, ⟨_, _, rfl, ⟨A7, c7, rfl, l7, g7⟩, ⟨_, _, rfl, ⟨A8, c8, rfl, l8, g8⟩, ⟨_, _, rfl, rfl, ⟨_, _, rfl, ⟨A10, c10, rfl, l10, g10⟩, ⟨_, _, rfl, ⟨A11, c11, rfl, l11, g11⟩, ⟨_, _, rfl, rfl, ⟨_, _, rfl, rfl, ⟨_, _, rfl, rfl, ⟨_, _, rfl, rfl, ⟨_, _, rfl, rfl, ⟨_, _, rfl, ⟨A17, c17, rfl, l17, g17⟩, ⟨_, _, rfl, ⟨A18, c18, rfl, l18, g18⟩, ⟨_, _, rfl, ⟨A19, c19, rfl, l19, g19⟩, rfl⟩⟩⟩⟩⟩⟩⟩⟩⟩⟩⟩⟩⟩⟩⟩⟩⟩⟩⟩⟩ := h
  exact ⟨A6, c6, A7, c7, A8, c8, A10, c10, A11, c11, A17, c17, A18, c18, A19, c19, rfl, l6, g6, l7, g7, l8, g8, l10, g10, l11, g11, l17, g17, l18, g18, l19, g19⟩
theorem k77_openM {w : World} {base : Nat} {ok : Nat → Prop} {x : S77} {cs : List Value} (h : k77.M w base ok x cs) : ∃ v6 v7 v8 v10 v11 v17 v18 v19, cs = [.string x.f0, .int .i64 x.f1, .string x.f2, .string x.f3, .bool x.f4, .bool x.f5, v6, v7, v8, .bool x.f9, v10, v11, .bool x.f12, .bool x.f13, .int .i64 x.f14, .bool x.f15, .bool x.f16, v17, v18, v19, .string x.f20] ∧ (Kd.int .i64).R 3 w base ok v6 x.f6 ∧ (Kd.int .i64).R 3 w base ok v7 x.f7 ∧ Kd.string.R 9 w base ok v8 x.f8 ∧ (Kd.int .i64).R 3 w base ok v10 x.f10 ∧ (Kd.int .i64).R 3 w base ok v11 x.f11 ∧ (Kd.int .i64).R 3 w base ok v17 x.f17 ∧ Kd.string.R 9 w base ok v18 x.f18 ∧ Kd.string.R 9 w base ok v19 x.f19 := by
  obtain ⟨_, _, rfl, rfl, ⟨_, _, rfl, rfl, ⟨_, _, rfl, rfl, ⟨_, _, rfl, rfl, ⟨_, _, rfl, rfl, ⟨_, _, rfl, rfl, ⟨_, _, rfl, ⟨v6, rfl, g6⟩, ⟨_, _, rfl, ⟨v7, rfl, g7⟩, ⟨_, _, rfl, ⟨v8, rfl, g8⟩, ⟨_, _, rfl, rfl, ⟨_, _, rfl, ⟨v10, rfl, g10⟩, ⟨_, _, rfl, ⟨v11, rfl, g11⟩, ⟨_, _, rfl, rfl, ⟨_, _, rfl, rfl, ⟨_, _, rfl, rfl, ⟨_, _, rfl, rfl, ⟨_, _, rfl, rfl, ⟨_, _, rfl, ⟨v17, rfl, g17⟩, ⟨_, _, rfl, ⟨v18, rfl, g18⟩, ⟨_, _, rfl, ⟨v19, rfl, g19⟩, rfl⟩⟩⟩⟩⟩⟩⟩⟩⟩⟩⟩⟩⟩⟩⟩⟩⟩⟩⟩⟩ := h
  exact ⟨v6, v7, v8, v10, v11, v17, v18, v19, rfl, g6, g7, g8, g10, g11, g17, g18, g19⟩
theorem k77_mk (w : World) (x : S77) {A6 : Option Addr} {c6 : Nat} (l6 : x.f6.length ≤ c6) (g6 : (Kd.int .i64).C w A6 x.f6.length x.f6) {A7 : Option Addr} {c7 : Nat} (l7 : x.f7.length ≤ c7) (g7 : (Kd.int .i64).C w A7 x.f7.length x.f7) {A8 : Option Addr} {c8 : Nat} (l8 : x.f8.length ≤ c8) (g8 : Kd.string.C w A8 x.f8.length x.f8) {A10 : Option Addr} {c10 : Nat} (l10 : x.f10.length ≤ c10) (g10 : (Kd.int .i64).C w A10 x.f10.length x.f10) {A11 : Option Addr} {c11 : Nat} (l11 : x.f11.length ≤ c11) (g11 : (Kd.int .i64).C w A11 x.f11.length x.f11) {A17 : Option Addr} {c17 : Nat} (l17 : x.f17.length ≤ c17) (g17 : (Kd.int .i64).C w A17 x.f17.length x.f17) {A18 : Option Addr} {c18 : Nat} (l18 : x.f18.length ≤ c18) (g18 : Kd.string.C w A18 x.f18.length x.f18) {A19 : Option Addr} {c19 : Nat} (l19 : x.f19.length ≤ c19) (g19 : Kd.string.C w A19 x.f19.length x.f19) : k77.K w x [.string x.f0, .int .i64 x.f1, .string x.f2, .string x.f3, .bool x.f4, .bool x.f5, .slice A6 x.f6.length c6, .slice A7 x.f7.length c7, .slice A8 x.f8.length c8, .bool x.f9, .slice A10 x.f10.length c10, .slice A11 x.f11.length c11, .bool x.f12, .bool x.f13, .int .i64 x.f14, .bool x.f15, .bool x.f16, .slice A17 x.f17.length c17, .slice A18 x.f18.length c18, .slice A19 x.f19.length c19, .string x.f20] := ⟨[.string x.f0], [.int .i64 x.f1, .string x.f2, .string x.f3, .bool x.f4, .bool x.f5, .slice A6 x.f6.length c6, .slice A7 x.f7.length c7, .slice A8 x.f8.length c8, .bool x.f9, .slice A10 x.f10.length c10, .slice A11 x.f11.length c11, .bool x.f12, .bool x.f13, .int .i64 x.f14, .bool x.f15, .bool x.f16, .slice A17 x.f17.length c17, .slice A18 x.f18.length c18, .slice A19 x.f19.length c19, .string x.f20], rfl, rfl, ⟨[.int .i64 x.f1], [.string x.f2, .string x.f3, .bool x.f4, .bool x.f5, .slice A6 x.f6.length c6, .slice A7 x.f7.length c7, .slice A8 x.f8.length c8, .bool x.f9, .slice A10 x.f10.length c10, .slice A11 x.f11.length c11, .bool x.f12, .bool x.f13, .int .i64 x.f14, .bool x.f15, .bool x.f16, .slice A17 x.f17.length c17, .slice A18 x.f18.length c18, .slice A19 x.f19.length c19, .string x.f20], rfl, rfl, ⟨[.string x.f2], [.string x.f3, .bool x.f4, .bool x.f5, .slice A6 x.f6.length c6, .slice A7 x.f7.length c7, .slice A8 x.f8.length c8, .bool x.f9, .slice A10 x.f10.length c10, .slice A11 x.f11.length c11, .bool x.f12, .bool x.f13, .int .i64 x.f14, .bool x.f15, .bool x.f16, .slice A17 x.f17.length c17, .slice A18 x.f18.length c18, .slice A19 x.f19.length c19, .string x.f20], rfl, rfl, ⟨[.string x.f3], [.bool x.f4, .bool x.f5, .slice A6 x.f6.length c6, .slice A7 x.f7.length c7, .slice A8 x.f8.length c8, .bool x.f9, .slice A10 x.f10.length c10, .slice A11 x.f11.length c11, .bool x.f12, .bool x.f13, .int .i64 x.f14, .bool x.f15, .bool x.f16, .slice A17 x.f17.length c17, .slice A18 x.f18.length c18, .slice A19 x.f19.length c19, .string x.f20], rfl, rfl, ⟨[.bool x.f4], [.bool x.f5, .slice A6 x.f6.length c6, .slice A7 x.f7.length c7, .slice A8 x.f8.length c8, .bool x.f9, .slice A10 x.f10.length c10, .slice A11 x.f11.length c11, .bool x.f12, .bool x.f13, .int .i64 x.f14, .bool x.f15, .bool x.f16, .slice A17 x.f17.length c17, .slice A18 x.f18.length c18, .slice A19 x.f19.length c19, .string x.f20], rfl, rfl, ⟨[.bool x.f5], [.slice A6 x.f6.length c6, .slice A7 x.f7.length c7, .slice A8 x.f8.length c8, .bool x.f9, .slice A10 x.f10.length c10, .slice A11 x.f11.length c11, .bool x.f12, .bool x.f13, .int .i64 x.f14, .bool x.f15, .bool x.f16, .slice A17 x.f17.length c17, .slice A18 x.f18.length c18, .slice A19 x.f19.length c19, .string x.f20], rfl, rfl, ⟨[.slice A6 x.f6.length c6], [.slice A7 x.f7.length c7, .slice A8 x.f8.length c8, .bool x.f9, .slice A10 x.f10.length c10, .slice A11 x.f11.length c11, .bool x.f12, .bool x.f13, .int .i64 x.f14, .bool x.f15, .bool x.f16, .slice A17 x.f17.length c17, .slice A18 x.f18.length c18, .slice A19 x.f19.length c19, .string x.f20], rfl, ⟨A6, c6, rfl, l6, g6⟩, ⟨[.slice A7 x.f7.length c7], [.slice A8 x.f8.length c8, .bool x.f9, .slice A10 x.f10.length c10, .slice A11 x.f11.length c11, .bool x.f12, .bool x.f13, .int .i64 x.f14, .bool x.f15, .bool x.f16, .slice A17 x.f17.length c17, .slice A18 x.f18.length c18, .slice A19 x.f19.length c19, .string x.f20], rfl, ⟨A7, c7, rfl, l7, g7⟩, ⟨[.slice A8 x.f8.length c8], [.bool x.f9, .slice A10 x.f10.length c10, .slice A11 x.f11.length c11, .bool x.f12, .bool x.f13, .int .i64 x.f14, .bool x.f15, .bool x.f16, .slice A17 x.f17.length c17, .slice A18 x.f18.length c18, .slice A19 x.f19.length c19, .string x.f20], rfl, ⟨A8, c8, rfl, l8, g8⟩, ⟨[.bool x.f9], [.slice A10 x.f10.length c10, .slice A11 x.f11.length c11, .bool x.f12, .bool x.f13, .int .i64 x.f14, .bool x.f15, .bool x.f16, .slice A17 x.f17.length c17, .slice A18 x.f18.length c18, .slice A19 x.f19.length c19, .string x.f20], rfl, rfl, ⟨[.slice A10 x.f10.length c10], [.slice A11 x.f11.length c11, .bool x.f12, .bool x.f13, .int .i64 x.f14, .bool x.f15, .bool x.f16, .slice A17 x.f17.length c17, .slice A18 x.f18.length c18, .slice A19 x.f19.length c19, .string x.f20], rfl, ⟨A10, c10, rfl, l10, g10⟩, ⟨[.slice A11 x.f11.length c11], [.bool x.f12, .bool x.f13, .int .i64 x.f14, .bool x.f15, .bool x.f16, .slice A17 x.f17.length c17, .slice A18 x.f18.length c18, .slice A19 x.f19.length c19, .string x.f20], rfl, ⟨A11, c11, rfl, l11, g11⟩, ⟨[.bool x.f12], [.bool x.f13, .int .i64 x.f14, .bool x.f15, .bool x.f16, .slice A17 x.f17.length c17, .slice A18 x.f18.length c18, .slice A19 x.f19.length c19, .string x.f20], rfl, rfl, ⟨[.bool x.f13], [.int .i64 x.f14, .bool x.f15, .bool x.f16, .slice A17 x.f17.length c17, .slice A18 x.f18.length c18, .slice A19 x.f19.length c19, .string x.f20], rfl, rfl, ⟨[.int .i64 x.f14], [.bool x.f15, .bool x.f16, .slice A17 x.f17.length c17, .slice A18 x.f18.length c18, .slice A19 x.f19.length c19, .string x.f20], rfl, rfl, ⟨[.bool x.f15], [.bool x.f16, .slice A17 x.f17.length c17, .slice A18 x.f18.length c18, .slice A19 x.f19.length c19, .string x.f20], rfl, rfl, ⟨[.bool x.f16], [.slice A17 x.f17.length c17, .slice A18 x.f18.length c18, .slice A19 x.f19.length c19, .string x.f20], rfl, rfl, ⟨[.slice A17 x.f17.length c17], [.slice A18 x.f18.length c18, .slice A19 x.f19.length c19, .string x.f20], rfl, ⟨A17, c17, rfl, l17, g17⟩, ⟨[.slice A18 x.f18.length c18], [.slice A19 x.f19.length c19, .string x.f20], rfl, ⟨A18, c18, rfl, l18, g18⟩, ⟨[.slice A19 x.f19.length c19], [.string x.f20], rfl, ⟨A19, c19, rfl, l19, g19⟩, rfl⟩⟩⟩⟩⟩⟩⟩⟩⟩⟩⟩⟩⟩⟩⟩⟩⟩⟩⟩⟩
theorem k77_mkM (w : World) (base : Nat) (ok : Nat → Prop) (x : S77) {v6 : Value} (g6 : (Kd.int .i64).R 3 w base ok v6 x.f6) {v7 : Value} (g7 : (Kd.int .i64).R 3 w base ok v7 x.f7) {v8 : Value} (g8 : Kd.string.R 9 w base ok v8 x.f8) {v10 : Value} (g10 : (Kd.int .i64).R 3 w base ok v10 x.f10) {v11 : Value} (g11 : (Kd.int .i64).R 3 w base ok v11 x.f11) {v17 : Value} (g17 : (Kd.int .i64).R 3 w base ok v17 x.f17) {v18 : Value} (g18 : Kd.string.R 9 w base ok v18 x.f18) {v19 : Value} (g19 : Kd.string.R 9 w base ok v19 x.f19) : k77.M w base ok x [.string x.f0, .int .i64 x.f1, .string x.f2, .string x.f3, .bool x.f4, .bool x.f5, v6, v7, v8, .bool x.f9, v10, v11, .bool x.f12, .bool x.f13, .int .i64 x.f14, .bool x.f15, .bool x.f16, v17, v18, v19, .string x.f20] := ⟨[.string x.f0], [.int .i64 x.f1, .string x.f2, .string x.f3, .bool x.f4, .bool x.f5, v6, v7, v8, .bool x.f9, v10, v11, .bool x.f12, .bool x.f13, .int .i64 x.f14, .bool x.f15, .bool x.f16, v17, v18, v19, .string x.f20], rfl, rfl, ⟨[.int .i64 x.f1], [.string x.f2, .string x.f3, .bool x.f4, .bool x.f5, v6, v7, v8, .bool x.f9, v10, v11, .bool x.f12, .bool x.f13, .int .i64 x.f14, .bool x.f15, .bool x.f16, v17, v18, v19, .string x.f20], rfl, rfl, ⟨[.string x.f2], [.string x.f3, .bool x.f4, .bool x.f5, v6, v7, v8, .bool x.f9, v10, v11, .bool x.f12, .bool x.f13, .int .i64 x.f14, .bool x.f15, .bool x.f16, v17, v18, v19, .string x.f20], rfl, rfl, ⟨[.string x.f3], [.bool x.f4, .bool x.f5, v6, v7, v8, .bool x.f9, v10, v11, .bool x.f12, .bool x.f13, .int .i64 x.f14, .bool x.f15, .bool x.f16, v17, v18, v19, .string x.f20], rfl, rfl, ⟨[.bool x.f4], [.bool x.f5, v6, v7, v8, .bool x.f9, v10, v11, .bool x.f12, .bool x.f13, .int .i64 x.f14, .bool x.f15, .bool x.f16, v17, v18, v19, .string x.f20], rfl, rfl, ⟨[.bool x.f5], [v6, v7, v8, .bool x.f9, v10, v11, .bool x.f12, .bool x.f13, .int .i64 x.f14, .bool x.f15, .bool x.f16, v17, v18, v19, .string x.f20], rfl, rfl, ⟨[v6], [v7, v8, .bool x.f9, v10, v11, .bool x.f12, .bool x.f13, .int .i64 x.f14, .bool x.f15, .bool x.f16, v17, v18, v19, .string x.f20], rfl, ⟨v6, rfl, g6⟩, ⟨[v7], [v8, .bool x.f9, v10, v11, .bool x.f12, .bool x.f13, .int .i64 x.f14, .bool x.f15, .bool x.f16, v17, v18, v19, .string x.f20], rfl, ⟨v7, rfl, g7⟩, ⟨[v8], [.bool x.f9, v10, v11, .bool x.f12, .bool x.f13, .int .i64 x.f14, .bool x.f15, .bool x.f16, v17, v18, v19, .string x.f20], rfl, ⟨v8, rfl, g8⟩, ⟨[.bool x.f9], [v10, v11, .bool x.f12, .bool x.f13, .int .i64 x.f14, .bool x.f15, .bool x.f16, v17, v18, v19, .string x.f20], rfl, rfl, ⟨[v10], [v11, .bool x.f12, .bool x.f13, .int .i64 x.f14, .bool x.f15, .bool x.f16, v17, v18, v19, .string x.f20], rfl, ⟨v10, rfl, g10⟩, ⟨[v11], [.bool x.f12, .bool x.f13, .int .i64 x.f14, .bool x.f15, .bool x.f16, v17, v18, v19, .string x.f20], rfl, ⟨v11, rfl, g11⟩, ⟨[.bool x.f12], [.bool x.f13, .int .i64 x.f14, .bool x.f15, .bool x.f16, v17, v18, v19, .string x.f20], rfl, rfl, ⟨[.bool x.f13], [.int .i64 x.f14, .bool x.f15, .bool x.f16, v17, v18, v19, .string x.f20], rfl, rfl, ⟨[.int .i64 x.f14], [.bool x.f15, .bool x.f16, v17, v18, v19, .string x.f20], rfl, rfl, ⟨[.bool x.f15], [.bool x.f16, v17, v18, v19, .string x.f20], rfl, rfl, ⟨[.bool x.f16], [v17, v18, v19, .string x.f20], rfl, rfl, ⟨[v17], [v18, v19, .string x.f20], rfl, ⟨v17, rfl, g17⟩, ⟨[v18], [v19, .string x.f20], rfl, ⟨v18, rfl, g18⟩, ⟨[v19], [.string x.f20], rfl, ⟨v19, rfl, g19⟩, rfl⟩⟩⟩⟩⟩⟩⟩⟩⟩⟩⟩⟩⟩⟩⟩⟩⟩⟩⟩⟩
def rd_T77 (xs : List S77) (i : Int) : S77 := xs.getD i.toNat z77
theorem at_T77 {w : World} {A : Option Addr} {n : Nat} {xs : List S77} (h : Kd.C k77 w A n xs) (i : Int) (h0 : 0 ≤ i) (h1 : i < n) : ∃ ad A6 c6 A7 c7 A8 c8 A10 c10 A11 c11 A17 c17 A18 c18 A19 c19, A = some ad ∧ w.cell? (ad.add (i.toNat * 21)) = some (.string (rd_T77 xs i).f0) ∧ w.cell? ⟨(ad.add (i.toNat * 21)).block, (ad.add (i.toNat * 21)).off + 1, none⟩ = some (.int .i64 (rd_T77 xs i).f1) ∧ w.cell? ⟨(ad.add (i.toNat * 21)).block, (ad.add (i.toNat * 21)).off + 2, none⟩ = some (.string (rd_T77 xs i).f2) ∧ w.cell? ⟨(ad.add (i.toNat * 21)).block, (ad.add (i.toNat * 21)).off + 3, none⟩ = some (.string (rd_T77 xs i).f3) ∧ w.cell? ⟨(ad.add (i.toNat * 21)).block, (ad.add (i.toNat * 21)).off + 4, none⟩ = some (.bool (rd_T77 xs i).f4) ∧ w.cell? ⟨(ad.add (i.toNat * 21)).block, (ad.add (i.toNat * 21)).off + 5, none⟩ = some (.bool (rd_T77 xs i).f5) ∧ w.cell? ⟨(ad.add (i.toNat * 21)).block, (ad.add (i.toNat * 21)).off + 6, none⟩ = some (.slice A6 (rd_T77 xs i).f6.length c6) ∧ w.cell? ⟨(ad.add (i.toNat * 21)).block, (ad.add (i.toNat * 21)).off + 7, none⟩ = some (.slice A7 (rd_T77 xs i).f7.length c7) ∧ w.cell? ⟨(ad.add (i.toNat * 21)).block, (ad.add (i.toNat * 21)).off + 8, none⟩ = some (.slice A8 (rd_T77 xs i).f8.length c8) ∧ w.cell? ⟨(ad.add (i.toNat * 21)).block, (ad.add (i.toNat * 21)).off + 9, none⟩ = some (.bool (rd_T77 xs i).f9) ∧ w.cell? ⟨(ad.add (i.toNat * 21)).block, (ad.add (i.toNat * 21)).off + 10, none⟩ = some (.slice A10 (rd_T77 xs i).f10.length c10) ∧ w.cell? ⟨(ad.add (i.toNat * 21)).block, (ad.add (i.toNat * 21)).off + 11, none⟩ = some (.slice A11 (rd_T77 xs i).f11.length c11) ∧ w.cell? ⟨(ad.add (i.toNat * 21)).block, (ad.add (i.toNat * 21)).off + 12, none⟩ = some (.bool (rd_T77 xs i).f12) ∧ w.cell? ⟨(ad.add (i.toNat * 21)).block, (ad.add (i.toNat * 21)).off + 13, none⟩ = some (.bool (rd_T77 xs i).f13) ∧ w.cell? ⟨(ad.add (i.toNat * 21)).block, (ad.add (i.toNat * 21)).off + 14, none⟩ = some (.int .i64 (rd_T77 xs i).f14) ∧ w.cell? ⟨(ad.add (i.toNat * 21)).block, (ad.add (i.toNat * 21)).off + 15, none⟩ = some (.bool (rd_T77 xs i).f15) ∧ w.cell? ⟨(ad.add (i.toNat * 21)).block, (ad.add (i.toNat * 21)).off + 16, none⟩ = some (.bool (rd_T77 xs i).f16) ∧ w.cell? ⟨(ad.add (i.toNat * 21)).block, (ad.add (i.toNat * 21)).off + 17, none⟩ = some (.slice A17 (rd_T77 xs i).f17.length c17) ∧ w.cell? ⟨(ad.add (i.toNat * 21)).block, (ad.add (i.toNat * 21)).off + 18, none⟩ = some (.slice A18 (rd_T77 xs i).f18.length c18) ∧ w.cell? ⟨(ad.add (i.toNat * 21)).block, (ad.add (i.toNat * 21)).off + 19, none⟩ = some (.slice A19 (rd_T77 xs i).f19.length c19) ∧ w.cell? ⟨(ad.add (i.toNat * 21)).block, (ad.add (i.toNat * 21)).off + 20, none⟩ = some (.string (rd_T77 xs i).f20) ∧ (rd_T77 xs i).f6.length ≤ c6 ∧ (Kd.int .i64).C w A6 (rd_T77 xs i).f6.length (rd_T77 xs i).f6 ∧ (rd_T77 xs i).f7.length ≤ c7 ∧ (Kd.int .i64).C w A7 (rd_T77 xs i).f7.length (rd_T77 xs i).f7 ∧ (rd_T77 xs i).f8.length ≤ c8 ∧ Kd.string.C w A8 (rd_T77 xs i).f8.length (rd_T77 xs i).f8 ∧ (rd_T77 xs i).f10.length ≤ c10 ∧ (Kd.int .i64).C w A10 (rd_T77 xs i).f10.length (rd_T77 xs i).f10 ∧ (rd_T77 xs i).f11.length ≤ c11 ∧ (Kd.int .i64).C w A11 (rd_T77 xs i).f11.length (rd_T77 xs i).f11 ∧ (rd_T77 xs i).f17.length ≤ c17 ∧ (Kd.int .i64).C w A17 (rd_T77 xs i).f17.length (rd_T77 xs i).f17 ∧ (rd_T77 xs i).f18.length ≤ c18 ∧ Kd.string.C w A18 (rd_T77 xs i).f18.length (rd_T77 xs i).f18 ∧ (rd_T77 xs i).f19.length ≤ c19 ∧ Kd.string.C w A19 (rd_T77 xs i).f19.length (rd_T77 xs i).f19 := by
  obtain ⟨ad, c, e, _, hK, hc0⟩ := Kd.C_get h z77 i h0 h1
  have hc : ∀ j u, c[j]? = some u → w.cell? (ad.add (i.toNat * 21 + j)) = some u := hc0
  obtain ⟨A6, c6, A7, c7, A8, c8, A10, c10, A11, c11, A17, c17, A18, c18, A19, c19, rfl, l6, g6, l7, g7, l8, g8, l10, g10, l11, g11, l17, g17, l18, g18, l19, g19⟩ := k77_open hK
  exact ⟨ad, A6, c6, A7, c7, A8, c8, A10, c10, A11, c11, A17, c17, A18, c18, A19, c19, e, hc 0 _ rfl, by rw [← add_field _ _ 1 (by omega)]; exact hc 1 _ rfl, by rw [← add_field _ _ 2 (by omega)]; exact hc 2 _ rfl, by rw [← add_field _ _ 3 (by omega)]; exact hc 3 _ rfl, by rw [← add_field _ _ 4 (by omega)]; exact hc 4 _ rfl, by rw [← add_field _ _ 5 (by omega)]; exact hc 5 _ rfl, by rw [← add_field _ _ 6 (by omega)]; exact hc 6 _ rfl, by rw [← add_field _ _ 7 (by omega)]; exact hc 7 _ rfl, by rw [← add_field _ _ 8 (by omega)]; exact hc 8 _ rfl, by rw [← add_field _ _ 9 (by omega)]; exact hc 9 _ rfl, by rw [← add_field _ _ 10 (by omega)]; exact hc 10 _ rfl, by rw [← add_field _ _ 11 (by omega)]; exact hc 11 _ rfl, by rw [← add_field _ _ 12 (by omega)]; exact hc 12 _ rfl, by rw [← add_field _ _ 13 (by omega)]; exact hc 13 _ rfl, by rw [← add_field _ _ 14 (by omega)]; exact hc 14 _ rfl, by rw [← add_field _ _ 15 (by omega)]; exact hc 15 _ rfl, by rw [← add_field _ _ 16 (by omega)]; exact hc 16 _ rfl, by rw [← add_field _ _ 17 (by omega)]; exact hc 17 _ rfl, by rw [← add_field _ _ 18 (by omega)]; exact hc 18 _ rfl, by rw [← add_field _ _ 19 (by omega)]; exact hc 19 _ rfl, by rw [← add_field _ _ 20 (by omega)]; exact hc 20 _ rfl, l6, g6, l7, g7, l8, g8, l10, g10, l11, g11, l17, g17, l18, g18, l19, g19⟩

/-! #### struct type 32 -/
structure S32 where
  f0 : Int
  f1 : Int
def z32 : S32 := ⟨(0 : Int), (0 : Int)⟩
def k32 : Kd S32 := Kd.iso (Kd.pair (Kd.int .i64) (Kd.int .i64)) (fun x : S32 => (x.f0, x.f1))
theorem k32_open {w : World} {x : S32} {cs : List Value} (h : k32.K w x cs) : cs = [.int .i64 x.f0, .int .i64 x.f1] := by
  obtain ⟨_, _, rfl, rfl, rfl⟩ := h
  exact rfl
theorem k32_openM {w : World} {base : Nat} {ok : Nat → Prop} {x : S32} {cs : List Value} (h : k32.M w base ok x cs) : cs = [.int .i64 x.f0, .int .i64 x.f1] := by
  obtain ⟨_, _, rfl, rfl, rfl⟩ := h
  exact rfl
theorem k32_mk (w : World) (x : S32)  : k32.K w x [.int .i64 x.f0, .int .i64 x.f1] := ⟨[.int .i64 x.f0], [.int .i64 x.f1], rfl, rfl, rfl⟩
theorem k32_mkM (w : World) (base : Nat) (ok : Nat → Prop) (x : S32)  : k32.M w base ok x [.int .i64 x.f0, .int .i64 x.f1] := ⟨[.int .i64 x.f0], [.int .i64 x.f1], rfl, rfl, rfl⟩
def rd_T32 (xs : List S32) (i : Int) : S32 := xs.getD i.toNat z32
theorem at_T32 {w : World} {A : Option Addr} {n : Nat} {xs : List S32} (h : Kd.C k32 w A n xs) (i : Int) (h0 : 0 ≤ i) (h1 : i < n) : ∃ ad , A = some ad ∧ w.cell? (ad.add (i.toNat * 2)) = some (.int .i64 (rd_T32 xs i).f0) ∧ w.cell? ⟨(ad.add (i.toNat * 2)).block, (ad.add (i.toNat * 2)).off + 1, none⟩ = some (.int .i64 (rd_T32 xs i).f1) := by
  obtain ⟨ad, c, e, _, hK, hc0⟩ := Kd.C_get h z32 i h0 h1
  have hc : ∀ j u, c[j]? = some u → w.cell? (ad.add (i.toNat * 2 + j)) = some u := hc0
  obtain rfl := k32_open hK
  exact ⟨ad, e, hc 0 _ rfl, by rw [← add_field _ _ 1 (by omega)]; exact hc 1 _ rfl⟩

def rd_L10 (xs : List (List S32)) (i : Int) : (List S32) := xs.getD i.toNat ([] : List S32)
theorem at_L10 {w : World} {A : Option Addr} {n : Nat} {xs : List (List S32)} (h : Kd.C (Kd.slice 32 k32) w A n xs) (i : Int) (h0 : 0 ≤ i) (h1 : i < n) : ∃ ad A0 c0, A = some ad ∧ w.cell? (ad.add i.toNat) = some (.slice A0 (rd_L10 xs i).length c0) ∧ (rd_L10 xs i).length ≤ c0 ∧ k32.C w A0 (rd_L10 xs i).length (rd_L10 xs i) := by
  obtain ⟨ad, c, e, _, hK, hc0⟩ := Kd.C_get h ([] : List S32) i h0 h1
  have hc : ∀ j u, c[j]? = some u → w.cell? (ad.add (i.toNat * 1 + j)) = some u := hc0
  obtain ⟨A0, c0, rfl, l0, g0⟩ := hK
  exact ⟨ad, A0, c0, e, by have hq := hc 0 _ rfl; rwa [Nat.mul_one, Nat.add_zero] at hq, l0, g0⟩

/-! #### struct type 99 -/
structure S99 where
  f0 : ByteArray
  f1 : (List S32)
def z99 : S99 := ⟨(⟨#[]⟩ : ByteArray), ([] : List S32)⟩
def k99 : Kd S99 := Kd.iso (Kd.pair Kd.string (Kd.slice 32 k32)) (fun x : S99 => (x.f0, x.f1))
theorem k99_open {w : World} {x : S99} {cs : List Value} (h : k99.K w x cs) : ∃ A1 c1, cs = [.string x.f0, .slice A1 x.f1.length c1] ∧ x.f1.length ≤ c1 ∧ k32.C w A1 x.f1.length x.f1 := by
  obtain ⟨_, _, rfl, rfl, ⟨A1, c1, rfl, l1, g1⟩⟩ := h
  exact ⟨A1, c1, rfl, l1, g1⟩
theorem k99_openM {w : World} {base : Nat} {ok : Nat → Prop} {x : S99} {cs : List Value} (h : k99.M w base ok x cs) : ∃ v1, cs = [.string x.f0, v1] ∧ k32.R 32 w base ok v1 x.f1 := by
  obtain ⟨_, _, rfl, rfl, ⟨v1, rfl, g1⟩⟩ := h
  exact ⟨v1, rfl, g1⟩
theorem k99_mk (w : World) (x : S99) {A1 : Option Addr} {c1 : Nat} (l1 : x.f1.length ≤ c1) (g1 : k32.C w A1 x.f1.length x.f1) : k99.K w x [.string x.f0, .slice A1 x.f1.length c1] := ⟨[.string x.f0], [.slice A1 x.f1.length c1], rfl, rfl, ⟨A1, c1, rfl, l1, g1⟩⟩
theorem k99_mkM (w : World) (base : Nat) (ok : Nat → Prop) (x : S99) {v1 : Value} (g1 : k32.R 32 w base ok v1 x.f1) : k99.M w base ok x [.string x.f0, v1] := ⟨[.string x.f0], [v1], rfl, rfl, ⟨v1, rfl, g1⟩⟩
def rd_T99 (xs : List S99) (i : Int) : S99 := xs.getD i.toNat z99
theorem at_T99 {w : World} {A : Option Addr} {n : Nat} {xs : List S99} (h : Kd.C k99 w A n xs) (i : Int) (h0 : 0 ≤ i) (h1 : i < n) : ∃ ad A1 c1, A = some ad ∧ w.cell? (ad.add (i.toNat * 2)) = some (.string (rd_T99 xs i).f0) ∧ w.cell? ⟨(ad.add (i.toNat * 2)).block, (ad.add (i.toNat * 2)).off + 1, none⟩ = some (.slice A1 (rd_T99 xs i).f1.length c1) ∧ (rd_T99 xs i).f1.length ≤ c1 ∧ k32.C w A1 (rd_T99 xs i).f1.length (rd_T99 xs i).f1 := by
  obtain ⟨ad, c, e, _, hK, hc0⟩ := Kd.C_get h z99 i h0 h1
  have hc : ∀ j u, c[j]? = some u → w.cell? (ad.add (i.toNat * 2 + j)) = some u := hc0
  obtain ⟨A1, c1, rfl, l1, g1⟩ := k99_open hK
  exact ⟨ad, A1, c1, e, hc 0 _ rfl, by rw [← add_field _ _ 1 (by omega)]; exact hc 1 _ rfl, l1, g1⟩

end Go.Proofs.Ytmelefiodhnlpaa.PFormulaTurns
