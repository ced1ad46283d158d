/- UrlPaths, the plain law: parts with a slash ahead are a path, if they are not too long; with another byte anywhere they are none. -/
import Derived.Test.YtfmppmabnpkooaaDoorBVx2
import Derived.Test.YtfmppmabnpkooaaDoorUrlPath
set_option linter.unusedSimpArgs false
set_option linter.unusedVariables false
namespace Go.Proofs.YtfmppmabnpkooaaDoor.Pure
open Go Go.RowKit Go.Proofs.YtfmppmabnpkooaaDoor Go.Proofs.YtfmppmabnpkooaaDoor.BV Go.Proofs.YtfmppmabnpkooaaDoorW.PrintWords Go.Proofs.YtfmppmabnpkooaaDoorW.PrintLast

theorem wrap_u64_pos (n : Int) (h : 0 < n) (h2 : n ≤ 9223372036854775807) : IntKind.u64.wrap n = n := by
  simp only [IntKind.wrap, IntKind.signed, IntKind.bits]
  simp
  omega
theorem wrap_u64_nonneg (n : Int) : 0 ≤ IntKind.u64.wrap n ∧ IntKind.u64.wrap n < 18446744073709551616 := by
  simp only [IntKind.wrap, IntKind.signed, IntKind.bits]
  simp
  omega
def lowN (a n : Int) : Nat := (IntKind.u64.wrap a % n).toNat
theorem lowN_lt (a n : Int) (h : 0 < n) : (lowN a n : Int) < n := by
  unfold lowN
  have := Int.emod_lt_of_pos (IntKind.u64.wrap a) h
  have := Int.emod_nonneg (IntKind.u64.wrap a) (Int.ne_of_gt h)
  omega
theorem Low_f (a n : Int) (h : 0 < n) (h2 : n ≤ 9223372036854775807) : moatlaw0_Low.f a n = some (lowN a n : Int) := by
  unfold moatlaw0_Low.f
  have hw := wrap_u64_nonneg a
  rw [wrap_u64_pos n h h2, if_neg (by omega)]
  have h1 := Int.emod_lt_of_pos (IntKind.u64.wrap a) h
  have h3 := Int.emod_nonneg (IntKind.u64.wrap a) (Int.ne_of_gt h)
  congr 1
  rw [Int.tmod_eq_emod_of_nonneg hw.1]
  unfold lowN wrap64
  omega

def parts6 : List ByteArray := [(⟨#[97]⟩ : ByteArray), (⟨#[98, 95, 99]⟩ : ByteArray), (⟨#[100, 45, 57]⟩ : ByteArray), (⟨#[101, 46, 102]⟩ : ByteArray), (⟨#[]⟩ : ByteArray), (⟨#[105, 110, 100, 101, 120, 46, 104, 116, 109, 108]⟩ : ByteArray)]
theorem pb_cases : ∀ n < 6, ((rdOf ByteArray.empty parts6 ((n : Nat) : Int)).data.toList.all pathC) = true ∧ (rdOf ByteArray.empty parts6 ((n : Nat) : Int)).size ≤ 10 := by decide +kernel
theorem pb_ok (x : Int) : (rdOf ByteArray.empty parts6 (lowN x 6 : Int)).data.toList.all pathC = true ∧ (rdOf ByteArray.empty parts6 (lowN x 6 : Int)).size ≤ 10 := by
  have h := lowN_lt x 6 (by decide)
  exact pb_cases _ (by omega)

def Fit6 (n : Nat) : Prop := (97 ≤ n ∧ n ≤ 122) ∨ (48 ≤ n ∧ n ≤ 57) ∨ n = 47 ∨ n = 45 ∨ n = 95 ∨ n = 46
instance (n : Nat) : Decidable (Fit6 n) := by unfold Fit6; infer_instance
theorem fit_eq : ∀ n < 256, pathC (UInt8.ofNat n) = decide (Fit6 n) := by decide +kernel

theorem path_good (l : List UInt8) (h1 : l.all pathC = true) (h2 : l.head? = some 47) : pathL l = decide (l.length ≤ 60) := by
  unfold pathL
  rw [h1, h2]
  simp

theorem j1_true (k : Nat) (hk : 200 ≤ k) (n : Nat) (hn : n < 256) (x2 : Int) (x7 : ByteArray) (r : List UInt8) (hr : x7.data.toList = 47 :: r) (h1 : r.all pathC = true) (hs : x7.size ≤ 89) (b : Bool) (hb : pathC (UInt8.ofNat n) = b) :
    moatlaw1_UrlPaths.j1 (k + 1) (n : Int) x2 x7 b = some true := by
  have hsz := Lib.size_eq x7
  rw [hr, List.length_cons] at hsz
  have c47 : pathC 47 = true := by decide
  have c120 : pathC 120 = true := by decide
  have hl := lowN_lt x2 (x7.size : Int) (by omega)
  obtain ⟨j, hj⟩ : ∃ j : Nat, lowN x2 (x7.size : Int) = j := ⟨_, rfl⟩
  have hw : wrap64 (1 + (j : Int)) = ((j + 1 : Nat) : Int) := by unfold wrap64; omega
  have e1 : (x7.extract 0 (j + 1)).size = j + 1 := by rw [ByteArray.size_extract]; omega
  have e2 : (strOfNums [(n : Int)]).size = 1 := rfl
  have e3 : (x7.extract (j + 1) x7.size).size = x7.size - (j + 1) := by rw [ByteArray.size_extract]; omega
  have e4 : (x7.extract 1 x7.size).size = x7.size - 1 := by rw [ByteArray.size_extract]; omega
  have lT : ((x7.extract 0 (j + 1) ++ strOfNums [(n : Int)]) ++ x7.extract (j + 1) x7.size).data.toList = 47 :: (r.take j ++ UInt8.ofNat n :: r.drop j) := by
    simp [strOfNums, hr]
    exact List.take_of_length_le (by rw [List.length_drop]; omega)
  have lU : (x7.extract 1 x7.size ++ (⟨#[120]⟩ : ByteArray)).data.toList = r ++ [120] := by
    simp [hr]
    exact List.take_of_length_le (by omega)
  have sT : ((x7.extract 0 (j + 1) ++ strOfNums [(n : Int)]) ++ x7.extract (j + 1) x7.size).size = x7.size + 1 := by
    rw [ByteArray.size_append, ByteArray.size_append, e1, e2, e3]; omega
  have sU : (x7.extract 1 x7.size ++ (⟨#[120]⟩ : ByteArray)).size = x7.size := by
    rw [ByteArray.size_append, e4]
    show x7.size - 1 + 1 = _
    omega
  have p1 : pathL x7.data.toList = decide ((x7.size : Int) ≤ 60) := by
    rw [path_good _ (by rw [hr, List.all_cons, c47, h1]; rfl) (by rw [hr]; rfl), hr, List.length_cons]
    exact decide_eq_decide.2 (by omega)
  have hrr : (r.take j).all pathC = true ∧ (r.drop j).all pathC = true := by
    rw [← List.take_append_drop j r, List.all_append, Bool.and_eq_true] at h1
    exact h1
  have p2 : pathL (47 :: (r.take j ++ UInt8.ofNat n :: r.drop j)) = (b && decide (((x7.size + 1 : Nat) : Int) ≤ 60)) := by
    unfold pathL
    rw [List.all_cons, List.all_append, List.all_cons, c47, hrr.1, hrr.2, hb]
    cases b
    · rfl
    · simp
      omega
  simp only [moatlaw1_UrlPaths.j1]
  rw [Low_f x2 _ (by omega) (by omega), Option.bind_some, hj, hw]
  simp only [Int.toNat_natCast]
  rw [if_pos (by omega), if_pos (by omega), Option.bind_some, if_pos (by rw [e1, e2]; omega), if_pos (by rw [ByteArray.size_append, e1, e2, e3]; omega)]
  rw [Path_f x7 (by omega) k (by omega), Option.bind_some, p1, if_pos (by simp)]
  have p2t : b = true → pathL (47 :: (r.take j ++ UInt8.ofNat n :: r.drop j)) = decide ((((x7.extract 0 (j + 1) ++ strOfNums [(n : Int)]) ++ x7.extract (j + 1) x7.size).size : Int) ≤ 60) := by
    intro h
    rw [p2, h, Bool.true_and]
    exact decide_eq_decide.2 (by rw [sT])
  have p2f : b = false → pathL (47 :: (r.take j ++ UInt8.ofNat n :: r.drop j)) = false := by
    intro h
    rw [p2, h, Bool.false_and]
  rw [Path_f ((x7.extract 0 (j + 1) ++ strOfNums [(n : Int)]) ++ x7.extract (j + 1) x7.size) (by rw [sT]; omega) k (by rw [sT]; omega), Option.bind_some, lT]
  have fin : (if (x7.size : Int) = 1 then (if ((!(pathL (r ++ [120]))) == true) = true then ((moatlaw1_awake.f).bind fun t115 => (some t115)) else (some false)) else (if 1 < (x7.size : Int) then (if (bt x7 1) = 47 then (if ((!(pathL (r ++ [120]))) == (decide ((x7.size : Int) > 60))) = true then ((moatlaw1_awake.f).bind fun t116 => (some t116)) else (some false)) else (if ((!(pathL (r ++ [120]))) == true) = true then ((moatlaw1_awake.f).bind fun t117 => (some t117)) else (some false))) else (none))) = some true := by
    cases r with
    | nil =>
      rw [if_pos (by simp at hsz; omega)]
      rfl
    | cons y r' =>
      rw [List.length_cons] at hsz
      rw [if_neg (by omega), if_pos (by omega)]
      have hb1 : bt x7 1 = (y.toNat : Int) := by
        have := bt_u x7 1 (by rw [hr]; simp)
        simp only [hr, List.getElem_cons_succ, List.getElem_cons_zero] at this
        exact this
      have he : ((y.toNat : Int) = 47) ↔ y = 47 := byte_is y 47 (by omega)
      rw [hb1]
      by_cases h : y = 47
      · rw [if_pos (he.2 h)]
        rw [path_good _ (by rw [List.all_append, h1]; rfl) (by rw [List.cons_append, List.head?_cons, h])]
        have hlen : (y :: r' ++ [120]).length = x7.size := by simp; omega
        rw [hlen, if_pos (by
          by_cases h6 : x7.size ≤ 60
          · rw [decide_eq_true h6, decide_eq_false (by omega)]; rfl
          · rw [decide_eq_false h6, decide_eq_true (by omega)]; rfl)]
        rfl
      · rw [if_neg (fun e => h (he.1 e))]
        have : pathL (y :: r' ++ [120]) = false := by
          unfold pathL
          rw [List.cons_append, List.head?_cons, decide_eq_false (show ¬ some y = some (47 : UInt8) from fun e => h (Option.some.inj e))]
          simp
        rw [this]
        rfl
  have pU := Path_f (x7.extract 1 x7.size ++ (⟨#[120]⟩ : ByteArray)) (by rw [sU]; omega) k (by rw [sU]; omega)
  rw [lU] at pU
  cases b with
  | true =>
    rw [if_pos rfl, if_pos (beq_iff_eq.2 (p2t rfl)), if_pos (by omega), if_pos (by rw [e4]; omega), pU, Option.bind_some]
    exact fin
  | false =>
    rw [if_neg (by decide), if_pos (beq_iff_eq.2 (p2f rfl)), if_pos (by omega), if_pos (by rw [e4]; omega), pU, Option.bind_some]
    exact fin

theorem l0_true (l0 : List Int) (n : Nat) (hn : n < 256) (x2 : Int) (h8 : l0.length ≤ 8) : ∀ (d k i : Nat) (x7 : ByteArray) (r : List UInt8), i + d = l0.length → 210 ≤ k → x7.data.toList = 47 :: r → r.all pathC = true → x7.size ≤ 1 + 11 * i →
    moatlaw1_UrlPaths.l0 (k + d + 2) l0 (n : Int) x2 x7 (i : Int) = some true := by
  intro d
  induction d with
  | zero =>
    intro k i x7 r hi hk hr h1 hs
    rw [show k + 0 + 2 = (k + 1) + 1 by omega]
    simp only [moatlaw1_UrlPaths.l0]
    rw [if_neg (by omega)]
    have hj := j1_true k (by omega) n hn x2 x7 r hr h1 (by omega) _ rfl
    rw [fit_eq n hn] at hj
    generalize moatlaw1_UrlPaths.j1 (k + 1) (n : Int) x2 x7 = J at hj ⊢
    have yes : Fit6 n → J true = some true := fun h => by rw [decide_eq_true h] at hj; exact hj
    have no : (((n : Int) == 46) = decide (Fit6 n)) → J ((n : Int) == 46) = some true := fun h => by rw [h]; exact hj
    have ask : ¬ (97 ≤ n ∧ n ≤ 122) → ¬ (48 ≤ n ∧ n ≤ 57) → n ≠ 47 → n ≠ 45 → n ≠ 95 → (((n : Int) == 46) = decide (Fit6 n)) := by
      intro a1 a2 a3 a4 a5
      rw [Bool.eq_iff_iff, beq_iff_eq, decide_eq_true_iff]
      unfold Fit6
      omega
    repeat' split
    all_goals first
      | exact yes (by unfold Fit6; omega)
      | exact no (ask (by omega) (by omega) (by omega) (by omega) (by omega))
  | succ d ih =>
    intro k i x7 r hi hk hr h1 hs
    rw [show k + (d + 1) + 2 = (k + d + 2) + 1 by omega]
    simp only [moatlaw1_UrlPaths.l0]
    rw [if_pos (by omega), Option.bind_some, if_pos (by omega), Low_f _ 6 (by decide) (by decide), Option.bind_some]
    have hl := lowN_lt (rd l0 i) 6 (by decide)
    obtain ⟨q1, q2⟩ := pb_ok (rd l0 i)
    rw [show ([(⟨#[97]⟩ : ByteArray), (⟨#[98, 95, 99]⟩ : ByteArray), (⟨#[100, 45, 57]⟩ : ByteArray), (⟨#[101, 46, 102]⟩ : ByteArray), (⟨#[]⟩ : ByteArray), (⟨#[105, 110, 100, 101, 120, 46, 104, 116, 109, 108]⟩ : ByteArray)] : List ByteArray) = parts6 from rfl]
    generalize rdOf ByteArray.empty parts6 (lowN (rd l0 i) 6 : Int) = p at q1 q2 ⊢
    rw [if_pos (by omega), if_pos (by show _ < (6 : Int); exact hl), if_pos (by omega), if_pos (by rw [ByteArray.size_append]; omega)]
    have hw : wrap64 ((i : Int) + 1) = ((i + 1 : Nat) : Int) := by unfold wrap64; omega
    rw [hw]
    refine ih k (i + 1) _ (r ++ p.data.toList ++ [47]) (by omega) hk ?_ ?_ ?_
    · simp [hr]
    · rw [List.all_append, List.all_append, h1, q1]
      rfl
    · rw [ByteArray.size_append, ByteArray.size_append]
      show x7.size + p.size + 1 ≤ _
      omega

theorem UrlPaths : moatlaw1_UrlPaths.Pure := by
  intro l0 a1 a2 hm hy hw0 hw1 hw2
  have hr : 0 ≤ a1 ∧ a1 < 256 := by
    simp [Lit.wf] at hw1
    have e1 : IntKind.u8.min = 0 := by decide
    have e2 : IntKind.u8.max = 255 := by decide
    omega
  obtain ⟨n, rfl⟩ : ∃ n : Nat, a1 = n := ⟨a1.toNat, by omega⟩
  refine ⟨210 + l0.length + 2, ?_⟩
  unfold moatlaw1_UrlPaths.f
  by_cases h8 : (l0.length : Int) > 8
  · rw [if_pos h8]
    rfl
  · rw [if_neg h8]
    exact l0_true l0 n (by omega) a2 (by omega) l0.length 210 0 ⟨#[47]⟩ [] (by omega) (by omega) rfl rfl (by decide)
end Go.Proofs.YtfmppmabnpkooaaDoor.Pure
