/- moatlaw3.FieldPairs: the walk. -/
import Derived.Test.YtfmppmabnpkooaaDoorAwake3
import Derived.Test.YtfmppmabnpkooaaDoorLowF
import Derived.Test.YtfmppmabnpkooaaDoorEqPair
import Derived.Deep.QuietTactic
import Derived.BigQuiet
set_option linter.unusedSimpArgs false
set_option linter.unusedVariables false
namespace Go.Proofs.YtfmppmabnpkooaaDoor
open Go Go.RowKit Go.Proofs.YtfmppmabnpkooaaDoorW.PrintWords Go.Proofs.YtfmppmabnpkooaaDoorW.PrintLast Go.Proofs.YtfmppmabnpkooaaDoorW.PrintMore

def pNames : List ByteArray := [⟨#[80, 97, 116, 104]⟩, ⟨#[83, 69, 67, 85, 82, 69]⟩, ⟨#[97, 45, 66]⟩, ⟨#[120]⟩]
def pLow : List ByteArray := [⟨#[112, 97, 116, 104]⟩, ⟨#[115, 101, 99, 117, 114, 101]⟩, ⟨#[97, 45, 98]⟩, ⟨#[120]⟩]
def pVals : List ByteArray := [⟨#[]⟩, ⟨#[47, 120]⟩, ⟨#[97, 61, 98]⟩, ⟨#[113, 32, 114]⟩, ⟨#[90]⟩]
def pGaps : List ByteArray := [⟨#[]⟩, ⟨#[32]⟩, ⟨#[9, 32]⟩, ⟨#[32, 32]⟩]
def pTail : List ByteArray := [⟨#[]⟩, ⟨#[59]⟩, ⟨#[32, 59, 32]⟩]
def rb (l : List ByteArray) (n : Nat) : ByteArray := rdOf ByteArray.empty l ((n : Nat) : Int)

/-- What one number lays, behind s. -/
def pStep (s : ByteArray) (n g : Nat) : ByteArray :=
  let s1 := (s ++ rb pGaps g) ++ rb pNames (n % 4)
  let s2 := if 0 < n / 4 % 5 ∨ 20 ≤ n then (((s1 ++ rb pGaps g) ++ (⟨#[61]⟩ : ByteArray)) ++ rb pGaps g) ++ rb pVals (n / 4 % 5) else s1
  ((s2 ++ rb pGaps g) ++ (⟨#[59]⟩ : ByteArray)) ++ rb pTail (n % 3)
def pPair (n : Nat) : ByteArray × ByteArray := (rb pLow (n % 4), rb pVals (n / 4 % 5))
def gapOf (a1 : Int) (m : Nat) : Nat := (Go.bits .and .i64 (a1 / 2 ^ (2 * m)) 3).toNat

/-- What the first m numbers lay. -/
def laid (l0 : List Int) (a1 : Int) : Nat → ByteArray × List (ByteArray × ByteArray)
  | 0 => (⟨#[]⟩, [])
  | m + 1 => (pStep (laid l0 a1 m).1 (lowN (rd l0 m) 40) (gapOf a1 m), (laid l0 a1 m).2 ++ [pPair (lowN (rd l0 m) 40)])
def Laid8 (l0 : List Int) (a1 : Int) (m : Nat) (s : ByteArray) (want : List (ByteArray × ByteArray)) : Prop := s = (laid l0 a1 m).1 ∧ want = (laid l0 a1 m).2

theorem cells_at (l : List ByteArray) (n : Nat) (h : n < l.length) : ((l.map Value.string).toArray)[n]? = some (.string (rb l n)) := by
  simp [rb, rdOf, List.getD_eq_getElem?_getD, List.getElem?_eq_getElem h]

theorem list_at (l : List ByteArray) (n : Nat) (h : n < l.length) : (l.map Value.string)[n]'(by simpa using h) = .string (rb l n) := by
  simp [rb, rdOf, List.getD_eq_getElem?_getD, List.getElem?_eq_getElem h]
theorem rb_size : (∀ n < 4, (rb pGaps n).size ≤ 2) ∧ (∀ n < 4, (rb pNames n).size ≤ 6) ∧ (∀ n < 5, (rb pVals n).size ≤ 3) ∧ (∀ n < 3, (rb pTail n).size ≤ 3) := by decide +kernel
theorem pStep_size (s : ByteArray) (n g : Nat) (hg : g < 4) : (pStep s n g).size ≤ s.size + 30 := by
  have zG := rb_size.1 g hg
  have zN := rb_size.2.1 (n % 4) (Nat.mod_lt _ (by decide))
  have zV := rb_size.2.2.1 (n / 4 % 5) (Nat.mod_lt _ (by decide))
  have zT := rb_size.2.2.2 (n % 3) (Nat.mod_lt _ (by decide))
  unfold pStep
  have e1 : (⟨#[61]⟩ : ByteArray).size = 1 := rfl
  have e2 : (⟨#[59]⟩ : ByteArray).size = 1 := rfl
  split <;> simp only [ByteArray.size_append, e1, e2] <;> omega
theorem gapOf_lt (a1 : Int) (m : Nat) : gapOf a1 m < 4 := by
  have h : Go.bits .and .i64 (a1 / 2 ^ (2 * m)) 3 = (a1 / 2 ^ (2 * m)) % 4 := bits_low _ 2 (by decide)
  unfold gapOf
  omega
theorem laid_len (l0 : List Int) (a1 : Int) : ∀ m : Nat, (laid l0 a1 m).2.length = m
  | 0 => rfl
  | m + 1 => by
    show ((laid l0 a1 m).2 ++ [pPair (lowN (rd l0 m) 40)]).length = _
    rw [List.length_append, laid_len l0 a1 m]; rfl
theorem laid_size (l0 : List Int) (a1 : Int) : ∀ m : Nat, (laid l0 a1 m).1.size ≤ 30 * m
  | 0 => by show (0 : Nat) ≤ 0; omega
  | m + 1 => by
    have ih := laid_size l0 a1 m
    have := pStep_size (laid l0 a1 m).1 (lowN (rd l0 m) 40) (gapOf a1 m) (gapOf_lt a1 m)
    show (pStep (laid l0 a1 m).1 (lowN (rd l0 m) 40) (gapOf a1 m)).size ≤ _
    omega

set_option maxRecDepth 100000 in
set_option maxHeartbeats 4000000 in
theorem fieldPairs_calls (A0 : Option Addr) (c0 : Nat) (l0 : List Int) (a1 : Int) (w : World) (hr0 : Kd.C (Kd.int .i64) w A0 l0.length l0) (hc0 : l0.length ≤ c0) (h8 : ¬ (l0.length : Int) > 8) (hp : pairsF (pieces 59 (laid l0 a1 l0.length).1) = (laid l0 a1 l0.length).2) :
    Calls Tryd.prog 5 #[.slice A0 l0.length c0, .int .i64 a1] w fun e w' => e = .returned (.bool true) ∧ Below w.heap.size w w' := by
  have h8b : decide (8 < (l0.length : Int)) = false := decide_eq_false (by omega)
  have h8c : decide (8 < l0.length) = false := decide_eq_false (by omega)
  have HR := Aside0.mk hr0
  have HP := Aside0.mk hp
  clear hp
  clear hr0
  go_enter Tryd.func5, Tryd.ntmps5
  go_wp2_with fail
  obtain ⟨W0, hW0⟩ : ∃ W0, ((w.alloc (.cells (pNames.map Value.string).toArray 9)).alloc (.cells (pLow.map Value.string).toArray 9)).alloc (.cells (pVals.map Value.string).toArray 9) = W0 := ⟨_, rfl⟩
  have hk0 : W0.heap[w.heap.size]? = some (.cells (pNames.map Value.string).toArray 9 (0, 0)) := by
    rw [← hW0]; exact ((Below.heap_alloc _ _ _ (by simp; omega)).trans (Below.heap_alloc _ _ _ (by simp))).trans (World.alloc_heap_new w _)
  have hk1 : W0.heap[w.heap.size + 1]? = some (.cells (pLow.map Value.string).toArray 9 (0, 0)) := by
    have := World.alloc_heap_new (w.alloc (.cells (pNames.map Value.string).toArray 9)) (.cells (pLow.map Value.string).toArray 9)
    rw [World.size_alloc] at this
    rw [← hW0]; exact (Below.heap_alloc _ _ _ (by simp)).trans this
  have hk2 : W0.heap[w.heap.size + 1 + 1]? = some (.cells (pVals.map Value.string).toArray 9 (0, 0)) := by
    have := World.alloc_heap_new ((w.alloc (.cells (pNames.map Value.string).toArray 9)).alloc (.cells (pLow.map Value.string).toArray 9)) (.cells (pVals.map Value.string).toArray 9)
    rw [World.size_alloc, World.size_alloc] at this
    rw [← hW0]; exact this
  have hb0 : Below w.heap.size w W0 := by
    rw [← hW0]; exact (((Below.refl _ w).alloc (Nat.le_refl _) _).alloc (by simp) _).alloc (by simp; omega) _
  have hs0 : W0.heap.size = w.heap.size + 3 := by rw [← hW0]; simp
  change Code.wp _ _ _ _ (((w.alloc (.cells (pNames.map Value.string).toArray 9)).alloc (.cells (pLow.map Value.string).toArray 9)).alloc (.cells (pVals.map Value.string).toArray 9))
  rw [hW0]
  clear hW0
  go_loopg [8, 9, 10] l0.length (fun k v8 v9 v10 wr => ∃ (m : Nat) (s : ByteArray) (want : List (ByteArray × ByteArray)), v8 = .string s ∧ v10 = .int .i64 m ∧ m + k = l0.length ∧
    Aside0 (Laid8 l0 a1 m s want) ∧ Aside0 (wr.ownsRow (w.heap.size + 3) 29 2 v9 m (want.flatMap pairCells)) ∧ Aside0 (Below W0.heap.size W0 wr))
  case atStart => exact ⟨0, _, [], rfl, rfl, by omega, ⟨rfl, rfl⟩, ⟨World.ownsRow_nil _ _ _ _⟩, ⟨Below.refl _ _⟩⟩
  case round =>
    obtain ⟨m, s, want, rfl, rfl, hmk, hL, hO, hB⟩ := hrel
    have hs1 := hB.out.size
    by_cases hm : m < l0.length
    · have hm1 : (m : Int) < (l0.length : Int) := by omega
      have hRr := Kd.C_below HR.out (hb0.trans (hB.out.mono (by omega)))
      obtain ⟨ad, rfl, hx⟩ := Kd.at_int hRr (m : Int) (by omega) (by omega)
      clear hRr
      simp only [Int.toNat_natCast] at hx
      have hlow := Low_f (rd l0 m) 40 (by decide) (by decide)
      have hn40 := lowN_lt (rd l0 m) 40 (by decide)
      obtain ⟨n, hn⟩ : ∃ n, lowN (rd l0 m) 40 = n := ⟨_, rfl⟩
      rw [hn] at hlow hn40
      have HN := Aside0.mk hn
      clear hn
      go_upto_region 11 with (first | (go_at_call 30; refine (BF.moatlaw0_Low.calls _ 40 (n : Int) _ hlow).mono ?_; rintro e w2 ⟨rfl, ⟨nd, hnd⟩⟩; have hb2 : Below wr.heap.size wr w2 := (by rw [hnd]; exact pw_below_drewN (Below.refl _ _) nd); clear hnd))
      clear hlow hx
      obtain ⟨g, hg4, hg, hgg⟩ : ∃ g : Nat, g < 4 ∧ Go.bits .and .i64 (a1 / 2 ^ (2 * m)) 3 = (g : Int) ∧ gapOf a1 m = g := by
        have h : Go.bits .and .i64 (a1 / 2 ^ (2 * m)) 3 = (a1 / 2 ^ (2 * m)) % 4 := bits_low _ 2 (by decide)
        exact ⟨((a1 / 2 ^ (2 * m)) % 4).toNat, by omega, by omega, by unfold gapOf; rw [h]⟩
      have HGG := Aside0.mk hgg
      clear hgg
      have hg4i : (g : Int) < 4 := by omega
      have hcg : ([Value.string ⟨#[]⟩, .string ⟨#[32]⟩, .string ⟨#[9, 32]⟩, .string ⟨#[32, 32]⟩] : List Value)[g]'(by simpa using hg4) = .string (rb pGaps g) := list_at pGaps g hg4
      go_upto_region 12 with (fail)
      have hb3 : Below wr.heap.size wr (w2.alloc (.cells #[.string ⟨#[]⟩, .string ⟨#[32]⟩, .string ⟨#[9, 32]⟩, .string ⟨#[32, 32]⟩] 9)) := hb2.alloc hb2.size _
      clear hb2 hcg hg
      generalize w2.alloc _ = w3 at hb3 ⊢
      have hz3 := hb3.size
      have hB3 := hB.out.trans (hb3.mono hs1)
      have n44 : n % 4 < 4 := Nat.mod_lt _ (by decide)
      have n55 : n / 4 % 5 < 5 := Nat.mod_lt _ (by decide)
      have n33 : n % 3 < 3 := Nat.mod_lt _ (by decide)
      have t4 : Int.tmod (n : Int) 4 = ((n % 4 : Nat) : Int) := by rw [Int.tmod_eq_emod_of_nonneg (by omega)]; omega
      have t3 : Int.tmod (n : Int) 3 = ((n % 3 : Nat) : Int) := by rw [Int.tmod_eq_emod_of_nonneg (by omega)]; omega
      have d4 : Int.tdiv (n : Int) 4 = ((n / 4 : Nat) : Int) := by rw [Int.tdiv_eq_ediv_of_nonneg (by omega)]; omega
      have t5 : Int.tmod ((n / 4 : Nat) : Int) 5 = ((n / 4 % 5 : Nat) : Int) := by rw [Int.tmod_eq_emod_of_nonneg (by omega)]; omega
      have qn : w3.cell? ⟨w.heap.size, n % 4, none⟩ = some (.string (rb pNames (n % 4))) := by
        rw [hB3.cell (p := ⟨w.heap.size, n % 4, none⟩) (by simp; omega)]; simp only [World.cell?, hk0]; exact cells_at pNames _ n44
      have qv : w3.cell? ⟨w.heap.size + 1 + 1, n / 4 % 5, none⟩ = some (.string (rb pVals (n / 4 % 5))) := by
        rw [hB3.cell (p := ⟨w.heap.size + 1 + 1, n / 4 % 5, none⟩) (by simp; omega)]; simp only [World.cell?, hk2]; exact cells_at pVals _ n55
      have hsl := laid_size l0 a1 m
      rw [← hL.out.1] at hsl
      have zG := rb_size.1 g hg4
      have zN := rb_size.2.1 (n % 4) n44
      have zV := rb_size.2.2.1 (n / 4 % 5) n55
      have zT := rb_size.2.2.2 (n % 3) n33
      generalize hG : rb pGaps g = G at zG ⊢
      generalize hNm : rb pNames (n % 4) = Nm at zN qn ⊢
      generalize hV : rb pVals (n / 4 % 5) = V at zV qv ⊢
      have o1 : (9223372036854775807 < s.size + G.size) = False := eq_false (by omega)
      have o2 : (9223372036854775807 < s.size + G.size + Nm.size) = False := eq_false (by omega)
      go_upto_region 13 with (fail)
      have hcT : ([Value.string ⟨#[]⟩, .string ⟨#[59]⟩, .string ⟨#[32, 59, 32]⟩] : List Value)[n % 3]'(by simpa using n33) = .string (rb pTail (n % 3)) := list_at pTail _ n33
      generalize hT : rb pTail (n % 3) = T at zT hcT ⊢
      have o3 : (9223372036854775807 < s.size + G.size + Nm.size + G.size) = False := eq_false (by omega)
      have o4 : (9223372036854775807 < s.size + G.size + Nm.size + G.size + 1) = False := eq_false (by omega)
      have o8 : (9223372036854775807 < s.size + G.size + Nm.size + G.size + 1 + G.size) = False := eq_false (by omega)
      have o9 : (9223372036854775807 < s.size + G.size + Nm.size + G.size + 1 + G.size + V.size) = False := eq_false (by omega)
      have e61 : (⟨#[61]⟩ : ByteArray).size = 1 := rfl
      have hs2 : ∃ s2 : ByteArray, s2 = (if 0 < n / 4 % 5 ∨ 20 ≤ n then (((((s ++ G) ++ Nm) ++ G) ++ (⟨#[61]⟩ : ByteArray)) ++ G) ++ V else (s ++ G) ++ Nm) := ⟨_, rfl⟩
      obtain ⟨s2, hs2⟩ := hs2
      have hz2 : s2.size ≤ s.size + 20 := by
        rw [hs2]; split <;> simp only [ByteArray.size_append, e61] <;> omega
      by_cases k1 : 0 < n / 4 % 5
      · rw [if_pos (.inl k1)] at hs2
        go_upto_region 15 with (fail)
        rw [← hs2]
        have o5 : (9223372036854775807 < s2.size + G.size) = False := eq_false (by omega)
        have o6 : (9223372036854775807 < s2.size + G.size + 1) = False := eq_false (by omega)
        have o7 : (9223372036854775807 < s2.size + G.size + 1 + T.size) = False := eq_false (by omega)
        go_upto_region 16 with (fail)
        have hb5 : Below wr.heap.size wr (w3.alloc (.cells #[.string ⟨#[]⟩, .string ⟨#[59]⟩, .string ⟨#[32, 59, 32]⟩] 9)) := hb3.alloc hz3 _
        generalize w3.alloc _ = w5 at hb5 ⊢
        have hb6 := below_drew1 hb5
        clear hb5
        have hB6 := hB.out.trans (hb6.mono hs1)
        have ql : w5.drew.cell? ⟨w.heap.size + 1, n % 4, none⟩ = some (.string (rb pLow (n % 4))) := by
          rw [hB6.cell (p := ⟨w.heap.size + 1, n % 4, none⟩) (by simp; omega)]; simp only [World.cell?, hk1]; exact cells_at pLow _ n44
        have qv6 : w5.drew.cell? ⟨w.heap.size + 1 + 1, n / 4 % 5, none⟩ = some (.string V) := by
          rw [← hV, hB6.cell (p := ⟨w.heap.size + 1 + 1, n / 4 % 5, none⟩) (by simp; omega)]; simp only [World.cell?, hk2]; exact cells_at pVals _ n55
        have f1 : 0 ≤ (n : Int) % 4 := by omega
        have f2 : (n : Int) % 4 < 4 := by omega
        have f3 : ((n : Int) % 4).toNat = n % 4 := by omega
        have f4 : IntKind.i64.wrap ((n : Int) / 4) = (n : Int) / 4 := by rw [IntKind.wrap_i64]; omega
        have f5 : Int.tmod ((n : Int) / 4) 5 = (n : Int) / 4 % 5 := Int.tmod_eq_emod_of_nonneg (by omega)
        have f6 : 0 ≤ (n : Int) / 4 % 5 := by omega
        have f7 : (n : Int) / 4 % 5 < 5 := by omega
        have f8 : ((n : Int) / 4 % 5).toNat = n / 4 % 5 := by omega
        refine start_ (n := 16) (S := fun w' => w'.cell? ⟨w.heap.size + 1, n % 4, none⟩ = some (.string (rb pLow (n % 4))) ∧ w'.cell? ⟨w.heap.size + 1 + 1, n / 4 % 5, none⟩ = some (.string V)) (ds := []) #[false, false, false, false, false, false, false, false, false, false, false, false, false, false, false, false] (by kernel_rfl) rfl rfl ⟨ql, qv6⟩ (fun hHeld => ?_)
        clear qv qn o1 o2 o3 o4 o5 o6 o7 o8 o9 hcT
        generalize World.drew w5 = w6 at hb6 hB6 ql qv6 hHeld ⊢
        refine pure_ (i := 0) (N := some 81) (v := ?_) (a' := ?_) #[true, false, false, false, false, false, false, false, false, false, false, false, false, false, false, false] rfl rfl (by kernel_rfl) (fun _ _ _ h => h) (Or.inl ⟨by rfl, ?_⟩) ?_ ?_
        rotate_left
        · intro w'
          go_simp
          with_reducible rfl
        rotate_left
        · simp only [Act.put, List.setIfInBounds_toArray, List.set_cons_zero, List.set_cons_succ]
          rfl
        refine pure_ (i := 1) (N := some 82) (v := ?_) (a' := ?_) #[true, true, false, false, false, false, false, false, false, false, false, false, false, false, false, false] rfl rfl (by kernel_rfl) (fun _ _ _ h => h) (Or.inl ⟨by rfl, ?_⟩) ?_ ?_
        rotate_left
        · intro w'
          go_simp
          with_reducible rfl
        rotate_left
        · simp only [Act.put, List.setIfInBounds_toArray, List.set_cons_zero, List.set_cons_succ]
          rfl
        refine pure_ (i := 2) (N := some 83) (v := ?_) (a' := ?_) #[true, true, true, false, false, false, false, false, false, false, false, false, false, false, false, false] rfl rfl (by kernel_rfl) (fun _ _ _ h => h) (Or.inl ⟨by rfl, ?_⟩) ?_ ?_
        rotate_left
        · intro w'
          go_simp
          with_reducible rfl
        rotate_left
        · simp only [Act.put, List.setIfInBounds_toArray, List.set_cons_zero, List.set_cons_succ]
          rfl
        refine pure_ (i := 3) (N := some 84) (v := ?_) (a' := ?_) #[true, true, true, true, false, false, false, false, false, false, false, false, false, false, false, false] rfl rfl (by kernel_rfl) (fun _ _ _ h => h) (Or.inl ⟨by rfl, ?_⟩) ?_ ?_
        rotate_left
        · intro w'
          go_simp
          with_reducible rfl
        rotate_left
        · simp only [Act.put, List.setIfInBounds_toArray, List.set_cons_zero, List.set_cons_succ]
          rfl
        refine pure_ (i := 4) (N := some 85) (v := ?_) (a' := ?_) #[true, true, true, true, true, false, false, false, false, false, false, false, false, false, false, false] rfl rfl (by kernel_rfl) (fun _ _ _ h => h) (Or.inl ⟨by rfl, ?_⟩) ?_ ?_
        rotate_left
        · intro w'
          go_simp
          with_reducible rfl
        rotate_left
        · simp only [Act.put, List.setIfInBounds_toArray, List.set_cons_zero, List.set_cons_succ]
          rfl
        refine pure_ (i := 6) (N := some 87) (v := ?_) (a' := ?_) #[true, true, true, true, true, false, true, false, false, false, false, false, false, false, false, false] rfl rfl (by kernel_rfl) (fun _ _ _ h => h) (Or.inl ⟨by rfl, ?_⟩) ?_ ?_
        rotate_left
        · intro w'
          go_simp
          with_reducible rfl
        rotate_left
        · simp only [Act.put, List.setIfInBounds_toArray, List.set_cons_zero, List.set_cons_succ]
          rfl
        refine pure_ (i := 7) (N := some 88) (v := ?_) (a' := ?_) #[true, true, true, true, true, false, true, true, false, false, false, false, false, false, false, false] rfl rfl (by kernel_rfl) (fun _ _ _ h => h) (Or.inl ⟨by rfl, ?_⟩) ?_ ?_
        rotate_left
        · intro w'
          go_simp
          with_reducible rfl
        rotate_left
        · simp only [Act.put, List.setIfInBounds_toArray, List.set_cons_zero, List.set_cons_succ]
          rfl
        refine pure_ (i := 8) (N := some 89) (v := ?_) (a' := ?_) #[true, true, true, true, true, false, true, true, true, false, false, false, false, false, false, false] rfl rfl (by kernel_rfl) (fun _ _ _ h => h) (Or.inl ⟨by rfl, ?_⟩) ?_ ?_
        rotate_left
        · intro w'
          go_simp
          with_reducible rfl
        rotate_left
        · simp only [Act.put, List.setIfInBounds_toArray, List.set_cons_zero, List.set_cons_succ]
          rfl
        refine pure_ (i := 9) (N := some 90) (v := ?_) (a' := ?_) #[true, true, true, true, true, false, true, true, true, true, false, false, false, false, false, false] rfl rfl (by kernel_rfl) (fun _ _ _ h => h) (Or.inl ⟨by rfl, ?_⟩) ?_ ?_
        rotate_left
        · intro w'
          go_simp
          with_reducible rfl
        rotate_left
        · simp only [Act.put, List.setIfInBounds_toArray, List.set_cons_zero, List.set_cons_succ]
          rfl
        refine pure_ (i := 10) (N := some 91) (v := ?_) (a' := ?_) #[true, true, true, true, true, false, true, true, true, true, true, false, false, false, false, false] rfl rfl (by kernel_rfl) (fun _ _ _ h => h) (Or.inl ⟨by rfl, ?_⟩) ?_ ?_
        rotate_left
        · intro w'
          go_simp
          with_reducible rfl
        rotate_left
        · simp only [Act.put, List.setIfInBounds_toArray, List.set_cons_zero, List.set_cons_succ]
          rfl
        refine take_ (i := 5) (N := some 86) (v := ?_) (a' := ?_) #[true, true, true, true, true, true, true, true, true, true, true, false, false, false, false, false] rfl rfl (by kernel_rfl) (fun _ _ _ h => h) (Or.inl ⟨by rfl, ?_⟩) hHeld ?_ ?_
        rotate_left
        · rintro w' ⟨s0, s1⟩
          go_simp
          with_reducible rfl
        rotate_left
        · simp only [Act.put, List.setIfInBounds_toArray, List.set_cons_zero, List.set_cons_succ]
          rfl
        refine take_ (i := 11) (N := some 92) (v := ?_) (a' := ?_) #[true, true, true, true, true, true, true, true, true, true, true, true, false, false, false, false] rfl rfl (by kernel_rfl) (fun _ _ _ h => h) (Or.inl ⟨by rfl, ?_⟩) hHeld ?_ ?_
        rotate_left
        · rintro w' ⟨s0, s1⟩
          go_simp
          with_reducible rfl
        rotate_left
        · simp only [Act.put, List.setIfInBounds_toArray, List.set_cons_zero, List.set_cons_succ]
          rfl
        refine pure_ (i := 12) (N := some 93) (v := ?_) (a' := ?_) #[true, true, true, true, true, true, true, true, true, true, true, true, true, false, false, false] rfl rfl (by kernel_rfl) (fun _ _ _ h => h) (Or.inl ⟨by rfl, ?_⟩) ?_ ?_
        rotate_left
        · intro w'
          go_simp
          with_reducible rfl
        rotate_left
        · simp only [Act.put, List.setIfInBounds_toArray, List.set_cons_zero, List.set_cons_succ]
          rfl
        refine one_ (i := 13) (N := some 94) #[true, true, true, true, true, true, true, true, true, true, true, true, true, true, false, false] rfl rfl (by kernel_rfl) (by decide) (fun K hK => ?_)
        go_simp
        have hsz6 := hb6.size
        refine hK.out _ _ ⟨(World.cell?_alloc_old _ _ _ (by simp; omega)).trans ql, (World.cell?_alloc_old _ _ _ (by simp; omega)).trans qv6⟩ (fun hHeld => ?_)
        clear hK K
        have hr6 := ownsRow_below hO.out hb6
        refine one_ (i := 14) (N := some 95) #[true, true, true, true, true, true, true, true, true, true, true, true, true, true, true, false] rfl rfl (by kernel_rfl) (by decide) (fun K hK => ?_)
        refine step_append_cells (w0 := w6) (W := w6) (w.heap.size + 3) (by rfl) (.tmp 81) (.tmp 94) 26 29 (.agg #[.string ⟨#[]⟩, .string ⟨#[]⟩]) 2 32 rfl Tryd.underlying26 Pairs_info (by rfl) (by decide) (by decide) _ _ _ [.string (rb pLow (n % 4)), .string V] (by rfl) (by rfl) rfl (by simp [Value.oneCell']) hr6 (Below.refl _ _) (by omega) (by omega) ?_
        intro v7 w7 hown7 _ hg7 _
        have hB7 : Below (w.heap.size + 3) w6 w7 := (Below.refl _ w6).grown hg7 (by omega) (fun r e => own_base hr6 r e)
        refine hK.out _ _ ⟨(hB7.cell (p := ⟨w.heap.size + 1, n % 4, none⟩) (by simp)).trans ql, (hB7.cell (p := ⟨w.heap.size + 1 + 1, n / 4 % 5, none⟩) (by simp)).trans qv6⟩ (fun hHeld => ?_)
        clear hK K
        obtain ⟨g', cap', rfl⟩ := ownsRow_succ hown7
        refine norm_ (a' := ?_) ?_ ?_
        rotate_left
        · show Act.put _ (some 95) _ = _
          simp only [Act.put, List.setIfInBounds_toArray, List.set_cons_zero, List.set_cons_succ]
          rfl
        refine pure_ (i := 15) (N := some 9) (v := ?_) (a' := ?_) #[true, true, true, true, true, true, true, true, true, true, true, true, true, true, true, true] rfl rfl (by kernel_rfl) (fun _ _ _ h => h) (Or.inl ⟨by rfl, ?_⟩) ?_ ?_
        rotate_left
        · intro w'
          go_simp
          with_reducible rfl
        rotate_left
        · simp only [Act.put, List.setIfInBounds_toArray, List.set_cons_zero, List.set_cons_succ]
          rfl
        refine done_ (by kernel_rfl) ?_
        go_wp2
        go_roundg (gk - 1)
        case measure => omega
        case rel =>
          refine ⟨m + 1, _, want ++ [pPair n], rfl, rfl, by omega, ⟨?_, ?_⟩, ⟨?_⟩, ⟨hB6.trans (hB7.mono (by omega))⟩⟩
          · show _ = pStep (laid l0 a1 m).1 (lowN (rd l0 m) 40) (gapOf a1 m)
            rw [HN.out, HGG.out, ← hL.out.1]
            simp only [pStep, hG, hNm, hV, hT]
            rw [if_pos (.inl k1)]
          · show _ = (laid l0 a1 m).2 ++ [pPair (lowN (rd l0 m) 40)]
            rw [HN.out, ← hL.out.2]
          · rw [List.flatMap_append]
            simpa [pPair, pairCells, hV] using hown7
      · by_cases k2 : 20 ≤ n
        · rw [if_pos (.inr k2)] at hs2
          go_upto_region 15 with (fail)
          rw [← hs2]
          have o5 : (9223372036854775807 < s2.size + G.size) = False := eq_false (by omega)
          have o6 : (9223372036854775807 < s2.size + G.size + 1) = False := eq_false (by omega)
          have o7 : (9223372036854775807 < s2.size + G.size + 1 + T.size) = False := eq_false (by omega)
          go_upto_region 16 with (fail)
          have hb5 : Below wr.heap.size wr (w3.alloc (.cells #[.string ⟨#[]⟩, .string ⟨#[59]⟩, .string ⟨#[32, 59, 32]⟩] 9)) := hb3.alloc hz3 _
          generalize w3.alloc _ = w5 at hb5 ⊢
          have hb6 := below_drew1 hb5
          clear hb5
          have hB6 := hB.out.trans (hb6.mono hs1)
          have ql : w5.drew.cell? ⟨w.heap.size + 1, n % 4, none⟩ = some (.string (rb pLow (n % 4))) := by
            rw [hB6.cell (p := ⟨w.heap.size + 1, n % 4, none⟩) (by simp; omega)]; simp only [World.cell?, hk1]; exact cells_at pLow _ n44
          have qv6 : w5.drew.cell? ⟨w.heap.size + 1 + 1, n / 4 % 5, none⟩ = some (.string V) := by
            rw [← hV, hB6.cell (p := ⟨w.heap.size + 1 + 1, n / 4 % 5, none⟩) (by simp; omega)]; simp only [World.cell?, hk2]; exact cells_at pVals _ n55
          have f1 : 0 ≤ (n : Int) % 4 := by omega
          have f2 : (n : Int) % 4 < 4 := by omega
          have f3 : ((n : Int) % 4).toNat = n % 4 := by omega
          have f4 : IntKind.i64.wrap ((n : Int) / 4) = (n : Int) / 4 := by rw [IntKind.wrap_i64]; omega
          have f5 : Int.tmod ((n : Int) / 4) 5 = (n : Int) / 4 % 5 := Int.tmod_eq_emod_of_nonneg (by omega)
          have f6 : 0 ≤ (n : Int) / 4 % 5 := by omega
          have f7 : (n : Int) / 4 % 5 < 5 := by omega
          have f8 : ((n : Int) / 4 % 5).toNat = n / 4 % 5 := by omega
          refine start_ (n := 16) (S := fun w' => w'.cell? ⟨w.heap.size + 1, n % 4, none⟩ = some (.string (rb pLow (n % 4))) ∧ w'.cell? ⟨w.heap.size + 1 + 1, n / 4 % 5, none⟩ = some (.string V)) (ds := []) #[false, false, false, false, false, false, false, false, false, false, false, false, false, false, false, false] (by kernel_rfl) rfl rfl ⟨ql, qv6⟩ (fun hHeld => ?_)
          clear qv qn o1 o2 o3 o4 o5 o6 o7 o8 o9 hcT
          generalize World.drew w5 = w6 at hb6 hB6 ql qv6 hHeld ⊢
          refine pure_ (i := 0) (N := some 81) (v := ?_) (a' := ?_) #[true, false, false, false, false, false, false, false, false, false, false, false, false, false, false, false] rfl rfl (by kernel_rfl) (fun _ _ _ h => h) (Or.inl ⟨by rfl, ?_⟩) ?_ ?_
          rotate_left
          · intro w'
            go_simp
            with_reducible rfl
          rotate_left
          · simp only [Act.put, List.setIfInBounds_toArray, List.set_cons_zero, List.set_cons_succ]
            rfl
          refine pure_ (i := 1) (N := some 82) (v := ?_) (a' := ?_) #[true, true, false, false, false, false, false, false, false, false, false, false, false, false, false, false] rfl rfl (by kernel_rfl) (fun _ _ _ h => h) (Or.inl ⟨by rfl, ?_⟩) ?_ ?_
          rotate_left
          · intro w'
            go_simp
            with_reducible rfl
          rotate_left
          · simp only [Act.put, List.setIfInBounds_toArray, List.set_cons_zero, List.set_cons_succ]
            rfl
          refine pure_ (i := 2) (N := some 83) (v := ?_) (a' := ?_) #[true, true, true, false, false, false, false, false, false, false, false, false, false, false, false, false] rfl rfl (by kernel_rfl) (fun _ _ _ h => h) (Or.inl ⟨by rfl, ?_⟩) ?_ ?_
          rotate_left
          · intro w'
            go_simp
            with_reducible rfl
          rotate_left
          · simp only [Act.put, List.setIfInBounds_toArray, List.set_cons_zero, List.set_cons_succ]
            rfl
          refine pure_ (i := 3) (N := some 84) (v := ?_) (a' := ?_) #[true, true, true, true, false, false, false, false, false, false, false, false, false, false, false, false] rfl rfl (by kernel_rfl) (fun _ _ _ h => h) (Or.inl ⟨by rfl, ?_⟩) ?_ ?_
          rotate_left
          · intro w'
            go_simp
            with_reducible rfl
          rotate_left
          · simp only [Act.put, List.setIfInBounds_toArray, List.set_cons_zero, List.set_cons_succ]
            rfl
          refine pure_ (i := 4) (N := some 85) (v := ?_) (a' := ?_) #[true, true, true, true, true, false, false, false, false, false, false, false, false, false, false, false] rfl rfl (by kernel_rfl) (fun _ _ _ h => h) (Or.inl ⟨by rfl, ?_⟩) ?_ ?_
          rotate_left
          · intro w'
            go_simp
            with_reducible rfl
          rotate_left
          · simp only [Act.put, List.setIfInBounds_toArray, List.set_cons_zero, List.set_cons_succ]
            rfl
          refine pure_ (i := 6) (N := some 87) (v := ?_) (a' := ?_) #[true, true, true, true, true, false, true, false, false, false, false, false, false, false, false, false] rfl rfl (by kernel_rfl) (fun _ _ _ h => h) (Or.inl ⟨by rfl, ?_⟩) ?_ ?_
          rotate_left
          · intro w'
            go_simp
            with_reducible rfl
          rotate_left
          · simp only [Act.put, List.setIfInBounds_toArray, List.set_cons_zero, List.set_cons_succ]
            rfl
          refine pure_ (i := 7) (N := some 88) (v := ?_) (a' := ?_) #[true, true, true, true, true, false, true, true, false, false, false, false, false, false, false, false] rfl rfl (by kernel_rfl) (fun _ _ _ h => h) (Or.inl ⟨by rfl, ?_⟩) ?_ ?_
          rotate_left
          · intro w'
            go_simp
            with_reducible rfl
          rotate_left
          · simp only [Act.put, List.setIfInBounds_toArray, List.set_cons_zero, List.set_cons_succ]
            rfl
          refine pure_ (i := 8) (N := some 89) (v := ?_) (a' := ?_) #[true, true, true, true, true, false, true, true, true, false, false, false, false, false, false, false] rfl rfl (by kernel_rfl) (fun _ _ _ h => h) (Or.inl ⟨by rfl, ?_⟩) ?_ ?_
          rotate_left
          · intro w'
            go_simp
            with_reducible rfl
          rotate_left
          · simp only [Act.put, List.setIfInBounds_toArray, List.set_cons_zero, List.set_cons_succ]
            rfl
          refine pure_ (i := 9) (N := some 90) (v := ?_) (a' := ?_) #[true, true, true, true, true, false, true, true, true, true, false, false, false, false, false, false] rfl rfl (by kernel_rfl) (fun _ _ _ h => h) (Or.inl ⟨by rfl, ?_⟩) ?_ ?_
          rotate_left
          · intro w'
            go_simp
            with_reducible rfl
          rotate_left
          · simp only [Act.put, List.setIfInBounds_toArray, List.set_cons_zero, List.set_cons_succ]
            rfl
          refine pure_ (i := 10) (N := some 91) (v := ?_) (a' := ?_) #[true, true, true, true, true, false, true, true, true, true, true, false, false, false, false, false] rfl rfl (by kernel_rfl) (fun _ _ _ h => h) (Or.inl ⟨by rfl, ?_⟩) ?_ ?_
          rotate_left
          · intro w'
            go_simp
            with_reducible rfl
          rotate_left
          · simp only [Act.put, List.setIfInBounds_toArray, List.set_cons_zero, List.set_cons_succ]
            rfl
          refine take_ (i := 5) (N := some 86) (v := ?_) (a' := ?_) #[true, true, true, true, true, true, true, true, true, true, true, false, false, false, false, false] rfl rfl (by kernel_rfl) (fun _ _ _ h => h) (Or.inl ⟨by rfl, ?_⟩) hHeld ?_ ?_
          rotate_left
          · rintro w' ⟨s0, s1⟩
            go_simp
            with_reducible rfl
          rotate_left
          · simp only [Act.put, List.setIfInBounds_toArray, List.set_cons_zero, List.set_cons_succ]
            rfl
          refine take_ (i := 11) (N := some 92) (v := ?_) (a' := ?_) #[true, true, true, true, true, true, true, true, true, true, true, true, false, false, false, false] rfl rfl (by kernel_rfl) (fun _ _ _ h => h) (Or.inl ⟨by rfl, ?_⟩) hHeld ?_ ?_
          rotate_left
          · rintro w' ⟨s0, s1⟩
            go_simp
            with_reducible rfl
          rotate_left
          · simp only [Act.put, List.setIfInBounds_toArray, List.set_cons_zero, List.set_cons_succ]
            rfl
          refine pure_ (i := 12) (N := some 93) (v := ?_) (a' := ?_) #[true, true, true, true, true, true, true, true, true, true, true, true, true, false, false, false] rfl rfl (by kernel_rfl) (fun _ _ _ h => h) (Or.inl ⟨by rfl, ?_⟩) ?_ ?_
          rotate_left
          · intro w'
            go_simp
            with_reducible rfl
          rotate_left
          · simp only [Act.put, List.setIfInBounds_toArray, List.set_cons_zero, List.set_cons_succ]
            rfl
          refine one_ (i := 13) (N := some 94) #[true, true, true, true, true, true, true, true, true, true, true, true, true, true, false, false] rfl rfl (by kernel_rfl) (by decide) (fun K hK => ?_)
          go_simp
          have hsz6 := hb6.size
          refine hK.out _ _ ⟨(World.cell?_alloc_old _ _ _ (by simp; omega)).trans ql, (World.cell?_alloc_old _ _ _ (by simp; omega)).trans qv6⟩ (fun hHeld => ?_)
          clear hK K
          have hr6 := ownsRow_below hO.out hb6
          refine one_ (i := 14) (N := some 95) #[true, true, true, true, true, true, true, true, true, true, true, true, true, true, true, false] rfl rfl (by kernel_rfl) (by decide) (fun K hK => ?_)
          refine step_append_cells (w0 := w6) (W := w6) (w.heap.size + 3) (by rfl) (.tmp 81) (.tmp 94) 26 29 (.agg #[.string ⟨#[]⟩, .string ⟨#[]⟩]) 2 32 rfl Tryd.underlying26 Pairs_info (by rfl) (by decide) (by decide) _ _ _ [.string (rb pLow (n % 4)), .string V] (by rfl) (by rfl) rfl (by simp [Value.oneCell']) hr6 (Below.refl _ _) (by omega) (by omega) ?_
          intro v7 w7 hown7 _ hg7 _
          have hB7 : Below (w.heap.size + 3) w6 w7 := (Below.refl _ w6).grown hg7 (by omega) (fun r e => own_base hr6 r e)
          refine hK.out _ _ ⟨(hB7.cell (p := ⟨w.heap.size + 1, n % 4, none⟩) (by simp)).trans ql, (hB7.cell (p := ⟨w.heap.size + 1 + 1, n / 4 % 5, none⟩) (by simp)).trans qv6⟩ (fun hHeld => ?_)
          clear hK K
          obtain ⟨g', cap', rfl⟩ := ownsRow_succ hown7
          refine norm_ (a' := ?_) ?_ ?_
          rotate_left
          · show Act.put _ (some 95) _ = _
            simp only [Act.put, List.setIfInBounds_toArray, List.set_cons_zero, List.set_cons_succ]
            rfl
          refine pure_ (i := 15) (N := some 9) (v := ?_) (a' := ?_) #[true, true, true, true, true, true, true, true, true, true, true, true, true, true, true, true] rfl rfl (by kernel_rfl) (fun _ _ _ h => h) (Or.inl ⟨by rfl, ?_⟩) ?_ ?_
          rotate_left
          · intro w'
            go_simp
            with_reducible rfl
          rotate_left
          · simp only [Act.put, List.setIfInBounds_toArray, List.set_cons_zero, List.set_cons_succ]
            rfl
          refine done_ (by kernel_rfl) ?_
          go_wp2
          go_roundg (gk - 1)
          case measure => omega
          case rel =>
            refine ⟨m + 1, _, want ++ [pPair n], rfl, rfl, by omega, ⟨?_, ?_⟩, ⟨?_⟩, ⟨hB6.trans (hB7.mono (by omega))⟩⟩
            · show _ = pStep (laid l0 a1 m).1 (lowN (rd l0 m) 40) (gapOf a1 m)
              rw [HN.out, HGG.out, ← hL.out.1]
              simp only [pStep, hG, hNm, hV, hT]
              rw [if_pos (.inr k2)]
            · show _ = (laid l0 a1 m).2 ++ [pPair (lowN (rd l0 m) 40)]
              rw [HN.out, ← hL.out.2]
            · rw [List.flatMap_append]
              simpa [pPair, pairCells, hV] using hown7
        · rw [if_neg (by omega)] at hs2
          go_upto_region 15 with (fail)
          rw [← hs2]
          have o5 : (9223372036854775807 < s2.size + G.size) = False := eq_false (by omega)
          have o6 : (9223372036854775807 < s2.size + G.size + 1) = False := eq_false (by omega)
          have o7 : (9223372036854775807 < s2.size + G.size + 1 + T.size) = False := eq_false (by omega)
          go_upto_region 16 with (fail)
          have hb5 : Below wr.heap.size wr (w3.alloc (.cells #[.string ⟨#[]⟩, .string ⟨#[59]⟩, .string ⟨#[32, 59, 32]⟩] 9)) := hb3.alloc hz3 _
          generalize w3.alloc _ = w5 at hb5 ⊢
          have hb6 := below_drew1 hb5
          clear hb5
          have hB6 := hB.out.trans (hb6.mono hs1)
          have ql : w5.drew.cell? ⟨w.heap.size + 1, n % 4, none⟩ = some (.string (rb pLow (n % 4))) := by
            rw [hB6.cell (p := ⟨w.heap.size + 1, n % 4, none⟩) (by simp; omega)]; simp only [World.cell?, hk1]; exact cells_at pLow _ n44
          have qv6 : w5.drew.cell? ⟨w.heap.size + 1 + 1, n / 4 % 5, none⟩ = some (.string V) := by
            rw [← hV, hB6.cell (p := ⟨w.heap.size + 1 + 1, n / 4 % 5, none⟩) (by simp; omega)]; simp only [World.cell?, hk2]; exact cells_at pVals _ n55
          have f1 : 0 ≤ (n : Int) % 4 := by omega
          have f2 : (n : Int) % 4 < 4 := by omega
          have f3 : ((n : Int) % 4).toNat = n % 4 := by omega
          have f4 : IntKind.i64.wrap ((n : Int) / 4) = (n : Int) / 4 := by rw [IntKind.wrap_i64]; omega
          have f5 : Int.tmod ((n : Int) / 4) 5 = (n : Int) / 4 % 5 := Int.tmod_eq_emod_of_nonneg (by omega)
          have f6 : 0 ≤ (n : Int) / 4 % 5 := by omega
          have f7 : (n : Int) / 4 % 5 < 5 := by omega
          have f8 : ((n : Int) / 4 % 5).toNat = n / 4 % 5 := by omega
          refine start_ (n := 16) (S := fun w' => w'.cell? ⟨w.heap.size + 1, n % 4, none⟩ = some (.string (rb pLow (n % 4))) ∧ w'.cell? ⟨w.heap.size + 1 + 1, n / 4 % 5, none⟩ = some (.string V)) (ds := []) #[false, false, false, false, false, false, false, false, false, false, false, false, false, false, false, false] (by kernel_rfl) rfl rfl ⟨ql, qv6⟩ (fun hHeld => ?_)
          clear qv qn o1 o2 o3 o4 o5 o6 o7 o8 o9 hcT
          generalize World.drew w5 = w6 at hb6 hB6 ql qv6 hHeld ⊢
          refine pure_ (i := 0) (N := some 81) (v := ?_) (a' := ?_) #[true, false, false, false, false, false, false, false, false, false, false, false, false, false, false, false] rfl rfl (by kernel_rfl) (fun _ _ _ h => h) (Or.inl ⟨by rfl, ?_⟩) ?_ ?_
          rotate_left
          · intro w'
            go_simp
            with_reducible rfl
          rotate_left
          · simp only [Act.put, List.setIfInBounds_toArray, List.set_cons_zero, List.set_cons_succ]
            rfl
          refine pure_ (i := 1) (N := some 82) (v := ?_) (a' := ?_) #[true, true, false, false, false, false, false, false, false, false, false, false, false, false, false, false] rfl rfl (by kernel_rfl) (fun _ _ _ h => h) (Or.inl ⟨by rfl, ?_⟩) ?_ ?_
          rotate_left
          · intro w'
            go_simp
            with_reducible rfl
          rotate_left
          · simp only [Act.put, List.setIfInBounds_toArray, List.set_cons_zero, List.set_cons_succ]
            rfl
          refine pure_ (i := 2) (N := some 83) (v := ?_) (a' := ?_) #[true, true, true, false, false, false, false, false, false, false, false, false, false, false, false, false] rfl rfl (by kernel_rfl) (fun _ _ _ h => h) (Or.inl ⟨by rfl, ?_⟩) ?_ ?_
          rotate_left
          · intro w'
            go_simp
            with_reducible rfl
          rotate_left
          · simp only [Act.put, List.setIfInBounds_toArray, List.set_cons_zero, List.set_cons_succ]
            rfl
          refine pure_ (i := 3) (N := some 84) (v := ?_) (a' := ?_) #[true, true, true, true, false, false, false, false, false, false, false, false, false, false, false, false] rfl rfl (by kernel_rfl) (fun _ _ _ h => h) (Or.inl ⟨by rfl, ?_⟩) ?_ ?_
          rotate_left
          · intro w'
            go_simp
            with_reducible rfl
          rotate_left
          · simp only [Act.put, List.setIfInBounds_toArray, List.set_cons_zero, List.set_cons_succ]
            rfl
          refine pure_ (i := 4) (N := some 85) (v := ?_) (a' := ?_) #[true, true, true, true, true, false, false, false, false, false, false, false, false, false, false, false] rfl rfl (by kernel_rfl) (fun _ _ _ h => h) (Or.inl ⟨by rfl, ?_⟩) ?_ ?_
          rotate_left
          · intro w'
            go_simp
            with_reducible rfl
          rotate_left
          · simp only [Act.put, List.setIfInBounds_toArray, List.set_cons_zero, List.set_cons_succ]
            rfl
          refine pure_ (i := 6) (N := some 87) (v := ?_) (a' := ?_) #[true, true, true, true, true, false, true, false, false, false, false, false, false, false, false, false] rfl rfl (by kernel_rfl) (fun _ _ _ h => h) (Or.inl ⟨by rfl, ?_⟩) ?_ ?_
          rotate_left
          · intro w'
            go_simp
            with_reducible rfl
          rotate_left
          · simp only [Act.put, List.setIfInBounds_toArray, List.set_cons_zero, List.set_cons_succ]
            rfl
          refine pure_ (i := 7) (N := some 88) (v := ?_) (a' := ?_) #[true, true, true, true, true, false, true, true, false, false, false, false, false, false, false, false] rfl rfl (by kernel_rfl) (fun _ _ _ h => h) (Or.inl ⟨by rfl, ?_⟩) ?_ ?_
          rotate_left
          · intro w'
            go_simp
            with_reducible rfl
          rotate_left
          · simp only [Act.put, List.setIfInBounds_toArray, List.set_cons_zero, List.set_cons_succ]
            rfl
          refine pure_ (i := 8) (N := some 89) (v := ?_) (a' := ?_) #[true, true, true, true, true, false, true, true, true, false, false, false, false, false, false, false] rfl rfl (by kernel_rfl) (fun _ _ _ h => h) (Or.inl ⟨by rfl, ?_⟩) ?_ ?_
          rotate_left
          · intro w'
            go_simp
            with_reducible rfl
          rotate_left
          · simp only [Act.put, List.setIfInBounds_toArray, List.set_cons_zero, List.set_cons_succ]
            rfl
          refine pure_ (i := 9) (N := some 90) (v := ?_) (a' := ?_) #[true, true, true, true, true, false, true, true, true, true, false, false, false, false, false, false] rfl rfl (by kernel_rfl) (fun _ _ _ h => h) (Or.inl ⟨by rfl, ?_⟩) ?_ ?_
          rotate_left
          · intro w'
            go_simp
            with_reducible rfl
          rotate_left
          · simp only [Act.put, List.setIfInBounds_toArray, List.set_cons_zero, List.set_cons_succ]
            rfl
          refine pure_ (i := 10) (N := some 91) (v := ?_) (a' := ?_) #[true, true, true, true, true, false, true, true, true, true, true, false, false, false, false, false] rfl rfl (by kernel_rfl) (fun _ _ _ h => h) (Or.inl ⟨by rfl, ?_⟩) ?_ ?_
          rotate_left
          · intro w'
            go_simp
            with_reducible rfl
          rotate_left
          · simp only [Act.put, List.setIfInBounds_toArray, List.set_cons_zero, List.set_cons_succ]
            rfl
          refine take_ (i := 5) (N := some 86) (v := ?_) (a' := ?_) #[true, true, true, true, true, true, true, true, true, true, true, false, false, false, false, false] rfl rfl (by kernel_rfl) (fun _ _ _ h => h) (Or.inl ⟨by rfl, ?_⟩) hHeld ?_ ?_
          rotate_left
          · rintro w' ⟨s0, s1⟩
            go_simp
            with_reducible rfl
          rotate_left
          · simp only [Act.put, List.setIfInBounds_toArray, List.set_cons_zero, List.set_cons_succ]
            rfl
          refine take_ (i := 11) (N := some 92) (v := ?_) (a' := ?_) #[true, true, true, true, true, true, true, true, true, true, true, true, false, false, false, false] rfl rfl (by kernel_rfl) (fun _ _ _ h => h) (Or.inl ⟨by rfl, ?_⟩) hHeld ?_ ?_
          rotate_left
          · rintro w' ⟨s0, s1⟩
            go_simp
            with_reducible rfl
          rotate_left
          · simp only [Act.put, List.setIfInBounds_toArray, List.set_cons_zero, List.set_cons_succ]
            rfl
          refine pure_ (i := 12) (N := some 93) (v := ?_) (a' := ?_) #[true, true, true, true, true, true, true, true, true, true, true, true, true, false, false, false] rfl rfl (by kernel_rfl) (fun _ _ _ h => h) (Or.inl ⟨by rfl, ?_⟩) ?_ ?_
          rotate_left
          · intro w'
            go_simp
            with_reducible rfl
          rotate_left
          · simp only [Act.put, List.setIfInBounds_toArray, List.set_cons_zero, List.set_cons_succ]
            rfl
          refine one_ (i := 13) (N := some 94) #[true, true, true, true, true, true, true, true, true, true, true, true, true, true, false, false] rfl rfl (by kernel_rfl) (by decide) (fun K hK => ?_)
          go_simp
          have hsz6 := hb6.size
          refine hK.out _ _ ⟨(World.cell?_alloc_old _ _ _ (by simp; omega)).trans ql, (World.cell?_alloc_old _ _ _ (by simp; omega)).trans qv6⟩ (fun hHeld => ?_)
          clear hK K
          have hr6 := ownsRow_below hO.out hb6
          refine one_ (i := 14) (N := some 95) #[true, true, true, true, true, true, true, true, true, true, true, true, true, true, true, false] rfl rfl (by kernel_rfl) (by decide) (fun K hK => ?_)
          refine step_append_cells (w0 := w6) (W := w6) (w.heap.size + 3) (by rfl) (.tmp 81) (.tmp 94) 26 29 (.agg #[.string ⟨#[]⟩, .string ⟨#[]⟩]) 2 32 rfl Tryd.underlying26 Pairs_info (by rfl) (by decide) (by decide) _ _ _ [.string (rb pLow (n % 4)), .string V] (by rfl) (by rfl) rfl (by simp [Value.oneCell']) hr6 (Below.refl _ _) (by omega) (by omega) ?_
          intro v7 w7 hown7 _ hg7 _
          have hB7 : Below (w.heap.size + 3) w6 w7 := (Below.refl _ w6).grown hg7 (by omega) (fun r e => own_base hr6 r e)
          refine hK.out _ _ ⟨(hB7.cell (p := ⟨w.heap.size + 1, n % 4, none⟩) (by simp)).trans ql, (hB7.cell (p := ⟨w.heap.size + 1 + 1, n / 4 % 5, none⟩) (by simp)).trans qv6⟩ (fun hHeld => ?_)
          clear hK K
          obtain ⟨g', cap', rfl⟩ := ownsRow_succ hown7
          refine norm_ (a' := ?_) ?_ ?_
          rotate_left
          · show Act.put _ (some 95) _ = _
            simp only [Act.put, List.setIfInBounds_toArray, List.set_cons_zero, List.set_cons_succ]
            rfl
          refine pure_ (i := 15) (N := some 9) (v := ?_) (a' := ?_) #[true, true, true, true, true, true, true, true, true, true, true, true, true, true, true, true] rfl rfl (by kernel_rfl) (fun _ _ _ h => h) (Or.inl ⟨by rfl, ?_⟩) ?_ ?_
          rotate_left
          · intro w'
            go_simp
            with_reducible rfl
          rotate_left
          · simp only [Act.put, List.setIfInBounds_toArray, List.set_cons_zero, List.set_cons_succ]
            rfl
          refine done_ (by kernel_rfl) ?_
          go_wp2
          go_roundg (gk - 1)
          case measure => omega
          case rel =>
            refine ⟨m + 1, _, want ++ [pPair n], rfl, rfl, by omega, ⟨?_, ?_⟩, ⟨?_⟩, ⟨hB6.trans (hB7.mono (by omega))⟩⟩
            · show _ = pStep (laid l0 a1 m).1 (lowN (rd l0 m) 40) (gapOf a1 m)
              rw [HN.out, HGG.out, ← hL.out.1]
              simp only [pStep, hG, hNm, hV, hT]
              rw [if_neg (by omega)]
            · show _ = (laid l0 a1 m).2 ++ [pPair (lowN (rd l0 m) 40)]
              rw [HN.out, ← hL.out.2]
            · rw [List.flatMap_append]
              simpa [pPair, pairCells, hV] using hown7
    · -- END
      have hml : m = l0.length := by omega
      subst hml
      have hsl := laid_size l0 a1 l0.length
      rw [← hL.out.1] at hsl
      have hPc := Pairs_calls s (by omega)
      have hres := HP.out
      rw [← hL.out.1, ← hL.out.2] at hres
      rw [hres] at hPc
      go_wp2_with fail
      refine (hPc _).mono ?_
      rintro e w2 ⟨v2, rfl, hO2, hb2⟩
      have hlen := laid_len l0 a1 l0.length
      rw [← hL.out.2] at hlen
      rw [hlen] at hO2
      have hO9 := ownsRow_below hO.out hb2
      obtain ⟨o2, c2, rfl, g2⟩ := slice_of hO2
      obtain ⟨o9, c9, rfl, g9⟩ := slice_of hO9
      have HL := Aside0.mk hlen
      have HO2 := Aside0.mk hO2
      have HO9 := Aside0.mk hO9
      have G2 := Aside0.mk g2
      have G9 := Aside0.mk g9
      have hz2 := hb2.size
      have HW := Aside0.mk (hb0.trans (hB.out.mono (by omega)))
      clear hlen hO2 hO9 g2 g9 hO hPc hres hL HP
      go_wp2_with fail
      go_loopg [14] l0.length (fun k v14 wx => ∃ i : Nat, v14 = .int .i64 i ∧ i + k = l0.length ∧ Aside0 (Below w2.heap.size w2 wx))
      case atStart => exact ⟨0, rfl, by omega, ⟨Below.refl _ _⟩⟩
      case round =>
        obtain ⟨i, rfl, hik, hBx⟩ := hrel
        by_cases hi : i < l0.length
        · have hi1 : (i : Int) < (l0.length : Int) := by omega
          obtain ⟨b2, rfl⟩ := G2.out (by omega)
          obtain ⟨b9, rfl⟩ := G9.out (by omega)
          obtain ⟨p, hp⟩ : ∃ p, want[i]? = some p := ⟨_, List.getElem?_eq_getElem (by rw [HL.out]; exact hi)⟩
          obtain ⟨x1, x2⟩ := pair_flat want i p hp
          have q1 := (ownsRow_below HO2.out hBx.out).cellAt (i * 2) (by omega)
          have q2 := (ownsRow_below HO2.out hBx.out).cellAt (i * 2 + 1) (by omega)
          have q3 := (ownsRow_below HO9.out hBx.out).cellAt (i * 2) (by omega)
          have q4 := (ownsRow_below HO9.out hBx.out).cellAt (i * 2 + 1) (by omega)
          rw [x1] at q1 q3
          rw [x2] at q2 q4
          have hsame := eq_pair_same p.1 p.2
          clear x1 x2 hp
          go_wp2_with fail
          go_quiet (fail)
          go_wp2_with fail
          go_roundg (gk - 1)
          case measure => omega
          case rel => exact ⟨i + 1, rfl, by omega, ⟨pw_below_drewN hBx.out _⟩⟩
        · go_wp2_with fail
          refine (moatlaw3_awake.calls true _ rfl).mono ?_
          rintro e w3 ⟨rfl, hb3⟩
          go_wp2
          go_ret
          have hzx := hBx.out.size
          exact ⟨rfl, ((HW.out.trans (hb2.mono (by omega))).trans (hBx.out.mono (by omega))).trans (hb3.mono (by omega))⟩
end Go.Proofs.YtfmppmabnpkooaaDoor
