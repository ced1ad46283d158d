/- FieldPairs, the plain law: what the numbers lay is read as the pairs that they tell. -/
import Derived.Test.YtfmppmabnpkooaaDoorWalkPairs
import Derived.Test.YtfmppmabnpkooaaDoorPlain0
set_option linter.unusedSimpArgs false
set_option linter.unusedVariables false
namespace Go.Proofs.YtfmppmabnpkooaaDoor
open Go Go.RowKit Go.Proofs.YtfmppmabnpkooaaDoorW.PrintWords

def pairsL (q : List (List UInt8)) : List (List UInt8 × List UInt8) := (q.filter fun x => decide (trimL x ≠ [])).map fun x => (lowL (trimL (cutA 61 (trimL x))), trimL (cutZ 61 (trimL x)))
def bodyL (n g : Nat) : List UInt8 :=
  (rb pGaps g).data.toList ++ (rb pNames (n % 4)).data.toList ++ (if 0 < n / 4 % 5 ∨ 20 ≤ n then (rb pGaps g).data.toList ++ [61] ++ (rb pGaps g).data.toList ++ (rb pVals (n / 4 % 5)).data.toList else []) ++ (rb pGaps g).data.toList
def moreL (n : Nat) : List (List UInt8) := match n % 3 with | 0 => [] | 1 => splitL 59 [] | _ => splitL 59 [32]
def restL (n : Nat) : List UInt8 := match n % 3 with | 0 => [] | 1 => [] | _ => [32]

def pairB2 (b : Bool) (n g : Nat) : Bool :=
  decide (pairsL (splitL 59 ((if b then [32] else []) ++ bodyL n g) ++ moreL n) = [((rb pLow (n % 4)).data.toList, (rb pVals (n / 4 % 5)).data.toList)])
theorem pair_all : ∀ n < 40, ∀ g < 4, (pairB2 true n g && pairB2 false n g) = true := by decide +kernel
theorem pair_case (t : List UInt8) (ht : t = [] ∨ t = [32]) (n g : Nat) (hn : n < 40) (hg : g < 4) :
    pairsL (splitL 59 (t ++ bodyL n g) ++ moreL n) = [((rb pLow (n % 4)).data.toList, (rb pVals (n / 4 % 5)).data.toList)] := by
  have h := pair_all n hn g hg
  rw [Bool.and_eq_true] at h
  rcases ht with rfl | rfl
  · exact of_decide_eq_true h.2
  · exact of_decide_eq_true h.1

theorem tail_list (n : Nat) : (rb pTail (n % 3)).data.toList = (match n % 3 with | 0 => [] | 1 => [59] | _ => [32, 59, 32]) := by
  have : ∀ k < 3, (rb pTail k).data.toList = (match k with | 0 => [] | 1 => [59] | _ => [32, 59, 32]) := by decide +kernel
  exact this _ (Nat.mod_lt _ (by decide))

theorem chunk_split (t rest : List UInt8) (n g : Nat) :
    splitL 59 (t ++ (bodyL n g ++ 59 :: ((rb pTail (n % 3)).data.toList ++ rest))) = (splitL 59 (t ++ bodyL n g) ++ moreL n) ++ splitL 59 (restL n ++ rest) := by
  rw [← List.append_assoc, splitL_append, tail_list]
  unfold moreL restL
  have h3 : n % 3 < 3 := Nat.mod_lt _ (by decide)
  generalize n % 3 = k at h3
  match k, h3 with
  | 0, _ => simp
  | 1, _ =>
    have := splitL_append 59 [] rest
    rw [List.nil_append] at this
    simp only [List.cons_append, List.nil_append]
    rw [this, List.append_assoc]
  | 2, _ =>
    have := splitL_append 59 [32] (32 :: rest)
    simp only [List.cons_append, List.nil_append] at this ⊢
    rw [this, List.append_assoc]

theorem step_list (s : ByteArray) (n g : Nat) : (pStep s n g).data.toList = s.data.toList ++ (bodyL n g ++ 59 :: (rb pTail (n % 3)).data.toList) := by
  unfold pStep bodyL
  split <;> simp [ByteArray.data_append, List.append_assoc]

theorem laid_cut (l0 : List Int) (a1 : Int) : ∀ m : Nat, ∃ q t, (t = [] ∨ t = [32]) ∧ (∀ rest, splitL 59 ((laid l0 a1 m).1.data.toList ++ rest) = q ++ splitL 59 (t ++ rest)) ∧ pairsL q = (laid l0 a1 m).2.map fun p => (p.1.data.toList, p.2.data.toList)
  | 0 => ⟨[], [], .inl rfl, fun rest => rfl, rfl⟩
  | m + 1 => by
    obtain ⟨q, t, ht, h1, h2⟩ := laid_cut l0 a1 m
    have hn := lowN_lt (rd l0 m) 40 (by decide)
    have hg := gapOf_lt a1 m
    have hp := pair_case t ht (lowN (rd l0 m) 40) (gapOf a1 m) (by omega) hg
    refine ⟨q ++ (splitL 59 (t ++ bodyL (lowN (rd l0 m) 40) (gapOf a1 m)) ++ moreL (lowN (rd l0 m) 40)), restL (lowN (rd l0 m) 40), ?_, ?_, ?_⟩
    · unfold restL; split <;> simp
    · intro rest
      show splitL 59 ((pStep (laid l0 a1 m).1 (lowN (rd l0 m) 40) (gapOf a1 m)).data.toList ++ rest) = _
      rw [step_list, List.append_assoc, h1, List.append_assoc, List.cons_append, chunk_split]
      simp only [List.append_assoc]
    · show _ = ((laid l0 a1 m).2 ++ [pPair (lowN (rd l0 m) 40)]).map _
      unfold pairsL at *
      rw [List.filter_append, List.map_append, h2, hp, List.map_append]
      rfl

theorem pairs_inj : ∀ a b : List (ByteArray × ByteArray), a.map (fun p => (p.1.data.toList, p.2.data.toList)) = b.map (fun p => (p.1.data.toList, p.2.data.toList)) → a = b
  | [], [], _ => rfl
  | [], _ :: _, h => by cases h
  | _ :: _, [], h => by cases h
  | (x, x') :: a, (y, y') :: b, h => by
    simp only [List.map_cons, List.cons.injEq, Prod.mk.injEq] at h
    rw [pairs_inj a b h.2, show x = y from ByteArray.ext (Array.toList_inj.1 h.1.1), show x' = y' from ByteArray.ext (Array.toList_inj.1 h.1.2)]

theorem pairsF_list (s : ByteArray) : (pairsF (pieces 59 s)).map (fun p => (p.1.data.toList, p.2.data.toList)) = pairsL (splitL 59 s.data.toList) := by
  unfold pairsF pairsL
  rw [← pieces_split, List.filter_map, List.map_map, List.map_map]
  rfl

theorem laid_pairs (l0 : List Int) (a1 : Int) (m : Nat) : pairsF (pieces 59 (laid l0 a1 m).1) = (laid l0 a1 m).2 := by
  obtain ⟨q, t, ht, h1, h2⟩ := laid_cut l0 a1 m
  refine pairs_inj _ _ ?_
  have h3 := h1 []
  rw [List.append_nil, List.append_nil] at h3
  rw [pairsF_list, h3]
  unfold pairsL at *
  rw [List.filter_append, List.map_append, h2]
  have : (((splitL 59 t).filter fun x => decide (trimL x ≠ [])).map fun x => (lowL (trimL (cutA 61 (trimL x))), trimL (cutZ 61 (trimL x)))) = [] := by
    rcases ht with rfl | rfl <;> decide +kernel
  rw [this, List.append_nil]

theorem FieldPairs_walk (A0 : Option Addr) (c0 : Nat) (l0 : List Int) (a1 : Int) (w : World) (hr0 : Kd.C (Kd.int .i64) w A0 l0.length l0) (hc0 : l0.length ≤ c0) :
    Calls Tryd.prog 5 #[.slice A0 l0.length c0, .int .i64 a1] w fun e w' => e = .returned (.bool true) ∧ Below w.heap.size w w' := by
  by_cases h8 : (l0.length : Int) > 8
  · have h8b : decide (8 < (l0.length : Int)) = true := decide_eq_true h8
    have h8c : decide (8 < l0.length) = true := decide_eq_true (by omega)
    go_enter Tryd.func5, Tryd.ntmps5
    go_wp2_with fail
    refine (moatlaw3_awake.calls true _ rfl).mono ?_
    rintro e w1 ⟨rfl, hb⟩
    go_wp2
    go_ret
    exact ⟨rfl, hb⟩
  · exact fieldPairs_calls A0 c0 l0 a1 w hr0 hc0 h8 (laid_pairs l0 a1 l0.length)
def moatlaw3_FieldPairs.Pure : Prop := True
theorem moatlaw3_FieldPairs.walk (P : moatlaw3_FieldPairs.Pure) (a0 : Option Addr) (len0 cap0 : Nat) (z0 : List Int) (a1 : Int) (w : World) (w0 : (a0 = none ∧ len0 = 0 ∧ cap0 = 0 ∧ z0 = []) ∨ ∃ x, a0 = some x ∧ len0 ≤ cap0 ∧ cap0 ≤ maxLen ∧ z0.length = cap0 ∧ (∀ i, i < z0.length → w.cell? (x.add i) = some (.int .i64 (z0.getD i 0))) ∧ ∀ n ∈ z0, (Lit.int .i64 n).wf = true) (y0 : len0 * 8 ≤ 140737488351232) (w1 : (Lit.int .i64 a1).wf = true) :
    Calls Tryd.prog 5 #[.slice a0 len0 cap0, .int .i64 a1] w fun e w' => e = .returned (.bool true) ∧ Below w.heap.size w w' := by
  obtain ⟨l0, rfl, hr0, hm0, hw0, hc0⟩ := ReadsInt.ofRowC w0
  exact FieldPairs_walk _ _ l0 a1 w (Kd.C_of_reads (d := (0 : Int)) (h1 := fun _ => rfl) hr0) hc0
end Go.Proofs.YtfmppmabnpkooaaDoor
