/- formula's trees: a tree in memory; Text$1: the walk. -/
import Derived.Test.YtmelefiodhnlpaaFoldW
import Derived.Test.YtmelefiodhnlpaaReg
set_option linter.unusedSimpArgs false
set_option linter.unusedVariables false
namespace Go.Proofs.Ytmelefiodhnlpaa
open Go Go.RowKit Go.Proofs.YtmelefiodhnlpaaW.PrintWords Go.Proofs.YtmelefiodhnlpaaW.PrintLast Go.Proofs.YtmelefiodhnlpaaW.PrintMore

def ptrK : Kd (Option Addr) := Kd.scalar Value.pointer (fun _ => rfl)
inductive Tr where
  | node (k a : Int) (of : List Tr)
/-- A tree of a formula's parts, in memory, in blocks of which ok holds. -/
inductive TreeAt (w : World) (ok : Nat → Prop) : Option Addr → Tr → Prop where
  | mk (t : Nat) (k a : Int) (v : Value) (ps : List (Option Addr)) (xs : List Tr) (hb : w.heap[t]? = some (.cells #[.int .i64 k, .int .i64 a, v] 61 (0, 0)))
      (hC : w.ownsRow 0 56 1 v ps.length (encs Value.pointer ps)) (ht : ok t) (hv : ∀ r, v.ownBlock = some r → ok r) (hl : ps.length = xs.length)
      (hs : ∀ (i : Nat) p x, ps[i]? = some p → xs[i]? = some x → TreeAt w ok p x) : TreeAt w ok (some ⟨t, 0, none⟩) (.node k a xs)
theorem row_move {w w' : World} {base base' : Nat} {e : TypeId} {size n : Nat} {v : Value} {xs : List Value} (h : w.ownsRow base e size v n xs) (hb : base' ≤ base) (hk : ∀ r, v.ownBlock = some r → w'.heap[r]? = w.heap[r]?) : w'.ownsRow base' e size v n xs := by
  obtain ⟨h1, h2⟩ := h
  refine ⟨h1, ?_⟩
  rcases h2 with h2 | ⟨g, cap, cur, rfl, h3, h4, h5⟩
  · exact .inl h2
  · exact .inr ⟨g, cap, cur, rfl, by omega, (hk g rfl).trans h4, h5⟩
theorem TreeAt.move {w w' : World} {ok ok' : Nat → Prop} {p : Option Addr} {x : Tr} (h : TreeAt w ok p x) (hk : ∀ k, k < w.heap.size → ok k → ok' k ∧ w'.heap[k]? = w.heap[k]?) : TreeAt w' ok' p x := by
  induction h with
  | mk t k a v ps xs h1 h2 h3 h4 h5 _ ih =>
    have hr : ∀ r, v.ownBlock = some r → r < w.heap.size := own_lt h2
    have h1' := (Array.getElem?_eq_some_iff.1 h1).1
    exact .mk t k a v ps xs ((hk t h1' h3).2.trans h1) (row_move h2 (Nat.le_refl _) (fun r e => (hk r (hr r e) (h4 r e)).2)) (hk t h1' h3).1 (fun r e => (hk r (hr r e) (h4 r e)).1) h5 ih
theorem TreeAt.later {w w' : World} {ok : Nat → Prop} {p : Option Addr} {x : Tr} (h : TreeAt w ok p x) (hb : Below w.heap.size w w') : TreeAt w' ok p x := h.move fun k h1 h2 => ⟨h2, hb.block k h1⟩
def Pts (w : World) (ok : Nat → Prop) (ps : List (Option Addr)) (xs : List Tr) : Prop := ps.length = xs.length ∧ ∀ (i : Nat) p x, ps[i]? = some p → xs[i]? = some x → TreeAt w ok p x
theorem Pts.later {w w' : World} {ok : Nat → Prop} {ps : List (Option Addr)} {xs : List Tr} (h : Pts w ok ps xs) (hb : Below w.heap.size w w') : Pts w' ok ps xs := ⟨h.1, fun i p x h1 h2 => (h.2 i p x h1 h2).later hb⟩

theorem Pts.move {w w' : World} {ok ok' : Nat → Prop} {ps : List (Option Addr)} {xs : List Tr} (h : Pts w ok ps xs) (hk : ∀ k, k < w.heap.size → ok k → ok' k ∧ w'.heap[k]? = w.heap[k]?) : Pts w' ok' ps xs := ⟨h.1, fun i p x h1 h2 => (h.2 i p x h1 h2).move hk⟩
theorem Pts.push {w : World} {ok : Nat → Prop} {ps : List (Option Addr)} {xs : List Tr} {q : Option Addr} {x : Tr} {m n : Nat} (h : Pts w ok ps xs) (hT : TreeAt w ok q x) (hm : m = n) : Pts w ok (ps.take m ++ [q]) (xs.take n ++ [x]) := by
  subst hm
  have hl := h.1
  refine ⟨by simp [hl], fun i p y h1 h2 => ?_⟩
  by_cases hi : i < (ps.take m).length
  · rw [List.getElem?_append_left hi] at h1
    rw [List.getElem?_append_left (by rw [List.length_take, ← hl, ← List.length_take]; exact hi)] at h2
    rw [List.length_take] at hi
    rw [List.getElem?_take, if_pos (by omega)] at h1 h2
    exact h.2 i p y h1 h2
  · have hi2 : ¬ i < (xs.take m).length := by rw [List.length_take, ← hl, ← List.length_take]; exact hi
    rw [List.getElem?_append_right (by omega)] at h1 h2
    have e1 : i - (ps.take m).length = 0 := by
      have := (List.getElem?_eq_some_iff.1 h1).1
      simp only [List.length_singleton] at this
      omega
    have e2 : i - (xs.take m).length = 0 := by rw [List.length_take, ← hl, ← List.length_take]; exact e1
    rw [e1] at h1
    rw [e2] at h2
    cases h1
    cases h2
    exact hT
theorem below_of_grown {w w1 : World} (hg : w.grownBy w1 none) : Below w.heap.size w w1 := ⟨hg.os, hg.tape, hg.output, hg.size, fun k hk => hg.block k hk (by simp)⟩
/-- append to nothing of a row of pointers. -/
theorem append_ptrs (o : Oper) (a : Act) (w : World) (x : Operand) (A : Option Addr) (c : Nat) (ps : List (Option Addr)) (ho : o.op = .call { callee := .builtin .append, args := #[.const (.slice none 0 0), x], argTypes := #[59, 59] })
    (hx : a.eval x = .slice A ps.length c) (hC : Kd.C ptrK w A ps.length ps) (hl : ps.length ≤ 1000) (base : Nat) (hb : base ≤ w.heap.size) :
    ∃ v1 w1, (execOp a.eval o).run Try.prog w = .ok (.value v1) w1 ∧ w1.ownsRow base 56 1 v1 ps.length (encs Value.pointer ps) ∧ Below w.heap.size w w1 ∧ ∀ r, v1.ownBlock = some r → w.heap.size ≤ r ∧ r < w1.heap.size := by
  cases A with
  | none =>
    obtain rfl : ps = [] := by
      cases ps with
      | nil => rfl
      | cons p r =>
        obtain ⟨ad, h, _⟩ := (reads_of_C (d := none) hC).at_ 0 (by omega) (by simp only [List.length_cons]; omega)
        cases h
    refine ⟨.slice none 0 0, w, ?_, World.ownsRow_nil _ _ _ _, Below.refl _ _, fun r e => by cases e⟩
    have hx0 : a.eval x = .slice none 0 c := hx
    unfold execOp
    simp only [ho, resolve, invoke, builtin, Sem.run_bind, Sem.run_pure, Result.andThen_ok, List.map_toArray, List.map_cons, List.map_nil, hx0, show a.eval (.const (.slice none 0 0)) = .slice none 0 0 from rfl]
    obtain ⟨i0, hi0, hz0, hz1, hz2⟩ := info_parts (show (Try.prog.info? 56).map (fun i => (i.zero, i.size, i.bytes)) = some (some (.pointer none), 1, 8) by kernel_rfl)
    have hut := Try.underlying59
    simp [Builtin.append_, go_sem, hut, hi0, hz0, hz1]
  | some ad =>
    obtain ⟨v1, w1, hr, hown, hg, hat⟩ := append_run (P := Try.prog) (oi := o) (a := a) (W := w) base (.const (.slice none 0 0)) x 59 56 (.pointer none) 1 8 ho Try.underlying59 (by kernel_rfl) rfl (by decide) (by decide)
      (.slice none 0 0) 0 [] (encs Value.pointer ps) rfl ad ps.length c hx (by simp [encs]) (fun u hu => by
        obtain ⟨p, _, rfl⟩ := List.mem_map.1 hu
        rfl) (World.ownsRow_nil _ _ _ _) (fun j u hj => by
          have hj2 := hj
          simp only [encs, List.getElem?_map, Option.map_eq_some_iff] at hj2
          obtain ⟨p, hp, rfl⟩ := hj2
          have hjl := (List.getElem?_eq_some_iff.1 hp).1
          obtain ⟨ad', e, hc⟩ := (reads_of_C (d := none) hC).2.2 (by omega)
          cases e
          rw [hc j hjl, List.getD_eq_getElem?_getD, hp]; rfl) hb (by omega)
    refine ⟨v1, w1, hr, ?_, ?_, ?_⟩
    · simpa using hown
    · exact below_of_grown hg
    · intro r hr
      rcases hat with h | h
      · rw [h] at hr; cases hr
      · rw [h] at hr
        cases hr
        exact ⟨Nat.le_refl _, (World.ownsRow.lt hown _ h).2⟩
theorem step_ptrs {P : Program} {ops : Array Oper} {oi : Oper} {a : Act} {w : World} {K : Value → World → Prop} {base : Nat} {e : TypeId} {n : Nat} {xs : List Value} (hw : Region.wanted oi (yielded ops a.tmps) = true)
    (h : ∃ v1 w1, (execOp a.eval oi).run P w = .ok (.value v1) w1 ∧ w1.ownsRow base e 1 v1 n xs ∧ Below w.heap.size w w1 ∧ ∀ r, v1.ownBlock = some r → w.heap.size ≤ r ∧ r < w1.heap.size)
    (hk : ∀ v1 w1, w1.ownsRow base e 1 v1 n xs → Below w.heap.size w w1 → (∀ r, v1.ownBlock = some r → w.heap.size ≤ r ∧ r < w1.heap.size) → K v1 w1) : StepF P ops oi a w K := by
  obtain ⟨v1, w1, hr, h1, h2, h3⟩ := h
  exact step_val hw hr (hk v1 w1 h1 h2 h3)

set_option maxRecDepth 100000 in
set_option maxHeartbeats 1000000 in
theorem Text1_calls (k a : Int) (A : Option Addr) (c : Nat) (ps : List (Option Addr)) (xs : List Tr) (w : World) (hC : Kd.C ptrK w A ps.length ps) (ok : Nat → Prop) (hok : ∀ k, w.heap.size ≤ k → ok k) (hP0 : Pts w ok ps xs) (hl : ps.length ≤ 1000) :
    Calls Try.prog 19 #[.agg #[.int .i64 k, .int .i64 a], .slice A ps.length c] w fun e w' => ∃ q, e = .returned (.pointer q) ∧ (TreeAt w' ok q (.node k a xs) ∧ Below w.heap.size w w') := by
  have hb0 : Below w.heap.size w (w.alloc (.cells #[.int .i64 k, .int .i64 a] 32)) := (Below.refl _ w).alloc (Nat.le_refl _) _
  have HN := Lib.hid (heap_alloc_new w (.cells #[.int .i64 k, .int .i64 a] 32))
  have HC := Kd.C_below hC hb0
  have hP := hP0.later hb0
  have hs0 : (w.alloc (.cells #[.int .i64 k, .int .i64 a] 32)).heap.size = w.heap.size + 1 := by simp
  have HB0 := Lib.hid hb0
  clear hC hP0 hb0
  go_enter Try.func19, Try.ntmps19
  go_upto_region 1 with (fail)
  generalize w.alloc (.cells #[.int .i64 k, .int .i64 a] 32) = W0 at *
  refine region_plan (tk := false) (m := 6) (by kernel_rfl) (by kernel_rfl) (fun W hW => ?_)
  have hWW : Below W0.heap.size W0 W := by rw [hW]; exact below_drew1 (Below.refl _ _)
  have HK := fun (w' : World) (hb : Below W.heap.size W w') => show w'.cell? ⟨w.heap.size, 0, none⟩ = some (.int .i64 k) ∧ w'.cell? ⟨w.heap.size, 1, none⟩ = some (.int .i64 a) by
    have h1 := ((hWW.trans (hb.mono hWW.size)).block w.heap.size (by omega)).trans HN.out
    constructor <;> simp [World.cell?, h1]
  replace HC := Kd.C_below HC hWW
  have hzW := hWW.size
  have HBW := Lib.hid hWW
  clear hW hWW
  -- PLAN
  refine plan_fix (N := some 5) (v := ?_) (a' := ?_) rfl rfl (fun u w' hBr hvr => step_val (by rfl) ?_ ⟨rfl, Below.refl _ _⟩) ?_ ?_
  rotate_left 2
  · obtain ⟨k0, k1⟩ := HK w' hBr
    go_simp
    with_reducible rfl
  · intro u
    simp only [Act.put, List.setIfInBounds_toArray, List.set_cons_zero, List.set_cons_succ]
    rfl
  refine plan_fix (N := some 6) (v := ?_) (a' := ?_) rfl rfl (fun u w' hBr hvr => step_val (by rfl) ?_ ⟨rfl, Below.refl _ _⟩) ?_ ?_
  rotate_left 2
  · go_simp
    with_reducible rfl
  · intro u
    simp only [Act.put, List.setIfInBounds_toArray, List.set_cons_zero, List.set_cons_succ]
    rfl
  refine plan_new (N := some 7) (V := fun x w => w.ownsRow W0.heap.size 56 1 x ps.length (encs Value.pointer ps)) (a' := ?_) rfl rfl (stable_own _ _ _ _ _) (fun u w' hBr hvr => ?_) ?_ ?_
  rotate_left
  · exact step_ptrs (by rfl) (append_ptrs _ _ w' (.tmp 6) A c ps rfl (by rfl) (Kd.C_below HC hBr) hl W0.heap.size (Nat.le_trans hzW hBr.size)) (fun _ _ h1 h2 h3 => ⟨h1, h2, h3⟩)
  · intro u
    simp only [Act.put, List.setIfInBounds_toArray, List.set_cons_zero, List.set_cons_succ]
    rfl
  refine plan_new (N := some 8) (V := fun x w => ∃ v', x = .agg #[.int .i64 k, .int .i64 a, v'] ∧ w.ownsRow W0.heap.size 56 1 v' ps.length (encs Value.pointer ps)) (a' := ?_) rfl rfl (stable_below (fun u w w' h hb => by obtain ⟨v', h1, h2⟩ := h; exact ⟨v', h1, ownsRow_below' h2 hb⟩)) (fun u w' hBr hvr => ?_) ?_ ?_
  rotate_left
  · obtain ⟨hu, _⟩ := hvr _ List.mem_cons_self (by kernel_rfl)
    refine step_val (x := .agg #[.int .i64 k, .int .i64 a, u 2]) (w' := w') (by rfl) ?_ ⟨⟨_, rfl, hu⟩, Below.refl _ _, fun r e => by cases e⟩
    obtain ⟨oa, c', hsl, _⟩ := own_reads_of (d := none) hu
    simp only at hsl
    go_simp
  · intro u
    simp only [Act.put, List.setIfInBounds_toArray, List.set_cons_zero, List.set_cons_succ]
    rfl
  refine plan_new (N := some 9) (V := fun x w => ∃ q, x = .pointer q ∧ TreeAt w ok q (.node k a xs)) (a' := ?_) rfl rfl (stable_below (fun u w w' h hb => by obtain ⟨q, h1, h2⟩ := h; exact ⟨q, h1, h2.later hb⟩)) (fun u w' hBr hvr => ?_) ?_ ?_
  rotate_left
  · obtain ⟨⟨v', hu, hcc⟩, _⟩ := hvr _ List.mem_cons_self (by kernel_rfl)
    have hba : Below w'.heap.size w' (w'.alloc (.cells #[.int .i64 k, .int .i64 a, v'] 61)) := (Below.refl _ w').alloc (Nat.le_refl _) _
    refine step_val (x := .pointer (some ⟨w'.heap.size, 0, none⟩)) (w' := w'.alloc (.cells #[.int .i64 k, .int .i64 a, v'] 61)) (by rfl) ?_ ⟨⟨_, rfl, .mk _ k a v' ps xs (heap_alloc_new w' _) (row_move hcc (Nat.zero_le _) (fun r e => hba.block r (own_lt hcc r e))) (hok _ (by have := hBr.size; omega)) (fun r e => hok _ (by have := own_base hcc r e; omega)) hP.1 (fun i p x h1 h2 => ((hP.2 i p x h1 h2).later (HBW.out.trans (hBr.mono hzW))).later hba)⟩, hba, fun r e => by cases e⟩
    obtain ⟨oa, c', hsl, _⟩ := own_reads_of (d := none) hcc
    simp only at hu
    subst hsl
    go_simp
  · intro u
    simp only [Act.put, List.setIfInBounds_toArray, List.set_cons_zero, List.set_cons_succ]
    rfl
  refine plan_new (N := some 4) (V := fun x w => ∃ q, x = .pointer q ∧ TreeAt w ok q (.node k a xs)) (a' := ?_) rfl rfl (stable_below (fun u w w' h hb => by obtain ⟨q, h1, h2⟩ := h; exact ⟨q, h1, h2.later hb⟩)) (fun u w' hBr hvr => ?_) ?_ ?_
  rotate_left
  · obtain ⟨⟨q, hu, hT⟩, _⟩ := hvr _ List.mem_cons_self (by kernel_rfl)
    refine step_val (x := .pointer q) (w' := w') (by rfl) ?_ ⟨⟨q, rfl, hT⟩, Below.refl _ _, fun r e => by cases e⟩
    simp only at hu
    go_simp
  · intro u
    simp only [Act.put, List.setIfInBounds_toArray, List.set_cons_zero, List.set_cons_succ]
    rfl
  -- PLANNED
  refine plan_end rfl rfl (fun u wz hBz hv => ?_)
  obtain ⟨q, hq, hT⟩ := hv _ List.mem_cons_self
  generalize u 5 = x at hq ⊢
  subst hq
  have hbe := HB0.out.trans ((HBW.out.trans (hBz.mono hzW)).mono (by omega))
  clear hv
  go_wp2
  go_ret
  exact ⟨q, rfl, hT, hbe⟩
end Go.Proofs.Ytmelefiodhnlpaa
