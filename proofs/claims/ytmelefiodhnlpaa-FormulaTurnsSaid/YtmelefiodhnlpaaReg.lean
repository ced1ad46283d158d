/- A region that draws its order, walked in the order of its text: each operation yields what is said of it in every world that has grown from the first one; then the region comes to its end, in whatever order. -/
import Derived.Test.YtmelefiodhnlpaaWTab
import Derived.Below
import Derived.Laws.AppendOwn
import Derived.Maps.AppendAt
import Derived.Test.YtmelefiodhnlpaaWWords
set_option linter.unusedSimpArgs false
set_option linter.unusedVariables false
namespace Go.Proofs.Ytmelefiodhnlpaa
open Go Go.RowKit Go.Proofs.YtmelefiodhnlpaaW.PrintLast

/-- What is said of an operation's value: which one it is; or what holds of it (and which other one's row it takes). -/
inductive Fact where
  | eq (v : Value)
  | is (V : Value → World → Prop) (cons : Option Nat)
def Fact.val : Fact → Value → Value
  | .eq v, _ => v
  | .is _ _, u => u

def dstOf (ops : Array Oper) (i : Nat) : Option Tmp := (ops[i]?).bind (·.dst)
def actsF (ops : Array Oper) (a0 : Act) (facts : Nat → Fact) (u : Nat → Value) : Nat → Act
  | 0 => a0
  | k + 1 => (actsF ops a0 facts u k).put (dstOf ops k) ((facts k).val (u k))
def usesB (ops : Array Oper) (i j : Nat) : Bool := match ops[i]?, dstOf ops j with
  | some o, some d => (o.looksAt ops).contains d
  | _, _ => false
def atD (ops : Array Oper) (a : Act) (i : Nat) : Value := match dstOf ops i with
  | some d => a.tmps.getD d undef
  | none => undef
def ResF (w : World) (u : Nat → Value) : Fact → Value → World → Prop
  | .eq v, x, w' => x = v ∧ Below w.heap.size w w'
  | .is V none, x, w' => V x w' ∧ Below w.heap.size w w' ∧ ∀ r, x.ownBlock = some r → w.heap.size ≤ r ∧ r < w'.heap.size
  | .is V (some j), x, w' => V x w' ∧ w.grownBy w' (u j).ownBlock ∧ ∀ r, x.ownBlock = some r → (w.heap.size ≤ r ∧ r < w'.heap.size) ∨ (u j).ownBlock = some r
def GivesR (P : Program) (K : Value → World → Prop) : Result Next → Prop
  | .ok (.value x) w' => K x w'
  | .ok .skip w' => K undef w'
  | .ok (.enter f args) w' => Calls P f args w' fun e w'' => ∃ x, e = .returned x ∧ K x w''
  | _ => False
def StepF (P : Program) (ops : Array Oper) (oi : Oper) (a : Act) (w : World) (K : Value → World → Prop) : Prop :=
  if Region.wanted oi (yielded ops a.tmps) = true then GivesR P K ((execOp a.eval oi).run P w) else K undef w
def Stable (tk : Bool) (V : Value → World → Prop) : Prop := ∀ u w w' row, V u w → w.grownBy w' row → (∀ r, row = some r → tk = true ∧ u.ownBlock ≠ some r) → V u w'

/-! ### What waits for what, as bits -/
def maskOf (B : List Nat) : List Nat → Nat
  | [] => 0
  | n :: r => (2 ^ n ||| B.getD n 0) ||| maskOf B r
def needsAt (ops : Array Oper) (i : Nat) : List Nat := match ops[i]? with
  | some o => needsOf .any o
  | none => []
def ancB (ops : Array Oper) : Nat → List Nat
  | 0 => []
  | k + 1 => ancB ops k ++ [maskOf (ancB ops k) (needsAt ops k)]
theorem maskOf_bit {B : List Nat} {i : Nat} : ∀ {ns : List Nat}, (maskOf B ns).testBit i = true → ∃ n ∈ ns, n = i ∨ (B.getD n 0).testBit i = true
  | [], h => by simp [maskOf] at h
  | n :: r, h => by
    unfold maskOf at h
    rw [Nat.testBit_or, Nat.testBit_or, Bool.or_eq_true, Bool.or_eq_true] at h
    rcases h with (h | h) | h
    · rw [Nat.testBit_two_pow] at h
      exact ⟨n, List.mem_cons_self, .inl (by simpa using h)⟩
    · exact ⟨n, List.mem_cons_self, .inr h⟩
    · obtain ⟨m, hm, h2⟩ := maskOf_bit h
      exact ⟨m, List.mem_cons_of_mem _ hm, h2⟩
theorem ancB_length (ops : Array Oper) : ∀ k, (ancB ops k).length = k
  | 0 => rfl
  | k + 1 => by rw [ancB, List.length_append, ancB_length ops k]; rfl
theorem closed_need {ops : Array Oper} {l : Array Bool} (hc : ListedClosed .any ops l) {d n : Nat} (hn : n ∈ needsAt ops d) (hl : l.getD d false = true) : l.getD n false = true := by
  unfold needsAt at hn
  cases ho : ops[d]? with
  | none => rw [ho] at hn; cases hn
  | some o =>
    rw [ho] at hn
    simp only [needsOf, List.mem_map, List.mem_filter] at hn
    obtain ⟨e, ⟨he, hb⟩, rfl⟩ := hn
    exact hc d o ho hl e (by simpa using he) hb
theorem anc_listed {ops : Array Oper} {l : Array Bool} (hc : ListedClosed .any ops l) {i : Nat} : ∀ (k d : Nat), ((ancB ops k).getD d 0).testBit i = true → l.getD d false = true → l.getD i false = true
  | 0, d, h, _ => by simp [ancB] at h
  | k + 1, d, h, hl => by
    rw [ancB] at h
    rcases Nat.lt_trichotomy d k with hd | hd | hd
    · rw [List.getD_eq_getElem?_getD, List.getElem?_append_left (by rw [ancB_length]; exact hd), ← List.getD_eq_getElem?_getD] at h
      exact anc_listed hc k d h hl
    · subst hd
      rw [List.getD_eq_getElem?_getD, List.getElem?_append_right (by rw [ancB_length]; omega), ancB_length] at h
      simp only [Nat.sub_self, List.getElem?_cons_zero, Option.getD_some] at h
      obtain ⟨n, hn, h2⟩ := maskOf_bit h
      have hln := closed_need hc hn hl
      rcases h2 with rfl | h2
      · exact hln
      · exact anc_listed hc d n h2 hln
    · rw [List.getD_eq_getElem?_getD, List.getElem?_eq_none (by rw [List.length_append, ancB_length]; simp; omega)] at h
      simp at h

/-- What a region's operations must be like: numbers alone, asked once. -/
def chkR (ops : Array Oper) (m sz : Nat) : Bool :=
  let B := ancB ops ops.size
  let ds := (List.range m).map (dstOf ops)
  Region.noSelect ops && decide (m ≤ ops.size) &&
  ((List.range m).all fun i => match dstOf ops i with
    | some d => decide (d < sz) && ((List.range m).all fun j => i == j || !(dstOf ops j == some d))
    | none => false) &&
  ((List.range ops.size).all fun i => (needsAt ops i).all fun j => decide (j < i)) &&
  ((List.range m).all fun i => (List.range m).all fun j => !usesB ops i j || (decide (j < i) && (needsAt ops i).contains j) || i == j || (decide (i < j) && (B.getD j 0).testBit i)) &&
  ((List.range ops.size).all fun d => decide (d < m) || (List.range m).all fun i => (B.getD d 0).testBit i)

section
variable {P : Program} {ops : Array Oper} {Q : Exit → Act → World → Prop} {m sz : Nat}

theorem chk_sel (h : chkR ops m sz = true) : Region.noSelect ops = true := by simp only [chkR, Bool.and_eq_true] at h; exact h.1.1.1.1.1
theorem chk_le (h : chkR ops m sz = true) : m ≤ ops.size := by simp only [chkR, Bool.and_eq_true] at h; simpa using h.1.1.1.1.2
theorem chk_dst (h : chkR ops m sz = true) {i : Nat} (hi : i < m) : ∃ d, dstOf ops i = some d ∧ d < sz ∧ ∀ j, j < m → i ≠ j → dstOf ops j ≠ some d := by
  simp only [chkR, Bool.and_eq_true] at h
  have h1 := List.all_eq_true.1 h.1.1.1.2 i (List.mem_range.2 hi)
  cases hd : dstOf ops i with
  | none => rw [hd] at h1; simp at h1
  | some d =>
    rw [hd] at h1
    simp only [Bool.and_eq_true, decide_eq_true_eq, List.all_eq_true, List.mem_range] at h1
    refine ⟨d, rfl, h1.1, fun j hj hne he => ?_⟩
    have := h1.2 j hj
    simp [he, hne] at this
theorem chk_need (h : chkR ops m sz = true) {i j : Nat} (hj : j ∈ needsAt ops i) : j < i := by
  simp only [chkR, Bool.and_eq_true] at h
  have h1 := h.1.1.2
  rcases Nat.lt_or_ge i ops.size with hi | hi
  · have h2 := List.all_eq_true.1 (List.all_eq_true.1 h1 i (List.mem_range.2 hi)) j hj
    simpa using h2
  · unfold needsAt at hj
    rw [Array.getElem?_eq_none hi] at hj
    cases hj
theorem chk_use (h : chkR ops m sz = true) {i j : Nat} (hi : i < m) (hj : j < m) (hu : usesB ops i j = true) : (j < i ∧ j ∈ needsAt ops i) ∨ i = j ∨ (i < j ∧ ((ancB ops ops.size).getD j 0).testBit i = true) := by
  simp only [chkR, Bool.and_eq_true] at h
  have h2 := List.all_eq_true.1 (List.all_eq_true.1 h.1.2 i (List.mem_range.2 hi)) j (List.mem_range.2 hj)
  simp only [hu, Bool.not_true, Bool.false_or, Bool.or_eq_true, Bool.and_eq_true, decide_eq_true_eq, List.contains_iff_mem, beq_iff_eq] at h2
  rcases h2 with (h2 | h2) | h2
  · exact .inl h2
  · exact .inr (.inl h2)
  · exact .inr (.inr h2)
theorem chk_tail (h : chkR ops m sz = true) {d i : Nat} (hd : m ≤ d) (hd2 : d < ops.size) (hi : i < m) : ((ancB ops ops.size).getD d 0).testBit i = true := by
  simp only [chkR, Bool.and_eq_true] at h
  have h2 := List.all_eq_true.1 h.2 d (List.mem_range.2 hd2)
  rw [Bool.or_eq_true] at h2
  rcases h2 with h2 | h2
  · simp only [decide_eq_true_eq] at h2; omega
  · exact List.all_eq_true.1 h2 i (List.mem_range.2 hi)

/-! ### One operation -/
theorem StepF.wpOp {i : Nat} {oi : Oper} {a : Act} {w : World} {K : Value → World → Prop} {K2 : Act → World → Prop} (hi : ops[i]? = some oi) (h : StepF P ops oi a w K)
    (hk : ∀ x w', K x w' → K2 (a.put oi.dst x) w') : wpOp P ops Q i K2 a w := by
  unfold Go.wpOp
  unfold StepF at h
  simp only [hi]
  split
  · rename_i hw
    rw [if_pos hw] at h
    refine .inl ?_
    unfold Oper.wp
    generalize (execOp a.eval oi).run P w = r at *
    cases r with
    | ok n w' =>
      cases n <;> simp only [GivesR] at h <;> simp only [Oper.upon]
      case value x => exact hk _ _ h
      case skip => exact hk _ _ h
      case enter f args =>
        refine Calls.mono h fun e w'' he => ?_
        obtain ⟨x, rfl, hx⟩ := he
        exact hk _ _ hx
    | halt x w' => cases h
  · rename_i hw
    rw [if_neg hw] at h
    exact hk _ _ h
theorem StepF.congr {oi : Oper} {a a' : Act} {w : World} {K : Value → World → Prop} (hs : ∀ cs b, oi.op ≠ .select cs b) (he : ∀ t ∈ oi.looksAt ops, a.tmps[t]? = a'.tmps[t]?) (h : StepF P ops oi a w K) : StepF P ops oi a' w K := by
  have e1 : execOp a.eval oi = execOp a'.eval oi := execOp_congr oi hs fun x hx => by
    cases x with
    | tmp t =>
      have := he t (List.mem_append_left _ (List.mem_filterMap.2 ⟨.tmp t, by simpa using hx, rfl⟩))
      simp only [Act.eval, Array.getD_eq_getD_getElem?, this]
    | _ => rfl
  have e2 : Region.wanted oi (yielded ops a.tmps) = Region.wanted oi (yielded ops a'.tmps) := by
    unfold Region.wanted
    cases hg : oi.guard with
    | none => rfl
    | some gw =>
      obtain ⟨g, want⟩ := gw
      have hy : yielded ops a.tmps g = yielded ops a'.tmps g := by
        unfold yielded
        cases ht : (ops[g]?).bind (·.dst) with
        | none => rfl
        | some t =>
          have := he t (List.mem_append_right _ (by simp [hg, ht]))
          simp [this]
      simp only [hy]
  unfold StepF at *
  rw [← e1, ← e2]
  exact h
theorem StepF.mono {oi : Oper} {a : Act} {w : World} {K K' : Value → World → Prop} (h : StepF P ops oi a w K) (hk : ∀ x w', K x w' → K' x w') : StepF P ops oi a w K' := by
  unfold StepF at *
  split
  · rename_i hw
    rw [if_pos hw] at h
    generalize (execOp a.eval oi).run P w = r at *
    cases r with
    | ok n w' =>
      cases n <;> simp only [GivesR] at h ⊢
      case value x => exact hk _ _ h
      case skip => exact hk _ _ h
      case enter f args =>
        refine Calls.mono h fun e w'' he => ?_
        obtain ⟨x, rfl, hx⟩ := he
        exact ⟨x, rfl, hk _ _ hx⟩
    | halt x w' => cases h
  · rename_i hw
    rw [if_neg hw] at h
    exact hk _ _ h

theorem put_at {a : Act} {d t : Nat} {v : Value} (hd : d < a.tmps.size) : (a.put (some d) v).tmps[t]? = if t = d then some v else a.tmps[t]? := by
  unfold Act.put
  by_cases h : t = d
  · subst h; simp [hd]
  · rw [if_neg h, Array.getElem?_setIfInBounds_ne (Ne.symm h)]
theorem put_size {a : Act} {d : Option Tmp} {v : Value} : (a.put d v).tmps.size = a.tmps.size := by
  cases d <;> simp [Act.put]
theorem put_def {a : Act} {d : Option Tmp} {v : Value} : (a.put d v).defers = a.defers := by
  cases d <;> simp [Act.put]
theorem actsF_size (a0 : Act) (facts : Nat → Fact) (u : Nat → Value) : ∀ k, (actsF ops a0 facts u k).tmps.size = a0.tmps.size ∧ (actsF ops a0 facts u k).defers = a0.defers
  | 0 => ⟨rfl, rfl⟩
  | k + 1 => by
    obtain ⟨h1, h2⟩ := actsF_size a0 facts u k
    exact ⟨by rw [actsF, put_size, h1], by rw [actsF, put_def, h2]⟩
/-- What stands in a slot behind the first k operations. -/
theorem actsF_old {a0 : Act} {facts : Nat → Fact} {u : Nat → Value} (h : chkR ops m a0.tmps.size = true) {t : Nat} : ∀ k, k ≤ m → (∀ j, j < k → dstOf ops j ≠ some t) → (actsF ops a0 facts u k).tmps[t]? = a0.tmps[t]?
  | 0, _, _ => rfl
  | k + 1, hk, ht => by
    obtain ⟨d, hd, hds, _⟩ := chk_dst h (i := k) (by omega)
    rw [actsF, hd, put_at (by rw [(actsF_size a0 facts u k).1]; exact hds), if_neg (fun e => ht k (by omega) (by rw [hd, e])), actsF_old h k (by omega) (fun j hj => ht j (by omega))]
theorem actsF_new {a0 : Act} {facts : Nat → Fact} {u : Nat → Value} (h : chkR ops m a0.tmps.size = true) {j t : Nat} (ht : dstOf ops j = some t) : ∀ k, k ≤ m → j < k → (actsF ops a0 facts u k).tmps[t]? = some ((facts j).val (u j))
  | 0, _, hj => by omega
  | k + 1, hk, hj => by
    obtain ⟨d, hd, hds, hne⟩ := chk_dst h (i := k) (by omega)
    rw [actsF, hd, put_at (by rw [(actsF_size a0 facts u k).1]; exact hds)]
    by_cases hjk : j = k
    · subst hjk
      rw [hd] at ht
      cases ht
      rw [if_pos rfl]
    · rw [if_neg (fun e => hne j (by omega) (Ne.symm hjk) (by rw [ht, e])), actsF_new h ht k (by omega) (by omega)]
theorem actsF_pre {a0 : Act} {f g : Nat → Fact} {u : Nat → Value} : ∀ k, (∀ i, i < k → f i = g i) → actsF ops a0 f u k = actsF ops a0 g u k
  | 0, _ => rfl
  | k + 1, h => by rw [actsF, actsF, actsF_pre k (fun i hi => h i (by omega)), h k (by omega)]

/-! ### Whatever order -/
def Ob (P : Program) (ops : Array Oper) (a0 : Act) (W : World) (facts : Nat → Fact) (i : Nat) : Prop := ∀ oi, ops[i]? = some oi → ∀ (u : Nat → Value) (w : World), Below W.heap.size W w →
  (∀ j V c, usesB ops i j = true → j < i → facts j = .is V c → V (u j) w ∧ ∀ r, (u j).ownBlock = some r → W.heap.size ≤ r ∧ r < w.heap.size) → StepF P ops oi (actsF ops a0 facts u i) w (fun x w' => ResF w u (facts i) x w')
def GoodAt (tk : Bool) (ops : Array Oper) (m : Nat) (facts : Nat → Fact) (i : Nat) : Prop := ∀ V c, facts i = .is V c → Stable tk V ∧ ∀ j, c = some j → tk = true ∧ j < i ∧ usesB ops i j = true ∧ (∀ k, k < m → k ≠ i → usesB ops k j = false) ∧ ∃ V' c', facts j = .is V' c'
structure InvR (ops : Array Oper) (m : Nat) (a0 : Act) (facts : Nat → Fact) (W : World) (l : Array Bool) (a : Act) (w : World) : Prop where
  size : l.size = ops.size
  closed : ListedClosed .any ops l
  tail : ∀ d, m ≤ d → l.getD d false = false
  defers : a.defers = a0.defers
  sz : a.tmps.size = a0.tmps.size
  old : ∀ t, (∀ i, l.getD i false = true → dstOf ops i ≠ some t) → a.tmps[t]? = a0.tmps[t]?
  eqs : ∀ i v, l.getD i false = true → facts i = .eq v → atD ops a i = v
  vars : ∀ i V c, l.getD i false = true → facts i = .is V c → (∀ k, l.getD k false = true → ∀ V', facts k ≠ .is V' (some i)) → V (atD ops a i) w ∧ ∀ r, (atD ops a i).ownBlock = some r → W.heap.size ≤ r ∧ r < w.heap.size ∧
    ∀ j V' c', j ≠ i → l.getD j false = true → facts j = .is V' c' → (∀ k, l.getD k false = true → ∀ V', facts k ≠ .is V' (some j)) → (atD ops a j).ownBlock ≠ some r
  below : Below W.heap.size W w

variable {tk : Bool} {a0 : Act} {facts : Nat → Fact} {W : World} {l : Array Bool} {a : Act} {w : World}

theorem InvR.lt (h : InvR ops m a0 facts W l a w) {i : Nat} (hl : l.getD i false = true) : i < m := by
  rcases Nat.lt_or_ge i m with h1 | h1
  · exact h1
  · rw [h.tail i h1] at hl; cases hl
theorem at_some (hI : InvR ops m a0 facts W l a w) (hc : chkR ops m a0.tmps.size = true) {j t : Nat} (hj : j < m) (hd : dstOf ops j = some t) : a.tmps[t]? = some (atD ops a j) := by
  obtain ⟨d, h1, h2, _⟩ := chk_dst hc hj
  rw [h1] at hd
  cases hd
  have : t < a.tmps.size := by rw [hI.sz]; exact h2
  unfold atD
  rw [h1]
  simp [this]

/-- The slots that an operation which may come up looks at hold what they hold in the text's order. -/
theorem slot_agree (hI : InvR ops m a0 facts W l a w) (hc : chkR ops m a0.tmps.size = true) {i : Nat} {oi : Oper} (hi : ops[i]? = some oi) (him : i < m) (hun : l.getD i false = false)
    (hneed : ∀ j ∈ needsAt ops i, l.getD j false = true) {t : Nat} (ht : t ∈ oi.looksAt ops) : (actsF ops a0 facts (atD ops a) i).tmps[t]? = a.tmps[t]? := by
  by_cases hex : ∃ j, j < m ∧ dstOf ops j = some t
  · obtain ⟨j, hj, hd⟩ := hex
    have hu : usesB ops i j = true := by
      unfold usesB
      rw [hi, hd]
      simpa using ht
    have stay : l.getD j false = false → (actsF ops a0 facts (atD ops a) i).tmps[t]? = a.tmps[t]? ∨ j < i := fun hjun => by
      by_cases hji : j < i
      · exact .inr hji
      · left
        rw [actsF_old hc i (by omega) (fun k hk he => by
          obtain ⟨d, h1, _, h3⟩ := chk_dst hc hj
          rw [hd] at h1; cases h1
          exact h3 k (by omega) (by omega) he)]
        symm
        refine hI.old t (fun k hk he => ?_)
        obtain ⟨d, h1, _, h3⟩ := chk_dst hc hj
        rw [hd] at h1; cases h1
        exact h3 k (hI.lt hk) (fun e => by subst e; rw [hjun] at hk; cases hk) he
    rcases chk_use hc him hj hu with ⟨h1, h2⟩ | h1 | ⟨h1, h2⟩
    · have hlj := hneed j h2
      rw [actsF_new hc hd i (by omega) h1, at_some hI hc hj hd]
      congr 1
      cases hf : facts j with
      | eq v => exact (hI.eqs j v hlj hf).symm
      | is V c => rfl
    · subst h1
      rcases stay hun with h | h
      · exact h
      · omega
    · have hjun : l.getD j false = false := by
        rw [← Bool.not_eq_true]
        intro hlj
        have := anc_listed hI.closed ops.size j h2 hlj
        rw [hun] at this; cases this
      rcases stay hjun with h | h
      · exact h
      · omega
  · have hno : ∀ j, j < m → dstOf ops j ≠ some t := fun j hj he => hex ⟨j, hj, he⟩
    rw [actsF_old hc i (by omega) (fun j hj => hno j (by omega))]
    exact (hI.old t (fun k hk => hno k (hI.lt hk))).symm

theorem getD_set (l : Array Bool) (i j : Nat) (hi : i < l.size) : (l.setIfInBounds i true).getD j false = if j = i then true else l.getD j false := by
  by_cases h : j = i
  · subst h; simp [hi]
  · rw [if_neg h, getD_set_ne false (Ne.symm h)]

theorem grown_none {w w' : World} (h : Below w.heap.size w w') (row : Option Nat) : w.grownBy w' row := ⟨h.os, h.tape, h.output, h.size, fun i hi _ => h.block i hi⟩

theorem inv_step (hI : InvR ops m a0 facts W l a w) (hc : chkR ops m a0.tmps.size = true) (hg : ∀ i, i < m → GoodAt tk ops m facts i) {i : Nat} {oi : Oper} (hi : ops[i]? = some oi) (him : i < m)
    (hr : i ∈ Region.ready .any ops l) (hob : Ob P ops a0 W facts i) : StepF P ops oi a w (fun x w' => InvR ops m a0 facts W (l.setIfInBounds i true) (a.put oi.dst x) w') := by
  obtain ⟨hun0, oi', hoi', hall⟩ := mem_ready.1 hr
  obtain rfl : oi' = oi := Option.some.inj (hoi'.symm.trans hi)
  have hsz : i < l.size := by rw [hI.size]; exact (Array.getElem?_eq_some_iff.1 hi).1
  have hun : l.getD i false = false := by
    simp [hsz] at hun0 ⊢; exact hun0
  have hneed : ∀ j ∈ needsAt ops i, l.getD j false = true := fun j hj => by
    unfold needsAt at hj
    rw [hi] at hj
    simp only [needsOf, List.mem_map, List.mem_filter] at hj
    obtain ⟨e, ⟨he, hb⟩, rfl⟩ := hj
    exact hall e (by simpa using he) hb
  -- what is used is alive
  have hlive : ∀ j, usesB ops i j = true → ∀ k, l.getD k false = true → ∀ V', facts k ≠ .is V' (some j) := fun j hu k hk V' hf => by
    have hkm := hI.lt hk
    obtain ⟨_, h2⟩ := hg k hkm V' (some j) hf
    obtain ⟨_, _, _, h3, _⟩ := h2 j rfl
    have hne : i ≠ k := fun e => by subst e; rw [hun] at hk; cases hk
    rw [h3 i him hne] at hu; cases hu
  have husL : ∀ j, usesB ops i j = true → j < i → l.getD j false = true := fun j hu hj => by
    rcases chk_use hc him (by omega) hu with ⟨_, h⟩ | h | ⟨h, _⟩
    · exact hneed j h
    · omega
    · omega
  have hstep := hob oi' hi (atD ops a) w hI.below (fun j V c hu hj hf => by
    have h1 := hI.vars j V c (husL j hu hj) hf (hlive j hu)
    exact ⟨h1.1, fun r e => ⟨(h1.2 r e).1, (h1.2 r e).2.1⟩⟩)
  refine ((hstep.congr (Region.noSelect_spec (chk_sel hc) i oi' · · hi) (fun t ht => slot_agree hI hc hi him hun hneed ht))).mono ?_
  intro x w' hres
  obtain ⟨d, hd, hds, hdne⟩ := chk_dst hc him
  have hdst : oi'.dst = some d := by unfold dstOf at hd; rw [hi] at hd; exact hd
  rw [hdst]
  have hat : atD ops (a.put (some d) x) i = x := by
    unfold atD
    rw [hd]
    simp only [Array.getD_eq_getD_getElem?]
    rw [put_at (by rw [hI.sz]; exact hds), if_pos rfl]; rfl
  have hato : ∀ j, j < m → j ≠ i → atD ops (a.put (some d) x) j = atD ops a j := fun j hj hne => by
    unfold atD
    cases hdj : dstOf ops j with
    | none => rfl
    | some t =>
      simp only [Array.getD_eq_getD_getElem?]
      rw [put_at (by rw [hI.sz]; exact hds), if_neg (fun e => hdne j hj (Ne.symm hne) (by rw [hdj, e]))]
  -- the world has grown, but for a row that is taken
  obtain ⟨row, hgrow, hrtk, hrow, hxb⟩ : ∃ row, w.grownBy w' row ∧ (∀ r, row = some r → tk = true) ∧ (∀ r, row = some r → ∃ j0 V0 c0, (∃ V, facts i = .is V (some j0)) ∧ facts j0 = .is V0 c0 ∧ usesB ops i j0 = true ∧ l.getD j0 false = true ∧ (atD ops a j0).ownBlock = some r) ∧
      (∀ V c, facts i = .is V c → V x w' ∧ ∀ r, x.ownBlock = some r → (w.heap.size ≤ r ∧ r < w'.heap.size) ∨ row = some r) := by
    cases hf : facts i with
    | eq v =>
      rw [hf] at hres
      exact ⟨none, grown_none hres.2 _, by simp, by simp, by simp⟩
    | is V c =>
      cases c with
      | none =>
        rw [hf] at hres
        exact ⟨none, grown_none hres.2.1 _, by simp, by simp, fun V' c' e => by cases e; exact ⟨hres.1, fun r e => .inl (hres.2.2 r e)⟩⟩
      | some j0 =>
        rw [hf] at hres
        obtain ⟨_, h2⟩ := hg i him V (some j0) hf
        obtain ⟨htk, h3, h4, _, V0, c0, h5⟩ := h2 j0 rfl
        exact ⟨_, hres.2.1, fun _ _ => htk, fun r e => ⟨j0, V0, c0, ⟨V, rfl⟩, h5, h4, husL j0 h4 h3, e⟩, fun V' c' e => by cases e; exact ⟨hres.1, fun r e => hres.2.2 r e⟩⟩
  have hrowh : ∀ r, row = some r → W.heap.size ≤ r ∧ r < w.heap.size := fun r e => by
    obtain ⟨j0, V0, c0, _, h5, h4, h6, h7⟩ := hrow r e
    have := (hI.vars j0 V0 c0 h6 h5 (hlive j0 h4)).2 r h7
    exact ⟨this.1, this.2.1⟩
  have hwsz := hgrow.size
  have hWsz := hI.below.size
  -- who is alive now was alive before, and is not the row that is taken
  have hwas : ∀ j, j ≠ i → (∀ k, (l.setIfInBounds i true).getD k false = true → ∀ V', facts k ≠ .is V' (some j)) → (∀ k, l.getD k false = true → ∀ V', facts k ≠ .is V' (some j)) ∧
      ((l.setIfInBounds i true).getD j false = true → ∀ V c, facts j = .is V c → ∀ r, row = some r → (atD ops a j).ownBlock ≠ some r) := fun j hji hlv => by
    have h1 : ∀ k, l.getD k false = true → ∀ V', facts k ≠ .is V' (some j) := fun k hk => hlv k (getD_set_true hk)
    refine ⟨h1, fun hlj V c hf r e => ?_⟩
    obtain ⟨j0, V0, c0, ⟨V1, h2⟩, h5, h4, h6, h7⟩ := hrow r e
    have hne : j ≠ j0 := fun e2 => by
      subst e2
      exact hlv i (by rw [getD_set l i i hsz, if_pos rfl]) V1 h2
    rw [getD_set l i j hsz, if_neg hji] at hlj
    exact ((hI.vars j0 V0 c0 h6 h5 (hlive j0 h4)).2 r h7).2.2 j V c hne hlj hf h1
  refine { size := by rw [Array.size_setIfInBounds]; exact hI.size, closed := hI.closed.set hr, tail := fun e he => by rw [getD_set l i e hsz, if_neg (by omega)]; exact hI.tail e he, defers := by rw [put_def]; exact hI.defers, sz := by rw [put_size]; exact hI.sz, old := ?_, eqs := ?_, vars := ?_, below := hI.below.grown hgrow hWsz (fun k e => (hrowh k e).1) }
  · intro t ht
    rw [put_at (by rw [hI.sz]; exact hds), if_neg (fun e => ht i (by rw [getD_set l i i hsz, if_pos rfl]) (by rw [hd, e]))]
    exact hI.old t (fun k hk => ht k (getD_set_true hk))
  · intro j v hlj hf
    by_cases hji : j = i
    · subst hji
      rw [hat]
      rw [hf] at hres
      exact hres.1
    · rw [getD_set l i j hsz, if_neg hji] at hlj
      rw [hato j (hI.lt hlj) hji]
      exact hI.eqs j v hlj hf
  · intro j V c hlj hf hlv
    by_cases hji : j = i
    · subst hji
      rw [hat]
      obtain ⟨h1, h2⟩ := hxb V c hf
      refine ⟨h1, fun r e => ?_⟩
      have hb : W.heap.size ≤ r ∧ r < w'.heap.size := by
        rcases h2 r e with h | h
        · omega
        · have := hrowh r h; omega
      refine ⟨hb.1, hb.2, fun j2 V2 c2 hne hl2 hf2 hlv2 => ?_⟩
      obtain ⟨h3, h4⟩ := hwas j2 hne hlv2
      have h5 := h4 hl2 V2 c2 hf2
      rw [getD_set l j j2 hsz, if_neg hne] at hl2
      rw [hato j2 (hI.lt hl2) hne]
      rcases h2 r e with h | h
      · intro e2
        have := ((hI.vars j2 V2 c2 hl2 hf2 h3).2 r e2).2.1
        omega
      · exact h5 r h
    · obtain ⟨h3, h4⟩ := hwas j hji hlv
      have h5 := h4 hlj V c hf
      rw [getD_set l i j hsz, if_neg hji] at hlj
      rw [hato j (hI.lt hlj) hji]
      obtain ⟨h6, h7⟩ := hI.vars j V c hlj hf h3
      refine ⟨(hg j (hI.lt hlj) V c hf).1 _ w w' row h6 hgrow (fun r e => ⟨hrtk r e, h5 r e⟩), fun r e => ?_⟩
      obtain ⟨h8, h9, h10⟩ := h7 r e
      refine ⟨h8, by omega, fun j2 V2 c2 hne hl2 hf2 hlv2 => ?_⟩
      by_cases hj2 : j2 = i
      · subst hj2
        rw [hat]
        intro e2
        rcases (hxb V2 c2 hf2).2 r e2 with h | h
        · omega
        · exact h5 r h e
      · obtain ⟨h11, _⟩ := hwas j2 hj2 hlv2
        rw [getD_set l i j2 hsz, if_neg hj2] at hl2
        rw [hato j2 (hI.lt hl2) hj2]
        exact h10 j2 V2 c2 hne hl2 hf2 h11

theorem count_set (f g : Nat → Bool) (i : Nat) (h1 : f i = true) (h2 : g i = false) (h3 : ∀ j, j ≠ i → f j = g j) : ∀ m, i < m → (List.range m).countP f = (List.range m).countP g + 1
  | 0, h => by omega
  | m + 1, h => by
    rw [List.range_succ, List.countP_append, List.countP_append]
    by_cases hm : i = m
    · subst hm
      have : ∀ k, k ≤ i → (List.range k).countP f = (List.range k).countP g := fun k hk => List.countP_congr (fun x hx => by rw [h3 x (by have := List.mem_range.1 hx; omega)])
      rw [this i (Nat.le_refl _)]
      simp [h1, h2]
    · rw [count_set f g i h1 h2 h3 m (by omega)]
      simp [h3 m (Ne.symm hm)]
      omega

def FinR (P : Program) (ops : Array Oper) (Q : Exit → Act → World → Prop) (m : Nat) (a0 : Act) (W : World) (facts : Nat → Fact) : Prop := ∀ (l : Array Bool) (u : Nat → Value) (w : World), l.size = ops.size → (∀ i, i < m → l.getD i false = true) → (∀ i, m ≤ i → l.getD i false = false) → Below W.heap.size W w →
  (∀ j V c, j < m → facts j = .is V c → (∀ k, k < m → ∀ V', facts k ≠ .is V' (some j)) → V (u j) w) → wpAny P .any ops Q (ops.size - m) l (actsF ops a0 facts u m) w

theorem region_any (hc : chkR ops m a0.tmps.size = true) (hg : ∀ i, i < m → GoodAt tk ops m facts i) (hob : ∀ i, i < m → Ob P ops a0 W facts i) (hfin : FinR P ops Q m a0 W facts) :
    ∀ (d : Nat) (l : Array Bool) (a : Act) (w : World), InvR ops m a0 facts W l a w → (List.range m).countP (fun i => !l.getD i false) = d → wpAny P .any ops Q (d + (ops.size - m)) l a w := by
  intro d
  induction d with
  | zero =>
    intro l a w hI hcount
    have hall : ∀ i, i < m → l.getD i false = true := fun i hi => by
      have := List.countP_eq_zero.1 hcount i (List.mem_range.2 hi)
      simpa using this
    have ha : a = actsF ops a0 facts (atD ops a) m := by
      obtain ⟨h1, h2⟩ := actsF_size (ops := ops) a0 facts (atD ops a) m
      have ht : a.tmps = (actsF ops a0 facts (atD ops a) m).tmps := by
        apply Array.ext_getElem?
        intro t
        by_cases hex : ∃ j, j < m ∧ dstOf ops j = some t
        · obtain ⟨j, hj, hd⟩ := hex
          rw [actsF_new hc hd m (Nat.le_refl _) hj, at_some hI hc hj hd]
          congr 1
          cases hf : facts j with
          | eq v => exact hI.eqs j v (hall j hj) hf
          | is V c => rfl
        · have hno : ∀ j, j < m → dstOf ops j ≠ some t := fun j hj he => hex ⟨j, hj, he⟩
          rw [actsF_old hc m (Nat.le_refl _) hno]
          exact hI.old t (fun k hk => hno k (hI.lt hk))
      have hdf : a.defers = (actsF ops a0 facts (atD ops a) m).defers := by rw [h2]; exact hI.defers
      revert ht hdf
      generalize actsF ops a0 facts (atD ops a) m = a2
      intro ht hdf
      cases a; cases a2
      simp_all
    have := hfin l (atD ops a) w hI.size hall hI.tail hI.below (fun j V c hj hf hlv => (hI.vars j V c (hall j hj) hf (fun k hk => hlv k (hI.lt hk))).1)
    rw [← ha] at this
    simpa using this
  | succ d ih =>
    intro l a w hI hcount
    have hex : ∃ i, i < m ∧ l.getD i false = false := by
      apply Classical.byContradiction
      intro h
      have : (List.range m).countP (fun i => !l.getD i false) = 0 := List.countP_eq_zero.2 fun i hi => by
        have hi := List.mem_range.1 hi
        cases hl : l.getD i false with
        | true => simp
        | false => exact absurd ⟨i, hi, hl⟩ h
      omega
    have hunT : ∀ i, i < ops.size → l.getD i false = false → l.getD i true = false := fun i hi h => by
      have : i < l.size := by rw [hI.size]; exact hi
      simp [this] at h ⊢; exact h
    have hready : Region.ready .any ops l ≠ [] := by
      have hm := chk_le hc
      have key : ∀ n i, i < n → i < m → l.getD i false = false → ∃ j, j ∈ Region.ready .any ops l := by
        intro n
        induction n with
        | zero => intro i hi; omega
        | succ n ihn =>
          intro i hin him hun
          by_cases hall : ∀ j ∈ needsAt ops i, l.getD j false = true
          · refine ⟨i, mem_ready.2 ⟨hunT i (by omega) hun, ?_⟩⟩
            have hi : i < ops.size := by omega
            refine ⟨ops[i], Array.getElem?_eq_getElem hi, fun e he hb => hall e.on ?_⟩
            unfold needsAt
            rw [Array.getElem?_eq_getElem hi]
            exact List.mem_map.2 ⟨e, List.mem_filter.2 ⟨by simpa using he, hb⟩, rfl⟩
          · obtain ⟨j, hj⟩ := Classical.not_forall.1 hall
            obtain ⟨hj1, hj2⟩ := Classical.not_imp.1 hj
            have := chk_need hc hj1
            exact ihn j (by omega) (by omega) (by simpa using hj2)
      obtain ⟨i, him, hun⟩ := hex
      obtain ⟨j, hj⟩ := key (i + 1) i (by omega) him hun
      intro h
      rw [h] at hj
      cases hj
    rw [show d + 1 + (ops.size - m) = (d + (ops.size - m)) + 1 by omega]
    refine ⟨fun h => absurd h hready, fun i hi => ?_⟩
    obtain ⟨hun0, oi, hoi, hall⟩ := mem_ready.1 hi
    have hlt : i < ops.size := (Array.getElem?_eq_some_iff.1 hoi).1
    have hsz : i < l.size := by rw [hI.size]; exact hlt
    have hun : l.getD i false = false := by simp [hsz] at hun0 ⊢; exact hun0
    have him : i < m := by
      apply Classical.byContradiction
      intro h
      obtain ⟨k, hk, hku⟩ := hex
      have hanc := chk_tail hc (d := i) (by omega) hlt hk
      -- i waits for k: take the array where i is listed, too
      have hcl := hI.closed.set hi
      have := anc_listed hcl ops.size i hanc (by rw [getD_set l i i hsz, if_pos rfl])
      rw [getD_set l i k hsz, if_neg (by omega), hku] at this
      cases this
    refine (inv_step hI hc hg hoi him hi (hob i him)).wpOp hoi (fun x w' hI' => ih _ _ _ hI' ?_)
    have := count_set (fun j => !l.getD j false) (fun j => !(l.setIfInBounds i true).getD j false) i (by simp only [hun]; rfl) (by simp only [getD_set l i i hsz, if_true]; rfl) (fun j hj => by simp only [getD_set l i j hsz, if_neg hj]) m him
    omega

/-! ### A plan: the operations in the order of the text -/
def Plan (tk : Bool) (P : Program) (ops : Array Oper) (Q : Exit → Act → World → Prop) (m : Nat) (a0 : Act) (W : World) (k : Nat) (a : (Nat → Value) → Act) (vs : List (Nat × (Value → World → Prop))) : Prop :=
  ∀ pre : Nat → Fact, (∀ u, a u = actsF ops a0 pre u k) → (∀ x ∈ vs, (∃ c, pre x.1 = .is x.2 c) ∧ x.1 < k ∧ ∀ i, i < k → ∀ V', pre i ≠ .is V' (some x.1)) → (∀ i, i < k → ∀ V j, pre i = .is V (some j) → j < k) →
    ∃ facts : Nat → Fact, (∀ i, i < k → facts i = pre i) ∧ (∀ i, k ≤ i → i < m → Ob P ops a0 W facts i ∧ GoodAt tk ops m facts i) ∧ FinR P ops Q m a0 W facts

theorem region_plan {id : Nat} {a0 : Act} {w : World} (m : Nat) (tk : Bool := false) (hm : P.follows .mixedOrders = true) (hc : chkR ops m a0.tmps.size = true) (h : ∀ W, W = w.drew → Plan tk P ops Q m a0 W 0 (fun _ => a0) []) : (Code.region id ops true).wp P Q a0 w := by
  obtain ⟨facts, _, hall, hfin⟩ := h w.drew rfl (fun _ => .eq undef) (fun _ => rfl) (by simp) (by omega)
  refine wp_region_any hm ?_
  have hle := chk_le hc
  have hrep : ∀ d, (Array.replicate ops.size false).getD d false = false := fun d => by
    simp only [Array.getD_eq_getD_getElem?, Array.getElem?_replicate]
    split <;> rfl
  have hI : InvR ops m a0 facts w.drew (Array.replicate ops.size false) a0 w.drew :=
    { size := by simp, closed := fun j oj hj hl => (by rw [hrep] at hl; cases hl), tail := fun d _ => hrep d, defers := rfl, sz := rfl, old := fun _ _ => rfl, eqs := fun i v hl => (by rw [hrep] at hl; cases hl), vars := fun i V c hl => (by rw [hrep] at hl; cases hl), below := Below.refl _ _ }
  have hcount : (List.range m).countP (fun i => !(Array.replicate ops.size false).getD i false) = m := by
    simp only [hrep]
    simp
  have := region_any hc (fun i hi => (hall i (by omega) hi).2) (fun i hi => (hall i (by omega) hi).1) hfin m _ _ _ hI hcount
  rw [show m + (ops.size - m) = ops.size by omega] at this
  exact this

theorem plan_fix {a0 : Act} {k : Nat} {oi : Oper} {N : Option Tmp} {v : Value} {a a' : (Nat → Value) → Act} {vs : List (Nat × (Value → World → Prop))} (hi : ops[k]? = some oi) (hN : oi.dst = N)
    (h : ∀ u w, Below W.heap.size W w → (∀ x ∈ vs, usesB ops k x.1 = true → x.2 (u x.1) w ∧ ∀ r, (u x.1).ownBlock = some r → W.heap.size ≤ r ∧ r < w.heap.size) → StepF P ops oi (a u) w (fun x w' => x = v ∧ Below w.heap.size w w'))
    (ha : ∀ u, (a u).put N v = a' u) (hp : Plan tk P ops Q m a0 W (k + 1) a' vs) : Plan tk P ops Q m a0 W k a vs := by
  intro pre hpre hvs hcs
  have hpp : ∀ i, i < k → (fun i => if i = k then Fact.eq v else pre i) i = pre i := fun i hi => if_neg (by omega)
  have hd : dstOf ops k = N := by unfold dstOf; rw [hi, ← hN]; rfl
  obtain ⟨facts, h1, h2, h3⟩ := hp (fun i => if i = k then .eq v else pre i)
    (fun u => by rw [← ha u, actsF, actsF_pre k hpp, ← hpre u, hd]; simp [Fact.val])
    (fun x hx => by
      obtain ⟨⟨c, g1⟩, g2, g3⟩ := hvs x hx
      refine ⟨⟨c, by rw [← g1]; exact if_neg (by omega)⟩, by omega, fun i hi V' => ?_⟩
      show (if i = k then Fact.eq v else pre i) ≠ _
      split
      · intro e; cases e
      · exact g3 i (by omega) V')
    (fun i hi V j e => by
      replace e : (if i = k then Fact.eq v else pre i) = .is V (some j) := e
      split at e
      · cases e
      · have := hcs i (by omega) V j e; omega)
  have hfk : facts k = .eq v := by rw [h1 k (by omega)]; exact if_pos rfl
  have hfp : ∀ i, i < k → facts i = pre i := fun i hi => by rw [h1 i (by omega)]; exact if_neg (by omega)
  refine ⟨facts, hfp, fun i hki him => ?_, h3⟩
  by_cases hik : i = k
  · subst hik
    refine ⟨fun o ho u w hB hu => ?_, fun V c e => by rw [hfk] at e; cases e⟩
    obtain rfl : oi = o := Option.some.inj (hi.symm.trans ho)
    rw [actsF_pre i hfp, ← hpre u]
    refine (h u w hB (fun x hx hus => ?_)).mono (fun x w' hx => ?_)
    · obtain ⟨⟨c, g1⟩, g2, _⟩ := hvs x hx
      exact hu x.1 x.2 c hus g2 (by rw [hfp _ g2]; exact g1)
    · rw [hfk]; exact hx
  · exact h2 i (by omega) him

theorem plan_new {a0 : Act} {k : Nat} {oi : Oper} {N : Option Tmp} {V : Value → World → Prop} {a a' : (Nat → Value) → Act} {vs : List (Nat × (Value → World → Prop))} (hi : ops[k]? = some oi) (hN : oi.dst = N) (hV : Stable tk V)
    (h : ∀ u w, Below W.heap.size W w → (∀ x ∈ vs, usesB ops k x.1 = true → x.2 (u x.1) w ∧ ∀ r, (u x.1).ownBlock = some r → W.heap.size ≤ r ∧ r < w.heap.size) → StepF P ops oi (a u) w (fun x w' => V x w' ∧ Below w.heap.size w w' ∧ ∀ r, x.ownBlock = some r → w.heap.size ≤ r ∧ r < w'.heap.size))
    (ha : ∀ u, (a u).put N (u k) = a' u) (hp : Plan tk P ops Q m a0 W (k + 1) a' ((k, V) :: vs)) : Plan tk P ops Q m a0 W k a vs := by
  intro pre hpre hvs hcs
  have hpp : ∀ i, i < k → (fun i => if i = k then Fact.is V none else pre i) i = pre i := fun i hi => if_neg (by omega)
  have hd : dstOf ops k = N := by unfold dstOf; rw [hi, ← hN]; rfl
  obtain ⟨facts, h1, h2, h3⟩ := hp (fun i => if i = k then .is V none else pre i)
    (fun u => by rw [← ha u, actsF, actsF_pre k hpp, ← hpre u, hd]; simp [Fact.val])
    (fun x hx => by
      rcases List.mem_cons.1 hx with rfl | hx
      · refine ⟨⟨none, if_pos rfl⟩, by simp, fun i hi V' => ?_⟩
        show (if i = k then Fact.is V none else pre i) ≠ _
        split
        · intro e; cases e
        · intro e; have := hcs i (by omega) V' k e; omega
      · obtain ⟨⟨c, g1⟩, g2, g3⟩ := hvs x hx
        refine ⟨⟨c, by rw [← g1]; exact if_neg (by omega)⟩, by omega, fun i hi V' => ?_⟩
        show (if i = k then Fact.is V none else pre i) ≠ _
        split
        · intro e; cases e
        · exact g3 i (by omega) V')
    (fun i hi V' j e => by
      replace e : (if i = k then Fact.is V none else pre i) = .is V' (some j) := e
      split at e
      · cases e
      · have := hcs i (by omega) V' j e; omega)
  have hfk : facts k = .is V none := by rw [h1 k (by omega)]; exact if_pos rfl
  have hfp : ∀ i, i < k → facts i = pre i := fun i hi => by rw [h1 i (by omega)]; exact if_neg (by omega)
  refine ⟨facts, hfp, fun i hki him => ?_, h3⟩
  by_cases hik : i = k
  · subst hik
    refine ⟨fun o ho u w hB hu => ?_, fun V' c e => by rw [hfk] at e; cases e; exact ⟨hV, fun j e => by cases e⟩⟩
    obtain rfl : oi = o := Option.some.inj (hi.symm.trans ho)
    rw [actsF_pre i hfp, ← hpre u]
    refine (h u w hB (fun x hx hus => ?_)).mono (fun x w' hx => ?_)
    · obtain ⟨⟨c, g1⟩, g2, _⟩ := hvs x hx
      exact hu x.1 x.2 c hus g2 (by rw [hfp _ g2]; exact g1)
    · rw [hfk]; exact hx
  · exact h2 i (by omega) him

theorem plan_take {a0 : Act} {k j : Nat} {oi : Oper} {N : Option Tmp} {V Vj : Value → World → Prop} {a a' : (Nat → Value) → Act} {vs vs' : List (Nat × (Value → World → Prop))} (hi : ops[k]? = some oi) (hN : oi.dst = N) (hV : Stable tk V)
    (htk : tk = true) (hj : (j, Vj) ∈ vs) (hcj : (usesB ops k j && (List.range m).all fun i => i == k || !usesB ops i j) = true) (hv' : ∀ x ∈ vs', x ∈ vs ∧ x.1 ≠ j)
    (h : ∀ u w, Below W.heap.size W w → (∀ x ∈ vs, usesB ops k x.1 = true → x.2 (u x.1) w ∧ ∀ r, (u x.1).ownBlock = some r → W.heap.size ≤ r ∧ r < w.heap.size) → StepF P ops oi (a u) w (fun x w' => V x w' ∧ w.grownBy w' (u j).ownBlock ∧ ∀ r, x.ownBlock = some r → (w.heap.size ≤ r ∧ r < w'.heap.size) ∨ (u j).ownBlock = some r))
    (ha : ∀ u, (a u).put N (u k) = a' u) (hp : Plan tk P ops Q m a0 W (k + 1) a' ((k, V) :: vs')) : Plan tk P ops Q m a0 W k a vs := by
  intro pre hpre hvs hcs
  have hpp : ∀ i, i < k → (fun i => if i = k then Fact.is V (some j) else pre i) i = pre i := fun i hi => if_neg (by omega)
  have hd : dstOf ops k = N := by unfold dstOf; rw [hi, ← hN]; rfl
  obtain ⟨⟨cj, hj1⟩, hj2, hj3⟩ := hvs _ hj
  obtain ⟨facts, h1, h2, h3⟩ := hp (fun i => if i = k then .is V (some j) else pre i)
    (fun u => by rw [← ha u, actsF, actsF_pre k hpp, ← hpre u, hd]; simp [Fact.val])
    (fun x hx => by
      rcases List.mem_cons.1 hx with rfl | hx
      · refine ⟨⟨some j, if_pos rfl⟩, by simp, fun i hi V' => ?_⟩
        show (if i = k then Fact.is V (some j) else pre i) ≠ _
        split
        · intro e; cases e; simp at hj2
        · intro e; have := hcs i (by omega) V' k e; omega
      · obtain ⟨hx1, hx2⟩ := hv' x hx
        obtain ⟨⟨c, g1⟩, g2, g3⟩ := hvs x hx1
        refine ⟨⟨c, by rw [← g1]; exact if_neg (by omega)⟩, by omega, fun i hi V' => ?_⟩
        show (if i = k then Fact.is V (some j) else pre i) ≠ _
        split
        · intro e; cases e; exact hx2 rfl
        · exact g3 i (by omega) V')
    (fun i hi V' j' e => by
      replace e : (if i = k then Fact.is V (some j) else pre i) = .is V' (some j') := e
      split at e
      · cases e; omega
      · have := hcs i (by omega) V' j' e; omega)
  have hfk : facts k = .is V (some j) := by rw [h1 k (by omega)]; exact if_pos rfl
  have hfp : ∀ i, i < k → facts i = pre i := fun i hi => by rw [h1 i (by omega)]; exact if_neg (by omega)
  rw [Bool.and_eq_true] at hcj
  refine ⟨facts, hfp, fun i hki him => ?_, h3⟩
  by_cases hik : i = k
  · subst hik
    refine ⟨fun o ho u w hB hu => ?_, fun V' c e => by
      rw [hfk] at e
      cases e
      refine ⟨hV, fun j' e => ?_⟩
      cases e
      refine ⟨htk, hj2, hcj.1, fun k hk hne => ?_, _, _, (hfp _ hj2).trans hj1⟩
      have := List.all_eq_true.1 hcj.2 k (List.mem_range.2 hk)
      simpa [hne] using this⟩
    obtain rfl : oi = o := Option.some.inj (hi.symm.trans ho)
    rw [actsF_pre i hfp, ← hpre u]
    refine (h u w hB (fun x hx hus => ?_)).mono (fun x w' hx => ?_)
    · obtain ⟨⟨c, g1⟩, g2, _⟩ := hvs x hx
      exact hu x.1 x.2 c hus g2 (by rw [hfp _ g2]; exact g1)
    · rw [hfk]; exact hx
  · exact h2 i (by omega) him

theorem plan_rest {a0 : Act} {k n : Nat} {a : (Nat → Value) → Act} {vs : List (Nat × (Value → World → Prop))} (l : Array Bool) (hk : k = m) (hn : ops.size - m = n) (hl : ((List.range ops.size).map fun i => decide (i < m)) = l.toList)
    (h : ∀ u w, Below W.heap.size W w → (∀ x ∈ vs, x.2 (u x.1) w) → wpAny P .any ops Q n l (a u) w) : Plan tk P ops Q m a0 W k a vs := by
  subst hk
  subst hn
  intro pre hpre hvs _
  refine ⟨pre, fun _ _ => rfl, fun i h1 h2 => by omega, fun l2 u w h1 h2 h3 hB hv => ?_⟩
  have hl2 : l2 = l := by
    apply Array.ext'
    rw [← hl]
    apply List.ext_getElem
    · simp [h1]
    · intro i g1 g2
      simp only [Array.length_toList] at g1
      simp only [List.getElem_map, List.getElem_range, Array.getElem_toList]
      by_cases hi : i < k
      · have := h2 i hi
        simp [g1] at this
        simp [hi, this]
      · have := h3 i (by omega)
        simp [g1] at this
        simp [hi, this]
  rw [hl2, ← hpre u]
  exact h u w hB (fun x hx => by
    obtain ⟨⟨c, g1⟩, g2, g3⟩ := hvs x hx
    exact hv x.1 x.2 c g2 g1 g3)

theorem plan_end {a0 : Act} {k : Nat} {a : (Nat → Value) → Act} {vs : List (Nat × (Value → World → Prop))} (hk : k = m) (hn : ops.size = m)
    (h : ∀ u w, Below W.heap.size W w → (∀ x ∈ vs, x.2 (u x.1) w) → Q .normal (a u) w) : Plan tk P ops Q m a0 W k a vs := by
  refine plan_rest ((List.range ops.size).map fun i => decide (i < m)).toArray hk (n := 0) (by omega) rfl (fun u w hB hv => ⟨?_, h u w hB hv⟩)
  unfold Region.ready
  rw [List.filter_eq_nil_iff]
  intro i hi
  have hi := List.mem_range.1 hi
  simp [hi]
  intro h
  omega

/-! ### What an operation yields -/
theorem step_val {oi : Oper} {a : Act} {w w' : World} {x : Value} {K : Value → World → Prop} (hw : Region.wanted oi (yielded ops a.tmps) = true) (hr : (execOp a.eval oi).run P w = .ok (.value x) w') (hk : K x w') : StepF P ops oi a w K := by
  unfold StepF
  rw [if_pos hw, hr]
  exact hk
theorem step_off {oi : Oper} {a : Act} {w : World} {K : Value → World → Prop} (hw : Region.wanted oi (yielded ops a.tmps) = false) (hk : K undef w) : StepF P ops oi a w K := by
  unfold StepF
  rw [if_neg (by rw [hw]; simp)]
  exact hk
theorem step_call {oi : Oper} {a : Act} {w : World} {K : Value → World → Prop} {f : FuncId} {fn : Func} {as : Array Operand} {ts : Array TypeId} (hf : P.funcs[f]? = some fn) (hname : (fn.name == "runtime.NumGoroutine") = false) (hb : fn.body.isSome = true) (args : Array Value)
    (hw : Region.wanted oi (yielded ops a.tmps) = true) (hop : oi.op = .call { callee := .value (.func f), args := as, argTypes := ts }) (hargs : as.map a.eval = args)
    (h : Calls P f args w fun e w' => ∃ v, e = .returned v ∧ K v w') : StepF P ops oi a w K := by
  have he := enters_ hf hname hb args w
  unfold StepF
  rw [if_pos hw]
  have hr : (execOp a.eval oi).run P w = .ok (.enter f args) w := by
    unfold execOp
    simp [hop, resolve, Deferred.ofValue, invoke, Act.eval, hargs, he]
  rw [hr]
  exact h
/-- A row's cells, and a block of a row's own. -/
theorem stable_any {tk : Bool} (V : Value → Prop) : Stable tk (fun u _ => V u) := fun _ _ _ _ h _ _ => h
theorem stable_and {tk : Bool} {V V' : Value → World → Prop} (h : Stable tk V) (h' : Stable tk V') : Stable tk (fun u w => V u w ∧ V' u w) := fun u w w' row hv hg hr => ⟨h u w w' row hv.1 hg hr, h' u w w' row hv.2 hg hr⟩
theorem stable_own {tk : Bool} (base : Nat) (e : TypeId) (size n : Nat) (xs : List Value) : Stable tk (fun u w => w.ownsRow base e size u n xs) := fun u w w' row h hg hr => h.kept hg (by
  cases hu : u.ownBlock with
  | none => exact .inl rfl
  | some r =>
    refine .inr fun e => ?_
    exact (hr r e.symm).2 hu)
/-- A slice made of literals: its block is its own. -/
def IsLit (e : TypeId) (n : Nat) (cs : Array Value) (u : Value) (w : World) : Prop := ∃ b, u = .slice (some ⟨b, 0, none⟩) n n ∧ w.heap[b]? = some (.cells cs e (0, 0))
theorem stable_lit {tk : Bool} (e : TypeId) (n : Nat) (cs : Array Value) : Stable tk (IsLit e n cs) := by
  rintro u w w' row ⟨b, rfl, hb⟩ hg hr
  refine ⟨b, rfl, (hg.block b (Array.getElem?_eq_some_iff.1 hb).1 fun e => ?_).trans hb⟩
  exact (hr b e.symm).2 rfl
/-- Where no row is taken: whatever lives on under Below. -/
theorem stable_below {V : Value → World → Prop} (h : ∀ u w w', V u w → Below w.heap.size w w' → V u w') : Stable false V := fun u w w' row hv hg hr => by
  cases row with
  | some r => exact absurd (hr r rfl).1 (by simp)
  | none => exact h u w w' hv ⟨hg.os, hg.tape, hg.output, hg.size, fun k hk => hg.block k hk (by simp)⟩
/-- A region's rest, behind what was planned: each operation by its own. -/
theorem any_last {n : Nat} {l : Array Bool} {a : Act} {w : World} (h : wpAnyLast P .any ops Q (fun _ => True) (List.range ops.size) n l a w) : wpAny P .any ops Q n l a w := wpAny_of_last _ _ _ _ h

/-- append, onto a row of the call's own, of what stands at an address. -/
theorem append_run {oi : Oper} {a : Act} {W : World} (base : Nat) (s x : Operand) (t e : TypeId) (z : Value) (size bytes : Nat)
    (ho : oi.op = .call { callee := .builtin .append, args := #[s, x], argTypes := #[t, t] })
    (ht : P.underlying t = some (.slice e)) (hinfo : (P.info? e).map (fun i => (i.zero, i.size, i.bytes)) = some (some z, size, bytes)) (hz : z.cells.size = size) (hs0 : 0 < size) (hb0 : 0 < bytes)
    (v : Value) (n : Nat) (xs ys : List Value) (hs : a.eval s = v) (ad : Addr) (m c : Nat) (hx : a.eval x = .slice (some ad) m c) (hys : ys.length = m * size) (h1 : ∀ u ∈ ys, u.oneCell' = true)
    (HO : W.ownsRow base e size v n xs) (hnews : ∀ j u, ys[j]? = some u → W.cell? (ad.add j) = some u) (hbase : base ≤ W.heap.size) (hl : (n + m) * bytes ≤ 140737488355328) :
    ∃ v1 w1, (execOp a.eval oi).run P W = .ok (.value v1) w1 ∧ w1.ownsRow base e size v1 (n + m) (xs ++ ys) ∧ W.grownBy w1 v.ownBlock ∧ (v1.ownBlock = v.ownBlock ∨ v1.ownBlock = some W.heap.size) := by
  obtain ⟨i0, hi, hzz⟩ := Option.map_eq_some_iff.1 hinfo
  simp only [Prod.mk.injEq] at hzz
  obtain ⟨hz0, hz1, hz2⟩ := hzz
  have hlen : n + m ≤ 140737488355328 := Nat.le_trans (Nat.le_mul_of_pos_right _ hb0) hl
  obtain ⟨v1, w1, hr, hown, hg, _, hat⟩ := run_append_own_at (P := P) (w := W) base t oi.type e i0 z size bytes ht hi hz0 hz1 hz2 hz hs0 v n xs HO ad m c ys hys hnews h1 (by simp only [maxLen]; omega) hl hbase
  refine ⟨v1, w1, ?_, hown, hg, hat⟩
  unfold execOp
  simp only [ho, resolve, invoke, builtin, Sem.run_bind, Sem.run_pure, Result.andThen_ok, List.map_toArray, List.map_cons, List.map_nil, hs, hx, hr]
theorem step_append_at {oi : Oper} {a : Act} {W : World} {K : Act → World → Prop} {v : Value} {n m base : Nat} {e : TypeId} {size : Nat} {xs : List Value} (hw : Region.wanted oi (yielded ops a.tmps) = true)
    (hr : ∃ v1 w1, (execOp a.eval oi).run P W = .ok (.value v1) w1 ∧ w1.ownsRow base e size v1 (n + m) xs ∧ W.grownBy w1 v.ownBlock ∧ (v1.ownBlock = v.ownBlock ∨ v1.ownBlock = some W.heap.size))
    (h : ∀ v1 w1, w1.ownsRow base e size v1 (n + m) xs → W.grownBy w1 v.ownBlock → (v1.ownBlock = v.ownBlock ∨ v1.ownBlock = some W.heap.size) → K (a.put oi.dst v1) w1) :
    if Region.wanted oi (yielded ops a.tmps) = true then Oper.wp P oi a W K Q else K (a.put oi.dst undef) W := by
  obtain ⟨v1, w1, hr, h1, h2, h3⟩ := hr
  rw [if_pos hw]
  unfold Oper.wp
  rw [hr]
  exact h v1 w1 h1 h2 h3
/-- The same, as a step of a plan. -/
theorem step_appendF {oi : Oper} {a : Act} {W : World} {K : Value → World → Prop} {v : Value} {n m base : Nat} {e : TypeId} {size : Nat} {xs : List Value} (hw : Region.wanted oi (yielded ops a.tmps) = true)
    (hr : ∃ v1 w1, (execOp a.eval oi).run P W = .ok (.value v1) w1 ∧ w1.ownsRow base e size v1 (n + m) xs ∧ W.grownBy w1 v.ownBlock ∧ (v1.ownBlock = v.ownBlock ∨ v1.ownBlock = some W.heap.size))
    (h : ∀ v1 w1, w1.ownsRow base e size v1 (n + m) xs → W.grownBy w1 v.ownBlock → (v1.ownBlock = v.ownBlock ∨ v1.ownBlock = some W.heap.size) → K v1 w1) : StepF P ops oi a W K := by
  obtain ⟨v1, w1, hr, h1, h2, h3⟩ := hr
  exact step_val hw hr (h v1 w1 h1 h2 h3)

/-- A call of a function value: a closure over cap. -/
theorem step_callv {oi : Oper} {a : Act} {w : World} {K : Value → World → Prop} {f : FuncId} {fn : Func} {x : Operand} {as : Array Operand} {ts : Array TypeId} (hf : P.funcs[f]? = some fn) (hname : (fn.name == "runtime.NumGoroutine") = false) (hb : fn.body.isSome = true) (args cap : Array Value)
    (hw : Region.wanted oi (yielded ops a.tmps) = true) (hop : oi.op = .call { callee := .value x, args := as, argTypes := ts }) (hx : a.eval x = .func (.func f) #[] cap) (hargs : as.map a.eval = args)
    (h : Calls P f (args ++ cap) w fun e w' => ∃ v, e = .returned v ∧ K v w') : StepF P ops oi a w K := by
  have he := enters_ hf hname hb (args ++ cap) w
  unfold StepF
  rw [if_pos hw]
  have hr : (execOp a.eval oi).run P w = .ok (.enter f (args ++ cap)) w := by
    unfold execOp
    simp [hop, resolve, Deferred.ofValue, invoke, hx, hargs, he]
  rw [hr]
  exact h
end
end Go.Proofs.Ytmelefiodhnlpaa
