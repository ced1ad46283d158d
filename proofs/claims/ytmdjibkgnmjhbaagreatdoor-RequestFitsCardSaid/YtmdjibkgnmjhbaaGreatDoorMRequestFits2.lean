/- RequestFits: part 2 of its proof: Fa5, Fa6, AbsW, AbsX. -/
import Derived.Test.YtmdjibkgnmjhbaaGreatDoorMRequestFits1
import Derived.Test.YtmdjibkgnmjhbaaGreatDoorMRequestFits0
section
/- The quick engine, part 5: operations in a row, code, functions. -/
set_option autoImplicit false
set_option linter.unusedSimpArgs false
set_option linter.unusedVariables false
namespace Go.Proofs.YtmdjibkgnmjhbaaGreatDoor.Abs
open Go Go.RowKit

section
variable {P : Program} {G : GivenT}

/-! ### Slots -/
theorem putC_ok {lim : Nat} {E ET : Tr Value} {d : Option Tmp} {v : Value} {K : SE → Bool} (hs : SubE E ET) (hk : putC lim E d v K = true) : ∃ E' ET', aput lim ET d v = some ET' ∧ SubE E' ET' ∧ K E' = true ∧ (∀ t, d ≠ some t → ET'.get t = ET.get t) ∧ (E' = E ∨ ∃ t, d = some t ∧ E' = E.set t (some v)) := by
  unfold putC at hk
  split at hk
  · rename_i t
    split at hk
    · rename_i hb
      have hb := Nat.le_of_ble_eq_true hb
      rw [Tr.setK_eq] at hk
      refine ⟨_, ET.set t (some v), ?_, hs.set t v, hk, fun u hu => Tr.get_set_ne _ _ _ _ (fun e => hu (by rw [e])), .inr ⟨t, rfl, rfl⟩⟩
      simp only [aput]
      rw [if_pos (show t < lim from hb)]
    · cases hk
  · exact ⟨E, ET, rfl, hs, hk, fun _ _ => rfl, .inl rfl⟩
theorem getsK_ok {E : Tr Value} : ∀ {js : List Nat} {K : List Value → Bool}, getsK E js K = true → ∃ vs, vs.length = js.length ∧ (∀ (i t : Nat) (v : Value), js[i]? = some t → vs[i]? = some v → E.get t = some v) ∧ K vs = true
  | [], K, hk => ⟨[], rfl, fun i t v h => by simp at h, hk⟩
  | t :: r, K, hk => by
    obtain ⟨v, hv, hk⟩ := okB_ok hk
    obtain ⟨vs, hl, hg, hk⟩ := getsK_ok hk
    refine ⟨v :: vs, by simp [hl], fun i u w h1 h2 => ?_, hk⟩
    cases i with
    | zero =>
      simp at h1 h2
      subst h1; subst h2
      exact hv
    | succ i =>
      rw [List.getElem?_cons_succ] at h1 h2
      exact hg i u w h1 h2
theorem delK_ok {E : Tr Value} : ∀ {ts : List Nat} {K : SE → Bool}, delK E ts K = true → ∃ E', K E' = true ∧ ∀ t, E'.get t = if t ∈ ts then none else E.get t
  | [], K, hk => ⟨E, hk, fun t => by simp⟩
  | t :: r, K, hk => by
    obtain ⟨E', hk, hg⟩ := delK_ok (ts := r) (K := fun E' => E'.setK t none K) hk
    rw [Tr.setK_eq] at hk
    refine ⟨_, hk, fun u => ?_⟩
    rw [Tr.get_set]
    by_cases h : u = t
    · rw [if_pos h, if_pos (by simp [h])]
    · rw [if_neg h, hg u]
      by_cases h2 : u ∈ r
      · rw [if_pos h2, if_pos (by simp [h2])]
      · rw [if_neg h2, if_neg (by simp [h, h2])]
theorem setsK_ok {E : Tr Value} : ∀ {js : List Nat} {vs : List Value} {K : SE → Bool}, setsK E js vs K = true → ∃ E', K E' = true ∧ ∀ t v, E'.get t = some v → (∃ i : Nat, js[i]? = some t ∧ vs[i]? = some v) ∨ E.get t = some v
  | [], vs, K, hk => ⟨E, hk, fun t v h => .inr h⟩
  | t :: r, [], K, hk => by cases hk
  | t :: r, v :: vs, K, hk => by
    obtain ⟨E', hk, hg⟩ := setsK_ok (js := r) (vs := vs) (K := fun E' => E'.setK t (some v) K) hk
    rw [Tr.setK_eq] at hk
    refine ⟨_, hk, fun u w hu => ?_⟩
    rw [Tr.get_set] at hu
    split at hu
    · rename_i e
      cases hu
      exact .inl ⟨0, by simp [e], rfl⟩
    · rcases hg u w hu with ⟨i, h1, h2⟩ | h1
      · exact .inl ⟨i + 1, h1, h2⟩
      · exact .inr h1
/-- Slots that were written are known anew alone. -/
theorem rebind_ok {E ET ET' : Tr Value} {asg js : List Nat} {vs : List Value} {K : SE → Bool} (hs : SubE E ET) (hf : ∀ t, t ∉ asg → ET'.get t = ET.get t) (hs' : ∀ (i t : Nat) (v : Value), js[i]? = some t → vs[i]? = some v → ET'.get t = some v)
    (hk : (delK E asg fun E1 => setsK E1 js vs K) = true) : ∃ E2, SubE E2 ET' ∧ K E2 = true := by
  obtain ⟨E1, hk, h1⟩ := delK_ok hk
  obtain ⟨E2, hk, h2⟩ := setsK_ok hk
  refine ⟨E2, fun t v hv => ?_, hk⟩
  rcases h2 t v hv with ⟨i, a, b⟩ | h
  · exact hs' i t v a b
  · rw [h1] at h
    split at h
    · cases h
    · rename_i hn
      rw [hf t hn]
      exact hs t v h

/-! ### What an operation, a row of them, a piece of code leaves as it was -/
theorem aput_get {lim : Nat} {E E' : Tr Value} {d : Option Tmp} {v : Value} (h : aput lim E d v = some E') (t : Nat) (ht : d ≠ some t) : E'.get t = E.get t := by
  unfold aput at h
  split at h
  · rename_i u
    split at h
    · cases h
      exact Tr.get_set_ne _ _ _ _ (fun e => ht (by rw [e]))
    · cases h
  · cases h; rfl
theorem asgO_dst : ∀ {os : List Oper} {t : Nat}, t ∉ asgO os → ∀ o ∈ os, o.dst ≠ some t
  | [], t, h, o, ho => by simp at ho
  | x :: r, t, h, o, ho => by
    unfold asgO at h
    rcases List.mem_cons.1 ho with rfl | ho
    · intro e
      rw [e] at h
      simp at h
    · refine asgO_dst (os := r) ?_ o ho
      intro hm
      apply h
      split
      · exact List.mem_cons_of_mem _ hm
      · exact hm
theorem aops_frame {cf : CallF} {lim : Nat} {ops : Array Oper} : ∀ {os : List Oper} {s s' : ASt} {e : AExit}, aops P cf lim ops os s = some (e, s') → ∀ t, t ∉ asgO os → s'.E.get t = s.E.get t
  | [], s, s', e, h, t, ht => by cases h; rfl
  | o :: os, s, s', e, h, t, ht => by
    have hd := asgO_dst ht o List.mem_cons_self
    have hr : t ∉ asgO os := by
      intro hm
      apply ht
      unfold asgO
      split
      · exact List.mem_cons_of_mem _ hm
      · exact hm
    unfold aops at h
    split at h
    · split at h
      · split at h
        · rename_i E hE
          rw [aops_frame h t hr]
          exact aput_get hE t hd
        · cases h
      · split at h
        · split at h
          · rename_i E hE
            rw [aops_frame h t hr]
            exact aput_get hE t hd
          · cases h
        · cases h; rfl
        · cases h
      · cases h; rfl
      · cases h
    · split at h
      · rename_i E hE
        rw [aops_frame h t hr]
        exact aput_get hE t hd
      · cases h
theorem asgO_get {os : List Oper} {i : Nat} {o : Oper} {t : Nat} (h : os[i]? = some o) (hd : o.dst = some t) : t ∈ asgO os := by
  apply Classical.byContradiction
  intro hn
  exact asgO_dst hn o (List.mem_of_getElem? h) hd
theorem drawGo_frame {cf : CallF} {lim : Nat} {ops : Array Oper} {B : List Nat} : ∀ {σ : List Nat} {E : Tr Value} {h : Hp} {l : List Pend} {e : AExit} {s' : ASt}, drawGo P cf lim ops B σ E h l = some (e, s') → ∀ t, t ∉ asgO ops.toList → s'.E.get t = E.get t
  | [], E, h, l, e, s', hd, t, ht => by
    unfold drawGo at hd
    split at hd
    · cases hd; rfl
    · cases hd
  | i :: σ, E, h, l, e, s', hd, t, ht => by
    unfold drawGo at hd
    split at hd
    · cases hd
    rename_i o ho
    have hne : o.dst ≠ some t := fun hdst => ht (asgO_get (by rw [Array.getElem?_toList]; exact ho) hdst)
    split at hd
    · split at hd
      rotate_left
      · cases hd
      split at hd
      rotate_left
      · cases hd
      split at hd
      rotate_left
      · cases hd
      rename_i E1 hput
      rw [drawGo_frame hd t ht]
      exact aput_get hput t hne
    · split at hd
      rotate_left
      · cases hd
      split at hd
      rotate_left
      · cases hd
      rename_i E1 hput
      rw [drawGo_frame hd t ht]
      exact aput_get hput t hne
theorem exec_frame : ∀ (k lim : Nat) (c : Code) (s s' : ASt) (e : AExit), exec P G k lim c s = some (e, s') → ∀ t, t ∉ asgL c → s'.E.get t = s.E.get t
  | 0, lim, c, s, s', e, h, t, ht => by cases h
  | k + 1, lim, c, s, s', e, h, t, ht => by
    cases c with
    | skip => cases h; rfl
    | label l => cases h; rfl
    | exit id => cases h; rfl
    | ret => cases h; rfl
    | region id ops d =>
      cases d with
      | false => exact aops_frame (show aops P (callBy P G (exec P G k)) lim ops ops.toList s = some (e, s') from h) t ht
      | true =>
        have h' : adraw P (callBy P G (exec P G k)) lim ops s = some (e, s') := h
        unfold adraw at h'
        dsimp only at h'
        split at h'
        · exact drawGo_frame h' t ht
        · cases h'
    | seq a b =>
      have h' : (match exec P G k lim a s with | some (.normal, s') => exec P G k lim b s' | r => r) = some (e, s') := h
      simp only [asgL, List.mem_append, not_or] at ht
      split at h'
      · rename_i s1 hx
        rw [exec_frame k lim b s1 s' e h' t ht.2]
        exact exec_frame k lim a s s1 _ hx t ht.1
      · exact exec_frame k lim a s s' e h' t ht.1
    | cond c a b =>
      have h' : (match aev P s.E s.h c with | some (.bool true) => exec P G k lim a s | some (.bool false) => exec P G k lim b s | _ => none) = some (e, s') := h
      simp only [asgL, List.mem_append, not_or] at ht
      split at h'
      · exact exec_frame k lim a s s' e h' t ht.1
      · exact exec_frame k lim b s s' e h' t ht.2
      · cases h'
    | block id b =>
      have h' : (match exec P G k lim b s with | some (.exit id', s') => if id' = id then some (.normal, s') else some (.exit id', s') | r => r) = some (e, s') := h
      split at h'
      · rename_i id' s1 hb
        have := exec_frame k lim b s s1 _ hb t ht
        split at h'
        · cases h'; exact this
        · cases h'; exact this
      · exact exec_frame k lim b s s' e h' t ht
    | loop b =>
      have h' : (match exec P G k lim b s with | some (.normal, s') => exec P G k lim (.loop b) s' | r => r) = some (e, s') := h
      split at h'
      · rename_i s1 hx
        rw [exec_frame k lim (.loop b) s1 s' e h' t ht]
        exact exec_frame k lim b s s1 _ hx t ht
      · exact exec_frame k lim b s s' e h' t ht
    | _ => cases h
theorem Runs.frame {lim : Nat} {c : Code} {s s' : ASt} {e : AExit} (h : Runs P G lim c s e s') (t : Nat) (ht : t ∉ asgL c) : s'.E.get t = s.E.get t := by
  obtain ⟨k0, hk⟩ := h
  exact exec_frame k0 lim c s s' e (hk k0 (Nat.le_refl _)) t ht
theorem RunsOps.frame {lim : Nat} {ops : Array Oper} {os : List Oper} {s s' : ASt} (h : RunsOps P G lim ops os s s') (t : Nat) (ht : t ∉ asgO os) : s'.E.get t = s.E.get t := by
  obtain ⟨k0, hk⟩ := h
  exact aops_frame (hk k0 (Nat.le_refl _)) t ht

/-! ### Operations in a row -/
/-- One operation, then the others. -/
theorem RunsOps.cons {lim : Nat} {ops : Array Oper} {o : Oper} {os : List Oper} {s s' : ASt} {v : Value} {h' : Hp} {E' : Tr Value} (hg : aguard s.E ops o = true) (ho : OpTo P G s.E s.h o.op v h') (hp : aput lim s.E o.dst v = some E') (hr : RunsOps P G lim ops os ⟨E', h'⟩ s') :
    RunsOps P G lim ops (o :: os) s s' := by
  obtain ⟨k1, hr⟩ := hr
  rcases ho with ho | ⟨f, args, ho, k0, hc⟩
  · refine ⟨k1, fun k hk => ?_⟩
    unfold aops
    rw [if_pos hg, ho]
    dsimp only
    rw [hp]
    exact hr k hk
  · refine ⟨max k0 k1, fun k hk => ?_⟩
    unfold aops
    rw [if_pos hg, ho]
    dsimp only
    have := hc k (by omega)
    unfold call at this
    rw [this]
    dsimp only
    rw [hp]
    exact hr k (by omega)
theorem RunsOps.off {lim : Nat} {ops : Array Oper} {o : Oper} {os : List Oper} {s s' : ASt} {E' : Tr Value} (hg : aguard s.E ops o = false) (hp : aput lim s.E o.dst undef = some E') (hr : RunsOps P G lim ops os ⟨E', s.h⟩ s') :
    RunsOps P G lim ops (o :: os) s s' := by
  obtain ⟨k1, hr⟩ := hr
  refine ⟨k1, fun k hk => ?_⟩
  unfold aops
  rw [if_neg (by rw [hg]; decide), hp]
  exact hr k hk
theorem aops_append {cf : CallF} {lim : Nat} {ops : Array Oper} : ∀ {a b : List Oper} {s s1 : ASt}, aops P cf lim ops a s = some (.normal, s1) → aops P cf lim ops (a ++ b) s = aops P cf lim ops b s1
  | [], b, s, s1, h => by cases h; rfl
  | o :: a, b, s, s1, h => by
    rw [List.cons_append]
    unfold aops at h
    conv => lhs; unfold aops
    split at h
    · rename_i hg
      try rw [if_pos hg]
      split at h
      · rename_i v h1 hx
        try rw [hx]
        try dsimp only
        split at h
        · rename_i E hE
          try rw [hE]
          exact aops_append h
        · cases h
      · rename_i f args hx
        try rw [hx]
        try dsimp only
        split at h
        · rename_i v h1 hy
          try rw [hy]
          try dsimp only
          split at h
          · rename_i E hE
            try rw [hE]
            exact aops_append h
          · cases h
        · cases h
        · cases h
      · cases h
      · cases h
    · rename_i hg
      try rw [if_neg hg]
      split at h
      · rename_i E hE
        try rw [hE]
        exact aops_append h
      · cases h
theorem RunsOps.append {lim : Nat} {ops : Array Oper} {a b : List Oper} {s s1 s' : ASt} (h1 : RunsOps P G lim ops a s s1) (h2 : RunsOps P G lim ops b s1 s') : RunsOps P G lim ops (a ++ b) s s' := by
  obtain ⟨k1, h1⟩ := h1
  obtain ⟨k2, h2⟩ := h2
  refine ⟨max k1 k2, fun k hk => ?_⟩
  rw [aops_append (h1 k (by omega))]
  exact h2 k (by omega)
theorem RunsOps.nil {lim : Nat} {ops : Array Oper} {s : ASt} : RunsOps P G lim ops [] s s := ⟨0, fun k _ => rfl⟩

theorem gEq_ok {a b : Option (Nat × Bool)} (h : gEq a b = true) : a = b := by
  cases a with
  | none => cases b with
    | none => rfl
    | some y => cases h
  | some x => cases b with
    | none => cases h
    | some y =>
      obtain ⟨i, p⟩ := x
      obtain ⟨j, q⟩ := y
      have h' : (match Nat.beq i j with | true => p == q | false => false) = true := h
      split at h'
      · rename_i hb
        rw [Nat.beq_eq] at hb
        rw [beq_iff_eq] at h'
        rw [hb, h']
      · cases h'
theorem groups_ok : ∀ l : List Oper, flatG (groups l) = l ∧ ∀ g A, (g, A) ∈ groups l → ∀ o ∈ A, o.guard = g
  | [] => ⟨rfl, fun g A h => by simp [groups] at h⟩
  | o :: r => by
    obtain ⟨h1, h2⟩ := groups_ok r
    unfold groups
    split
    · rename_i hr
      rw [hr] at h1
      refine ⟨by rw [← h1]; rfl, fun g A h x hx => ?_⟩
      simp only [List.mem_singleton, Prod.mk.injEq] at h
      obtain ⟨rfl, rfl⟩ := h
      simp at hx
      rw [hx]
    · rename_i g l t hr
      rw [hr] at h1 h2
      split
      · rename_i hg
        have hg := gEq_ok hg
        refine ⟨by rw [← h1]; rfl, fun g' A h x hx => ?_⟩
        rcases List.mem_cons.1 h with h | h
        · cases h
          rcases List.mem_cons.1 hx with rfl | hx
          · exact hg
          · exact h2 g l List.mem_cons_self x hx
        · exact h2 g' A (List.mem_cons_of_mem _ h) x hx
      · refine ⟨by rw [← h1]; rfl, fun g' A h x hx => ?_⟩
        rcases List.mem_cons.1 h with h | h
        · cases h
          simp at hx
          rw [hx]
        · exact h2 g' A h x hx

theorem opsU_ok {C : Callees} (hC : COk P G C) {lim : Nat} {ops : Array Oper} : ∀ {A : List Oper} {E ET : Tr Value} {h : Hp} {K : SE → Hp → Bool} (I : Tr Value → Prop), (∀ o ∈ A, ∀ E ET', I E → (∀ t, o.dst ≠ some t → ET'.get t = E.get t) → I ET') → (∀ o ∈ A, ∀ E, I E → aguard E ops o = true) → I ET →
    SubE E ET → opsU P (theOps P) C lim A E h K = true → ∃ E' s', RunsOps P G lim ops A ⟨ET, h⟩ s' ∧ SubE E' s'.E ∧ K E' s'.h = true
  | [], E, ET, h, K, I, hI, hg, hi, hs, hk => ⟨E, ⟨ET, h⟩, RunsOps.nil, hs, hk⟩
  | o :: A, E, ET, h, K, I, hI, hg, hi, hs, hk => by
    obtain ⟨v, h', ho, hk⟩ := compOp_ok hC hs (show compOp P (theOps P) C E h o.op (fun v h' => putC lim E o.dst v fun E' => opsU P (theOps P) C lim A E' h' K) = true from hk)
    obtain ⟨E', ET', hp, hs', hk, hf, _⟩ := putC_ok hs hk
    obtain ⟨E2, s', hr, hs2, hk⟩ := opsU_ok hC I (fun o ho => hI o (List.mem_cons_of_mem _ ho)) (fun o ho => hg o (List.mem_cons_of_mem _ ho)) (hI o List.mem_cons_self ET ET' hi hf) hs' hk
    exact ⟨E2, s', RunsOps.cons (hg o List.mem_cons_self ET hi) ho hp hr, hs2, hk⟩
theorem memL_not {t : Nat} : ∀ {l : List Nat}, memL t l = false → t ∉ l
  | [], _ => by simp
  | x :: r, h => by
    have h' : (match Nat.beq t x with | true => true | false => memL t r) = false := h
    split at h'
    · cases h'
    · rename_i hb
      have hne : t ≠ x := fun e => by rw [e, Nat.beq_refl] at hb; cases hb
      simp only [List.mem_cons, not_or]
      exact ⟨hne, memL_not h'⟩
theorem undefs_get : ∀ {js : List Nat} {i : Nat} {v : Value}, (undefs js)[i]? = some v → v = undef
  | [], i, v, h => by simp [undefs] at h
  | _ :: r, 0, v, h => by simp [undefs] at h; exact h.symm
  | _ :: r, i + 1, v, h => by
    rw [undefs, List.getElem?_cons_succ] at h
    exact undefs_get h
theorem asgO_mem : ∀ {os : List Oper} {t : Nat}, t ∈ asgO os → ∃ o ∈ os, o.dst = some t
  | [], t, h => by simp [asgO] at h
  | o :: r, t, h => by
    unfold asgO at h
    split at h
    · rename_i u hu
      rcases List.mem_cons.1 h with rfl | h
      · exact ⟨o, List.mem_cons_self, hu⟩
      · obtain ⟨x, hx, hd⟩ := asgO_mem h
        exact ⟨x, List.mem_cons_of_mem _ hx, hd⟩
    · obtain ⟨x, hx, hd⟩ := asgO_mem h
      exact ⟨x, List.mem_cons_of_mem _ hx, hd⟩
theorem opsOff_ok {lim : Nat} {ops : Array Oper} : ∀ {A : List Oper} {ET : Tr Value} {h : Hp} (I : Tr Value → Prop), (∀ o ∈ A, ∀ E ET', I E → (∀ t, o.dst ≠ some t → ET'.get t = E.get t) → I ET') → (∀ o ∈ A, ∀ E, I E → aguard E ops o = false) → I ET → dstsB lim A = true →
    ∃ ET', RunsOps P G lim ops A ⟨ET, h⟩ ⟨ET', h⟩ ∧ ∀ t, t ∈ asgO A → ET'.get t = some undef
  | [], ET, h, I, hI, hg, hi, hd => ⟨ET, RunsOps.nil, fun t ht => by simp [asgO] at ht⟩
  | o :: A, ET, h, I, hI, hg, hi, hd => by
    have key : ∃ E1, aput lim ET o.dst undef = some E1 ∧ (∀ t, o.dst ≠ some t → E1.get t = ET.get t) ∧ (∀ t, o.dst = some t → E1.get t = some undef) ∧ dstsB lim A = true := by
      unfold dstsB at hd
      split at hd
      · rename_i t ht
        split at hd
        · rename_i hb
          have hb := Nat.le_of_ble_eq_true hb
          refine ⟨ET.set t (some undef), ?_, fun u hu => Tr.get_set_ne _ _ _ _ (fun e => hu (by rw [ht, e])), fun u hu => ?_, hd⟩
          · simp only [aput, ht]
            rw [if_pos (show t < lim from hb)]
          · rw [ht] at hu
            cases hu
            exact Tr.get_set_eq _ _ _
        · cases hd
      · rename_i hn
        exact ⟨ET, by simp only [aput, hn], fun _ _ => rfl, (fun t ht => by rw [hn] at ht; cases ht), hd⟩
    obtain ⟨E1, hp, hf, hu, hd'⟩ := key
    obtain ⟨E2, hr, h2⟩ := opsOff_ok (h := h) I (fun o ho => hI o (List.mem_cons_of_mem _ ho)) (fun o ho => hg o (List.mem_cons_of_mem _ ho)) (hI o List.mem_cons_self ET E1 hi hf) hd'
    refine ⟨E2, RunsOps.off (hg o List.mem_cons_self ET hi) hp hr, fun t ht => ?_⟩
    by_cases hm : t ∈ asgO A
    · exact h2 t hm
    · rw [show E2.get t = E1.get t from hr.frame t hm]
      refine hu t ?_
      obtain ⟨x, hx, hdx⟩ := asgO_mem ht
      rcases List.mem_cons.1 hx with hx | hx
      · rw [← hx]; exact hdx
      · exact absurd hdx (asgO_dst hm x hx)
end
end Go.Proofs.YtmdjibkgnmjhbaaGreatDoor.Abs
end
section
/- The quick engine, part 6: code and functions; the functions tied to one another. -/
set_option autoImplicit false
set_option linter.unusedSimpArgs false
set_option linter.unusedVariables false
namespace Go.Proofs.YtmdjibkgnmjhbaaGreatDoor.Abs
open Go Go.RowKit

section
variable {P : Program} {G : GivenT}

theorem app_lam_true {n : Nat} {f : List Value → Hp → Bool} {vs : List Value} {h : Hp} (hk : app noH n (lam n f) vs h = true) : f vs h = true := by
  rcases app_lam noH n f vs with e | e
  · rw [e] at hk; exact hk
  · rw [e] at hk; cases hk
theorem subL_ok : ∀ {js l : List Nat}, subL js l = true → ∀ t ∈ js, t ∈ l
  | [], l, h, t, ht => by simp at ht
  | x :: r, l, h, t, ht => by
    have h' : (match memL x l with | true => subL r l | false => false) = true := h
    split at h'
    · rename_i hm
      rcases List.mem_cons.1 ht with rfl | ht
      · apply Classical.byContradiction
        intro hn
        have key : ∀ {l : List Nat}, memL t l = true → t ∈ l := by
          intro l
          induction l with
          | nil => intro h; cases h
          | cons y s ih =>
            intro h
            have h2 : (match Nat.beq t y with | true => true | false => memL t s) = true := h
            split at h2
            · rename_i hb
              rw [Nat.beq_eq] at hb
              rw [hb]; exact List.mem_cons_self
            · exact List.mem_cons_of_mem _ (ih h2)
        exact hn (key hm)
      · exact subL_ok h' t ht
    · cases h'
theorem aguard_at {E : Tr Value} {ops : Array Oper} {o : Oper} {j : Nat} {want : Bool} {t : Nat} {g : Value} (ho : o.guard = some (j, want)) (ht : (ops[j]?).bind (·.dst) = some t) (hg : E.get t = some g) : aguard E ops o = guardB want g := by
  unfold aguard guardB
  rw [ho]
  dsimp only
  rw [ht]
  dsimp only
  rw [hg]
  cases g <;> rfl

theorem compGs_ok {C : Callees} (hC : COk P G C) {lim : Nat} {ops : Array Oper} {n : Nat} : ∀ {gs : List Grp} {E ET : Tr Value} {h : Hp} {K : SE → Hp → Bool}, (∀ g A, (g, A) ∈ gs → ∀ o ∈ A, o.guard = g) → SubE E ET → compGs P (theOps P) C lim ops n gs E h K = true →
    ∃ E' s', RunsOps P G lim ops (flatG gs) ⟨ET, h⟩ s' ∧ SubE E' s'.E ∧ K E' s'.h = true
  | [], E, ET, h, K, hg, hs, hk => ⟨E, ⟨ET, h⟩, RunsOps.nil, hs, hk⟩
  | (none, A) :: r, E, ET, h, K, hg, hs, hk => by
    obtain ⟨E1, s1, hr1, hs1, hk⟩ := opsU_ok (ops := ops) hC (fun _ => True) (fun _ _ _ _ _ _ => trivial) (fun o ho E _ => by unfold aguard; rw [hg none A List.mem_cons_self o ho]) trivial hs
      (show opsU P (theOps P) C lim A E h (fun E' h' => compGs P (theOps P) C lim ops n r E' h' K) = true from hk)
    obtain ⟨E2, s2, hr2, hs2, hk⟩ := compGs_ok hC (fun g B hB => hg g B (List.mem_cons_of_mem _ hB)) hs1 hk
    exact ⟨E2, s2, hr1.append hr2, hs2, hk⟩
  | (some (j, want), A) :: r, E, ET, h, K, hg, hs, hk => by
    unfold compGs at hk
    split at hk
    rotate_left
    · cases hk
    rename_i t ht
    split at hk
    · cases hk
    rename_i hm
    have hm := memL_not hm
    obtain ⟨g, hgv, hk⟩ := okB_ok hk
    dsimp only at hk
    generalize bitsL (Nat.land (maskL (asgO A)) (ueOps ops n (flatG r))) lim [] = js at hk
    split at hk
    rotate_left
    · cases hk
    rename_i hsub hd
    have hsub := subL_ok hsub
    have hgt := hs t g hgv
    have hI : ∀ o ∈ A, ∀ E ET' : Tr Value, E.get t = some g → (∀ u, o.dst ≠ some u → ET'.get u = E.get u) → ET'.get t = some g := fun o ho E ET' hi hf => by
      rw [hf t (asgO_dst hm o ho)]; exact hi
    have hag : ∀ o ∈ A, ∀ E : Tr Value, E.get t = some g → aguard E ops o = guardB want g := fun o ho E hi => aguard_at (hg _ A List.mem_cons_self o ho) ht hi
    rcases guardK_ok (show guardK want g _ _ = true from hk) with ⟨hb, hk⟩ | ⟨hb, hk⟩
    · obtain ⟨E1, s1, hr1, hs1, hk⟩ := opsU_ok (ops := ops) hC (fun E => E.get t = some g) hI (fun o ho E hi => by rw [hag o ho E hi]; exact hb) hgt hs hk
      obtain ⟨vs, hl, hgs, hk⟩ := getsK_ok hk
      have hk := app_lam_true hk
      obtain ⟨E2, hs2, hk⟩ := rebind_ok (ET' := s1.E) hs (fun u hu => hr1.frame u hu) (fun i u v a b => hs1 u v (hgs i u v a b)) hk
      obtain ⟨E3, s3, hr3, hs3, hk⟩ := compGs_ok hC (fun g B hB => hg g B (List.mem_cons_of_mem _ hB)) hs2 hk
      exact ⟨E3, s3, hr1.append hr3, hs3, hk⟩
    · obtain ⟨ET1, hr1, hu⟩ := opsOff_ok (P := P) (G := G) (ops := ops) (h := h) (fun E => E.get t = some g) hI (fun o ho E hi => by rw [hag o ho E hi]; exact hb) hgt hd
      have hk := app_lam_true hk
      obtain ⟨E2, hs2, hk⟩ := rebind_ok (ET' := ET1) hs (fun u hu => hr1.frame u hu) (fun i u v a b => by
        rw [undefs_get b]
        exact hu u (hsub u (List.mem_of_getElem? a))) hk
      obtain ⟨E3, s3, hr3, hs3, hk⟩ := compGs_ok hC (fun g B hB => hg g B (List.mem_cons_of_mem _ hB)) hs2 hk
      exact ⟨E3, s3, hr1.append hr3, hs3, hk⟩

/-! ### Code -/
def toE : AX → AExit
  | .normal => .normal
  | .exit id => .exit id
  | .ret => .ret
theorem Runs.of_next {lim : Nat} {c : Code} {s s' : ASt} {e : AExit} {k0 : Nat} (h : ∀ k, k0 ≤ k → exec P G (k + 1) lim c s = some (e, s')) : Runs P G lim c s e s' :=
  ⟨k0 + 1, fun k hk => by
    obtain ⟨m, rfl⟩ : ∃ m, k = m + 1 := ⟨k - 1, by omega⟩
    exact h m (by omega)⟩
theorem Runs.region {lim : Nat} {id : Nat} {ops : Array Oper} {s s' : ASt} (h : RunsOps P G lim ops ops.toList s s') : Runs P G lim (.region id ops false) s .normal s' := by
  obtain ⟨k0, h⟩ := h
  exact Runs.of_next (k0 := k0) fun k hk => h k hk
theorem bothK_ok {b k : Bool} (h : bothK b k = true) : b = true ∧ k = true := by
  cases b
  · cases h
  · exact ⟨rfl, h⟩
/-- Regions whose order is open. -/
def PRel (l : List CPd) (lT : List Pend) : Prop := ∀ p ∈ lT, ∃ c ∈ l, c.i = p.i ∧ c.op = p.op ∧ c.v = p.v ∧ SubE c.E p.E ∧ isCh c.op = false ∧ ∀ want g, c.g = some (want, g) → guardB want g = true
theorem nc_of_float {E : Tr Value} {h : Hp} {op : Op} {f : FuncId} {args : Array Value} (hc : isCh op = false) (ha : aop P E h op = some (.call f args)) : False := by
  have rv_nc : ∀ {h : Hp} {x : Option Value}, rv h x = some (.call f args) → False := fun e => by unfold rv at e; split at e <;> cases e
  have rvh_nc : ∀ {x : Option (Value × Hp)}, rvh x = some (.call f args) → False := fun e => by unfold rvh at e; split at e <;> cases e
  cases op <;> first | (cases hc; done) | skip
  case move x => exact rv_nc ha
  case assign x => exact rv_nc ha
  case pick c x y =>
    dsimp only [aop, opPick] at ha
    obtain ⟨_, _, ha⟩ := with1_some ha
    split at ha
    · exact rv_nc ha
    · exact rv_nc ha
    · cases ha
  case alloc e =>
    dsimp only [aop, opAlloc] at ha
    obtain ⟨_, _, ha⟩ := with1_some ha
    exact rvh_nc ha
  case makeSlice t l c =>
    dsimp only [aop, opMakeslice] at ha
    obtain ⟨_, _, ha⟩ := with1_some ha
    obtain ⟨_, _, ha⟩ := with1_some ha
    exact rvh_nc ha
  case box e x =>
    dsimp only [aop, opBox] at ha
    obtain ⟨_, _, ha⟩ := with1_some ha
    exact rvh_nc ha
  case build t ps =>
    dsimp only [aop, opBuild] at ha
    split at ha
    · exact rv_nc ha
    · cases ha
  case buildSlice t n ps =>
    dsimp only [aop, opBuildslice] at ha
    split at ha
    · exact rvh_nc ha
    · cases ha
  case load t x =>
    dsimp only [aop, opLoad] at ha
    obtain ⟨_, _, ha⟩ := with1_some ha
    exact rv_nc ha
  case nilCheck x =>
    dsimp only [aop, opNilcheck] at ha
    obtain ⟨_, _, ha⟩ := with1_some ha
    split at ha
    · exact rv_nc ha
    · cases ha
  case binOp op t x y yt =>
    dsimp only [aop, opBinop] at ha
    obtain ⟨_, _, ha⟩ := with1_some ha
    obtain ⟨_, _, ha⟩ := with1_some ha
    exact rv_nc ha
  case unOp op t x =>
    dsimp only [aop, opUnop] at ha
    obtain ⟨_, _, ha⟩ := with1_some ha
    split at ha
    · obtain ⟨_, _, ha⟩ := with1_some ha
      split at ha
      · exact rv_nc ha
      · cases ha
    · cases ha
  case makeInterface t x =>
    dsimp only [aop, opMakeinterface] at ha
    obtain ⟨_, _, ha⟩ := with1_some ha
    split at ha
    · cases ha
    · exact rv_nc ha
    · cases ha
  case slice t x lo hi mx =>
    dsimp only [aop, opSlice] at ha
    obtain ⟨_, _, ha⟩ := with1_some ha
    split at ha
    · exact rv_nc ha
    · cases ha
  case fieldAddr s x f =>
    dsimp only [aop, opFieldaddr] at ha
    obtain ⟨_, _, ha⟩ := with1_some ha
    exact rv_nc ha
  case field t x f =>
    dsimp only [aop, opField] at ha
    obtain ⟨_, _, ha⟩ := with1_some ha
    exact rv_nc ha
  case indexAddr t x i =>
    dsimp only [aop, opIndexaddr] at ha
    obtain ⟨_, _, ha⟩ := with1_some ha
    obtain ⟨_, _, ha⟩ := with1_some ha
    exact rv_nc ha
  case index t x i =>
    dsimp only [aop, opIndex] at ha
    obtain ⟨_, _, ha⟩ := with1_some ha
    obtain ⟨_, _, ha⟩ := with1_some ha
    exact rv_nc ha
  case lookup t x i c =>
    dsimp only [aop, opLookup] at ha
    obtain ⟨_, _, ha⟩ := with1_some ha
    obtain ⟨_, _, ha⟩ := with1_some ha
    exact rv_nc ha
  case extract x i =>
    dsimp only [aop, opExtract] at ha
    obtain ⟨_, _, ha⟩ := with1_some ha
    split at ha
    · exact rv_nc ha
    · cases ha
  case call c =>
    obtain ⟨callee, cargs, tys⟩ := c
    cases callee with
    | builtin b =>
      dsimp only [aop, opCall] at ha
      split at ha
      · exact rvh_nc ha
      · cases ha
    | value f => cases hc
    | invoke r m => cases hc
theorem float_val {E : Tr Value} {h h' : Hp} {op : Op} {v : Value} (hc : isCh op = false) (ho : OpTo P G E h op v h') : aop P E h op = some (.val v h') := by
  rcases ho with ho | ⟨f, args, ho, _⟩
  · exact ho
  · exact (nc_of_float hc ho).elim
theorem recsK_ok {C : Callees} (hC : COk P G C) {h : Hp} {K : Bool} : ∀ {l : List CPd}, recsK P (theOps P) C h K l = true → K = true ∧ ∀ lT, PRel l lT → pendOk P h lT = true := by
  intro l hk
  have key : K = true ∧ ∀ c ∈ l, recK P (theOps P) C h c = true := by
    induction l with
    | nil => exact ⟨hk, fun c hc => by simp at hc⟩
    | cons p l ih =>
      obtain ⟨h1, h2⟩ := bothK_ok (show bothK _ _ = true from hk)
      obtain ⟨h3, h4⟩ := ih h2
      refine ⟨h3, fun c hc => ?_⟩
      rcases List.mem_cons.1 hc with rfl | hc
      · exact h1
      · exact h4 c hc
  refine ⟨key.1, fun lT hr => List.all_eq_true.2 fun p hp => ?_⟩
  obtain ⟨c, hc, _, e2, e3, hs, hf, hg⟩ := hr p hp
  have hk := key.2 c hc
  have raw : compOp P (theOps P) C c.E h c.op (fun v _ => eqV v c.v) = true := by
    unfold recK at hk
    split at hk
    · exact hk
    · rename_i want g hcg
      rcases guardK_ok (show guardK want g _ true = true from hk) with ⟨_, h1⟩ | ⟨h1, _⟩
      · exact h1
      · rw [hg want g hcg] at h1; cases h1
  obtain ⟨v, h', ho, hk⟩ := compOp_ok hC hs raw
  have := float_val hf ho
  rw [← e2, this]
  dsimp only
  rw [← e3]
  exact hk
theorem guardC_ok {C : Callees} (hC : COk P G C) {ops : Array Oper} {E ET : Tr Value} {h : Hp} {o : Oper} {K : Option (Bool × Value) → KVH} (hs : SubE E ET) (hk : guardC P (theOps P) C ops E h o K = true) : ∃ g v h', K g v h' = true ∧
    ((aguard ET ops o = true ∧ OpTo P G ET h o.op v h' ∧ ∀ want gv, g = some (want, gv) → guardB want gv = true) ∨ (aguard ET ops o = false ∧ v = undef ∧ h' = h)) := by
  unfold guardC at hk
  split at hk
  · rename_i hg
    obtain ⟨v, h', ho, hk⟩ := compOp_ok hC hs hk
    exact ⟨none, v, h', hk, .inl ⟨by unfold aguard; rw [hg], ho, fun _ _ e => by cases e⟩⟩
  · rename_i j want hg
    split at hk
    · rename_i t ht
      obtain ⟨g, hgv, hk⟩ := okB_ok hk
      have hat := aguard_at hg ht (hs t g hgv)
      rcases guardK_ok (show guardK want g _ _ = true from hk) with ⟨h1, hk⟩ | ⟨h1, hk⟩
      · obtain ⟨v, h', ho, hk⟩ := compOp_ok hC hs hk
        exact ⟨_, v, h', hk, .inl ⟨hat.trans h1, ho, fun w gv e => by cases e; exact h1⟩⟩
      · exact ⟨_, undef, h, hk, .inr ⟨hat.trans h1, rfl, rfl⟩⟩
    · cases hk
theorem PRel.filter {l : List CPd} {lT : List Pend} (h : PRel l lT) (f : Nat → Bool) : PRel (l.filter fun p => f p.i) (lT.filter fun p => f p.i) := fun p hp => by
  obtain ⟨h1, h2⟩ := List.mem_filter.1 hp
  obtain ⟨c, hc, e1, hr⟩ := h p h1
  exact ⟨c, List.mem_filter.2 ⟨hc, by rw [e1]; exact h2⟩, e1, hr⟩
theorem compDraw_ok {C : Callees} (hC : COk P G C) {lim : Nat} {ops : Array Oper} {B : List Nat} : ∀ {σ : List Nat} {E ET : Tr Value} {h : Hp} {l : List CPd} {lT : List Pend} {K : SE → Hp → Bool}, SubE E ET → PRel l lT → compDraw P (theOps P) C lim ops B σ E h l K = true →
    ∃ E' s' k0, (∀ k, k0 ≤ k → drawGo P (callBy P G (exec P G k)) lim ops B σ ET h lT = some (.normal, s')) ∧ SubE E' s'.E ∧ K E' s'.h = true
  | [], E, ET, h, l, lT, K, hs, hr, hk => by
    obtain ⟨hk, hp⟩ := recsK_ok hC hk
    refine ⟨E, ⟨ET, h⟩, 0, fun k _ => ?_, hs, hk⟩
    unfold drawGo
    rw [if_pos (hp lT hr)]
  | i :: σ, E, ET, h, l, lT, K, hs, hr, hk => by
    unfold compDraw at hk
    split at hk
    · cases hk
    rename_i o ho
    split at hk
    · rename_i hch
      obtain ⟨hk, hp⟩ := recsK_ok hC hk
      obtain ⟨g, v, h', hk, hcase⟩ := guardC_ok hC hs hk
      obtain ⟨E', ET', hput, hs', hk, _, _⟩ := putC_ok hs hk
      obtain ⟨E2, s2, k1, hgo, hs2, hk⟩ := compDraw_ok hC (lT := lT.filter fun p => !(ancOf B i p.i)) hs' (hr.filter fun j => !(ancOf B i j)) hk
      have hrun : ∃ k2, ∀ k, k2 ≤ k → chRun P (callBy P G (exec P G k)) ops o ET h = some (v, h') := by
        rcases hcase with ⟨hg, hop, _⟩ | ⟨hg, rfl, rfl⟩
        · rcases hop with hop | ⟨f, args, hop, k2, hc⟩
          · exact ⟨0, fun k _ => by unfold chRun; rw [if_pos hg, hop]⟩
          · refine ⟨k2, fun k hkk => ?_⟩
            have := hc k hkk
            unfold call at this
            unfold chRun
            rw [if_pos hg, hop]
            dsimp only
            rw [this]
        · exact ⟨0, fun k _ => by unfold chRun; rw [if_neg (by rw [hg]; decide)]⟩
      obtain ⟨k2, hrun⟩ := hrun
      refine ⟨E2, s2, max k1 k2, fun k hkk => ?_, hs2, hk⟩
      unfold drawGo
      rw [ho]
      dsimp only
      rw [hch]
      dsimp only
      rw [if_pos (hp lT hr), hrun k (by omega)]
      dsimp only
      rw [hput]
      exact hgo k (by omega)
    · rename_i hch
      obtain ⟨g, v, h', hk, hcase⟩ := guardC_ok hC hs hk
      obtain ⟨E', ET', hput, hs', hk, _, _⟩ := putC_ok hs hk
      have hrel : PRel (match lookNP o.op with | true => ⟨i, o.op, E, v, g⟩ :: l | false => l) (match isLook ops o ET with | true => ⟨i, o.op, ET, v⟩ :: lT | false => lT) := by
        intro p hp
        have old : ∀ p ∈ lT, ∃ c ∈ (match lookNP o.op with | true => (⟨i, o.op, E, v, g⟩ : CPd) :: l | false => l), c.i = p.i ∧ c.op = p.op ∧ c.v = p.v ∧ SubE c.E p.E ∧ isCh c.op = false ∧ ∀ want g, c.g = some (want, g) → guardB want g = true := by
          intro p hp
          obtain ⟨c, hc, hrest⟩ := hr p hp
          refine ⟨c, ?_, hrest⟩
          split
          · exact List.mem_cons_of_mem _ hc
          · exact hc
        split at hp
        · rename_i hlk
          rcases List.mem_cons.1 hp with rfl | hp
          · unfold isLook at hlk
            rw [Bool.and_eq_true] at hlk
            have hnp : lookNP o.op = true := hlk.2
            rcases hcase with ⟨hg, hop, hgg⟩ | ⟨hg, _⟩
            · refine ⟨⟨i, o.op, E, v, g⟩, ?_, rfl, rfl, rfl, hs, hch, hgg⟩
              rw [hnp]
              exact List.mem_cons_self
            · rw [hg] at hlk; cases hlk.1
          · exact old p hp
        · exact old p hp
      obtain ⟨E2, s2, k1, hgo, hs2, hk⟩ := compDraw_ok hC hs' hrel hk
      have hrun : flRun P ops o ET h = some (v, h') := by
        unfold flRun
        rcases hcase with ⟨hg, hop, _⟩ | ⟨hg, rfl, rfl⟩
        · rw [if_pos hg, float_val hch hop]
        · rw [if_neg (by rw [hg]; decide)]
      refine ⟨E2, s2, k1, fun k hkk => ?_, hs2, hk⟩
      unfold drawGo
      rw [ho]
      dsimp only
      rw [hch]
      dsimp only
      rw [hrun]
      dsimp only
      rw [hput]
      exact hgo k hkk
theorem Runs.seq {lim : Nat} {a b : Code} {s s1 s' : ASt} {e : AExit} (h1 : Runs P G lim a s .normal s1) (h2 : Runs P G lim b s1 e s') : Runs P G lim (.seq a b) s e s' := by
  obtain ⟨k1, h1⟩ := h1
  obtain ⟨k2, h2⟩ := h2
  refine Runs.of_next (k0 := max k1 k2) fun k hk => ?_
  show (match exec P G k lim a s with | some (.normal, s') => exec P G k lim b s' | r => r) = _
  rw [h1 k (by omega)]
  exact h2 k (by omega)
theorem Runs.seq_out {lim : Nat} {a b : Code} {s s1 : ASt} {e : AExit} (he : e ≠ .normal) (h1 : Runs P G lim a s e s1) : Runs P G lim (.seq a b) s e s1 := by
  obtain ⟨k1, h1⟩ := h1
  refine Runs.of_next (k0 := k1) fun k hk => ?_
  show (match exec P G k lim a s with | some (.normal, s') => exec P G k lim b s' | r => r) = _
  rw [h1 k hk]
  cases e <;> first | rfl | exact absurd rfl he
theorem Runs.cond {lim : Nat} {c : Operand} {a b : Code} {s s' : ASt} {e : AExit} {t : Bool} (hc : aev P s.E s.h c = some (.bool t)) (h : Runs P G lim (bif t then a else b) s e s') : Runs P G lim (.cond c a b) s e s' := by
  obtain ⟨k0, h⟩ := h
  refine Runs.of_next (k0 := k0) fun k hk => ?_
  show (match aev P s.E s.h c with | some (.bool true) => exec P G k lim a s | some (.bool false) => exec P G k lim b s | _ => none) = _
  rw [hc]
  cases t
  · exact h k hk
  · exact h k hk
def inBlk (id : Nat) (e : AExit) : AExit := match e with
  | .exit id' => if id' = id then AExit.normal else AExit.exit id'
  | e => e
theorem Runs.block {lim : Nat} {id : Nat} {b : Code} {s s' : ASt} {e : AExit} (h : Runs P G lim b s e s') : Runs P G lim (.block id b) s (inBlk id e) s' := by
  obtain ⟨k0, h⟩ := h
  refine Runs.of_next (k0 := k0) fun k hk => ?_
  show (match exec P G k lim b s with | some (.exit id', s') => if id' = id then some (AExit.normal, s') else some (AExit.exit id', s') | r => r) = _
  rw [h k hk]
  cases e with
  | exit id' =>
    dsimp only [inBlk]
    split <;> rfl
  | _ => rfl
theorem Runs.loop {lim : Nat} {b : Code} {s s1 s' : ASt} {e : AExit} (h1 : Runs P G lim b s .normal s1) (h2 : Runs P G lim (.loop b) s1 e s') : Runs P G lim (.loop b) s e s' := by
  obtain ⟨k1, h1⟩ := h1
  obtain ⟨k2, h2⟩ := h2
  refine Runs.of_next (k0 := max k1 k2) fun k hk => ?_
  show (match exec P G k lim b s with | some (.normal, s') => exec P G k lim (.loop b) s' | r => r) = _
  rw [h1 k (by omega)]
  exact h2 k (by omega)
theorem Runs.loop_out {lim : Nat} {b : Code} {s s1 : ASt} {e : AExit} (he : e ≠ .normal) (h1 : Runs P G lim b s e s1) : Runs P G lim (.loop b) s e s1 := by
  obtain ⟨k1, h1⟩ := h1
  refine Runs.of_next (k0 := k1) fun k hk => ?_
  show (match exec P G k lim b s with | some (.normal, s') => exec P G k lim (.loop b) s' | r => r) = _
  rw [h1 k hk]
  cases e <;> first | rfl | exact absurd rfl he

/-- Where code has come to, and what goes on from there. -/
def Then (P : Program) (G : GivenT) (lim : Nat) (c : Code) (s : ASt) (K : AX → SE → Hp → Bool) : Prop := ∃ e s' E', Runs P G lim c s (toE e) s' ∧ SubE E' s'.E ∧ K e E' s'.h = true

theorem compC_ok {C : Callees} (hC : COk P G C) {lim : Nat} : ∀ (c : Code) {n x : Nat} {E ET : Tr Value} {h : Hp} {K : AX → SE → Hp → Bool}, SubE E ET → compC P (theOps P) C lim c n x E h K = true → Then P G lim c ⟨ET, h⟩ K
  | .skip, n, x, E, ET, h, K, hs, hk => ⟨.normal, ⟨ET, h⟩, E, Runs.of_next (k0 := 0) fun _ _ => rfl, hs, hk⟩
  | .label l, n, x, E, ET, h, K, hs, hk => ⟨.normal, ⟨ET, h⟩, E, Runs.of_next (k0 := 0) fun _ _ => rfl, hs, hk⟩
  | .exit id, n, x, E, ET, h, K, hs, hk => ⟨.exit id, ⟨ET, h⟩, E, Runs.of_next (k0 := 0) fun _ _ => rfl, hs, hk⟩
  | .ret, n, x, E, ET, h, K, hs, hk => ⟨.ret, ⟨ET, h⟩, E, Runs.of_next (k0 := 0) fun _ _ => rfl, hs, hk⟩
  | .region id ops d, n, x, E, ET, h, K, hs, hk => by
    cases d with
    | true =>
      unfold compC at hk
      dsimp only at hk
      split at hk
      · rename_i hchk
        obtain ⟨E', s', k0, hgo, hs', hk⟩ := compDraw_ok hC (lT := []) hs (fun p hp => by simp at hp) hk
        refine ⟨.normal, s', E', Runs.of_next (k0 := k0) fun k hkk => ?_, hs', hk⟩
        show adraw P (callBy P G (exec P G k)) lim ops ⟨ET, h⟩ = _
        unfold adraw
        dsimp only
        rw [hchk]
        exact hgo k hkk
      · cases hk
    | false =>
      obtain ⟨g1, g2⟩ := groups_ok ops.toList
      obtain ⟨E', s', hr, hs', hk⟩ := compGs_ok hC g2 hs (show compGs P (theOps P) C lim ops n (groups ops.toList) E h (fun E' h' => K .normal E' h') = true from hk)
      rw [g1] at hr
      exact ⟨.normal, s', E', Runs.region hr, hs', hk⟩
  | .seq a b, n, x, E, ET, h, K, hs, hk => by
    unfold compC at hk
    split at hk
    · obtain ⟨e, s1, E1, hr1, hs1, hk⟩ := compC_ok hC a hs hk
      cases e with
      | normal =>
        obtain ⟨e2, s2, E2, hr2, hs2, hk⟩ := compC_ok hC b hs1 (show compC P (theOps P) C lim b n x E1 s1.h K = true from hk)
        exact ⟨e2, s2, E2, Runs.seq hr1 hr2, hs2, hk⟩
      | exit id => exact ⟨_, s1, E1, Runs.seq_out (by intro e; cases e) hr1, hs1, hk⟩
      | ret => exact ⟨_, s1, E1, Runs.seq_out (by intro e; cases e) hr1, hs1, hk⟩
    · dsimp only at hk
      generalize bitsL (Nat.land (maskL (asgL a)) (ueC b n x)) lim [] = js at hk
      obtain ⟨e, s1, E1, hr1, hs1, hk⟩ := compC_ok hC a hs hk
      cases e with
      | normal =>
        obtain ⟨vs, hl, hgs, hk⟩ := getsK_ok (show getsK E1 js _ = true from hk)
        have hk := app_lam_true hk
        obtain ⟨E2, hs2, hk⟩ := rebind_ok (ET' := s1.E) hs (fun u hu => hr1.frame u hu) (fun i u v p q => hs1 u v (hgs i u v p q)) hk
        obtain ⟨e3, s3, E3, hr3, hs3, hk⟩ := compC_ok hC b hs2 hk
        exact ⟨e3, s3, E3, Runs.seq hr1 hr3, hs3, hk⟩
      | exit id => exact ⟨_, s1, E1, Runs.seq_out (by intro e; cases e) hr1, hs1, hk⟩
      | ret => exact ⟨_, s1, E1, Runs.seq_out (by intro e; cases e) hr1, hs1, hk⟩
  | .cond c a b, n, x, E, ET, h, K, hs, hk => by
    obtain ⟨v, hv, hk⟩ := evK_ok hs (show evK P (theOps P) E h c (fun v => brK v _ _) = true from hk)
    rcases brK_ok hk with ⟨e, hk⟩ | ⟨e, hk⟩
    · subst e
      obtain ⟨e1, s1, E1, hr1, hs1, hk⟩ := compC_ok hC a hs hk
      exact ⟨e1, s1, E1, Runs.cond (t := true) hv hr1, hs1, hk⟩
    · subst e
      obtain ⟨e1, s1, E1, hr1, hs1, hk⟩ := compC_ok hC b hs hk
      exact ⟨e1, s1, E1, Runs.cond (t := false) hv hr1, hs1, hk⟩
  | .block id b, n, x, E, ET, h, K, hs, hk => by
    unfold compC at hk
    dsimp only at hk
    generalize bitsL (Nat.land (maskL (asgL b)) n) lim [] = js at hk
    obtain ⟨e, s1, E1, hr1, hs1, hk⟩ := compC_ok hC b hs hk
    have fin : ∀ {Kb : List Value → Bool}, getsK E1 js Kb = true → (∀ vs, Kb vs = true → app noH js.length (lam js.length fun vs h' => delK E (asgL b) fun E1 => setsK E1 js vs fun E2 => K .normal E2 h') vs s1.h = true) → Runs P G lim (.block id b) ⟨ET, h⟩ .normal s1 → Then P G lim (.block id b) ⟨ET, h⟩ K := by
      intro Kb hg hkb hr
      obtain ⟨vs, hl, hgs, hk⟩ := getsK_ok hg
      have hk := app_lam_true (hkb vs hk)
      obtain ⟨E2, hs2, hk⟩ := rebind_ok (ET' := s1.E) hs (fun u hu => hr1.frame u hu) (fun i u v p q => hs1 u v (hgs i u v p q)) hk
      exact ⟨.normal, s1, E2, hr, hs2, hk⟩
    have hrb := Runs.block (id := id) hr1
    cases e with
    | normal => exact fin (show getsK E1 js _ = true from hk) (fun vs hv => hv) hrb
    | ret => exact ⟨.ret, s1, E1, hrb, hs1, hk⟩
    | exit id' =>
      have hk' : (match Nat.beq id' id with | true => getsK E1 js _ | false => K (.exit id') E1 s1.h) = true := hk
      split at hk'
      · rename_i hb
        rw [Nat.beq_eq] at hb
        refine fin hk' (fun vs hv => hv) ?_
        simpa only [toE, inBlk, hb, if_true] using hrb
      · rename_i hb
        have hne : id' ≠ id := fun e => by rw [e, Nat.beq_refl] at hb; cases hb
        refine ⟨.exit id', s1, E1, ?_, hs1, hk'⟩
        simpa only [toE, inBlk, hne, if_false] using hrb
  | .loop b, n, x, E, ET, h, K, hs, hk => by
    unfold compC at hk
    dsimp only at hk
    generalize bitsL (Nat.land (maskL (asgL b)) (ueC b 0 x)) lim [] = js at hk
    obtain ⟨vs, hl, hgs, hk⟩ := getsK_ok hk
    have key : ∀ (k : Nat) (vs : List Value) (ET1 : Tr Value) (h1 : Hp), (∀ (i t : Nat) (v : Value), js[i]? = some t → vs[i]? = some v → ET1.get t = some v) → (∀ t, t ∉ asgL b → ET1.get t = ET.get t) →
        app noH js.length (loopG js.length (fun ih => lam js.length fun vs h => delK E (asgL b) fun E1 => setsK E1 js vs fun E2 => compC P (theOps P) C lim b (ueC b 0 x) x E2 h (seqK (fun E' h' => getsK E' js fun vs => app noH js.length ih vs h') K)) k) vs h1 = true →
        Then P G lim (.loop b) ⟨ET1, h1⟩ K := by
      intro k
      induction k with
      | zero =>
        intro vs ET1 h1 hj hf hk
        have := app_lam_true (f := fun _ => noH) hk
        cases this
      | succ k ih =>
        intro vs ET1 h1 hj hf hk
        have hk := app_lam_true hk
        obtain ⟨E2, hs2, hk⟩ := rebind_ok (ET' := ET1) hs hf hj hk
        obtain ⟨e, s1, E1, hr1, hs1, hk⟩ := compC_ok hC b hs2 hk
        cases e with
        | normal =>
          obtain ⟨us, hl, hgs, hk⟩ := getsK_ok (show getsK E1 js _ = true from hk)
          obtain ⟨e2, s2, E3, hr2, hs3, hk⟩ := ih us s1.E s1.h (fun i t v p q => hs1 t v (hgs i t v p q)) (fun t ht => by rw [hr1.frame t ht]; exact hf t ht) hk
          exact ⟨e2, s2, E3, Runs.loop hr1 hr2, hs3, hk⟩
        | exit id => exact ⟨_, s1, E1, Runs.loop_out (by intro e; cases e) hr1, hs1, hk⟩
        | ret => exact ⟨_, s1, E1, Runs.loop_out (by intro e; cases e) hr1, hs1, hk⟩
    exact key fuel vs ET h (fun i t v p q => hs t v (hgs i t v p q)) (fun _ _ => rfl) hk
  | .rangeFunc _ _ _ _, n, x, E, ET, h, K, hs, hk => by cases hk
  | .scope _, n, x, E, ET, h, K, hs, hk => by cases hk
  | .goto _, n, x, E, ET, h, K, hs, hk => by cases hk
  | .refuse _, n, x, E, ET, h, K, hs, hk => by cases hk

/-! ### Functions -/
theorem argsK_eq : ∀ (vs : List Value) (E : SE) (i : Nat) (K : SE → Bool), argsK E i vs K = K (args0 vs i E)
  | [], E, i, K => rfl
  | v :: vs, E, i, K => by
    show E.setK i (some v) (fun E' => argsK E' (i + 1) vs K) = _
    rw [Tr.setK_eq, argsK_eq vs]
    rfl
theorem resK_ok {E : Tr Value} {s : ASt} (hs : SubE E s.E) : ∀ {rs : List ResultVar} {K : List Value → Bool}, resK P (theOps P) E s.h rs K = true → ∃ vs, ares P s rs = some vs ∧ K vs = true
  | [], K, hk => ⟨[], rfl, hk⟩
  | .tmp t :: r, K, hk => by
    obtain ⟨v, hv, hk⟩ := okB_ok hk
    obtain ⟨vs, hvs, hk⟩ := resK_ok hs hk
    exact ⟨v :: vs, by simp only [ares, hvs, hs t v hv], hk⟩
  | .cell a t :: r, K, hk => by
    obtain ⟨p, hp, hk⟩ := okB_ok hk
    obtain ⟨v, hv, hk⟩ := loadC_ok hk
    obtain ⟨vs, hvs, hk⟩ := resK_ok hs hk
    exact ⟨v :: vs, by simp only [ares, hvs, hs a p hp, hv], hk⟩
theorem fnOf_ok {C : Callees} (hC : COk P G C) {f n : Nat} {fd : Func} {c : Code} (hfd : P.funcs[f]? = some fd) (hb : fd.body = some c) (hG : G f = none) {args : List Value} {h : Hp} {K : KVH} (hk : app noF n (fnOf P (theOps P) C n fd c) args h K = true) :
    ∃ v h', CallsTo P G f args h v h' ∧ K v h' = true := by
  unfold fnOf at hk
  rcases app_lam noF n (fun vs h kr => argsK (.full (Nat.succ (Nat.log2 fd.ntmps))) 0 vs fun E => compC P (theOps P) C fd.ntmps c (maskR fd.results.toList) (maskR fd.results.toList) E h (retK P (theOps P) fd kr)) args with e | e
  · rw [e] at hk
    dsimp only at hk
    rw [argsK_eq] at hk
    obtain ⟨ex, s', E', ⟨k0, hr⟩, hs', hk⟩ := compC_ok hC c (ET := args0 args 0 (.full (Nat.succ (Nat.log2 fd.ntmps)))) (fun _ _ h => h) hk
    have fin : (resK P (theOps P) E' s'.h fd.results.toList fun vs => tupK vs fun v => K v s'.h) = true → ∃ v, aresults P fd s' = some v ∧ K v s'.h = true := by
      intro hk
      obtain ⟨vs, hvs, hk⟩ := resK_ok hs' hk
      unfold tupK at hk
      split at hk
      · exact ⟨_, by simp only [aresults, hvs], hk⟩
      · rename_i us hne
        refine ⟨.tuple ⟨vs⟩, ?_, hk⟩
        simp only [aresults, hvs]
    have call : ∀ v, aresults P fd s' = some v → (toE ex = .normal ∨ toE ex = .ret) → CallsTo P G f args h v s'.h := by
      intro v hv he
      refine ⟨k0, fun k hk => ?_⟩
      unfold Abs.call callBy
      rw [hG]
      dsimp only
      rw [hfd]
      dsimp only
      rw [hb]
      dsimp only
      rw [hr k hk]
      rcases he with he | he
      · rw [he]
        dsimp only
        rw [hv]
      · rw [he]
        dsimp only
        rw [hv]
    cases ex with
    | normal =>
      obtain ⟨v, hv, hk⟩ := fin hk
      exact ⟨v, s'.h, call v hv (.inl rfl), hk⟩
    | ret =>
      obtain ⟨v, hv, hk⟩ := fin hk
      exact ⟨v, s'.h, call v hv (.inr rfl), hk⟩
    | exit id => cases hk
  · rw [e] at hk; cases hk

/-! ### The functions tied to one another -/
/-- A function, and how many values it takes. -/
structure Ent where
  n : Nat
  F : Callees → FnT n
def EntOk (P : Program) (G : GivenT) (g : Nat) (e : Ent) : Prop := ∀ C, COk P G C → ∀ args h K, app noF e.n (e.F C) args h K = true → ∃ v h', CallsTo P G g args h v h' ∧ K v h' = true
noncomputable def entAt (T : Tr Ent) (C : Callees) : Callees := fun g n =>
  match T.get g with
  | some e => if h : e.n = n then h ▸ e.F C else lam n fun _ => noF
  | none => lam n fun _ => noF
noncomputable def knot (T : Tr Ent) (k : Nat) : Callees := Nat.rec (motive := fun _ => Callees) (fun _ n => lam n fun _ => noF) (fun _ C => entAt T C) k
def TabOk (P : Program) (G : GivenT) (T : Tr Ent) : Prop := ∀ g e, T.get g = some e → EntOk P G g e
theorem TabOk.nil : TabOk P G .nil := fun g e h => by cases h
theorem TabOk.add {T : Tr Ent} (hT : TabOk P G T) {g : Nat} {e : Ent} (he : EntOk P G g e) : TabOk P G (T.set g (some e)) := by
  intro u d hu
  rw [Tr.get_set] at hu
  split at hu
  · rename_i hug
    cases hu
    rw [hug]; exact he
  · exact hT u d hu
theorem noF_not {n : Nat} {args : List Value} {h : Hp} {K : KVH} (hk : app noF n (lam n fun _ => noF) args h K = true) : False := by
  rcases app_lam noF n (fun _ => noF) args with e | e
  · rw [e] at hk; cases hk
  · rw [e] at hk; cases hk
theorem knot_ok {T : Tr Ent} (hT : TabOk P G T) : ∀ k, COk P G (knot T k)
  | 0 => fun g n vs h K hk => (noF_not hk).elim
  | k + 1 => fun g n vs h K hk => by
    have hk' : app noF n (entAt T (knot T k) g n) vs h K = true := hk
    unfold entAt at hk'
    split at hk'
    · rename_i e he
      split at hk'
      · rename_i hn
        subst hn
        exact hT g e he _ (knot_ok hT k) vs h K hk'
      · exact (noF_not hk').elim
    · exact (noF_not hk').elim
theorem ent_of_fn {f n : Nat} {fd : Func} {c : Code} {F : Ops → Callees → FnT n} (he : ∀ R C, F R C = fnOf P R C n fd c) (hfd : P.funcs[f]? = some fd) (hb : fd.body = some c) (hG : G f = none) : EntOk P G f ⟨n, F (theOps P)⟩ :=
  fun C hC args h K hk => fnOf_ok hC hfd hb hG (by rw [← he]; exact hk)
/-- What the tied functions say of a call, the engine says. -/
theorem call_of_knot {T : Tr Ent} (hT : TabOk P G T) {k f n : Nat} {args : List Value} {h : Hp} {K : KVH} (hk : app noF n (knot T k f n) args h K = true) : ∃ v h' j, call P G j f args h = some (.ret v, h') ∧ K v h' = true := by
  obtain ⟨v, h', ⟨k0, hc⟩, hk⟩ := knot_ok hT k f n args h K hk
  exact ⟨v, h', k0, hc k0 (Nat.le_refl _), hk⟩
end
end Go.Proofs.YtmdjibkgnmjhbaaGreatDoor.Abs
end
section
/- The engine: back to an earlier sketch: what was made since is forgotten, what was known of the earlier blocks holds as before (for rounds of a loop that are walked from one sketch). -/
set_option autoImplicit false
set_option linter.unusedSimpArgs false
set_option linter.unusedVariables false
namespace Go.Proofs.YtmdjibkgnmjhbaaGreatDoor.Abs
open Go Go.RowKit

/-- A value that the earlier sketch can tell stands for what it stands for later, by what was known earlier. -/
theorem VRel.back {ι ι' : Nat → Option Loc} (hg : Grows ι ι') {v r0 : Value} (h0 : VRel ι v r0) : ∀ {r : Value}, VRel ι' v r → VRel ι v r := by
  induction h0 with
  | bool b => intro r h; cases h; exact .bool b
  | int k n => intro r h; cases h; exact .int k n
  | float k b => intro r h; cases h; exact .float k b
  | tok id i hi =>
    intro r h
    cases h with
    | tok _ j hj =>
      rw [hg _ _ hi] at hj
      cases hj
      exact .tok id i hi
  | bits m q z hm hz =>
    intro r h
    cases h with
    | bits _ _ z' hm' hz' => exact .bits _ _ z' hm' hz'
  | string s => intro r h; cases h; exact .string s
  | nilPtr => intro r h; cases h; exact .nilPtr
  | ptr id off i hi =>
    intro r h
    cases h with
    | ptr _ _ j hj =>
      rw [hg _ _ hi] at hj
      cases hj
      exact .ptr id off i hi
  | nilSlice => intro r h; cases h; exact .nilSlice
  | slice id off len c cap i ra hi hl hc hx =>
    intro r h
    cases h with
    | slice _ _ _ _ cap' j ra' hj hl' hc' hx' =>
      rw [hg _ _ hi] at hj
      cases hj
      exact .slice id off len c cap' i ra' hi hl' hc' hx'
  | nilMap => intro r h; cases h; exact .nilMap
  | map id i hi =>
    intro r h
    cases h with
    | map _ j hj =>
      rw [hg _ _ hi] at hj
      cases hj
      exact .map id i hi
  | nilFunc => intro r h; cases h; exact .nilFunc
  | func fn f f' c c' h1 h2 h3 h4 ih2 ih4 =>
    intro r h
    cases h with
    | func _ _ g' _ d' k1 k2 k3 k4 => exact .func fn f g' c d' k1 (fun i a b => ih2 i a (h1 ▸ a) (k2 i a b)) k3 (fun i a b => ih4 i a (h3 ▸ a) (k4 i a b))
  | nilIface => intro r h; cases h; exact .nilIface
  | iface t v v' h ih =>
    intro r h
    cases h with
    | iface _ _ w h => exact .iface t _ _ (ih h)
  | agg c c' h1 h2 ih =>
    intro r h
    cases h with
    | agg _ d' k1 k2 => exact .agg c d' k1 (fun i a b => ih i a (h1 ▸ a) (k2 i a b))
  | tuple c c' h1 h2 ih =>
    intro r h
    cases h with
    | tuple _ d' k1 k2 => exact .tuple c d' k1 (fun i a b => ih i a (h1 ▸ a) (k2 i a b))
theorem ERel.back {ι ι' : Nat → Option Loc} (hg : Grows ι ι') : ∀ {a b0 b : List MapEntry}, ERel ι a b0 → ERel ι' a b → ERel ι a b
  | [], [], [], _, _ => trivial
  | _ :: _, _ :: _, _ :: _, ⟨⟨_, _, h4⟩, h⟩, ⟨⟨k2, k3, k4⟩, k⟩ => ⟨⟨k2, k3, h4.back hg k4⟩, h.back hg k⟩
  | [], _ :: _, _, h, _ => h.elim
  | _ :: _, [], _, h, _ => h.elim
  | [], [], _ :: _, _, k => k.elim
  | _ :: _, _ :: _, [], _, k => k.elim
theorem ORel.back {P : Program} {base : Nat} {ι ι' : Nat → Option Loc} (hg : Grows ι ι') {i : Loc} {w0 w : World} : ∀ {o : AObj}, ORel P base ι i w0 o → ORel P base ι' i w o → ORel P base ι i w o
  | .cells cs e wr, ⟨_, _, _, _, _, h4, _, _⟩, ⟨arr, fz, k1, k2, k3, k4, k5⟩ => ⟨arr, fz, k1, k2, k3, fun j c hc => by
      obtain ⟨v0, _, hv0⟩ := h4 j c hc
      obtain ⟨v, hv, hr⟩ := k4 j c hc
      exact ⟨v, hv, hv0.back hg hr⟩, k5⟩
  | .map es clock wr, ⟨_, _, h2, _⟩, ⟨es', k1, k2, k3⟩ => ⟨es', k1, h2.back hg k2, k3⟩
  | .table f, _, k => k
/-- What a walk leaves, told by the sketch from which it started: H is what the walk's last sketch says of the blocks that were known at the start. -/
theorem Inv.back {P : Program} {base : Nat} {w0 : Start} {ι ι' : Nat → Option Loc} {H H' : Nat → Option AObj} {w w' : World} (h : Inv P base w0 ι H w) (h' : Inv P base w0 ι' H' w') (hg : Grows ι ι') (hH : ∀ id, ι id ≠ none → H id = H' id) : Inv P base w0 ι H w' where
  below := h'.below
  base_le := h'.base_le
  init := h.init
  obj := fun id i o h1 h2 => (h.obj id i o h1 h2).back hg (h'.obj id i o (hg _ _ h1) (by rw [← hH id (by rw [h1]; simp)]; exact h2))
  inj := h.inj
  lt := fun id i h1 => h'.lt id i (hg _ _ h1)
  glob := h.glob
/-- Whatever a value stands for, some value stands for it where the same places have other numbers. -/
theorem VRel.again {ι ι2 : Nat → Option Loc} (hr : ∀ id i, ι id = some i → ∃ id2, ι2 id2 = some i) {v r : Value} (h : VRel ι v r) : ∃ v2, VRel ι2 v2 r := by
  induction h with
  | bool b => exact ⟨_, .bool b⟩
  | int k n => exact ⟨_, .int k n⟩
  | float k b => exact ⟨_, .float k b⟩
  | tok id i hi => obtain ⟨id2, h2⟩ := hr id i hi; exact ⟨_, .tok id2 i h2⟩
  | bits m q z hm hz => exact ⟨_, .bits m q z hm hz⟩
  | string s => exact ⟨_, .string s⟩
  | nilPtr => exact ⟨_, .nilPtr⟩
  | ptr id off i hi => obtain ⟨id2, h2⟩ := hr id i hi; exact ⟨_, .ptr id2 off i h2⟩
  | nilSlice => exact ⟨_, .nilSlice⟩
  | slice id off len c cap i ra hi hl hc hx => obtain ⟨id2, h2⟩ := hr id i hi; exact ⟨_, .slice id2 off len c cap i ra h2 hl hc hx⟩
  | nilMap => exact ⟨_, .nilMap⟩
  | map id i hi => obtain ⟨id2, h2⟩ := hr id i hi; exact ⟨_, .map id2 i h2⟩
  | nilFunc => exact ⟨_, .nilFunc⟩
  | func fn f f' c c' h1 h2 h3 h4 ih2 ih4 =>
    exact ⟨_, .func fn (Array.ofFn (n := f'.size) fun i => Classical.choose (ih2 i.1 (Nat.lt_of_lt_of_eq i.2 h1.symm) i.2)) f' (Array.ofFn (n := c'.size) fun i => Classical.choose (ih4 i.1 (Nat.lt_of_lt_of_eq i.2 h3.symm) i.2)) c' (by simp)
      (fun i a b => by rw [Array.getElem_ofFn]; exact Classical.choose_spec (ih2 i (Nat.lt_of_lt_of_eq b h1.symm) b)) (by simp) (fun i a b => by rw [Array.getElem_ofFn]; exact Classical.choose_spec (ih4 i (Nat.lt_of_lt_of_eq b h3.symm) b))⟩
  | nilIface => exact ⟨_, .nilIface⟩
  | iface t v v' h ih => obtain ⟨v2, h2⟩ := ih; exact ⟨_, .iface t v2 v' h2⟩
  | agg c c' h1 h2 ih =>
    exact ⟨_, .agg (Array.ofFn (n := c'.size) fun i => Classical.choose (ih i.1 (Nat.lt_of_lt_of_eq i.2 h1.symm) i.2)) c' (by simp) (fun i a b => by rw [Array.getElem_ofFn]; exact Classical.choose_spec (ih i (Nat.lt_of_lt_of_eq b h1.symm) b))⟩
  | tuple c c' h1 h2 ih =>
    exact ⟨_, .tuple (Array.ofFn (n := c'.size) fun i => Classical.choose (ih i.1 (Nat.lt_of_lt_of_eq i.2 h1.symm) i.2)) c' (by simp) (fun i a b => by rw [Array.getElem_ofFn]; exact Classical.choose_spec (ih i (Nat.lt_of_lt_of_eq b h1.symm) b))⟩

/-! ### To begin a round again -/
end Go.Proofs.YtmdjibkgnmjhbaaGreatDoor.Abs
end
section
/- The engine: pieces of code that are run one behind the other; a sketch whose blocks are only read; slots that hold whatever an earlier round left in them. -/
set_option autoImplicit false
set_option linter.unusedSimpArgs false
set_option linter.unusedVariables false
namespace Go.Proofs.YtmdjibkgnmjhbaaGreatDoor.Abs
open Go Go.RowKit

section
variable {P : Program} {G : GivenT}

/-! ### Pieces of code, one behind the other -/
theorem Runs.unique {lim : Nat} {c : Code} {s s1 s2 : ASt} {e1 e2 : AExit} (h : Runs P G lim c s e1 s1) (k : Runs P G lim c s e2 s2) : e1 = e2 ∧ s1 = s2 := by
  obtain ⟨k0, h⟩ := h
  obtain ⟨k1, k⟩ := k
  have := (h (max k0 k1) (Nat.le_max_left _ _)).symm.trans (k (max k0 k1) (Nat.le_max_right _ _))
  simp only [Option.some.injEq, Prod.mk.injEq] at this
  exact this
theorem RunsOps.unique {lim : Nat} {ops : Array Oper} {os : List Oper} {s s1 s2 : ASt} (h : RunsOps P G lim ops os s s1) (k : RunsOps P G lim ops os s s2) : s1 = s2 := by
  obtain ⟨k0, h⟩ := h
  obtain ⟨k1, k⟩ := k
  have := (h (max k0 k1) (Nat.le_max_left _ _)).symm.trans (k (max k0 k1) (Nat.le_max_right _ _))
  simp only [Option.some.injEq, Prod.mk.injEq, true_and] at this
  exact this
def ChainR (P : Program) (G : GivenT) (lim : Nat) : List Code → ASt → AExit → ASt → Prop
  | [], s, e, s' => e = .normal ∧ s' = s
  | c :: r, s, e, s' => (∃ s1, Runs P G lim c s .normal s1 ∧ ChainR P G lim r s1 e s') ∨ (e ≠ .normal ∧ Runs P G lim c s e s')
theorem ChainR.unique {lim : Nat} : ∀ {cs : List Code} {s s1 s2 : ASt} {e1 e2 : AExit}, ChainR P G lim cs s e1 s1 → ChainR P G lim cs s e2 s2 → e1 = e2 ∧ s1 = s2
  | [], s, s1, s2, e1, e2, ⟨h1, h2⟩, ⟨k1, k2⟩ => ⟨h1.trans k1.symm, h2.trans k2.symm⟩
  | c :: r, s, s1, s2, e1, e2, .inl ⟨t, h1, h2⟩, .inl ⟨u, k1, k2⟩ => by
    obtain ⟨_, rfl⟩ := h1.unique k1
    exact ChainR.unique h2 k2
  | c :: r, s, s1, s2, e1, e2, .inl ⟨t, h1, h2⟩, .inr ⟨hn, k⟩ => absurd (h1.unique k).1.symm hn
  | c :: r, s, s1, s2, e1, e2, .inr ⟨hn, h⟩, .inl ⟨u, k1, k2⟩ => absurd (h.unique k1).1 hn
  | c :: r, s, s1, s2, e1, e2, .inr ⟨hn, h⟩, .inr ⟨_, k⟩ => h.unique k
def nest : List Code → Code → Code
  | [], z => z
  | c :: r, z => .seq c (nest r z)
section
variable {base : Nat} {w0 : Start}
theorem Runs.ok (hP : noNG P = true) (hD : DrawOk P base w0) (hG : GivenOk P base w0 G) {lim : Nat} {c : Code} {s s' : ASt} {e : AExit} (h : Runs P G lim c s e s') : s.h.n ≤ s'.h.n ∧
    ∀ ι a w, Inv P base w0 ι s.h.t.get w → EnvRel ι s.E a.tmps → lim ≤ a.tmps.size → P.globals.size ≤ s.h.n → (∀ id, s.h.n ≤ id → ι id = none) → c.wp P (Post P base w0 ι lim s a e s') a w := by
  obtain ⟨k, h⟩ := h
  exact (exec_ok hP hD hG k).1 _ _ _ _ _ (h k (Nat.le_refl _))
theorem ChainR.n (hP : noNG P = true) (hD : DrawOk P base w0) (hG : GivenOk P base w0 G) {lim : Nat} : ∀ {cs : List Code} {s s' : ASt} {e : AExit}, ChainR P G lim cs s e s' → s.h.n ≤ s'.h.n
  | [], s, s', e, ⟨_, h⟩ => by rw [h]; exact Nat.le_refl _
  | c :: r, s, s', e, .inl ⟨t, h1, h2⟩ => Nat.le_trans (h1.ok hP hD hG).1 (ChainR.n hP hD hG h2)
  | c :: r, s, s', e, .inr ⟨_, h⟩ => (h.ok hP hD hG).1
theorem ChainR.ok (hP : noNG P = true) (hD : DrawOk P base w0) (hG : GivenOk P base w0 G) {lim : Nat} {z : Code} {Q : Exit → Act → World → Prop} : ∀ {cs : List Code} {s s' : ASt} {e : AExit} {ι : Nat → Option Loc} {a : Act} {w : World}, ChainR P G lim cs s e s' →
    Inv P base w0 ι s.h.t.get w → EnvRel ι s.E a.tmps → lim ≤ a.tmps.size → P.globals.size ≤ s.h.n → (∀ id, s.h.n ≤ id → ι id = none) →
    (∀ e' a' w', Post P base w0 ι lim s a e s' e' a' w' → Exit.then (z.wp P Q) Q e' a' w') → (nest cs z).wp P Q a w
  | [], s, s', e, ι, a, w, ⟨he, hs⟩, hI, hE, hl, hg, hf, hq => by
    subst he hs
    exact hq .normal a w ⟨ι, Turn.refl _ _ _, hI, hE, hl, rfl, rfl⟩
  | c :: r, s, s', e, ι, a, w, .inl ⟨t, h1, h2⟩, hI, hE, hl, hg, hf, hq => by
    obtain ⟨hn, h1⟩ := h1.ok hP hD hG
    refine wp_seq (wp_mono (h1 ι a w hI hE hl hg hf) fun e1 a1 w1 hp => ?_)
    obtain ⟨ι1, t1, hI1, hE1, hl1, hd1, hx1⟩ := hp
    subst hx1
    exact ChainR.ok hP hD hG h2 hI1 hE1 hl1 (Nat.le_trans hg hn) (t1.fresh hf) fun e' a' w' hp => hq e' a' w' (Post.after t1 hd1 hp)
  | c :: r, s, s', e, ι, a, w, .inr ⟨hne, h⟩, hI, hE, hl, hg, hf, hq => by
    refine wp_seq (wp_mono ((h.ok hP hD hG).2 ι a w hI hE hl hg hf) fun e1 a1 w1 hp => ?_)
    have hk := hq e1 a1 w1 hp
    obtain ⟨ι1, t1, hI1, hE1, hl1, hd1, hx1⟩ := hp
    cases e with
    | normal => exact absurd rfl hne
    | exit id => subst hx1; exact hk
    | ret => subst hx1; exact hk
    | pan v => obtain ⟨v', hx1, _⟩ := hx1; subst hx1; exact hk
/-- Operations in a row, by what the engine says of them. -/
theorem RunsOps.ok (hP : noNG P = true) (hD : DrawOk P base w0) (hG : GivenOk P base w0 G) {lim : Nat} {ops : Array Oper} {os : List Oper} {s s' : ASt} (h : RunsOps P G lim ops os s s') : s.h.n ≤ s'.h.n ∧
    ∀ {l : List Nat} {ι a w}, l.map (ops[·]?) = os.map some → Inv P base w0 ι s.h.t.get w → EnvRel ι s.E a.tmps → lim ≤ a.tmps.size → P.globals.size ≤ s.h.n → (∀ id, s.h.n ≤ id → ι id = none) → wpOps P ops (Post P base w0 ι lim s a .normal s') l a w := by
  obtain ⟨k, h⟩ := h
  have hcf : CallOk P base w0 (callBy P G (exec P G k)) := callBy_ok hG (exec_ok hP hD hG k).1
  have h := h k (Nat.le_refl _)
  exact ⟨aops_n hcf h, fun hl hI hE hlim hg hf => aops_ok hP hcf hl h hI hE hlim hg hf⟩
end
theorem wp_exits {o : Oper} {a : Act} {w : World} {K : Act → World → Prop} {Q Q' : Exit → Act → World → Prop} (hq : ∀ e a w, e ≠ .normal → Q' e a w → Q e a w) (h : o.wp P a w K Q') : o.wp P a w K Q := by
  have lo : LetsOut Q' → LetsOut Q := fun ⟨a, w, x⟩ => ⟨a, w, hq _ _ _ (fun e => by cases e) x⟩
  unfold Oper.wp at h ⊢
  generalize (execOp a.eval o).run P w = r at h ⊢
  cases r with
  | ok n w' =>
    cases n with
    | enter f args =>
      refine Calls.mono (show Calls P f args w' _ from h) fun e w2 hx => ?_
      cases e with
      | returned v => exact hx
      | panicked chain => exact hq _ _ _ (fun e => by cases e) hx
      | outgrown => exact lo hx
    | _ => exact h
  | halt hl w' =>
    cases hl with
    | panic v => exact hq _ _ _ (fun e => by cases e) h
    | _ => exact h
theorem inBlock_hit {id : Nat} {Q : Exit → Act → World → Prop} {a : Act} {w : World} (h : Q .normal a w) : Exit.inBlock id Q (.exit id) a w := by
  simp only [Exit.inBlock, if_true]
  exact h
theorem wpOps_append {ops : Array Oper} {Q : Exit → Act → World → Prop} {r : List Nat} : ∀ (l : List Nat) (a : Act) (w : World), wpOps P ops (Exit.then (wpOps P ops Q r) Q) l a w → wpOps P ops Q (l ++ r) a w
  | [], a, w, h => h
  | i :: l, a, w, h => by
    have hq : ∀ e a w, e ≠ .normal → Exit.then (wpOps P ops Q r) Q e a w → Q e a w := fun e a w hne hx => by
      cases e <;> first | exact hx | exact absurd rfl hne
    rw [List.cons_append]
    unfold wpOps at h ⊢
    cases ho : ops[i]? with
    | none =>
      rw [ho] at h
      exact wpOps_append l a w h
    | some o =>
      rw [ho] at h
      dsimp only at h ⊢
      split at h
      · rename_i hw
        rw [if_pos hw]
        rcases h with h | ⟨h1, a', w', h2⟩
        · exact .inl (wp_exits hq (Oper.wp_mono (fun a w h => wpOps_append l a w h) h))
        · exact .inr ⟨h1, a', w', hq _ _ _ (fun e => by cases e) h2⟩
      · rename_i hw
        rw [if_neg hw]
        exact wpOps_append l _ w h

/-! ### The quick engine's pieces -/
noncomputable def chainC (P : Program) (R : Ops) (C : Callees) (lim x : Nat) : List (Code × Nat) → SE → Hp → (AX → SE → Hp → Bool) → Bool
  | [], E, h, K => K .normal E h
  | (c, n) :: r, E, h, K => compC P R C lim c n x E h (seqK (fun E' h' => chainC P R C lim x r E' h' K) K)
theorem chainC_ok {C : Callees} (hC : COk P G C) {lim x : Nat} : ∀ (cs : List (Code × Nat)) {E ET : Tr Value} {h : Hp} {K : AX → SE → Hp → Bool}, SubE E ET → chainC P (theOps P) C lim x cs E h K = true →
    ∃ e s' E', ChainR P G lim (cs.map (·.1)) ⟨ET, h⟩ (toE e) s' ∧ SubE E' s'.E ∧ K e E' s'.h = true
  | [], E, ET, h, K, hs, hk => ⟨.normal, ⟨ET, h⟩, E, ⟨rfl, rfl⟩, hs, hk⟩
  | (c, n) :: r, E, ET, h, K, hs, hk => by
    obtain ⟨e, s1, E1, hr, hs1, hk⟩ := compC_ok hC c hs (show compC P (theOps P) C lim c n x E h (seqK (fun E' h' => chainC P (theOps P) C lim x r E' h' K) K) = true from hk)
    cases e with
    | normal =>
      obtain ⟨e2, s2, E2, hr2, hs2, hk⟩ := chainC_ok hC r hs1 (show chainC P (theOps P) C lim x r E1 s1.h K = true from hk)
      exact ⟨e2, s2, E2, .inl ⟨s1, hr, hr2⟩, hs2, hk⟩
    | exit id => exact ⟨.exit id, s1, E1, .inr ⟨fun e => (by cases e), hr⟩, hs1, hk⟩
    | ret => exact ⟨.ret, s1, E1, .inr ⟨fun e => (by cases e), hr⟩, hs1, hk⟩
end

/-! ### A sketch whose blocks are only read -/
def AObj.ro : AObj → AObj
  | .cells cs e _ => .cells cs e false
  | .map es c _ => .map es c false
  | .table f => .table f
noncomputable def roT (n : Nat) (t : Tr AObj) : Nat → Nat → Tr AObj :=
  Tr.rec (motive := fun _ => Nat → Nat → Tr AObj) (fun _ _ => .nil) (fun v _ _ gl gr a s => match Nat.ble (Nat.succ s) n with
    | true => .node (v.map AObj.ro) (gl (Nat.mul 2 a) (Nat.add a s)) (gr (Nat.mul 2 a) (Nat.add (Nat.mul 2 a) s))
    | false => .nil) t
theorem roT_get (n : Nat) : ∀ (t : Tr AObj) (a s k : Nat), (roT n t a s).get k = if a * k + s < n then (t.get k).map AObj.ro else none
  | .nil, a, s, k => by
    show (Tr.nil : Tr AObj).get k = _
    rw [Tr.get_nil]
    split <;> rfl
  | .node v l r, a, s, k => by
    show (match Nat.ble (Nat.succ s) n with | true => Tr.node (v.map AObj.ro) (roT n l (Nat.mul 2 a) (Nat.add a s)) (roT n r (Nat.mul 2 a) (Nat.add (Nat.mul 2 a) s)) | false => .nil).get k = _
    cases hb : Nat.ble (Nat.succ s) n with
    | false =>
      have hn : ¬ s < n := fun h => by rw [Nat.ble_eq_true_of_le h] at hb; cases hb
      rw [if_neg (fun h => hn (Nat.lt_of_le_of_lt (Nat.le_add_left _ _) h))]
      rfl
    | true =>
      have hn : s < n := Nat.le_of_ble_eq_true hb
      cases k with
      | zero =>
        rw [Nat.mul_zero, Nat.zero_add, if_pos hn]
        rfl
      | succ m =>
        dsimp only
        rw [Tr.get_succ, Tr.get_succ, roT_get n l, roT_get n r]
        obtain ⟨q, hq | hq⟩ : ∃ q, m = 2 * q ∨ m = 2 * q + 1 := ⟨m / 2, by omega⟩
        · subst hq
          have h0 : 2 * q % 2 = 0 := by omega
          have h1 : 2 * q / 2 = q := by omega
          simp only [h0, if_true, h1]
          have e : Nat.mul 2 a * q + Nat.add a s = a * (2 * q + 1) + s := by
            show 2 * a * q + (a + s) = _
            rw [Nat.mul_add, Nat.mul_one, ← Nat.mul_assoc, Nat.mul_comm a 2]
            omega
          rw [e]
        · subst hq
          have h0 : ¬ (2 * q + 1) % 2 = 0 := by omega
          have h1 : (2 * q + 1) / 2 = q := by omega
          simp only [h0, if_false, h1]
          have e : Nat.mul 2 a * q + Nat.add (Nat.mul 2 a) s = a * (2 * q + 1 + 1) + s := by
            show 2 * a * q + (2 * a + s) = _
            rw [Nat.mul_add, Nat.mul_add, Nat.mul_one, ← Nat.mul_assoc, Nat.mul_comm a 2]
            omega
          rw [e]
noncomputable def roV (v : Option AObj) (K : Option AObj → Bool) : Bool :=
  match v with
  | none => K none
  | some (.cells cs e _) => K (some (.cells cs e false))
  | some (.map es c _) => K (some (.map es c false))
  | some (.table f) => K (some (.table f))
theorem roV_eq (v : Option AObj) (K : Option AObj → Bool) : roV v K = K (v.map AObj.ro) := by
  cases v with
  | none => rfl
  | some o => cases o <;> rfl
noncomputable def roK (n : Nat) (t : Tr AObj) : Nat → Nat → (Tr AObj → Bool) → Bool :=
  Tr.rec (motive := fun _ => Nat → Nat → (Tr AObj → Bool) → Bool) (fun _ _ K => K .nil) (fun v _ _ gl gr a s K => match Nat.ble (Nat.succ s) n with
    | true => gl (Nat.mul 2 a) (Nat.add a s) fun l => gr (Nat.mul 2 a) (Nat.add (Nat.mul 2 a) s) fun r => roV v fun v => K (.node v l r)
    | false => K .nil) t
theorem roK_eq (n : Nat) : ∀ (t : Tr AObj) (a s : Nat) (K : Tr AObj → Bool), roK n t a s K = K (roT n t a s)
  | .nil, a, s, K => rfl
  | .node v l r, a, s, K => by
    show (match Nat.ble (Nat.succ s) n with
      | true => roK n l (Nat.mul 2 a) (Nat.add a s) fun l => roK n r (Nat.mul 2 a) (Nat.add (Nat.mul 2 a) s) fun r => roV v fun v => K (.node v l r)
      | false => K .nil) = K (match Nat.ble (Nat.succ s) n with | true => Tr.node (v.map AObj.ro) (roT n l (Nat.mul 2 a) (Nat.add a s)) (roT n r (Nat.mul 2 a) (Nat.add (Nat.mul 2 a) s)) | false => .nil)
    cases hb : Nat.ble (Nat.succ s) n with
    | false => rfl
    | true =>
      dsimp only
      rw [roK_eq n l, roK_eq n r, roV_eq]

section
variable {P : Program} {base : Nat} {w0 : Start} {ι ι' : Nat → Option Loc} {H H' : Nat → Option AObj} {w w' : World}
theorem Inv.sub (h : Inv P base w0 ι H w) (hs : ∀ id o, H' id = some o → H id = some o) : Inv P base w0 ι H' w where
  below := h.below
  base_le := h.base_le
  init := h.init
  obj := fun id i o h1 h2 => h.obj id i o h1 (hs _ _ h2)
  inj := fun id id' i i' o o' h1 h2 h3 h4 => h.inj id id' i i' o o' h1 h2 (hs _ _ h3) (hs _ _ h4)
  lt := h.lt
  glob := fun g hg hi => by
    obtain ⟨o, ho⟩ := Option.isSome_iff_exists.1 hi
    exact h.glob g hg (by rw [hs _ _ ho]; rfl)
/-- More places have numbers; of none of these anything is said. -/
theorem Inv.wide (h : Inv P base w0 ι H w) (hg : Grows ι ι') (hn : ∀ id o, H id = some o → ι' id = ι id) (hl : ∀ id i, ι' id = some i → i.rb < w.heap.size) : Inv P base w0 ι' H w where
  below := h.below
  base_le := h.base_le
  init := h.init.trans hg
  obj := fun id i o h1 h2 => (h.obj id i o (by rw [← hn _ _ h2]; exact h1) h2).grow hg rfl
  inj := fun id id' i i' o o' h1 h2 h3 h4 => h.inj id id' i i' o o' (by rw [← hn _ _ h3]; exact h1) (by rw [← hn _ _ h4]; exact h2) h3 h4
  lt := hl
  glob := fun g hg' hi => by
    obtain ⟨i, h1, h2⟩ := h.glob g hg' hi
    exact ⟨i, hg _ _ h1, h2⟩
/-- A world by itself: all its blocks are only read. -/
theorem Inv.ro (h : Inv P base w0 ι H w) : Inv P w.heap.size ⟨w, ι⟩ ι (fun id => (H id).map AObj.ro) w where
  below := Below.refl _ _
  base_le := Nat.le_refl _
  init := Grows.refl _
  obj := fun id i o h1 h2 => by
    obtain ⟨o', h3, rfl⟩ := Option.map_eq_some_iff.1 h2
    have := h.obj id i o' h1 h3
    cases o' with
    | cells cs e wr =>
      obtain ⟨arr, fz, a1, a2, a3, a4, a5, _⟩ := this
      exact ⟨arr, fz, a1, a2, a3, a4, a5, fun x => by cases x⟩
    | map es c wr =>
      obtain ⟨es', a1, a2, _⟩ := this
      exact ⟨es', a1, a2, fun x => by cases x⟩
    | table f => exact this
  inj := fun id id' i i' o o' h1 h2 h3 h4 hne hw => by
    obtain ⟨o2, _, rfl⟩ := Option.map_eq_some_iff.1 h3
    cases o2 <;> cases hw
  lt := h.lt
  glob := fun g hg hi => h.glob g hg (by rw [Option.isSome_map] at hi; exact hi)

/-! ### Slots that hold whatever was left in them -/
def Slots (ι : Nat → Option Loc) (tmps : Array Value) : Prop := ∀ t, ∃ v, VRel ι v (tmps.getD t undef)
theorem EnvRel.slots {E : Tr Value} {tmps : Array Value} (h : EnvRel ι E tmps) : Slots ι tmps := fun t => ⟨_, h t⟩
theorem Slots.grow (hg : Grows ι ι') {tmps : Array Value} (h : Slots ι tmps) : Slots ι' tmps := fun t => let ⟨v, hv⟩ := h t; ⟨v, hv.grow hg⟩
theorem Slots.set {tmps : Array Value} (h : Slots ι tmps) (t : Nat) {v r : Value} (hv : VRel ι v r) : Slots ι (tmps.setIfInBounds t r) := fun u => by
  by_cases e : u = t ∧ u < tmps.size
  · obtain ⟨rfl, hu⟩ := e
    refine ⟨v, ?_⟩
    rw [Array.getD_eq_getD_getElem?, Array.getElem?_setIfInBounds, if_pos rfl, if_pos hu]
    exact hv
  · obtain ⟨x, hx⟩ := h u
    refine ⟨x, ?_⟩
    have : (tmps.setIfInBounds t r).getD u undef = tmps.getD u undef := by
      rw [Array.getD_eq_getD_getElem?, Array.getD_eq_getD_getElem?, Array.getElem?_setIfInBounds]
      split
      · rename_i h1
        split
        · exact absurd ⟨h1.symm, by rw [← h1]; assumption⟩ e
        · rename_i h2
          rw [Array.getElem?_eq_none (by omega)]
      · rfl
    rw [this]
    exact hx
theorem Slots.put {a : Act} (h : Slots ι a.tmps) (d : Option Tmp) {v r : Value} (hv : VRel ι v r) : Slots ι (a.put d r).tmps := by
  cases d with
  | none => exact h
  | some t => exact h.set t hv
/-- What is known of some slots, and something of all others. -/
theorem env_exists {E : Tr Value} {tmps : Array Value} (hs : Slots ι tmps) (hE : ∀ t v, E.get t = some v → VRel ι v (tmps.getD t undef)) : ∃ ET, SubE E ET ∧ EnvRel ι ET tmps := by
  have key : ∀ L, ∃ ET : Tr Value, SubE E ET ∧ (∀ t, t < L → ∃ v, ET.get t = some v ∧ VRel ι v (tmps.getD t undef)) ∧ ∀ t, L ≤ t → ET.get t = E.get t := by
    intro L
    induction L with
    | zero => exact ⟨E, fun _ _ h => h, fun t h => by omega, fun _ _ => rfl⟩
    | succ L ih =>
      obtain ⟨ET, h1, h2, h3⟩ := ih
      cases hL : E.get L with
      | some v =>
        refine ⟨ET, h1, fun t ht => ?_, fun t ht => h3 t (by omega)⟩
        by_cases e : t < L
        · exact h2 t e
        · obtain rfl : t = L := by omega
          exact ⟨v, h1 _ _ hL, hE _ _ hL⟩
      | none =>
        obtain ⟨v, hv⟩ := hs L
        refine ⟨ET.set L (some v), fun t u hu => ?_, fun t ht => ?_, fun t ht => ?_⟩
        · rw [Tr.get_set_ne _ _ _ _ (fun e => by rw [e, hL] at hu; cases hu)]
          exact h1 t u hu
        · by_cases e : t = L
          · subst e
            exact ⟨v, Tr.get_set_eq _ _ _, hv⟩
          · rw [Tr.get_set_ne _ _ _ _ e]
            exact h2 t (by omega)
        · rw [Tr.get_set_ne _ _ _ _ (by omega)]
          exact h3 t (by omega)
  obtain ⟨ET, h1, h2, h3⟩ := key tmps.size
  refine ⟨ET, h1, fun t => ?_⟩
  by_cases ht : t < tmps.size
  · obtain ⟨v, hv, hr⟩ := h2 t ht
    rw [hv]
    exact hr
  · rw [h3 t (by omega)]
    cases hg : E.get t with
    | some v => exact hE t v hg
    | none =>
      have : tmps.getD t undef = undef := by rw [Array.getD_eq_getD_getElem?, Array.getElem?_eq_none (by omega)]; rfl
      rw [this]
      exact undef_rel

/-! ### What a round leaves, by numbers from m on -/
noncomputable def later (m N n' : Nat) (ι ι' : Nat → Option Loc) : Nat → Option Loc := fun id => if id < m then ι id else if id < m + (n' - N) then ι' (id - m + N) else none
theorem later_grows {m N n' : Nat} (hm : ∀ id, m ≤ id → ι id = none) : Grows ι (later m N n' ι ι') := fun id i h => by
  have hlt : id < m := by
    apply Classical.byContradiction
    intro hn
    rw [hm id (by omega)] at h
    cases h
  unfold later
  rw [if_pos hlt]
  exact h
theorem later_free {m N n' : Nat} : ∀ id, m + (n' - N) ≤ id → later m N n' ι ι' id = none := fun id h => by
  unfold later
  rw [if_neg (by omega), if_neg (by omega)]
theorem later_low {m N n' : Nat} {id : Nat} (h : id < m) : later m N n' ι ι' id = ι id := by
  unfold later
  rw [if_pos h]
theorem later_all {m N n' : Nat} (hm : ∀ id, m ≤ id → ι id = none) (ho : ∀ id, ¬ (N ≤ id ∧ id < n') → ι' id = ι id) : ∀ id i, ι' id = some i → ∃ id2, later m N n' ι ι' id2 = some i := fun id i h => by
  by_cases e : N ≤ id ∧ id < n'
  · refine ⟨id - N + m, ?_⟩
    unfold later
    rw [if_neg (by omega), if_pos (by omega), show id - N + m - m + N = id by omega]
    exact h
  · rw [ho id e] at h
    exact ⟨id, later_grows hm id i h⟩
theorem later_from {m N n' : Nat} : ∀ id i, later m N n' ι ι' id = some i → ι id = some i ∨ ∃ id2, ι' id2 = some i := fun id i h => by
  unfold later at h
  split at h
  · exact .inl h
  · split at h
    · exact .inr ⟨_, h⟩
    · cases h
theorem Slots.later {m N n' : Nat} (hm : ∀ id, m ≤ id → ι id = none) (ho : ∀ id, ¬ (N ≤ id ∧ id < n') → ι' id = ι id) {tmps : Array Value} (h : Slots ι' tmps) : Slots (later m N n' ι ι') tmps := fun t => by
  obtain ⟨v, hv⟩ := h t
  exact hv.again (later_all hm ho)
end
end Go.Proofs.YtmdjibkgnmjhbaaGreatDoor.Abs
end
