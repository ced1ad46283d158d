/- CspHosts: part 2 of its proof: Fa5, Fa6. -/
import Derived.Test.YtoemgehbpamklaaDoorMCspHosts1
import Derived.Test.YtoemgehbpamklaaDoorMCspHosts0
section
/- The quick engine, part 5: operations in a row, code, functions. -/
set_option autoImplicit false
set_option linter.unusedSimpArgs false
set_option linter.unusedVariables false
namespace Go.Proofs.YtoemgehbpamklaaDoor.Abs
open Go Go.RowKit

section
variable {P : Program} {G : GivenT}

/-! ### Slots -/
theorem putC_ok {lim : Nat} {E ET : Tr Value} {d : Option Tmp} {v : Value} {K : SE → Bool} (hs : SubE E ET) (hk : putC lim E d v K = true) : ∃ E' ET', aput lim ET d v = some ET' ∧ SubE E' ET' ∧ K E' = true ∧ (∀ t, d ≠ some t → ET'.get t = ET.get t) ∧ (E' = E ∨ ∃ t, d = some t ∧ E' = E.set t (some v)) := by
  unfold putC at hk
  split at hk
  · rename_i t
    split at hk
    · rename_i hb
      have hb := Nat.le_of_ble_eq_true hb
      rw [Tr.setK_eq] at hk
      refine ⟨_, ET.set t (some v), ?_, hs.set t v, hk, fun u hu => Tr.get_set_ne _ _ _ _ (fun e => hu (by rw [e])), .inr ⟨t, rfl, rfl⟩⟩
      simp only [aput]
      rw [if_pos (show t < lim from hb)]
    · cases hk
  · exact ⟨E, ET, rfl, hs, hk, fun _ _ => rfl, .inl rfl⟩
theorem getsK_ok {E : Tr Value} : ∀ {js : List Nat} {K : List Value → Bool}, getsK E js K = true → ∃ vs, vs.length = js.length ∧ (∀ (i t : Nat) (v : Value), js[i]? = some t → vs[i]? = some v → E.get t = some v) ∧ K vs = true
  | [], K, hk => ⟨[], rfl, fun i t v h => by simp at h, hk⟩
  | t :: r, K, hk => by
    obtain ⟨v, hv, hk⟩ := okB_ok hk
    obtain ⟨vs, hl, hg, hk⟩ := getsK_ok hk
    refine ⟨v :: vs, by simp [hl], fun i u w h1 h2 => ?_, hk⟩
    cases i with
    | zero =>
      simp at h1 h2
      subst h1; subst h2
      exact hv
    | succ i =>
      rw [List.getElem?_cons_succ] at h1 h2
      exact hg i u w h1 h2
theorem delK_ok {E : Tr Value} : ∀ {ts : List Nat} {K : SE → Bool}, delK E ts K = true → ∃ E', K E' = true ∧ ∀ t, E'.get t = if t ∈ ts then none else E.get t
  | [], K, hk => ⟨E, hk, fun t => by simp⟩
  | t :: r, K, hk => by
    obtain ⟨E', hk, hg⟩ := delK_ok (ts := r) (K := fun E' => E'.setK t none K) hk
    rw [Tr.setK_eq] at hk
    refine ⟨_, hk, fun u => ?_⟩
    rw [Tr.get_set]
    by_cases h : u = t
    · rw [if_pos h, if_pos (by simp [h])]
    · rw [if_neg h, hg u]
      by_cases h2 : u ∈ r
      · rw [if_pos h2, if_pos (by simp [h2])]
      · rw [if_neg h2, if_neg (by simp [h, h2])]
theorem setsK_ok {E : Tr Value} : ∀ {js : List Nat} {vs : List Value} {K : SE → Bool}, setsK E js vs K = true → ∃ E', K E' = true ∧ ∀ t v, E'.get t = some v → (∃ i : Nat, js[i]? = some t ∧ vs[i]? = some v) ∨ E.get t = some v
  | [], vs, K, hk => ⟨E, hk, fun t v h => .inr h⟩
  | t :: r, [], K, hk => by cases hk
  | t :: r, v :: vs, K, hk => by
    obtain ⟨E', hk, hg⟩ := setsK_ok (js := r) (vs := vs) (K := fun E' => E'.setK t (some v) K) hk
    rw [Tr.setK_eq] at hk
    refine ⟨_, hk, fun u w hu => ?_⟩
    rw [Tr.get_set] at hu
    split at hu
    · rename_i e
      cases hu
      exact .inl ⟨0, by simp [e], rfl⟩
    · rcases hg u w hu with ⟨i, h1, h2⟩ | h1
      · exact .inl ⟨i + 1, h1, h2⟩
      · exact .inr h1
/-- Slots that were written are known anew alone. -/
theorem rebind_ok {E ET ET' : Tr Value} {asg js : List Nat} {vs : List Value} {K : SE → Bool} (hs : SubE E ET) (hf : ∀ t, t ∉ asg → ET'.get t = ET.get t) (hs' : ∀ (i t : Nat) (v : Value), js[i]? = some t → vs[i]? = some v → ET'.get t = some v)
    (hk : (delK E asg fun E1 => setsK E1 js vs K) = true) : ∃ E2, SubE E2 ET' ∧ K E2 = true := by
  obtain ⟨E1, hk, h1⟩ := delK_ok hk
  obtain ⟨E2, hk, h2⟩ := setsK_ok hk
  refine ⟨E2, fun t v hv => ?_, hk⟩
  rcases h2 t v hv with ⟨i, a, b⟩ | h
  · exact hs' i t v a b
  · rw [h1] at h
    split at h
    · cases h
    · rename_i hn
      rw [hf t hn]
      exact hs t v h

/-! ### What an operation, a row of them, a piece of code leaves as it was -/
theorem aput_get {lim : Nat} {E E' : Tr Value} {d : Option Tmp} {v : Value} (h : aput lim E d v = some E') (t : Nat) (ht : d ≠ some t) : E'.get t = E.get t := by
  unfold aput at h
  split at h
  · rename_i u
    split at h
    · cases h
      exact Tr.get_set_ne _ _ _ _ (fun e => ht (by rw [e]))
    · cases h
  · cases h; rfl
theorem asgO_dst : ∀ {os : List Oper} {t : Nat}, t ∉ asgO os → ∀ o ∈ os, o.dst ≠ some t
  | [], t, h, o, ho => by simp at ho
  | x :: r, t, h, o, ho => by
    unfold asgO at h
    rcases List.mem_cons.1 ho with rfl | ho
    · intro e
      rw [e] at h
      simp at h
    · refine asgO_dst (os := r) ?_ o ho
      intro hm
      apply h
      split
      · exact List.mem_cons_of_mem _ hm
      · exact hm
theorem aops_frame {cf : CallF} {lim : Nat} {ops : Array Oper} : ∀ {os : List Oper} {s s' : ASt} {e : AExit}, aops P cf lim ops os s = some (e, s') → ∀ t, t ∉ asgO os → s'.E.get t = s.E.get t
  | [], s, s', e, h, t, ht => by cases h; rfl
  | o :: os, s, s', e, h, t, ht => by
    have hd := asgO_dst ht o List.mem_cons_self
    have hr : t ∉ asgO os := by
      intro hm
      apply ht
      unfold asgO
      split
      · exact List.mem_cons_of_mem _ hm
      · exact hm
    unfold aops at h
    split at h
    · split at h
      · split at h
        · rename_i E hE
          rw [aops_frame h t hr]
          exact aput_get hE t hd
        · cases h
      · split at h
        · split at h
          · rename_i E hE
            rw [aops_frame h t hr]
            exact aput_get hE t hd
          · cases h
        · cases h; rfl
        · cases h
      · cases h; rfl
      · cases h
    · split at h
      · rename_i E hE
        rw [aops_frame h t hr]
        exact aput_get hE t hd
      · cases h
theorem asgO_get {os : List Oper} {i : Nat} {o : Oper} {t : Nat} (h : os[i]? = some o) (hd : o.dst = some t) : t ∈ asgO os := by
  apply Classical.byContradiction
  intro hn
  exact asgO_dst hn o (List.mem_of_getElem? h) hd
theorem drawGo_frame {cf : CallF} {lim : Nat} {ops : Array Oper} {B : List Nat} : ∀ {σ : List Nat} {E : Tr Value} {h : Hp} {l : List Pend} {e : AExit} {s' : ASt}, drawGo P cf lim ops B σ E h l = some (e, s') → ∀ t, t ∉ asgO ops.toList → s'.E.get t = E.get t
  | [], E, h, l, e, s', hd, t, ht => by
    unfold drawGo at hd
    split at hd
    · cases hd; rfl
    · cases hd
  | i :: σ, E, h, l, e, s', hd, t, ht => by
    unfold drawGo at hd
    split at hd
    · cases hd
    rename_i o ho
    have hne : o.dst ≠ some t := fun hdst => ht (asgO_get (by rw [Array.getElem?_toList]; exact ho) hdst)
    split at hd
    · split at hd
      rotate_left
      · cases hd
      split at hd
      rotate_left
      · cases hd
      split at hd
      rotate_left
      · cases hd
      rename_i E1 hput
      rw [drawGo_frame hd t ht]
      exact aput_get hput t hne
    · split at hd
      rotate_left
      · cases hd
      split at hd
      rotate_left
      · cases hd
      rename_i E1 hput
      rw [drawGo_frame hd t ht]
      exact aput_get hput t hne
theorem exec_frame : ∀ (k lim : Nat) (c : Code) (s s' : ASt) (e : AExit), exec P G k lim c s = some (e, s') → ∀ t, t ∉ asgL c → s'.E.get t = s.E.get t
  | 0, lim, c, s, s', e, h, t, ht => by cases h
  | k + 1, lim, c, s, s', e, h, t, ht => by
    cases c with
    | skip => cases h; rfl
    | label l => cases h; rfl
    | exit id => cases h; rfl
    | ret => cases h; rfl
    | region id ops d =>
      cases d with
      | false => exact aops_frame (show aops P (callBy P G (exec P G k)) lim ops ops.toList s = some (e, s') from h) t ht
      | true =>
        have h' : adraw P (callBy P G (exec P G k)) lim ops s = some (e, s') := h
        unfold adraw at h'
        dsimp only at h'
        split at h'
        · exact drawGo_frame h' t ht
        · cases h'
    | seq a b =>
      have h' : (match exec P G k lim a s with | some (.normal, s') => exec P G k lim b s' | r => r) = some (e, s') := h
      simp only [asgL, List.mem_append, not_or] at ht
      split at h'
      · rename_i s1 hx
        rw [exec_frame k lim b s1 s' e h' t ht.2]
        exact exec_frame k lim a s s1 _ hx t ht.1
      · exact exec_frame k lim a s s' e h' t ht.1
    | cond c a b =>
      have h' : (match aev P s.E s.h c with | some (.bool true) => exec P G k lim a s | some (.bool false) => exec P G k lim b s | _ => none) = some (e, s') := h
      simp only [asgL, List.mem_append, not_or] at ht
      split at h'
      · exact exec_frame k lim a s s' e h' t ht.1
      · exact exec_frame k lim b s s' e h' t ht.2
      · cases h'
    | block id b =>
      have h' : (match exec P G k lim b s with | some (.exit id', s') => if id' = id then some (.normal, s') else some (.exit id', s') | r => r) = some (e, s') := h
      split at h'
      · rename_i id' s1 hb
        have := exec_frame k lim b s s1 _ hb t ht
        split at h'
        · cases h'; exact this
        · cases h'; exact this
      · exact exec_frame k lim b s s' e h' t ht
    | loop b =>
      have h' : (match exec P G k lim b s with | some (.normal, s') => exec P G k lim (.loop b) s' | r => r) = some (e, s') := h
      split at h'
      · rename_i s1 hx
        rw [exec_frame k lim (.loop b) s1 s' e h' t ht]
        exact exec_frame k lim b s s1 _ hx t ht
      · exact exec_frame k lim b s s' e h' t ht
    | _ => cases h
theorem Runs.frame {lim : Nat} {c : Code} {s s' : ASt} {e : AExit} (h : Runs P G lim c s e s') (t : Nat) (ht : t ∉ asgL c) : s'.E.get t = s.E.get t := by
  obtain ⟨k0, hk⟩ := h
  exact exec_frame k0 lim c s s' e (hk k0 (Nat.le_refl _)) t ht
theorem RunsOps.frame {lim : Nat} {ops : Array Oper} {os : List Oper} {s s' : ASt} (h : RunsOps P G lim ops os s s') (t : Nat) (ht : t ∉ asgO os) : s'.E.get t = s.E.get t := by
  obtain ⟨k0, hk⟩ := h
  exact aops_frame (hk k0 (Nat.le_refl _)) t ht

/-! ### Operations in a row -/
/-- One operation, then the others. -/
theorem RunsOps.cons {lim : Nat} {ops : Array Oper} {o : Oper} {os : List Oper} {s s' : ASt} {v : Value} {h' : Hp} {E' : Tr Value} (hg : aguard s.E ops o = true) (ho : OpTo P G s.E s.h o.op v h') (hp : aput lim s.E o.dst v = some E') (hr : RunsOps P G lim ops os ⟨E', h'⟩ s') :
    RunsOps P G lim ops (o :: os) s s' := by
  obtain ⟨k1, hr⟩ := hr
  rcases ho with ho | ⟨f, args, ho, k0, hc⟩
  · refine ⟨k1, fun k hk => ?_⟩
    unfold aops
    rw [if_pos hg, ho]
    dsimp only
    rw [hp]
    exact hr k hk
  · refine ⟨max k0 k1, fun k hk => ?_⟩
    unfold aops
    rw [if_pos hg, ho]
    dsimp only
    have := hc k (by omega)
    unfold call at this
    rw [this]
    dsimp only
    rw [hp]
    exact hr k (by omega)
theorem RunsOps.off {lim : Nat} {ops : Array Oper} {o : Oper} {os : List Oper} {s s' : ASt} {E' : Tr Value} (hg : aguard s.E ops o = false) (hp : aput lim s.E o.dst undef = some E') (hr : RunsOps P G lim ops os ⟨E', s.h⟩ s') :
    RunsOps P G lim ops (o :: os) s s' := by
  obtain ⟨k1, hr⟩ := hr
  refine ⟨k1, fun k hk => ?_⟩
  unfold aops
  rw [if_neg (by rw [hg]; decide), hp]
  exact hr k hk
theorem aops_append {cf : CallF} {lim : Nat} {ops : Array Oper} : ∀ {a b : List Oper} {s s1 : ASt}, aops P cf lim ops a s = some (.normal, s1) → aops P cf lim ops (a ++ b) s = aops P cf lim ops b s1
  | [], b, s, s1, h => by cases h; rfl
  | o :: a, b, s, s1, h => by
    rw [List.cons_append]
    unfold aops at h
    conv => lhs; unfold aops
    split at h
    · rename_i hg
      try rw [if_pos hg]
      split at h
      · rename_i v h1 hx
        try rw [hx]
        try dsimp only
        split at h
        · rename_i E hE
          try rw [hE]
          exact aops_append h
        · cases h
      · rename_i f args hx
        try rw [hx]
        try dsimp only
        split at h
        · rename_i v h1 hy
          try rw [hy]
          try dsimp only
          split at h
          · rename_i E hE
            try rw [hE]
            exact aops_append h
          · cases h
        · cases h
        · cases h
      · cases h
      · cases h
    · rename_i hg
      try rw [if_neg hg]
      split at h
      · rename_i E hE
        try rw [hE]
        exact aops_append h
      · cases h
theorem RunsOps.append {lim : Nat} {ops : Array Oper} {a b : List Oper} {s s1 s' : ASt} (h1 : RunsOps P G lim ops a s s1) (h2 : RunsOps P G lim ops b s1 s') : RunsOps P G lim ops (a ++ b) s s' := by
  obtain ⟨k1, h1⟩ := h1
  obtain ⟨k2, h2⟩ := h2
  refine ⟨max k1 k2, fun k hk => ?_⟩
  rw [aops_append (h1 k (by omega))]
  exact h2 k (by omega)
theorem RunsOps.nil {lim : Nat} {ops : Array Oper} {s : ASt} : RunsOps P G lim ops [] s s := ⟨0, fun k _ => rfl⟩

theorem gEq_ok {a b : Option (Nat × Bool)} (h : gEq a b = true) : a = b := by
  cases a with
  | none => cases b with
    | none => rfl
    | some y => cases h
  | some x => cases b with
    | none => cases h
    | some y =>
      obtain ⟨i, p⟩ := x
      obtain ⟨j, q⟩ := y
      have h' : (match Nat.beq i j with | true => p == q | false => false) = true := h
      split at h'
      · rename_i hb
        rw [Nat.beq_eq] at hb
        rw [beq_iff_eq] at h'
        rw [hb, h']
      · cases h'
theorem groups_ok : ∀ l : List Oper, flatG (groups l) = l ∧ ∀ g A, (g, A) ∈ groups l → ∀ o ∈ A, o.guard = g
  | [] => ⟨rfl, fun g A h => by simp [groups] at h⟩
  | o :: r => by
    obtain ⟨h1, h2⟩ := groups_ok r
    unfold groups
    split
    · rename_i hr
      rw [hr] at h1
      refine ⟨by rw [← h1]; rfl, fun g A h x hx => ?_⟩
      simp only [List.mem_singleton, Prod.mk.injEq] at h
      obtain ⟨rfl, rfl⟩ := h
      simp at hx
      rw [hx]
    · rename_i g l t hr
      rw [hr] at h1 h2
      split
      · rename_i hg
        have hg := gEq_ok hg
        refine ⟨by rw [← h1]; rfl, fun g' A h x hx => ?_⟩
        rcases List.mem_cons.1 h with h | h
        · cases h
          rcases List.mem_cons.1 hx with rfl | hx
          · exact hg
          · exact h2 g l List.mem_cons_self x hx
        · exact h2 g' A (List.mem_cons_of_mem _ h) x hx
      · refine ⟨by rw [← h1]; rfl, fun g' A h x hx => ?_⟩
        rcases List.mem_cons.1 h with h | h
        · cases h
          simp at hx
          rw [hx]
        · exact h2 g' A h x hx

theorem opsU_ok {C : Callees} (hC : COk P G C) {lim : Nat} {ops : Array Oper} : ∀ {A : List Oper} {E ET : Tr Value} {h : Hp} {K : SE → Hp → Bool} (I : Tr Value → Prop), (∀ o ∈ A, ∀ E ET', I E → (∀ t, o.dst ≠ some t → ET'.get t = E.get t) → I ET') → (∀ o ∈ A, ∀ E, I E → aguard E ops o = true) → I ET →
    SubE E ET → opsU P (theOps P) C lim A E h K = true → ∃ E' s', RunsOps P G lim ops A ⟨ET, h⟩ s' ∧ SubE E' s'.E ∧ K E' s'.h = true
  | [], E, ET, h, K, I, hI, hg, hi, hs, hk => ⟨E, ⟨ET, h⟩, RunsOps.nil, hs, hk⟩
  | o :: A, E, ET, h, K, I, hI, hg, hi, hs, hk => by
    obtain ⟨v, h', ho, hk⟩ := compOp_ok hC hs (show compOp P (theOps P) C E h o.op (fun v h' => putC lim E o.dst v fun E' => opsU P (theOps P) C lim A E' h' K) = true from hk)
    obtain ⟨E', ET', hp, hs', hk, hf, _⟩ := putC_ok hs hk
    obtain ⟨E2, s', hr, hs2, hk⟩ := opsU_ok hC I (fun o ho => hI o (List.mem_cons_of_mem _ ho)) (fun o ho => hg o (List.mem_cons_of_mem _ ho)) (hI o List.mem_cons_self ET ET' hi hf) hs' hk
    exact ⟨E2, s', RunsOps.cons (hg o List.mem_cons_self ET hi) ho hp hr, hs2, hk⟩
theorem memL_not {t : Nat} : ∀ {l : List Nat}, memL t l = false → t ∉ l
  | [], _ => by simp
  | x :: r, h => by
    have h' : (match Nat.beq t x with | true => true | false => memL t r) = false := h
    split at h'
    · cases h'
    · rename_i hb
      have hne : t ≠ x := fun e => by rw [e, Nat.beq_refl] at hb; cases hb
      simp only [List.mem_cons, not_or]
      exact ⟨hne, memL_not h'⟩
theorem undefs_get : ∀ {js : List Nat} {i : Nat} {v : Value}, (undefs js)[i]? = some v → v = undef
  | [], i, v, h => by simp [undefs] at h
  | _ :: r, 0, v, h => by simp [undefs] at h; exact h.symm
  | _ :: r, i + 1, v, h => by
    rw [undefs, List.getElem?_cons_succ] at h
    exact undefs_get h
theorem asgO_mem : ∀ {os : List Oper} {t : Nat}, t ∈ asgO os → ∃ o ∈ os, o.dst = some t
  | [], t, h => by simp [asgO] at h
  | o :: r, t, h => by
    unfold asgO at h
    split at h
    · rename_i u hu
      rcases List.mem_cons.1 h with rfl | h
      · exact ⟨o, List.mem_cons_self, hu⟩
      · obtain ⟨x, hx, hd⟩ := asgO_mem h
        exact ⟨x, List.mem_cons_of_mem _ hx, hd⟩
    · obtain ⟨x, hx, hd⟩ := asgO_mem h
      exact ⟨x, List.mem_cons_of_mem _ hx, hd⟩
theorem opsOff_ok {lim : Nat} {ops : Array Oper} : ∀ {A : List Oper} {ET : Tr Value} {h : Hp} (I : Tr Value → Prop), (∀ o ∈ A, ∀ E ET', I E → (∀ t, o.dst ≠ some t → ET'.get t = E.get t) → I ET') → (∀ o ∈ A, ∀ E, I E → aguard E ops o = false) → I ET → dstsB lim A = true →
    ∃ ET', RunsOps P G lim ops A ⟨ET, h⟩ ⟨ET', h⟩ ∧ ∀ t, t ∈ asgO A → ET'.get t = some undef
  | [], ET, h, I, hI, hg, hi, hd => ⟨ET, RunsOps.nil, fun t ht => by simp [asgO] at ht⟩
  | o :: A, ET, h, I, hI, hg, hi, hd => by
    have key : ∃ E1, aput lim ET o.dst undef = some E1 ∧ (∀ t, o.dst ≠ some t → E1.get t = ET.get t) ∧ (∀ t, o.dst = some t → E1.get t = some undef) ∧ dstsB lim A = true := by
      unfold dstsB at hd
      split at hd
      · rename_i t ht
        split at hd
        · rename_i hb
          have hb := Nat.le_of_ble_eq_true hb
          refine ⟨ET.set t (some undef), ?_, fun u hu => Tr.get_set_ne _ _ _ _ (fun e => hu (by rw [ht, e])), fun u hu => ?_, hd⟩
          · simp only [aput, ht]
            rw [if_pos (show t < lim from hb)]
          · rw [ht] at hu
            cases hu
            exact Tr.get_set_eq _ _ _
        · cases hd
      · rename_i hn
        exact ⟨ET, by simp only [aput, hn], fun _ _ => rfl, (fun t ht => by rw [hn] at ht; cases ht), hd⟩
    obtain ⟨E1, hp, hf, hu, hd'⟩ := key
    obtain ⟨E2, hr, h2⟩ := opsOff_ok (h := h) I (fun o ho => hI o (List.mem_cons_of_mem _ ho)) (fun o ho => hg o (List.mem_cons_of_mem _ ho)) (hI o List.mem_cons_self ET E1 hi hf) hd'
    refine ⟨E2, RunsOps.off (hg o List.mem_cons_self ET hi) hp hr, fun t ht => ?_⟩
    by_cases hm : t ∈ asgO A
    · exact h2 t hm
    · rw [show E2.get t = E1.get t from hr.frame t hm]
      refine hu t ?_
      obtain ⟨x, hx, hdx⟩ := asgO_mem ht
      rcases List.mem_cons.1 hx with hx | hx
      · rw [← hx]; exact hdx
      · exact absurd hdx (asgO_dst hm x hx)
end
end Go.Proofs.YtoemgehbpamklaaDoor.Abs
end
section
/- The quick engine, part 6: code and functions; the functions tied to one another. -/
set_option autoImplicit false
set_option linter.unusedSimpArgs false
set_option linter.unusedVariables false
namespace Go.Proofs.YtoemgehbpamklaaDoor.Abs
open Go Go.RowKit

section
variable {P : Program} {G : GivenT}

theorem app_lam_true {n : Nat} {f : List Value → Hp → Bool} {vs : List Value} {h : Hp} (hk : app noH n (lam n f) vs h = true) : f vs h = true := by
  rcases app_lam noH n f vs with e | e
  · rw [e] at hk; exact hk
  · rw [e] at hk; cases hk
theorem subL_ok : ∀ {js l : List Nat}, subL js l = true → ∀ t ∈ js, t ∈ l
  | [], l, h, t, ht => by simp at ht
  | x :: r, l, h, t, ht => by
    have h' : (match memL x l with | true => subL r l | false => false) = true := h
    split at h'
    · rename_i hm
      rcases List.mem_cons.1 ht with rfl | ht
      · apply Classical.byContradiction
        intro hn
        have key : ∀ {l : List Nat}, memL t l = true → t ∈ l := by
          intro l
          induction l with
          | nil => intro h; cases h
          | cons y s ih =>
            intro h
            have h2 : (match Nat.beq t y with | true => true | false => memL t s) = true := h
            split at h2
            · rename_i hb
              rw [Nat.beq_eq] at hb
              rw [hb]; exact List.mem_cons_self
            · exact List.mem_cons_of_mem _ (ih h2)
        exact hn (key hm)
      · exact subL_ok h' t ht
    · cases h'
theorem aguard_at {E : Tr Value} {ops : Array Oper} {o : Oper} {j : Nat} {want : Bool} {t : Nat} {g : Value} (ho : o.guard = some (j, want)) (ht : (ops[j]?).bind (·.dst) = some t) (hg : E.get t = some g) : aguard E ops o = guardB want g := by
  unfold aguard guardB
  rw [ho]
  dsimp only
  rw [ht]
  dsimp only
  rw [hg]
  cases g <;> rfl

theorem compGs_ok {C : Callees} (hC : COk P G C) {lim : Nat} {ops : Array Oper} {n : Nat} : ∀ {gs : List Grp} {E ET : Tr Value} {h : Hp} {K : SE → Hp → Bool}, (∀ g A, (g, A) ∈ gs → ∀ o ∈ A, o.guard = g) → SubE E ET → compGs P (theOps P) C lim ops n gs E h K = true →
    ∃ E' s', RunsOps P G lim ops (flatG gs) ⟨ET, h⟩ s' ∧ SubE E' s'.E ∧ K E' s'.h = true
  | [], E, ET, h, K, hg, hs, hk => ⟨E, ⟨ET, h⟩, RunsOps.nil, hs, hk⟩
  | (none, A) :: r, E, ET, h, K, hg, hs, hk => by
    obtain ⟨E1, s1, hr1, hs1, hk⟩ := opsU_ok (ops := ops) hC (fun _ => True) (fun _ _ _ _ _ _ => trivial) (fun o ho E _ => by unfold aguard; rw [hg none A List.mem_cons_self o ho]) trivial hs
      (show opsU P (theOps P) C lim A E h (fun E' h' => compGs P (theOps P) C lim ops n r E' h' K) = true from hk)
    obtain ⟨E2, s2, hr2, hs2, hk⟩ := compGs_ok hC (fun g B hB => hg g B (List.mem_cons_of_mem _ hB)) hs1 hk
    exact ⟨E2, s2, hr1.append hr2, hs2, hk⟩
  | (some (j, want), A) :: r, E, ET, h, K, hg, hs, hk => by
    unfold compGs at hk
    split at hk
    rotate_left
    · cases hk
    rename_i t ht
    split at hk
    · cases hk
    rename_i hm
    have hm := memL_not hm
    obtain ⟨g, hgv, hk⟩ := okB_ok hk
    dsimp only at hk
    generalize bitsL (Nat.land (maskL (asgO A)) (ueOps ops n (flatG r))) lim [] = js at hk
    split at hk
    rotate_left
    · cases hk
    rename_i hsub hd
    have hsub := subL_ok hsub
    have hgt := hs t g hgv
    have hI : ∀ o ∈ A, ∀ E ET' : Tr Value, E.get t = some g → (∀ u, o.dst ≠ some u → ET'.get u = E.get u) → ET'.get t = some g := fun o ho E ET' hi hf => by
      rw [hf t (asgO_dst hm o ho)]; exact hi
    have hag : ∀ o ∈ A, ∀ E : Tr Value, E.get t = some g → aguard E ops o = guardB want g := fun o ho E hi => aguard_at (hg _ A List.mem_cons_self o ho) ht hi
    rcases guardK_ok (show guardK want g _ _ = true from hk) with ⟨hb, hk⟩ | ⟨hb, hk⟩
    · obtain ⟨E1, s1, hr1, hs1, hk⟩ := opsU_ok (ops := ops) hC (fun E => E.get t = some g) hI (fun o ho E hi => by rw [hag o ho E hi]; exact hb) hgt hs hk
      obtain ⟨vs, hl, hgs, hk⟩ := getsK_ok hk
      have hk := app_lam_true hk
      obtain ⟨E2, hs2, hk⟩ := rebind_ok (ET' := s1.E) hs (fun u hu => hr1.frame u hu) (fun i u v a b => hs1 u v (hgs i u v a b)) hk
      obtain ⟨E3, s3, hr3, hs3, hk⟩ := compGs_ok hC (fun g B hB => hg g B (List.mem_cons_of_mem _ hB)) hs2 hk
      exact ⟨E3, s3, hr1.append hr3, hs3, hk⟩
    · obtain ⟨ET1, hr1, hu⟩ := opsOff_ok (P := P) (G := G) (ops := ops) (h := h) (fun E => E.get t = some g) hI (fun o ho E hi => by rw [hag o ho E hi]; exact hb) hgt hd
      have hk := app_lam_true hk
      obtain ⟨E2, hs2, hk⟩ := rebind_ok (ET' := ET1) hs (fun u hu => hr1.frame u hu) (fun i u v a b => by
        rw [undefs_get b]
        exact hu u (hsub u (List.mem_of_getElem? a))) hk
      obtain ⟨E3, s3, hr3, hs3, hk⟩ := compGs_ok hC (fun g B hB => hg g B (List.mem_cons_of_mem _ hB)) hs2 hk
      exact ⟨E3, s3, hr1.append hr3, hs3, hk⟩

/-! ### Code -/
def toE : AX → AExit
  | .normal => .normal
  | .exit id => .exit id
  | .ret => .ret
theorem Runs.of_next {lim : Nat} {c : Code} {s s' : ASt} {e : AExit} {k0 : Nat} (h : ∀ k, k0 ≤ k → exec P G (k + 1) lim c s = some (e, s')) : Runs P G lim c s e s' :=
  ⟨k0 + 1, fun k hk => by
    obtain ⟨m, rfl⟩ : ∃ m, k = m + 1 := ⟨k - 1, by omega⟩
    exact h m (by omega)⟩
theorem Runs.region {lim : Nat} {id : Nat} {ops : Array Oper} {s s' : ASt} (h : RunsOps P G lim ops ops.toList s s') : Runs P G lim (.region id ops false) s .normal s' := by
  obtain ⟨k0, h⟩ := h
  exact Runs.of_next (k0 := k0) fun k hk => h k hk
theorem bothK_ok {b k : Bool} (h : bothK b k = true) : b = true ∧ k = true := by
  cases b
  · cases h
  · exact ⟨rfl, h⟩
/-- Regions whose order is open. -/
def PRel (l : List CPd) (lT : List Pend) : Prop := ∀ p ∈ lT, ∃ c ∈ l, c.i = p.i ∧ c.op = p.op ∧ c.v = p.v ∧ SubE c.E p.E ∧ isCh c.op = false ∧ ∀ want g, c.g = some (want, g) → guardB want g = true
theorem nc_of_float {E : Tr Value} {h : Hp} {op : Op} {f : FuncId} {args : Array Value} (hc : isCh op = false) (ha : aop P E h op = some (.call f args)) : False := by
  have rv_nc : ∀ {h : Hp} {x : Option Value}, rv h x = some (.call f args) → False := fun e => by unfold rv at e; split at e <;> cases e
  have rvh_nc : ∀ {x : Option (Value × Hp)}, rvh x = some (.call f args) → False := fun e => by unfold rvh at e; split at e <;> cases e
  cases op <;> first | (cases hc; done) | skip
  case move x => exact rv_nc ha
  case assign x => exact rv_nc ha
  case pick c x y =>
    dsimp only [aop, opPick] at ha
    obtain ⟨_, _, ha⟩ := with1_some ha
    split at ha
    · exact rv_nc ha
    · exact rv_nc ha
    · cases ha
  case alloc e =>
    dsimp only [aop, opAlloc] at ha
    obtain ⟨_, _, ha⟩ := with1_some ha
    exact rvh_nc ha
  case box e x =>
    dsimp only [aop, opBox] at ha
    obtain ⟨_, _, ha⟩ := with1_some ha
    exact rvh_nc ha
  case build t ps =>
    dsimp only [aop, opBuild] at ha
    split at ha
    · exact rv_nc ha
    · cases ha
  case buildSlice t n ps =>
    dsimp only [aop, opBuildslice] at ha
    split at ha
    · exact rvh_nc ha
    · cases ha
  case load t x =>
    dsimp only [aop, opLoad] at ha
    obtain ⟨_, _, ha⟩ := with1_some ha
    exact rv_nc ha
  case nilCheck x =>
    dsimp only [aop, opNilcheck] at ha
    obtain ⟨_, _, ha⟩ := with1_some ha
    split at ha
    · exact rv_nc ha
    · cases ha
  case binOp op t x y yt =>
    dsimp only [aop, opBinop] at ha
    obtain ⟨_, _, ha⟩ := with1_some ha
    obtain ⟨_, _, ha⟩ := with1_some ha
    exact rv_nc ha
  case unOp op t x =>
    dsimp only [aop, opUnop] at ha
    obtain ⟨_, _, ha⟩ := with1_some ha
    split at ha
    · obtain ⟨_, _, ha⟩ := with1_some ha
      split at ha
      · exact rv_nc ha
      · cases ha
    · cases ha
  case makeInterface t x =>
    dsimp only [aop, opMakeinterface] at ha
    obtain ⟨_, _, ha⟩ := with1_some ha
    split at ha
    · cases ha
    · exact rv_nc ha
    · cases ha
  case slice t x lo hi mx =>
    dsimp only [aop, opSlice] at ha
    obtain ⟨_, _, ha⟩ := with1_some ha
    split at ha
    · exact rv_nc ha
    · cases ha
  case fieldAddr s x f =>
    dsimp only [aop, opFieldaddr] at ha
    obtain ⟨_, _, ha⟩ := with1_some ha
    exact rv_nc ha
  case field t x f =>
    dsimp only [aop, opField] at ha
    obtain ⟨_, _, ha⟩ := with1_some ha
    exact rv_nc ha
  case indexAddr t x i =>
    dsimp only [aop, opIndexaddr] at ha
    obtain ⟨_, _, ha⟩ := with1_some ha
    obtain ⟨_, _, ha⟩ := with1_some ha
    exact rv_nc ha
  case index t x i =>
    dsimp only [aop, opIndex] at ha
    obtain ⟨_, _, ha⟩ := with1_some ha
    obtain ⟨_, _, ha⟩ := with1_some ha
    exact rv_nc ha
  case lookup t x i c =>
    dsimp only [aop, opLookup] at ha
    obtain ⟨_, _, ha⟩ := with1_some ha
    obtain ⟨_, _, ha⟩ := with1_some ha
    exact rv_nc ha
  case extract x i =>
    dsimp only [aop, opExtract] at ha
    obtain ⟨_, _, ha⟩ := with1_some ha
    split at ha
    · exact rv_nc ha
    · cases ha
  case call c =>
    obtain ⟨callee, cargs, tys⟩ := c
    cases callee with
    | builtin b =>
      dsimp only [aop, opCall] at ha
      split at ha
      · exact rvh_nc ha
      · cases ha
    | value f => cases hc
    | invoke r m => cases hc
theorem float_val {E : Tr Value} {h h' : Hp} {op : Op} {v : Value} (hc : isCh op = false) (ho : OpTo P G E h op v h') : aop P E h op = some (.val v h') := by
  rcases ho with ho | ⟨f, args, ho, _⟩
  · exact ho
  · exact (nc_of_float hc ho).elim
theorem recsK_ok {C : Callees} (hC : COk P G C) {h : Hp} {K : Bool} : ∀ {l : List CPd}, recsK P (theOps P) C h K l = true → K = true ∧ ∀ lT, PRel l lT → pendOk P h lT = true := by
  intro l hk
  have key : K = true ∧ ∀ c ∈ l, recK P (theOps P) C h c = true := by
    induction l with
    | nil => exact ⟨hk, fun c hc => by simp at hc⟩
    | cons p l ih =>
      obtain ⟨h1, h2⟩ := bothK_ok (show bothK _ _ = true from hk)
      obtain ⟨h3, h4⟩ := ih h2
      refine ⟨h3, fun c hc => ?_⟩
      rcases List.mem_cons.1 hc with rfl | hc
      · exact h1
      · exact h4 c hc
  refine ⟨key.1, fun lT hr => List.all_eq_true.2 fun p hp => ?_⟩
  obtain ⟨c, hc, _, e2, e3, hs, hf, hg⟩ := hr p hp
  have hk := key.2 c hc
  have raw : compOp P (theOps P) C c.E h c.op (fun v _ => eqV v c.v) = true := by
    unfold recK at hk
    split at hk
    · exact hk
    · rename_i want g hcg
      rcases guardK_ok (show guardK want g _ true = true from hk) with ⟨_, h1⟩ | ⟨h1, _⟩
      · exact h1
      · rw [hg want g hcg] at h1; cases h1
  obtain ⟨v, h', ho, hk⟩ := compOp_ok hC hs raw
  have := float_val hf ho
  rw [← e2, this]
  dsimp only
  rw [← e3]
  exact hk
theorem guardC_ok {C : Callees} (hC : COk P G C) {ops : Array Oper} {E ET : Tr Value} {h : Hp} {o : Oper} {K : Option (Bool × Value) → KVH} (hs : SubE E ET) (hk : guardC P (theOps P) C ops E h o K = true) : ∃ g v h', K g v h' = true ∧
    ((aguard ET ops o = true ∧ OpTo P G ET h o.op v h' ∧ ∀ want gv, g = some (want, gv) → guardB want gv = true) ∨ (aguard ET ops o = false ∧ v = undef ∧ h' = h)) := by
  unfold guardC at hk
  split at hk
  · rename_i hg
    obtain ⟨v, h', ho, hk⟩ := compOp_ok hC hs hk
    exact ⟨none, v, h', hk, .inl ⟨by unfold aguard; rw [hg], ho, fun _ _ e => by cases e⟩⟩
  · rename_i j want hg
    split at hk
    · rename_i t ht
      obtain ⟨g, hgv, hk⟩ := okB_ok hk
      have hat := aguard_at hg ht (hs t g hgv)
      rcases guardK_ok (show guardK want g _ _ = true from hk) with ⟨h1, hk⟩ | ⟨h1, hk⟩
      · obtain ⟨v, h', ho, hk⟩ := compOp_ok hC hs hk
        exact ⟨_, v, h', hk, .inl ⟨hat.trans h1, ho, fun w gv e => by cases e; exact h1⟩⟩
      · exact ⟨_, undef, h, hk, .inr ⟨hat.trans h1, rfl, rfl⟩⟩
    · cases hk
theorem PRel.filter {l : List CPd} {lT : List Pend} (h : PRel l lT) (f : Nat → Bool) : PRel (l.filter fun p => f p.i) (lT.filter fun p => f p.i) := fun p hp => by
  obtain ⟨h1, h2⟩ := List.mem_filter.1 hp
  obtain ⟨c, hc, e1, hr⟩ := h p h1
  exact ⟨c, List.mem_filter.2 ⟨hc, by rw [e1]; exact h2⟩, e1, hr⟩
theorem compDraw_ok {C : Callees} (hC : COk P G C) {lim : Nat} {ops : Array Oper} {B : List Nat} : ∀ {σ : List Nat} {E ET : Tr Value} {h : Hp} {l : List CPd} {lT : List Pend} {K : SE → Hp → Bool}, SubE E ET → PRel l lT → compDraw P (theOps P) C lim ops B σ E h l K = true →
    ∃ E' s' k0, (∀ k, k0 ≤ k → drawGo P (callBy P G (exec P G k)) lim ops B σ ET h lT = some (.normal, s')) ∧ SubE E' s'.E ∧ K E' s'.h = true
  | [], E, ET, h, l, lT, K, hs, hr, hk => by
    obtain ⟨hk, hp⟩ := recsK_ok hC hk
    refine ⟨E, ⟨ET, h⟩, 0, fun k _ => ?_, hs, hk⟩
    unfold drawGo
    rw [if_pos (hp lT hr)]
  | i :: σ, E, ET, h, l, lT, K, hs, hr, hk => by
    unfold compDraw at hk
    split at hk
    · cases hk
    rename_i o ho
    split at hk
    · rename_i hch
      obtain ⟨hk, hp⟩ := recsK_ok hC hk
      obtain ⟨g, v, h', hk, hcase⟩ := guardC_ok hC hs hk
      obtain ⟨E', ET', hput, hs', hk, _, _⟩ := putC_ok hs hk
      obtain ⟨E2, s2, k1, hgo, hs2, hk⟩ := compDraw_ok hC (lT := lT.filter fun p => !(ancOf B i p.i)) hs' (hr.filter fun j => !(ancOf B i j)) hk
      have hrun : ∃ k2, ∀ k, k2 ≤ k → chRun P (callBy P G (exec P G k)) ops o ET h = some (v, h') := by
        rcases hcase with ⟨hg, hop, _⟩ | ⟨hg, rfl, rfl⟩
        · rcases hop with hop | ⟨f, args, hop, k2, hc⟩
          · exact ⟨0, fun k _ => by unfold chRun; rw [if_pos hg, hop]⟩
          · refine ⟨k2, fun k hkk => ?_⟩
            have := hc k hkk
            unfold call at this
            unfold chRun
            rw [if_pos hg, hop]
            dsimp only
            rw [this]
        · exact ⟨0, fun k _ => by unfold chRun; rw [if_neg (by rw [hg]; decide)]⟩
      obtain ⟨k2, hrun⟩ := hrun
      refine ⟨E2, s2, max k1 k2, fun k hkk => ?_, hs2, hk⟩
      unfold drawGo
      rw [ho]
      dsimp only
      rw [hch]
      dsimp only
      rw [if_pos (hp lT hr), hrun k (by omega)]
      dsimp only
      rw [hput]
      exact hgo k (by omega)
    · rename_i hch
      obtain ⟨g, v, h', hk, hcase⟩ := guardC_ok hC hs hk
      obtain ⟨E', ET', hput, hs', hk, _, _⟩ := putC_ok hs hk
      have hrel : PRel (match lookNP o.op with | true => ⟨i, o.op, E, v, g⟩ :: l | false => l) (match isLook ops o ET with | true => ⟨i, o.op, ET, v⟩ :: lT | false => lT) := by
        intro p hp
        have old : ∀ p ∈ lT, ∃ c ∈ (match lookNP o.op with | true => (⟨i, o.op, E, v, g⟩ : CPd) :: l | false => l), c.i = p.i ∧ c.op = p.op ∧ c.v = p.v ∧ SubE c.E p.E ∧ isCh c.op = false ∧ ∀ want g, c.g = some (want, g) → guardB want g = true := by
          intro p hp
          obtain ⟨c, hc, hrest⟩ := hr p hp
          refine ⟨c, ?_, hrest⟩
          split
          · exact List.mem_cons_of_mem _ hc
          · exact hc
        split at hp
        · rename_i hlk
          rcases List.mem_cons.1 hp with rfl | hp
          · unfold isLook at hlk
            rw [Bool.and_eq_true] at hlk
            have hnp : lookNP o.op = true := hlk.2
            rcases hcase with ⟨hg, hop, hgg⟩ | ⟨hg, _⟩
            · refine ⟨⟨i, o.op, E, v, g⟩, ?_, rfl, rfl, rfl, hs, hch, hgg⟩
              rw [hnp]
              exact List.mem_cons_self
            · rw [hg] at hlk; cases hlk.1
          · exact old p hp
        · exact old p hp
      obtain ⟨E2, s2, k1, hgo, hs2, hk⟩ := compDraw_ok hC hs' hrel hk
      have hrun : flRun P ops o ET h = some (v, h') := by
        unfold flRun
        rcases hcase with ⟨hg, hop, _⟩ | ⟨hg, rfl, rfl⟩
        · rw [if_pos hg, float_val hch hop]
        · rw [if_neg (by rw [hg]; decide)]
      refine ⟨E2, s2, k1, fun k hkk => ?_, hs2, hk⟩
      unfold drawGo
      rw [ho]
      dsimp only
      rw [hch]
      dsimp only
      rw [hrun]
      dsimp only
      rw [hput]
      exact hgo k hkk
theorem Runs.seq {lim : Nat} {a b : Code} {s s1 s' : ASt} {e : AExit} (h1 : Runs P G lim a s .normal s1) (h2 : Runs P G lim b s1 e s') : Runs P G lim (.seq a b) s e s' := by
  obtain ⟨k1, h1⟩ := h1
  obtain ⟨k2, h2⟩ := h2
  refine Runs.of_next (k0 := max k1 k2) fun k hk => ?_
  show (match exec P G k lim a s with | some (.normal, s') => exec P G k lim b s' | r => r) = _
  rw [h1 k (by omega)]
  exact h2 k (by omega)
theorem Runs.seq_out {lim : Nat} {a b : Code} {s s1 : ASt} {e : AExit} (he : e ≠ .normal) (h1 : Runs P G lim a s e s1) : Runs P G lim (.seq a b) s e s1 := by
  obtain ⟨k1, h1⟩ := h1
  refine Runs.of_next (k0 := k1) fun k hk => ?_
  show (match exec P G k lim a s with | some (.normal, s') => exec P G k lim b s' | r => r) = _
  rw [h1 k hk]
  cases e <;> first | rfl | exact absurd rfl he
theorem Runs.cond {lim : Nat} {c : Operand} {a b : Code} {s s' : ASt} {e : AExit} {t : Bool} (hc : aev P s.E s.h c = some (.bool t)) (h : Runs P G lim (bif t then a else b) s e s') : Runs P G lim (.cond c a b) s e s' := by
  obtain ⟨k0, h⟩ := h
  refine Runs.of_next (k0 := k0) fun k hk => ?_
  show (match aev P s.E s.h c with | some (.bool true) => exec P G k lim a s | some (.bool false) => exec P G k lim b s | _ => none) = _
  rw [hc]
  cases t
  · exact h k hk
  · exact h k hk
def inBlk (id : Nat) (e : AExit) : AExit := match e with
  | .exit id' => if id' = id then AExit.normal else AExit.exit id'
  | e => e
theorem Runs.block {lim : Nat} {id : Nat} {b : Code} {s s' : ASt} {e : AExit} (h : Runs P G lim b s e s') : Runs P G lim (.block id b) s (inBlk id e) s' := by
  obtain ⟨k0, h⟩ := h
  refine Runs.of_next (k0 := k0) fun k hk => ?_
  show (match exec P G k lim b s with | some (.exit id', s') => if id' = id then some (AExit.normal, s') else some (AExit.exit id', s') | r => r) = _
  rw [h k hk]
  cases e with
  | exit id' =>
    dsimp only [inBlk]
    split <;> rfl
  | _ => rfl
theorem Runs.loop {lim : Nat} {b : Code} {s s1 s' : ASt} {e : AExit} (h1 : Runs P G lim b s .normal s1) (h2 : Runs P G lim (.loop b) s1 e s') : Runs P G lim (.loop b) s e s' := by
  obtain ⟨k1, h1⟩ := h1
  obtain ⟨k2, h2⟩ := h2
  refine Runs.of_next (k0 := max k1 k2) fun k hk => ?_
  show (match exec P G k lim b s with | some (.normal, s') => exec P G k lim (.loop b) s' | r => r) = _
  rw [h1 k (by omega)]
  exact h2 k (by omega)
theorem Runs.loop_out {lim : Nat} {b : Code} {s s1 : ASt} {e : AExit} (he : e ≠ .normal) (h1 : Runs P G lim b s e s1) : Runs P G lim (.loop b) s e s1 := by
  obtain ⟨k1, h1⟩ := h1
  refine Runs.of_next (k0 := k1) fun k hk => ?_
  show (match exec P G k lim b s with | some (.normal, s') => exec P G k lim (.loop b) s' | r => r) = _
  rw [h1 k hk]
  cases e <;> first | rfl | exact absurd rfl he

/-- Where code has come to, and what goes on from there. -/
def Then (P : Program) (G : GivenT) (lim : Nat) (c : Code) (s : ASt) (K : AX → SE → Hp → Bool) : Prop := ∃ e s' E', Runs P G lim c s (toE e) s' ∧ SubE E' s'.E ∧ K e E' s'.h = true

theorem compC_ok {C : Callees} (hC : COk P G C) {lim : Nat} : ∀ (c : Code) {n x : Nat} {E ET : Tr Value} {h : Hp} {K : AX → SE → Hp → Bool}, SubE E ET → compC P (theOps P) C lim c n x E h K = true → Then P G lim c ⟨ET, h⟩ K
  | .skip, n, x, E, ET, h, K, hs, hk => ⟨.normal, ⟨ET, h⟩, E, Runs.of_next (k0 := 0) fun _ _ => rfl, hs, hk⟩
  | .label l, n, x, E, ET, h, K, hs, hk => ⟨.normal, ⟨ET, h⟩, E, Runs.of_next (k0 := 0) fun _ _ => rfl, hs, hk⟩
  | .exit id, n, x, E, ET, h, K, hs, hk => ⟨.exit id, ⟨ET, h⟩, E, Runs.of_next (k0 := 0) fun _ _ => rfl, hs, hk⟩
  | .ret, n, x, E, ET, h, K, hs, hk => ⟨.ret, ⟨ET, h⟩, E, Runs.of_next (k0 := 0) fun _ _ => rfl, hs, hk⟩
  | .region id ops d, n, x, E, ET, h, K, hs, hk => by
    cases d with
    | true =>
      unfold compC at hk
      dsimp only at hk
      split at hk
      · rename_i hchk
        obtain ⟨E', s', k0, hgo, hs', hk⟩ := compDraw_ok hC (lT := []) hs (fun p hp => by simp at hp) hk
        refine ⟨.normal, s', E', Runs.of_next (k0 := k0) fun k hkk => ?_, hs', hk⟩
        show adraw P (callBy P G (exec P G k)) lim ops ⟨ET, h⟩ = _
        unfold adraw
        dsimp only
        rw [hchk]
        exact hgo k hkk
      · cases hk
    | false =>
      obtain ⟨g1, g2⟩ := groups_ok ops.toList
      obtain ⟨E', s', hr, hs', hk⟩ := compGs_ok hC g2 hs (show compGs P (theOps P) C lim ops n (groups ops.toList) E h (fun E' h' => K .normal E' h') = true from hk)
      rw [g1] at hr
      exact ⟨.normal, s', E', Runs.region hr, hs', hk⟩
  | .seq a b, n, x, E, ET, h, K, hs, hk => by
    unfold compC at hk
    split at hk
    · obtain ⟨e, s1, E1, hr1, hs1, hk⟩ := compC_ok hC a hs hk
      cases e with
      | normal =>
        obtain ⟨e2, s2, E2, hr2, hs2, hk⟩ := compC_ok hC b hs1 (show compC P (theOps P) C lim b n x E1 s1.h K = true from hk)
        exact ⟨e2, s2, E2, Runs.seq hr1 hr2, hs2, hk⟩
      | exit id => exact ⟨_, s1, E1, Runs.seq_out (by intro e; cases e) hr1, hs1, hk⟩
      | ret => exact ⟨_, s1, E1, Runs.seq_out (by intro e; cases e) hr1, hs1, hk⟩
    · dsimp only at hk
      generalize bitsL (Nat.land (maskL (asgL a)) (ueC b n x)) lim [] = js at hk
      obtain ⟨e, s1, E1, hr1, hs1, hk⟩ := compC_ok hC a hs hk
      cases e with
      | normal =>
        obtain ⟨vs, hl, hgs, hk⟩ := getsK_ok (show getsK E1 js _ = true from hk)
        have hk := app_lam_true hk
        obtain ⟨E2, hs2, hk⟩ := rebind_ok (ET' := s1.E) hs (fun u hu => hr1.frame u hu) (fun i u v p q => hs1 u v (hgs i u v p q)) hk
        obtain ⟨e3, s3, E3, hr3, hs3, hk⟩ := compC_ok hC b hs2 hk
        exact ⟨e3, s3, E3, Runs.seq hr1 hr3, hs3, hk⟩
      | exit id => exact ⟨_, s1, E1, Runs.seq_out (by intro e; cases e) hr1, hs1, hk⟩
      | ret => exact ⟨_, s1, E1, Runs.seq_out (by intro e; cases e) hr1, hs1, hk⟩
  | .cond c a b, n, x, E, ET, h, K, hs, hk => by
    obtain ⟨v, hv, hk⟩ := evK_ok hs (show evK P (theOps P) E h c (fun v => brK v _ _) = true from hk)
    rcases brK_ok hk with ⟨e, hk⟩ | ⟨e, hk⟩
    · subst e
      obtain ⟨e1, s1, E1, hr1, hs1, hk⟩ := compC_ok hC a hs hk
      exact ⟨e1, s1, E1, Runs.cond (t := true) hv hr1, hs1, hk⟩
    · subst e
      obtain ⟨e1, s1, E1, hr1, hs1, hk⟩ := compC_ok hC b hs hk
      exact ⟨e1, s1, E1, Runs.cond (t := false) hv hr1, hs1, hk⟩
  | .block id b, n, x, E, ET, h, K, hs, hk => by
    unfold compC at hk
    dsimp only at hk
    generalize bitsL (Nat.land (maskL (asgL b)) n) lim [] = js at hk
    obtain ⟨e, s1, E1, hr1, hs1, hk⟩ := compC_ok hC b hs hk
    have fin : ∀ {Kb : List Value → Bool}, getsK E1 js Kb = true → (∀ vs, Kb vs = true → app noH js.length (lam js.length fun vs h' => delK E (asgL b) fun E1 => setsK E1 js vs fun E2 => K .normal E2 h') vs s1.h = true) → Runs P G lim (.block id b) ⟨ET, h⟩ .normal s1 → Then P G lim (.block id b) ⟨ET, h⟩ K := by
      intro Kb hg hkb hr
      obtain ⟨vs, hl, hgs, hk⟩ := getsK_ok hg
      have hk := app_lam_true (hkb vs hk)
      obtain ⟨E2, hs2, hk⟩ := rebind_ok (ET' := s1.E) hs (fun u hu => hr1.frame u hu) (fun i u v p q => hs1 u v (hgs i u v p q)) hk
      exact ⟨.normal, s1, E2, hr, hs2, hk⟩
    have hrb := Runs.block (id := id) hr1
    cases e with
    | normal => exact fin (show getsK E1 js _ = true from hk) (fun vs hv => hv) hrb
    | ret => exact ⟨.ret, s1, E1, hrb, hs1, hk⟩
    | exit id' =>
      have hk' : (match Nat.beq id' id with | true => getsK E1 js _ | false => K (.exit id') E1 s1.h) = true := hk
      split at hk'
      · rename_i hb
        rw [Nat.beq_eq] at hb
        refine fin hk' (fun vs hv => hv) ?_
        simpa only [toE, inBlk, hb, if_true] using hrb
      · rename_i hb
        have hne : id' ≠ id := fun e => by rw [e, Nat.beq_refl] at hb; cases hb
        refine ⟨.exit id', s1, E1, ?_, hs1, hk'⟩
        simpa only [toE, inBlk, hne, if_false] using hrb
  | .loop b, n, x, E, ET, h, K, hs, hk => by
    unfold compC at hk
    dsimp only at hk
    generalize bitsL (Nat.land (maskL (asgL b)) (ueC b 0 x)) lim [] = js at hk
    obtain ⟨vs, hl, hgs, hk⟩ := getsK_ok hk
    have key : ∀ (k : Nat) (vs : List Value) (ET1 : Tr Value) (h1 : Hp), (∀ (i t : Nat) (v : Value), js[i]? = some t → vs[i]? = some v → ET1.get t = some v) → (∀ t, t ∉ asgL b → ET1.get t = ET.get t) →
        app noH js.length (loopG js.length (fun ih => lam js.length fun vs h => delK E (asgL b) fun E1 => setsK E1 js vs fun E2 => compC P (theOps P) C lim b (ueC b 0 x) x E2 h (seqK (fun E' h' => getsK E' js fun vs => app noH js.length ih vs h') K)) k) vs h1 = true →
        Then P G lim (.loop b) ⟨ET1, h1⟩ K := by
      intro k
      induction k with
      | zero =>
        intro vs ET1 h1 hj hf hk
        have := app_lam_true (f := fun _ => noH) hk
        cases this
      | succ k ih =>
        intro vs ET1 h1 hj hf hk
        have hk := app_lam_true hk
        obtain ⟨E2, hs2, hk⟩ := rebind_ok (ET' := ET1) hs hf hj hk
        obtain ⟨e, s1, E1, hr1, hs1, hk⟩ := compC_ok hC b hs2 hk
        cases e with
        | normal =>
          obtain ⟨us, hl, hgs, hk⟩ := getsK_ok (show getsK E1 js _ = true from hk)
          obtain ⟨e2, s2, E3, hr2, hs3, hk⟩ := ih us s1.E s1.h (fun i t v p q => hs1 t v (hgs i t v p q)) (fun t ht => by rw [hr1.frame t ht]; exact hf t ht) hk
          exact ⟨e2, s2, E3, Runs.loop hr1 hr2, hs3, hk⟩
        | exit id => exact ⟨_, s1, E1, Runs.loop_out (by intro e; cases e) hr1, hs1, hk⟩
        | ret => exact ⟨_, s1, E1, Runs.loop_out (by intro e; cases e) hr1, hs1, hk⟩
    exact key fuel vs ET h (fun i t v p q => hs t v (hgs i t v p q)) (fun _ _ => rfl) hk
  | .rangeFunc _ _ _ _, n, x, E, ET, h, K, hs, hk => by cases hk
  | .scope _, n, x, E, ET, h, K, hs, hk => by cases hk
  | .goto _, n, x, E, ET, h, K, hs, hk => by cases hk
  | .refuse _, n, x, E, ET, h, K, hs, hk => by cases hk

/-! ### Functions -/
theorem argsK_eq : ∀ (vs : List Value) (E : SE) (i : Nat) (K : SE → Bool), argsK E i vs K = K (args0 vs i E)
  | [], E, i, K => rfl
  | v :: vs, E, i, K => by
    show E.setK i (some v) (fun E' => argsK E' (i + 1) vs K) = _
    rw [Tr.setK_eq, argsK_eq vs]
    rfl
theorem resK_ok {E : Tr Value} {s : ASt} (hs : SubE E s.E) : ∀ {rs : List ResultVar} {K : List Value → Bool}, resK P (theOps P) E s.h rs K = true → ∃ vs, ares P s rs = some vs ∧ K vs = true
  | [], K, hk => ⟨[], rfl, hk⟩
  | .tmp t :: r, K, hk => by
    obtain ⟨v, hv, hk⟩ := okB_ok hk
    obtain ⟨vs, hvs, hk⟩ := resK_ok hs hk
    exact ⟨v :: vs, by simp only [ares, hvs, hs t v hv], hk⟩
  | .cell a t :: r, K, hk => by
    obtain ⟨p, hp, hk⟩ := okB_ok hk
    obtain ⟨v, hv, hk⟩ := loadC_ok hk
    obtain ⟨vs, hvs, hk⟩ := resK_ok hs hk
    exact ⟨v :: vs, by simp only [ares, hvs, hs a p hp, hv], hk⟩
theorem fnOf_ok {C : Callees} (hC : COk P G C) {f n : Nat} {fd : Func} {c : Code} (hfd : P.funcs[f]? = some fd) (hb : fd.body = some c) (hG : G f = none) {args : List Value} {h : Hp} {K : KVH} (hk : app noF n (fnOf P (theOps P) C n fd c) args h K = true) :
    ∃ v h', CallsTo P G f args h v h' ∧ K v h' = true := by
  unfold fnOf at hk
  rcases app_lam noF n (fun vs h kr => argsK (.full (Nat.succ (Nat.log2 fd.ntmps))) 0 vs fun E => compC P (theOps P) C fd.ntmps c (maskR fd.results.toList) (maskR fd.results.toList) E h (retK P (theOps P) fd kr)) args with e | e
  · rw [e] at hk
    dsimp only at hk
    rw [argsK_eq] at hk
    obtain ⟨ex, s', E', ⟨k0, hr⟩, hs', hk⟩ := compC_ok hC c (ET := args0 args 0 (.full (Nat.succ (Nat.log2 fd.ntmps)))) (fun _ _ h => h) hk
    have fin : (resK P (theOps P) E' s'.h fd.results.toList fun vs => tupK vs fun v => K v s'.h) = true → ∃ v, aresults P fd s' = some v ∧ K v s'.h = true := by
      intro hk
      obtain ⟨vs, hvs, hk⟩ := resK_ok hs' hk
      unfold tupK at hk
      split at hk
      · exact ⟨_, by simp only [aresults, hvs], hk⟩
      · rename_i us hne
        refine ⟨.tuple ⟨vs⟩, ?_, hk⟩
        simp only [aresults, hvs]
    have call : ∀ v, aresults P fd s' = some v → (toE ex = .normal ∨ toE ex = .ret) → CallsTo P G f args h v s'.h := by
      intro v hv he
      refine ⟨k0, fun k hk => ?_⟩
      unfold Abs.call callBy
      rw [hG]
      dsimp only
      rw [hfd]
      dsimp only
      rw [hb]
      dsimp only
      rw [hr k hk]
      rcases he with he | he
      · rw [he]
        dsimp only
        rw [hv]
      · rw [he]
        dsimp only
        rw [hv]
    cases ex with
    | normal =>
      obtain ⟨v, hv, hk⟩ := fin hk
      exact ⟨v, s'.h, call v hv (.inl rfl), hk⟩
    | ret =>
      obtain ⟨v, hv, hk⟩ := fin hk
      exact ⟨v, s'.h, call v hv (.inr rfl), hk⟩
    | exit id => cases hk
  · rw [e] at hk; cases hk

/-! ### The functions tied to one another -/
/-- A function, and how many values it takes. -/
structure Ent where
  n : Nat
  F : Callees → FnT n
def EntOk (P : Program) (G : GivenT) (g : Nat) (e : Ent) : Prop := ∀ C, COk P G C → ∀ args h K, app noF e.n (e.F C) args h K = true → ∃ v h', CallsTo P G g args h v h' ∧ K v h' = true
noncomputable def entAt (T : Tr Ent) (C : Callees) : Callees := fun g n =>
  match T.get g with
  | some e => if h : e.n = n then h ▸ e.F C else lam n fun _ => noF
  | none => lam n fun _ => noF
noncomputable def knot (T : Tr Ent) (k : Nat) : Callees := Nat.rec (motive := fun _ => Callees) (fun _ n => lam n fun _ => noF) (fun _ C => entAt T C) k
def TabOk (P : Program) (G : GivenT) (T : Tr Ent) : Prop := ∀ g e, T.get g = some e → EntOk P G g e
theorem TabOk.nil : TabOk P G .nil := fun g e h => by cases h
theorem TabOk.add {T : Tr Ent} (hT : TabOk P G T) {g : Nat} {e : Ent} (he : EntOk P G g e) : TabOk P G (T.set g (some e)) := by
  intro u d hu
  rw [Tr.get_set] at hu
  split at hu
  · rename_i hug
    cases hu
    rw [hug]; exact he
  · exact hT u d hu
theorem noF_not {n : Nat} {args : List Value} {h : Hp} {K : KVH} (hk : app noF n (lam n fun _ => noF) args h K = true) : False := by
  rcases app_lam noF n (fun _ => noF) args with e | e
  · rw [e] at hk; cases hk
  · rw [e] at hk; cases hk
theorem knot_ok {T : Tr Ent} (hT : TabOk P G T) : ∀ k, COk P G (knot T k)
  | 0 => fun g n vs h K hk => (noF_not hk).elim
  | k + 1 => fun g n vs h K hk => by
    have hk' : app noF n (entAt T (knot T k) g n) vs h K = true := hk
    unfold entAt at hk'
    split at hk'
    · rename_i e he
      split at hk'
      · rename_i hn
        subst hn
        exact hT g e he _ (knot_ok hT k) vs h K hk'
      · exact (noF_not hk').elim
    · exact (noF_not hk').elim
theorem ent_of_fn {f n : Nat} {fd : Func} {c : Code} {F : Ops → Callees → FnT n} (he : ∀ R C, F R C = fnOf P R C n fd c) (hfd : P.funcs[f]? = some fd) (hb : fd.body = some c) (hG : G f = none) : EntOk P G f ⟨n, F (theOps P)⟩ :=
  fun C hC args h K hk => fnOf_ok hC hfd hb hG (by rw [← he]; exact hk)
/-- What the tied functions say of a call, the engine says. -/
theorem call_of_knot {T : Tr Ent} (hT : TabOk P G T) {k f n : Nat} {args : List Value} {h : Hp} {K : KVH} (hk : app noF n (knot T k f n) args h K = true) : ∃ v h' j, call P G j f args h = some (.ret v, h') ∧ K v h' = true := by
  obtain ⟨v, h', ⟨k0, hc⟩, hk⟩ := knot_ok hT k f n args h K hk
  exact ⟨v, h', k0, hc k0 (Nat.le_refl _), hk⟩
end
end Go.Proofs.YtoemgehbpamklaaDoor.Abs
end
