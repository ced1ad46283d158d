/- The engine, part 13: what the walk says of code and of calls is what the program does. -/
import Derived.Test.YtfmppmabnpkooaaDoorAbsB
set_option autoImplicit false
set_option linter.unusedSimpArgs false
set_option linter.unusedVariables false
namespace Go.Proofs.YtfmppmabnpkooaaDoor.Abs
open Go Go.RowKit

section
variable {P : Program}

theorem args0_get : ∀ (vs : List Value) (i : Nat) (E : Tr Value) (t : Nat), (args0 vs i E).get t = if i ≤ t ∧ t < i + vs.length then vs[t - i]? else E.get t
  | [], i, E, t => by rw [if_neg (by rw [List.length_nil]; omega)]; rfl
  | v :: vs, i, E, t => by
    rw [args0, args0_get vs (i + 1) _ t, Tr.get_set]
    simp only [List.length_cons]
    by_cases h0 : t = i
    · subst h0
      rw [if_neg (by omega), if_pos rfl, if_pos (by omega), Nat.sub_self]
      rfl
    · by_cases h1 : i + 1 ≤ t ∧ t < i + 1 + vs.length
      · rw [if_pos h1, if_pos (by omega), show t - i = (t - (i + 1)) + 1 by omega, List.getElem?_cons_succ]
      · rw [if_neg h1, if_neg h0, if_neg (by omega)]

theorem args0_rel {ι : Nat → Option Loc} {vs vs' : List Value} (h : LRel ι vs vs') (n d : Nat) : EnvRel ι (args0 vs 0 (.full d)) (vs'.toArray ++ Array.replicate (n - vs'.toArray.size) undef) := by
  intro t
  rw [args0_get, Array.getD_eq_getD_getElem?]
  by_cases ht : t < vs.length
  · rw [if_pos (by omega), Nat.sub_zero]
    obtain ⟨v', h1, h2⟩ := h.get (i := t) (x := vs[t]) (List.getElem?_eq_getElem ht)
    rw [List.getElem?_eq_getElem ht, Option.getD_some]
    rw [Array.getElem?_append_left (by rw [List.size_toArray, ← h.length]; exact ht), List.getElem?_toArray, h1]
    exact h2
  · rw [if_neg (by omega), Tr.full_get]
    rw [Array.getElem?_append_right (by rw [List.size_toArray, ← h.length]; omega)]
    have : ((Array.replicate (n - vs'.toArray.size) undef)[t - vs'.toArray.size]?).getD undef = undef := by
      rw [Array.getElem?_replicate]
      split <;> rfl
    rw [this]
    exact undef_rel

noncomputable def resOf (tmps : Array Value) : ResultVar → Sem Value
  | .tmp t => pure (tmps.getD t undef)
  | .cell a t => do loadVar t (← asAddr (tmps.getD a undef))
theorem results_eq (fd : Func) (tmps : Array Value) : results fd tmps = (do let vs ← fd.results.mapM (resOf tmps); pure (if h : vs.size = 1 then vs[0] else .tuple vs)) := by
  have : (fun x : ResultVar => match x with
    | .tmp t => (pure (tmps.getD t undef) : Sem Value)
    | .cell a t => do loadVar t (← asAddr (tmps.getD a undef))) = resOf tmps := funext fun x => by cases x <;> rfl
  rw [← this]
  rfl
theorem ares_ok {base : Nat} {w0 : Start} {ι : Nat → Option Loc} {w : World} {s : ASt} {tmps : Array Value} (hI : Inv P base w0 ι s.h.t.get w) (hE : EnvRel ι s.E tmps) : ∀ {l : List ResultVar} {vs : List Value}, ares P s l = some vs →
    ∃ vs', (l.mapM (resOf tmps)).run P w = .ok vs' w ∧ LRel ι vs vs'
  | [], vs, h => by cases h; exact ⟨[], by simp, trivial⟩
  | .tmp t :: r, vs, h => by
    unfold ares at h
    split at h
    · rename_i us hus
      cases h
      obtain ⟨vs', h1, h2⟩ := ares_ok hI hE hus
      refine ⟨tmps.getD t undef :: vs', ?_, ?_, h2⟩
      · rw [List.mapM_cons]
        simp only [resOf, Sem.run_bind, Sem.run_pure, Result.andThen_ok, h1]
      · have := hE t
        cases hg : s.E.get t with
        | none => rw [hg] at this; exact this
        | some v => rw [hg] at this; exact this
    · cases h
  | .cell a t :: r, vs, h => by
    unfold ares at h
    split at h
    · rename_i u us hu hus
      cases h
      obtain ⟨vs', h1, h2⟩ := ares_ok hI hE hus
      have hr : VRel ι (match s.E.get a with | some v => v | none => undef) (tmps.getD a undef) := by
        have := hE a
        cases hg : s.E.get a with
        | none => rw [hg] at this; exact this
        | some v => rw [hg] at this; exact this
      obtain ⟨v', h3, h4⟩ := aload_ok hI hr hu
      refine ⟨v' :: vs', ?_, h4, h2⟩
      rw [List.mapM_cons]
      have h5 : (resOf tmps (.cell a t)).run P w = .ok v' w := by
        show (do loadVar t (← asAddr (tmps.getD a undef)) : Sem Value).run P w = .ok v' w
        generalize tmps.getD a undef = q at hr h3
        simp only [Instr.loadAt, Sem.run_bind] at h3 ⊢
        obtain ⟨q0, hq0⟩ : ∃ q0, (match s.E.get a with | some v => v | none => undef) = q0 := ⟨_, rfl⟩
        have hu : aload P t s.h q0 = some u := by rw [← hq0]; exact hu
        rw [hq0] at hr
        cases hr with
        | ptr => exact h3
        | _ => cases hu
      rw [Sem.run_bind, h5]
      simp only [Sem.run_bind, Result.andThen_ok, h1, Sem.run_pure]
    · cases h

theorem aresults_ok {base : Nat} {w0 : Start} {ι : Nat → Option Loc} {w : World} {s : ASt} {fd : Func} {tmps : Array Value} {v : Value} (hI : Inv P base w0 ι s.h.t.get w) (hE : EnvRel ι s.E tmps) (h : aresults P fd s = some v) :
    ∃ v', (results fd tmps).run P w = .ok v' w ∧ VRel ι v v' := by
  unfold aresults at h
  have key : ∀ vs, ares P s fd.results.toList = some vs → ∃ vs', (results fd tmps).run P w = .ok (if h : vs'.toArray.size = 1 then vs'.toArray[0] else .tuple vs'.toArray) w ∧ LRel ι vs vs' := by
    intro vs hvs
    obtain ⟨vs', h1, h2⟩ := ares_ok hI hE hvs
    refine ⟨vs', ?_, h2⟩
    rw [results_eq, Sem.run_bind, Array.mapM_eq_mapM_toList, Sem.run_map, h1]
    rfl
  split at h
  · rename_i u hu
    cases h
    obtain ⟨vs', h1, h2⟩ := key _ hu
    match vs', h2 with
    | [u'], ⟨h3, _⟩ => exact ⟨u', h1, h3⟩
  · rename_i vs hne hvs
    cases h
    obtain ⟨vs', h1, h2⟩ := key _ hvs
    have hl := h2.length
    rw [dif_neg (by
      rw [List.size_toArray, ← hl]
      intro e
      match vs, e with
      | [x], _ => exact hne x rfl)] at h1
    have := h2.arr
    exact ⟨_, h1, .tuple _ _ this.1 this.2⟩
  · cases h

/-- What is given is so. -/
def GivenOk (P : Program) (base : Nat) (w0 : Start) (G : FuncId → Option (List Value → Hp → Option (CRet × Hp))) : Prop := ∀ f g, G f = some g → ∀ args h r h', g args h = some (r, h') → h.n ≤ h'.n ∧
  ∀ ι w args', Inv P base w0 ι h.t.get w → LRel ι args args' → P.globals.size ≤ h.n → (∀ id, h.n ≤ id → id < h'.n → ι id = none) → Calls P f args'.toArray w (CallRel P base w0 ι h r h')

/-- What is said of code is so. -/
def ExOk (P : Program) (base : Nat) (w0 : Start) (ex : Nat → Code → ASt → Option (AExit × ASt)) : Prop := ∀ lim c s e s', ex lim c s = some (e, s') → s.h.n ≤ s'.h.n ∧
  ∀ ι a w, Inv P base w0 ι s.h.t.get w → EnvRel ι s.E a.tmps → lim ≤ a.tmps.size → P.globals.size ≤ s.h.n → (∀ id, s.h.n ≤ id → id < s'.h.n → ι id = none) → c.wp P (Post P base w0 ι lim s a e s') a w

theorem callBy_ok {base : Nat} {w0 : Start} {G : FuncId → Option (List Value → Hp → Option (CRet × Hp))} {ex : Nat → Code → ASt → Option (AExit × ASt)} (hG : GivenOk P base w0 G) (hex : ExOk P base w0 ex) : CallOk P base w0 (callBy P G ex) := by
  intro f args h r h' hc
  unfold callBy at hc
  split at hc
  · rename_i g hg
    exact hG f g hg args h r h' hc
  · split at hc
    rotate_left
    · cases hc
    rename_i fd hfd
    split at hc
    rotate_left
    · cases hc
    rename_i c hbody
    have body : ∀ (e : AExit) (s : ASt), ex fd.ntmps c ⟨args0 args 0 (.full (Nat.succ (Nat.log2 fd.ntmps))), h⟩ = some (e, s) → h.n ≤ s.h.n ∧ ∀ ι w args', Inv P base w0 ι h.t.get w → LRel ι args args' → P.globals.size ≤ h.n → (∀ id, h.n ≤ id → id < s.h.n → ι id = none) →
        c.wp P (Post P base w0 ι fd.ntmps ⟨args0 args 0 (.full (Nat.succ (Nat.log2 fd.ntmps))), h⟩ { tmps := args'.toArray ++ Array.replicate (fd.ntmps - args'.toArray.size) undef, defers := [] } e s) { tmps := args'.toArray ++ Array.replicate (fd.ntmps - args'.toArray.size) undef, defers := [] } w := by
      intro e s he
      obtain ⟨h1, h2⟩ := hex _ _ _ _ _ he
      refine ⟨h1, fun ι w args' hI hr hg hf => ?_⟩
      exact h2 ι _ w hI (args0_rel hr _ _) (by simp; omega) hg hf
    have fin : ∀ (e : AExit) (s : ASt) (v : Value), (e = .normal ∨ e = .ret) → ex fd.ntmps c ⟨args0 args 0 (.full (Nat.succ (Nat.log2 fd.ntmps))), h⟩ = some (e, s) → aresults P fd s = some v → (CRet.ret v, s.h) = (r, h') → h.n ≤ h'.n ∧
        ∀ ι w args', Inv P base w0 ι h.t.get w → LRel ι args args' → P.globals.size ≤ h.n → (∀ id, h.n ≤ id → id < h'.n → ι id = none) → Calls P f args'.toArray w (CallRel P base w0 ι h r h') := by
      intro e s v hen he hv hq
      cases hq
      obtain ⟨h1, h2⟩ := body e s he
      refine ⟨h1, fun ι w args' hI hr hg hf => ?_⟩
      refine calls_of_wp hfd hbody (wp_mono (h2 ι w args' hI hr hg hf) fun e' a' w' hp => ?_)
      obtain ⟨ι', t, hI', hE', hl', hd', hx⟩ := hp
      obtain ⟨v', r1, r2⟩ := aresults_ok hI' hE' hv
      rcases hen with rfl | rfl
      · subst hx
        exact ⟨hd', v', r1, ι', t, hI', v', rfl, r2⟩
      · subst hx
        exact ⟨hd', v', r1, ι', t, hI', v', rfl, r2⟩
    split at hc
    · rename_i s he
      split at hc
      · rename_i v hv
        exact fin _ s v (.inl rfl) he hv (Option.some.inj hc)
      · cases hc
    · rename_i s he
      split at hc
      · rename_i v hv
        exact fin _ s v (.inr rfl) he hv (Option.some.inj hc)
      · cases hc
    · rename_i v s he
      cases hc
      obtain ⟨h1, h2⟩ := body _ s he
      refine ⟨h1, fun ι w args' hI hr hg hf => ?_⟩
      refine calls_of_wp hfd hbody (wp_mono (h2 ι w args' hI hr hg hf) fun e' a' w' hp => ?_)
      obtain ⟨ι', t, hI', hE', hl', hd', v', rfl, hx⟩ := hp
      exact ⟨hd', ι', t, hI', v', rfl, hx⟩
    · cases hc

theorem list_range_map (ops : Array Oper) : (List.range ops.size).map (ops[·]?) = ops.toList.map some := by
  apply List.ext_getElem?
  intro i
  simp only [List.getElem?_map]
  by_cases h : i < ops.size
  · simp [List.getElem?_range h, Array.getElem?_eq_getElem h]
  · rw [List.getElem?_eq_none (by simpa using h), Array.getElem?_toList, Array.getElem?_eq_none (by omega)]
    rfl

/-- What is said of a region whose order is open is so. -/
def DrawOk (P : Program) (base : Nat) (w0 : Start) : Prop := ∀ cf lim ops s e s', CallOk P base w0 cf → adraw P cf lim ops s = some (e, s') → s.h.n ≤ s'.h.n ∧
  ∀ id ι a w, Inv P base w0 ι s.h.t.get w → EnvRel ι s.E a.tmps → lim ≤ a.tmps.size → P.globals.size ≤ s.h.n → (∀ id, s.h.n ≤ id → id < s'.h.n → ι id = none) → (Code.region id ops true).wp P (Post P base w0 ι lim s a e s') a w

/-- A loop, from where a round has ended. -/
def LoopFrom (P : Program) (c : Code) (Q : Exit → Act → World → Prop) (a : Act) (w : World) : Prop :=
  ∀ (b : Frame) (k : List Item) (cs : List Frame), ∃ e a' w', Q e a' w' ∧ Arrives P (lone (b.at a (.code c :: .inLoop c :: k)) cs w) b k cs e a' w'
theorem LoopFrom.wp {c : Code} {Q : Exit → Act → World → Prop} {a : Act} {w : World} (h : LoopFrom P c Q a w) : (Code.loop c).wp P Q a w := fun b k cs =>
  let ⟨e, a', w', hq, harr⟩ := h b k cs
  ⟨e, a', w', hq, .of_steps (.one step_loop) harr⟩
theorem LoopFrom.round {c : Code} {Q : Exit → Act → World → Prop} {a : Act} {w : World} (h : c.wp P (Exit.then (LoopFrom P c Q) Q) a w) : LoopFrom P c Q a w := by
  intro b k cs
  obtain ⟨e, a₁, w₁, hq, harr⟩ := h b (.inLoop c :: k) cs
  cases e with
  | normal =>
    obtain ⟨e₂, a₂, w₂, hq₂, harr₂⟩ := hq b k cs
    exact ⟨e₂, a₂, w₂, hq₂, .of_steps (Steps.trans harr (.one step_inLoop)) harr₂⟩
  | exit id => exact ⟨_, a₁, w₁, hq, .pass (x := .inLoop c) rfl (fun _ _ => .inl (by simp)) harr⟩
  | goto l => exact ⟨_, a₁, w₁, hq, .pass (x := .inLoop c) rfl (fun _ _ => .inl (by simp)) harr⟩
  | ret => exact ⟨_, a₁, w₁, hq, .pass (x := .inLoop c) rfl (fun _ _ => .inl (by simp)) harr⟩
  | panic ch => exact ⟨_, a₁, w₁, hq, .pass (x := .inLoop c) rfl (fun _ _ => .inl (by simp)) harr⟩
  | outgrown => exact ⟨_, a₁, w₁, hq, .pass (x := .inLoop c) rfl (fun _ _ => .inl (by simp)) harr⟩

/-- What is said of loops is so. -/
def LoopOk (P : Program) (base : Nat) (w0 : Start) (ex : Nat → Code → ASt → Option (AExit × ASt)) : Prop := ∀ lim b s e s', ex lim (.loop b) s = some (e, s') → s.h.n ≤ s'.h.n ∧
  ∀ ι a w, Inv P base w0 ι s.h.t.get w → EnvRel ι s.E a.tmps → lim ≤ a.tmps.size → P.globals.size ≤ s.h.n → (∀ id, s.h.n ≤ id → id < s'.h.n → ι id = none) → LoopFrom P b (Post P base w0 ι lim s a e s') a w

theorem exec_ok {base : Nat} {w0 : Start} (hP : noNG P = true) (hD : DrawOk P base w0) {G : FuncId → Option (List Value → Hp → Option (CRet × Hp))} (hG : GivenOk P base w0 G) : ∀ k, ExOk P base w0 (exec P G k) ∧ LoopOk P base w0 (exec P G k)
  | 0 => ⟨fun _ _ _ _ _ h => (by cases h), fun _ _ _ _ _ h => (by cases h)⟩
  | k + 1 => by
    obtain ⟨ih, ihl⟩ := exec_ok hP hD hG k
    have hcf := callBy_ok hG ih
    have hloop : LoopOk P base w0 (exec P G (k + 1)) := by
      intro lim b s e s' h
      have h' : (match exec P G k lim b s with | some (.normal, s') => exec P G k lim (.loop b) s' | r => r) = some (e, s') := h
      split at h'
      · rename_i s1 hx
        obtain ⟨h1, h2⟩ := ih _ _ _ _ _ hx
        obtain ⟨h3, h4⟩ := ihl _ _ _ _ _ h'
        refine ⟨Nat.le_trans h1 h3, fun ι a w hI hE hl hg hf => LoopFrom.round (wp_mono (h2 ι a w hI hE hl hg (fun id p q => hf id p (Nat.lt_of_lt_of_le q h3))) fun e1 a1 w1 hp => ?_)⟩
        obtain ⟨ι1, t, hI1, hE1, hl1, hd1, hx1⟩ := hp
        subst hx1
        intro fb fk fcs
        obtain ⟨e2, a2, w2, q2, r2⟩ := h4 ι1 a1 w1 hI1 hE1 hl1 (Nat.le_trans hg h1) (t.fresh hf) fb fk fcs
        exact ⟨e2, a2, w2, Post.after t hd1 q2, r2⟩
      · rename_i r hne
        obtain ⟨h1, h2⟩ := ih _ _ _ _ _ h'
        refine ⟨h1, fun ι a w hI hE hl hg hf => LoopFrom.round (wp_mono (h2 ι a w hI hE hl hg hf) fun e1 a1 w1 hp => ?_)⟩
        have hen : e1 ≠ .normal := by
          rintro rfl
          obtain ⟨ι1, t, hI1, hE1, hl1, hd1, hx1⟩ := hp
          cases e with
          | normal => exact hne s' h'
          | exit id => cases hx1
          | ret => cases hx1
          | pan v => obtain ⟨v', hx1, _⟩ := hx1; cases hx1
        cases e1 <;> first | exact hp | exact absurd rfl hen
    refine ⟨?_, hloop⟩
    intro lim c s e s' h
    cases c with
    | skip => cases h; exact ⟨Nat.le_refl _, fun ι a w hI hE hl hg hf => wp_skip ⟨ι, Turn.refl _ _ _, hI, hE, hl, rfl, rfl⟩⟩
    | label l => cases h; exact ⟨Nat.le_refl _, fun ι a w hI hE hl hg hf => wp_label ⟨ι, Turn.refl _ _ _, hI, hE, hl, rfl, rfl⟩⟩
    | exit id => cases h; exact ⟨Nat.le_refl _, fun ι a w hI hE hl hg hf => wp_exit ⟨ι, Turn.refl _ _ _, hI, hE, hl, rfl, rfl⟩⟩
    | ret => cases h; exact ⟨Nat.le_refl _, fun ι a w hI hE hl hg hf => wp_ret ⟨ι, Turn.refl _ _ _, hI, hE, hl, rfl, rfl⟩⟩
    | region id ops d =>
      cases d with
      | false =>
        have h' : aops P (callBy P G (exec P G k)) lim ops ops.toList s = some (e, s') := h
        exact ⟨aops_n hcf h', fun ι a w hI hE hl hg hf => wp_region (aops_ok hP hcf (list_range_map ops) h' hI hE hl hg hf)⟩
      | true =>
        have h' : adraw P (callBy P G (exec P G k)) lim ops s = some (e, s') := h
        obtain ⟨h1, h2⟩ := hD _ _ _ _ _ _ hcf h'
        exact ⟨h1, fun ι a w hI hE hl hg hf => h2 id ι a w hI hE hl hg hf⟩
    | seq x y =>
      have h' : (match exec P G k lim x s with | some (.normal, s') => exec P G k lim y s' | r => r) = some (e, s') := h
      split at h'
      · rename_i s1 hx
        obtain ⟨h1, h2⟩ := ih _ _ _ _ _ hx
        obtain ⟨h3, h4⟩ := ih _ _ _ _ _ h'
        refine ⟨Nat.le_trans h1 h3, fun ι a w hI hE hl hg hf => wp_seq (wp_mono (h2 ι a w hI hE hl hg (fun id p q => hf id p (Nat.lt_of_lt_of_le q h3))) fun e1 a1 w1 hp => ?_)⟩
        obtain ⟨ι1, t, hI1, hE1, hl1, hd1, hx1⟩ := hp
        subst hx1
        exact wp_mono (h4 ι1 a1 w1 hI1 hE1 hl1 (Nat.le_trans hg h1) (t.fresh hf)) fun e2 a2 w2 hp2 => Post.after t hd1 hp2
      · rename_i r hne
        obtain ⟨h1, h2⟩ := ih _ _ _ _ _ h'
        refine ⟨h1, fun ι a w hI hE hl hg hf => wp_seq (wp_mono (h2 ι a w hI hE hl hg hf) fun e1 a1 w1 hp => ?_)⟩
        have hen : e1 ≠ .normal := by
          rintro rfl
          obtain ⟨ι1, t, hI1, hE1, hl1, hd1, hx1⟩ := hp
          cases e with
          | normal => exact hne s' h'
          | exit id => cases hx1
          | ret => cases hx1
          | pan v => obtain ⟨v', hx1, _⟩ := hx1; cases hx1
        cases e1 <;> first | exact hp | exact absurd rfl hen
    | cond c x y =>
      have h' : (match aev P s.E s.h c with | some (.bool true) => exec P G k lim x s | some (.bool false) => exec P G k lim y s | _ => none) = some (e, s') := h
      split at h'
      · rename_i hc
        obtain ⟨h1, h2⟩ := ih _ _ _ _ _ h'
        refine ⟨h1, fun ι a w hI hE hl hg hf => ?_⟩
        have hr := aev_ok hI hE hc
        generalize hq : a.eval c = q at hr
        cases hr
        exact wp_cond_true hq (h2 ι a w hI hE hl hg hf)
      · rename_i hc
        obtain ⟨h1, h2⟩ := ih _ _ _ _ _ h'
        refine ⟨h1, fun ι a w hI hE hl hg hf => ?_⟩
        have hr := aev_ok hI hE hc
        generalize hq : a.eval c = q at hr
        cases hr
        exact wp_cond_false hq (h2 ι a w hI hE hl hg hf)
      · cases h'
    | block id b =>
      have h' : (match exec P G k lim b s with | some (.exit id', s') => if id' = id then some (.normal, s') else some (.exit id', s') | r => r) = some (e, s') := h
      split at h'
      · rename_i id' s1 hb
        obtain ⟨h1, h2⟩ := ih _ _ _ _ _ hb
        split at h'
        · rename_i hid
          cases h'
          refine ⟨h1, fun ι a w hI hE hl hg hf => wp_block (wp_mono (h2 ι a w hI hE hl hg hf) fun e1 a1 w1 hp => ?_)⟩
          obtain ⟨ι1, t, hI1, hE1, hl1, hd1, hx1⟩ := hp
          subst hx1
          simp only [Exit.inBlock, hid, if_true]
          exact ⟨ι1, t, hI1, hE1, hl1, hd1, rfl⟩
        · rename_i hid
          cases h'
          refine ⟨h1, fun ι a w hI hE hl hg hf => wp_block (wp_mono (h2 ι a w hI hE hl hg hf) fun e1 a1 w1 hp => ?_)⟩
          obtain ⟨ι1, t, hI1, hE1, hl1, hd1, hx1⟩ := hp
          subst hx1
          simp only [Exit.inBlock, hid, if_false]
          exact ⟨ι1, t, hI1, hE1, hl1, hd1, rfl⟩
      · rename_i r hne
        obtain ⟨h1, h2⟩ := ih _ _ _ _ _ h'
        refine ⟨h1, fun ι a w hI hE hl hg hf => wp_block (wp_mono (h2 ι a w hI hE hl hg hf) fun e1 a1 w1 hp => ?_)⟩
        cases e1 with
        | exit id' =>
          obtain ⟨ι1, t, hI1, hE1, hl1, hd1, hx1⟩ := hp
          cases e with
          | normal => cases hx1
          | exit id2 => exact absurd h' (hne _ _)
          | ret => cases hx1
          | pan v => obtain ⟨v', hx1, _⟩ := hx1; cases hx1
        | _ => exact hp
    | loop b =>
      obtain ⟨h1, h2⟩ := hloop lim b s e s' h
      exact ⟨h1, fun ι a w hI hE hl hg hf => (h2 ι a w hI hE hl hg hf).wp⟩
    | _ => cases h
end
end Go.Proofs.YtfmppmabnpkooaaDoor.Abs
