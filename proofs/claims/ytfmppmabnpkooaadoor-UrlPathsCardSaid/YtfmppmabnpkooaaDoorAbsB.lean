/- The engine, part 11: operations in a row. -/
import Derived.Test.YtfmppmabnpkooaaDoorAbsA
import Derived.Test.YtfmppmabnpkooaaDoorEngA
set_option autoImplicit false
set_option linter.unusedSimpArgs false
set_option linter.unusedVariables false
namespace Go.Proofs.YtfmppmabnpkooaaDoor.Abs
open Go Go.RowKit

section
variable {P : Program}

noncomputable def CallRel (P : Program) (base : Nat) (w0 : Start) (ι : Nat → Option Loc) (h : Hp) (r : CRet) (h' : Hp) (e : Ending) (w' : World) : Prop :=
  ∃ ι', Turn ι h.n h.t.get ι' h'.n h'.t.get ∧ Inv P base w0 ι' h'.t.get w' ∧
    match r with
    | .ret v => ∃ v', e = .returned v' ∧ VRel ι' v v'
    | .pan v => ∃ v', e = .panicked [{ v := v', recovered := false }] ∧ VRel ι' v v'

/-- What is said of functions is so. -/
noncomputable def CallOk (P : Program) (base : Nat) (w0 : Start) (cf : CallF) : Prop := ∀ f args h r h', cf f args h = some (r, h') → h.n ≤ h'.n ∧
  ∀ ι w args', Inv P base w0 ι h.t.get w → LRel ι args args' → P.globals.size ≤ h.n → (∀ id, h.n ≤ id → id < h'.n → ι id = none) → Calls P f args'.toArray w (CallRel P base w0 ι h r h')

theorem ARel.list {ι : Nat → Option Loc} : ∀ {a b : Array Value}, ARel ι a b → LRel ι a.toList b.toList := by
  have key : ∀ (a b : List Value), a.length = b.length → (∀ (j : Nat) (c : Value), a[j]? = some c → ∃ v, b[j]? = some v ∧ VRel ι c v) → LRel ι a b := by
    intro a
    induction a with
    | nil => intro b hl _; cases b with
      | nil => trivial
      | cons => simp at hl
    | cons y ys ih =>
      intro b hl hr
      cases b with
      | nil => simp at hl
      | cons z zs =>
      obtain ⟨v, hv, hyz⟩ := hr 0 y rfl
      simp at hv
      subst hv
      exact ⟨hyz, ih zs (by simpa using hl) (fun j c hj => by simpa using hr (j + 1) c (by simpa using hj))⟩
  intro a b h
  exact key _ _ (by simp [h.1]) (fun j c hj => by rw [Array.getElem?_toList] at hj ⊢; exact h.get hj)
theorem rvh_n {h : Hp} {x : Option (Value × Hp)} {v : Value} {h' : Hp} (hx : ∀ v h', x = some (v, h') → h.n ≤ h'.n) (ha : rvh x = some (.val v h')) : h.n ≤ h'.n := by
  unfold rvh at ha
  split at ha
  · cases ha; exact hx _ _ rfl
  · cases ha
theorem rv_n {h : Hp} {x : Option Value} {v : Value} {h' : Hp} (ha : rv h x = some (.val v h')) : h.n ≤ h'.n := by
  unfold rv at ha
  split at ha
  · cases ha; exact Nat.le_refl _
  · cases ha
theorem rh_n {h : Hp} {x : Option Hp} {v : Value} {h' : Hp} (hx : ∀ h', x = some h' → h.n ≤ h'.n) (ha : rh x = some (.val v h')) : h.n ≤ h'.n := by
  unfold rh at ha
  split at ha
  · cases ha; exact hx _ rfl
  · cases ha
theorem abox_n {e : TypeId} {h h' : Hp} {v p : Value} (ha : abox P e h v = some (p, h')) : h.n ≤ h'.n := by
  unfold abox at ha
  split at ha <;> cases ha
  exact Nat.le_succ _
theorem abuildSlice_n {t : TypeId} {n : Nat} {ps : List (Nat × Value)} {h h' : Hp} {p : Value} (ha : abuildSlice P t n ps h = some (p, h')) : h.n ≤ h'.n := by
  unfold abuildSlice at ha
  repeat' split at ha
  all_goals cases ha
  exact Nat.le_succ _
theorem astore_n {t : TypeId} {h h' : Hp} {p v : Value} (ha : astore P t h p v = some h') : h.n ≤ h'.n := by
  unfold astore at ha
  repeat' split at ha
  all_goals cases ha
  exact Nat.le_refl _
theorem aappend_n {ts : Array TypeId} {h h' : Hp} {s x v : Value} (ha : aappend P h ts s x = some (v, h')) : h.n ≤ h'.n := by
  unfold aappend at ha
  repeat' split at ha
  all_goals cases ha
  all_goals first | exact Nat.le_refl _ | exact Nat.le_succ _
theorem abuiltin_n {b : Builtin} {ts : Array TypeId} {h h' : Hp} {xs : List Value} {v : Value} (ha : abuiltin P h b ts xs = some (v, h')) : h.n ≤ h'.n := by
  unfold abuiltin at ha
  split at ha
  · exact aappend_n ha
  all_goals
    repeat' split at ha
    all_goals cases ha
    all_goals exact Nat.le_refl _
theorem aconvert_n {s d : TypeId} {h h' : Hp} {x v : Value} (ha : aconvert P s d h x = some (v, h')) : h.n ≤ h'.n := by
  unfold aconvert at ha
  repeat' split at ha
  all_goals cases ha
  all_goals first | exact Nat.le_refl _ | exact Nat.le_succ _
theorem amakeSlice_n {t : TypeId} {h h' : Hp} {x y v : Value} (ha : amakeSlice P t h x y = some (v, h')) : h.n ≤ h'.n := by
  unfold amakeSlice at ha
  repeat' split at ha
  all_goals cases ha
  exact Nat.le_succ _
theorem amapUpdate_n {t : TypeId} {h h' : Hp} {m k v : Value} (ha : amapUpdate P t h m k v = some h') : h.n ≤ h'.n := by
  unfold amapUpdate at ha
  repeat' split at ha
  all_goals cases ha
  all_goals exact Nat.le_refl _
theorem amapEntry_n {t : TypeId} {h h' : Hp} {m k v : Value} (ha : amapEntry P t h m k = some (v, h')) : h.n ≤ h'.n := by
  unfold amapEntry at ha
  repeat' split at ha
  all_goals cases ha
  all_goals exact Nat.le_refl _
theorem aentryStore_n {h h' : Hp} {m s v : Value} (ha : aentryStore h m s v = some h') : h.n ≤ h'.n := by
  unfold aentryStore at ha
  repeat' split at ha
  all_goals cases ha
  exact Nat.le_refl _

set_option maxHeartbeats 1000000 in
theorem aop_n {E : Tr Value} {h h' : Hp} {op : Op} {v : Value} (ha : aop P E h op = some (.val v h')) : h.n ≤ h'.n := by
  cases op with
  | move x => exact rv_n ha
  | assign x => exact rv_n ha
  | pick c x y =>
    dsimp only [aop, opPick] at ha
    obtain ⟨_, _, ha⟩ := with1_some ha
    split at ha
    · exact rv_n ha
    · exact rv_n ha
    · cases ha
  | alloc e =>
    dsimp only [aop, opAlloc] at ha
    obtain ⟨_, _, ha⟩ := with1_some ha
    exact rvh_n (fun _ _ => abox_n) ha
  | box e x =>
    dsimp only [aop, opBox] at ha
    obtain ⟨_, _, ha⟩ := with1_some ha
    exact rvh_n (fun _ _ => abox_n) ha
  | build t ps =>
    dsimp only [aop, opBuild] at ha
    split at ha
    · exact rv_n ha
    · cases ha
  | buildSlice t n ps =>
    dsimp only [aop, opBuildslice] at ha
    split at ha
    · exact rvh_n (fun _ _ => abuildSlice_n) ha
    · cases ha
  | load t x =>
    dsimp only [aop, opLoad] at ha
    obtain ⟨_, _, ha⟩ := with1_some ha
    exact rv_n ha
  | store t x y =>
    dsimp only [aop, opStore] at ha
    obtain ⟨_, _, ha⟩ := with1_some ha
    obtain ⟨_, _, ha⟩ := with1_some ha
    exact rh_n (fun _ => astore_n) ha
  | nilCheck x =>
    dsimp only [aop, opNilcheck] at ha
    obtain ⟨_, _, ha⟩ := with1_some ha
    split at ha
    · exact rv_n ha
    · cases ha
  | binOp op t x y yt =>
    dsimp only [aop, opBinop] at ha
    obtain ⟨_, _, ha⟩ := with1_some ha
    obtain ⟨_, _, ha⟩ := with1_some ha
    exact rv_n ha
  | unOp op t x =>
    dsimp only [aop, opUnop] at ha
    obtain ⟨_, _, ha⟩ := with1_some ha
    split at ha
    · obtain ⟨_, _, ha⟩ := with1_some ha
      split at ha
      · exact rv_n ha
      · cases ha
    · cases ha
  | convert s d x =>
    dsimp only [aop, opConvert] at ha
    obtain ⟨_, _, ha⟩ := with1_some ha
    exact rvh_n (fun _ _ => aconvert_n) ha
  | makeInterface t x =>
    dsimp only [aop, opMakeinterface] at ha
    obtain ⟨_, _, ha⟩ := with1_some ha
    split at ha
    · cases ha
    · exact rv_n ha
    · cases ha
  | makeFunc fn first cap =>
    dsimp only [aop, opMakefunc] at ha
    split at ha
    · exact rv_n ha
    · cases ha
  | makeMap t s =>
    cases s with
    | some s => cases ha
    | none => cases ha; exact Nat.le_succ _
  | makeSlice t l c =>
    dsimp only [aop, opMakeslice] at ha
    obtain ⟨_, _, ha⟩ := with1_some ha
    obtain ⟨_, _, ha⟩ := with1_some ha
    exact rvh_n (fun _ _ => amakeSlice_n) ha
  | slice t x lo hi mx =>
    dsimp only [aop, opSlice] at ha
    obtain ⟨_, _, ha⟩ := with1_some ha
    split at ha
    · exact rv_n ha
    · cases ha
  | fieldAddr s x f =>
    dsimp only [aop, opFieldaddr] at ha
    obtain ⟨_, _, ha⟩ := with1_some ha
    exact rv_n ha
  | field t x f =>
    dsimp only [aop, opField] at ha
    obtain ⟨_, _, ha⟩ := with1_some ha
    exact rv_n ha
  | indexAddr t x i =>
    dsimp only [aop, opIndexaddr] at ha
    obtain ⟨_, _, ha⟩ := with1_some ha
    obtain ⟨_, _, ha⟩ := with1_some ha
    exact rv_n ha
  | index t x i =>
    dsimp only [aop, opIndex] at ha
    obtain ⟨_, _, ha⟩ := with1_some ha
    obtain ⟨_, _, ha⟩ := with1_some ha
    exact rv_n ha
  | lookup t x i c =>
    dsimp only [aop, opLookup] at ha
    obtain ⟨_, _, ha⟩ := with1_some ha
    obtain ⟨_, _, ha⟩ := with1_some ha
    exact rv_n ha
  | mapUpdate t m k v =>
    dsimp only [aop, opMapupdate] at ha
    obtain ⟨_, _, ha⟩ := with1_some ha
    obtain ⟨_, _, ha⟩ := with1_some ha
    obtain ⟨_, _, ha⟩ := with1_some ha
    exact rh_n (fun _ => amapUpdate_n) ha
  | insert t m k v =>
    dsimp only [aop, opInsert] at ha
    obtain ⟨_, _, ha⟩ := with1_some ha
    obtain ⟨_, _, ha⟩ := with1_some ha
    obtain ⟨_, _, ha⟩ := with1_some ha
    exact rh_n (fun _ => amapUpdate_n) ha
  | mapEntry t m k =>
    dsimp only [aop, opMapentry] at ha
    obtain ⟨_, _, ha⟩ := with1_some ha
    obtain ⟨_, _, ha⟩ := with1_some ha
    exact rvh_n (fun _ _ => amapEntry_n) ha
  | entryStore t m s v =>
    dsimp only [aop, opEntrystore] at ha
    obtain ⟨_, _, ha⟩ := with1_some ha
    obtain ⟨_, _, ha⟩ := with1_some ha
    obtain ⟨_, _, ha⟩ := with1_some ha
    exact rh_n (fun _ => aentryStore_n) ha
  | extract x i =>
    dsimp only [aop, opExtract] at ha
    obtain ⟨_, _, ha⟩ := with1_some ha
    split at ha
    · exact rv_n ha
    · cases ha
  | call c =>
    dsimp only [aop, opCall] at ha
    split at ha
    · split at ha
      · exact rvh_n (fun _ _ => abuiltin_n) ha
      · cases ha
    · obtain ⟨_, _, ha⟩ := with1_some ha
      split at ha
      · split at ha
        · split at ha <;> cases ha
        · cases ha
      · cases ha
    · cases ha
  | panic x =>
    dsimp only [aop, opPanic] at ha
    obtain ⟨_, _, ha⟩ := with1_some ha
    split at ha <;> cases ha
  | _ => cases ha

theorem aput_ok {lim : Nat} {E E' : Tr Value} {d : Option Tmp} {v v' : Value} {ι : Nat → Option Loc} {a : Act} (hE : EnvRel ι E a.tmps) (hl : lim ≤ a.tmps.size) (hv : VRel ι v v') (ha : aput lim E d v = some E') :
    EnvRel ι E' (a.put d v').tmps ∧ lim ≤ (a.put d v').tmps.size ∧ (a.put d v').defers = a.defers := by
  unfold aput at ha
  cases d with
  | none => cases ha; exact ⟨hE, hl, rfl⟩
  | some t =>
    simp only at ha
    split at ha
    · rename_i ht
      cases ha
      refine ⟨fun u => ?_, by simpa [Act.put] using hl, rfl⟩
      simp only [Act.put]
      rw [Tr.get_set]
      by_cases hu : u = t
      · subst hu
        rw [if_pos rfl]
        simp only [Option.getD_some, Array.getD_eq_getD_getElem?, Array.getElem?_setIfInBounds]
        rw [if_pos trivial, if_pos (Nat.lt_of_lt_of_le ht hl)]
        exact hv
      · rw [if_neg hu]
        have := hE u
        simp only [Array.getD_eq_getD_getElem?, Array.getElem?_setIfInBounds] at this ⊢
        rw [if_neg (fun x => hu x.symm)]
        exact this
    · cases ha

theorem aguard_ok {E : Tr Value} {ops : Array Oper} {o : Oper} {ι : Nat → Option Loc} {a : Act} (hE : EnvRel ι E a.tmps) : Region.wanted o (yielded ops a.tmps) = aguard E ops o := by
  unfold Region.wanted aguard yielded
  cases o.guard with
  | none => rfl
  | some g =>
    obtain ⟨j, want⟩ := g
    simp only
    cases hd : (ops[j]?).bind (·.dst) with
    | none => rfl
    | some t =>
      have h := hE t
      rw [Option.bind_some]
      simp only
      rw [Array.getD_eq_getD_getElem?] at h
      cases hg : E.get t with
      | none =>
        rw [hg] at h
        simp only [Option.getD_none] at h ⊢
        cases ht : a.tmps[t]? with
        | none => rfl
        | some u =>
          rw [ht] at h
          simp only [Option.getD_some] at h
          cases h; rfl
      | some v =>
        rw [hg] at h
        simp only [Option.getD_some] at h
        cases ht : a.tmps[t]? with
        | none =>
          rw [ht] at h
          simp only [Option.getD_none] at h
          generalize hq : undef = q at h
          cases h <;> first | rfl | cases hq
        | some u =>
          rw [ht] at h
          simp only [Option.getD_some] at h
          cases h <;> first | rfl | (rename_i b; cases b <;> cases want <;> rfl)

/-- What holds behind a piece of code. -/
noncomputable def Post (P : Program) (base : Nat) (w0 : Start) (ι : Nat → Option Loc) (lim : Nat) (s : ASt) (a : Act) (e : AExit) (s' : ASt) (e' : Exit) (a' : Act) (w' : World) : Prop :=
  ∃ ι', Turn ι s.h.n s.h.t.get ι' s'.h.n s'.h.t.get ∧ Inv P base w0 ι' s'.h.t.get w' ∧ EnvRel ι' s'.E a'.tmps ∧ lim ≤ a'.tmps.size ∧ a'.defers = a.defers ∧
    match e with
    | .normal => e' = .normal
    | .exit id => e' = .exit id
    | .ret => e' = .ret
    | .pan v => ∃ v', e' = .panic [{ v := v', recovered := false }] ∧ VRel ι' v v'

theorem Post.after {base : Nat} {w0 : Start} {ι ι1 : Nat → Option Loc} {lim : Nat} {s s1 s' : ASt} {a a1 : Act} {e : AExit} {e' : Exit} {a' : Act} {w' : World} (ht : Turn ι s.h.n s.h.t.get ι1 s1.h.n s1.h.t.get) (hd : a1.defers = a.defers)
    (h : Post P base w0 ι1 lim s1 a1 e s' e' a' w') : Post P base w0 ι lim s a e s' e' a' w' := by
  obtain ⟨ι', t, i, en, l, d, x⟩ := h
  exact ⟨ι', ht.trans t, i, en, l, d.trans hd, x⟩

theorem Turn.fresh {ι ι1 : Nat → Option Loc} {n n1 n2 : Nat} {H H1 : Nat → Option AObj} (ht : Turn ι n H ι1 n1 H1) (hf : ∀ id, n ≤ id → id < n2 → ι id = none) : ∀ id, n1 ≤ id → id < n2 → ι1 id = none := fun id h1 h2 => by
  rw [(ht.out id (by omega)).1]
  exact hf id (Nat.le_trans ht.le h1) h2

theorem aops_n {base : Nat} {w0 : Start} {cf : CallF} (hc : CallOk P base w0 cf) {lim : Nat} {ops : Array Oper} : ∀ {os : List Oper} {s s' : ASt} {e : AExit}, aops P cf lim ops os s = some (e, s') → s.h.n ≤ s'.h.n
  | [], s, s', e, h => by cases h; exact Nat.le_refl _
  | o :: os, s, s', e, h => by
    unfold aops at h
    split at h
    · split at h
      · rename_i v h1 hop
        split at h
        · exact Nat.le_trans (aop_n hop) (aops_n hc h)
        · cases h
      · rename_i f args hop
        split at h
        · rename_i v h1 hcf
          split at h
          · exact Nat.le_trans (hc _ _ _ _ _ hcf).1 (aops_n hc h)
          · cases h
        · rename_i v h1 hcf
          cases h
          exact (hc _ _ _ _ _ hcf).1
        · cases h
      · cases h; exact Nat.le_refl _
      · cases h
    · split at h
      · rename_i E1 _
        exact aops_n (s := ⟨E1, s.h⟩) hc h
      · cases h

theorem wpOps_mono {ops : Array Oper} {Q Q' : Exit → Act → World → Prop} (hq : ∀ e a w, Q e a w → Q' e a w) : ∀ (l : List Nat) (a : Act) (w : World), wpOps P ops Q l a w → wpOps P ops Q' l a w
  | [], a, w, h => hq _ _ _ h
  | i :: l, a, w, h => by
    simp only [wpOps] at h ⊢
    cases ho : ops[i]? with
    | none => rw [ho] at h; exact wpOps_mono hq l a w h
    | some o =>
      rw [ho] at h
      simp only at h ⊢
      split at h
      · rename_i hw
        rw [if_pos hw]
        rcases h with h | ⟨h1, a0, w0, h2⟩
        · left
          unfold Oper.wp at *
          generalize (execOp a.eval o).run P w = r at *
          cases r with
          | ok n w' =>
            cases n <;> simp only [Oper.upon] at h ⊢ <;> first
              | exact wpOps_mono hq l _ _ h
              | exact Calls.mono h (fun e w'' he => by cases e <;> first | exact wpOps_mono hq l _ _ he | exact hq _ _ _ he | exact (let ⟨x, y, z⟩ := he; ⟨x, y, hq _ _ _ z⟩))
              | exact Rows.mono h (fun _ _ he => wpOps_mono hq l _ _ he)
              | exact h
          | halt x w' => cases x <;> simp only [Oper.upon] at h ⊢ <;> first | exact hq _ _ _ h | exact h
        · exact .inr ⟨h1, a0, w0, hq _ _ _ h2⟩
      · rename_i hw
        rw [if_neg hw]
        exact wpOps_mono hq l _ _ h

theorem aops_ok (hP : noNG P = true) {base : Nat} {w0 : Start} {cf : CallF} (hc : CallOk P base w0 cf) {lim : Nat} {ops : Array Oper} : ∀ {os : List Oper} {l : List Nat} {s s' : ASt} {e : AExit} {ι : Nat → Option Loc} {a : Act} {w : World}, l.map (ops[·]?) = os.map some →
    aops P cf lim ops os s = some (e, s') → Inv P base w0 ι s.h.t.get w → EnvRel ι s.E a.tmps → lim ≤ a.tmps.size → P.globals.size ≤ s.h.n → (∀ id, s.h.n ≤ id → id < s'.h.n → ι id = none) → wpOps P ops (Post P base w0 ι lim s a e s') l a w
  | [], l, s, s', e, ι, a, w, hl, h, hI, hE, hlim, hg, hf => by
    cases l with
    | cons x l => cases hl
    | nil =>
      cases h
      exact ⟨ι, Turn.refl _ _ _, hI, hE, hlim, rfl, rfl⟩
  | o :: os, l, s, s', e, ι, a, w, hl, h, hI, hE, hlim, hg, hf => by
    cases l with
    | nil => cases hl
    | cons i l =>
    rw [List.map_cons, List.map_cons, List.cons.injEq] at hl
    obtain ⟨hoi, hl⟩ := hl
    unfold aops at h
    simp only [wpOps, hoi]
    rw [aguard_ok hE]
    split at h
    · rename_i hgu
      rw [if_pos hgu]
      left
      unfold Oper.wp
      split at h
      · rename_i v h1 hop
        split at h
        · rename_i E1 hput
          have hn1 := aop_n hop
          have hn2 := aops_n (s := ⟨E1, h1⟩) hc h
          have hout := aop_ok (o := o) hP hI hE hg (fun v' h' e' id h1 h2 => by cases e'; exact hf id h1 (Nat.lt_of_lt_of_le h2 hn2)) hop
          obtain ⟨v', w', ι', hrun, t, hI', hv⟩ := hout
          obtain ⟨hE', hl', hd'⟩ := aput_ok (hE.grow t.grow) hlim hv hput
          have hrest := aops_ok hP hc (s := ⟨E1, h1⟩) hl h hI' hE' hl' (Nat.le_trans hg hn1) (t.fresh hf)
          rcases hrun with hrun | ⟨hrun, rfl⟩
          · rw [hrun, Oper.upon_value]
            exact wpOps_mono (fun e' a' w' hp => Post.after t hd' hp) _ _ _ hrest
          · rw [hrun, Oper.upon_skip]
            exact wpOps_mono (fun e' a' w' hp => Post.after t hd' hp) _ _ _ hrest
        · cases h
      · rename_i f args hop
        have hout := aop_ok (o := o) hP hI hE hg (fun v' h' e' => by cases e') hop
        obtain ⟨args', hrun, har⟩ := hout
        have hlr : LRel ι args.toList args'.toList := har.list
        split at h
        · rename_i v h1 hcf
          split at h
          · rename_i E1 hput
            obtain ⟨hn1, hcall⟩ := hc _ _ _ _ _ hcf
            have hn2 := aops_n (s := ⟨E1, h1⟩) hc h
            have hcl := hcall ι w args'.toList hI hlr hg (fun id h1 h2 => hf id h1 (Nat.lt_of_lt_of_le h2 hn2))
            rw [hrun, Oper.upon_enter]
            refine Calls.mono hcl fun e1 w1 hr => ?_
            obtain ⟨ι', t, hI', v', rfl, hv⟩ := hr
            obtain ⟨hE', hl', hd'⟩ := aput_ok (hE.grow t.grow) hlim hv hput
            have hrest := aops_ok hP hc (s := ⟨E1, h1⟩) hl h hI' hE' hl' (Nat.le_trans hg hn1) (t.fresh hf)
            exact wpOps_mono (fun e' a' w' hp => Post.after t hd' hp) _ _ _ hrest
          · cases h
        · rename_i v h1 hcf
          cases h
          obtain ⟨hn1, hcall⟩ := hc _ _ _ _ _ hcf
          have hcl := hcall ι w args'.toList hI hlr hg hf
          rw [hrun, Oper.upon_enter]
          refine Calls.mono hcl fun e1 w1 hr => ?_
          obtain ⟨ι', t, hI', v', rfl, hv⟩ := hr
          exact ⟨ι', t, hI', hE.grow t.grow, hlim, rfl, v', rfl, hv⟩
        · cases h
      · rename_i v hop
        cases h
        have hout := aop_ok (o := o) hP hI hE hg (fun v' h' e' => by cases e') hop
        obtain ⟨v', hrun, hv⟩ := hout
        rw [hrun, Oper.upon_panic]
        exact ⟨ι, Turn.refl _ _ _, hI, hE, hlim, rfl, v', rfl, hv⟩
      · cases h
    · rename_i hgu
      rw [if_neg hgu]
      split at h
      · rename_i E1 hput
        obtain ⟨hE', hl', hd'⟩ := aput_ok hE hlim undef_rel hput
        have hrest := aops_ok hP hc (s := ⟨E1, s.h⟩) hl h hI hE' hl' hg hf
        exact wpOps_mono (fun e' a' w' hp => Post.after (Turn.refl _ _ _) hd' hp) _ _ _ hrest
      · cases h
end
end Go.Proofs.YtfmppmabnpkooaaDoor.Abs
