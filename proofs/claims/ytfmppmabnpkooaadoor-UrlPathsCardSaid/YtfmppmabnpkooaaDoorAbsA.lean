/- The engine, part 10: what the sketch says of one operation is what the program does. -/
import Derived.Test.YtfmppmabnpkooaaDoorEngA
set_option autoImplicit false
set_option linter.unusedSimpArgs false
set_option linter.unusedVariables false
namespace Go.Proofs.YtfmppmabnpkooaaDoor.Abs
open Go Go.RowKit

section
variable {P : Program} {base : Nat} {w0 : Start} {ι : Nat → Option Loc} {w : World}

/-- No function of the program is one of the runtime's that the walk knows by name. -/
noncomputable def noNG (P : Program) : Bool := P.funcs.all fun fn => !(fn.name == "runtime.NumGoroutine")

noncomputable def Out (P : Program) (base : Nat) (w0 : Start) (ι : Nat → Option Loc) (h : Hp) (w : World) (run : Result Next) : ARes → Prop
  | .val v h' => ∃ v' w' ι', (run = .ok (.value v') w' ∨ (run = .ok .skip w' ∧ v' = undef)) ∧ Turn ι h.n h.t.get ι' h'.n h'.t.get ∧ Inv P base w0 ι' h'.t.get w' ∧ VRel ι' v v'
  | .call f args => ∃ args', run = .ok (.enter f args') w ∧ ARel ι args args'
  | .pan v => ∃ v', run = .halt (.panic v') w ∧ VRel ι v v'

theorem out_rv {h : Hp} {x : Option Value} {r : ARes} {s : Sem Value} (hI : Inv P base w0 ι h.t.get w) (ha : rv h x = some r) (hs : ∀ v, x = some v → ∃ v', s.run P w = .ok v' w ∧ VRel ι v v') :
    Out P base w0 ι h w ((do pure (Next.value (← s)) : Sem Next).run P w) r := by
  unfold rv at ha
  split at ha
  · cases ha
    obtain ⟨v', h1, h2⟩ := hs _ rfl
    exact ⟨v', w, ι, .inl (by simp only [Sem.run_bind, h1, Result.andThen_ok, Sem.run_pure]), Turn.refl _ _ _, hI, h2⟩
  · cases ha
theorem out_rvh {h : Hp} {x : Option (Value × Hp)} {r : ARes} {s : Sem Value} (ha : rvh x = some r)
    (hs : ∀ v h', x = some (v, h') → r = .val v h' → ∃ v' w' ι', s.run P w = .ok v' w' ∧ Turn ι h.n h.t.get ι' h'.n h'.t.get ∧ Inv P base w0 ι' h'.t.get w' ∧ VRel ι' v v') :
    Out P base w0 ι h w ((do pure (Next.value (← s)) : Sem Next).run P w) r := by
  unfold rvh at ha
  split at ha
  · cases ha
    obtain ⟨v', w', ι', h1, h2⟩ := hs _ _ rfl rfl
    exact ⟨v', w', ι', .inl (by simp only [Sem.run_bind, h1, Result.andThen_ok, Sem.run_pure]), h2⟩
  · cases ha
theorem out_rh {h : Hp} {x : Option Hp} {r : ARes} {s : Sem Unit} (ha : rh x = some r) (hs : ∀ h', x = some h' → ∃ w', s.run P w = .ok () w' ∧ Turn ι h.n h.t.get ι h'.n h'.t.get ∧ Inv P base w0 ι h'.t.get w') :
    Out P base w0 ι h w ((do s; pure Next.skip : Sem Next).run P w) r := by
  unfold rh at ha
  split at ha
  · cases ha
    obtain ⟨w', h1, h2, h3⟩ := hs _ rfl
    exact ⟨undef, w', ι, .inr ⟨by simp only [Sem.run_bind, h1, Result.andThen_ok, Sem.run_pure], rfl⟩, h2, h3, undef_rel⟩
  · cases ha

theorem eval_pairs (a : Act) (ps : Array (Nat × Operand)) : (ps.map fun (i, x) => (i, a.eval x)) = ((ps.toList.map fun p => (p.1, a.eval p.2))).toArray := by
  apply Array.toList_inj.1
  simp
theorem eval_args (a : Act) (xs : Array Operand) : xs.map a.eval = (xs.toList.map a.eval).toArray := by
  apply Array.toList_inj.1
  simp

theorem unary_run {op : UnOp} {v r : Value} (h : pureRun P (Op.unary op v) = some r) (w : World) : (Op.unary op v).run P w = .ok r w := pureRun_ok h w

set_option maxHeartbeats 4000000 in
theorem aop_ok {E : Tr Value} {h : Hp} {o : Oper} {a : Act} {r : ARes} (hP : noNG P = true) (hI : Inv P base w0 ι h.t.get w) (hE : EnvRel ι E a.tmps) (hgl : P.globals.size ≤ h.n)
    (hf : ∀ v h', r = .val v h' → ∀ id, h.n ≤ id → id < h'.n → ι id = none) (ha : aop P E h o.op = some r) : Out P base w0 ι h w ((execOp a.eval o).run P w) r := by
  obtain ⟨dst, op, ty, pos, aft, gd⟩ := o
  simp only at ha ⊢
  cases op with
  | move x =>
    dsimp only [aop, opMove] at ha
    have := out_rv (s := pure (a.eval x)) hI ha fun v hv => ⟨a.eval x, rfl, aev_ok hI hE hv⟩
    exact this
  | assign x =>
    dsimp only [aop, opAssign] at ha
    have := out_rv (s := pure (a.eval x)) hI ha fun v hv => ⟨a.eval x, rfl, aev_ok hI hE hv⟩
    exact this
  | pick c x y =>
    dsimp only [aop, opPick] at ha
    obtain ⟨cv, hc, ha⟩ := with1_some ha
    have hcr := aev_ok hI hE hc
    split at ha
    · have := out_rv (s := pure (a.eval x)) hI ha fun v hv => ⟨a.eval x, rfl, aev_ok hI hE hv⟩
      generalize hq : a.eval c = q at hcr
      cases hcr
      simpa [execOp, hq, asBool] using this
    · have := out_rv (s := pure (a.eval y)) hI ha fun v hv => ⟨a.eval y, rfl, aev_ok hI hE hv⟩
      generalize hq : a.eval c = q at hcr
      cases hcr
      simpa [execOp, hq, asBool] using this
    · cases ha
  | alloc e =>
    dsimp only [aop, opAlloc] at ha
    obtain ⟨z, hz, ha⟩ := with1_some ha
    refine out_rvh (s := Instr.alloc e true (.tuple #[])) ha fun v h' hv hr => ?_
    obtain ⟨z1, z2, _⟩ := azero_ok hz w
    obtain ⟨p', w', ι', r1, r2⟩ := abox_ok hI (hf v h' hr) hgl (VRel.of_flat z2) hv
    refine ⟨p', w', ι', ?_, r2⟩
    simp only [Instr.alloc, Sem.run_bind, z1, Result.andThen_ok]
    exact r1
  | box e x =>
    dsimp only [aop, opBox] at ha
    obtain ⟨xv, hx, ha⟩ := with1_some ha
    exact out_rvh (s := Instr.box e (a.eval x)) ha fun v h' hv hr => abox_ok hI (hf v h' hr) hgl (aev_ok hI hE hx) hv
  | build t ps =>
    dsimp only [aop, opBuild] at ha
    split at ha
    · rename_i vs hvs
      obtain ⟨l1, l2⟩ := aevp_ok hI hE hvs
      have := out_rv (s := Instr.build t (ps.map fun (i, x) => (i, a.eval x))) hI ha fun v hv => by rw [eval_pairs]; exact abuild_ok l1 l2 hv w
      exact this
    · cases ha
  | buildSlice t n ps =>
    dsimp only [aop, opBuildslice] at ha
    split at ha
    · rename_i vs hvs
      obtain ⟨l1, l2⟩ := aevp_ok hI hE hvs
      exact out_rvh (s := Instr.buildSlice t n (ps.map fun (i, x) => (i, a.eval x))) ha fun v h' hv hr => by rw [eval_pairs]; exact abuildSlice_ok hI (hf v h' hr) hgl l1 l2 hv
    · cases ha
  | load t x =>
    dsimp only [aop, opLoad] at ha
    obtain ⟨xv, hx, ha⟩ := with1_some ha
    exact out_rv (s := Instr.loadAt t (a.eval x)) hI ha fun v hv => aload_ok hI (aev_ok hI hE hx) hv
  | store t x y =>
    dsimp only [aop, opStore] at ha
    obtain ⟨xv, hx, ha⟩ := with1_some ha
    obtain ⟨yv, hy, ha⟩ := with1_some ha
    exact out_rh (s := Instr.storeAt t (a.eval x) (a.eval y)) ha fun h' hv => astore_ok hI (aev_ok hI hE hx) (aev_ok hI hE hy) hv
  | nilCheck x =>
    dsimp only [aop, opNilcheck] at ha
    obtain ⟨xv, hx, ha⟩ := with1_some ha
    split at ha
    · rename_i hok
      have hr := aev_ok hI hE hx
      have := out_rv (s := pure (a.eval x)) hI ha fun v hv => by cases hv; exact ⟨_, rfl, hr⟩
      generalize hq : a.eval x = q at hr this
      cases hr <;> first | (cases hok; done) | (simpa [execOp, hq] using this) | (rename_i fn f f' c c' h1 h2 h3 h4; cases fn <;> first | (cases hok; done) | (simpa [execOp, hq] using this))
    · cases ha
  | binOp op t x y yt =>
    dsimp only [aop, opBinop] at ha
    obtain ⟨xv, hx, ha⟩ := with1_some ha
    obtain ⟨yv, hy, ha⟩ := with1_some ha
    exact out_rv (s := do eqGuard op t x y (a.eval x) (a.eval y); binOp op t (a.eval x) (a.eval y)) hI ha fun v hv => by
      obtain ⟨r1, r2⟩ := abin_ok hv (aev_ok hI hE hx) (aev_ok hI hE hy) w
      exact ⟨v, r1, VRel.of_flat r2⟩
  | unOp op t x =>
    dsimp only [aop, opUnop] at ha
    obtain ⟨xv, hx, ha⟩ := with1_some ha
    split at ha
    · rename_i hs
      obtain ⟨u, hu, ha⟩ := with1_some ha
      split at ha
      · rename_i hfl
        have hr := aev_ok hI hE hx
        have he := hr.scalar_eq hs
        exact out_rv (s := Op.unary op (a.eval x)) hI ha fun v hv => by cases hv; rw [he]; exact ⟨_, unary_run hu w, VRel.of_flat hfl⟩
      · cases ha
    · cases ha
  | convert s d x =>
    dsimp only [aop, opConvert] at ha
    obtain ⟨xv, hx, ha⟩ := with1_some ha
    exact out_rvh (s := convert s d (a.eval x)) ha fun v h' hv hr => aconvert_ok hI (hf v h' hr) hgl (aev_ok hI hE hx) hv
  | makeInterface t x =>
    dsimp only [aop, opMakeinterface] at ha
    obtain ⟨xv, hx, ha⟩ := with1_some ha
    split at ha
    · cases ha
    · rename_i d hd hu
      refine out_rv (s := Instr.makeInterface t (a.eval x)) hI ha fun v hv => ?_
      cases hv
      refine ⟨.iface t (a.eval x), ?_, .iface _ _ _ (aev_ok hI hE hx)⟩
      simp only [Instr.makeInterface, Sem.run_bind, run_underlying hu, Result.andThen_ok]
      cases d <;> first | rfl | exact absurd rfl (hd _)
    · cases ha
  | makeFunc fn first cap =>
    dsimp only [aop, opMakefunc] at ha
    split at ha
    · rename_i vs cs h1 h2
      have r1 := (aevs_ok hI hE h1).arr
      have r2 := (aevs_ok hI hE h2).arr
      refine out_rv (s := Instr.makeFunc fn (first.map a.eval) (cap.map a.eval)) hI ha fun v hv => ?_
      cases hv
      rw [eval_args, eval_args]
      exact ⟨_, rfl, .func _ _ _ _ _ r1.1 r1.2 r2.1 r2.2⟩
    · cases ha
  | makeMap t s =>
    cases s with
    | some s => cases ha
    | none =>
      dsimp only [aop, opMakeMap] at ha
      cases ha
      have hm := hf _ _ rfl h.n (Nat.le_refl _) (Nat.lt_succ_self _)
      refine ⟨.map (some w.heap.size), w.alloc (.map #[] 0), fupd ι h.n (some ⟨w.heap.size, 0, 0, 0⟩), .inl rfl, ?_, ?_, .map h.n ⟨w.heap.size, 0, 0, 0⟩ (fupd_eq _ _ _)⟩
      · rw [Tr.get_set_fun]; exact Turn.new hm _ _
      · rw [Tr.get_set_fun]; exact hI.new_map hm hgl 0
  | makeSlice t l c =>
    dsimp only [aop, opMakeslice] at ha
    obtain ⟨xv, hx, ha⟩ := with1_some ha
    obtain ⟨yv, hy, ha⟩ := with1_some ha
    exact out_rvh (s := Instr.makeSlice t (a.eval l) (a.eval c)) ha fun v h' hv hr => amakeSlice_ok hI (hf v h' hr) hgl (aev_ok hI hE hx) (aev_ok hI hE hy) hv
  | slice t x lo hi mx =>
    dsimp only [aop, opSlice] at ha
    obtain ⟨xv, hx, ha⟩ := with1_some ha
    split at ha
    · rename_i p q s h1 h2 h3
      exact out_rv (s := Instr.sliceAt t (a.eval x) (lo.map a.eval) (hi.map a.eval) (mx.map a.eval)) hI ha fun v hv => aslice_ok hI (aev_ok hI hE hx) (aevo_ok hI hE h1) (aevo_ok hI hE h2) (aevo_ok hI hE h3) hv
    · cases ha
  | fieldAddr s x f =>
    dsimp only [aop, opFieldaddr] at ha
    obtain ⟨xv, hx, ha⟩ := with1_some ha
    exact out_rv (s := Instr.fieldAt s (a.eval x) f) hI ha fun v hv => afieldAddr_ok (aev_ok hI hE hx) hv w
  | field t x f =>
    dsimp only [aop, opField] at ha
    obtain ⟨xv, hx, ha⟩ := with1_some ha
    exact out_rv (s := Instr.field t (a.eval x) f) hI ha fun v hv => afield_ok (aev_ok hI hE hx) hv w
  | indexAddr t x i =>
    dsimp only [aop, opIndexaddr] at ha
    obtain ⟨xv, hx, ha⟩ := with1_some ha
    obtain ⟨yv, hy, ha⟩ := with1_some ha
    exact out_rv (s := Instr.indexAt t (a.eval x) (a.eval i)) hI ha fun v hv => aindexAddr_ok (aev_ok hI hE hx) (aev_ok hI hE hy) hv w
  | index t x i =>
    dsimp only [aop, opIndex] at ha
    obtain ⟨xv, hx, ha⟩ := with1_some ha
    obtain ⟨yv, hy, ha⟩ := with1_some ha
    exact out_rv (s := Instr.index t (a.eval x) (a.eval i)) hI ha fun v hv => aindex_ok (aev_ok hI hE hx) (aev_ok hI hE hy) hv w
  | lookup t x i c =>
    dsimp only [aop, opLookup] at ha
    obtain ⟨xv, hx, ha⟩ := with1_some ha
    obtain ⟨yv, hy, ha⟩ := with1_some ha
    exact out_rv (s := Instr.lookup t (a.eval x) (a.eval i) c) hI ha fun v hv => alookup_ok hI (aev_ok hI hE hx) (aev_ok hI hE hy) hv
  | mapUpdate t m k v =>
    dsimp only [aop, opMapupdate] at ha
    obtain ⟨mv, hm, ha⟩ := with1_some ha
    obtain ⟨kv, hk, ha⟩ := with1_some ha
    obtain ⟨vv, hv, ha⟩ := with1_some ha
    exact out_rh (s := Instr.mapUpdate t (a.eval m) (a.eval k) (a.eval v)) ha fun h' hh => amapUpdate_ok hI (aev_ok hI hE hm) (aev_ok hI hE hk) (aev_ok hI hE hv) hh
  | insert t m k v =>
    dsimp only [aop, opInsert] at ha
    obtain ⟨mv, hm, ha⟩ := with1_some ha
    obtain ⟨kv, hk, ha⟩ := with1_some ha
    obtain ⟨vv, hv, ha⟩ := with1_some ha
    exact out_rh (s := Instr.mapUpdate t (a.eval m) (a.eval k) (a.eval v)) ha fun h' hh => amapUpdate_ok hI (aev_ok hI hE hm) (aev_ok hI hE hk) (aev_ok hI hE hv) hh
  | mapEntry t m k =>
    dsimp only [aop, opMapentry] at ha
    obtain ⟨mv, hm, ha⟩ := with1_some ha
    obtain ⟨kv, hk, ha⟩ := with1_some ha
    exact out_rvh (s := Instr.mapEntry t (a.eval m) (a.eval k)) ha fun v h' hv hr => by
      obtain ⟨v', w', r1, r2⟩ := amapEntry_ok hI (aev_ok hI hE hm) (aev_ok hI hE hk) hv
      exact ⟨v', w', ι, r1, r2⟩
  | entryStore t m s v =>
    dsimp only [aop, opEntrystore] at ha
    obtain ⟨mv, hm, ha⟩ := with1_some ha
    obtain ⟨kv, hk, ha⟩ := with1_some ha
    obtain ⟨vv, hv, ha⟩ := with1_some ha
    exact out_rh (s := Instr.entryStore t (a.eval m) (a.eval s) (a.eval v)) ha fun h' hh => aentryStore_ok hI (aev_ok hI hE hm) (aev_ok hI hE hk) (aev_ok hI hE hv) hh
  | extract x i =>
    dsimp only [aop, opExtract] at ha
    obtain ⟨xv, hx, ha⟩ := with1_some ha
    have hr := aev_ok hI hE hx
    split at ha
    · rename_i vs
      refine out_rv (s := Instr.extract (a.eval x) i) hI ha fun v hv => ?_
      generalize a.eval x = q at hr
      cases hr with
      | tuple c c' h1 h2 =>
      obtain ⟨v', p1, p2⟩ := ARel.get ⟨h1, h2⟩ hv
      exact ⟨v', by simp only [Instr.extract, p1, Sem.run_pure], p2⟩
    · cases ha
  | call c =>
    dsimp only [aop, opCall] at ha
    obtain ⟨callee, args, argTypes⟩ := c
    cases callee with
    | builtin b =>
      dsimp only at ha
      split at ha
      · rename_i vs hvs
        have hr := aevs_ok hI hE hvs
        unfold rvh at ha
        split at ha
        · rename_i v h' hb
          cases ha
          obtain ⟨v', w', ι', r1, r2⟩ := abuiltin_ok (ty := ty) (consts := args.map fun | .const _ => true | _ => false) hI (hf v h' rfl) hgl hr hb
          refine ⟨v', w', ι', .inl ?_, r2⟩
          simp only [execOp, resolve, Sem.run_bind, Sem.run_pure, Result.andThen_ok, invoke]
          rw [eval_args]
          exact r1
        · cases ha
      · cases ha
    | value f =>
      dsimp only at ha
      obtain ⟨fv, hfv, ha⟩ := with1_some ha
      have hr := aev_ok hI hE hfv
      split at ha
      · rename_i g first cap
        split at ha
        · rename_i hen
          split at ha
          · rename_i vs hvs
            cases ha
            have hrs := (aevs_ok hI hE hvs).arr
            generalize hq : a.eval f = q at hr
            cases hr with
            | func fn f1 f1' c1 c1' h1 h2 h3 h4 =>
            refine ⟨f1' ++ (args.toList.map a.eval).toArray ++ c1', ?_, ?_⟩
            · unfold enterOk at hen
              split at hen
              · rename_i fn hfn
                have hng : (fn.name == "runtime.NumGoroutine") = false := by
                  have hp := hP
                  unfold noNG at hp
                  rw [Array.all_eq_true_iff_forall_mem] at hp
                  have := hp fn (Array.mem_of_getElem? hfn)
                  simpa using this
                have hbn : fn.body.isNone = false := by
                  cases hb : fn.body with
                  | none => rw [hb] at hen; cases hen
                  | some x => rfl
                simp only [execOp, resolve, Sem.run_bind, hq, Deferred.ofValue, Sem.run_pure, Result.andThen_ok, invoke, callFunc, run_program, hfn, hng, hbn, Bool.false_eq_true, if_false]
                rw [eval_args]
              · cases hen
            · have e1 : ARel ι first f1' := ⟨h1, h2⟩
              have e2 : ARel ι cap c1' := ⟨h3, h4⟩
              have app : ∀ {x x' y y' : Array Value}, ARel ι x x' → ARel ι y y' → ARel ι (x ++ y) (x' ++ y') := by
                intro x x' y y' hx hy
                refine ARel.of_get (by simp [hx.1, hy.1]) fun i v hv => ?_
                by_cases hi : i < x.size
                · rw [Array.getElem?_append_left hi] at hv
                  obtain ⟨v', p, q⟩ := hx.get hv
                  exact ⟨v', by rw [Array.getElem?_append_left (hx.1 ▸ hi)]; exact p, q⟩
                · rw [Array.getElem?_append_right (by omega)] at hv
                  obtain ⟨v', p, q⟩ := hy.get hv
                  exact ⟨v', by rw [Array.getElem?_append_right (by rw [← hx.1]; omega), ← hx.1]; exact p, q⟩
              exact app (app e1 hrs) e2
          · cases ha
        · cases ha
      · cases ha
    | invoke rcv m => cases ha
  | panic x =>
    dsimp only [aop, opPanic] at ha
    obtain ⟨xv, hx, ha⟩ := with1_some ha
    have hr := aev_ok hI hE hx
    split at ha
    · cases ha
      generalize hq : a.eval x = q at hr
      refine ⟨q, ?_, hr⟩
      cases hr
      simp [execOp, hq, Instr.panic]
    · cases ha
  | _ => cases ha
end
end Go.Proofs.YtfmppmabnpkooaaDoor.Abs
