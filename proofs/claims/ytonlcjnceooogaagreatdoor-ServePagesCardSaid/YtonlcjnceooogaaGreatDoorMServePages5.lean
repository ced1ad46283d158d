/- ServePages: part 5 of its proof: KnownA, KnownB, KnownC, KnownD, ItemsQ, Items, Tabs, WfNat, WfF, WfFl, WfRun, ShelfA, DirC, CspNat. -/
import Derived.Test.YtonlcjnceooogaaGreatDoorMServePages4
import Derived.KernelRfl
import Derived.Recover
import Derived.Shelf.Abstract
import Derived.Test.YtonlcjnceooogaaGreatDoorMServePages3
import Derived.WideKeyElems2
import Derived.Test.YtonlcjnceooogaaGreatDoorProg
import Derived.Shelf.LaysM
import Derived.Shelf.Strings.FieldsFuncAny
import Derived.Shelf.Strings.FieldsFuncGrows
import Derived.Test.YtonlcjnceooogaaGreatDoorMServePages0
import Derived.Test.YtonlcjnceooogaaGreatDoorMServePages1
import Derived.Test.YtonlcjnceooogaaGreatDoorMServePages2
section
/- wf.known: the region that puts an entry into the map. -/
set_option autoImplicit false
set_option linter.unusedSimpArgs false
set_option linter.unusedVariables false
namespace Go.Proofs.YtonlcjnceooogaaGreatDoor
open Go Go.RowKit Go.Proofs.YtonlcjnceooogaaGreatDoor.Abs

/-- The region in which the entry is put into the map. -/
theorem k20_ok {X : KX} (hX : KFix X) {ι : Nat → Option Abs.Loc} {M : Nat} {seen : Array Nat} {a : Act} {w : World} {e : MapEntry} {v : Value} {Q : Exit → Act → World → Prop} (h : KCore X ι M (seen.push e.born) a w) (ht : KTab X seen w) (he : e ∈ X.es.toList) (hns : seen.contains e.born = false) (ho : X.out e = some v) (hfv : flat v = true)
    (hk : a.eval (.tmp 10) = e.key) (hl : ∀ w', Below w.heap.size w w' → (Instr.loadAt 92 (a.eval (.tmp 15))).run kP w' = .ok v w')
    (hQ : ∀ a' w', KCore X ι M (seen.push e.born) a' w' → KTab X (seen.push e.born) w' → Q .normal a' w') : (Code.region 20 kOps20 true).wp kP Q a w := by
  obtain ⟨ces, cc, hc1, hc2, hc3⟩ := ht
  obtain ⟨s, kk, z, hes, hez⟩ := hX.keys e he
  obtain ⟨iC, hiC, hiCb⟩ := hX.iC
  have hcl : X.cid < X.h.n := by
    apply Classical.byContradiction
    intro hn
    rw [hX.fresh _ (by omega)] at hiC
    cases hiC
  have hiC' : ι X.cid = some iC := (h.low _ hcl).trans hiC
  refine region_plan 6 false kmix (chkR_mono k20c h.size) fun W hW => ?_
  have hBW : ∀ w', Below W.heap.size W w' → Below w.heap.size w w' := fun w' hb => by
    subst hW
    exact ((Below.refl w.heap.size w).drew).trans hb
  obtain ⟨q3, hq3⟩ : ∃ q3, a.eval (.tmp 3) = q3 := ⟨_, rfl⟩
  have hr3 : VRel ι X.nv q3 := by rw [← hq3]; exact h.s3
  obtain ⟨ad, had⟩ : ∃ ad, q3 = .pointer (some ad) := by cases hr3 with | ptr id off i hi => exact ⟨_, rfl⟩
  obtain ⟨qf, hqf1, hqf2⟩ : ∃ qf, (∀ w', (Instr.fieldAt 71 q3 3).run kP w' = .ok qf w') ∧ VRel ι X.pC qf := by
    obtain ⟨u, hu, hur⟩ := afieldAddr_ok hr3 hX.fa w
    refine ⟨u, fun w' => ?_, hur⟩
    obtain ⟨u', hu', hur'⟩ := afieldAddr_ok hr3 hX.fa w'
    rw [hu']
    rw [ptr_uniq (aload_ptr hX.ld) hur' hur]
  have hld : ∀ w', Below w.heap.size w w' → (Instr.loadAt 69 qf).run kP w' = .ok (.map (some X.bC)) w' := fun w' hb => by
    have hro := (h.inv.still hb).ro
    rw [← kHro_get] at hro
    obtain ⟨u, hu, hur⟩ := aload_ok hro hqf2 hX.ld
    rw [hu]
    cases hur with
    | map id i hi => rw [hiC'] at hi; cases hi; rw [hiCb]
  obtain ⟨o0, ho0, hd0, hp0, hg0⟩ := opG_at (show opG kOps20 0 = some (some 121, .move (.tmp 3), none) by kernel_rfl)
  obtain ⟨o1, ho1, hd1, hp1, hg1⟩ := opG_at (show opG kOps20 1 = some (some 122, .nilCheck (.tmp 121), none) by kernel_rfl)
  obtain ⟨o2, ho2, hd2, hp2, hg2⟩ := opG_at (show opG kOps20 2 = some (some 123, .fieldAddr 71 (.tmp 122) 3, none) by kernel_rfl)
  obtain ⟨o3, ho3, hd3, hp3, hg3⟩ := opG_at (show opG kOps20 3 = some (some 124, .load 69 (.tmp 123), none) by kernel_rfl)
  obtain ⟨o4, ho4, hd4, hp4, hg4⟩ := opG_at (show opG kOps20 4 = some (some 125, .move (.tmp 10), none) by kernel_rfl)
  obtain ⟨o5, ho5, hd5, hp5, hg5⟩ := opG_at (show opG kOps20 5 = some (some 126, .load 92 (.tmp 15), none) by kernel_rfl)
  obtain ⟨o6, ho6, hd6, hp6, hg6⟩ := opG_at (show opG kOps20 6 = some (none, .mapUpdate 69 (.tmp 124) (.tmp 125) (.tmp 126), none) by kernel_rfl)
  have wtd : ∀ {o : Oper} (hg : o.guard = none) (a : Act), Region.wanted o (yielded kOps20 a.tmps) = true := fun hg a => by simp only [Region.wanted, hg]
  have sz1 : ∀ {a : Act} {d : Option Tmp} {v : Value}, 128 ≤ a.tmps.size → 128 ≤ (a.put d v).tmps.size := fun h => by rw [put_size]; exact h
  have z0 := h.size
  have z1 := sz1 (d := some 121) (v := q3) z0
  have z2 := sz1 (d := some 122) (v := q3) z1
  have z3 := sz1 (d := some 123) (v := qf) z2
  have z4 := sz1 (d := some 124) (v := .map (some X.bC)) z3
  have z5 := sz1 (d := some 125) (v := e.key) z4
  have z6 := sz1 (d := some 126) (v := v) z5
  refine plan_fix (N := some 121) (v := q3) (a' := fun _ => a.put (some 121) q3) ho0 hd0 (fun u w' hB hvr => step_val (wtd hg0 _) (by rw [exec_move hp0, hq3]) ⟨rfl, Below.refl _ _⟩) (fun _ => rfl) ?_
  refine plan_fix (N := some 122) (v := q3) (a' := fun _ => (a.put (some 121) q3).put (some 122) q3) ho1 hd1 (fun u w' hB hvr => step_val (wtd hg1 _) (by rw [exec_nil hp1 (ad := ad) (by rw [eval_put_same (by omega)]; exact had), had]) ⟨rfl, Below.refl _ _⟩) (fun _ => rfl) ?_
  refine plan_fix (N := some 123) (v := qf) (a' := fun _ => ((a.put (some 121) q3).put (some 122) q3).put (some 123) qf) ho2 hd2 (fun u w' hB hvr => step_val (wtd hg2 _) (exec_fa hp2 (by rw [eval_put_same (by omega)]; exact hqf1 _)) ⟨rfl, Below.refl _ _⟩) (fun _ => rfl) ?_
  refine plan_fix (N := some 124) (v := .map (some X.bC)) (a' := fun _ => (((a.put (some 121) q3).put (some 122) q3).put (some 123) qf).put (some 124) (.map (some X.bC))) ho3 hd3 (fun u w' hB hvr => step_val (wtd hg3 _) (exec_load hp3 (by rw [eval_put_same (by omega)]; exact hld _ (hBW _ hB))) ⟨rfl, Below.refl _ _⟩) (fun _ => rfl) ?_
  refine plan_fix (N := some 125) (v := e.key) (a' := fun _ => ((((a.put (some 121) q3).put (some 122) q3).put (some 123) qf).put (some 124) (.map (some X.bC))).put (some 125) e.key) ho4 hd4 (fun u w' hB hvr => step_val (wtd hg4 _) (by
    rw [exec_move hp4, eval_put_ne (by decide), eval_put_ne (by decide), eval_put_ne (by decide), eval_put_ne (by decide), hk]) ⟨rfl, Below.refl _ _⟩) (fun _ => rfl) ?_
  refine plan_fix (N := some 126) (v := v) (a' := fun _ => (((((a.put (some 121) q3).put (some 122) q3).put (some 123) qf).put (some 124) (.map (some X.bC))).put (some 125) e.key).put (some 126) v) ho5 hd5 (fun u w' hB hvr => step_val (wtd hg5 _) (exec_load hp5 (by
    rw [eval_put_ne (by decide), eval_put_ne (by decide), eval_put_ne (by decide), eval_put_ne (by decide), eval_put_ne (by decide)]; exact hl _ (hBW _ hB))) ⟨rfl, Below.refl _ _⟩) (fun _ => rfl) ?_
  refine plan_rest #[true, true, true, true, true, true, false] rfl (n := 1) (by rw [k20s]) k20l fun u w' hB _ => ?_
  have hB := hBW _ hB
  refine ⟨fun e => (by rw [k20r] at e; cases e), fun i hi => ?_⟩
  rw [k20r] at hi
  obtain rfl : i = 6 := by simpa using hi
  have hcw : w'.heap[X.bC]? = some (.map ces cc) := (hB.block _ (lt_of_at hc1)).trans hc1
  have hup : (Instr.mapUpdate 69 (.map (some X.bC)) e.key v).run kP w' = .ok () (ChangeMaps.setBlock w' X.bC (.map (ces.push { key := e.key, val := v, born := cc }) (cc + 1))) := by
    obtain ⟨_, hck⟩ := keyOk_ok (ι := ι) (k := e.key) (k' := e.key) (kd := .string) (empty := false) kuS (by rw [hes]; exact .string s) (by rw [hes]; rfl) w'
    have hfk : (Instr.findKey 9 e.key ces.toList).run kP w' = .ok none w' := by
      rcases MapKept.findNow_spec (d := .string) (k := e.key) (by rw [hes]; trivial) ces.toList 0 (fun x hx => by
        obtain ⟨y, hy, _, hyk, _⟩ := hc2 x hx
        obtain ⟨s', _, _, hs', _⟩ := hX.keys y hy
        rw [← hyk, hs']
        trivial) with ⟨h1, h2⟩ | ⟨j, e0, h1, h2, h3⟩
      · exact MapKept.run_findKey kuS h1
      · obtain ⟨y, hy, hys, hyk, _⟩ := hc2 e0 (List.mem_of_getElem? h2)
        obtain rfl := hX.kdist y hy e he (hyk.trans h3)
        rw [hys] at hns
        cases hns
    simp only [Instr.mapUpdate, Sem.run_bind, run_underlying kuM, Result.andThen_ok, run_getObj hcw, hck, hfk]
    exact run_setObj hcw _
  unfold wpOp
  rw [ho6]
  dsimp only
  rw [if_pos (wtd hg6 _)]
  refine .inl ?_
  unfold Oper.wp
  have e3 : ((((((a.put (some 121) q3).put (some 122) q3).put (some 123) qf).put (some 124) (.map (some X.bC))).put (some 125) e.key).put (some 126) v).eval (.tmp 126) = v := eval_put_same (by omega)
  have e2 : ((((((a.put (some 121) q3).put (some 122) q3).put (some 123) qf).put (some 124) (.map (some X.bC))).put (some 125) e.key).put (some 126) v).eval (.tmp 125) = e.key := by
    rw [eval_put_ne (by decide), eval_put_same (by omega)]
  have e1 : ((((((a.put (some 121) q3).put (some 122) q3).put (some 123) qf).put (some 124) (.map (some X.bC))).put (some 125) e.key).put (some 126) v).eval (.tmp 124) = .map (some X.bC) := by
    rw [eval_put_ne (by decide), eval_put_ne (by decide), eval_put_same (by omega)]
  rw [exec_upd hp6 (by rw [e1, e2, e3]; exact hup)]
  rw [Oper.upon_skip, hd6]
  refine ⟨k20e, ?_⟩
  have hcore : KCore X ι M (seen.push e.born) a (ChangeMaps.setBlock w' X.bC (.map (ces.push { key := e.key, val := v, born := cc }) (cc + 1))) := by
    obtain ⟨c0, i1, i2⟩ := h.iter
    exact { h with
      inv := inv_outside (h.inv.still hB) (below_set hX.baseC) fun id i o h1 h2 => set_ne (hX.apart id i o (by rw [← h.low id (KX.H_low h2)]; exact h1) h2)
      iter := ⟨c0, i1, by rw [set_ne (by have := hX.ltC; omega)]; exact (hB.block _ (lt_of_at i2)).trans i2⟩
      mapF := by rw [set_ne hX.neF]; exact (hB.block _ (lt_of_at h.mapF)).trans h.mapF }
  have hvk : VRel ι e.key e.key := by rw [hes]; exact .string s
  have hvm : VRel ι (.map (some X.cid)) (.map (some X.bC)) := by rw [← hiCb]; exact .map X.cid iC hiC'
  have c1 := hcore.put (d := 121) (by decide) (by decide) (by decide) hr3
  have c2 := c1.put (d := 122) (by decide) (by decide) (by decide) hr3
  have c3 := c2.put (d := 123) (by decide) (by decide) (by decide) hqf2
  have c4 := c3.put (d := 124) (by decide) (by decide) (by decide) hvm
  have c5 := c4.put (d := 125) (by decide) (by decide) (by decide) hvk
  have c6 := c5.put (d := 126) (by decide) (by decide) (by decide) (VRel.of_flat hfv)
  have hk2 := KTab.add hX he ho hc2 hc3 (set_at (lt_of_at hcw)) (w' := ChangeMaps.setBlock w' X.bC (.map (ces.push { key := e.key, val := v, born := cc }) (cc + 1)))
  have h9 := hQ _ _ c6 hk2
  simp only [Act.put] at h9 ⊢
  exact h9
end Go.Proofs.YtonlcjnceooogaaGreatDoor
end
section
/- wf.known: the loop. -/
set_option autoImplicit false
set_option linter.unusedSimpArgs false
set_option linter.unusedVariables false
namespace Go.Proofs.YtonlcjnceooogaaGreatDoor
open Go Go.RowKit Go.Proofs.YtonlcjnceooogaaGreatDoor.Abs

theorem noNG_k : noNG kP = true := by kernel_rfl
theorem known_loop {X : KX} (hX : KFix X) (hG : ∀ w ι, Below X.base X.w0.w w → GivenOk kP w.heap.size ⟨w, ι⟩ X.G) {Q : Exit → Act → World → Prop} (hQ : ∀ ι M seen a w, KCore X ι M seen a w → KTab X seen w → (leftOf X.es seen).size = 0 → Q (.exit 2) a w) :
    ∀ (n : Nat) (ι : Nat → Option Abs.Loc) (M : Nat) (seen : Array Nat) (a : Act) (w : World), (leftOf X.es seen).size = n → M + 512 * n ≤ 1 + 512 * X.es.size → KCore X ι M seen a w → KTab X seen w → LoopFrom kP kL Q a w := by
  intro n
  induction n using Nat.strongRecOn with
  | ind n ih =>
  intro ι M seen a w hn hroom hc ht
  obtain ⟨o0, ho0, hd0, hp0, hg0⟩ := opG_at (show opG kOps13 0 = some (some 84, .next (.tmp 83) false, none) by kernel_rfl)
  obtain ⟨o1, ho1, hd1, hp1, hg1⟩ := opG_at (show opG kOps13 1 = some (some 85, .extract (.tmp 84) 0, none) by kernel_rfl)
  have sz : ∀ {a : Act} {d : Option Tmp} {v : Value}, 128 ≤ a.tmps.size → 128 ≤ (a.put d v).tmps.size := fun h => by rw [put_size]; exact h
  refine LoopFrom.round ?_
  show (Code.seq (.region 13 kOps13 false) kTail).wp kP _ a w
  refine wp_seq ?_
  refine wp_regionO k13s fun ops hops => ?_
  rw [← hops] at ho0 ho1
  rw [show List.range 2 = [0, 1] from rfl]
  obtain ⟨c0, hc0, hit⟩ := hc.iter
  rcases run_next_at w o0.type X.r X.bF X.clock c0 seen X.es X.clock hit hc.mapF hX.old hc0 with ⟨h0, hrun⟩ | ⟨e, he, w1, hw1, hrun⟩
  · have z1 := sz (d := some 84) (v := .tuple #[.bool false]) hc.size
    refine wpOps_step ho0 hg0 (exec_next hp0 (by rw [show a.eval (.tmp 83) = _ from hc.it]; exact hrun)) ?_
    rw [hd0]
    refine wpOps_step ho1 hg1 (exec_ext hp1 (v := .bool false) (by rw [eval_put_same (by have := hc.size; omega)]; exact run_extract rfl)) ?_
    rw [hd1]
    show (kTail).wp kP _ _ w
    unfold kTail
    refine wp_seq (wp_cond_false (eval_put_same (by omega)) (wp_exit ?_))
    refine hQ ι M seen _ _ ((hc.put (by decide) (by decide) (by decide) (VRel.of_flat (v := .tuple #[.bool false]) rfl)).put (by decide) (by decide) (by decide) (VRel.bool false)) ht h0
  · obtain ⟨hem, hns⟩ := mem_left he
    obtain ⟨s, kk, z, hes, hez⟩ := hX.keys e hem
    obtain ⟨hc2, ht2⟩ := hc.next hX hw1 e.born
    have ht2 := ht2 ht
    generalize hw2 : ChangeMaps.setBlock w1 X.r (.mapIter (some X.bF) X.clock (seen.push e.born) X.clock) = w2 at hrun hc2 ht2
    have z1 := sz (d := some 84) (v := .tuple #[.bool true, e.key, e.val]) hc.size
    refine wpOps_step ho0 hg0 (exec_next hp0 (by rw [show a.eval (.tmp 83) = _ from hc.it]; exact hrun)) ?_
    rw [hd0]
    refine wpOps_step ho1 hg1 (exec_ext hp1 (v := .bool true) (by rw [eval_put_same (by have := hc.size; omega)]; exact run_extract rfl)) ?_
    rw [hd1]
    have z2 := sz (d := some 85) (v := .bool true) z1
    show (kTail).wp kP _ _ w2
    unfold kTail
    refine wp_seq (wp_cond_true (eval_put_same (by omega)) (wp_skip ?_))
    obtain ⟨p0, hpo0, hpd0, hpp0, hpg0⟩ := opG_at (show opG kOps14 0 = some (some 86, .entry (.tmp 83), none) by kernel_rfl)
    obtain ⟨p1, hpo1, hpd1, hpp1, hpg1⟩ := opG_at (show opG kOps14 1 = some (some 87, .extract (.tmp 86) 0, none) by kernel_rfl)
    obtain ⟨p2, hpo2, hpd2, hpp2, hpg2⟩ := opG_at (show opG kOps14 2 = some (some 88, .extract (.tmp 86) 1, none) by kernel_rfl)
    obtain ⟨p3, hpo3, hpd3, hpp3, hpg3⟩ := opG_at (show opG kOps14 3 = some (some 10, .assign (.tmp 87), none) by kernel_rfl)
    obtain ⟨p4, hpo4, hpd4, hpp4, hpg4⟩ := opG_at (show opG kOps14 4 = some (some 11, .assign (.tmp 88), none) by kernel_rfl)
    refine wp_block (wp_seq (wp_regionO k14s fun ops2 hops2 => ?_))
    rw [← hops2] at hpo0 hpo1 hpo2 hpo3 hpo4
    rw [show List.range 5 = [0, 1, 2, 3, 4] from rfl]
    have hkey : VRel ι e.key e.key := by rw [hes]; exact .string s
    have hval : VRel ι e.val e.val := by rw [hez]; exact .int kk z
    have htup : VRel ι (.tuple #[e.key, e.val]) (.tuple #[e.key, e.val]) := two hkey hval
    have htup3 : VRel ι (.tuple #[.bool true, e.key, e.val]) (.tuple #[.bool true, e.key, e.val]) := VRel.of_flat (by rw [hes, hez]; rfl)
    have hen : (Instr.entry (.pointer (some ⟨X.r, 0, none⟩))).run kP w2 = .ok (.tuple #[e.key, e.val]) w2 := by
      obtain ⟨c1, _, hit2⟩ := hc2.iter
      have hit3 : w2.heap[X.r]? = some (.mapIter (some X.bF) X.clock (seen.push e.born) X.clock) := by
        rw [← hw2]
        exact set_at (by
          have : w1.heap = w.heap := by rcases hw1 with rfl | rfl <;> rfl
          rw [this]
          exact lt_of_at hit)
      exact run_entry_at w2 X.r X.bF X.clock seen X.es X.clock e hit3 hc2.mapF hem hX.nodup
    have hA := ((hc2.put (d := 84) (by decide) (by decide) (by decide) htup3).put (d := 85) (by decide) (by decide) (by decide) (VRel.bool true))
    refine wpOps_step hpo0 hpg0 (exec_entry hpp0 (by rw [show Act.eval _ (.tmp 83) = _ from hA.it]; exact hen)) ?_
    rw [hpd0]
    have z3 := sz (d := some 86) (v := .tuple #[e.key, e.val]) z2
    refine wpOps_step hpo1 hpg1 (exec_ext hpp1 (v := e.key) (by rw [eval_put_same (by omega)]; exact run_extract rfl)) ?_
    rw [hpd1]
    have z4 := sz (d := some 87) (v := e.key) z3
    refine wpOps_step hpo2 hpg2 (exec_ext hpp2 (v := e.val) (by rw [eval_put_ne (by decide), eval_put_same (by omega)]; exact run_extract rfl)) ?_
    rw [hpd2]
    have z5 := sz (d := some 88) (v := e.val) z4
    refine wpOps_step hpo3 hpg3 (exec_assign hpp3) ?_
    rw [hpd3, eval_put_ne (show 88 ≠ 87 by decide), eval_put_same (by omega)]
    have z6 := sz (d := some 10) (v := e.key) z5
    refine wpOps_step hpo4 hpg4 (exec_assign hpp4) ?_
    rw [hpd4, eval_put_ne (show 10 ≠ 88 by decide), eval_put_same (by omega)]
    have hB := ((((hA.put (d := 86) (by decide) (by decide) (by decide) htup).put (d := 87) (by decide) (by decide) (by decide) hkey).put (d := 88) (by decide) (by decide) (by decide) hval).put (d := 10) (by decide) (by decide) (by decide) hkey).put (d := 11) (by decide) (by decide) (by decide) hval
    have hB10 := eval_put_same (v := e.key) (show 10 < _ from Nat.lt_of_lt_of_le (by decide) z5)
    have hB11 := eval_put_same (v := e.val) (show 11 < _ from Nat.lt_of_lt_of_le (by decide) z6)
    rw [← eval_put_ne (show 11 ≠ 10 by decide) (v := e.val)] at hB10
    show (nest kPs _).wp kP _ _ w2
    generalize (((((((a.put (some 84) (.tuple #[.bool true, e.key, e.val])).put (some 85) (.bool true)).put (some 86) (.tuple #[e.key, e.val])).put (some 87) e.key).put (some 88) e.val).put (some 10) e.key).put (some 11) e.val) = aB at hB hB10 hB11 ⊢
    obtain ⟨ET, hsub, hEnv⟩ := env_exists (E := kE X.v0 X.nv e.key e.val) hB.slots (fun t v hv => by
      rcases kE_get hv with ⟨rfl, rfl⟩ | ⟨rfl, rfl⟩ | ⟨rfl, rfl⟩ | ⟨rfl, rfl⟩
      · exact hB.s0
      · exact hB.s3
      · rw [show aB.tmps.getD 10 undef = e.key from hB10]; exact hkey
      · rw [show aB.tmps.getD 11 undef = e.val from hB11]; exact hval)
    obtain ⟨ex, s', hch, hout⟩ := hX.piece e hem ET hsub
    have hro := hB.inv.ro
    rw [← kHro_get] at hro
    have hN : X.h.n + M ≤ X.hr.n := by
      show _ ≤ X.h.n + (1 + 512 * X.es.size)
      omega
    refine ChainR.ok noNG_k (adraw_ok noNG_k kmix) (hG w2 ι hB.inv.below) hch hro hEnv hB.size (Nat.le_trans hX.glob (Nat.le_trans (Nat.le_add_right _ _) hN)) (fun id hid => hB.free id (Nat.le_trans hN hid)) fun e' a' w' hp => ?_
    obtain ⟨ι', t, hI', hE', hl', hd', hx⟩ := hp
    have hBl : Below w2.heap.size w2 w' := hI'.below
    have hfr : ∀ t v, (t = 0 ∨ t = 3 ∨ t = 10 ∨ t = 83) → ET.get t = some v → VRel ι' v (a'.tmps.getD t undef) := fun t v ht hv => by
      have := hE' t
      rw [ChainR.frame hch t (kfr t ht), hv] at this
      exact this
    have h83 : a'.tmps.getD 83 undef = .pointer (some ⟨X.r, 0, none⟩) := by
      have h1 := hEnv 83
      rw [hB.it] at h1
      cases hg : ET.get 83 with
      | none => rw [hg] at h1; cases h1
      | some v =>
        rw [hg] at h1
        exact ptr_same t.grow h1 (hfr 83 v (.inr (.inr (.inr rfl))) hg)
    have hcore := hB.later hX hN rfl t hE'.slots hl' hd' hBl hI'.lt (hfr 0 _ (.inl rfl) (hsub _ _ kE_at0)) (hfr 3 _ (.inr (.inl rfl)) (hsub _ _ kE_at3)) h83
    have hk10 : a'.eval (.tmp 10) = e.key := by
      have := hfr 10 _ (.inr (.inr (.inl rfl))) (hsub _ _ kE_at10)
      show a'.tmps.getD 10 undef = _
      rw [hes] at this ⊢
      exact this.flat_eq rfl
    have hsame : w'.heap[X.bC]? = w2.heap[X.bC]? := by
      obtain ⟨ces, cc, h1, _⟩ := ht2
      exact hBl.block _ (lt_of_at h1)
    have hlt := left_shrinks X.es seen e he
    have hb := hout.1
    have again : ∀ a2 w2', KCore X (later (X.h.n + M) X.hr.n s'.h.n ι ι') (M + (s'.h.n - X.hr.n)) (seen.push e.born) a2 w2' → KTab X (seen.push e.born) w2' → LoopFrom kP kL Q a2 w2' := fun a2 w2' k1 k2 => by
      refine ih _ (by rw [← hn]; exact hlt) _ _ _ a2 w2' rfl ?_ k1 k2
      have : (leftOf X.es (seen.push e.born)).size + 1 ≤ n := by rw [← hn]; exact hlt
      omega
    obtain ⟨_, hout⟩ := hout
    cases hox : X.out e with
    | none =>
      rw [hox] at hout
      have ht3 := KTab.none hX hem hox hsame ht2
      rcases hout with rfl | ⟨rfl, h120⟩
      · subst hx
        show Exit.inBlock 3 (Exit.then (LoopFrom kP kL Q) Q) (.exit 3) a' w'
        exact inBlock_hit (Q := Exit.then (LoopFrom kP kL Q) Q) (again a' w' hcore ht3)
      · subst hx
        have h1 : a'.eval (.tmp 120) = .bool false := by
          have := hE' 120
          rw [h120] at this
          exact this.flat_eq rfl
        exact wp_cond_false h1 (wp_skip (again a' w' hcore ht3))
    | some v =>
      rw [hox] at hout
      obtain ⟨rfl, h120, hfv, p, h15, hld⟩ := hout
      subst hx
      have h1 : a'.eval (.tmp 120) = .bool true := by
        have := hE' 120
        rw [h120] at this
        exact this.flat_eq rfl
      have hp15 : VRel ι' p (a'.eval (.tmp 15)) := by
        have := hE' 15
        rw [h15] at this
        exact this
      refine wp_cond_true h1 (k20_ok hX hcore (KTab.at_ ht2 hsame) hem hns hox hfv hk10 (fun w3 hb3 => ?_) fun a3 w3 k1 k2 => again a3 w3 k1 k2)
      obtain ⟨v', hv', hvr⟩ := aload_ok (hI'.still hb3) hp15 hld
      rw [hv', hvr.flat_eq hfv]
end Go.Proofs.YtonlcjnceooogaaGreatDoor
end
section
/- wf.known: the whole function. -/
set_option autoImplicit false
set_option linter.unusedSimpArgs false
set_option linter.unusedVariables false
namespace Go.Proofs.YtonlcjnceooogaaGreatDoor
open Go Go.RowKit Go.Proofs.YtonlcjnceooogaaGreatDoor.Abs

/-! ### The whole function -/
def kOutOf : List MapEntry → List (Option Value) → MapEntry → Option Value
  | x :: r, o :: l, y => if x.born = y.born then o else kOutOf r l y
  | _, _, _ => none
theorem kNot_ok {s : ByteArray} {b : Nat} : ∀ {r : List MapEntry}, kNot s b r = true → ∀ y ∈ r, y.born ≠ b ∧ y.key ≠ .string s
  | [], _, y, hy => by cases hy
  | x :: r, h, y, hy => by
    have h' : ((match x.key with | .string t => !(beqB s t) | _ => false) && (!(Nat.beq b x.born) && kNot s b r)) = true := h
    rw [Bool.and_eq_true, Bool.and_eq_true] at h'
    obtain ⟨h1, h2, h3⟩ := h'
    rcases List.mem_cons.1 hy with rfl | hy
    · refine ⟨fun e => ?_, fun e => ?_⟩
      · rw [e, Nat.beq_refl] at h2
        cases h2
      · rw [e] at h1
        simp [beqB] at h1
    · exact kNot_ok h3 y hy
theorem kOkE_ok {c : Nat} : ∀ {es : List MapEntry}, kOkE c es = true → (∀ x ∈ es, ∃ s k z, x.key = .string s ∧ x.val = .int k z) ∧ (∀ x ∈ es, x.born < c) ∧ (es.map (·.born)).Nodup ∧ ∀ x ∈ es, ∀ y ∈ es, x.key = y.key → x = y
  | [], _ => ⟨fun x h => (by cases h), fun x h => (by cases h), List.nodup_nil, fun x h => (by cases h)⟩
  | x :: r, h => by
    have h' : ((match x.key, x.val with | .string s, .int _ _ => (Nat.ble (Nat.succ x.born) c && kNot s x.born r) | _, _ => false) && kOkE c r) = true := h
    rw [Bool.and_eq_true] at h'
    obtain ⟨h1, h2⟩ := h'
    obtain ⟨i1, i2, i3, i4⟩ := kOkE_ok h2
    split at h1
    · rename_i s k z hk hv
      rw [Bool.and_eq_true] at h1
      have hn := kNot_ok h1.2
      refine ⟨fun y hy => ?_, fun y hy => ?_, ?_, fun y hy y' hy' e => ?_⟩
      · rcases List.mem_cons.1 hy with rfl | hy
        · exact ⟨s, k, z, hk, hv⟩
        · exact i1 y hy
      · rcases List.mem_cons.1 hy with rfl | hy
        · exact Nat.le_of_ble_eq_true h1.1
        · exact i2 y hy
      · rw [List.map_cons, List.nodup_cons]
        refine ⟨fun hm => ?_, i3⟩
        obtain ⟨y, hy, e⟩ := List.mem_map.1 hm
        exact (hn y hy).1 e
      · rcases List.mem_cons.1 hy with e1 | hy
        · rcases List.mem_cons.1 hy' with e2 | hy'
          · exact e1.trans e2.symm
          · exact absurd (e.symm.trans (by rw [e1]; exact hk)) (hn y' hy').2
        · rcases List.mem_cons.1 hy' with e2 | hy'
          · exact absurd (e.trans (by rw [e2]; exact hk)) (hn y hy).2
          · exact i4 y hy y' hy' e
    · cases h1
theorem ents_same {ι : Nat → Option Abs.Loc} : ∀ {es l : List MapEntry}, (∀ x ∈ es, ∃ s k z, x.key = .string s ∧ x.val = .int k z) → ERel ι es l → l = es
  | [], [], _, _ => rfl
  | x :: es, y :: l, hk, ⟨⟨h1, h2, h3⟩, h⟩ => by
    obtain ⟨s, k, z, e1, e2⟩ := hk x List.mem_cons_self
    have hv : y.val = x.val := by rw [e2] at h3 ⊢; exact h3.flat_eq rfl
    obtain ⟨a, b, c⟩ := x
    obtain ⟨a', b', c'⟩ := y
    simp only at h1 h2 hv
    subst h1 h2 hv
    rw [ents_same (fun x hx => hk x (List.mem_cons_of_mem _ hx)) h]
theorem kOutOf_ok {G : GivenT} {v0 v3 : Value} {hr : Hp} : ∀ {es : List MapEntry} {l : List (Option Value)}, (es.map (·.born)).Nodup → KRounds G v0 v3 hr es l → ∀ x ∈ es, KPiece G v0 v3 hr x (kOutOf es l x)
  | [], l, _, _, x, hx => by cases hx
  | y :: r, _, hn, ⟨o, l, rfl, h1, h2⟩, x, hx => by
    rw [List.map_cons, List.nodup_cons] at hn
    show KPiece G v0 v3 hr x (if y.born = x.born then o else kOutOf r l x)
    rcases List.mem_cons.1 hx with rfl | hx
    · rw [if_pos rfl]; exact h1
    · rw [if_neg (fun e => hn.1 (List.mem_map.2 ⟨x, hx, e.symm⟩))]
      exact kOutOf_ok hn.2 h2 x hx
theorem kTab_ok {G : GivenT} {v0 v3 : Value} {hr : Hp} (s : ByteArray) : ∀ {es : List MapEntry} {l : List (Option Value)}, (es.map (·.born)).Nodup → KRounds G v0 v3 hr es l → match assocT (kTab es l) s with
    | some v => ∃ x ∈ es, x.key = .string s ∧ kOutOf es l x = some v
    | none => ∀ x ∈ es, x.key = .string s → kOutOf es l x = none
  | [], _, _, h => by
    obtain rfl : _ = [] := h
    intro x hx
    cases hx
  | y :: r, _, hn, ⟨o, l, rfl, h1, h2⟩ => by
    rw [List.map_cons, List.nodup_cons] at hn
    have ih := kTab_ok s hn.2 h2
    have hne : ∀ x ∈ r, kOutOf (y :: r) (o :: l) x = kOutOf r l x := fun x hx => if_neg (fun e => hn.1 (List.mem_map.2 ⟨x, hx, e.symm⟩))
    have hyy : kOutOf (y :: r) (o :: l) y = o := if_pos rfl
    have skip : (∀ v, y.key = .string s → o ≠ some v) → assocT (kTab (y :: r) (o :: l)) s = assocT (kTab r l) s → match assocT (kTab (y :: r) (o :: l)) s with
        | some v => ∃ x ∈ y :: r, x.key = .string s ∧ kOutOf (y :: r) (o :: l) x = some v
        | none => ∀ x ∈ y :: r, x.key = .string s → kOutOf (y :: r) (o :: l) x = none := fun hno he => by
      rw [he]
      cases hv : assocT (kTab r l) s with
      | some v =>
        rw [hv] at ih
        obtain ⟨x, hx, e1, e2⟩ := ih
        exact ⟨x, List.mem_cons_of_mem _ hx, e1, by rw [hne x hx]; exact e2⟩
      | none =>
        rw [hv] at ih
        intro x hx hk
        rcases List.mem_cons.1 hx with rfl | hx
        · rw [hyy]
          cases o with
          | none => rfl
          | some v => exact absurd rfl (hno v hk)
        · rw [hne x hx]; exact ih x hx hk
    cases o with
    | none => exact skip (fun v _ e => by cases e) rfl
    | some v =>
      cases hk : y.key with
      | string t =>
        have e1 : kTab (y :: r) (some v :: l) = (t, v) :: kTab r l := by
          show (match y.key with | .string s => (s, v) :: kTab r l | _ => kTab r l) = _
          rw [hk]
        by_cases hb : beqB s t = true
        · have hst : s = t := str_eq (by simpa [beqB] using hb)
          rw [e1]
          show match (if beqB s t = true then some v else assocT (kTab r l) s) with | some v => _ | none => _
          rw [if_pos hb]
          exact ⟨y, List.mem_cons_self, by rw [hk, hst], hyy⟩
        · refine skip (fun u hu => ?_) ?_
          · rw [hk] at hu
            cases hu
            exact absurd (by simp [beqB]) hb
          · rw [e1]
            show (if beqB s t = true then some v else assocT (kTab r l) s) = _
            rw [if_neg hb]
      | _ => exact skip (fun u hu => by rw [hk] at hu; cases hu) (by show assocT (match y.key with | .string s => (s, v) :: kTab r l | _ => kTab r l) s = _; rw [hk])
theorem k12m : [0, 1, 2, 3].map (kOps12[·]?) = (kOps12.toList.take 4).map some := by kernel_rfl
theorem kbody : Tryz.f53.body = some (bodyOf kP 53) := by kernel_rfl
theorem kntm : Tryz.f53.ntmps = 128 := by kernel_rfl
theorem kres : Tryz.f53.results = #[.tmp 2] := by kernel_rfl
theorem known_ok {base : Nat} {w0 : Abs.Start} {G : GivenT} (hG0 : GivenOk kP base w0 G) (hG : ∀ w ι, Below base w0.w w → GivenOk kP w.heap.size ⟨w, ι⟩ G) : NatOk kP base w0 53 (natKnown G) := by
  intro args h r h' hg
  obtain ⟨v, rfl, hrun⟩ := natKnown_run hg
  obtain ⟨s3, s4, fid, es, c, wr, cid, cc, nb, no, pC, outs, v0, a1, a2, a3, a4, a5, a6, a7, a8, a9, a10, a11, a12, a13, a14, a15, rfl, rfl⟩ := hrun
  have hD : DrawOk kP base w0 := adraw_ok noNG_k kmix
  have n3 : h.n ≤ s3.h.n := a1.n noNG_k hD hG0
  have n4 := (a2.ok noNG_k hD hG0).1
  refine ⟨Nat.le_trans n3 n4, fun ι w args' hI hr hgl hf => ?_⟩
  refine calls_of_wp Tryz.func53 kbody ?_
  rw [kBody_eq]
  refine ChainR.ok noNG_k hD hG0 a1 hI (args0_rel hr _ _) (by rw [kntm]; simp; omega) hgl hf fun e' b3 w3 hp => ?_
  obtain ⟨ι3, t3, hI3, hE3, hl3, hd3, rfl⟩ := hp
  have f3 := t3.fresh hf
  obtain ⟨o4, ho4, hdo4, hp4, hg4⟩ := opG_at (show opG kOps12 4 = some (some 83, .range 64 (.tmp 82), none) by kernel_rfl)
  have hk12 := k12m
  refine wp_seq (wp_seq (wp_regionO k12s fun ops hops => ?_))
  rw [← hops] at ho4 hk12 a2
  rw [show List.range 5 = [0, 1, 2, 3] ++ [4] from rfl]
  refine wpOps_append _ _ _ (wpOps_mono (fun e b4 w4 hp => ?_) _ _ _ ((a2.ok noNG_k hD hG0).2 hk12 hI3 hE3 hl3 (Nat.le_trans hgl n3) f3))
  obtain ⟨ι4, t4, hI4, hE4, hl4, hd4, rfl⟩ := hp
  have f4 := t4.fresh f3
  obtain ⟨k1, k2, k3, k4⟩ := kOkE_ok a5
  -- the map that is gone over, the map that is made
  obtain ⟨iF, hiF, h82⟩ : ∃ iF, ι4 fid = some iF ∧ b4.eval (.tmp 82) = .map (some iF.rb) := by
    have := hE4 82
    rw [a3] at this
    generalize hq : b4.tmps.getD 82 undef = q at this
    cases this with
    | map id i hi => exact ⟨i, hi, hq⟩
  obtain ⟨es', hF1, hF2, _⟩ := hI4.obj fid iF _ hiF a4
  have hes := ents_same k1 hF2
  have r3 := hE4 3
  rw [a7] at r3
  obtain ⟨iC, hiC⟩ : ∃ iC, ι4 cid = some iC := by
    obtain ⟨u, _, hur⟩ := afieldAddr_ok r3 a8 w4
    obtain ⟨u', _, hur'⟩ := aload_ok hI4 hur a9
    cases hur' with
    | map id i hi => exact ⟨i, hi⟩
  obtain ⟨ces, hC1, hC2, hC3⟩ := hI4.obj cid iC _ hiC a11
  have hC3 := hC3 rfl
  have hces : ces = #[] := by
    cases hl : ces.toList with
    | nil => exact Array.toList_eq_nil_iff.1 hl
    | cons x l => rw [hl] at hC2; exact hC2.elim
  refine wpOps_step ho4 hg4 (exec_range hp4 (by rw [h82]; exact run_range_map w4 _ _ _ _ _ _ kuF hF1)) ?_
  rw [hdo4]
  have hFlt := lt_of_at hF1
  have hClt := lt_of_at hC1
  have hbase4 : base ≤ w4.heap.size := Nat.le_trans hI4.base_le hI4.below.size
  have hne : iF.rb ≠ iC.rb := fun e => (hI4.inj cid fid iC iF _ _ hiC hiF a11 a4 (fun x => a12 x.symm) rfl) e.symm
  have hX : KFix ⟨base, w0, G, ι4, s4.h, cid, es', c, iF.rb, iC.rb, w4.heap.size, v0, nb, no, pC, kOutOf es outs, b4.defers⟩ := by
    have hsz : es'.size = es.length := by rw [← hes, Array.length_toList]
    refine
      { fresh := f4
        glob := Nat.le_trans hgl (Nat.le_trans n3 n4)
        iC := ⟨iC, hiC, rfl⟩
        apart := fun id j o h1 h2 e => ?_
        below := fun id j h1 => hI4.lt id j h1
        baseC := hC3
        ltC := hClt
        ltF := hFlt
        neF := hne
        baseR := hbase4
        nodup := by show (es'.toList.map _).Nodup; rw [hes]; exact k3
        old := by show ∀ x ∈ es'.toList, _; rw [hes]; exact k2
        keys := by show ∀ x ∈ es'.toList, _; rw [hes]; exact k1
        kdist := by show ∀ x ∈ es'.toList, ∀ y ∈ es'.toList, _; rw [hes]; exact k4
        piece := ?_
        fa := a8
        ld := by
          show aload kP _ (kHro s4.h cid es'.size) pC = _
          rw [hsz]; exact a10 }
    · have hlo := KX.H_low h2
      unfold KX.H at h2
      dsimp only at h2 hlo
      rw [if_pos hlo, Tr.get_set] at h2
      split at h2
      · cases h2
      · rename_i hne2
        exact (hI4.inj cid id iC j _ o hiC h1 a11 h2 (fun x => hne2 x.symm) rfl) e.symm
    · show ∀ x ∈ es'.toList, KPiece G v0 _ (kHro s4.h cid es'.size) x _
      rw [hes, hsz]
      exact kOutOf_ok k3 a15
  have hni : ι4 s4.h.n = none := f4 _ (Nat.le_refl _)
  have hgr := Grows.upd hni (⟨w4.heap.size, 0, 0, 0⟩ : Abs.Loc)
  have hBa : Below w4.heap.size w4 (w4.alloc (.mapIter (some iF.rb) c #[] c)) := (Below.refl _ w4).alloc (Nat.le_refl _) _
  have hHsub : Abs.Inv kP base w0 ι4 (KX.H ⟨base, w0, G, ι4, s4.h, cid, es', c, iF.rb, iC.rb, w4.heap.size, v0, nb, no, pC, kOutOf es outs, b4.defers⟩) w4 := hI4.sub fun id o ho => by
    have hlo := KX.H_low ho
    unfold KX.H at ho
    dsimp only at ho hlo
    rw [if_pos hlo, Tr.get_set] at ho
    split at ho
    · cases ho
    · exact ho
  have hcore : KCore ⟨base, w0, G, ι4, s4.h, cid, es', c, iF.rb, iC.rb, w4.heap.size, v0, nb, no, pC, kOutOf es outs, b4.defers⟩ (fupd ι4 s4.h.n (some ⟨w4.heap.size, 0, 0, 0⟩)) 1 #[] (b4.put (some 83) (.pointer (some ⟨w4.heap.size, 0, none⟩))) (w4.alloc (.mapIter (some iF.rb) c #[] c)) := by
    refine
      { low := fun id hid => fupd_ne _ _ _ _ (by intro e; subst e; exact absurd hid (Nat.lt_irrefl _))
        free := fun id hid => by
          dsimp only at hid ⊢
          rw [fupd_ne _ _ _ _ (by omega)]
          exact f4 id (by omega)
        inv := (hHsub.still hBa).wide hgr (fun id o ho => fupd_ne _ _ _ _ (by have := KX.H_low ho; dsimp only at this; omega)) fun id i hi => ?_
        slots := (hE4.slots.grow hgr).put (some 83) (.ptr s4.h.n 0 ⟨w4.heap.size, 0, 0, 0⟩ (fupd_eq _ _ _))
        size := by show 128 ≤ (b4.tmps.setIfInBounds _ _).size; rw [Array.size_setIfInBounds]; exact hl4
        defs := rfl
        s0 := ?_
        s3 := ?_
        it := eval_put_same (by omega)
        iter := ⟨c, Nat.le_refl _, alloc_new _ _⟩
        mapF := (hBa.block _ hFlt).trans hF1 }
    · by_cases e : id = s4.h.n
      · subst e
        rw [fupd_eq] at hi
        cases hi
        show w4.heap.size < (w4.heap.push _).size
        simp
      · rw [fupd_ne _ _ _ _ e] at hi
        exact Nat.lt_of_lt_of_le (hI4.lt id i hi) hBa.size
    · rw [getD_put_ne (by decide)]
      have := hE4 0
      rw [a6] at this
      exact this.grow hgr
    · rw [getD_put_ne (by decide)]
      exact r3.grow hgr
  have htab : KTab ⟨base, w0, G, ι4, s4.h, cid, es', c, iF.rb, iC.rb, w4.heap.size, v0, nb, no, pC, kOutOf es outs, b4.defers⟩ #[] (w4.alloc (.mapIter (some iF.rb) c #[] c)) := by
    refine ⟨ces, cc, (hBa.block _ hClt).trans hC1, fun e he => ?_, fun x hx hs => ?_⟩
    · rw [hces] at he
      cases he
    · simp at hs
  rw [kB2_eq]
  refine wp_block (LoopFrom.wp (known_loop hX hG (fun ιz M seen a w hc ht h0 => ?_) _ _ _ _ _ _ rfl ?_ hcore htab))
  rotate_left
  · have : (leftOf es' #[]).size ≤ es'.size := by unfold leftOf; exact Array.size_filter_le
    show 1 + 512 * (leftOf es' #[]).size ≤ 1 + 512 * es'.size
    omega
  -- behind the loop
  show Exit.inBlock 2 _ (.exit 2) a w
  refine inBlock_hit ?_
  show (Code.seq (.region 21 kOps21 false) .ret).wp kP _ a w
  have hall := all_seen _ _ h0
  obtain ⟨o0, ho0, hdo0, hp0, hg0⟩ := opG_at (show opG kOps21 0 = some (some 127, .move (.tmp 3), none) by kernel_rfl)
  obtain ⟨o1, ho1, hdo1, hp1, hg1⟩ := opG_at (show opG kOps21 1 = some (some 2, .assign (.tmp 127), none) by kernel_rfl)
  refine wp_seq (wp_regionO k21s fun ops21 hops21 => ?_)
  rw [← hops21] at ho0 ho1
  rw [show List.range 2 = [0, 1] from rfl]
  have hsz := hc.size
  refine wpOps_step ho0 hg0 (exec_move hp0) ?_
  rw [hdo0]
  refine wpOps_step ho1 hg1 (exec_assign hp1) ?_
  rw [hdo1, eval_put_same (by omega)]
  refine wp_ret ⟨?_, a.eval (.tmp 3), ?_, ?_⟩
  · show a.defers = []
    rw [hc.defs]
    exact hd4.trans hd3
  · rw [results_eq, kres]
    have : ((a.put (some 127) (a.eval (.tmp 3))).put (some 2) (a.eval (.tmp 3))).tmps.getD 2 undef = a.eval (.tmp 3) := eval_put_same (by rw [put_size]; omega)
    simp [resOf, this]
  have hgz : Grows ι4 ιz := fun id i hi => by
    have hlo : id < s4.h.n := by
      apply Classical.byContradiction
      intro hn
      rw [f4 id (by omega)] at hi
      cases hi
    rw [hc.low id hlo]
    exact hi
  have hHid : ∀ {id : Nat} {i : Abs.Loc} {o : AObj}, ι4 id = some i → id ≠ cid → s4.h.t.get id = some o → ιz id = some i ∧ KX.H ⟨base, w0, G, ι4, s4.h, cid, es', c, iF.rb, iC.rb, w4.heap.size, v0, nb, no, pC, kOutOf es outs, b4.defers⟩ id = some o := fun {id i o} hi hne2 ho => by
    have hlo : id < s4.h.n := by
      apply Classical.byContradiction
      intro hn
      rw [f4 id (by omega)] at hi
      cases hi
    refine ⟨hgz _ _ hi, ?_⟩
    unfold KX.H
    dsimp only
    rw [if_pos hlo, Tr.get_set_ne _ _ _ _ hne2]
    exact ho
  refine ⟨ι4, ?_, ?_, a.eval (.tmp 3), rfl, ?_⟩
  · refine (t3.trans t4).trans ?_
    rw [Tr.get_set_fun]
    exact Turn.at_block _ hiC
  · rw [Tr.get_set_fun]
    refine ⟨hc.inv.below, hc.inv.base_le, hI4.init, fun id i o h1 h2 => ?_, fun id id' i i' o o' h1 h2 h3 h4 hne2 hw => ?_, fun id i h1 => ?_, fun g hg2 hs => ?_⟩
    · by_cases e : id = cid
      · subst e
        rw [fupd_eq] at h2
        cases h2
        rw [hiC] at h1
        cases h1
        obtain ⟨czs, ccz, hz1, hz2, hz3⟩ := ht
        refine ⟨czs, ccz, hz1, fun kt s hkt => ?_⟩
        have htb := kTab_ok s k3 a15
        have hkey : ∀ x ∈ czs.toList, MapKept.IsKey .string x.key := fun x hx => by
          obtain ⟨y, hy, _, hyk, _⟩ := hz2 x hx
          obtain ⟨s', _, _, hs', _⟩ := hX.keys y hy
          rw [← hyk, hs']
          trivial
        rcases MapKept.findNow_spec (d := .string) (k := .string s) trivial czs.toList 0 hkey with ⟨q1, q2⟩ | ⟨j, e0, q1, q2, q3⟩
        · split at htb
          · rename_i v hv
            obtain ⟨x, hx, hxk, hxo⟩ := htb
            obtain ⟨e, he, hek, _⟩ := hz3 x (by rw [hes]; exact hx) (hall x (by rw [hes]; exact hx)) v hxo
            exact absurd (hek.trans hxk) (q2 e he)
          · rename_i hv
            rw [hv]
            exact fun w' => MapKept.run_findKey hkt q1
        · have he0 : e0 ∈ czs.toList := List.mem_of_getElem? q2
          obtain ⟨y, hy, _, hyk, hyo⟩ := hz2 e0 he0
          rw [show KX.es _ = es' from rfl, hes] at hy
          split at htb
          · rename_i v hv
            obtain ⟨x, hx, hxk, hxo⟩ := htb
            obtain rfl := k4 x hx y hy (hxk.trans (hyk.trans q3).symm)
            have hvv : v = e0.val := by
              have := hxo.symm.trans hyo
              exact Option.some.inj this
            rw [hv, hvv]
            have hpc := kOutOf_ok k3 a15 x hx
            rw [hxo] at hpc
            obtain ⟨_, _, _, hko⟩ := hpc _ (fun _ _ h => h)
            refine ⟨by rw [← hvv]; exact hko.2.2.2.1, 0 + j, fun w' => MapKept.run_findKey hkt q1⟩
          · have := htb y hy (hyk.trans q3)
            rw [show KX.out _ y = kOutOf es outs y from rfl, this] at hyo
            cases hyo
      · rw [fupd_ne _ _ _ _ e] at h2
        obtain ⟨z1, z2⟩ := hHid h1 e h2
        exact (hI4.obj id i o h1 h2).back hgz (hc.inv.obj id i o z1 z2)
    · by_cases e : id = cid
      · subst e
        rw [fupd_eq] at h3
        cases h3
        cases hw
      · rw [fupd_ne _ _ _ _ e] at h3
        by_cases e' : id' = cid
        · rw [e', hiC] at h2
          obtain rfl := Option.some.inj h2
          exact fun x => (hI4.inj cid id iC i _ o hiC h1 a11 h3 (fun y => e y.symm) rfl) x.symm
        · rw [fupd_ne _ _ _ _ e'] at h4
          exact hI4.inj id id' i i' o o' h1 h2 h3 h4 hne2 hw
    · have := hI4.lt id i h1
      have h83 := hc.iter
      obtain ⟨_, _, h83⟩ := h83
      exact Nat.lt_trans this (lt_of_at h83)
    · by_cases e : g = cid
      · subst e
        exact hI4.glob g hg2 (by rw [a11]; rfl)
      · rw [fupd_ne _ _ _ _ e] at hs
        exact hI4.glob g hg2 hs
  · exact (r3.back hgz (by exact hc.s3))
end Go.Proofs.YtonlcjnceooogaaGreatDoor
end
section
/- wf.known: by the quick engine. -/
set_option autoImplicit false
set_option linter.unusedSimpArgs false
set_option linter.unusedVariables false
namespace Go.Proofs.YtonlcjnceooogaaGreatDoor
open Go Go.RowKit Go.Proofs.YtonlcjnceooogaaGreatDoor.Abs

/-! ### The quick engine -/
section
variable {G : GivenT} {C : Callees}
noncomputable def eqO (a b : Option Value) : Bool :=
  match a, b with
  | none, none => true
  | some a, some b => eqV a b
  | _, _ => false
theorem eqO_ok {a b : Option Value} (h : eqO a b = true) : a = b := by
  unfold eqO at h
  split at h
  · rfl
  · rw [eqV_ok h]
  · cases h
noncomputable def kOutL (K : Option Value → Bool) : KV := fun v => match flat v with
  | true => K (some v)
  | false => false
noncomputable def kOutP (K : Option Value → Bool) (h : Hp) : Value → Bool := fun p => loadC kP (theOps kP) 92 h p (kOutL K)
theorem kOutP_ok {K : Option Value → Bool} {h : Hp} {q : Value} (hk : kOutP K h q = true) : ∃ v, aload kP 92 h q = some v ∧ flat v = true ∧ K (some v) = true := by
  have h2 : loadC kP (theOps kP) 92 h q (kOutL K) = true := hk
  have h3 := @loadC_ok kP _ _ _ _ h2
  obtain ⟨v, hv, h4⟩ := h3
  unfold kOutL at h4
  split at h4
  · rename_i hf
    exact ⟨v, hv, hf, h4⟩
  · cases h4
noncomputable def kOut (n : Nat) (K : Option Value → Bool) (b p : Option Value) (h : Hp) : Bool :=
  match Nat.ble h.n (Nat.add n 512) with
  | true => match b with
    | none => K none
    | some (.bool false) => K none
    | some (.bool true) => okB p (kOutP K h)
    | _ => false
  | false => false
noncomputable def kOne (C : Callees) (v0 v3 k v : Value) (hr : Hp) (K : Option Value → Bool) : Bool := kB (theOps kP) C v0 v3 k v hr (kOut hr.n K)
set_option maxRecDepth 100000 in
theorem kOne_ok (hC : COk kP G C) {v0 v3 k v : Value} {hr : Hp} {K : Option Value → Bool} (hk : kOne C v0 v3 k v hr K = true) {ET : Tr Value} (hs : SubE (kE v0 v3 k v) ET) : ∃ e s' out, ChainR kP G 128 kPs ⟨ET, hr⟩ e s' ∧ KOut hr.n e s' out ∧ K out = true := by
  unfold kOne at hk
  rw [kB_eq] at hk
  generalize hcs : kPn = cs at hk
  have hx := @chainC_ok kP G C hC 128 0 cs (kE v0 v3 k v) ET hr _ hs hk
  clear hk
  obtain ⟨e, s', E', hch, hs', hk⟩ := hx
  rw [← hcs, kPn_fst] at hch
  have fin : ∀ b p, kOut hr.n K b p s'.h = true → s'.h.n ≤ hr.n + 512 ∧ ((b = none ∧ K none = true) ∨ (b = some (.bool false) ∧ K none = true) ∨ (b = some (.bool true) ∧ ∃ q v, p = some q ∧ aload kP 92 s'.h q = some v ∧ flat v = true ∧ K (some v) = true)) := fun b p h => by
    unfold kOut at h
    split at h
    · rename_i hb
      refine ⟨Nat.le_of_ble_eq_true hb, ?_⟩
      split at h
      · exact .inl ⟨rfl, h⟩
      · exact .inr (.inl ⟨rfl, h⟩)
      · obtain ⟨q, rfl, h⟩ := okB_ok h
        obtain ⟨v, hv, hf, h⟩ := kOutP_ok h
        exact .inr (.inr ⟨rfl, q, v, rfl, hv, hf, h⟩)
      · cases h
    · cases h
  cases e with
  | normal =>
    obtain ⟨b, hb, hk⟩ := okB_ok (show okB (E'.get 120) (fun b => kOut hr.n K (some b) (E'.get 15) s'.h) = true from hk)
    obtain ⟨hn, h⟩ := fin _ _ hk
    rcases h with ⟨h, _⟩ | ⟨h, hk2⟩ | ⟨h, q, v, hq, hv, hf, hk2⟩
    · cases h
    · cases h
      exact ⟨_, s', none, hch, ⟨hn, .inr ⟨rfl, hs' _ _ hb⟩⟩, hk2⟩
    · cases h
      exact ⟨_, s', some v, hch, ⟨hn, rfl, hs' _ _ hb, hf, q, hs' _ _ hq, hv⟩, hk2⟩
  | exit id =>
    have hk' : (match Nat.beq id 3 with | true => kOut hr.n K none none s'.h | false => false) = true := hk
    split at hk'
    · rename_i hid
      rw [Nat.beq_eq] at hid
      subst hid
      obtain ⟨hn, h⟩ := fin _ _ hk'
      rcases h with ⟨h, hk⟩ | ⟨h, _⟩ | ⟨h, _⟩
      · exact ⟨_, s', none, hch, ⟨hn, .inl rfl⟩, hk⟩
      · cases h
      · cases h
    · cases hk'
  | ret => cases hk
noncomputable def kRoundsQ (C : Callees) (v0 v3 : Value) (hr : Hp) : List MapEntry → (List (Option Value) → Bool) → Bool
  | [], K => K []
  | x :: r, K => kOne C v0 v3 x.key x.val hr fun o => R1 (kOne C v0 v3 x.key x.val hr (eqO o)) (kRoundsQ C v0 v3 hr r fun l => K (o :: l))
theorem kRoundsQ_ok (hC : COk kP G C) {v0 v3 : Value} {hr : Hp} : ∀ {es : List MapEntry} {K : List (Option Value) → Bool}, kRoundsQ C v0 v3 hr es K = true → ∃ l, KRounds G v0 v3 hr es l ∧ K l = true
  | [], K, hk => ⟨[], rfl, hk⟩
  | x :: r, K, hk => by
    obtain ⟨_, _, o, _, _, hk⟩ := kOne_ok hC (show kOne C v0 v3 x.key x.val hr _ = true from hk) (fun _ _ h => h)
    have hk' := bothK_ok (show bothK _ _ = true from hk)
    obtain ⟨l, h1, h2⟩ := kRoundsQ_ok hC hk'.2
    refine ⟨o :: l, ⟨o, l, rfl, fun ET hs => ?_, h1⟩, h2⟩
    obtain ⟨e, s', o2, c1, c2, c3⟩ := kOne_ok hC hk'.1 hs
    rw [← eqO_ok c3] at c2
    exact ⟨e, s', c1, c2⟩
noncomputable def kGo (C : Callees) (K : KVH) (m v0 nv : Value) (h : Hp) : Bool :=
  match m, nv with
  | .map (some fid), .pointer (some ⟨nb, no, none⟩) => match h.t.get fid with
    | some (.map es c _) => match kOkE c es with
      | true => faC kP (theOps kP) 71 3 (.pointer (some ⟨nb, no, none⟩)) fun pC => loadC kP (theOps kP) 69 h pC fun mc => match mc with
        | .map (some cid) => match h.t.get cid, Nat.beq fid cid, Nat.ble (Nat.succ cid) h.n, Nat.ble (Nat.succ fid) h.n with
          | some (.map [] _ true), false, true, true => h.t.setK cid none fun t0 => roK h.n t0 1 0 fun tr => forceN (Nat.add h.n (Nat.succ (Nat.mul 512 (lenM es)))) fun N =>
            loadC kP (theOps kP) 69 ⟨tr, N⟩ pC fun mc2 => match mc2 with
              | .map (some cid2) => match Nat.beq cid2 cid with
                | true => kRoundsQ C v0 (.pointer (some ⟨nb, no, none⟩)) ⟨tr, N⟩ es fun outs => h.t.setK cid (some (.table (kTab es outs))) fun t' => K (.pointer (some ⟨nb, no, none⟩)) ⟨t', h.n⟩
                | false => false
              | _ => false
          | _, _, _, _ => false
        | _ => false
      | false => false
    | _ => false
  | _, _ => false
noncomputable def kF (C0 : Callees) : Callees → FnT 1 := fun _ => lam 1 fun args h K => match args with
  | [v] => kA (theOps kP) C0 v h (kGo C0 K)
  | _ => false
theorem lenM_eq : ∀ es : List MapEntry, lenM es = es.length
  | [] => rfl
  | _ :: r => by show Nat.succ (lenM r) = _; rw [lenM_eq r]; rfl
theorem forceN_ok {n : Nat} {K : Nat → Bool} (h : forceN n K = true) : K n = true := by
  cases n with
  | zero => exact h
  | succ n => exact h
theorem kF_ok {C0 : Callees} (hC : COk kP G C0) {G' : GivenT} (hG : G' 53 = some (natKnown G)) : EntOk kP G' 53 ⟨1, kF C0⟩ := by
  intro C _ args h K hk
  replace hk : app noF 1 (lam 1 fun args h (K : KVH) => match args with | [v] => kA (theOps kP) C0 v h (kGo C0 K) | _ => false) args h K = true := hk
  rcases app_lam noF 1 (fun args h (K : KVH) => match args with | [v] => kA (theOps kP) C0 v h (kGo C0 K) | _ => false) args with e | e
  · rw [e] at hk
    dsimp only at hk
    split at hk
    · rename_i v
      rw [kA_eq] at hk
      rw [argsK_eq] at hk
      generalize hcs : kAn = cs at hk
      have hx := @chainC_ok kP G C0 hC 128 0 cs _ (args0 [v] 0 (.full 8)) _ _ (fun _ _ h => h) hk
      clear hk
      obtain ⟨e3, s3, E3, hch, hs3, hk⟩ := hx
      rw [← hcs, kAn_fst] at hch
      cases e3 with
      | normal =>
        obtain ⟨E4, s4, hr4, hs4, hk⟩ := opsU_ok (ops := kOps12) hC (fun _ => True) (fun _ _ _ _ _ _ => trivial) (fun o ho E _ => by
          unfold aguard
          rw [k12g o ho]) trivial hs3 (show opsU kP (theOps kP) C0 128 (kOps12.toList.take 4) E3 s3.h _ = true from hk)
        obtain ⟨m, hm, hk1⟩ := okB_ok hk
        obtain ⟨v0, hv0, hk2⟩ := okB_ok hk1
        obtain ⟨nv, hnv, hk3⟩ := okB_ok hk2
        clear hk hk1 hk2
        have hk := hk3
        clear hk3
        unfold kGo at hk
        split at hk
        rotate_left
        · cases hk
        rename_i fid nb no
        split at hk
        rotate_left
        · cases hk
        rename_i es c wr hes
        split at hk
        rotate_left
        · cases hk
        rename_i hok
        obtain ⟨pC, hpC, hk⟩ := faC_ok hk
        obtain ⟨mc, hmc, hk⟩ := loadC_ok hk
        split at hk
        rotate_left
        · cases hk
        rename_i cid
        split at hk
        rotate_left
        · cases hk
        rename_i cc hcid hne hlt1 hlt2
        rw [Tr.setK_eq, roK_eq] at hk
        have hk := forceN_ok hk
        have hN : Nat.add s4.h.n (Nat.succ (Nat.mul 512 (lenM es))) = s4.h.n + (1 + 512 * es.length) := by
          show s4.h.n + (512 * lenM es + 1) = _
          rw [lenM_eq]
          omega
        rw [hN] at hk
        obtain ⟨mc2, hmc2, hk⟩ := loadC_ok hk
        split at hk
        rotate_left
        · cases hk
        rename_i cid2
        split at hk
        rotate_left
        · cases hk
        rename_i hc2
        rw [Nat.beq_eq] at hc2
        subst hc2
        obtain ⟨outs, ho1, hk⟩ := kRoundsQ_ok hC hk
        rw [Tr.setK_eq] at hk
        have hrun : KRun G [v] h (.pointer (some ⟨nb, no, none⟩)) ⟨s4.h.t.set cid2 (some (.table (kTab es outs))), s4.h.n⟩ :=
          ⟨s3, s4, fid, es, c, wr, cid2, cc, nb, no, pC, outs, v0, hch, hr4, hs4 _ _ hm, hes, hok, hs4 _ _ hv0, hs4 _ _ hnv, hpC, hmc, hmc2, hcid,
            (fun e => by rw [e, Nat.beq_refl] at hne; cases hne), Nat.le_of_ble_eq_true hlt1, Nat.le_of_ble_eq_true hlt2, ho1, rfl, rfl⟩
        refine ⟨_, _, ⟨0, fun k _ => ?_⟩, hk⟩
        unfold Abs.call callBy
        rw [hG]
        dsimp only
        rw [natKnown_ret hrun]
        rfl
      | exit id => cases hk
      | ret => cases hk
    · cases hk
  · rw [e] at hk; cases hk
end
end Go.Proofs.YtonlcjnceooogaaGreatDoor
end
section
/- Pieces of (*syn.reader).items as terms of the quick engine. -/
set_option autoImplicit false
set_option linter.unusedVariables false
set_option maxRecDepth 100000
namespace Go.Proofs.YtonlcjnceooogaaGreatDoor
open Go Go.RowKit Go.Proofs.YtonlcjnceooogaaGreatDoor.Abs
noncomputable def iBody : Code := bodyOf kP 92
noncomputable def iR0 : Code := sqA iBody
noncomputable def iOps1 : Array Oper := opsOf (sqA (sqB iBody))
noncomputable def iB0 : Code := sqA (sqB (sqB iBody))
noncomputable def iR4 : Code := sqA (sqB (sqB (sqB iBody)))
noncomputable def iDBody : Code := bodyOf kP 158
noncomputable def iDOps0 : Array Oper := opsOf (sqA iDBody)
noncomputable def iDOps1 : Array Oper := opsOf (sqA (sqB iDBody))
noncomputable def iDThen : Code := thenOf (sqB (sqB iDBody))
noncomputable def iAn : List (Code × Nat) := [(iR0, 13)]
theorem iAn_fst : iAn.map (·.1) = [iR0] := rfl
noncomputable def iBn : List (Code × Nat) := [(iB0, 12), (iR4, 12)]
theorem iBn_fst : iBn.map (·.1) = [iB0, iR4] := rfl
noncomputable def iA (R : Ops) (C : Callees) : Value → Hp → KVH → Bool := fun (v : Value) (h : Hp) (K : KVH) => R.al 67 [(.slice none 0 0)] h fun v3q v3r => R.al 27 [(.int .i64 (.ofNat 0)), (.int .i64 (.ofNat 0))] v3r fun v3s v3t => R.jn (fun J3u : Cur (Hp → Bool) 0 => R.lp 0 (fun J3v v3w => R.jn (fun J3x : Cur (Hp → Bool) 0 => R.nk v (R.fa 0 v fun v3y => R.l1 v3w v3y fun v3z => R.lv v3z fun v40 => R.bi .gtr v40 (.int .i64 (.ofNat 0)) fun v41 => R.br v41 (J3x v3w) (J3u v3w))) fun v42 => R.jn (fun J43 : Cur (Hp → Bool) 0 => R.l1 v42 v3q fun v44 => R.bo (R.l1 v42 v3q fun v45 => R.eq v45 v44) (C 159 1 v v42 fun v46 v47 => R.bl 67 1 [(0, v46)] v47 fun v48 v49 => R.bo (R.l1 v49 v3q fun v4a => R.eq v4a v44) (R.bt v49 .append ⟨[67, 67]⟩ [v44, v48] fun v4b v4c => R.s1 v4c v3q v4b fun v4d v4e => J43 v4e))) fun v4f => J3v v4f) fuel v3t) fun v4g => R.l1 v4g v3q fun v4h => R.ln 2 v4g v3s fun v4i => R.bo (R.ln 2 v4g v3s fun v4j => R.eq v4j v4i) (R.bo (R.l1 v4g v3q fun v4k => R.eq v4k v4h) (R.s1 v4g v3q v4h fun v4l v4m => R.bo (R.ln 2 v4m v3s fun v4n => R.eq v4n v4i) (R.sn 2 v4m v3s v4i fun v4o v4p => R.l1 v4p v3q fun v4q => R.ln 2 v4p v3s fun v4r => K (.tuple ⟨[v4q, v4r]⟩) v4p)))
theorem iA_eq (R : Ops) (C : Callees) (v : Value) (h : Hp) (K : KVH) : iA R C v h K = argsK (.full 5) 0 [v] fun E => chainC kP R C 18 0 iAn E h (fun ax E h => match ax with
    | .normal => okB (E.get 2) fun p2 => okB (E.get 3) fun p3 => E.setK 4 (some (.func (.func 158) #[] #[p2, p3])) fun E => chainC kP R C 18 0 iBn E h (fun ax E h => match ax with
      | .normal => resK kP R E h Tryz.f92.results.toList (fun vs => tupK vs fun v => K v h)
      | _ => false)
    | _ => false) := by kernel_rfl

end Go.Proofs.YtonlcjnceooogaaGreatDoor
end
section
/- (*syn.reader).items: one call is put off at its head; what it does where nothing gave up: nothing. -/
set_option autoImplicit false
set_option linter.unusedSimpArgs false
set_option linter.unusedVariables false
namespace Go.Proofs.YtonlcjnceooogaaGreatDoor
open Go Go.RowKit Go.Proofs.YtonlcjnceooogaaGreatDoor.Abs

theorem iBody_eq : bodyOf kP 92 = nest [iR0] (.seq (.region 1 iOps1 false) (nest [iB0, iR4] .ret)) := by kernel_rfl
theorem iDefer_eq : bodyOf kP 158 = .seq (.region 0 iDOps0 false) (.seq (.region 1 iDOps1 false) (.cond (.tmp 7) iDThen .skip)) := by kernel_rfl
theorem ibody : Tryz.f92.body = some (bodyOf kP 92) := by kernel_rfl
theorem intm : Tryz.f92.ntmps = 18 := by kernel_rfl
theorem iDbody : Tryz.f158.body = some (bodyOf kP 158) := by kernel_rfl
theorem iDntm : Tryz.f158.ntmps = 18 := by kernel_rfl
theorem iDres : Tryz.f158.results = #[] := by kernel_rfl
theorem i1s : iOps1.size = 2 := by kernel_rfl
theorem iD0s : iDOps0.size = 2 := by kernel_rfl
theorem iD1s : iDOps1.size = 2 := by kernel_rfl

theorem wpS_regionO {P : Program} {id n : Nat} {ops : Array Oper} {Q : Exit → Act → List Frame → World → Prop} {a : Act} {cs : List Frame} {w : World} (hs : ops.size = n) (h : ∀ ops', ops' = ops → wpOpsS P ops' Q (List.range n) a cs w) : (Code.region id ops false).wpS P Q a cs w := wpS_region (by rw [hs]; exact h _ rfl)
theorem iNeq (w : World) : (do eqGuard .neq 20 (.tmp 6) (.const .nilIface) .nilIface .nilIface; Go.binOp .neq 20 .nilIface .nilIface).run kP w = .ok (.bool false) w :=
  (abin_ok (P := kP) (ι := fun _ => none) (show abin kP .neq 20 (.tmp 6) (.const .nilIface) .nilIface .nilIface = some (.bool false) by kernel_rfl) .nilIface .nilIface w).1
/-- The call that is put off, where nothing gave up. -/
theorem iDefer_ok (x y : Value) (w : World) : CallsD kP 158 #[x, y] .returning w fun e u' w' => (∃ v, e = .returned v) ∧ u' = .returning ∧ w' = w := by
  refine callsD_of_wpS Tryz.func158 iDbody fun c₀ cs hm => ?_
  rw [iDefer_eq]
  obtain ⟨o0, ho0, hd0, hp0, hg0⟩ := opG_at (show opG iDOps0 0 = some (some 5, .call { callee := .builtin .recover, args := #[], argTypes := #[] }, none) by kernel_rfl)
  obtain ⟨o1, ho1, hd1, hp1, hg1⟩ := opG_at (show opG iDOps0 1 = some (some 2, .assign (.tmp 5), none) by kernel_rfl)
  obtain ⟨p0, hq0, he0, hr0, hh0⟩ := opG_at (show opG iDOps1 0 = some (some 6, .move (.tmp 2), none) by kernel_rfl)
  obtain ⟨p1, hq1, he1, hr1, hh1⟩ := opG_at (show opG iDOps1 1 = some (some 7, .binOp .neq 20 (.tmp 6) (.const .nilIface) 20, none) by kernel_rfl)
  refine wpS_seq (wpS_regionO iD0s fun ops0 hops0 => ?_)
  rw [← hops0] at ho0 ho1
  rw [show List.range 2 = [0, 1] from rfl]
  have hrec : recoverD (c₀ :: cs) = none := by unfold recoverD; simp only [hm]
  unfold wpOpsS
  rw [ho0]
  dsimp only
  rw [if_pos (by simp only [Region.wanted, hg0])]
  have hx : ∀ ρ, (execOp ρ o0).run kP w = .ok .recover w := fun ρ => by
    unfold execOp
    rw [hp0]
    simp only [resolve, Sem.run_bind, Sem.run_pure, Result.andThen_ok, invoke]
    rfl
  rw [hx]
  dsimp only
  rw [hrec]
  dsimp only
  unfold wpOpsS
  rw [ho1]
  dsimp only
  rw [if_pos (by simp only [Region.wanted, hg1])]
  rw [exec_assign hp1]
  dsimp only [Oper.upon]
  unfold wpOpsS
  rw [hd0, hd1]
  refine wpS_of_wp ?_
  have z0 : 8 ≤ (#[x, y] ++ Array.replicate (Tryz.f158.ntmps - #[x, y].size) undef).size := by rw [iDntm]; simp
  have sz : ∀ {a : Act} {d : Option Tmp} {v : Value}, 8 ≤ a.tmps.size → 8 ≤ (a.put d v).tmps.size := fun h => by rw [put_size]; exact h
  refine wp_seq (wp_regionO iD1s fun ops1 hops1 => ?_)
  rw [← hops1] at hq0 hq1
  rw [show List.range 2 = [0, 1] from rfl]
  generalize ha : ({ tmps := #[x, y] ++ Array.replicate (Tryz.f158.ntmps - #[x, y].size) undef, defers := [] } : Act) = a
  have za : 8 ≤ a.tmps.size := by rw [← ha]; exact z0
  have da : a.defers = [] := by rw [← ha]
  have z1 := sz (d := some 5) (v := .nilIface) za
  have z2 := sz (d := some 2) (v := .nilIface) z1
  have z3 := sz (d := some 6) (v := .nilIface) z2
  rw [eval_put_same (show 5 < a.tmps.size by omega)]
  refine wpOps_step hq0 hh0 (exec_move hr0) ?_
  rw [he0, eval_put_same (by omega)]
  refine wpOps_step (v := .bool false) (w' := w) hq1 hh1 ?_ ?_
  · unfold execOp
    rw [hr1]
    dsimp only
    rw [eval_put_same (by omega)]
    have := iNeq w
    simp only [Sem.run_bind] at this ⊢
    rw [show Act.eval _ (.const .nilIface) = Value.nilIface from rfl, this]
    rfl
  rw [he1]
  refine wp_cond_false (eval_put_same (by omega)) (wp_skip ?_)
  refine ⟨da, .returning, ?_, .tuple #[], ?_, ⟨_, rfl⟩, rfl, rfl⟩
  · rw [← hm]
  · rw [results_eq, iDres]
    simp

/-! ### The whole -/
section
variable (G : GivenT)
def IRun (args : List Value) (h : Hp) (v : Value) (h' : Hp) : Prop := ∃ s0 s1 p2 p3, ChainR kP G 18 [iR0] ⟨args0 args 0 (.full 5), h⟩ .normal s0 ∧ s0.E.get 2 = some p2 ∧ s0.E.get 3 = some p3 ∧
  ChainR kP G 18 [iB0, iR4] ⟨s0.E.set 4 (some (.func (.func 158) #[] #[p2, p3])), s0.h⟩ .normal s1 ∧ aresults kP Tryz.f92 s1 = some v ∧ h' = s1.h
theorem IRun.unique {args : List Value} {h : Hp} {v1 v2 : Value} {h1 h2 : Hp} (a : IRun G args h v1 h1) (b : IRun G args h v2 h2) : v1 = v2 ∧ h1 = h2 := by
  obtain ⟨s0, s1, p2, p3, a1, a2, a3, a4, a5, a6⟩ := a
  obtain ⟨t0, t1, q2, q3, b1, b2, b3, b4, b5, b6⟩ := b
  obtain ⟨_, rfl⟩ := a1.unique b1
  rw [a2] at b2; cases b2
  rw [a3] at b3; cases b3
  obtain ⟨_, rfl⟩ := a4.unique b4
  rw [a5] at b5; cases b5
  exact ⟨rfl, a6.trans b6.symm⟩
open Classical in
noncomputable def natItems : Native := fun args h => if hx : ∃ p : Value × Hp, IRun G args h p.1 p.2 then .ret (.ret hx.choose.1, hx.choose.2) else .none
variable {G}
theorem natItems_ret {args : List Value} {h h' : Hp} {v : Value} (k : IRun G args h v h') : natItems G args h = .ret (.ret v, h') := by
  unfold natItems
  have hx : ∃ p : Value × Hp, IRun G args h p.1 p.2 := ⟨(v, h'), k⟩
  rw [dif_pos hx]
  obtain ⟨e1, e2⟩ := IRun.unique G hx.choose_spec k
  rw [e1, e2]
theorem natItems_run {args : List Value} {h h' : Hp} {r : CRet} (k : (natItems G args h).run = some (r, h')) : ∃ v, r = .ret v ∧ IRun G args h v h' := by
  unfold natItems at k
  split at k
  · rename_i hx
    cases k
    exact ⟨_, rfl, hx.choose_spec⟩
  · cases k
theorem envrel_put {ι : Nat → Option Abs.Loc} {E : Tr Value} {a : Act} {t : Nat} {v r : Value} (h : EnvRel ι E a.tmps) (ht : t < a.tmps.size) (hv : VRel ι v r) : EnvRel ι (E.set t (some v)) (a.put (some t) r).tmps := fun u => by
  rw [Tr.get_set]
  split
  · rename_i e
    subst e
    show VRel ι v ((a.tmps.setIfInBounds u r).getD u undef)
    rw [Array.getD_eq_getD_getElem?, Array.getElem?_setIfInBounds, if_pos rfl, if_pos ht]
    exact hv
  · rename_i e
    rw [getD_put_ne (fun x => e x.symm)]
    exact h u
theorem items_ok {base : Nat} {w0 : Abs.Start} (hG : GivenOk kP base w0 G) : NatOk kP base w0 92 (natItems G) := by
  intro args h r h' hg
  obtain ⟨v, rfl, s0, s1, p2, p3, a1, a2, a3, a4, a5, rfl⟩ := natItems_run hg
  have hD : DrawOk kP base w0 := adraw_ok noNG_k kmix
  have n0 := a1.n noNG_k hD hG
  have n1 := a4.n noNG_k hD hG
  refine ⟨Nat.le_trans n0 n1, fun ι w args' hI hr hgl hf => ?_⟩
  refine calls_of_wp_defers Tryz.func92 ibody ?_
  rw [iBody_eq]
  refine ChainR.ok noNG_k hD hG a1 hI (args0_rel hr _ _) (by rw [intm]; simp; omega) hgl hf fun e' b w1 hp => ?_
  obtain ⟨ι1, t1, hI1, hE1, hl1, hd1, rfl⟩ := hp
  obtain ⟨o0, ho0, hdo0, hp0, hg0⟩ := opG_at (show opG iOps1 0 = some (some 4, .makeFunc (.func 158) #[] #[.tmp 2, .tmp 3], none) by kernel_rfl)
  obtain ⟨o1, ho1, hdo1, hp1, hg1⟩ := opG_at (show opG iOps1 1 = some (none, .defer { callee := .value (.tmp 4), args := #[], argTypes := #[] }, none) by kernel_rfl)
  refine wp_seq (wp_regionO i1s fun ops1 hops1 => ?_)
  rw [← hops1] at ho0 ho1
  rw [show List.range 2 = [0, 1] from rfl]
  have h2 : VRel ι1 p2 (b.eval (.tmp 2)) := by have := hE1 2; rw [a2] at this; exact this
  have h3 : VRel ι1 p3 (b.eval (.tmp 3)) := by have := hE1 3; rw [a3] at this; exact this
  obtain ⟨q2, hq2⟩ : ∃ q, b.eval (.tmp 2) = q := ⟨_, rfl⟩
  obtain ⟨q3, hq3⟩ : ∃ q, b.eval (.tmp 3) = q := ⟨_, rfl⟩
  refine wpOps_step (v := .func (.func 158) #[] #[q2, q3]) (w' := w1) ho0 hg0 ?_ ?_
  · unfold execOp
    rw [hp0]
    simp [Instr.makeFunc, hq2, hq3]
  rw [hdo0]
  have hdf : (execOp (b.put (some 4) (.func (.func 158) #[] #[q2, q3])).eval o1).run kP w1 = .ok (.defer { target := .fn (.func 158) #[q2, q3], args := #[] }) w1 := by
    unfold execOp
    rw [hp1]
    dsimp only
    unfold resolve
    dsimp only
    rw [eval_put_same (by omega)]
    simp [Deferred.ofValue]
  unfold wpOps
  rw [ho1]
  dsimp only
  rw [if_pos (by simp only [Region.wanted, hg1])]
  refine .inl ?_
  unfold Oper.wp
  rw [hdf, Oper.upon_defer, hdo1]
  have hE2 : EnvRel ι1 (s0.E.set 4 (some (.func (.func 158) #[] #[p2, p3]))) (b.put (some 4) (.func (.func 158) #[] #[q2, q3])).tmps := by
    refine envrel_put hE1 (by omega) (.func _ _ _ _ _ rfl (fun i a _ => by simp at a) rfl fun i a b' => ?_)
    match i, a with
    | 0, _ => rw [hq2] at h2; exact h2
    | 1, _ => rw [hq3] at h3; exact h3
    | i + 2, a => exact absurd a (by simp)
  unfold wpOps
  show (nest [iB0, iR4] .ret).wp kP _ { tmps := (b.put (some 4) (.func (.func 158) #[] #[q2, q3])).tmps, defers := { target := .fn (.func 158) #[q2, q3], args := #[] } :: b.defers } w1
  refine ChainR.ok noNG_k hD hG a4 hI1 hE2 (by show 18 ≤ (b.put _ _).tmps.size; rw [put_size]; exact hl1) (Nat.le_trans hgl n0) (t1.fresh hf) fun e' a' w' hp => ?_
  obtain ⟨ι', t', hI', hE', hl', hd', rfl⟩ := hp
  refine wp_ret ?_
  show Leaves kP _ a'.tmps _ a'.defers .returning w'
  rw [hd', show b.defers = [] from hd1]
  refine leaves_cons (by intro e; cases e) (f := 158) (args := #[q2, q3]) ?_ ((iDefer_ok q2 q3 w').mono fun e u' w2 hx => ?_)
  · simp only [invoke, Array.empty_append]
    exact Go.Proofs.enters_of Tryz.func158 (by kernel_rfl) iDbody _ _
  · obtain ⟨⟨vv, rfl⟩, rfl, rfl⟩ := hx
    obtain ⟨v', hv', hvr⟩ := aresults_ok hI' hE' a5
    exact ⟨v', hv', ι', t1.trans t', hI', v', rfl, hvr⟩

noncomputable def iF (C0 : Callees) : Callees → FnT 1 := fun _ => lam 1 fun args h K => match args with
  | [v] => iA (theOps kP) C0 v h K
  | _ => false
variable {C : Callees}
theorem iF_ok {C0 : Callees} (hC : COk kP G C0) {G' : GivenT} (hG : G' 92 = some (natItems G)) : EntOk kP G' 92 ⟨1, iF C0⟩ := by
  intro C _ args h K hk
  replace hk : app noF 1 (lam 1 fun args h (K : KVH) => match args with | [v] => iA (theOps kP) C0 v h K | _ => false) args h K = true := hk
  rcases app_lam noF 1 (fun args h (K : KVH) => match args with | [v] => iA (theOps kP) C0 v h K | _ => false) args with e | e
  · rw [e] at hk
    dsimp only at hk
    split at hk
    · rename_i v
      rw [iA_eq, argsK_eq] at hk
      generalize hcs : iAn = cs at hk
      generalize hcs2 : iBn = cs2 at hk
      have hx := @chainC_ok kP G C0 hC 18 0 cs _ (args0 [v] 0 (.full 5)) _ _ (fun _ _ h => h) hk
      clear hk
      obtain ⟨e0, s0, E0, hch, hs0, hk⟩ := hx
      rw [← hcs, iAn_fst] at hch
      cases e0 with
      | normal =>
        obtain ⟨p2, hp2, hk⟩ := okB_ok (show okB (E0.get 2) _ = true from hk)
        obtain ⟨p3, hp3, hk⟩ := okB_ok hk
        rw [Tr.setK_eq] at hk
        have hx1 := @chainC_ok kP G C0 hC 18 0 cs2 _ (s0.E.set 4 (some (.func (.func 158) #[] #[p2, p3]))) _ _ (hs0.set 4 _) hk
        clear hk
        obtain ⟨e1, s1, E1, hch1, hs1, hk⟩ := hx1
        rw [← hcs2, iBn_fst] at hch1
        cases e1 with
        | normal =>
          obtain ⟨vs, hvs, hk⟩ := resK_ok hs1 (show resK kP (theOps kP) E1 s1.h Tryz.f92.results.toList _ = true from hk)
          have fin : ∀ u, aresults kP Tryz.f92 s1 = some u → K u s1.h = true → ∃ v' h', CallsTo kP G' 92 [v] h v' h' ∧ K v' h' = true := fun u hu hk => by
            refine ⟨u, s1.h, ⟨0, fun k _ => ?_⟩, hk⟩
            unfold Abs.call callBy
            rw [hG]
            dsimp only
            rw [natItems_ret ⟨s0, s1, p2, p3, hch, hs0 _ _ hp2, hs0 _ _ hp3, hch1, hu, rfl⟩]
            rfl
          unfold tupK at hk
          split at hk
          · exact fin _ (by simp only [aresults, hvs]) hk
          · rename_i us hne
            refine fin (.tuple ⟨vs⟩) ?_ hk
            simp only [aresults, hvs]
        | exit id => cases hk
        | ret => cases hk
      | exit id => cases hk
      | ret => cases hk
    · cases hk
  · rw [e] at hk; cases hk
end
end Go.Proofs.YtonlcjnceooogaaGreatDoor
end
section
/- Listed maps of texts to numbers or texts: what each looks up, as a list; the sketch of a world with such maps. -/
set_option autoImplicit false
set_option linter.unusedSimpArgs false
set_option linter.unusedVariables false
namespace Go.Proofs.YtonlcjnceooogaaGreatDoor.Abs
open Go Go.RowKit

/-- A listed element as a value. -/
def litV : DataW Unit → Option Value
  | .lit (.int k z) => some (.int k z)
  | .lit (.string l) => some (.string ⟨⟨l⟩⟩)
  | _ => none
/-- A listed map as a list of texts and values. -/
def tabOf : List (Lit × DataW Unit) → Option (List (ByteArray × Value))
  | [] => some []
  | (.string l, d) :: r => match litV d, tabOf r with
    | some v, some t => some ((⟨⟨l⟩⟩, v) :: t)
    | _, _ => none
  | _ => none
theorem litV_flat {d : DataW Unit} {v : Value} (h : litV d = some v) : flat v = true := by
  unfold litV at h
  split at h <;> first | (cases h; rfl) | cases h
theorem tabOf_some : ∀ {L : List (Lit × DataW Unit)} {f : List (ByteArray × Value)}, tabOf L = some f → ∀ s : ByteArray, match assocT f s with
    | some v => ∃ d, (Lit.string s.data.toList, d) ∈ L ∧ litV d = some v
    | none => ∀ d, (Lit.string s.data.toList, d) ∉ L
  | [], f, h, s => by cases h; intro d hd; cases hd
  | (.string l, d) :: r, f, h, s => by
    unfold tabOf at h
    split at h
    · rename_i v t hv ht
      cases h
      have ih := tabOf_some ht s
      show match (if beqB s ⟨⟨l⟩⟩ = true then some v else assocT t s) with | some v => _ | none => _
      by_cases hb : beqB s ⟨⟨l⟩⟩ = true
      · rw [if_pos hb]
        have e : s.data.toList = l := by simpa [beqB] using hb
        exact ⟨d, by rw [e]; exact List.mem_cons_self, hv⟩
      · rw [if_neg hb]
        have hne : s.data.toList ≠ l := fun e => hb (by simp [beqB, e])
        cases hu : assocT t s with
        | some u =>
          rw [hu] at ih
          obtain ⟨d', h1, h2⟩ := ih
          exact ⟨d', List.mem_cons_of_mem _ h1, h2⟩
        | none =>
          rw [hu] at ih
          intro d' hd
          rcases List.mem_cons.1 hd with e | hd
          · simp only [Prod.mk.injEq, Lit.string.injEq] at e
            exact hne e.1
          · exact ih d' hd
    · cases h
  | (.int _ _, _) :: _, _, h, _ => by cases h
  | (.bool _, _) :: _, _, h, _ => by cases h
  | (.float _ _, _) :: _, _, h, _ => by cases h

theorem one_cell {P : Program} {e : TypeId} {v x : Value} (he : P.underlying e = some .string ∨ ∃ kd, P.underlying e = some (.int kd)) (hf : v.formed P e = true) (hc : v.cells.toList = [x]) : v = x := by
  cases v with
  | agg cs =>
    unfold Value.formed at hf
    rcases he with h | ⟨kd, h⟩ <;> rw [h] at hf <;> cases hf
  | tuple cs => cases hf
  | _ => simpa [Value.cells] using hc

structure TabAt (P : Program) (w : World) (g bm : Nat) (f : List (ByteArray × Value)) : Prop where
  cell : ∃ ty fz, w.heap[g]? = some (.cells #[.map (some bm)] ty fz)
  map : ∃ es clock, w.heap[bm]? = some (.map es clock) ∧ ∀ kt s, P.underlying kt = some .string → match assocT f s with
      | some v => flat v = true ∧ ∃ j, ∀ w', (Instr.findKey kt (.string s) es.toList).run P w' = .ok (some (j, v)) w'
      | none => ∀ w', (Instr.findKey kt (.string s) es.toList).run P w' = .ok none w'
theorem TabAt.below {P : Program} {w w' : World} {g bm : Nat} {f : List (ByteArray × Value)} (h : TabAt P w g bm f) (hb : Below w.heap.size w w') : TabAt P w' g bm f := by
  obtain ⟨⟨ty, fz, h1⟩, ⟨es, clock, h2, h3⟩⟩ := h
  exact ⟨⟨ty, fz, (hb.block _ (Array.getElem?_eq_some_iff.1 h1).1).trans h1⟩, ⟨es, clock, (hb.block _ (Array.getElem?_eq_some_iff.1 h2).1).trans h2, h3⟩⟩

theorem mem_pair {α : Type} {a b : α} (hne : a ≠ b) : ∀ {l : List α}, a ∈ l → b ∈ l → [a, b].Sublist l ∨ [b, a].Sublist l
  | x :: l, ha, hb => by
    rcases List.mem_cons.1 ha with rfl | ha2
    · rcases List.mem_cons.1 hb with rfl | hb
      · exact absurd rfl hne
      · exact .inl ((List.singleton_sublist.2 hb).cons_cons _)
    · rcases List.mem_cons.1 hb with hb | hb
      · subst hb
        exact .inr ((List.singleton_sublist.2 ha2).cons_cons _)
      · rcases mem_pair hne ha2 hb with h | h
        · exact .inl (h.cons _)
        · exact .inr (h.cons _)
open Go.WideElems in
theorem tab_of_laid {P : Program} {w : World} {l : List (String × DataW Unit)} (h : laidMet P l w) {n : String} {L : List (Lit × DataW Unit)} (hm : (n, DataW.map L) ∈ l) {g : Nat} {t k e : TypeId} (hg : P.globalNamed n = some g) (ht : (P.globals[g]?).map (·.type) = some t)
    (hut : P.underlying t = some (.map k e)) (hk : P.underlying k = some .string) (he : P.underlying e = some .string ∨ ∃ kd, P.underlying e = some (.int kd)) {f : List (ByteArray × Value)} (hf : tabOf L = some f) : ∃ bm, TabAt P w g bm f := by
  obtain ⟨g', t', cs, fuel, p, h1, h2, h3, h4⟩ := Lib.laidMet.reads h hm
  obtain rfl := Option.some.inj (hg.symm.trans h1)
  obtain rfl := Option.some.inj (ht.symm.trans h2)
  have hv : ∃ ty fz, w.heap[g]? = some (.cells cs ty fz) := by
    unfold World.var? at h3
    rw [hg] at h3
    simp only [Option.bind_some] at h3
    split at h3
    · rename_i cs' ty fz hh
      cases h3
      exact ⟨ty, fz, hh⟩
    · cases h3
  rcases WideElems.open_map hut h4 with ⟨_, hx⟩ | ⟨bm, es, clock, m, _, hcs, hb, _, F, hx⟩
  · cases hx
  simp only [Prod.mk.injEq, DataW.map.injEq] at hx
  obtain ⟨ty, fz, hh⟩ := hv
  obtain ⟨cl⟩ := cs
  simp only at hcs
  subst hcs
  refine ⟨bm, ⟨ty, fz, hh⟩, es, clock, hb, fun kt s hkt => ?_⟩
  generalize hR : elemAt (fun _ : TypeId × Value => ()) P w 0 (fun _ => true) false m e = R at F hx
  have hL := hx.1.symm
  have perm := WideShapes.sorted_perm (es.toList.map (rg P k R))
  rw [hL] at perm
  have one : ∀ x ∈ es.toList, ∃ s' v d, x.key = .string s' ∧ x.val = v ∧ litV d = some v ∧ rg P k R x = (.string s'.data.toList, d) := by
    intro x hx
    obtain ⟨y, hy⟩ := F.reads x hx
    obtain ⟨s', e1, e2, _⟩ := WideMaps.string_of_keyOf hk (rd_key hy)
    unfold rd at hy
    rw [Option.bind_eq_some_iff] at hy
    obtain ⟨key, hk1, hy⟩ := hy
    obtain ⟨y2, hy2, rfl⟩ := Option.map_eq_some_iff.1 hy
    rw [← hR] at hy2
    unfold elemAt at hy2
    split at hy2
    · rename_i hform
      have hr : rg P k R x = (key, y2.1) := by
        unfold rg rd
        rw [hk1, ← hR]
        simp only [Option.bind_some]
        unfold elemAt
        rw [if_pos hform, hy2]
        rfl
      rcases he with he | ⟨kd, he⟩
      · obtain ⟨b, hb1, hb2, _⟩ := DataW.trod_string he hy2
        have hbx : x.val = .string b := one_cell (.inl he) hform hb1
        refine ⟨s', .string b, .lit (.string b.data.toList), e1, hbx, rfl, ?_⟩
        rw [hr, hb2]
        exact Prod.ext e2 rfl
      · obtain ⟨z, hz1, hz2, _⟩ := DataW.trod_int he hy2
        have hbx : x.val = .int kd z := one_cell (.inr ⟨kd, he⟩) hform hz1
        refine ⟨s', .int kd z, .lit (.int kd z), e1, hbx, rfl, ?_⟩
        rw [hr, hz2]
        exact Prod.ext e2 rfl
    · cases hy2
  have there : ∀ x ∈ es.toList, x.key = .string s → ∃ d, litV d = some x.val ∧ (Lit.string s.data.toList, d) ∈ L := by
    intro x hx hxk
    obtain ⟨s', v, d, e1, e2, e3, e4⟩ := one x hx
    rw [hxk] at e1
    cases e1
    exact ⟨d, by rw [e2]; exact e3, perm.mem_iff.2 (List.mem_map.2 ⟨x, hx, e4⟩)⟩
  have back : ∀ d, (Lit.string s.data.toList, d) ∈ L → ∃ x ∈ es.toList, x.key = .string s ∧ litV d = some x.val := by
    intro d hd
    obtain ⟨x, hx, hr⟩ := List.mem_map.1 (perm.mem_iff.1 hd)
    obtain ⟨s', v, d', e1, e2, e3, e4⟩ := one x hx
    rw [e4] at hr
    simp only [Prod.mk.injEq, Lit.string.injEq] at hr
    rw [str_eq hr.1] at e1
    exact ⟨x, hx, e1, by rw [← hr.2, e2]; exact e3⟩
  have hks : ∀ x ∈ es.toList, MapKept.IsKey .string x.key := fun x hx => by
    obtain ⟨s', _, _, e1, _⟩ := one x hx
    rw [e1]
    trivial
  obtain ⟨_, hnk, hap⟩ := (MapKept.stamped_iff es clock).1 F.stamped
  have hfs := tabOf_some hf s
  rcases MapKept.findNow_spec (d := .string) (k := .string s) trivial es.toList 0 hks with ⟨q1, q2⟩ | ⟨j, e0, q1, q2, q3⟩
  · cases hfn : assocT f s with
    | some v =>
      rw [hfn] at hfs
      obtain ⟨d, hd, _⟩ := hfs
      obtain ⟨x, hx, hxk, _⟩ := back d hd
      exact absurd hxk (q2 x hx)
    | none => exact fun w' => MapKept.run_findKey hkt q1
  · have he0 : e0 ∈ es.toList := List.mem_of_getElem? q2
    cases hfn : assocT f s with
    | some v =>
      rw [hfn] at hfs
      obtain ⟨d, hd, hdv⟩ := hfs
      obtain ⟨x, hx, hxk, hxv⟩ := back d hd
      have hxe : x = e0 := by
        apply Classical.byContradiction
        intro hne
        have hps : ∀ {a b : MapEntry}, [a, b].Sublist es.toList → a.key ≠ b.key := List.pairwise_iff_forall_sublist.1 hap
        rcases mem_pair hne hx he0 with hsub | hsub
        · exact hps hsub (hxk.trans q3.symm)
        · exact hps hsub (q3.trans hxk.symm)
      subst hxe
      rw [hdv] at hxv
      have hvv : v = x.val := Option.some.inj hxv
      rw [hvv]
      exact ⟨litV_flat (d := d) (by rw [hdv, hvv]), 0 + j, fun w' => MapKept.run_findKey hkt q1⟩
    | none =>
      rw [hfn] at hfs
      obtain ⟨d, _, hd⟩ := there e0 he0 q3
      exact absurd hd (hfs d)
/-- The sketch of a world with a listed map more: g the variable, m the map's number in the sketch. -/
theorem TabAt.inv {P : Program} {w : World} {g bm : Nat} {f : List (ByteArray × Value)} (h : TabAt P w g bm f) {m : Nat} (hm : P.globals.size ≤ m) (hgm : g < P.globals.size) {ι0 ι : Nat → Option Loc} {H : Nat → Option AObj} (hI : Inv P w.heap.size ⟨w, ι0⟩ ι H w)
    (h1 : ι g = none) (h2 : ι m = none) (hold : ∀ id j o', ι id = some j → H id = some o' → o'.wr = false) :
    ∃ e i j, Inv P w.heap.size ⟨w, ι0⟩ (fupd (fupd ι m (some i)) g (some j)) (fupd (fupd H m (some (.table f))) g (some (.cells [.map (some m)] e false))) w := by
  obtain ⟨⟨ty, fz, hc⟩, es, clock, hb, hF⟩ := h
  have hI1 := hI.know h2 (i := ⟨bm, 0, 0, 0⟩) (Array.getElem?_eq_some_iff.1 hb).1 (o := .table f) rfl ⟨es, clock, hb, hF⟩ hold (fun h => absurd h (by omega))
  have hne : g ≠ m := by omega
  have hold' : ∀ id j o', fupd ι m (some ⟨bm, 0, 0, 0⟩) id = some j → fupd H m (some (.table f)) id = some o' → o'.wr = false := by
    intro id j o' a b
    by_cases e : id = m
    · subst e
      rw [fupd_eq] at b
      cases b
      rfl
    · rw [fupd_ne _ _ _ _ e] at a b
      exact hold id j o' a b
  refine ⟨ty, ⟨bm, 0, 0, 0⟩, ⟨g, 0, 1, szD P ty⟩, hI1.know (by rw [fupd_ne _ _ _ _ hne]; exact h1) (Array.getElem?_eq_some_iff.1 hc).1 rfl ⟨#[.map (some bm)], fz, hc, rfl, by simp, ?_, rfl, fun h => by cases h⟩ hold' (fun _ => ⟨rfl, rfl⟩)⟩
  intro j c hj
  match j, hj with
  | 0, hj =>
    simp only [List.getElem?_cons_zero, Option.some.injEq] at hj
    subst hj
    refine ⟨.map (some bm), rfl, .map m ⟨bm, 0, 0, 0⟩ ?_⟩
    rw [fupd_ne _ _ _ _ (by omega), fupd_eq]
  | j + 1, hj => simp at hj
end Go.Proofs.YtonlcjnceooogaaGreatDoor.Abs
end
section
/- Chapters from 12 on, by the quick engine: what is given of functions; what is known of the world. -/
set_option autoImplicit false
set_option linter.unusedSimpArgs false
set_option linter.unusedVariables false
namespace Go.Proofs.YtonlcjnceooogaaGreatDoor
open Go Go.RowKit Go.Proofs.YtonlcjnceooogaaGreatDoor.Abs

theorem MaxAt.at_ {w : World} (h : MaxAt w) : ∃ m, w.cell? ⟨7, 0, none⟩ = some (.int .i64 m) := h
noncomputable def G0 : GivenT := gAdd 160 (natRow 233 sPairs) (gAdd 155 (natFlat sHost2) (gAdd 103 (natFlat sLower) (gAdd 261 (natRow 9 sSplit) (gAdd 106 nJoin
  (gAdd 264 (natFlat sIndex) (gAdd 221 (natFlat sIndexByte) (gAdd 125 (natFlat sCut) gNone)))))))
theorem G0_ok {w : World} {ι0 : Nat → Option Abs.Loc} (h : MaxAt w) : GivenOk Tryz.prog w.heap.size ⟨w, ι0⟩ G0 := by
  obtain ⟨m, hm⟩ := h.at_
  exact (((((((GivenOk.none.add (sCut_ok h)).add sIndexByte_ok).add (sIndex_ok h)).add nJoin_ok).add (sSplit_ok hm)).add sLower_ok).add sHost2_ok).add sPairs_ok
noncomputable def G1 : GivenT := gAdd 53 (natKnown G0) (gAdd 92 (natItems G0) G0)
theorem G1_ok {w : World} {ι0 : Nat → Option Abs.Loc} (h : MaxAt w) : GivenOk Tryz.prog w.heap.size ⟨w, ι0⟩ G1 :=
  ((G0_ok h).add (items_ok (G0_ok h))).add (known_ok (G0_ok h) fun w' ι hb => G0_ok (h.below hb (Nat.le_refl _)))
noncomputable def addN (n f : Nat) (g : Native) (T : Tr Ent) : Tr Ent := T.set f (some ⟨n, natF n g⟩)
theorem addN_ok {P : Program} {G : GivenT} {T : Tr Ent} {n f : Nat} {g : Native} (hT : TabOk P G T) (hG : G f = some g) : TabOk P G (addN n f g T) := hT.add (natF_ok hG)
/-- The natives on a table. -/
noncomputable def natT (T : Tr Ent) : Tr Ent := addN 1 160 (natRow 233 sPairs) (addN 1 155 (natFlat sHost2) (addN 1 103 (natFlat sLower) (addN 2 261 (natRow 9 sSplit) (addN 2 106 nJoin
  (addN 2 264 (natFlat sIndex) (addN 2 221 (natFlat sIndexByte) (addN 2 125 (natFlat sCut) T)))))))
theorem natT_ok0 {T : Tr Ent} (hT : TabOk Tryz.prog G0 T) : TabOk Tryz.prog G0 (natT T) :=
  addN_ok (addN_ok (addN_ok (addN_ok (addN_ok (addN_ok (addN_ok (addN_ok hT rfl) rfl) rfl) rfl) rfl) rfl) rfl) rfl
/-! ### The world -/
def samesL : List (List UInt8) := [[], [78, 111, 110, 101], [76, 97, 120], [83, 116, 114, 105, 99, 116]]
noncomputable def samesC : List Value := [.string ⟨⟨[]⟩⟩, .string ⟨⟨[78, 111, 110, 101]⟩⟩, .string ⟨⟨[76, 97, 120]⟩⟩, .string ⟨⟨[83, 116, 114, 105, 99, 116]⟩⟩]
def schemesT : List (ByteArray × Value) := [(⟨⟨[104, 116, 116, 112]⟩⟩, .int .i64 (.ofNat 80)), (⟨⟨[104, 116, 116, 112, 115]⟩⟩, .int .i64 (.ofNat 443))]
def mostT : List (ByteArray × Value) := [(⟨⟨[99, 111, 111, 107, 105, 101]⟩⟩, .int .i64 (.ofNat 6)), (⟨⟨[101, 110, 100, 112, 111, 105, 110, 116]⟩⟩, .int .i64 (.ofNat 10)), (⟨⟨[111, 114, 105, 103, 105, 110]⟩⟩, .int .i64 (.ofNat 6)), (⟨⟨[112, 114, 111, 112, 101, 114, 116, 121]⟩⟩, .int .i64 (.ofNat 6)), (⟨⟨[115, 101, 99, 114, 101, 116]⟩⟩, .int .i64 (.ofNat 6))]
def askedT : List (ByteArray × Value) := [(⟨⟨[97, 116]⟩⟩, .string ⟨⟨[111, 114, 105, 103, 105, 110]⟩⟩), (⟨⟨[99, 104, 97, 110, 103, 101, 100]⟩⟩, .string ⟨⟨[101, 110, 100, 112, 111, 105, 110, 116]⟩⟩), (⟨⟨[99, 111, 114, 115]⟩⟩, .string ⟨⟨[111, 114, 105, 103, 105, 110]⟩⟩), (⟨⟨[102, 111, 114, 103, 101, 100]⟩⟩, .string ⟨⟨[101, 110, 100, 112, 111, 105, 110, 116]⟩⟩), (⟨⟨[103, 105, 118, 101, 115]⟩⟩, .string ⟨⟨[115, 101, 99, 114, 101, 116]⟩⟩), (⟨⟨[107, 110, 111, 119, 115]⟩⟩, .string ⟨⟨[115, 101, 99, 114, 101, 116]⟩⟩), (⟨⟨[110, 101, 101, 100, 115]⟩⟩, .string ⟨⟨[99, 111, 111, 107, 105, 101]⟩⟩), (⟨⟨[114, 97, 110]⟩⟩, .string ⟨⟨[111, 114, 105, 103, 105, 110]⟩⟩), (⟨⟨[114, 101, 100, 105, 114, 101, 99, 116]⟩⟩, .string ⟨⟨[101, 110, 100, 112, 111, 105, 110, 116]⟩⟩), (⟨⟨[115, 99, 114, 105, 112, 116]⟩⟩, .string ⟨⟨[111, 114, 105, 103, 105, 110]⟩⟩), (⟨⟨[115, 101, 116, 115]⟩⟩, .string ⟨⟨[99, 111, 111, 107, 105, 101]⟩⟩), (⟨⟨[115, 116, 111, 108, 101, 110]⟩⟩, .string ⟨⟨[99, 111, 111, 107, 105, 101]⟩⟩)]
structure WfWorld (w : World) : Prop where
  max : MaxAt w
  sames : VarCells w 4 samesC
  schemes : ∃ bm, TabAt Tryz.prog w 3 bm schemesT
  most : ∃ bm, TabAt Tryz.prog w 0 bm mostT
  asked : ∃ bm, TabAt Tryz.prog w 5 bm askedT
theorem WfWorld.below {w w' : World} (h : WfWorld w) (hb : Below w.heap.size w w') : WfWorld w' :=
  ⟨h.max.below hb (Nat.le_refl _), h.sames.below hb, h.schemes.imp fun _ x => x.below hb, h.most.imp fun _ x => x.below hb, h.asked.imp fun _ x => x.below hb⟩
/-- The sketch at the start: m is the first number behind the variables; m, m + 1 .. m + 4 name numbers, the maps lie behind them. -/
noncomputable def hW (e1 e2 e3 e4 : Nat) : Hp := ⟨((((((Tr.nil.set 4 (some (.cells samesC e1 false))).set 20 (some (.table schemesT))).set 3 (some (.cells [.map (some 20)] e2 false))).set 21 (some (.table mostT))).set 0 (some (.cells [.map (some 21)] e3 false))).set 22 (some (.table askedT))).set 5 (some (.cells [.map (some 22)] e4 false)), 23⟩
theorem ro_fupd {H : Nat → Option AObj} {m : Nat} {o : AObj} (h : ∀ id o', H id = some o' → o'.wr = false) (ho : o.wr = false) : ∀ id o', fupd H m (some o) id = some o' → o'.wr = false := fun id o' e => by
  by_cases x : id = m
  · subst x
    rw [fupd_eq] at e
    cases e
    exact ho
  · rw [fupd_ne _ _ _ _ x] at e
    exact h id o' e
theorem noNG_prog : noNG Tryz.prog = true := by kernel_rfl
theorem gsize : Tryz.prog.globals.size = 15 := by kernel_rfl
theorem WfWorld.inv {w : World} (h : WfWorld w) (z0 z1 z2 z3 z4 : Int) : ∃ e1 e2 e3 e4 ι, Inv Tryz.prog w.heap.size ⟨w, ι⟩ ι (hW e1 e2 e3 e4).t.get w ∧ (∀ id, 23 ≤ id → ι id = none) ∧ ι 15 = some (tokLoc z0) ∧ ι 16 = some (tokLoc z1) ∧ ι 17 = some (tokLoc z2) ∧ ι 18 = some (tokLoc z3) ∧ ι 19 = some (tokLoc z4) := by
  obtain ⟨hmax, hs, ⟨b1, t1⟩, ⟨b2, t2⟩, ⟨b3, t3⟩⟩ := h
  have hw : 0 < w.heap.size := by
    obtain ⟨m, hm⟩ := hmax.at_
    apply Classical.byContradiction
    intro hn
    have : w.heap[7]? = none := Array.getElem?_eq_none (by omega)
    simp [World.cell?, this] at hm
  obtain ⟨e1, i1, hI⟩ := Inv.know_var (Inv.start w) (P := Tryz.prog) (by rw [gsize]; decide) rfl hs (by rfl) (fun id j o' h => by cases h)
  have hr1 : ∀ id o', fupd (fun _ => none) 4 (some (AObj.cells samesC e1 false)) id = some o' → o'.wr = false := ro_fupd (fun id o' h => by cases h) rfl
  have n0 := hI.name (m := 15) rfl rfl (by rw [gsize]; decide) hw z0
  have n1 := n0.name (m := 16) rfl rfl (by rw [gsize]; decide) hw z1
  have n2 := n1.name (m := 17) rfl rfl (by rw [gsize]; decide) hw z2
  have n3 := n2.name (m := 18) rfl rfl (by rw [gsize]; decide) hw z3
  have n4 := n3.name (m := 19) rfl rfl (by rw [gsize]; decide) hw z4
  obtain ⟨e2, i2, j2, hI2⟩ := t1.inv (m := 20) (by rw [gsize]; decide) (by rw [gsize]; decide) n4 rfl rfl (fun id j o' _ h => hr1 id o' h)
  have hr2 := ro_fupd (m := 3) (o := .cells [.map (some 20)] e2 false) (ro_fupd (m := 20) (o := .table schemesT) hr1 rfl) rfl
  obtain ⟨e3, i3, j3, hI3⟩ := t2.inv (m := 21) (by rw [gsize]; decide) (by rw [gsize]; decide) hI2 rfl rfl (fun id j o' _ h => hr2 id o' h)
  have hr3 := ro_fupd (m := 0) (o := .cells [.map (some 21)] e3 false) (ro_fupd (m := 21) (o := .table mostT) hr2 rfl) rfl
  obtain ⟨e4, i4, j4, hI4⟩ := t3.inv (m := 22) (by rw [gsize]; decide) (by rw [gsize]; decide) hI3 rfl rfl (fun id j o' _ h => hr3 id o' h)
  have hf := hI4.fix
  have he : (hW e1 e2 e3 e4).t.get = fupd (fupd (fupd (fupd (fupd (fupd (fupd (fun _ => none) 4 (some (.cells samesC e1 false))) 20 (some (.table schemesT))) 3 (some (.cells [.map (some 20)] e2 false))) 21 (some (.table mostT))) 0 (some (.cells [.map (some 21)] e3 false))) 22 (some (.table askedT))) 5 (some (.cells [.map (some 22)] e4 false)) := by
    unfold hW
    rw [Tr.get_set_fun, Tr.get_set_fun, Tr.get_set_fun, Tr.get_set_fun, Tr.get_set_fun, Tr.get_set_fun, Tr.get_set_fun]
    rfl
  rw [← he] at hf
  refine ⟨e1, e2, e3, e4, _, hf, fun id hid => ?_, rfl, rfl, rfl, rfl, rfl⟩
  unfold fupd
  simp only []
  repeat (first | rfl | (rw [if_neg (by omega)]))
noncomputable def kTrue (v : Value) (h : Hp) : Bool :=
  match v with
  | .bool b => b
  | _ => false
theorem kTrue_ok {v : Value} {h : Hp} (hk : kTrue v h = true) : v = .bool true := by
  unfold kTrue at hk
  split at hk
  · rw [hk]
  · cases hk
noncomputable def sTrue : List Value → NTree Value
  | [] => .ret (.bool true)
  | _ => .none
end Go.Proofs.YtonlcjnceooogaaGreatDoor
end
section
/- Functions of the program as terms of the quick engine; each is what its code comes to. -/
set_option autoImplicit false
set_option linter.unusedVariables false
set_option maxRecDepth 100000
namespace Go.Proofs.YtonlcjnceooogaaGreatDoor
open Go Go.RowKit Go.Proofs.YtonlcjnceooogaaGreatDoor.Abs
noncomputable def F8 (R : Ops) (C : Callees) : FnT 1 := fun v1 v2 kr => R.al 27 [(.int .i64 (.ofNat 0)), (.int .i64 (.ofNat 0))] v2 fun v3 v4 => C 21 1 v1 v4 fun v5 v6 => R.ex 0 v5 fun v7 => R.ex 1 v5 fun v8 => R.al 27 [(.int .i64 (.ofNat 0)), (.int .i64 (.ofNat 0))] v6 fun v9 va => R.sn 2 va v9 v8 fun vb vc => R.ln 2 vc v9 fun vd => R.sn 2 vc v3 vd fun ve vf => R.ln 2 vf v3 fun vg => kr vg vf
theorem F8_eq (R : Ops) (C : Callees) : F8 R C = fnOf Tryz.prog R C 1 Tryz.f8 (bodyOf Tryz.prog 8) := by kernel_rfl

noncomputable def F21 (R : Ops) (C : Callees) : FnT 1 := fun v1 v2 kr => R.al 27 [(.int .i64 (.ofNat 0)), (.int .i64 (.ofNat 0))] v2 fun v3 v4 => C 52 1 v1 v4 fun v5 v6 => R.ex 0 v5 fun v7 => R.ex 1 v5 fun v8 => R.al 27 [(.int .i64 (.ofNat 0)), (.int .i64 (.ofNat 0))] v6 fun v9 va => R.sn 2 va v9 v8 fun vb vc => R.jn (fun Jd : Cur (Hp → Bool) 1 => R.fa 0 v9 fun ve => R.l1 vc ve fun vf => R.bi .neq vf (.int .i64 (.ofNat 0)) fun vg => R.br vg (R.ln 2 vc v9 fun vh => R.bo (R.ln 2 vc v9 fun vi => R.eq vi vh) (R.sn 2 vc v3 vh fun vj vk => R.ln 2 vk v3 fun vl => kr (.tuple ⟨[(.pointer none), vl]⟩) vk)) (Jd (.pointer none) vc)) fun vm vn => C 53 1 v7 vn fun vo vp => R.mm vp fun vq vr => R.jn (fun Js : Cur (Hp → Bool) 0 => R.lv v7 fun vt => R.jn (fun Ju : Cur (Hp → Bool) 0 => R.lp 3 (fun Jv vw vx vy vz => R.bi .lss vy vt fun v10 => R.jn (fun J11 : Cur (Hp → Bool) 0 => R.br v10 (J11 vz) (Ju vz)) fun v12 => R.jn (fun J13 : Cur (Hp → Bool) 2 => R.jn (fun J14 : Cur (Hp → Bool) 2 => R.xs 17 v7 vy fun v15 => R.ln 17 v12 v15 fun v16 => R.al 77 [(.int .i64 (.ofNat 0)), (.int .i64 (.ofNat 0)), (.string ⟨⟨[]⟩⟩), (.int .i64 (.ofNat 0)), (.int .i64 (.ofNat 0)), (.string ⟨⟨[]⟩⟩), (.int .i64 (.ofNat 0)), (.int .i64 (.ofNat 0)), (.string ⟨⟨[]⟩⟩), (.int .i64 (.ofNat 0)), (.int .i64 (.ofNat 0)), (.string ⟨⟨[]⟩⟩), (.int .i64 (.ofNat 0)), (.int .i64 (.ofNat 0)), (.string ⟨⟨[]⟩⟩), (.slice none 0 0), (.pointer none)] v12 fun v17 v18 => R.sn 17 v18 v17 v16 fun v19 v1a => R.jn (fun J1b : Cur (Hp → Bool) 2 => R.fa 0 v17 fun v1c => R.fa 2 v1c fun v1d => R.l1 v1a v1d fun v1e => R.bs .eql v1e (.string ⟨⟨[110,101,116,119,111,114,107]⟩⟩) fun v1f => R.br v1f (R.jn (fun J1g : Cur (Hp → Bool) 1 => R.br vx (R.fa 0 v17 fun v1h => R.ln 3 v1a v1h fun v1i => C 54 2 (.int .i64 (.ofNat 7)) v1i v1a fun v1j v1k => R.sn 2 v1k v3 v1j fun v1l v1m => R.ln 2 v1m v3 fun v1n => kr (.tuple ⟨[(.pointer none), v1n]⟩) v1m) (J1g vw v1a)) fun v1o v1p => J14 v1o (.bool true) v1p) (J1b vw vx v1a)) fun v1q v1r v1s => R.jn (fun J1t : Cur (Hp → Bool) 1 => C 55 3 vo vy vq v1s fun v1u v1v => R.bi .neq v1u (.int .i64 (.ofNat 0)) fun v1w => R.br v1w (R.fa 3 v17 fun v1x => R.ln 3 v1v v1x fun v1y => C 54 2 v1u v1y v1v fun v1z v20 => R.sn 2 v20 v3 v1z fun v21 v22 => R.ln 2 v22 v3 fun v23 => kr (.tuple ⟨[(.pointer none), v23]⟩) v22) (J1t v1q v1v)) fun v24 v25 => C 56 2 vo vy v25 fun v26 v27 => R.al 27 [(.int .i64 (.ofNat 0)), (.int .i64 (.ofNat 0))] v27 fun v28 v29 => R.sn 2 v29 v28 v26 fun v2a v2b => R.fa 0 v28 fun v2c => R.l1 v2b v2c fun v2d => R.bi .neq v2d (.int .i64 (.ofNat 0)) fun v2e => R.br v2e (R.ln 2 v2b v28 fun v2f => R.bo (R.ln 2 v2b v28 fun v2g => R.eq v2g v2f) (R.sn 2 v2b v3 v2f fun v2h v2i => R.ln 2 v2i v3 fun v2j => kr (.tuple ⟨[(.pointer none), v2j]⟩) v2i)) (J14 v24 v1r v2b)) fun v2k v2l v2m => J13 v2k v2l v2m) fun v2n v2o v2p => R.bi .add vy (.int .i64 (.ofNat 1)) fun v2q => Jv v2n v2o v2q v2p) fuel vm (.bool false) (.int .i64 (.ofNat 0)) vr) fun v2r => Js v2r) fun v2s => R.bd 27 [] fun v2t => R.sn 2 v2s v3 v2t fun v2u v2v => R.ln 2 v2v v3 fun v2w => kr (.tuple ⟨[vo, v2w]⟩) v2v
theorem F21_eq (R : Ops) (C : Callees) : F21 R C = fnOf Tryz.prog R C 1 Tryz.f21 (bodyOf Tryz.prog 21) := by kernel_rfl

noncomputable def F22 (R : Ops) (C : Callees) : FnT 2 := fun v1 v2 v3 kr => R.jn (fun J4 : Cur (Hp → Bool) 1 => R.lv v1 fun v5 => R.lv v2 fun v6 => R.bi .neq v5 v6 fun v7 => R.br v7 (kr (.bool false) v3) (J4 (.bool false) v3)) fun v8 v9 => R.jn (fun Ja : Cur (Hp → Bool) 0 => R.jn (fun Jb : Cur (Hp → Bool) 0 => R.lp 2 (fun Jc vd ve vf => R.jn (fun Jg : Cur (Hp → Bool) 0 => R.lv v1 fun vh => R.bi .lss ve vh fun vi => R.br vi (Jg vf) (Jb vf)) fun vj => R.jn (fun Jk : Cur (Hp → Bool) 1 => R.jn (fun Jl : Cur (Hp → Bool) 1 => R.xs 1 v1 ve fun vm => R.l1 vj vm fun vn => R.xs 1 v2 ve fun vo => R.l1 vj vo fun vp => R.bs .neq vn vp fun vq => R.bo (R.l1 vj vo fun vr => R.eq vr vp) (R.bo (R.l1 vj vm fun vs => R.eq vs vn) (R.br vq (kr (.bool false) vj) (Jl vd vj)))) fun vt vu => Jk vt vu) fun vv vw => R.bi .add ve (.int .i64 (.ofNat 1)) fun vx => Jc vv vx vw) fuel v8 (.int .i64 (.ofNat 0)) v9) fun vy => Ja vy) fun vz => kr (.bool true) vz
theorem F22_eq (R : Ops) (C : Callees) : F22 R C = fnOf Tryz.prog R C 2 Tryz.f22 (bodyOf Tryz.prog 22) := by kernel_rfl

noncomputable def F23 (R : Ops) (C : Callees) : FnT 1 := fun v1 v2 kr => C 21 1 v1 v2 fun v3 v4 => R.ex 0 v3 fun v5 => R.ex 1 v3 fun v6 => R.al 27 [(.int .i64 (.ofNat 0)), (.int .i64 (.ofNat 0))] v4 fun v7 v8 => R.sn 2 v8 v7 v6 fun v9 va => R.jn (fun Jb : Cur (Hp → Bool) 1 => R.fa 0 v7 fun vc => R.l1 va vc fun vd => R.bi .neq vd (.int .i64 (.ofNat 0)) fun ve => R.br ve (kr (.slice none 0 0) va) (Jb (.slice none 0 0) va)) fun vf vg => R.jn (fun Jh : Cur (Hp → Bool) 1 => R.nk v5 (R.fa 0 v5 fun vi => R.l1 vg vi fun vj => R.lv vj fun vk => R.jn (fun Jl : Cur (Hp → Bool) 1 => R.lp 2 (fun Jm vn vo vp => R.bi .lss vo vk fun vq => R.jn (fun Jr : Cur (Hp → Bool) 0 => R.br vq (Jr vp) (Jl vn vp)) fun vs => R.jn (fun Jt : Cur (Hp → Bool) 1 => R.jn (fun Ju : Cur (Hp → Bool) 1 => R.xs 17 vj vo fun vv => R.ln 17 vs vv fun vw => R.al 77 [(.int .i64 (.ofNat 0)), (.int .i64 (.ofNat 0)), (.string ⟨⟨[]⟩⟩), (.int .i64 (.ofNat 0)), (.int .i64 (.ofNat 0)), (.string ⟨⟨[]⟩⟩), (.int .i64 (.ofNat 0)), (.int .i64 (.ofNat 0)), (.string ⟨⟨[]⟩⟩), (.int .i64 (.ofNat 0)), (.int .i64 (.ofNat 0)), (.string ⟨⟨[]⟩⟩), (.int .i64 (.ofNat 0)), (.int .i64 (.ofNat 0)), (.string ⟨⟨[]⟩⟩), (.slice none 0 0), (.pointer none)] vs fun vx vy => R.sn 17 vy vx vw fun vz v10 => R.fa 3 vx fun v11 => R.fa 0 v11 fun v12 => R.l1 v10 v12 fun v13 => R.bi .neq v13 (.int .i64 (.ofNat 0)) fun v14 => R.br v14 (R.fa 3 vx fun v15 => R.fa 2 v15 fun v16 => R.l1 v10 v16 fun v17 => R.bl 22 1 [(0, v17)] v10 fun v18 v19 => R.bt v19 .append ⟨[22, 22]⟩ [vn, v18] fun v1a v1b => Ju v1a v1b) (Ju vn v10)) fun v1c v1d => Jt v1c v1d) fun v1e v1f => R.bi .add vo (.int .i64 (.ofNat 1)) fun v1g => Jm v1e v1g v1f) fuel (.slice none 0 0) (.int .i64 (.ofNat 0)) vg) fun v1h v1i => Jh v1h v1i)) fun v1j v1k => kr v1j v1k
theorem F23_eq (R : Ops) (C : Callees) : F23 R C = fnOf Tryz.prog R C 1 Tryz.f23 (bodyOf Tryz.prog 23) := by kernel_rfl

noncomputable def F52 (R : Ops) (C : Callees) : FnT 1 := fun v1 v2 kr => R.al 27 [(.int .i64 (.ofNat 0)), (.int .i64 (.ofNat 0))] v2 fun v3 v4 => C 91 1 v1 v4 fun v5 v6 => R.ex 0 v5 fun v7 => R.ex 1 v5 fun v8 => R.al 27 [(.int .i64 (.ofNat 0)), (.int .i64 (.ofNat 0))] v6 fun v9 va => R.sn 2 va v9 v8 fun vb vc => R.jn (fun Jd : Cur (Hp → Bool) 1 => R.fa 0 v9 fun ve => R.l1 vc ve fun vf => R.bi .neq vf (.int .i64 (.ofNat 0)) fun vg => R.br vg (R.ln 2 vc v9 fun vh => R.bo (R.ln 2 vc v9 fun vi => R.eq vi vh) (R.sn 2 vc v3 vh fun vj vk => R.ln 2 vk v3 fun vl => kr (.tuple ⟨[(.slice none 0 0), vl]⟩) vk)) (Jd (.slice none 0 0) vc)) fun vm vn => R.ls v1 fun vo => R.bd 169 [(0, v7), (1, vo)] fun vp => R.bx 169 vn vp fun vq vr => C 92 1 vq vr fun vs vt => R.ex 0 vs fun vu => R.ex 1 vs fun vv => R.sn 2 vt v9 vv fun vw vx => R.jn (fun Jy : Cur (Hp → Bool) 1 => R.fa 0 v9 fun vz => R.l1 vx vz fun v10 => R.bi .neq v10 (.int .i64 (.ofNat 0)) fun v11 => R.br v11 (R.ln 2 vx v9 fun v12 => R.bo (R.ln 2 vx v9 fun v13 => R.eq v13 v12) (R.sn 2 vx v3 v12 fun v14 v15 => R.ln 2 v15 v3 fun v16 => kr (.tuple ⟨[(.slice none 0 0), v16]⟩) v15)) (Jy vm vx)) fun v17 v18 => R.jn (fun J19 : Cur (Hp → Bool) 0 => R.lv vu fun v1a => R.jn (fun J1b : Cur (Hp → Bool) 0 => R.lp 2 (fun J1c v1d v1e v1f => R.bi .lss v1e v1a fun v1g => R.jn (fun J1h : Cur (Hp → Bool) 0 => R.br v1g (J1h v1f) (J1b v1f)) fun v1i => R.jn (fun J1j : Cur (Hp → Bool) 1 => R.jn (fun J1k : Cur (Hp → Bool) 1 => R.xs 17 vu v1e fun v1l => R.ln 17 v1i v1l fun v1m => R.al 77 [(.int .i64 (.ofNat 0)), (.int .i64 (.ofNat 0)), (.string ⟨⟨[]⟩⟩), (.int .i64 (.ofNat 0)), (.int .i64 (.ofNat 0)), (.string ⟨⟨[]⟩⟩), (.int .i64 (.ofNat 0)), (.int .i64 (.ofNat 0)), (.string ⟨⟨[]⟩⟩), (.int .i64 (.ofNat 0)), (.int .i64 (.ofNat 0)), (.string ⟨⟨[]⟩⟩), (.int .i64 (.ofNat 0)), (.int .i64 (.ofNat 0)), (.string ⟨⟨[]⟩⟩), (.slice none 0 0), (.pointer none)] v1i fun v1n v1o => R.sn 17 v1o v1n v1m fun v1p v1q => R.fa 16 v1n fun v1r => R.l1 v1q v1r fun v1s => C 93 1 v1s v1q fun v1t v1u => R.bi .gtr v1t (.int .i64 (.ofNat 16)) fun v1v => R.br v1v (R.bd 27 [(0, (.int .i64 (.ofNat 5)))] fun v1w => R.sn 2 v1u v3 v1w fun v1x v1y => R.ln 2 v1y v3 fun v1z => kr (.tuple ⟨[(.slice none 0 0), v1z]⟩) v1y) (J1k v1d v1u)) fun v20 v21 => J1j v20 v21) fun v22 v23 => R.bi .add v1e (.int .i64 (.ofNat 1)) fun v24 => J1c v22 v24 v23) fuel v17 (.int .i64 (.ofNat 0)) v18) fun v25 => J19 v25) fun v26 => R.ln 2 v26 v9 fun v27 => R.bo (R.ln 2 v26 v9 fun v28 => R.eq v28 v27) (R.sn 2 v26 v3 v27 fun v29 v2a => R.ln 2 v2a v3 fun v2b => kr (.tuple ⟨[vu, v2b]⟩) v2a)
theorem F52_eq (R : Ops) (C : Callees) : F52 R C = fnOf Tryz.prog R C 1 Tryz.f52 (bodyOf Tryz.prog 52) := by kernel_rfl

noncomputable def F54 (R : Ops) (C : Callees) : FnT 2 := fun v1 v2 v3 kr => R.bx 73 v3 v2 fun v4 v5 => R.al 27 [(.int .i64 (.ofNat 0)), (.int .i64 (.ofNat 0))] v5 fun v6 v7 => R.jn (fun J8 : Cur (Hp → Bool) 0 => R.bi .eql v1 (.int .i64 (.ofNat 0)) fun v9 => R.br v9 (R.bd 27 [] fun va => R.sn 2 v7 v6 va fun vb vc => R.ln 2 vc v6 fun vd => kr vd vc) (J8 v7)) fun ve => R.fa 1 v4 fun vf => R.l1 ve vf fun vg => R.bd 27 [(0, v1), (1, vg)] fun vh => R.sn 2 ve v6 vh fun vi vj => R.ln 2 vj v6 fun vk => kr vk vj
theorem F54_eq (R : Ops) (C : Callees) : F54 R C = fnOf Tryz.prog R C 2 Tryz.f54 (bodyOf Tryz.prog 54) := by kernel_rfl

noncomputable def F55 (R : Ops) (C : Callees) : FnT 3 := fun v1 v2 v3 v4 kr => R.nk v1 (R.fa 0 v1 fun v5 => R.l1 v4 v5 fun v6 => R.xs 17 v6 v2 fun v7 => R.ln 17 v4 v7 fun v8 => R.al 77 [(.int .i64 (.ofNat 0)), (.int .i64 (.ofNat 0)), (.string ⟨⟨[]⟩⟩), (.int .i64 (.ofNat 0)), (.int .i64 (.ofNat 0)), (.string ⟨⟨[]⟩⟩), (.int .i64 (.ofNat 0)), (.int .i64 (.ofNat 0)), (.string ⟨⟨[]⟩⟩), (.int .i64 (.ofNat 0)), (.int .i64 (.ofNat 0)), (.string ⟨⟨[]⟩⟩), (.int .i64 (.ofNat 0)), (.int .i64 (.ofNat 0)), (.string ⟨⟨[]⟩⟩), (.slice none 0 0), (.pointer none)] v4 fun v9 va => R.sn 17 va v9 v8 fun vb vc => R.fa 0 v9 fun vd => R.fa 2 vd fun ve => R.l1 vc ve fun vf => R.lk 64 vc v3 vf false fun vg => R.bi .add vg (.int .i64 (.ofNat 1)) fun vh => R.up 64 vc v3 vf vh fun vi vj => R.jn (fun Jk : Cur (Hp → Bool) 0 => R.jn (fun Jl : Cur (Hp → Bool) 0 => R.nk v1 (R.fa 1 v1 fun vm => R.l1 vj vm fun vn => R.fa 3 v9 fun vo => R.fa 2 vo fun vp => R.l1 vj vp fun vq => R.lk 64 vj vn vq false fun vr => R.bi .neq vr v2 fun vs => R.jn (fun Jt : KVH => R.gd false vs (R.fa 3 v9 fun vu => Jt vu vj) (Jt undef vj)) fun vv vw => R.jn (fun Jx : KVH => R.gd false vs (R.fa 2 vv fun vy => Jx vy vw) (Jx undef vw)) fun vz v10 => R.jn (fun J11 : KVH => R.gd false vs (R.l1 v10 vz fun v12 => J11 v12 v10) (J11 undef v10)) fun v13 v14 => R.jn (fun J15 : KVH => R.gd false vs (R.bs .eql v13 (.string ⟨⟨[101,118,105,108]⟩⟩) fun v16 => J15 v16 v14) (J15 undef v14)) fun v17 v18 => R.pk vs (.bool true) v17 fun v19 => R.bo (R.gd false vs (R.l1 v18 vz fun v1a => R.eq v1a v13) true) (R.bo (R.lk 64 v18 vn vq false fun v1b => R.eq v1b vr) (R.bo (R.l1 v18 vp fun v1c => R.eq v1c vq) (R.bo (R.l1 v18 vm fun v1d => R.eq v1d vn) (R.br v19 (kr (.int .i64 (.ofNat 7)) v18) (R.fa 0 v9 fun v1e => R.fa 2 v1e fun v1f => R.l1 v18 v1f fun v1g => R.lk 64 v18 v3 v1g false fun v1h => R.gl 0 v18 fun v1i => R.l1 v18 v1i fun v1j => R.fa 0 v9 fun v1k => R.fa 2 v1k fun v1l => R.l1 v18 v1l fun v1m => R.lk 64 v18 v1j v1m false fun v1n => R.bi .gtr v1h v1n fun v1o => R.br v1o (kr (.int .i64 (.ofNat 6)) v18) (Jl v18)))))))) fun v1p => Jk v1p) fun v1q => kr (.int .i64 (.ofNat 0)) v1q)
theorem F55_eq (R : Ops) (C : Callees) : F55 R C = fnOf Tryz.prog R C 3 Tryz.f55 (bodyOf Tryz.prog 55) := by kernel_rfl

noncomputable def F56 (R : Ops) (C : Callees) : FnT 2 := fun v1 v2 v3 kr => R.al 27 [(.int .i64 (.ofNat 0)), (.int .i64 (.ofNat 0))] v3 fun v4 v5 => R.nk v1 (R.fa 0 v1 fun v6 => R.l1 v5 v6 fun v7 => R.xs 17 v7 v2 fun v8 => R.ln 17 v5 v8 fun v9 => R.al 77 [(.int .i64 (.ofNat 0)), (.int .i64 (.ofNat 0)), (.string ⟨⟨[]⟩⟩), (.int .i64 (.ofNat 0)), (.int .i64 (.ofNat 0)), (.string ⟨⟨[]⟩⟩), (.int .i64 (.ofNat 0)), (.int .i64 (.ofNat 0)), (.string ⟨⟨[]⟩⟩), (.int .i64 (.ofNat 0)), (.int .i64 (.ofNat 0)), (.string ⟨⟨[]⟩⟩), (.int .i64 (.ofNat 0)), (.int .i64 (.ofNat 0)), (.string ⟨⟨[]⟩⟩), (.slice none 0 0), (.pointer none)] v5 fun va vb => R.sn 17 vb va v9 fun vc vd => R.jn (fun Je : Cur (Hp → Bool) 0 => R.fa 6 va fun vf => R.fa 0 vf fun vg => R.l1 vd vg fun vh => R.bi .neq vh (.int .i64 (.ofNat 0)) fun vi => R.br vi (R.fa 6 va fun vj => R.ln 3 vd vj fun vk => C 95 3 v1 (.string ⟨⟨[97,116]⟩⟩) vk vd fun vl vm => R.bi .neq vl (.int .i64 (.ofNat 0)) fun vn => R.br vn (R.fa 6 va fun vo => R.ln 3 vm vo fun vp => C 54 2 vl vp vm fun vq vr => R.sn 2 vr v4 vq fun vs vt => R.ln 2 vt v4 fun vu => kr vu vt) (Je vm)) (Je vd)) fun vv => R.jn (fun Jw : Cur (Hp → Bool) 0 => R.fa 0 va fun vx => R.fa 2 vx fun vy => R.l1 vv vy fun vz => R.jn (fun J10 : Cur (Hp → Bool) 0 => R.bs .eql vz (.string ⟨⟨[111,114,105,103,105,110]⟩⟩) fun v11 => R.br v11 (R.fa 12 va fun v12 => R.ln 3 vv v12 fun v13 => R.bo (R.ln 3 vv v12 fun v14 => R.eq v14 v13) (C 96 2 v1 v2 vv fun v15 v16 => R.bo (R.ln 3 v16 v12 fun v17 => R.eq v17 v13) (C 54 2 v15 v13 v16 fun v18 v19 => R.sn 2 v19 v4 v18 fun v1a v1b => R.ln 2 v1b v4 fun v1c => kr v1c v1b))) (R.bs .eql vz (.string ⟨⟨[99,111,111,107,105,101]⟩⟩) fun v1d => R.br v1d (R.ln 17 vv va fun v1e => R.fa 12 va fun v1f => R.ln 3 vv v1f fun v1g => R.bo (R.ln 3 vv v1f fun v1h => R.eq v1h v1g) (R.bo (R.ln 17 vv va fun v1i => R.eq v1i v1e) (C 97 2 v1 v1e vv fun v1j v1k => R.bo (R.ln 3 v1k v1f fun v1l => R.eq v1l v1g) (C 54 2 v1j v1g v1k fun v1m v1n => R.sn 2 v1n v4 v1m fun v1o v1p => R.ln 2 v1p v4 fun v1q => kr v1q v1p)))) (R.bs .eql vz (.string ⟨⟨[112,114,111,112,101,114,116,121]⟩⟩) fun v1r => R.br v1r (R.fa 16 va fun v1s => R.l1 vv v1s fun v1t => C 98 2 v1 v1t vv fun v1u v1v => R.sn 2 v1v v4 v1u fun v1w v1x => R.ln 2 v1x v4 fun v1y => kr v1y v1x) (R.bs .eql vz (.string ⟨⟨[101,110,100,112,111,105,110,116]⟩⟩) fun v1z => R.br v1z (R.jn (fun J20 : Cur (Hp → Bool) 0 => R.jn (fun J21 : Cur (Hp → Bool) 0 => R.fa 9 va fun v22 => R.fa 2 v22 fun v23 => R.l1 vv v23 fun v24 => C 99 1 v24 vv fun v25 v26 => R.nt v25 fun v27 => R.br v27 (R.fa 9 va fun v28 => R.ln 3 v26 v28 fun v29 => C 54 2 (.int .i64 (.ofNat 10)) v29 v26 fun v2a v2b => R.sn 2 v2b v4 v2a fun v2c v2d => R.ln 2 v2d v4 fun v2e => kr v2e v2d) (R.fa 12 va fun v2f => R.fa 2 v2f fun v2g => R.l1 v26 v2g fun v2h => C 100 1 v2h v26 fun v2i v2j => R.nt v2i fun v2k => R.br v2k (R.fa 12 va fun v2l => R.ln 3 v2j v2l fun v2m => C 54 2 (.int .i64 (.ofNat 10)) v2m v2j fun v2n v2o => R.sn 2 v2o v4 v2n fun v2p v2q => R.ln 2 v2q v4 fun v2r => kr v2r v2q) (J21 v2j))) fun v2s => J20 v2s) fun v2t => R.ln 17 v2t va fun v2u => C 101 2 v1 v2u v2t fun v2v v2w => R.sn 2 v2w v4 v2v fun v2x v2y => R.ln 2 v2y v4 fun v2z => kr v2z v2y) (J10 vv))))) fun v30 => Jw v30) fun v31 => R.bd 27 [] fun v32 => R.sn 2 v31 v4 v32 fun v33 v34 => R.ln 2 v34 v4 fun v35 => kr v35 v34)
theorem F56_eq (R : Ops) (C : Callees) : F56 R C = fnOf Tryz.prog R C 2 Tryz.f56 (bodyOf Tryz.prog 56) := by kernel_rfl

noncomputable def F90 (R : Ops) (C : Callees) : FnT 1 := fun v1 v2 kr => R.al 89 [(.string ⟨⟨[]⟩⟩), (.string ⟨⟨[]⟩⟩), (.string ⟨⟨[]⟩⟩), (.int .i64 (.ofNat 0))] v2 fun v3 v4 => C 125 2 v1 (.string ⟨⟨[58,47,47]⟩⟩) v4 fun v5 v6 => R.ex 0 v5 fun v7 => R.ex 1 v5 fun v8 => R.ex 2 v5 fun v9 => R.gl 3 v6 fun va => R.l1 v6 va fun vb => R.lk 64 v6 vb v7 true fun vc => R.ex 0 vc fun vd => R.ex 1 vc fun ve => R.jn (fun Jf : Cur (Hp → Bool) 0 => R.nt v9 fun vg => R.jn (fun Jh : Cur (Hp → Bool) 1 => R.gd false vg (R.nt ve fun vi => Jh vi v6) (Jh undef v6)) fun vj vk => R.pk vg (.bool true) vj fun vl => R.br vl (R.bd 89 [] fun vm => R.sn 4 vk v3 vm fun vn vo => R.ln 4 vo v3 fun vp => kr (.tuple ⟨[vp, (.bool false)]⟩) vo) (Jf vk)) fun vq => C 125 2 v8 (.string ⟨⟨[58]⟩⟩) vq fun vr vs => R.ex 0 vr fun vt => R.ex 1 vr fun vu => R.ex 2 vr fun vv => R.jn (fun Jw : Cur (Hp → Bool) 2 => R.br vv (C 154 1 vu vs fun vx vy => R.ex 0 vx fun vz => R.ex 1 vx fun v10 => Jw v10 vz vy) (Jw v9 vd vs)) fun v11 v12 v13 => R.jn (fun J14 : Cur (Hp → Bool) 0 => R.nt v11 fun v15 => R.jn (fun J16 : Cur (Hp → Bool) 1 => R.gd false v15 (C 155 1 vt v13 fun v17 v18 => R.nt v17 fun v19 => J16 v19 v18) (J16 undef v13)) fun v1a v1b => R.pk v15 (.bool true) v1a fun v1c => R.br v1c (R.bd 89 [] fun v1d => R.sn 4 v1b v3 v1d fun v1e v1f => R.ln 4 v1f v3 fun v1g => kr (.tuple ⟨[v1g, (.bool false)]⟩) v1f) (J14 v1b)) fun v1h => R.bd 89 [(1, v7), (2, vt), (3, v12)] fun v1i => R.sn 4 v1h v3 v1i fun v1j v1k => R.ln 4 v1k v3 fun v1l => kr (.tuple ⟨[v1l, (.bool true)]⟩) v1k
theorem F90_eq (R : Ops) (C : Callees) : F90 R C = fnOf Tryz.prog R C 1 Tryz.f90 (bodyOf Tryz.prog 90) := by kernel_rfl

noncomputable def F91 (R : Ops) (C : Callees) : FnT 1 := fun v1 v2 kr => R.al 27 [(.int .i64 (.ofNat 0)), (.int .i64 (.ofNat 0))] v2 fun v3 v4 => R.jn (fun J5 : Cur (Hp → Bool) 1 => R.ls v1 fun v6 => R.bi .gtr v6 (.int .i64 (.ofNat 8000)) fun v7 => R.br v7 (R.bd 27 [(0, (.int .i64 (.ofNat 6)))] fun v8 => R.sn 2 v4 v3 v8 fun v9 va => R.ln 2 va v3 fun vb => kr (.tuple ⟨[(.slice none 0 0), vb]⟩) va) (J5 (.slice none 0 0) v4)) fun vc vd => R.jn (fun Je : Cur (Hp → Bool) 1 => C 156 1 v1 vd fun vf vg => R.jn (fun Jh : Cur (Hp → Bool) 1 => R.lp 3 (fun Ji vj vk vl vm => R.jn (fun Jn : Cur (Hp → Bool) 0 => R.ls v1 fun vo => R.bi .lss vl vo fun vp => R.br vp (Jn vm) (Jh vk vm)) fun vq => R.jn (fun Jr : Cur (Hp → Bool) 3 => R.jn (fun Js : Cur (Hp → Bool) 3 => R.ss v1 (some vl) none fun vt => C 157 1 vt vq fun vu vv => R.ex 0 vu fun vw => R.ex 1 vu fun vx => R.ex 2 vu fun vy => R.al 73 [(.int .i64 (.ofNat 0)), (.int .i64 (.ofNat 0)), (.string ⟨⟨[]⟩⟩)] vv fun vz v10 => R.sn 3 v10 vz vw fun v11 v12 => R.jn (fun J13 : Cur (Hp → Bool) 1 => R.bi .eql vy (.int .i64 (.ofNat 0)) fun v14 => R.jn (fun J15 : Cur (Hp → Bool) 1 => R.gd true v14 (R.lv vk fun v16 => R.bi .eql v16 (.int .i64 (.ofNat 2000)) fun v17 => J15 v17 v12) (J15 undef v12)) fun v18 v19 => R.pk v14 v18 (.bool false) fun v1a => R.br v1a (J13 (.int .i64 (.ofNat 6)) v19) (J13 vy v19)) fun v1b v1c => R.jn (fun J1d : Cur (Hp → Bool) 1 => R.bi .neq v1b (.int .i64 (.ofNat 0)) fun v1e => R.br v1e (R.bd 27 [(0, v1b), (1, vl)] fun v1f => R.sn 2 v1c v3 v1f fun v1g v1h => R.ln 2 v1h v3 fun v1i => kr (.tuple ⟨[(.slice none 0 0), v1i]⟩) v1h) (J1d vj v1c)) fun v1j v1k => R.fa 1 vz fun v1l => R.s1 v1k v1l vl fun v1m v1n => R.ln 3 v1n vz fun v1o => R.bl 164 1 [(0, v1o)] v1n fun v1p v1q => R.bt v1q .append ⟨[164, 164]⟩ [vk, v1p] fun v1r v1s => R.bi .add vl vx fun v1t => Js v1j v1r v1t v1s) fun v1u v1v v1w v1x => Jr v1u v1v v1w v1x) fun v1y v1z v20 v21 => R.ss v1 (some v20) none fun v22 => C 156 1 v22 v21 fun v23 v24 => R.bi .add v20 v23 fun v25 => Ji v1y v1z v25 v24) fuel vc (.slice none 0 0) vf vg) fun v26 v27 => Je v26 v27) fun v28 v29 => R.bd 27 [] fun v2a => R.sn 2 v29 v3 v2a fun v2b v2c => R.ln 2 v2c v3 fun v2d => kr (.tuple ⟨[v28, v2d]⟩) v2c
theorem F91_eq (R : Ops) (C : Callees) : F91 R C = fnOf Tryz.prog R C 1 Tryz.f91 (bodyOf Tryz.prog 91) := by kernel_rfl

noncomputable def F93 (R : Ops) (C : Callees) : FnT 1 := fun v1 v2 kr => R.jn (fun J3 : Cur (Hp → Bool) 1 => R.bv .eql 75 (.tmp 6) (.const (.pointer none)) v1 (.pointer none) fun v4 => R.br v4 (kr (.int .i64 (.ofNat 0)) v2) (J3 (.int .i64 (.ofNat 0)) v2)) fun v5 v6 => R.jn (fun J7 : Cur (Hp → Bool) 1 => R.nk v1 (R.fa 6 v1 fun v8 => R.l1 v6 v8 fun v9 => R.lv v9 fun va => R.jn (fun Jb : Cur (Hp → Bool) 1 => R.lp 2 (fun Jc vd ve vf => R.bi .lss ve va fun vg => R.jn (fun Jh : Cur (Hp → Bool) 0 => R.br vg (Jh vf) (Jb vd vf)) fun vi => R.jn (fun Jj : Cur (Hp → Bool) 1 => R.jn (fun Jk : Cur (Hp → Bool) 1 => R.xs 1 v9 ve fun vl => R.l1 vi vl fun vm => C 93 1 vm vi fun vn vo => R.bt vo .max ⟨[3, 3]⟩ [vd, vn] fun vp vq => Jk vp vq) fun vr vs => Jj vr vs) fun vt vu => R.bi .add ve (.int .i64 (.ofNat 1)) fun vv => Jc vt vv vu) fuel (.int .i64 (.ofNat 0)) (.int .i64 (.ofNat 0)) v6) fun vw vx => J7 vw vx)) fun vy vz => R.bi .add vy (.int .i64 (.ofNat 1)) fun v10 => kr v10 vz
theorem F93_eq (R : Ops) (C : Callees) : F93 R C = fnOf Tryz.prog R C 1 Tryz.f93 (bodyOf Tryz.prog 93) := by kernel_rfl

noncomputable def F94 (R : Ops) (C : Callees) : FnT 2 := fun v1 v2 v3 kr => R.al 92 [(.string ⟨⟨[]⟩⟩), (.int .i64 (.ofNat 0)), (.string ⟨⟨[]⟩⟩), (.string ⟨⟨[]⟩⟩), (.bool false), (.bool false), (.int .i64 (.ofNat 0))] v3 fun v4 v5 => R.bd 92 [(3, (.string ⟨⟨[47]⟩⟩)), (6, (.int .i64 (.ofNat 2)))] fun v6 => R.al 92 [(.string ⟨⟨[]⟩⟩), (.int .i64 (.ofNat 0)), (.string ⟨⟨[]⟩⟩), (.string ⟨⟨[]⟩⟩), (.bool false), (.bool false), (.int .i64 (.ofNat 0))] v5 fun v7 v8 => R.sn 7 v8 v7 v6 fun v9 va => R.mm va fun vb vc => R.jn (fun Jd : Cur (Hp → Bool) 0 => C 160 1 v2 vc fun ve vf => R.lv ve fun vg => R.jn (fun Jh : Cur (Hp → Bool) 0 => R.lp 2 (fun Ji vj vk vl => R.bi .lss vk vg fun vm => R.jn (fun Jn : Cur (Hp → Bool) 0 => R.br vm (Jn vl) (Jh vl)) fun vo => R.jn (fun Jp : Cur (Hp → Bool) 1 => R.jn (fun Jq : Cur (Hp → Bool) 1 => R.xs 2 ve vk fun vr => R.ln 2 vo vr fun vs => R.al 233 [(.string ⟨⟨[]⟩⟩), (.string ⟨⟨[]⟩⟩)] vo fun vt vu => R.sn 2 vu vt vs fun vv vw => R.jn (fun Jx : Cur (Hp → Bool) 1 => R.xa 2 1 vt (.int .i64 (.ofNat 0)) fun vy => R.l1 vw vy fun vz => R.lk 230 vw vb vz false fun v10 => R.jn (fun J11 : Cur (Hp → Bool) 1 => R.gd false v10 (R.xa 2 1 vt (.int .i64 (.ofNat 0)) fun v12 => R.l1 vw v12 fun v13 => R.xa 2 1 vt (.int .i64 (.ofNat 1)) fun v14 => R.l1 vw v14 fun v15 => C 161 4 v7 v1 v13 v15 vw fun v16 v17 => R.nt v16 fun v18 => J11 v18 v17) (J11 undef vw)) fun v19 v1a => R.pk v10 (.bool true) v19 fun v1b => R.br v1b (R.bd 92 [] fun v1c => R.sn 7 v1a v4 v1c fun v1d v1e => R.ln 7 v1e v4 fun v1f => kr (.tuple ⟨[v1f, (.bool false)]⟩) v1e) (Jx vj v1a)) fun v1g v1h => R.xa 2 1 vt (.int .i64 (.ofNat 0)) fun v1i => R.l1 v1h v1i fun v1j => R.up 230 v1h vb v1j (.bool true) fun v1k v1l => Jq v1g v1l) fun v1m v1n => Jp v1m v1n) fun v1o v1p => R.bi .add vk (.int .i64 (.ofNat 1)) fun v1q => Ji v1o v1q v1p) fuel (.bool false) (.int .i64 (.ofNat 0)) vf) fun v1r => Jd v1r) fun v1s => R.jn (fun J1t : Cur (Hp → Bool) 0 => C 155 1 v1 v1s fun v1u v1v => R.nt v1u fun v1w => R.jn (fun J1x : Cur (Hp → Bool) 1 => R.gd false v1w (R.fa 6 v7 fun v1y => R.l1 v1v v1y fun v1z => R.bi .eql v1z (.int .i64 (.ofNat 1)) fun v20 => J1x v20 v1v) (J1x undef v1v)) fun v21 v22 => R.jn (fun J23 : Cur (Hp → Bool) 1 => R.gd true v21 (R.fa 4 v7 fun v24 => R.l1 v22 v24 fun v25 => R.nt v25 fun v26 => J23 v26 v22) (J23 undef v22)) fun v27 v28 => R.jn (fun J29 : Cur (Hp → Bool) 1 => R.gd false v1w (R.pk v21 v27 (.bool false) fun v2a => J29 v2a v28) (J29 undef v28)) fun v2b v2c => R.pk v1w (.bool true) v2b fun v2d => R.br v2d (R.bd 92 [] fun v2e => R.sn 7 v2c v4 v2e fun v2f v2g => R.ln 7 v2g v4 fun v2h => kr (.tuple ⟨[v2h, (.bool false)]⟩) v2g) (J1t v2c)) fun v2i => R.ln 7 v2i v7 fun v2j => R.sn 7 v2i v4 v2j fun v2k v2l => R.ln 7 v2l v4 fun v2m => kr (.tuple ⟨[v2m, (.bool true)]⟩) v2l
theorem F94_eq (R : Ops) (C : Callees) : F94 R C = fnOf Tryz.prog R C 2 Tryz.f94 (bodyOf Tryz.prog 94) := by kernel_rfl

noncomputable def F95 (R : Ops) (C : Callees) : FnT 3 := fun v1 v2 v3 v4 kr => R.bx 73 v4 v3 fun v5 v6 => R.jn (fun J7 : Cur (Hp → Bool) 0 => R.fa 2 v5 fun v8 => R.l1 v6 v8 fun v9 => R.bs .eql v9 (.string ⟨⟨[101,118,105,108]⟩⟩) fun va => R.jn (fun Jb : Cur (Hp → Bool) 1 => R.gd true va (R.bs .eql v2 (.string ⟨⟨[115,99,114,105,112,116]⟩⟩) fun vc => Jb vc v6) (Jb undef v6)) fun vd ve => R.jn (fun Jf : Cur (Hp → Bool) 1 => R.gd false vd (R.bs .eql v2 (.string ⟨⟨[99,111,114,115]⟩⟩) fun vg => Jf vg ve) (Jf undef ve)) fun vh vi => R.jn (fun Jj : Cur (Hp → Bool) 1 => R.gd true va (R.pk vd (.bool true) vh fun vk => Jj vk vi) (Jj undef vi)) fun vl vm => R.pk va vl (.bool false) fun vn => R.br vn (kr (.int .i64 (.ofNat 0)) vm) (J7 vm)) fun vo => R.nk v1 (R.fa 1 v1 fun vp => R.l1 vo vp fun vq => R.fa 2 v5 fun vr => R.l1 vo vr fun vs => R.lk 64 vo vq vs true fun vt => R.ex 0 vt fun vu => R.ex 1 vt fun vv => R.bo (R.lk 64 vo vq vs true fun vw => R.eq vw vt) (R.bo (R.l1 vo vr fun vx => R.eq vx vs) (R.bo (R.l1 vo vp fun vy => R.eq vy vq) (R.jn (fun Jz : Cur (Hp → Bool) 0 => R.jn (fun J10 : Cur (Hp → Bool) 0 => R.nt vv fun v11 => R.jn (fun J12 : Cur (Hp → Bool) 1 => R.gd false v11 (R.fa 2 v5 fun v13 => R.l1 vo v13 fun v14 => R.bs .eql v14 (.string ⟨⟨[101,118,105,108]⟩⟩) fun v15 => J12 v15 vo) (J12 undef vo)) fun v16 v17 => R.pk v11 (.bool true) v16 fun v18 => R.br v18 (kr (.int .i64 (.ofNat 8)) v17) (R.nk v1 (R.fa 0 v1 fun v19 => R.l1 v17 v19 fun v1a => R.xs 17 v1a vu fun v1b => R.fa 0 v1b fun v1c => R.fa 2 v1c fun v1d => R.l1 v17 v1d fun v1e => R.gl 5 v17 fun v1f => R.l1 v17 v1f fun v1g => R.lk 236 v17 v1g v2 false fun v1h => R.bs .neq v1e v1h fun v1i => R.bo (R.lk 236 v17 v1g v2 false fun v1j => R.eq v1j v1h) (R.bo (R.gl 5 v17 fun v1k => R.l1 v17 v1k fun v1l => R.eq v1l v1g) (R.bo (R.l1 v17 v1d fun v1m => R.eq v1m v1e) (R.bo (R.l1 v17 v19 fun v1n => R.eq v1n v1a) (R.br v1i (kr (.int .i64 (.ofNat 9)) v17) (J10 v17)))))))) fun v1o => Jz v1o) fun v1p => kr (.int .i64 (.ofNat 0)) v1p))))
theorem F95_eq (R : Ops) (C : Callees) : F95 R C = fnOf Tryz.prog R C 3 Tryz.f95 (bodyOf Tryz.prog 95) := by kernel_rfl

noncomputable def F96 (R : Ops) (C : Callees) : FnT 2 := fun v1 v2 v3 kr => R.nk v1 (R.fa 0 v1 fun v4 => R.l1 v3 v4 fun v5 => R.xs 17 v5 v2 fun v6 => R.fa 12 v6 fun v7 => R.fa 2 v7 fun v8 => R.l1 v3 v8 fun v9 => C 162 1 v9 v3 fun va vb => R.ex 0 va fun vc => R.ex 1 va fun vd => R.al 89 [(.string ⟨⟨[]⟩⟩), (.string ⟨⟨[]⟩⟩), (.string ⟨⟨[]⟩⟩), (.int .i64 (.ofNat 0))] vb fun ve vf => R.sn 4 vf ve vc fun vg vh => R.jn (fun Ji : Cur (Hp → Bool) 1 => R.nt vd fun vj => R.br vj (kr (.int .i64 (.ofNat 10)) vh) (Ji (.int .i64 (.ofNat 0)) vh)) fun vk vl => R.jn (fun Jm : Cur (Hp → Bool) 0 => R.nk v1 (R.fa 0 v1 fun vn => R.l1 vl vn fun vo => R.sg 67 vl vo none (some v2) none fun vp => R.lv vp fun vq => R.jn (fun Jr : Cur (Hp → Bool) 0 => R.lp 2 (fun Js vt vu vv => R.bi .lss vu vq fun vw => R.jn (fun Jx : Cur (Hp → Bool) 0 => R.br vw (Jx vv) (Jr vv)) fun vy => R.jn (fun Jz : Cur (Hp → Bool) 1 => R.jn (fun J10 : Cur (Hp → Bool) 1 => R.xs 17 vp vu fun v11 => R.ln 17 vy v11 fun v12 => R.al 77 [(.int .i64 (.ofNat 0)), (.int .i64 (.ofNat 0)), (.string ⟨⟨[]⟩⟩), (.int .i64 (.ofNat 0)), (.int .i64 (.ofNat 0)), (.string ⟨⟨[]⟩⟩), (.int .i64 (.ofNat 0)), (.int .i64 (.ofNat 0)), (.string ⟨⟨[]⟩⟩), (.int .i64 (.ofNat 0)), (.int .i64 (.ofNat 0)), (.string ⟨⟨[]⟩⟩), (.int .i64 (.ofNat 0)), (.int .i64 (.ofNat 0)), (.string ⟨⟨[]⟩⟩), (.slice none 0 0), (.pointer none)] vy fun v13 v14 => R.sn 17 v14 v13 v12 fun v15 v16 => R.fa 12 v13 fun v17 => R.fa 2 v17 fun v18 => R.l1 v16 v18 fun v19 => C 162 1 v19 v16 fun v1a v1b => R.ex 0 v1a fun v1c => R.ex 1 v1a fun v1d => R.al 89 [(.string ⟨⟨[]⟩⟩), (.string ⟨⟨[]⟩⟩), (.string ⟨⟨[]⟩⟩), (.int .i64 (.ofNat 0))] v1b fun v1e v1f => R.sn 4 v1f v1e v1c fun v1g v1h => R.fa 0 v13 fun v1i => R.fa 2 v1i fun v1j => R.l1 v1h v1j fun v1k => R.bs .eql v1k (.string ⟨⟨[111,114,105,103,105,110]⟩⟩) fun v1l => R.jn (fun J1m : Cur (Hp → Bool) 1 => R.gd true v1l (J1m v1d v1h) (J1m undef v1h)) fun v1n v1o => R.pk v1l v1n (.bool false) fun v1p => R.jn (fun J1q : Cur (Hp → Bool) 1 => R.gd true v1p (R.ln 4 v1o ve fun v1r => R.ln 4 v1o v1e fun v1s => C 108 2 v1r v1s v1o fun v1t v1u => J1q v1t v1u) (J1q undef v1o)) fun v1v v1w => R.pk v1p v1v (.bool false) fun v1x => R.br v1x (kr (.int .i64 (.ofNat 7)) v1w) (J10 vt v1w)) fun v1y v1z => Jz v1y v1z) fun v20 v21 => R.bi .add vu (.int .i64 (.ofNat 1)) fun v22 => Js v20 v22 v21) fuel vk (.int .i64 (.ofNat 0)) vl) fun v23 => Jm v23)) fun v24 => kr (.int .i64 (.ofNat 0)) v24)
theorem F96_eq (R : Ops) (C : Callees) : F96 R C = fnOf Tryz.prog R C 2 Tryz.f96 (bodyOf Tryz.prog 96) := by kernel_rfl

noncomputable def F97 (R : Ops) (C : Callees) : FnT 2 := fun v1 v2 v3 kr => R.bx 77 v3 v2 fun v4 v5 => R.nk v1 (R.fa 2 v1 fun v6 => R.l1 v5 v6 fun v7 => R.fa 6 v4 fun v8 => R.fa 2 v8 fun v9 => R.l1 v5 v9 fun va => R.lk 68 v5 v7 va true fun vb => R.ex 0 vb fun vc => R.ex 1 vb fun vd => R.al 89 [(.string ⟨⟨[]⟩⟩), (.string ⟨⟨[]⟩⟩), (.string ⟨⟨[]⟩⟩), (.int .i64 (.ofNat 0))] v5 fun ve vf => R.bo (R.lk 68 vf v7 va true fun vg => R.eq vg vb) (R.bo (R.l1 vf v9 fun vh => R.eq vh va) (R.bo (R.l1 vf v6 fun vi => R.eq vi v7) (R.sn 4 vf ve vc fun vj vk => R.jn (fun Jl : Cur (Hp → Bool) 0 => R.fa 2 ve fun vm => R.l1 vk vm fun vn => R.fa 12 v4 fun vo => R.fa 2 vo fun vp => R.l1 vk vp fun vq => C 94 2 vn vq vk fun vr vs => R.ex 0 vr fun vt => R.ex 1 vr fun vu => R.al 92 [(.string ⟨⟨[]⟩⟩), (.int .i64 (.ofNat 0)), (.string ⟨⟨[]⟩⟩), (.string ⟨⟨[]⟩⟩), (.bool false), (.bool false), (.int .i64 (.ofNat 0))] vs fun vv vw => R.sn 7 vw vv vt fun vx vy => R.jn (fun Jz : Cur (Hp → Bool) 1 => R.gd true vd (R.nt vu fun v10 => Jz v10 vy) (Jz undef vy)) fun v11 v12 => R.pk vd v11 (.bool false) fun v13 => R.br v13 (kr (.int .i64 (.ofNat 10)) v12) (Jl v12)) fun v14 => kr (.int .i64 (.ofNat 0)) v14))))
theorem F97_eq (R : Ops) (C : Callees) : F97 R C = fnOf Tryz.prog R C 2 Tryz.f97 (bodyOf Tryz.prog 97) := by kernel_rfl

noncomputable def F98 (R : Ops) (C : Callees) : FnT 2 := fun v1 v2 v3 kr => R.al 27 [(.int .i64 (.ofNat 0)), (.int .i64 (.ofNat 0))] v3 fun v4 v5 => R.jn (fun J6 : Cur (Hp → Bool) 0 => R.nk v2 (R.fa 3 v2 fun v7 => R.fa 0 v7 fun v8 => R.l1 v5 v8 fun v9 => R.bi .neq v9 (.int .i64 (.ofNat 0)) fun va => R.br va (R.nk v2 (R.fa 0 v2 fun vb => R.fa 2 vb fun vc => R.l1 v5 vc fun vd => R.nk v2 (R.fa 3 v2 fun ve => R.ln 3 v5 ve fun vf => R.nk v2 (R.fa 3 v2 fun vg => R.ln 3 v5 vg fun vh => R.bo (R.ln 3 v5 vg fun vi => R.eq vi vh) (R.bo (R.ln 3 v5 ve fun vj => R.eq vj vf) (R.bo (R.l1 v5 vc fun vk => R.eq vk vd) (C 95 3 v1 vd vf v5 fun vl vm => R.bo (R.ln 3 vm vg fun vn => R.eq vn vh) (C 54 2 vl vh vm fun vo vp => R.sn 2 vp v4 vo fun vq vr => R.ln 2 vr v4 fun vs => kr vs vr)))))))) (J6 v5))) fun vt => R.jn (fun Ju : Cur (Hp → Bool) 0 => R.nk v2 (R.fa 6 v2 fun vv => R.l1 vt vv fun vw => R.lv vw fun vx => R.jn (fun Jy : Cur (Hp → Bool) 0 => R.lp 1 (fun Jz v10 v11 => R.bi .lss v10 vx fun v12 => R.jn (fun J13 : Cur (Hp → Bool) 0 => R.br v12 (J13 v11) (Jy v11)) fun v14 => R.jn (fun J15 : Cur (Hp → Bool) 0 => R.jn (fun J16 : Cur (Hp → Bool) 0 => R.xs 1 vw v10 fun v17 => R.l1 v14 v17 fun v18 => C 98 2 v1 v18 v14 fun v19 v1a => R.al 27 [(.int .i64 (.ofNat 0)), (.int .i64 (.ofNat 0))] v1a fun v1b v1c => R.sn 2 v1c v1b v19 fun v1d v1e => R.fa 0 v1b fun v1f => R.l1 v1e v1f fun v1g => R.bi .neq v1g (.int .i64 (.ofNat 0)) fun v1h => R.br v1h (R.ln 2 v1e v1b fun v1i => R.sn 2 v1e v4 v1i fun v1j v1k => R.ln 2 v1k v4 fun v1l => kr v1l v1k) (J16 v1e)) fun v1m => J15 v1m) fun v1n => R.bi .add v10 (.int .i64 (.ofNat 1)) fun v1o => Jz v1o v1n) fuel (.int .i64 (.ofNat 0)) vt) fun v1p => Ju v1p)) fun v1q => R.bd 27 [] fun v1r => R.sn 2 v1q v4 v1r fun v1s v1t => R.ln 2 v1t v4 fun v1u => kr v1u v1t
theorem F98_eq (R : Ops) (C : Callees) : F98 R C = fnOf Tryz.prog R C 2 Tryz.f98 (bodyOf Tryz.prog 98) := by kernel_rfl

noncomputable def F99 (R : Ops) (C : Callees) : FnT 1 := fun v1 v2 kr => R.jn (fun J3 : Cur (Hp → Bool) 0 => R.jn (fun J4 : Cur (Hp → Bool) 0 => R.jn (fun J5 : Cur (Hp → Bool) 1 => R.bs .eql v1 (.string ⟨⟨[80,85,84]⟩⟩) fun v6 => R.br v6 (J5 v6 v2) (R.bs .eql v1 (.string ⟨⟨[68,69,76,69,84,69]⟩⟩) fun v7 => R.br v7 (J5 v7 v2) (R.bs .eql v1 (.string ⟨⟨[80,65,84,67,72]⟩⟩) fun v8 => J5 v8 v2))) fun v9 va => R.br v9 (kr (.bool true) va) (J4 va)) fun vb => J3 vb) fun vc => C 163 1 v1 vc fun vd ve => kr vd ve
theorem F99_eq (R : Ops) (C : Callees) : F99 R C = fnOf Tryz.prog R C 1 Tryz.f99 (bodyOf Tryz.prog 99) := by kernel_rfl

noncomputable def F100 (R : Ops) (C : Callees) : FnT 1 := fun v1 v2 kr => R.jn (fun J3 : Cur (Hp → Bool) 0 => R.ls v1 fun v4 => R.jn (fun J5 : Cur (Hp → Bool) 0 => R.lp 2 (fun J6 v7 v8 v9 => R.bi .lss v8 v4 fun va => R.jn (fun Jb : Cur (Hp → Bool) 0 => R.br va (Jb v9) (J5 v9)) fun vc => R.jn (fun Jd : Cur (Hp → Bool) 1 => R.jn (fun Je : Cur (Hp → Bool) 1 => R.ix v1 v8 fun vf => C 164 1 vf vc fun vg vh => R.nt vg fun vi => R.jn (fun Jj : Cur (Hp → Bool) 1 => R.gd true vi (R.ix v1 v8 fun vk => R.bi .neq vk (.int .u8 (.ofNat 47)) fun vl => Jj vl vh) (Jj undef vh)) fun vm vn => R.pk vi vm (.bool false) fun vo => R.jn (fun Jp : Cur (Hp → Bool) 1 => R.gd true vo (R.ix v1 v8 fun vq => R.bi .neq vq (.int .u8 (.ofNat 45)) fun vr => Jp vr vn) (Jp undef vn)) fun vs vt => R.pk vo vs (.bool false) fun vu => R.jn (fun Jv : Cur (Hp → Bool) 1 => R.gd true vu (R.ix v1 v8 fun vw => R.bi .neq vw (.int .u8 (.ofNat 95)) fun vx => Jv vx vt) (Jv undef vt)) fun vy vz => R.pk vu vy (.bool false) fun v10 => R.jn (fun J11 : Cur (Hp → Bool) 1 => R.gd true v10 (R.ix v1 v8 fun v12 => R.bi .neq v12 (.int .u8 (.ofNat 46)) fun v13 => J11 v13 vz) (J11 undef vz)) fun v14 v15 => R.pk v10 v14 (.bool false) fun v16 => R.br v16 (kr (.bool false) v15) (Je v7 v15)) fun v17 v18 => Jd v17 v18) fun v19 v1a => R.bi .add v8 (.int .i64 (.ofNat 1)) fun v1b => J6 v19 v1b v1a) fuel (.bool false) (.int .i64 (.ofNat 0)) v2) fun v1c => J3 v1c) fun v1d => R.bs .neq v1 (.string ⟨⟨[]⟩⟩) fun v1e => R.jn (fun J1f : Cur (Hp → Bool) 1 => R.gd true v1e (R.ix v1 (.int .i64 (.ofNat 0)) fun v1g => R.bi .eql v1g (.int .u8 (.ofNat 47)) fun v1h => J1f v1h v1d) (J1f undef v1d)) fun v1i v1j => R.pk v1e v1i (.bool false) fun v1k => R.jn (fun J1l : Cur (Hp → Bool) 1 => R.gd true v1k (R.ls v1 fun v1m => R.bi .leq v1m (.int .i64 (.ofNat 60)) fun v1n => J1l v1n v1j) (J1l undef v1j)) fun v1o v1p => R.pk v1k v1o (.bool false) fun v1q => kr v1q v1p
theorem F100_eq (R : Ops) (C : Callees) : F100 R C = fnOf Tryz.prog R C 1 Tryz.f100 (bodyOf Tryz.prog 100) := by kernel_rfl

noncomputable def F101 (R : Ops) (C : Callees) : FnT 2 := fun v1 v2 v3 kr => R.bx 77 v3 v2 fun v4 v5 => R.al 27 [(.int .i64 (.ofNat 0)), (.int .i64 (.ofNat 0))] v5 fun v6 v7 => R.mm v7 fun v8 v9 => R.jn (fun Ja : Cur (Hp → Bool) 0 => R.fa 15 v4 fun vb => R.l1 v9 vb fun vc => R.lv vc fun vd => R.jn (fun Je : Cur (Hp → Bool) 0 => R.lp 1 (fun Jf vg vh => R.bi .lss vg vd fun vi => R.jn (fun Jj : Cur (Hp → Bool) 0 => R.br vi (Jj vh) (Je vh)) fun vk => R.jn (fun Jl : Cur (Hp → Bool) 0 => R.jn (fun Jm : Cur (Hp → Bool) 0 => R.xs 6 vc vg fun vn => R.ln 6 vk vn fun vo => R.al 122 [(.int .i64 (.ofNat 0)), (.int .i64 (.ofNat 0)), (.string ⟨⟨[]⟩⟩), (.int .i64 (.ofNat 0)), (.int .i64 (.ofNat 0)), (.string ⟨⟨[]⟩⟩)] vk fun vp vq => R.sn 6 vq vp vo fun vr vs => R.fa 0 vp fun vt => R.fa 2 vt fun vu => R.l1 vs vu fun vv => R.jn (fun Jw : Cur (Hp → Bool) 1 => R.bs .eql vv (.string ⟨⟨[111,112,101,110]⟩⟩) fun vx => R.br vx (Jw (.string ⟨⟨[114,101,100,105,114,101,99,116]⟩⟩) vs) (Jw vv vs)) fun vy vz => R.bd 233 [(0, vy)] fun v10 => R.al 233 [(.string ⟨⟨[]⟩⟩), (.string ⟨⟨[]⟩⟩)] vz fun v11 v12 => R.sn 2 v12 v11 v10 fun v13 v14 => R.jn (fun J15 : Cur (Hp → Bool) 0 => R.jn (fun J16 : Cur (Hp → Bool) 0 => R.jn (fun J17 : Cur (Hp → Bool) 1 => R.bs .eql vv (.string ⟨⟨[115,99,114,105,112,116]⟩⟩) fun v18 => R.br v18 (J17 v18 v14) (R.bs .eql vv (.string ⟨⟨[110,101,101,100,115]⟩⟩) fun v19 => R.br v19 (J17 v19 v14) (R.bs .eql vv (.string ⟨⟨[115,101,116,115]⟩⟩) fun v1a => R.br v1a (J17 v1a v14) (R.bs .eql vv (.string ⟨⟨[103,105,118,101,115]⟩⟩) fun v1b => R.br v1b (J17 v1b v14) (R.bs .eql vv (.string ⟨⟨[99,111,114,115]⟩⟩) fun v1c => R.br v1c (J17 v1c v14) (R.bs .eql vv (.string ⟨⟨[104,101,97,100,101,114]⟩⟩) fun v1d => J17 v1d v14)))))) fun v1e v1f => R.br v1e (R.fa 3 vp fun v1g => R.fa 2 v1g fun v1h => R.l1 v1f v1h fun v1i => C 103 1 v1i v1f fun v1j v1k => R.xa 2 1 v11 (.int .i64 (.ofNat 1)) fun v1l => R.s1 v1k v1l v1j fun v1m v1n => J16 v1n) (J16 v1f)) fun v1o => J15 v1o) fun v1p => R.ln 2 v1p v11 fun v1q => R.lk 238 v1p v8 v1q false fun v1r => R.ln 2 v1p v11 fun v1s => R.up 238 v1p v8 v1s (.bool true) fun v1t v1u => R.jn (fun J1v : Cur (Hp → Bool) 0 => R.jn (fun J1w : Cur (Hp → Bool) 1 => R.gd true v1r (R.xa 2 1 v11 (.int .i64 (.ofNat 1)) fun v1x => R.l1 v1u v1x fun v1y => R.bs .eql v1y (.string ⟨⟨[]⟩⟩) fun v1z => J1w v1z v1u) (J1w undef v1u)) fun v20 v21 => R.pk v1r v20 (.bool false) fun v22 => R.br v22 (R.fa 0 vp fun v23 => R.ln 3 v21 v23 fun v24 => C 54 2 (.int .i64 (.ofNat 7)) v24 v21 fun v25 v26 => R.sn 2 v26 v6 v25 fun v27 v28 => R.ln 2 v28 v6 fun v29 => kr v29 v28) (J1v v21)) fun v2a => R.jn (fun J2b : Cur (Hp → Bool) 0 => R.bs .eql vv (.string ⟨⟨[103,105,118,101,115]⟩⟩) fun v2c => R.jn (fun J2d : Cur (Hp → Bool) 1 => R.gd true v2c (R.fa 15 v4 fun v2e => R.l1 v2a v2e fun v2f => C 165 2 v2f (.func (.func 166) #[] #[]) v2a fun v2g v2h => R.nt v2g fun v2i => J2d v2i v2h) (J2d undef v2a)) fun v2j v2k => R.pk v2c v2j (.bool false) fun v2l => R.br v2l (R.fa 0 vp fun v2m => R.ln 3 v2k v2m fun v2n => C 54 2 (.int .i64 (.ofNat 9)) v2n v2k fun v2o v2p => R.sn 2 v2p v6 v2o fun v2q v2r => R.ln 2 v2r v6 fun v2s => kr v2s v2r) (J2b v2k)) fun v2t => R.ln 17 v2t v4 fun v2u => R.ln 6 v2t vp fun v2v => C 167 4 v1 v2u v2v v1r v2t fun v2w v2x => R.al 27 [(.int .i64 (.ofNat 0)), (.int .i64 (.ofNat 0))] v2x fun v2y v2z => R.sn 2 v2z v2y v2w fun v30 v31 => R.fa 0 v2y fun v32 => R.l1 v31 v32 fun v33 => R.bi .neq v33 (.int .i64 (.ofNat 0)) fun v34 => R.br v34 (R.ln 2 v31 v2y fun v35 => R.sn 2 v31 v6 v35 fun v36 v37 => R.ln 2 v37 v6 fun v38 => kr v38 v37) (Jm v31)) fun v39 => Jl v39) fun v3a => R.bi .add vg (.int .i64 (.ofNat 1)) fun v3b => Jf v3b v3a) fuel (.int .i64 (.ofNat 0)) v9) fun v3c => Ja v3c) fun v3d => R.bd 27 [] fun v3e => R.sn 2 v3d v6 v3e fun v3f v3g => R.ln 2 v3g v6 fun v3h => kr v3h v3g
theorem F101_eq (R : Ops) (C : Callees) : F101 R C = fnOf Tryz.prog R C 2 Tryz.f101 (bodyOf Tryz.prog 101) := by kernel_rfl

noncomputable def F156 (R : Ops) (C : Callees) : FnT 1 := fun v1 v2 kr => R.jn (fun J3 : Cur (Hp → Bool) 1 => R.jn (fun J4 : Cur (Hp → Bool) 1 => R.lp 2 (fun J5 v6 v7 v8 => R.jn (fun J9 : Cur (Hp → Bool) 0 => R.ls v1 fun va => R.bi .lss v7 va fun vb => R.br vb (J9 v8) (J4 v7 v8)) fun vc => R.jn (fun Jd : Cur (Hp → Bool) 2 => R.ix v1 v7 fun ve => R.jn (fun Jf : Cur (Hp → Bool) 2 => R.jn (fun Jg : Cur (Hp → Bool) 1 => R.bi .eql ve (.int .u8 (.ofNat 32)) fun vh => R.br vh (Jg vh vc) (R.bi .eql ve (.int .u8 (.ofNat 9)) fun vi => R.br vi (Jg vi vc) (R.bi .eql ve (.int .u8 (.ofNat 10)) fun vj => R.br vj (Jg vj vc) (R.bi .eql ve (.int .u8 (.ofNat 13)) fun vk => Jg vk vc)))) fun vl vm => R.br vl (R.bi .add v7 (.int .i64 (.ofNat 1)) fun vn => Jf v6 vn vm) (R.bi .eql ve (.int .u8 (.ofNat 35)) fun vo => R.br vo (R.ss v1 (some v7) none fun vp => C 213 2 vp (.func (.func 214) #[] #[]) vm fun vq vr => R.bi .add v7 vq fun vs => Jf v6 vs vr) (kr v7 vm))) fun vt vu vv => Jd vt vu vv) fun vw vx vy => J5 vw vx vy) fuel (.int .i64 (.ofNat 0)) (.int .i64 (.ofNat 0)) v2) fun vz v10 => J3 vz v10) fun v11 v12 => kr v11 v12
theorem F156_eq (R : Ops) (C : Callees) : F156 R C = fnOf Tryz.prog R C 1 Tryz.f156 (bodyOf Tryz.prog 156) := by kernel_rfl

noncomputable def F157 (R : Ops) (C : Callees) : FnT 1 := fun v1 v2 kr => R.al 73 [(.int .i64 (.ofNat 0)), (.int .i64 (.ofNat 0)), (.string ⟨⟨[]⟩⟩)] v2 fun v3 v4 => R.ix v1 (.int .i64 (.ofNat 0)) fun v5 => R.jn (fun J6 : Cur (Hp → Bool) 0 => R.jn (fun J7 : Cur (Hp → Bool) 0 => C 215 1 v5 v4 fun v8 v9 => R.br v8 (C 213 2 v1 (.func (.func 216) #[] #[]) v9 fun va vb => R.ss v1 none (some va) fun vc => R.bd 73 [(0, (.int .i64 (.ofNat 1))), (2, vc)] fun vd => R.al 73 [(.int .i64 (.ofNat 0)), (.int .i64 (.ofNat 0)), (.string ⟨⟨[]⟩⟩)] vb fun ve vf => R.sn 3 vf ve vd fun vg vh => R.jn (fun Ji : Cur (Hp → Bool) 0 => R.fa 2 ve fun vj => R.l1 vh vj fun vk => C 217 1 vk vh fun vl vm => R.br vl (R.fa 0 ve fun vn => R.s1 vm vn (.int .i64 (.ofNat 2)) fun vo vp => Ji vp) (Ji vm)) fun vq => R.ln 3 vq ve fun vr => R.bo (R.ln 3 vq ve fun vs => R.eq vs vr) (C 218 2 va (.int .i64 (.ofNat 20)) vq fun vt vu => R.bo (R.ln 3 vu ve fun vv => R.eq vv vr) (R.sn 3 vu v3 vr fun vw vx => R.ln 3 vx v3 fun vy => kr (.tuple ⟨[vy, va, vt]⟩) vx))) (C 219 1 v5 v9 fun vz v10 => R.br vz (C 213 2 v1 (.func (.func 219) #[] #[]) v10 fun v11 v12 => R.ss v1 none (some v11) fun v13 => R.bd 73 [(0, (.int .i64 (.ofNat 5))), (2, v13)] fun v14 => R.bo (R.ss v1 none (some v11) fun v15 => R.eq v15 v13) (C 218 2 v11 (.int .i64 (.ofNat 20)) v12 fun v16 v17 => R.bo (R.ss v1 none (some v11) fun v18 => R.eq v18 v13) (R.sn 3 v17 v3 v14 fun v19 v1a => R.ln 3 v1a v3 fun v1b => kr (.tuple ⟨[v1b, v11, v16]⟩) v1a))) (R.bi .eql v5 (.int .u8 (.ofNat 34)) fun v1c => R.br v1c (R.ss v1 (some (.int .i64 (.ofNat 1))) none fun v1d => C 213 2 v1d (.func (.func 220) #[] #[]) v10 fun v1e v1f => R.jn (fun J1g : Cur (Hp → Bool) 0 => R.bi .add v1e (.int .i64 (.ofNat 1)) fun v1h => R.ls v1 fun v1i => R.bi .eql v1h v1i fun v1j => R.jn (fun J1k : Cur (Hp → Bool) 1 => R.gd false v1j (R.bi .add v1e (.int .i64 (.ofNat 1)) fun v1l => R.ix v1 v1l fun v1m => R.bi .neq v1m (.int .u8 (.ofNat 34)) fun v1n => J1k v1n v1f) (J1k undef v1f)) fun v1o v1p => R.pk v1j (.bool true) v1o fun v1q => R.br v1q (R.bd 73 [] fun v1r => R.sn 3 v1p v3 v1r fun v1s v1t => R.ln 3 v1t v3 fun v1u => kr (.tuple ⟨[v1u, (.int .i64 (.ofNat 0)), (.int .i64 (.ofNat 3))]⟩) v1t) (J1g v1p)) fun v1v => R.bi .add v1e (.int .i64 (.ofNat 1)) fun v1w => R.ss v1 (some (.int .i64 (.ofNat 1))) (some v1w) fun v1x => R.bd 73 [(0, (.int .i64 (.ofNat 3))), (2, v1x)] fun v1y => R.bi .add v1e (.int .i64 (.ofNat 2)) fun v1z => R.bo (R.ss v1 (some (.int .i64 (.ofNat 1))) (some v1w) fun v20 => R.eq v20 v1x) (C 218 2 v1e (.int .i64 (.ofNat 200)) v1v fun v21 v22 => R.bo (R.ss v1 (some (.int .i64 (.ofNat 1))) (some v1w) fun v23 => R.eq v23 v1x) (R.sn 3 v22 v3 v1y fun v24 v25 => R.ln 3 v25 v3 fun v26 => kr (.tuple ⟨[v26, v1z, v21]⟩) v25))) (C 221 2 (.string ⟨⟨[123,125,40,41,59,61]⟩⟩) v5 v10 fun v27 v28 => R.bi .geq v27 (.int .i64 (.ofNat 0)) fun v29 => R.br v29 (R.ss v1 none (some (.int .i64 (.ofNat 1))) fun v2a => R.bd 73 [(0, (.int .i64 (.ofNat 4))), (2, v2a)] fun v2b => R.sn 3 v28 v3 v2b fun v2c v2d => R.ln 3 v2d v3 fun v2e => kr (.tuple ⟨[v2e, (.int .i64 (.ofNat 1)), (.int .i64 (.ofNat 0))]⟩) v2d) (J7 v28))))) fun v2f => J6 v2f) fun v2g => R.bd 73 [] fun v2h => R.sn 3 v2g v3 v2h fun v2i v2j => R.ln 3 v2j v3 fun v2k => kr (.tuple ⟨[v2k, (.int .i64 (.ofNat 0)), (.int .i64 (.ofNat 3))]⟩) v2j
theorem F157_eq (R : Ops) (C : Callees) : F157 R C = fnOf Tryz.prog R C 1 Tryz.f157 (bodyOf Tryz.prog 157) := by kernel_rfl

noncomputable def F159 (R : Ops) (C : Callees) : FnT 1 := fun v1 v2 kr => R.al 77 [(.int .i64 (.ofNat 0)), (.int .i64 (.ofNat 0)), (.string ⟨⟨[]⟩⟩), (.int .i64 (.ofNat 0)), (.int .i64 (.ofNat 0)), (.string ⟨⟨[]⟩⟩), (.int .i64 (.ofNat 0)), (.int .i64 (.ofNat 0)), (.string ⟨⟨[]⟩⟩), (.int .i64 (.ofNat 0)), (.int .i64 (.ofNat 0)), (.string ⟨⟨[]⟩⟩), (.int .i64 (.ofNat 0)), (.int .i64 (.ofNat 0)), (.string ⟨⟨[]⟩⟩), (.slice none 0 0), (.pointer none)] v2 fun v3 v4 => C 222 2 v1 (.int .i64 (.ofNat 2)) v4 fun v5 v6 => R.bd 77 [(0, v5)] fun v7 => R.al 77 [(.int .i64 (.ofNat 0)), (.int .i64 (.ofNat 0)), (.string ⟨⟨[]⟩⟩), (.int .i64 (.ofNat 0)), (.int .i64 (.ofNat 0)), (.string ⟨⟨[]⟩⟩), (.int .i64 (.ofNat 0)), (.int .i64 (.ofNat 0)), (.string ⟨⟨[]⟩⟩), (.int .i64 (.ofNat 0)), (.int .i64 (.ofNat 0)), (.string ⟨⟨[]⟩⟩), (.int .i64 (.ofNat 0)), (.int .i64 (.ofNat 0)), (.string ⟨⟨[]⟩⟩), (.slice none 0 0), (.pointer none)] v6 fun v8 v9 => R.sn 17 v9 v8 v7 fun va vb => R.jn (fun Jc : Cur (Hp → Bool) 0 => R.fa 0 v8 fun vd => R.fa 2 vd fun ve => R.l1 vb ve fun vf => R.jn (fun Jg : Cur (Hp → Bool) 0 => R.bs .eql vf (.string ⟨⟨[111,114,105,103,105,110]⟩⟩) fun vh => R.br vh (C 222 2 v1 (.int .i64 (.ofNat 1)) vb fun vi vj => C 222 2 v1 (.int .i64 (.ofNat 3)) vj fun vk vl => R.fa 3 v8 fun vm => R.sn 3 vl vm vi fun vn vo => R.fa 12 v8 fun vp => R.sn 3 vo vp vk fun vq vr => Jg vr) (R.bs .eql vf (.string ⟨⟨[99,111,111,107,105,101]⟩⟩) fun vs => R.br vs (C 223 1 v1 vb fun vt vu => R.ex 0 vt fun vv => R.ex 1 vt fun vw => R.fa 3 v8 fun vx => R.sn 3 vu vx vv fun vy vz => R.fa 6 v8 fun v10 => R.sn 3 vz v10 vw fun v11 v12 => C 222 2 v1 (.int .i64 (.ofNat 3)) v12 fun v13 v14 => R.fa 12 v8 fun v15 => R.sn 3 v14 v15 v13 fun v16 v17 => Jg v17) (R.bs .eql vf (.string ⟨⟨[115,101,99,114,101,116]⟩⟩) fun v18 => R.br v18 (C 222 2 v1 (.int .i64 (.ofNat 1)) vb fun v19 v1a => R.fa 3 v8 fun v1b => R.sn 3 v1a v1b v19 fun v1c v1d => Jg v1d) (R.bs .eql vf (.string ⟨⟨[110,101,116,119,111,114,107]⟩⟩) fun v1e => R.br v1e (Jg vb) (R.bs .eql vf (.string ⟨⟨[112,114,111,112,101,114,116,121]⟩⟩) fun v1f => R.br v1f (C 222 2 v1 (.int .i64 (.ofNat 1)) vb fun v1g v1h => R.fa 3 v8 fun v1i => R.sn 3 v1h v1i v1g fun v1j v1k => C 224 3 v1 (.int .i64 (.ofNat 4)) (.string ⟨⟨[61]⟩⟩) v1k fun v1l v1m => C 225 2 v1 (.string ⟨⟨[111,114]⟩⟩) v1m fun v1n v1o => R.fa 16 v8 fun v1p => R.s1 v1o v1p v1n fun v1q v1r => Jg v1r) (R.bs .eql vf (.string ⟨⟨[101,110,100,112,111,105,110,116]⟩⟩) fun v1s => R.br v1s (C 223 1 v1 vb fun v1t v1u => R.ex 0 v1t fun v1v => R.ex 1 v1t fun v1w => R.fa 3 v8 fun v1x => R.sn 3 v1u v1x v1v fun v1y v1z => R.fa 6 v8 fun v20 => R.sn 3 v1z v20 v1w fun v21 v22 => C 222 2 v1 (.int .i64 (.ofNat 5)) v22 fun v23 v24 => C 222 2 v1 (.int .i64 (.ofNat 3)) v24 fun v25 v26 => R.fa 9 v8 fun v27 => R.sn 3 v26 v27 v23 fun v28 v29 => R.fa 12 v8 fun v2a => R.sn 3 v29 v2a v25 fun v2b v2c => C 224 3 v1 (.int .i64 (.ofNat 4)) (.string ⟨⟨[123]⟩⟩) v2c fun v2d v2e => R.jn (fun J2f : Cur (Hp → Bool) 0 => R.jn (fun J2g : Cur (Hp → Bool) 0 => R.lp 0 (fun J2h v2i => R.jn (fun J2j : Cur (Hp → Bool) 0 => C 226 3 v1 (.int .i64 (.ofNat 4)) (.string ⟨⟨[125]⟩⟩) v2i fun v2k v2l => R.nt v2k fun v2m => R.br v2m (J2j v2l) (J2g v2l)) fun v2n => R.jn (fun J2o : Cur (Hp → Bool) 0 => R.fa 15 v8 fun v2p => R.l1 v2n v2p fun v2q => R.bo (R.l1 v2n v2p fun v2r => R.eq v2r v2q) (C 227 1 v1 v2n fun v2s v2t => R.bl 74 1 [(0, v2s)] v2t fun v2u v2v => R.bo (R.l1 v2v v2p fun v2w => R.eq v2w v2q) (R.bt v2v .append ⟨[74, 74]⟩ [v2q, v2u] fun v2x v2y => R.fa 15 v8 fun v2z => R.s1 v2y v2z v2x fun v30 v31 => J2o v31))) fun v32 => J2h v32) fuel v2e) fun v33 => J2f v33) fun v34 => R.ln 17 v34 v8 fun v35 => R.sn 17 v34 v3 v35 fun v36 v37 => R.ln 17 v37 v3 fun v38 => kr v38 v37) (R.fa 0 v8 fun v39 => R.fa 1 v39 fun v3a => R.l1 vb v3a fun v3b => R.bd 27 [(0, (.int .i64 (.ofNat 4))), (1, v3b)] fun v3c => R.bd 227 [(0, v3c)] fun v3d => R.mi 227 v3d fun v3e => false))))))) fun v3f => Jc v3f) fun v3g => C 224 3 v1 (.int .i64 (.ofNat 4)) (.string ⟨⟨[59]⟩⟩) v3g fun v3h v3i => R.ln 17 v3i v8 fun v3j => R.sn 17 v3i v3 v3j fun v3k v3l => R.ln 17 v3l v3 fun v3m => kr v3m v3l
theorem F159_eq (R : Ops) (C : Callees) : F159 R C = fnOf Tryz.prog R C 1 Tryz.f159 (bodyOf Tryz.prog 159) := by kernel_rfl

noncomputable def F162 (R : Ops) (C : Callees) : FnT 1 := fun v1 v2 kr => R.al 89 [(.string ⟨⟨[]⟩⟩), (.string ⟨⟨[]⟩⟩), (.string ⟨⟨[]⟩⟩), (.int .i64 (.ofNat 0))] v2 fun v3 v4 => C 90 1 v1 v4 fun v5 v6 => R.ex 0 v5 fun v7 => R.ex 1 v5 fun v8 => R.al 89 [(.string ⟨⟨[]⟩⟩), (.string ⟨⟨[]⟩⟩), (.string ⟨⟨[]⟩⟩), (.int .i64 (.ofNat 0))] v6 fun v9 va => R.sn 4 va v9 v7 fun vb vc => R.ln 4 vc v9 fun vd => R.jn (fun Je : KVH => R.gd true v8 (R.fa 2 v9 fun vf => Je vf vc) (Je undef vc)) fun vg vh => R.jn (fun Ji : KVH => R.gd true v8 (R.l1 vh vg fun vj => Ji vj vh) (Ji undef vh)) fun vk vl => R.bo (R.gd true v8 (R.l1 vl vg fun vm => R.eq vm vk) true) (R.bo (R.ln 4 vl v9 fun vn => R.eq vn vd) (R.jn (fun Jo : KVH => R.gd true v8 (C 210 1 vk vl Jo) (Jo undef vl)) fun vp vq => R.bo (R.ln 4 vq v9 fun vr => R.eq vr vd) (R.jn (fun Js : KVH => R.gd true v8 (C 210 1 (.string ⟨⟨[101,118,105,108,46,116,101,115,116]⟩⟩) vq Js) (Js undef vq)) fun vt vu => R.jn (fun Jv : KVH => R.gd true v8 (R.bs .neq vp vt fun vw => Jv vw vu) (Jv undef vu)) fun vx vy => R.pk v8 vx (.bool false) fun vz => R.bo (R.ln 4 vy v9 fun v10 => R.eq v10 vd) (R.sn 4 vy v3 vd fun v11 v12 => R.ln 4 v12 v3 fun v13 => kr (.tuple ⟨[v13, vz]⟩) v12))))
theorem F162_eq (R : Ops) (C : Callees) : F162 R C = fnOf Tryz.prog R C 1 Tryz.f162 (bodyOf Tryz.prog 162) := by kernel_rfl

noncomputable def F163 (R : Ops) (C : Callees) : FnT 1 := fun v1 v2 kr => R.jn (fun J3 : Cur (Hp → Bool) 0 => R.jn (fun J4 : Cur (Hp → Bool) 0 => R.jn (fun J5 : Cur (Hp → Bool) 1 => R.bs .eql v1 (.string ⟨⟨[71,69,84]⟩⟩) fun v6 => R.br v6 (J5 v6 v2) (R.bs .eql v1 (.string ⟨⟨[72,69,65,68]⟩⟩) fun v7 => R.br v7 (J5 v7 v2) (R.bs .eql v1 (.string ⟨⟨[80,79,83,84]⟩⟩) fun v8 => J5 v8 v2))) fun v9 va => R.br v9 (kr (.bool true) va) (J4 va)) fun vb => J3 vb) fun vc => kr (.bool false) vc
theorem F163_eq (R : Ops) (C : Callees) : F163 R C = fnOf Tryz.prog R C 1 Tryz.f163 (bodyOf Tryz.prog 163) := by kernel_rfl

noncomputable def F164 (R : Ops) (C : Callees) : FnT 1 := fun v1 v2 kr => R.bi .geq v1 (.int .u8 (.ofNat 97)) fun v3 => R.jn (fun J4 : Cur (Hp → Bool) 1 => R.gd true v3 (R.bi .leq v1 (.int .u8 (.ofNat 122)) fun v5 => J4 v5 v2) (J4 undef v2)) fun v6 v7 => R.pk v3 v6 (.bool false) fun v8 => R.jn (fun J9 : Cur (Hp → Bool) 1 => R.gd false v8 (R.bi .geq v1 (.int .u8 (.ofNat 48)) fun va => J9 va v7) (J9 undef v7)) fun vb vc => R.jn (fun Jd : Cur (Hp → Bool) 1 => R.gd true vb (R.bi .leq v1 (.int .u8 (.ofNat 57)) fun ve => Jd ve vc) (Jd undef vc)) fun vf vg => R.jn (fun Jh : Cur (Hp → Bool) 1 => R.gd false v8 (R.pk vb vf (.bool false) fun vi => Jh vi vg) (Jh undef vg)) fun vj vk => R.pk v8 (.bool true) vj fun vl => kr vl vk
theorem F164_eq (R : Ops) (C : Callees) : F164 R C = fnOf Tryz.prog R C 1 Tryz.f164 (bodyOf Tryz.prog 164) := by kernel_rfl

noncomputable def F165 (R : Ops) (C : Callees) : FnT 2 := fun v1 v2 v3 kr => C 229 2 v1 v2 v3 fun v4 v5 => R.bi .geq v4 (.int .i64 (.ofNat 0)) fun v6 => kr v6 v5
theorem F165_eq (R : Ops) (C : Callees) : F165 R C = fnOf Tryz.prog R C 2 Tryz.f165 (bodyOf Tryz.prog 165) := by kernel_rfl

noncomputable def F166 (R : Ops) (C : Callees) : FnT 1 := fun v1 v2 kr => R.bx 122 v2 v1 fun v3 v4 => R.fa 0 v3 fun v5 => R.fa 2 v5 fun v6 => R.l1 v4 v6 fun v7 => R.bs .eql v7 (.string ⟨⟨[110,101,101,100,115]⟩⟩) fun v8 => kr v8 v4
theorem F166_eq (R : Ops) (C : Callees) : F166 R C = fnOf Tryz.prog R C 1 Tryz.f166 (bodyOf Tryz.prog 166) := by kernel_rfl

noncomputable def F167 (R : Ops) (C : Callees) : FnT 4 := fun v1 v2 v3 v4 v5 kr => R.bx 77 v5 v2 fun v6 v7 => R.bx 122 v7 v3 fun v8 v9 => R.al 27 [(.int .i64 (.ofNat 0)), (.int .i64 (.ofNat 0))] v9 fun va vb => R.fa 0 v8 fun vc => R.fa 2 vc fun vd => R.l1 vb vd fun ve => R.jn (fun Jf : Cur (Hp → Bool) 1 => R.fa 3 v8 fun vg => R.fa 0 vg fun vh => R.l1 vb vh fun vi => R.bi .eql vi (.int .i64 (.ofNat 1)) fun vj => R.br vj (R.fa 3 v8 fun vk => R.ln 3 vb vk fun vl => C 95 3 v1 ve vl vb fun vm vn => Jf vm vn) (Jf (.int .i64 (.ofNat 0)) vb)) fun vo vp => R.jn (fun Jq : Cur (Hp → Bool) 1 => R.jn (fun Jr : Cur (Hp → Bool) 1 => R.bi .neq vo (.int .i64 (.ofNat 0)) fun vs => R.br vs (Jr vo vp) (R.br v4 (Jr (.int .i64 (.ofNat 7)) vp) (R.bs .eql ve (.string ⟨⟨[115,101,116,115]⟩⟩) fun vt => R.jn (fun Ju : Cur (Hp → Bool) 1 => R.gd true vt (R.fa 6 v6 fun vv => R.fa 2 vv fun vw => R.l1 vp vw fun vx => R.fa 3 v8 fun vy => R.fa 2 vy fun vz => R.l1 vp vz fun v10 => C 230 3 v1 vx v10 vp fun v11 v12 => R.nt v11 fun v13 => Ju v13 v12) (Ju undef vp)) fun v14 v15 => R.pk vt v14 (.bool false) fun v16 => R.br v16 (Jr (.int .i64 (.ofNat 9)) v15) (R.fa 3 v8 fun v17 => R.fa 0 v17 fun v18 => R.l1 v15 v18 fun v19 => R.bi .eql v19 (.int .i64 (.ofNat 3)) fun v1a => R.br v1a (R.fa 3 v8 fun v1b => R.fa 2 v1b fun v1c => R.l1 v15 v1c fun v1d => C 231 2 ve v1d v15 fun v1e v1f => Jr v1e v1f) (Jr vo v15))))) fun v1g v1h => Jq v1g v1h) fun v1i v1j => R.fa 3 v8 fun v1k => R.ln 3 v1j v1k fun v1l => C 54 2 v1i v1l v1j fun v1m v1n => R.sn 2 v1n va v1m fun v1o v1p => R.ln 2 v1p va fun v1q => kr v1q v1p
theorem F167_eq (R : Ops) (C : Callees) : F167 R C = fnOf Tryz.prog R C 4 Tryz.f167 (bodyOf Tryz.prog 167) := by kernel_rfl

noncomputable def F210 (R : Ops) (C : Callees) : FnT 1 := fun v1 v2 kr => C 228 1 v1 v2 fun v3 v4 => R.lv v3 fun v5 => R.bi .sub v5 (.int .i64 (.ofNat 2)) fun v6 => R.bt v4 .max ⟨[3, 3]⟩ [v6, (.int .i64 (.ofNat 0))] fun v7 v8 => R.sg 22 v8 v3 (some v7) none none fun v9 => C 106 2 v9 (.string ⟨⟨[46]⟩⟩) v8 fun va vb => kr va vb
theorem F210_eq (R : Ops) (C : Callees) : F210 R C = fnOf Tryz.prog R C 1 Tryz.f210 (bodyOf Tryz.prog 210) := by kernel_rfl

noncomputable def F213 (R : Ops) (C : Callees) : FnT 2 := fun v1 v2 v3 kr => R.jn (fun J4 : Cur (Hp → Bool) 1 => R.jn (fun J5 : Cur (Hp → Bool) 1 => R.lp 1 (fun J6 v7 v8 => R.jn (fun J9 : Cur (Hp → Bool) 0 => R.ls v1 fun va => R.bi .lss v7 va fun vb => R.jn (fun Jc : Cur (Hp → Bool) 1 => R.gd true vb (R.ix v1 v7 fun vd => R.dy C v2 [vd] v8 fun ve vf => Jc ve vf) (Jc undef v8)) fun vg vh => R.pk vb vg (.bool false) fun vi => R.br vi (J9 vh) (J5 v7 vh)) fun vj => R.jn (fun Jk : Cur (Hp → Bool) 1 => R.bi .add v7 (.int .i64 (.ofNat 1)) fun vl => Jk vl vj) fun vm vn => J6 vm vn) fuel (.int .i64 (.ofNat 0)) v3) fun vo vp => J4 vo vp) fun vq vr => kr vq vr
theorem F213_eq (R : Ops) (C : Callees) : F213 R C = fnOf Tryz.prog R C 2 Tryz.f213 (bodyOf Tryz.prog 213) := by kernel_rfl

noncomputable def F215 (R : Ops) (C : Callees) : FnT 1 := fun v1 v2 kr => R.bi .geq v1 (.int .u8 (.ofNat 97)) fun v3 => R.jn (fun J4 : Cur (Hp → Bool) 1 => R.gd true v3 (R.bi .leq v1 (.int .u8 (.ofNat 122)) fun v5 => J4 v5 v2) (J4 undef v2)) fun v6 v7 => R.pk v3 v6 (.bool false) fun v8 => kr v8 v7
theorem F215_eq (R : Ops) (C : Callees) : F215 R C = fnOf Tryz.prog R C 1 Tryz.f215 (bodyOf Tryz.prog 215) := by kernel_rfl

noncomputable def F216 (R : Ops) (C : Callees) : FnT 1 := fun v1 v2 kr => C 215 1 v1 v2 fun v3 v4 => R.jn (fun J5 : Cur (Hp → Bool) 1 => R.gd false v3 (R.bi .geq v1 (.int .u8 (.ofNat 48)) fun v6 => J5 v6 v4) (J5 undef v4)) fun v7 v8 => R.jn (fun J9 : Cur (Hp → Bool) 1 => R.gd true v7 (R.bi .leq v1 (.int .u8 (.ofNat 57)) fun va => J9 va v8) (J9 undef v8)) fun vb vc => R.jn (fun Jd : Cur (Hp → Bool) 1 => R.gd false v3 (R.pk v7 vb (.bool false) fun ve => Jd ve vc) (Jd undef vc)) fun vf vg => R.pk v3 (.bool true) vf fun vh => R.jn (fun Ji : Cur (Hp → Bool) 1 => R.gd false vh (R.bi .eql v1 (.int .u8 (.ofNat 95)) fun vj => Ji vj vg) (Ji undef vg)) fun vk vl => R.pk vh (.bool true) vk fun vm => kr vm vl
theorem F216_eq (R : Ops) (C : Callees) : F216 R C = fnOf Tryz.prog R C 1 Tryz.f216 (bodyOf Tryz.prog 216) := by kernel_rfl

noncomputable def F217 (R : Ops) (C : Callees) : FnT 1 := fun v1 v2 kr => R.bs .neq v1 (.string ⟨⟨[]⟩⟩) fun v3 => R.jn (fun J4 : Cur (Hp → Bool) 1 => R.gd true v3 (C 255 2 v1 (.string ⟨⟨[32]⟩⟩) v2 fun v5 v6 => R.nt v5 fun v7 => J4 v7 v6) (J4 undef v2)) fun v8 v9 => R.pk v3 v8 (.bool false) fun va => R.jn (fun Jb : Cur (Hp → Bool) 1 => R.gd true va (R.bs .add (.string ⟨⟨[32]⟩⟩) v1 fun vc => R.bs .add vc (.string ⟨⟨[32]⟩⟩) fun vd => C 255 2 (.string ⟨⟨[32,111,114,105,103,105,110,32,99,111,111,107,105,101,32,115,101,99,114,101,116,32,101,110,100,112,111,105,110,116,32,112,114,111,112,101,114,116,121,32,110,101,116,119,111,114,107,32,97,116,32,112,97,103,101,32,105,110,106,101,99,116,32,115,99,114,105,112,116,32,110,101,101,100,115,32,104,101,97,100,101,114,32,111,119,110,32,115,101,116,115,32,103,105,118,101,115,32,99,104,97,110,103,101,115,32,114,101,100,105,114,101,99,116,32,111,112,101,110,32,99,111,114,115,32,97,110,121,32,99,114,101,100,101,110,116,105,97,108,115,32,97,108,108,111,119,32,109,101,116,104,111,100,115,32,99,115,112,32,97,110,100,32,111,114,32,110,111,116,32,99,104,97,110,103,101,100,32,102,111,114,103,101,100,32,107,110,111,119,115,32,115,116,111,108,101,110,32,114,97,110,32]⟩⟩) vd v9 fun ve vf => Jb ve vf) (Jb undef v9)) fun vg vh => R.pk va vg (.bool false) fun vi => kr vi vh
theorem F217_eq (R : Ops) (C : Callees) : F217 R C = fnOf Tryz.prog R C 1 Tryz.f217 (bodyOf Tryz.prog 217) := by kernel_rfl

noncomputable def F218 (R : Ops) (C : Callees) : FnT 2 := fun v1 v2 v3 kr => R.jn (fun J4 : Cur (Hp → Bool) 0 => R.bi .gtr v1 v2 fun v5 => R.br v5 (kr (.int .i64 (.ofNat 6)) v3) (J4 v3)) fun v6 => kr (.int .i64 (.ofNat 0)) v6
theorem F218_eq (R : Ops) (C : Callees) : F218 R C = fnOf Tryz.prog R C 2 Tryz.f218 (bodyOf Tryz.prog 218) := by kernel_rfl

noncomputable def F219 (R : Ops) (C : Callees) : FnT 1 := fun v1 v2 kr => R.bi .geq v1 (.int .u8 (.ofNat 65)) fun v3 => R.jn (fun J4 : Cur (Hp → Bool) 1 => R.gd true v3 (R.bi .leq v1 (.int .u8 (.ofNat 90)) fun v5 => J4 v5 v2) (J4 undef v2)) fun v6 v7 => R.pk v3 v6 (.bool false) fun v8 => kr v8 v7
theorem F219_eq (R : Ops) (C : Callees) : F219 R C = fnOf Tryz.prog R C 1 Tryz.f219 (bodyOf Tryz.prog 219) := by kernel_rfl

noncomputable def F220 (R : Ops) (C : Callees) : FnT 1 := fun v1 v2 kr => R.bi .geq v1 (.int .u8 (.ofNat 32)) fun v3 => R.jn (fun J4 : Cur (Hp → Bool) 1 => R.gd true v3 (R.bi .leq v1 (.int .u8 (.ofNat 126)) fun v5 => J4 v5 v2) (J4 undef v2)) fun v6 v7 => R.pk v3 v6 (.bool false) fun v8 => R.jn (fun J9 : Cur (Hp → Bool) 1 => R.gd true v8 (R.bi .neq v1 (.int .u8 (.ofNat 34)) fun va => J9 va v7) (J9 undef v7)) fun vb vc => R.pk v8 vb (.bool false) fun vd => kr vd vc
theorem F220_eq (R : Ops) (C : Callees) : F220 R C = fnOf Tryz.prog R C 1 Tryz.f220 (bodyOf Tryz.prog 220) := by kernel_rfl

noncomputable def F222 (R : Ops) (C : Callees) : FnT 2 := fun v1 v2 v3 kr => R.al 73 [(.int .i64 (.ofNat 0)), (.int .i64 (.ofNat 0)), (.string ⟨⟨[]⟩⟩)] v3 fun v4 v5 => R.jn (fun J6 : Cur (Hp → Bool) 0 => R.nk v1 (R.fa 0 v1 fun v7 => R.l1 v5 v7 fun v8 => R.lv v8 fun v9 => R.bi .eql v9 (.int .i64 (.ofNat 0)) fun va => R.jn (fun Jb : Cur (Hp → Bool) 1 => R.gd false va (R.nk v1 (R.fa 0 v1 fun vc => R.l1 v5 vc fun vd => R.xs 3 vd (.int .i64 (.ofNat 0)) fun ve => R.fa 0 ve fun vf => R.l1 v5 vf fun vg => R.bi .neq vg v2 fun vh => Jb vh v5)) (Jb undef v5)) fun vi vj => R.pk va (.bool true) vi fun vk => R.br vk (C 257 1 v1 vj fun vl vm => J6 vm) (J6 vj))) fun vn => R.nk v1 (R.fa 0 v1 fun vo => R.l1 vn vo fun vp => R.xs 3 vp (.int .i64 (.ofNat 0)) fun vq => R.ln 3 vn vq fun vr => R.al 73 [(.int .i64 (.ofNat 0)), (.int .i64 (.ofNat 0)), (.string ⟨⟨[]⟩⟩)] vn fun vs vt => R.sn 3 vt vs vr fun vu vv => R.nk v1 (R.fa 0 v1 fun vw => R.l1 vv vw fun vx => R.sg 164 vv vx (some (.int .i64 (.ofNat 1))) none none fun vy => R.nk v1 (R.fa 0 v1 fun vz => R.s1 vv vz vy fun v10 v11 => R.ln 3 v11 vs fun v12 => R.sn 3 v11 v4 v12 fun v13 v14 => R.ln 3 v14 v4 fun v15 => kr v15 v14)))
theorem F222_eq (R : Ops) (C : Callees) : F222 R C = fnOf Tryz.prog R C 2 Tryz.f222 (bodyOf Tryz.prog 222) := by kernel_rfl

noncomputable def F223 (R : Ops) (C : Callees) : FnT 1 := fun v1 v2 kr => R.al 73 [(.int .i64 (.ofNat 0)), (.int .i64 (.ofNat 0)), (.string ⟨⟨[]⟩⟩)] v2 fun v3 v4 => R.al 73 [(.int .i64 (.ofNat 0)), (.int .i64 (.ofNat 0)), (.string ⟨⟨[]⟩⟩)] v4 fun v5 v6 => C 222 2 v1 (.int .i64 (.ofNat 1)) v6 fun v7 v8 => R.al 73 [(.int .i64 (.ofNat 0)), (.int .i64 (.ofNat 0)), (.string ⟨⟨[]⟩⟩)] v8 fun v9 va => R.sn 3 va v9 v7 fun vb vc => C 224 3 v1 (.int .i64 (.ofNat 2)) (.string ⟨⟨[97,116]⟩⟩) vc fun vd ve => R.ln 3 ve v9 fun vf => R.bo (R.ln 3 ve v9 fun vg => R.eq vg vf) (C 222 2 v1 (.int .i64 (.ofNat 1)) ve fun vh vi => R.bo (R.ln 3 vi v9 fun vj => R.eq vj vf) (R.sn 3 vi v3 vf fun vk vl => R.sn 3 vl v5 vh fun vm vn => R.ln 3 vn v3 fun vo => R.ln 3 vn v5 fun vp => kr (.tuple ⟨[vo, vp]⟩) vn))
theorem F223_eq (R : Ops) (C : Callees) : F223 R C = fnOf Tryz.prog R C 1 Tryz.f223 (bodyOf Tryz.prog 223) := by kernel_rfl

noncomputable def F224 (R : Ops) (C : Callees) : FnT 3 := fun v1 v2 v3 v4 kr => R.al 73 [(.int .i64 (.ofNat 0)), (.int .i64 (.ofNat 0)), (.string ⟨⟨[]⟩⟩)] v4 fun v5 v6 => R.jn (fun J7 : Cur (Hp → Bool) 0 => C 258 3 v1 v2 v3 v6 fun v8 v9 => R.nt v8 fun va => R.br va (C 257 1 v1 v9 fun vb vc => J7 vc) (J7 v9)) fun vd => C 222 2 v1 v2 vd fun ve vf => R.sn 3 vf v5 ve fun vg vh => R.ln 3 vh v5 fun vi => kr vi vh
theorem F224_eq (R : Ops) (C : Callees) : F224 R C = fnOf Tryz.prog R C 3 Tryz.f224 (bodyOf Tryz.prog 224) := by kernel_rfl

noncomputable def F225 (R : Ops) (C : Callees) : FnT 2 := fun v1 v2 v3 kr => R.bx 167 v3 v1 fun v4 v5 => R.bx 9 v5 v2 fun v6 v7 => R.dy C (.func (.func 259) ⟨[]⟩ ⟨[v6, v4]⟩) [] v7 fun v8 v9 => R.jn (fun Ja : Cur (Hp → Bool) 1 => R.jn (fun Jb : Cur (Hp → Bool) 1 => R.lp 1 (fun Jc vd ve => R.jn (fun Jf : Cur (Hp → Bool) 0 => R.l1 ve v4 fun vg => R.l1 ve v6 fun vh => C 258 3 vg (.int .i64 (.ofNat 2)) vh ve fun vi vj => R.br vi (Jf vj) (Jb vd vj)) fun vk => R.jn (fun Jl : Cur (Hp → Bool) 1 => R.l1 vk v4 fun vm => C 222 2 vm (.int .i64 (.ofNat 2)) vk fun vn vo => R.bl 180 1 [(0, vd)] vo fun vp vq => R.bd 182 [(0, vn), (2, vp)] fun vr => R.bx 182 vq vr fun vs vt => R.nk vs (R.fa 6 vs fun vu => R.l1 vt vu fun vv => R.bo (R.l1 vt vu fun vw => R.eq vw vv) (R.dy C (.func (.func 259) ⟨[]⟩ ⟨[v6, v4]⟩) [] vt fun vx vy => R.bl 180 1 [(0, vx)] vy fun vz v10 => R.bo (R.l1 v10 vu fun v11 => R.eq v11 vv) (R.bt v10 .append ⟨[180, 180]⟩ [vv, vz] fun v12 v13 => R.nk vs (R.fa 6 vs fun v14 => R.s1 v13 v14 v12 fun v15 v16 => Jl vs v16))))) fun v17 v18 => Jc v17 v18) fuel v8 v9) fun v19 v1a => Ja v19 v1a) fun v1b v1c => kr v1b v1c
theorem F225_eq (R : Ops) (C : Callees) : F225 R C = fnOf Tryz.prog R C 2 Tryz.f225 (bodyOf Tryz.prog 225) := by kernel_rfl

noncomputable def F226 (R : Ops) (C : Callees) : FnT 3 := fun v1 v2 v3 v4 kr => C 258 3 v1 v2 v3 v4 fun v5 v6 => R.jn (fun J7 : Cur (Hp → Bool) 0 => R.br v5 (C 222 2 v1 v2 v6 fun v8 v9 => J7 v9) (J7 v6)) fun va => kr v5 va
theorem F226_eq (R : Ops) (C : Callees) : F226 R C = fnOf Tryz.prog R C 3 Tryz.f226 (bodyOf Tryz.prog 226) := by kernel_rfl

noncomputable def F227 (R : Ops) (C : Callees) : FnT 1 := fun v1 v2 kr => R.al 122 [(.int .i64 (.ofNat 0)), (.int .i64 (.ofNat 0)), (.string ⟨⟨[]⟩⟩), (.int .i64 (.ofNat 0)), (.int .i64 (.ofNat 0)), (.string ⟨⟨[]⟩⟩)] v2 fun v3 v4 => C 222 2 v1 (.int .i64 (.ofNat 2)) v4 fun v5 v6 => R.bd 122 [(0, v5)] fun v7 => R.al 122 [(.int .i64 (.ofNat 0)), (.int .i64 (.ofNat 0)), (.string ⟨⟨[]⟩⟩), (.int .i64 (.ofNat 0)), (.int .i64 (.ofNat 0)), (.string ⟨⟨[]⟩⟩)] v6 fun v8 v9 => R.sn 6 v9 v8 v7 fun va vb => R.jn (fun Jc : Cur (Hp → Bool) 0 => R.fa 0 v8 fun vd => R.fa 2 vd fun ve => R.l1 vb ve fun vf => R.jn (fun Jg : Cur (Hp → Bool) 0 => R.jn (fun Jh : Cur (Hp → Bool) 1 => R.bs .eql vf (.string ⟨⟨[112,97,103,101]⟩⟩) fun vi => R.br vi (Jh vi vb) (R.bs .eql vf (.string ⟨⟨[105,110,106,101,99,116]⟩⟩) fun vj => R.br vj (Jh vj vb) (R.bs .eql vf (.string ⟨⟨[111,119,110]⟩⟩) fun vk => R.br vk (Jh vk vb) (R.bs .eql vf (.string ⟨⟨[99,104,97,110,103,101,115]⟩⟩) fun vl => R.br vl (Jh vl vb) (R.bs .eql vf (.string ⟨⟨[111,112,101,110]⟩⟩) fun vm => R.br vm (Jh vm vb) (R.bs .eql vf (.string ⟨⟨[99,114,101,100,101,110,116,105,97,108,115]⟩⟩) fun vn => Jh vn vb)))))) fun vo vp => R.br vo (Jg vp) (R.jn (fun Jq : Cur (Hp → Bool) 1 => R.bs .eql vf (.string ⟨⟨[115,99,114,105,112,116]⟩⟩) fun vr => R.br vr (Jq vr vp) (R.bs .eql vf (.string ⟨⟨[110,101,101,100,115]⟩⟩) fun vs => R.br vs (Jq vs vp) (R.bs .eql vf (.string ⟨⟨[115,101,116,115]⟩⟩) fun vt => R.br vt (Jq vt vp) (R.bs .eql vf (.string ⟨⟨[103,105,118,101,115]⟩⟩) fun vu => R.br vu (Jq vu vp) (R.bs .eql vf (.string ⟨⟨[114,101,100,105,114,101,99,116]⟩⟩) fun vv => Jq vv vp))))) fun vw vx => R.br vw (C 222 2 v1 (.int .i64 (.ofNat 1)) vx fun vy vz => R.fa 3 v8 fun v10 => R.sn 3 vz v10 vy fun v11 v12 => Jg v12) (R.bs .eql vf (.string ⟨⟨[99,111,114,115]⟩⟩) fun v13 => R.br v13 (C 258 3 v1 (.int .i64 (.ofNat 2)) (.string ⟨⟨[97,110,121]⟩⟩) vx fun v14 v15 => R.br v14 (C 222 2 v1 (.int .i64 (.ofNat 2)) v15 fun v16 v17 => R.fa 3 v8 fun v18 => R.sn 3 v17 v18 v16 fun v19 v1a => Jg v1a) (C 222 2 v1 (.int .i64 (.ofNat 1)) v15 fun v1b v1c => R.fa 3 v8 fun v1d => R.sn 3 v1c v1d v1b fun v1e v1f => Jg v1f)) (R.jn (fun J1g : Cur (Hp → Bool) 1 => R.bs .eql vf (.string ⟨⟨[104,101,97,100,101,114]⟩⟩) fun v1h => R.br v1h (J1g v1h vx) (R.bs .eql vf (.string ⟨⟨[97,108,108,111,119]⟩⟩) fun v1i => R.br v1i (J1g v1i vx) (R.bs .eql vf (.string ⟨⟨[109,101,116,104,111,100,115]⟩⟩) fun v1j => R.br v1j (J1g v1j vx) (R.bs .eql vf (.string ⟨⟨[99,115,112]⟩⟩) fun v1k => J1g v1k vx)))) fun v1l v1m => R.br v1l (C 222 2 v1 (.int .i64 (.ofNat 3)) v1m fun v1n v1o => R.fa 3 v8 fun v1p => R.sn 3 v1o v1p v1n fun v1q v1r => Jg v1r) (R.fa 0 v8 fun v1s => R.fa 1 v1s fun v1t => R.l1 v1m v1t fun v1u => R.bd 27 [(0, (.int .i64 (.ofNat 4))), (1, v1u)] fun v1v => R.bd 227 [(0, v1v)] fun v1w => R.mi 227 v1w fun v1x => false))))) fun v1y => Jc v1y) fun v1z => C 224 3 v1 (.int .i64 (.ofNat 4)) (.string ⟨⟨[59]⟩⟩) v1z fun v20 v21 => R.ln 6 v21 v8 fun v22 => R.sn 6 v21 v3 v22 fun v23 v24 => R.ln 6 v24 v3 fun v25 => kr v25 v24
theorem F227_eq (R : Ops) (C : Callees) : F227 R C = fnOf Tryz.prog R C 1 Tryz.f227 (bodyOf Tryz.prog 227) := by kernel_rfl

noncomputable def F228 (R : Ops) (C : Callees) : FnT 1 := fun v1 v2 kr => R.jn (fun J3 : Cur (Hp → Bool) 0 => C 155 1 v1 v2 fun v4 v5 => R.nt v4 fun v6 => R.br v6 (kr (.slice none 0 0) v5) (J3 v5)) fun v7 => C 261 2 v1 (.string ⟨⟨[46]⟩⟩) v7 fun v8 v9 => kr v8 v9
theorem F228_eq (R : Ops) (C : Callees) : F228 R C = fnOf Tryz.prog R C 1 Tryz.f228 (bodyOf Tryz.prog 228) := by kernel_rfl

noncomputable def F229 (R : Ops) (C : Callees) : FnT 2 := fun v1 v2 v3 kr => R.jn (fun J4 : Cur (Hp → Bool) 0 => R.lv v1 fun v5 => R.jn (fun J6 : Cur (Hp → Bool) 0 => R.lp 2 (fun J7 v8 v9 va => R.bi .lss v9 v5 fun vb => R.jn (fun Jc : Cur (Hp → Bool) 0 => R.br vb (Jc va) (J6 va)) fun vd => R.jn (fun Je : Cur (Hp → Bool) 1 => R.jn (fun Jf : Cur (Hp → Bool) 1 => R.xs 6 v1 v9 fun vg => R.ln 6 vd vg fun vh => R.dy C v2 [vh] vd fun vi vj => R.br vi (kr v9 vj) (Jf v8 vj)) fun vk vl => Je vk vl) fun vm vn => R.bi .add v9 (.int .i64 (.ofNat 1)) fun vo => J7 vm vo vn) fuel (.int .i64 (.ofNat 0)) (.int .i64 (.ofNat 0)) v3) fun vp => J4 vp) fun vq => kr (.int .i64 (.negSucc 0)) vq
theorem F229_eq (R : Ops) (C : Callees) : F229 R C = fnOf Tryz.prog R C 2 Tryz.f229 (bodyOf Tryz.prog 229) := by kernel_rfl

noncomputable def F230 (R : Ops) (C : Callees) : FnT 3 := fun v1 v2 v3 v4 kr => R.nk v1 (R.fa 3 v1 fun v5 => R.l1 v4 v5 fun v6 => R.lk 69 v4 v6 v3 true fun v7 => R.ex 0 v7 fun v8 => R.ex 1 v7 fun v9 => R.al 92 [(.string ⟨⟨[]⟩⟩), (.int .i64 (.ofNat 0)), (.string ⟨⟨[]⟩⟩), (.string ⟨⟨[]⟩⟩), (.bool false), (.bool false), (.int .i64 (.ofNat 0))] v4 fun va vb => R.sn 7 vb va v8 fun vc vd => R.nk v1 (R.fa 2 v1 fun ve => R.l1 vd ve fun vf => R.nk v1 (R.fa 0 v1 fun vg => R.l1 vd vg fun vh => R.nk v1 (R.fa 1 v1 fun vi => R.l1 vd vi fun vj => R.lk 64 vd vj v3 false fun vk => R.xs 17 vh vk fun vl => R.fa 6 vl fun vm => R.fa 2 vm fun vn => R.l1 vd vn fun vo => R.lk 68 vd vf vo true fun vp => R.ex 0 vp fun vq => R.ex 1 vp fun vr => R.al 89 [(.string ⟨⟨[]⟩⟩), (.string ⟨⟨[]⟩⟩), (.string ⟨⟨[]⟩⟩), (.int .i64 (.ofNat 0))] vd fun vs vt => R.bo (R.lk 68 vt vf vo true fun vu => R.eq vu vp) (R.bo (R.l1 vt vn fun vv => R.eq vv vo) (R.bo (R.lk 64 vt vj v3 false fun vw => R.eq vw vk) (R.bo (R.l1 vt vi fun vx => R.eq vx vj) (R.bo (R.l1 vt vg fun vy => R.eq vy vh) (R.bo (R.l1 vt ve fun vz => R.eq vz vf) (R.sn 4 vt vs vq fun v10 v11 => R.nk v1 (R.fa 2 v1 fun v12 => R.l1 v11 v12 fun v13 => R.lk 68 v11 v13 v2 true fun v14 => R.ex 0 v14 fun v15 => R.ex 1 v14 fun v16 => R.al 89 [(.string ⟨⟨[]⟩⟩), (.string ⟨⟨[]⟩⟩), (.string ⟨⟨[]⟩⟩), (.int .i64 (.ofNat 0))] v11 fun v17 v18 => R.sn 4 v18 v17 v15 fun v19 v1a => R.nt v9 fun v1b => R.jn (fun J1c : Cur (Hp → Bool) 1 => R.gd false v1b (R.nt vr fun v1d => J1c v1d v1a) (J1c undef v1a)) fun v1e v1f => R.pk v1b (.bool true) v1e fun v1g => R.jn (fun J1h : Cur (Hp → Bool) 1 => R.gd false v1g (R.nt v16 fun v1i => J1h v1i v1f) (J1h undef v1f)) fun v1j v1k => R.pk v1g (.bool true) v1j fun v1l => R.jn (fun J1m : Cur (Hp → Bool) 1 => R.gd false v1l (R.fa 2 vs fun v1n => R.l1 v1k v1n fun v1o => R.fa 2 v17 fun v1p => R.l1 v1k v1p fun v1q => R.bs .eql v1o v1q fun v1r => J1m v1r v1k) (J1m undef v1k)) fun v1s v1t => R.jn (fun J1u : Cur (Hp → Bool) 1 => R.gd true v1s (R.fa 4 va fun v1v => R.l1 v1t v1v fun v1w => R.nt v1w fun v1x => J1u v1x v1t) (J1u undef v1t)) fun v1y v1z => R.jn (fun J20 : Cur (Hp → Bool) 1 => R.gd false v1y (R.fa 1 v17 fun v21 => R.l1 v1z v21 fun v22 => R.bs .neq v22 (.string ⟨⟨[104,116,116,112]⟩⟩) fun v23 => J20 v23 v1z) (J20 undef v1z)) fun v24 v25 => R.jn (fun J26 : Cur (Hp → Bool) 1 => R.gd true v1s (R.pk v1y (.bool true) v24 fun v27 => J26 v27 v25) (J26 undef v25)) fun v28 v29 => R.jn (fun J2a : Cur (Hp → Bool) 1 => R.gd false v1l (R.pk v1s v28 (.bool false) fun v2b => J2a v2b v29) (J2a undef v29)) fun v2c v2d => R.pk v1l (.bool true) v2c fun v2e => kr v2e v2d)))))))))))
theorem F230_eq (R : Ops) (C : Callees) : F230 R C = fnOf Tryz.prog R C 3 Tryz.f230 (bodyOf Tryz.prog 230) := by kernel_rfl

noncomputable def F255 (R : Ops) (C : Callees) : FnT 2 := fun v1 v2 v3 kr => C 264 2 v1 v2 v3 fun v4 v5 => R.bi .geq v4 (.int .i64 (.ofNat 0)) fun v6 => kr v6 v5
theorem F255_eq (R : Ops) (C : Callees) : F255 R C = fnOf Tryz.prog R C 2 Tryz.f255 (bodyOf Tryz.prog 255) := by kernel_rfl

noncomputable def F258 (R : Ops) (C : Callees) : FnT 3 := fun v1 v2 v3 v4 kr => R.nk v1 (R.fa 0 v1 fun v5 => R.l1 v4 v5 fun v6 => R.lv v6 fun v7 => R.bi .gtr v7 (.int .i64 (.ofNat 0)) fun v8 => R.jn (fun J9 : Cur (Hp → Bool) 1 => R.gd true v8 (R.nk v1 (R.fa 0 v1 fun va => R.l1 v4 va fun vb => R.xs 3 vb (.int .i64 (.ofNat 0)) fun vc => R.fa 0 vc fun vd => R.l1 v4 vd fun ve => R.bi .eql ve v2 fun vf => J9 vf v4)) (J9 undef v4)) fun vg vh => R.pk v8 vg (.bool false) fun vi => R.jn (fun Jj : Cur (Hp → Bool) 1 => R.gd true vi (R.nk v1 (R.fa 0 v1 fun vk => R.l1 vh vk fun vl => R.xs 3 vl (.int .i64 (.ofNat 0)) fun vm => R.fa 2 vm fun vn => R.l1 vh vn fun vo => R.bs .eql vo v3 fun vp => Jj vp vh)) (Jj undef vh)) fun vq vr => R.pk vi vq (.bool false) fun vs => kr vs vr)
theorem F258_eq (R : Ops) (C : Callees) : F258 R C = fnOf Tryz.prog R C 3 Tryz.f258 (bodyOf Tryz.prog 258) := by kernel_rfl

noncomputable def F259 (R : Ops) (C : Callees) : FnT 2 := fun v1 v2 v3 kr => R.jn (fun J4 : Cur (Hp → Bool) 0 => R.l1 v3 v1 fun v5 => R.bs .eql v5 (.string ⟨⟨[111,114]⟩⟩) fun v6 => R.br v6 (R.l1 v3 v2 fun v7 => C 225 2 v7 (.string ⟨⟨[97,110,100]⟩⟩) v3 fun v8 v9 => kr v8 v9) (J4 v3)) fun va => R.l1 va v2 fun vb => C 260 1 vb va fun vc vd => kr vc vd
theorem F259_eq (R : Ops) (C : Callees) : F259 R C = fnOf Tryz.prog R C 2 Tryz.f259 (bodyOf Tryz.prog 259) := by kernel_rfl

noncomputable def F260 (R : Ops) (C : Callees) : FnT 1 := fun v1 v2 kr => R.jn (fun J3 : Cur (Hp → Bool) 0 => C 226 3 v1 (.int .i64 (.ofNat 4)) (.string ⟨⟨[40]⟩⟩) v2 fun v4 v5 => R.br v4 (C 225 2 v1 (.string ⟨⟨[111,114]⟩⟩) v5 fun v6 v7 => C 224 3 v1 (.int .i64 (.ofNat 4)) (.string ⟨⟨[41]⟩⟩) v7 fun v8 v9 => kr v6 v9) (J3 v5)) fun va => C 222 2 v1 (.int .i64 (.ofNat 2)) va fun vb vc => R.bd 182 [(0, vb)] fun vd => R.bx 182 vc vd fun ve vf => R.jn (fun Jg : Cur (Hp → Bool) 0 => R.nk ve (R.fa 0 ve fun vh => R.fa 2 vh fun vi => R.l1 vf vi fun vj => R.jn (fun Jk : Cur (Hp → Bool) 0 => R.bs .eql vj (.string ⟨⟨[110,111,116]⟩⟩) fun vl => R.br vl (C 260 1 v1 vf fun vm vn => R.bl 180 1 [(0, vm)] vn fun vo vp => R.nk ve (R.fa 6 ve fun vq => R.s1 vp vq vo fun vr vs => Jk vs)) (R.jn (fun Jt : Cur (Hp → Bool) 1 => R.bs .eql vj (.string ⟨⟨[99,104,97,110,103,101,100]⟩⟩) fun vu => R.br vu (Jt vu vf) (R.bs .eql vj (.string ⟨⟨[102,111,114,103,101,100]⟩⟩) fun vv => R.br vv (Jt vv vf) (R.bs .eql vj (.string ⟨⟨[107,110,111,119,115]⟩⟩) fun vw => R.br vw (Jt vw vf) (R.bs .eql vj (.string ⟨⟨[115,116,111,108,101,110]⟩⟩) fun vx => R.br vx (Jt vx vf) (R.bs .eql vj (.string ⟨⟨[114,97,110]⟩⟩) fun vy => Jt vy vf))))) fun vz v10 => R.br vz (C 222 2 v1 (.int .i64 (.ofNat 1)) v10 fun v11 v12 => R.nk ve (R.fa 3 ve fun v13 => R.sn 3 v12 v13 v11 fun v14 v15 => Jk v15)) (R.nk ve (R.fa 0 ve fun v16 => R.fa 1 v16 fun v17 => R.l1 v10 v17 fun v18 => R.bd 27 [(0, (.int .i64 (.ofNat 4))), (1, v18)] fun v19 => R.bd 227 [(0, v19)] fun v1a => R.mi 227 v1a fun v1b => false)))) fun v1c => Jg v1c)) fun v1d => kr ve v1d
theorem F260_eq (R : Ops) (C : Callees) : F260 R C = fnOf Tryz.prog R C 1 Tryz.f260 (bodyOf Tryz.prog 260) := by kernel_rfl

theorem F8_ent {G : GivenT} (hG : G 8 = none) : EntOk Tryz.prog G 8 ⟨1, F8 (theOps Tryz.prog)⟩ := ent_of_fn F8_eq Tryz.func8 (by kernel_rfl) hG
theorem F21_ent {G : GivenT} (hG : G 21 = none) : EntOk Tryz.prog G 21 ⟨1, F21 (theOps Tryz.prog)⟩ := ent_of_fn F21_eq Tryz.func21 (by kernel_rfl) hG
theorem F22_ent {G : GivenT} (hG : G 22 = none) : EntOk Tryz.prog G 22 ⟨2, F22 (theOps Tryz.prog)⟩ := ent_of_fn F22_eq Tryz.func22 (by kernel_rfl) hG
theorem F23_ent {G : GivenT} (hG : G 23 = none) : EntOk Tryz.prog G 23 ⟨1, F23 (theOps Tryz.prog)⟩ := ent_of_fn F23_eq Tryz.func23 (by kernel_rfl) hG
theorem F52_ent {G : GivenT} (hG : G 52 = none) : EntOk Tryz.prog G 52 ⟨1, F52 (theOps Tryz.prog)⟩ := ent_of_fn F52_eq Tryz.func52 (by kernel_rfl) hG
theorem F54_ent {G : GivenT} (hG : G 54 = none) : EntOk Tryz.prog G 54 ⟨2, F54 (theOps Tryz.prog)⟩ := ent_of_fn F54_eq Tryz.func54 (by kernel_rfl) hG
theorem F55_ent {G : GivenT} (hG : G 55 = none) : EntOk Tryz.prog G 55 ⟨3, F55 (theOps Tryz.prog)⟩ := ent_of_fn F55_eq Tryz.func55 (by kernel_rfl) hG
theorem F56_ent {G : GivenT} (hG : G 56 = none) : EntOk Tryz.prog G 56 ⟨2, F56 (theOps Tryz.prog)⟩ := ent_of_fn F56_eq Tryz.func56 (by kernel_rfl) hG
theorem F90_ent {G : GivenT} (hG : G 90 = none) : EntOk Tryz.prog G 90 ⟨1, F90 (theOps Tryz.prog)⟩ := ent_of_fn F90_eq Tryz.func90 (by kernel_rfl) hG
theorem F91_ent {G : GivenT} (hG : G 91 = none) : EntOk Tryz.prog G 91 ⟨1, F91 (theOps Tryz.prog)⟩ := ent_of_fn F91_eq Tryz.func91 (by kernel_rfl) hG
theorem F93_ent {G : GivenT} (hG : G 93 = none) : EntOk Tryz.prog G 93 ⟨1, F93 (theOps Tryz.prog)⟩ := ent_of_fn F93_eq Tryz.func93 (by kernel_rfl) hG
theorem F94_ent {G : GivenT} (hG : G 94 = none) : EntOk Tryz.prog G 94 ⟨2, F94 (theOps Tryz.prog)⟩ := ent_of_fn F94_eq Tryz.func94 (by kernel_rfl) hG
theorem F95_ent {G : GivenT} (hG : G 95 = none) : EntOk Tryz.prog G 95 ⟨3, F95 (theOps Tryz.prog)⟩ := ent_of_fn F95_eq Tryz.func95 (by kernel_rfl) hG
theorem F96_ent {G : GivenT} (hG : G 96 = none) : EntOk Tryz.prog G 96 ⟨2, F96 (theOps Tryz.prog)⟩ := ent_of_fn F96_eq Tryz.func96 (by kernel_rfl) hG
theorem F97_ent {G : GivenT} (hG : G 97 = none) : EntOk Tryz.prog G 97 ⟨2, F97 (theOps Tryz.prog)⟩ := ent_of_fn F97_eq Tryz.func97 (by kernel_rfl) hG
theorem F98_ent {G : GivenT} (hG : G 98 = none) : EntOk Tryz.prog G 98 ⟨2, F98 (theOps Tryz.prog)⟩ := ent_of_fn F98_eq Tryz.func98 (by kernel_rfl) hG
theorem F99_ent {G : GivenT} (hG : G 99 = none) : EntOk Tryz.prog G 99 ⟨1, F99 (theOps Tryz.prog)⟩ := ent_of_fn F99_eq Tryz.func99 (by kernel_rfl) hG
theorem F100_ent {G : GivenT} (hG : G 100 = none) : EntOk Tryz.prog G 100 ⟨1, F100 (theOps Tryz.prog)⟩ := ent_of_fn F100_eq Tryz.func100 (by kernel_rfl) hG
theorem F101_ent {G : GivenT} (hG : G 101 = none) : EntOk Tryz.prog G 101 ⟨2, F101 (theOps Tryz.prog)⟩ := ent_of_fn F101_eq Tryz.func101 (by kernel_rfl) hG
theorem F156_ent {G : GivenT} (hG : G 156 = none) : EntOk Tryz.prog G 156 ⟨1, F156 (theOps Tryz.prog)⟩ := ent_of_fn F156_eq Tryz.func156 (by kernel_rfl) hG
theorem F157_ent {G : GivenT} (hG : G 157 = none) : EntOk Tryz.prog G 157 ⟨1, F157 (theOps Tryz.prog)⟩ := ent_of_fn F157_eq Tryz.func157 (by kernel_rfl) hG
theorem F159_ent {G : GivenT} (hG : G 159 = none) : EntOk Tryz.prog G 159 ⟨1, F159 (theOps Tryz.prog)⟩ := ent_of_fn F159_eq Tryz.func159 (by kernel_rfl) hG
theorem F162_ent {G : GivenT} (hG : G 162 = none) : EntOk Tryz.prog G 162 ⟨1, F162 (theOps Tryz.prog)⟩ := ent_of_fn F162_eq Tryz.func162 (by kernel_rfl) hG
theorem F163_ent {G : GivenT} (hG : G 163 = none) : EntOk Tryz.prog G 163 ⟨1, F163 (theOps Tryz.prog)⟩ := ent_of_fn F163_eq Tryz.func163 (by kernel_rfl) hG
theorem F164_ent {G : GivenT} (hG : G 164 = none) : EntOk Tryz.prog G 164 ⟨1, F164 (theOps Tryz.prog)⟩ := ent_of_fn F164_eq Tryz.func164 (by kernel_rfl) hG
theorem F165_ent {G : GivenT} (hG : G 165 = none) : EntOk Tryz.prog G 165 ⟨2, F165 (theOps Tryz.prog)⟩ := ent_of_fn F165_eq Tryz.func165 (by kernel_rfl) hG
theorem F166_ent {G : GivenT} (hG : G 166 = none) : EntOk Tryz.prog G 166 ⟨1, F166 (theOps Tryz.prog)⟩ := ent_of_fn F166_eq Tryz.func166 (by kernel_rfl) hG
theorem F167_ent {G : GivenT} (hG : G 167 = none) : EntOk Tryz.prog G 167 ⟨4, F167 (theOps Tryz.prog)⟩ := ent_of_fn F167_eq Tryz.func167 (by kernel_rfl) hG
theorem F210_ent {G : GivenT} (hG : G 210 = none) : EntOk Tryz.prog G 210 ⟨1, F210 (theOps Tryz.prog)⟩ := ent_of_fn F210_eq Tryz.func210 (by kernel_rfl) hG
theorem F213_ent {G : GivenT} (hG : G 213 = none) : EntOk Tryz.prog G 213 ⟨2, F213 (theOps Tryz.prog)⟩ := ent_of_fn F213_eq Tryz.func213 (by kernel_rfl) hG
theorem F215_ent {G : GivenT} (hG : G 215 = none) : EntOk Tryz.prog G 215 ⟨1, F215 (theOps Tryz.prog)⟩ := ent_of_fn F215_eq Tryz.func215 (by kernel_rfl) hG
theorem F216_ent {G : GivenT} (hG : G 216 = none) : EntOk Tryz.prog G 216 ⟨1, F216 (theOps Tryz.prog)⟩ := ent_of_fn F216_eq Tryz.func216 (by kernel_rfl) hG
theorem F217_ent {G : GivenT} (hG : G 217 = none) : EntOk Tryz.prog G 217 ⟨1, F217 (theOps Tryz.prog)⟩ := ent_of_fn F217_eq Tryz.func217 (by kernel_rfl) hG
theorem F218_ent {G : GivenT} (hG : G 218 = none) : EntOk Tryz.prog G 218 ⟨2, F218 (theOps Tryz.prog)⟩ := ent_of_fn F218_eq Tryz.func218 (by kernel_rfl) hG
theorem F219_ent {G : GivenT} (hG : G 219 = none) : EntOk Tryz.prog G 219 ⟨1, F219 (theOps Tryz.prog)⟩ := ent_of_fn F219_eq Tryz.func219 (by kernel_rfl) hG
theorem F220_ent {G : GivenT} (hG : G 220 = none) : EntOk Tryz.prog G 220 ⟨1, F220 (theOps Tryz.prog)⟩ := ent_of_fn F220_eq Tryz.func220 (by kernel_rfl) hG
theorem F222_ent {G : GivenT} (hG : G 222 = none) : EntOk Tryz.prog G 222 ⟨2, F222 (theOps Tryz.prog)⟩ := ent_of_fn F222_eq Tryz.func222 (by kernel_rfl) hG
theorem F223_ent {G : GivenT} (hG : G 223 = none) : EntOk Tryz.prog G 223 ⟨1, F223 (theOps Tryz.prog)⟩ := ent_of_fn F223_eq Tryz.func223 (by kernel_rfl) hG
theorem F224_ent {G : GivenT} (hG : G 224 = none) : EntOk Tryz.prog G 224 ⟨3, F224 (theOps Tryz.prog)⟩ := ent_of_fn F224_eq Tryz.func224 (by kernel_rfl) hG
theorem F225_ent {G : GivenT} (hG : G 225 = none) : EntOk Tryz.prog G 225 ⟨2, F225 (theOps Tryz.prog)⟩ := ent_of_fn F225_eq Tryz.func225 (by kernel_rfl) hG
theorem F226_ent {G : GivenT} (hG : G 226 = none) : EntOk Tryz.prog G 226 ⟨3, F226 (theOps Tryz.prog)⟩ := ent_of_fn F226_eq Tryz.func226 (by kernel_rfl) hG
theorem F227_ent {G : GivenT} (hG : G 227 = none) : EntOk Tryz.prog G 227 ⟨1, F227 (theOps Tryz.prog)⟩ := ent_of_fn F227_eq Tryz.func227 (by kernel_rfl) hG
theorem F228_ent {G : GivenT} (hG : G 228 = none) : EntOk Tryz.prog G 228 ⟨1, F228 (theOps Tryz.prog)⟩ := ent_of_fn F228_eq Tryz.func228 (by kernel_rfl) hG
theorem F229_ent {G : GivenT} (hG : G 229 = none) : EntOk Tryz.prog G 229 ⟨2, F229 (theOps Tryz.prog)⟩ := ent_of_fn F229_eq Tryz.func229 (by kernel_rfl) hG
theorem F230_ent {G : GivenT} (hG : G 230 = none) : EntOk Tryz.prog G 230 ⟨3, F230 (theOps Tryz.prog)⟩ := ent_of_fn F230_eq Tryz.func230 (by kernel_rfl) hG
theorem F255_ent {G : GivenT} (hG : G 255 = none) : EntOk Tryz.prog G 255 ⟨2, F255 (theOps Tryz.prog)⟩ := ent_of_fn F255_eq Tryz.func255 (by kernel_rfl) hG
theorem F258_ent {G : GivenT} (hG : G 258 = none) : EntOk Tryz.prog G 258 ⟨3, F258 (theOps Tryz.prog)⟩ := ent_of_fn F258_eq Tryz.func258 (by kernel_rfl) hG
theorem F259_ent {G : GivenT} (hG : G 259 = none) : EntOk Tryz.prog G 259 ⟨2, F259 (theOps Tryz.prog)⟩ := ent_of_fn F259_eq Tryz.func259 (by kernel_rfl) hG
theorem F260_ent {G : GivenT} (hG : G 260 = none) : EntOk Tryz.prog G 260 ⟨1, F260 (theOps Tryz.prog)⟩ := ent_of_fn F260_eq Tryz.func260 (by kernel_rfl) hG
def fsF : List Nat := [8, 21, 22, 23, 52, 54, 55, 56, 90, 91, 93, 94, 95, 96, 97, 98, 99, 100, 101, 156, 157, 159, 162, 163, 164, 165, 166, 167, 210, 213, 215, 216, 217, 218, 219, 220, 222, 223, 224, 225, 226, 227, 228, 229, 230, 255, 258, 259, 260]
noncomputable def tabF : Tr Ent := (Tr.set (Tr.set (Tr.set (Tr.set (Tr.set (Tr.set (Tr.set (Tr.set (Tr.set (Tr.set (Tr.set (Tr.set (Tr.set (Tr.set (Tr.set (Tr.set (Tr.set (Tr.set (Tr.set (Tr.set (Tr.set (Tr.set (Tr.set (Tr.set (Tr.set (Tr.set (Tr.set (Tr.set (Tr.set (Tr.set (Tr.set (Tr.set (Tr.set (Tr.set (Tr.set (Tr.set (Tr.set (Tr.set (Tr.set (Tr.set (Tr.set (Tr.set (Tr.set (Tr.set (Tr.set (Tr.set (Tr.set (Tr.set (Tr.set .nil 8 (some ⟨1, F8 (theOps Tryz.prog)⟩)) 21 (some ⟨1, F21 (theOps Tryz.prog)⟩)) 22 (some ⟨2, F22 (theOps Tryz.prog)⟩)) 23 (some ⟨1, F23 (theOps Tryz.prog)⟩)) 52 (some ⟨1, F52 (theOps Tryz.prog)⟩)) 54 (some ⟨2, F54 (theOps Tryz.prog)⟩)) 55 (some ⟨3, F55 (theOps Tryz.prog)⟩)) 56 (some ⟨2, F56 (theOps Tryz.prog)⟩)) 90 (some ⟨1, F90 (theOps Tryz.prog)⟩)) 91 (some ⟨1, F91 (theOps Tryz.prog)⟩)) 93 (some ⟨1, F93 (theOps Tryz.prog)⟩)) 94 (some ⟨2, F94 (theOps Tryz.prog)⟩)) 95 (some ⟨3, F95 (theOps Tryz.prog)⟩)) 96 (some ⟨2, F96 (theOps Tryz.prog)⟩)) 97 (some ⟨2, F97 (theOps Tryz.prog)⟩)) 98 (some ⟨2, F98 (theOps Tryz.prog)⟩)) 99 (some ⟨1, F99 (theOps Tryz.prog)⟩)) 100 (some ⟨1, F100 (theOps Tryz.prog)⟩)) 101 (some ⟨2, F101 (theOps Tryz.prog)⟩)) 156 (some ⟨1, F156 (theOps Tryz.prog)⟩)) 157 (some ⟨1, F157 (theOps Tryz.prog)⟩)) 159 (some ⟨1, F159 (theOps Tryz.prog)⟩)) 162 (some ⟨1, F162 (theOps Tryz.prog)⟩)) 163 (some ⟨1, F163 (theOps Tryz.prog)⟩)) 164 (some ⟨1, F164 (theOps Tryz.prog)⟩)) 165 (some ⟨2, F165 (theOps Tryz.prog)⟩)) 166 (some ⟨1, F166 (theOps Tryz.prog)⟩)) 167 (some ⟨4, F167 (theOps Tryz.prog)⟩)) 210 (some ⟨1, F210 (theOps Tryz.prog)⟩)) 213 (some ⟨2, F213 (theOps Tryz.prog)⟩)) 215 (some ⟨1, F215 (theOps Tryz.prog)⟩)) 216 (some ⟨1, F216 (theOps Tryz.prog)⟩)) 217 (some ⟨1, F217 (theOps Tryz.prog)⟩)) 218 (some ⟨2, F218 (theOps Tryz.prog)⟩)) 219 (some ⟨1, F219 (theOps Tryz.prog)⟩)) 220 (some ⟨1, F220 (theOps Tryz.prog)⟩)) 222 (some ⟨2, F222 (theOps Tryz.prog)⟩)) 223 (some ⟨1, F223 (theOps Tryz.prog)⟩)) 224 (some ⟨3, F224 (theOps Tryz.prog)⟩)) 225 (some ⟨2, F225 (theOps Tryz.prog)⟩)) 226 (some ⟨3, F226 (theOps Tryz.prog)⟩)) 227 (some ⟨1, F227 (theOps Tryz.prog)⟩)) 228 (some ⟨1, F228 (theOps Tryz.prog)⟩)) 229 (some ⟨2, F229 (theOps Tryz.prog)⟩)) 230 (some ⟨3, F230 (theOps Tryz.prog)⟩)) 255 (some ⟨2, F255 (theOps Tryz.prog)⟩)) 258 (some ⟨3, F258 (theOps Tryz.prog)⟩)) 259 (some ⟨2, F259 (theOps Tryz.prog)⟩)) 260 (some ⟨1, F260 (theOps Tryz.prog)⟩))
theorem tabF_ok {G : GivenT} (h : ∀ g, g ∈ fsF → G g = none) : TabOk Tryz.prog G tabF := (TabOk.add (TabOk.add (TabOk.add (TabOk.add (TabOk.add (TabOk.add (TabOk.add (TabOk.add (TabOk.add (TabOk.add (TabOk.add (TabOk.add (TabOk.add (TabOk.add (TabOk.add (TabOk.add (TabOk.add (TabOk.add (TabOk.add (TabOk.add (TabOk.add (TabOk.add (TabOk.add (TabOk.add (TabOk.add (TabOk.add (TabOk.add (TabOk.add (TabOk.add (TabOk.add (TabOk.add (TabOk.add (TabOk.add (TabOk.add (TabOk.add (TabOk.add (TabOk.add (TabOk.add (TabOk.add (TabOk.add (TabOk.add (TabOk.add (TabOk.add (TabOk.add (TabOk.add (TabOk.add (TabOk.add (TabOk.add (TabOk.add .nil (F8_ent (h 8 (by decide)))) (F21_ent (h 21 (by decide)))) (F22_ent (h 22 (by decide)))) (F23_ent (h 23 (by decide)))) (F52_ent (h 52 (by decide)))) (F54_ent (h 54 (by decide)))) (F55_ent (h 55 (by decide)))) (F56_ent (h 56 (by decide)))) (F90_ent (h 90 (by decide)))) (F91_ent (h 91 (by decide)))) (F93_ent (h 93 (by decide)))) (F94_ent (h 94 (by decide)))) (F95_ent (h 95 (by decide)))) (F96_ent (h 96 (by decide)))) (F97_ent (h 97 (by decide)))) (F98_ent (h 98 (by decide)))) (F99_ent (h 99 (by decide)))) (F100_ent (h 100 (by decide)))) (F101_ent (h 101 (by decide)))) (F156_ent (h 156 (by decide)))) (F157_ent (h 157 (by decide)))) (F159_ent (h 159 (by decide)))) (F162_ent (h 162 (by decide)))) (F163_ent (h 163 (by decide)))) (F164_ent (h 164 (by decide)))) (F165_ent (h 165 (by decide)))) (F166_ent (h 166 (by decide)))) (F167_ent (h 167 (by decide)))) (F210_ent (h 210 (by decide)))) (F213_ent (h 213 (by decide)))) (F215_ent (h 215 (by decide)))) (F216_ent (h 216 (by decide)))) (F217_ent (h 217 (by decide)))) (F218_ent (h 218 (by decide)))) (F219_ent (h 219 (by decide)))) (F220_ent (h 220 (by decide)))) (F222_ent (h 222 (by decide)))) (F223_ent (h 223 (by decide)))) (F224_ent (h 224 (by decide)))) (F225_ent (h 225 (by decide)))) (F226_ent (h 226 (by decide)))) (F227_ent (h 227 (by decide)))) (F228_ent (h 228 (by decide)))) (F229_ent (h 229 (by decide)))) (F230_ent (h 230 (by decide)))) (F255_ent (h 255 (by decide)))) (F258_ent (h 258 (by decide)))) (F259_ent (h 259 (by decide)))) (F260_ent (h 260 (by decide))))
end Go.Proofs.YtonlcjnceooogaaGreatDoor
end
section
/- Functions of the program as terms of the quick engine; each is what its code comes to. -/
set_option autoImplicit false
set_option linter.unusedVariables false
set_option maxRecDepth 100000
namespace Go.Proofs.YtonlcjnceooogaaGreatDoor
open Go Go.RowKit Go.Proofs.YtonlcjnceooogaaGreatDoor.Abs
end Go.Proofs.YtonlcjnceooogaaGreatDoor
end
section
/- Chapter 12, by the quick engine: its awake. -/
set_option autoImplicit false
set_option linter.unusedSimpArgs false
set_option linter.unusedVariables false
namespace Go.Proofs.YtonlcjnceooogaaGreatDoor
open Go Go.RowKit Go.Proofs.YtonlcjnceooogaaGreatDoor.Abs

theorem fsF_none0 (g : Nat) (hg : g ∈ fsF) : G0 g = none := by
  have : (fsF.all fun g => match G0 g with | none => true | some _ => false) = true := by kernel_rfl
  have := List.all_eq_true.1 this g hg
  split at this
  · assumption
  · cases this
/-- The functions that known and items call. -/
noncomputable def C0 : Callees := knot (natT tabF) 60
theorem C0_ok : COk Tryz.prog G0 C0 := knot_ok (natT_ok0 (tabF_ok fsF_none0)) 60
end Go.Proofs.YtonlcjnceooogaaGreatDoor
end
section
/-
  DERIVED: THE SHELF's CONTRACTS AT THIS DUMP, IN PLAIN WORDS (tools/lay-plain.mjs out of 'TryzShelf.lean', which tools/lay-shelf.mjs wrote): THE SAME DECLARATIONS UNDER THE SAME NAMES: 'import', 'namespace', 'open', 'def', 'theorem' AND NOTHING ELSE: no command of the shelf's: FOR A HAND-IN. Each laying: the table of numbers ('.._ren') and one theorem, a field a fact of the dump's own or the kernel's comparison; each contract: ONE APPLICATION.
-/
namespace Go.Proofs.YtonlcjnceooogaaGreatDoor.SA
open Go.Proofs
open Go.Shelf
def Tryz.lays229_ren : Go.Shelf.Ren := ⟨fun | 229 => 180 | n => n, fun | 9 => 9 | 40 => 252 | 31 => 22 | 152 => 281 | 3 => 3 | 0 => 0 | 4 => 4 | 21 => 21 | 154 => 283 | n => n, fun | n => n⟩
theorem Tryz.lays229 : Go.Proofs.Lays.n229 Tryz.prog Tryz.lays229_ren := {
  mixed := by kernel_rfl
  f229 := Tryz.func180.trans (congrArg some (by kernel_rfl))
  t0 := Tryz.underlying0
  a0 := Tryz.isAgg0
  z0 := Tryz.sizeOf0
  v0 := Tryz.zeroValue0
  t3 := Tryz.underlying3
  a3 := Tryz.isAgg3
  z3 := Tryz.sizeOf3
  v3 := Tryz.zeroValue3
  t4 := Tryz.underlying4
  a4 := Tryz.isAgg4
  z4 := Tryz.sizeOf4
  v4 := Tryz.zeroValue4
  t9 := Tryz.underlying9
  a9 := Tryz.isAgg9
  z9 := Tryz.sizeOf9
  v9 := Tryz.zeroValue9
  t21 := Tryz.underlying21
  a21 := Tryz.isAgg21
  z21 := Tryz.sizeOf21
  v21 := Tryz.zeroValue21
  t31 := Tryz.underlying22
  a31 := Tryz.isAgg22
  z31 := Tryz.sizeOf22
  v31 := Tryz.zeroValue22
  t40 := Tryz.underlying252
  a40 := Tryz.isAgg252
  z40 := Tryz.sizeOf252
  v40 := Tryz.zeroValue252
  t152 := Tryz.underlying281
  a152 := Tryz.isAgg281
  z152 := Tryz.sizeOf281
  v152 := Tryz.zeroValue281
  t154 := Tryz.underlying283
  a154 := Tryz.isAgg283
  z154 := Tryz.sizeOf283
  v154 := Tryz.zeroValue283 }
open Go.RowKit Go.Lib in
theorem Tryz.strings_FieldsFunc_grows (g : Nat) (lb : Array Value) (eg : ∀ args w, (callFunc g args).run Tryz.prog w = .ok (.enter g args) w) (p : Nat → Bool) (s : ByteArray) (w : World) (hs : s.size ≤ 4294967296) (hp : PredGrows Tryz.prog g lb p w) :
    Calls Tryz.prog 180 #[.string s, .func (.func g) #[] lb] w fun e w' => ∃ A, e = .returned (.slice (some ⟨A, 0, none⟩) (Lib.goFieldsP p s).length (Lib.goFieldsP p s).length) ∧ w.heap.size ≤ A ∧
      w'.ownsRow w.heap.size 9 1 (.slice (some ⟨A, 0, none⟩) (Lib.goFieldsP p s).length (Lib.goFieldsP p s).length) (Lib.goFieldsP p s).length ((Lib.goFieldsP p s).map Value.string) ∧ Below w.heap.size w w' := Any.strings_FieldsFunc_grows Tryz.lays229 g lb eg p s w hs hp (by kernel_rfl) (by kernel_rfl)
end Go.Proofs.YtonlcjnceooogaaGreatDoor.SA
end
section
/- csp.directive in plain words: the words behind the first piece whose first word is the name. -/
set_option linter.unusedSimpArgs false
set_option linter.unusedVariables false
namespace Go.Proofs.YtonlcjnceooogaaGreatDoor
open Go Go.RowKit Go.Shelf Go.Proofs Go.Proofs.YtonlcjnceooogaaGreatDoorW.PrintWords Go.Proofs.YtonlcjnceooogaaGreatDoorW.PrintLast Go.Proofs.YtonlcjnceooogaaGreatDoorW.PrintMore
attribute [local go_sem] Oper.semAt_some

def blankP (n : Nat) : Bool := n == 32 || n == 9
set_option maxHeartbeats 1000000 in
theorem blank_calls (x : Nat) (w : World) : Calls Tryz.prog 181 #[.int .i32 (x : Int)] w fun e w' => e = .returned (.bool (blankP x)) ∧ Below w.heap.size w w' := by
  go_enter Tryz.func181, Tryz.ntmps181
  by_cases h1 : x = 32
  · subst h1
    go_wp2
    go_ret
    exact ⟨rfl, Below.refl _ _⟩
  · have e1 : ((x : Int) == 32) = false := by rw [beq_eq_false_iff_ne]; omega
    have e3 : ((x : Int) = 32) = False := eq_false (by omega)
    by_cases h2 : x = 9
    · subst h2
      go_wp2
      go_ret
      exact ⟨rfl, Below.refl _ _⟩
    · have e2 : ((x : Int) == 9) = false := by rw [beq_eq_false_iff_ne]; omega
      have e4 : ((x : Int) = 9) = False := eq_false (by omega)
      go_wp2
      go_ret
      exact ⟨by simp [blankP, h1, h2], Below.refl _ _⟩
def lowT (x : ByteArray) : ByteArray := ⟨(lowL x.data.toList).toArray⟩
def wordsB (x : ByteArray) : List ByteArray := Lib.goFieldsP blankP (lowT x)
/-- l[1:] of a row of n. -/
def tailV (A n : Nat) : Value := .slice (some ⟨A, if n = 1 then 0 else 1, none⟩) (n - 1) (n - 1)
def dirHit (name : ByteArray) (x : ByteArray) : Bool := match wordsB x with
  | y :: _ => decide (y.toList = name.toList)
  | [] => false
theorem lowT_size (x : ByteArray) : (lowT x).size = x.size := by
  rw [Lib.size_eq, Lib.size_eq]
  show (lowL x.data.toList).length = _
  unfold lowL
  rw [List.length_map]
theorem words_calls (x : ByteArray) (hx : x.size ≤ 4294967296) (w : World) : Calls Tryz.prog 180 #[.string (lowT x), .func (.func 181) #[] #[]] w fun e w' => ∃ A, e = .returned (.slice (some ⟨A, 0, none⟩) (wordsB x).length (wordsB x).length) ∧ w.heap.size ≤ A ∧
      w'.heap[A]? = some (.cells ((wordsB x).map Value.string).toArray 9 (0, 0)) ∧ Below w.heap.size w w' := by
  refine (SA.Tryz.strings_FieldsFunc_grows 181 #[] (enters_of Tryz.func181 (by kernel_rfl) rfl) blankP (lowT x) w (by rw [lowT_size]; exact hx) (fun W y _ _ => blank_calls y W)).mono ?_
  rintro e w' ⟨A, rfl, hA, hrow, hb⟩
  refine ⟨A, rfl, hA, ?_, hb⟩
  rcases hrow.2 with ⟨hv, _⟩ | ⟨g, cap, cur, hv, hbg, hcell, hn, hcap, hsz, htake⟩
  · cases hv
  · simp only [Value.slice.injEq, Option.some.injEq, Addr.mk.injEq] at hv
    obtain ⟨⟨rfl, _⟩, _, hc⟩ := hv
    have hlen := hrow.1
    have : cur.toList = (Lib.goFieldsP blankP (lowT x)).map Value.string := by
      rw [← htake, List.take_of_length_le]
      rw [Array.length_toList, hsz]
      omega
    rw [hcell, show wordsB x = Lib.goFieldsP blankP (lowT x) from rfl, ← this, Array.toArray_toList]

set_option maxRecDepth 100000 in
set_option maxHeartbeats 4000000 in
theorem Directive_calls (s name : ByteArray) (hn : s.size ≤ 4294967296) (w : World) :
    Calls Tryz.prog 123 #[.string s, .string name] w fun e w' => Below w.heap.size w w' ∧ (((pieces 59 s).find? (dirHit name) = none ∧ e = .returned (.tuple #[.slice none 0 0, .bool false])) ∨
      ∃ A x, (pieces 59 s).find? (dirHit name) = some x ∧ w.heap.size ≤ A ∧ e = .returned (.tuple #[tailV A (wordsB x).length, .bool true]) ∧ w'.heap[A]? = some (.cells ((wordsB x).map Value.string).toArray 9 (0, 0))) := by
  refine (callsIn_wide (n := 4)).1 ?_
  refine callsIn_of_wp_marks Tryz.func123 rfl trivial ?_ rfl
  simp only [Tryz.ntmps123, List.size_toArray, List.length_cons, List.length_nil, Nat.reduceAdd, Nat.reduceSub, Array.replicate_succ, Array.replicate_zero, List.push_toArray, List.append_toArray, List.nil_append, List.cons_append]
  gi_wp2_with (refine ⟨trivial, ?_⟩; gi_at_call 168; refine (callsIn_wide.2 (SplitSeq_any _ _ _)).mono ?_; rintro e w' ⟨rfl, rfl⟩)
  obtain ⟨W0, hW0⟩ : ∃ W0, (((((w.alloc (.cells #[.string name] 9)).alloc (.cells #[.slice none 0 0] 22)).alloc (.cells #[.bool false] 4)).alloc (.cells #[.string s] 9)).alloc (.cells #[.string ⟨#[59]⟩] 9)).alloc (.cells #[.int .i64 0] 3) = W0 := ⟨_, rfl⟩
  have hs0 : W0.heap.size = w.heap.size + 6 := by rw [← hW0]; simp
  have hbx : Boxes (w.heap.size + 3) 59 s W0 := by
    have := boxes_new s 59 (((w.alloc (.cells #[.string name] 9)).alloc (.cells #[.slice none 0 0] 22)).alloc (.cells #[.bool false] 4)); rw [World.size_alloc, World.size_alloc, World.size_alloc] at this; rw [← hW0]; exact this
  have hbl : Below w.heap.size w W0 := by
    rw [← hW0]; exact ((((((Below.refl _ w).alloc (Nat.le_refl _) _).alloc (by simp) _).alloc (by simp; omega) _).alloc (by simp; omega) _).alloc (by simp; omega) _).alloc (by simp; omega) _
  have hk0 : Boxed W0 w.heap.size 9 (.string name) := by
    rw [← hW0]; exact (((((Boxed.new w _ _).alloc _).alloc _).alloc _).alloc _).alloc _
  have hk1 : Boxed W0 (w.heap.size + 1) 22 (.slice none 0 0) := by
    have := Boxed.new (w.alloc (.cells #[.string name] 9)) 22 (.slice none 0 0)
    rw [World.size_alloc] at this
    rw [← hW0]; exact (((this.alloc _).alloc _).alloc _).alloc _
  have hk2 : Boxed W0 (w.heap.size + 2) 4 (.bool false) := by
    have := Boxed.new ((w.alloc (.cells #[.string name] 9)).alloc (.cells #[.slice none 0 0] 22)) 4 (.bool false)
    rw [World.size_alloc, World.size_alloc] at this
    rw [← hW0]; exact ((this.alloc _).alloc _).alloc _
  rw [hW0]
  clear hW0
  have hsz := Lib.hid (Lib.size_eq s)
  refine wpIn_rangeBox rfl (by omega) (gf := 262) rfl trivial (enters_of Tryz.func262 (by kernel_rfl) rfl) (bs := w.heap.size + 3) (lo := w.heap.size + 3) (xs0 := pieces 59 s)
    (splitSeq1_box _ (by omega) _ _ _ _ (by omega) (by omega) hbx) (by omega) (by omega) rfl
    (fun pre W => ((Boxed W w.heap.size 9 (.string name) ∧ Boxed W (w.heap.size + 1) 22 (.slice none 0 0)) ∧ (Boxed W (w.heap.size + 2) 4 (.bool false) ∧ Below w.heap.size w W)) ∧ pre.find? (dirHit name) = none)
    (fun c pre W => ∃ A x, ((Boxed W (w.heap.size + 1) 22 (tailV A (wordsB x).length) ∧ Boxed W (w.heap.size + 2) 4 (.bool true)) ∧ (W.heap[A]? = some (.cells ((wordsB x).map Value.string).toArray 9 (0, 0)) ∧ Below w.heap.size w W)) ∧ c = .ret ∧ w.heap.size + 6 ≤ A ∧ pre.find? (dirHit name) = some x)
    ((((BoxOwn.block (f := fun _ => .cells #[.string name] 9 (0, 0)) (fun _ => rfl) (by omega)).and (BoxOwn.block (f := fun _ => .cells #[.slice none 0 0] 22 (0, 0)) (fun _ => rfl) (by omega))).and
      ((BoxOwn.block (f := fun _ => .cells #[.bool false] 4 (0, 0)) (fun _ => rfl) (by omega)).and (BoxOwn.below (Nat.le_refl _) (by omega) (by omega)))).and BoxOwn.pure)
    (fun c => by
      rintro pre W W' row ⟨A, x, ⟨⟨g1, g2⟩, g3, g4⟩, hc, hA, hf⟩ hg hr
      exact ⟨A, x, ⟨⟨boxBlock_kept hg hr g1 rfl (by omega), boxBlock_kept hg hr g2 rfl (by omega)⟩, boxBlock_kept hg hr g3 rfl (by omega), (BoxOwn.below (β := Unit) (bs := w.heap.size + 3) (Nat.le_refl _) (by omega) (by omega)) () W W' row g4 hg hr⟩, hc, hA, hf⟩)
    ⟨⟨⟨hk0, hk1⟩, hk2, hbl⟩, rfl⟩
    (fun x => { tmps := #[.string s, .string name, undef, .pointer (some ⟨w.heap.size, 0, none⟩), .pointer (some ⟨w.heap.size + 1, 0, none⟩), .pointer (some ⟨w.heap.size + 2, 0, none⟩), .string x, undef, .string s, .func (.func 262) #[] #[.pointer (some ⟨w.heap.size + 3 + 1, 0, none⟩), .pointer (some ⟨w.heap.size + 3, 0, none⟩), .pointer (some ⟨w.heap.size + 3 + 2, 0, none⟩)], .string x, undef, undef, undef, undef, undef, undef, undef, undef, undef, undef, undef, undef, undef, undef, undef], defers := [] }) ?assign ?body ?done ?stop
  case assign =>
    intro l x W K hK
    gi_wp2
    exact hK
  case body =>
    rintro l pre x W ⟨⟨⟨hr0, hr1⟩, hr2, hb⟩, hnone⟩ hpre hle
    have hx : x.size ≤ 4294967296 := by
      have : x ∈ pieces 59 s := hpre.subset (by simp)
      have := piece_size 59 _ _ _ this
      omega
    have hL := fun w => Lower_calls x (Nat.le_trans hx (by decide)) w
    have hF := words_calls x hx
    obtain ⟨T, hT⟩ : ∃ T : ByteArray, lowT x = T := ⟨_, rfl⟩
    have hLT : (⟨(lowL x.data.toList).toArray⟩ : ByteArray) = T := hT
    rw [hT] at hF
    simp only [hLT] at hL
    obtain ⟨ws, hws⟩ : ∃ ws, wordsB x = ws := ⟨_, rfl⟩
    rw [hws] at hF

    cases ws with
    | nil =>
      have hmiss : (pre ++ [x]).find? (dirHit name) = none := by
        rw [List.find?_append, hnone]
        simp [dirHit, hws]
      gi_wp2_with (first
        | (refine ⟨trivial, ?_⟩; gi_at_call 103; refine (CallsIn.inRound l (callsIn_wide.2 (hL _))).mono ?_; rintro e w1 ⟨rfl, hb1⟩)
        | (refine ⟨trivial, ?_⟩; gi_at_call 180; refine (CallsIn.inRound l (callsIn_wide.2 (hF _))).mono ?_; rintro e w2 ⟨A, rfl, hA, hcell, hb2⟩; have hb3 := hb1.trans (hb2.mono hb1.size); have hA2 := Nat.le_trans hb1.size hA; clear hb1 hb2 hA))
      rename_i Kc hKc
      try simp only [List.length_nil]
      refine start_in (n := 10) (S := fun _ => True) (ds := []) #[false, false, false, false, false, false, false, false, false, false] (by kernel_rfl) rfl (by rintro ⟨a, w, h⟩; exact h) rfl rfl trivial (fun hHeld => ?_)
      have hb4 := below_drew1 hb3
      clear hb3
      generalize World.drew w2 = w4 at *
      refine pure_ (i := 0) (N := some 14) (v := ?_) (a' := ?_) #[true, false, false, false, false, false, false, false, false, false] rfl rfl (by kernel_rfl) (fun _ _ _ h => h) (Or.inl ⟨by rfl, ?_⟩) ?_ ?_
      rotate_left
      · intro w'
        go_simp
        with_reducible rfl
      rotate_left
      · simp only [Act.put, List.setIfInBounds_toArray, List.set_cons_zero, List.set_cons_succ]
        rfl
      refine pure_ (i := 1) (N := some 15) (v := ?_) (a' := ?_) #[true, true, false, false, false, false, false, false, false, false] rfl rfl (by kernel_rfl) (fun _ _ _ h => h) (Or.inl ⟨by rfl, ?_⟩) ?_ ?_
      rotate_left
      · intro w'
        go_simp
        with_reducible rfl
      rotate_left
      · simp only [Act.put, List.setIfInBounds_toArray, List.set_cons_zero, List.set_cons_succ]
        rfl
      refine pure_ (i := 2) (N := some 16) (v := ?_) (a' := ?_) #[true, true, true, false, false, false, false, false, false, false] rfl rfl (by kernel_rfl) (fun _ _ _ h => h) (Or.inl ⟨by rfl, ?_⟩) ?_ ?_
      rotate_left
      · intro w'
        go_simp
        with_reducible rfl
      rotate_left
      · simp only [Act.put, List.setIfInBounds_toArray, List.set_cons_zero, List.set_cons_succ]
        rfl
      refine pure_ (i := 3) (N := some 17) (v := ?_) (a' := ?_) #[true, true, true, true, false, false, false, false, false, false] rfl rfl (by kernel_rfl) (fun _ _ _ h => h) (Or.inl ⟨by rfl, ?_⟩) ?_ ?_
      rotate_left
      · intro w'
        go_simp
        with_reducible rfl
      rotate_left
      · simp only [Act.put, List.setIfInBounds_toArray, List.set_cons_zero, List.set_cons_succ]
        rfl
      refine pure_ (i := 4) (N := some 18) (v := undef) (a' := ?_) #[true, true, true, true, true, false, false, false, false, false] rfl rfl (by kernel_rfl) (fun _ _ _ h => h) (Or.inr ⟨by rfl, rfl⟩) ?_ ?_
      rotate_left
      · simp only [Act.put, List.setIfInBounds_toArray, List.set_cons_zero, List.set_cons_succ]
        rfl
      refine pure_ (i := 5) (N := some 19) (v := undef) (a' := ?_) #[true, true, true, true, true, true, false, false, false, false] rfl rfl (by kernel_rfl) (fun _ _ _ h => h) (Or.inr ⟨by rfl, rfl⟩) ?_ ?_
      rotate_left
      · simp only [Act.put, List.setIfInBounds_toArray, List.set_cons_zero, List.set_cons_succ]
        rfl
      refine pure_ (i := 6) (N := some 20) (v := undef) (a' := ?_) #[true, true, true, true, true, true, true, false, false, false] rfl rfl (by kernel_rfl) (fun _ _ _ h => h) (Or.inr ⟨by rfl, rfl⟩) ?_ ?_
      rotate_left
      · simp only [Act.put, List.setIfInBounds_toArray, List.set_cons_zero, List.set_cons_succ]
        rfl
      refine pure_ (i := 7) (N := some 21) (v := undef) (a' := ?_) #[true, true, true, true, true, true, true, true, false, false] rfl rfl (by kernel_rfl) (fun _ _ _ h => h) (Or.inr ⟨by rfl, rfl⟩) ?_ ?_
      rotate_left
      · simp only [Act.put, List.setIfInBounds_toArray, List.set_cons_zero, List.set_cons_succ]
        rfl
      refine pure_ (i := 8) (N := some 22) (v := undef) (a' := ?_) #[true, true, true, true, true, true, true, true, true, false] rfl rfl (by kernel_rfl) (fun _ _ _ h => h) (Or.inr ⟨by rfl, rfl⟩) ?_ ?_
      rotate_left
      · simp only [Act.put, List.setIfInBounds_toArray, List.set_cons_zero, List.set_cons_succ]
        rfl
      refine pure_ (i := 9) (N := some 23) (v := ?_) (a' := ?_) #[true, true, true, true, true, true, true, true, true, true] rfl rfl (by kernel_rfl) (fun _ _ _ h => h) (Or.inl ⟨by rfl, ?_⟩) ?_ ?_
      rotate_left
      · intro w'
        go_simp
        with_reducible rfl
      rotate_left
      · simp only [Act.put, List.setIfInBounds_toArray, List.set_cons_zero, List.set_cons_succ]
        rfl
      refine done_ (by kernel_rfl) ?_
      refine hKc _ _ ?_
      gi_wp2
      exact ⟨keepsFrom_below hb4, KeepB.below hb4 (by omega), ⟨⟨boxed_below hr0 hb4, boxed_below hr1 hb4⟩, boxed_below hr2 hb4, hb.trans (hb4.mono hb.size)⟩, hmiss⟩
    | cons y ws =>
      have hpos : (0 : Int) < ((ws.length + 1 : Nat) : Int) := by omega
      gi_wp2_with (first
        | (refine ⟨trivial, ?_⟩; gi_at_call 103; refine (CallsIn.inRound l (callsIn_wide.2 (hL _))).mono ?_; rintro e w1 ⟨rfl, hb1⟩)
        | (refine ⟨trivial, ?_⟩; gi_at_call 180; refine (CallsIn.inRound l (callsIn_wide.2 (hF _))).mono ?_; rintro e w2 ⟨A, rfl, hA, hcell, hb2⟩; have hb3 := hb1.trans (hb2.mono hb1.size); have hA2 := Nat.le_trans hb1.size hA; clear hb1 hb2 hA))
      rename_i Kc hKc
      try simp only [List.length_cons]
      have hc0 : w2.cell? ⟨w.heap.size, 0, none⟩ = some (.string name) := (boxed_below hr0 hb3).cell
      have hcA : w2.cell? ⟨A, 0, none⟩ = some (.string y) := by simp [World.cell?, hcell]
      refine start_in (n := 10) (S := fun w' => w'.cell? ⟨w.heap.size, 0, none⟩ = some (.string name) ∧ w'.cell? ⟨A, 0, none⟩ = some (.string y)) (ds := []) #[false, false, false, false, false, false, false, false, false, false] (by kernel_rfl) rfl (by rintro ⟨a, w, h⟩; exact h) rfl rfl ⟨hc0, hcA⟩ (fun hHeld => ?_)
      have hb4 := below_drew1 hb3
      have hcell4 : (World.drew w2).heap[A]? = some (.cells ((y :: ws).map Value.string).toArray 9 (0, 0)) := hcell
      clear hb3 hcell hc0 hcA
      generalize World.drew w2 = w4 at *
      cases hit : decide (y.toList = name.toList)
      · have hmiss : (pre ++ [x]).find? (dirHit name) = none := by
          rw [List.find?_append, hnone]
          simp [dirHit, hws, hit]
        have hE : ¬ y.toList = name.toList := of_decide_eq_false hit
        refine pure_ (i := 0) (N := some 14) (v := ?_) (a' := ?_) #[true, false, false, false, false, false, false, false, false, false] rfl rfl (by kernel_rfl) (fun _ _ _ h => h) (Or.inl ⟨by rfl, ?_⟩) ?_ ?_
        rotate_left
        · intro w'
          go_simp
          with_reducible rfl
        rotate_left
        · simp only [Act.put, List.setIfInBounds_toArray, List.set_cons_zero, List.set_cons_succ]
          rfl
        refine pure_ (i := 1) (N := some 15) (v := ?_) (a' := ?_) #[true, true, false, false, false, false, false, false, false, false] rfl rfl (by kernel_rfl) (fun _ _ _ h => h) (Or.inl ⟨by rfl, ?_⟩) ?_ ?_
        rotate_left
        · intro w'
          go_simp
          with_reducible rfl
        rotate_left
        · simp only [Act.put, List.setIfInBounds_toArray, List.set_cons_zero, List.set_cons_succ]
          rfl
        refine pure_ (i := 2) (N := some 16) (v := .bool true) (a' := ?_) #[true, true, true, false, false, false, false, false, false, false] rfl rfl (by kernel_rfl) (fun _ _ _ h => h) (Or.inl ⟨by rfl, ?_⟩) ?_ ?_
        · intro w'
          go_simp
          all_goals first | with_reducible rfl | (simp [hit, hpos]; done) | (simp [hit, hpos]; omega) | (simp [hit, hpos]; exact hE)
        rotate_left
        · simp only [Act.put, List.setIfInBounds_toArray, List.set_cons_zero, List.set_cons_succ]
          rfl
        refine pure_ (i := 3) (N := some 17) (v := ?_) (a' := ?_) #[true, true, true, true, false, false, false, false, false, false] rfl rfl (by kernel_rfl) (fun _ _ _ h => h) (Or.inl ⟨by rfl, ?_⟩) ?_ ?_
        rotate_left
        · intro w'
          go_simp
          with_reducible rfl
        rotate_left
        · simp only [Act.put, List.setIfInBounds_toArray, List.set_cons_zero, List.set_cons_succ]
          rfl
        refine pure_ (i := 4) (N := some 18) (v := ?_) (a' := ?_) #[true, true, true, true, true, false, false, false, false, false] rfl rfl (by kernel_rfl) (fun _ _ _ h => h) (Or.inl ⟨by rfl, ?_⟩) ?_ ?_
        rotate_left
        · intro w'
          go_simp
          with_reducible rfl
        rotate_left
        · simp only [Act.put, List.setIfInBounds_toArray, List.set_cons_zero, List.set_cons_succ]
          rfl
        refine pure_ (i := 5) (N := some 19) (v := ?_) (a' := ?_) #[true, true, true, true, true, true, false, false, false, false] rfl rfl (by kernel_rfl) (fun _ _ _ h => h) (Or.inl ⟨by rfl, ?_⟩) ?_ ?_
        rotate_left
        · intro w'
          go_simp
          with_reducible rfl
        rotate_left
        · simp only [Act.put, List.setIfInBounds_toArray, List.set_cons_zero, List.set_cons_succ]
          rfl
        refine take_ (i := 6) (N := some 20) (v := ?_) (a' := ?_) #[true, true, true, true, true, true, true, false, false, false] rfl rfl (by kernel_rfl) (fun _ _ _ h => h) (Or.inl ⟨by rfl, ?_⟩) hHeld ?_ ?_
        rotate_left
        · rintro w' ⟨s0, s1⟩
          go_simp
          with_reducible rfl
        rotate_left
        · simp only [Act.put, List.setIfInBounds_toArray, List.set_cons_zero, List.set_cons_succ]
          rfl
        refine take_ (i := 7) (N := some 21) (v := ?_) (a' := ?_) #[true, true, true, true, true, true, true, true, false, false] rfl rfl (by kernel_rfl) (fun _ _ _ h => h) (Or.inl ⟨by rfl, ?_⟩) hHeld ?_ ?_
        rotate_left
        · rintro w' ⟨s0, s1⟩
          go_simp
          with_reducible rfl
        rotate_left
        · simp only [Act.put, List.setIfInBounds_toArray, List.set_cons_zero, List.set_cons_succ]
          rfl
        refine pure_ (i := 8) (N := some 22) (v := .bool false) (a' := ?_) #[true, true, true, true, true, true, true, true, true, false] rfl rfl (by kernel_rfl) (fun _ _ _ h => h) (Or.inl ⟨by rfl, ?_⟩) ?_ ?_
        · intro w'
          go_simp
          all_goals first | with_reducible rfl | (simp [hit, hpos]; done) | (simp [hit, hpos]; omega) | (simp [hit, hpos]; exact hE)
        rotate_left
        · simp only [Act.put, List.setIfInBounds_toArray, List.set_cons_zero, List.set_cons_succ]
          rfl
        refine pure_ (i := 9) (N := some 23) (v := ?_) (a' := ?_) #[true, true, true, true, true, true, true, true, true, true] rfl rfl (by kernel_rfl) (fun _ _ _ h => h) (Or.inl ⟨by rfl, ?_⟩) ?_ ?_
        rotate_left
        · intro w'
          go_simp
          with_reducible rfl
        rotate_left
        · simp only [Act.put, List.setIfInBounds_toArray, List.set_cons_zero, List.set_cons_succ]
          rfl

        refine done_ (by kernel_rfl) ?_
        refine hKc _ _ ?_
        gi_wp2
        exact ⟨keepsFrom_below hb4, KeepB.below hb4 (by omega), ⟨⟨boxed_below hr0 hb4, boxed_below hr1 hb4⟩, boxed_below hr2 hb4, hb.trans (hb4.mono hb.size)⟩, hmiss⟩
      · have hhit : (pre ++ [x]).find? (dirHit name) = some x := by
          rw [List.find?_append, hnone]
          simp [dirHit, hws, hit]
        have hE : y.toList = name.toList := of_decide_eq_true hit
        refine pure_ (i := 0) (N := some 14) (v := ?_) (a' := ?_) #[true, false, false, false, false, false, false, false, false, false] rfl rfl (by kernel_rfl) (fun _ _ _ h => h) (Or.inl ⟨by rfl, ?_⟩) ?_ ?_
        rotate_left
        · intro w'
          go_simp
          with_reducible rfl
        rotate_left
        · simp only [Act.put, List.setIfInBounds_toArray, List.set_cons_zero, List.set_cons_succ]
          rfl
        refine pure_ (i := 1) (N := some 15) (v := ?_) (a' := ?_) #[true, true, false, false, false, false, false, false, false, false] rfl rfl (by kernel_rfl) (fun _ _ _ h => h) (Or.inl ⟨by rfl, ?_⟩) ?_ ?_
        rotate_left
        · intro w'
          go_simp
          with_reducible rfl
        rotate_left
        · simp only [Act.put, List.setIfInBounds_toArray, List.set_cons_zero, List.set_cons_succ]
          rfl
        refine pure_ (i := 2) (N := some 16) (v := .bool true) (a' := ?_) #[true, true, true, false, false, false, false, false, false, false] rfl rfl (by kernel_rfl) (fun _ _ _ h => h) (Or.inl ⟨by rfl, ?_⟩) ?_ ?_
        · intro w'
          go_simp
          all_goals first | with_reducible rfl | (simp [hit, hpos]; done) | (simp [hit, hpos]; omega) | (simp [hit, hpos]; exact hE)
        rotate_left
        · simp only [Act.put, List.setIfInBounds_toArray, List.set_cons_zero, List.set_cons_succ]
          rfl
        refine pure_ (i := 3) (N := some 17) (v := ?_) (a' := ?_) #[true, true, true, true, false, false, false, false, false, false] rfl rfl (by kernel_rfl) (fun _ _ _ h => h) (Or.inl ⟨by rfl, ?_⟩) ?_ ?_
        rotate_left
        · intro w'
          go_simp
          with_reducible rfl
        rotate_left
        · simp only [Act.put, List.setIfInBounds_toArray, List.set_cons_zero, List.set_cons_succ]
          rfl
        refine pure_ (i := 4) (N := some 18) (v := ?_) (a' := ?_) #[true, true, true, true, true, false, false, false, false, false] rfl rfl (by kernel_rfl) (fun _ _ _ h => h) (Or.inl ⟨by rfl, ?_⟩) ?_ ?_
        rotate_left
        · intro w'
          go_simp
          with_reducible rfl
        rotate_left
        · simp only [Act.put, List.setIfInBounds_toArray, List.set_cons_zero, List.set_cons_succ]
          rfl
        refine pure_ (i := 5) (N := some 19) (v := ?_) (a' := ?_) #[true, true, true, true, true, true, false, false, false, false] rfl rfl (by kernel_rfl) (fun _ _ _ h => h) (Or.inl ⟨by rfl, ?_⟩) ?_ ?_
        rotate_left
        · intro w'
          go_simp
          with_reducible rfl
        rotate_left
        · simp only [Act.put, List.setIfInBounds_toArray, List.set_cons_zero, List.set_cons_succ]
          rfl
        refine take_ (i := 6) (N := some 20) (v := ?_) (a' := ?_) #[true, true, true, true, true, true, true, false, false, false] rfl rfl (by kernel_rfl) (fun _ _ _ h => h) (Or.inl ⟨by rfl, ?_⟩) hHeld ?_ ?_
        rotate_left
        · rintro w' ⟨s0, s1⟩
          go_simp
          with_reducible rfl
        rotate_left
        · simp only [Act.put, List.setIfInBounds_toArray, List.set_cons_zero, List.set_cons_succ]
          rfl
        refine take_ (i := 7) (N := some 21) (v := ?_) (a' := ?_) #[true, true, true, true, true, true, true, true, false, false] rfl rfl (by kernel_rfl) (fun _ _ _ h => h) (Or.inl ⟨by rfl, ?_⟩) hHeld ?_ ?_
        rotate_left
        · rintro w' ⟨s0, s1⟩
          go_simp
          with_reducible rfl
        rotate_left
        · simp only [Act.put, List.setIfInBounds_toArray, List.set_cons_zero, List.set_cons_succ]
          rfl
        refine pure_ (i := 8) (N := some 22) (v := .bool true) (a' := ?_) #[true, true, true, true, true, true, true, true, true, false] rfl rfl (by kernel_rfl) (fun _ _ _ h => h) (Or.inl ⟨by rfl, ?_⟩) ?_ ?_
        · intro w'
          go_simp
          all_goals first | with_reducible rfl | (simp [hit, hpos]; done) | (simp [hit, hpos]; omega) | (simp [hit, hpos]; exact hE)
        rotate_left
        · simp only [Act.put, List.setIfInBounds_toArray, List.set_cons_zero, List.set_cons_succ]
          rfl
        refine pure_ (i := 9) (N := some 23) (v := ?_) (a' := ?_) #[true, true, true, true, true, true, true, true, true, true] rfl rfl (by kernel_rfl) (fun _ _ _ h => h) (Or.inl ⟨by rfl, ?_⟩) ?_ ?_
        rotate_left
        · intro w'
          go_simp
          with_reducible rfl
        rotate_left
        · simp only [Act.put, List.setIfInBounds_toArray, List.set_cons_zero, List.set_cons_succ]
          rfl

        refine done_ (by kernel_rfl) ?_
        refine hKc _ _ ?_
        have g1 := boxed_below hr1 hb4
        have g2 := boxed_below hr2 hb4
        have hAw : w.heap.size + 6 ≤ A := by omega
        have hcell5 : ∀ u, ((w4.setCell ⟨w.heap.size + 1, 0, none⟩ u).setCell ⟨w.heap.size + 2, 0, none⟩ (.bool true)).heap[A]? = some (.cells ((y :: ws).map Value.string).toArray 9 (0, 0)) := fun u =>
          (Below.heap_setCell _ ⟨w.heap.size + 2, 0, none⟩ (.bool true) A (by simp; omega)).trans ((Below.heap_setCell w4 ⟨w.heap.size + 1, 0, none⟩ u A (by simp; omega)).trans hcell4)
        have c1 := g1.cell
        have c2 := g2.cell
        have q1 := g1.frozen
        have q2 := g2.frozen
        have hset : ∀ u, KeepsOthers w4 ((w4.setCell ⟨w.heap.size + 1, 0, none⟩ u).setCell ⟨w.heap.size + 2, 0, none⟩ (.bool true)) := fun u => (KeepsOthers.setCell w4 ⟨w.heap.size + 1, 0, none⟩ u).trans (KeepsOthers.setCell _ ⟨w.heap.size + 2, 0, none⟩ (.bool true))
        have h1 : ∀ u, Boxed ((w4.setCell ⟨w.heap.size + 1, 0, none⟩ u).setCell ⟨w.heap.size + 2, 0, none⟩ (.bool true)) (w.heap.size + 1) 22 u := fun u => (g1.set u).kept (grownBy_setCell' _ (w.heap.size + 2) (.bool true)) (by simp)
        have h2 : ∀ u, Boxed ((w4.setCell ⟨w.heap.size + 1, 0, none⟩ u).setCell ⟨w.heap.size + 2, 0, none⟩ (.bool true)) (w.heap.size + 2) 4 (.bool true) := fun u => (g2.kept (grownBy_setCell' w4 (w.heap.size + 1) u) (by simp)).set (.bool true)
        have hb5 : ∀ u, Below w.heap.size w ((w4.setCell ⟨w.heap.size + 1, 0, none⟩ u).setCell ⟨w.heap.size + 2, 0, none⟩ (.bool true)) := fun u => ((hb.trans (hb4.mono hb.size)).setCell (p := ⟨w.heap.size + 1, 0, none⟩) (by simp) u).setCell (p := ⟨w.heap.size + 2, 0, none⟩) (by simp) (.bool true)
        cases ws with
        | nil =>
          have e : tailV A (wordsB x).length = .slice (some ⟨A, 0, none⟩) 0 0 := by rw [hws]; rfl
          gi_wp2
          refine ⟨(keepsFrom_below hb4).trans ((hset _).from _), A, x, ⟨⟨?_, h2 _⟩, ?_, hb5 _⟩, rfl, hAw, hhit⟩
          · rw [e]; exact h1 _
          · rw [hws]; exact hcell5 _
        | cons z zs =>
          have e : tailV A (wordsB x).length = .slice (some ⟨A, 1, none⟩) (zs.length + 1) (zs.length + 1) := by rw [hws]; rfl
          gi_wp2
          refine ⟨(keepsFrom_below hb4).trans ((hset _).from _), A, x, ⟨⟨?_, h2 _⟩, ?_, hb5 _⟩, rfl, hAw, hhit⟩
          · rw [e]; exact h1 _
          · rw [hws]; exact hcell5 _
  case done =>
    rintro D W hD ⟨⟨⟨hr0, hr1⟩, hr2, hb⟩, hnone⟩ hK
    have e1 := hr1.cell
    have e2 := hr2.cell
    have q1 := hr1.frozen
    have q2 := hr2.frozen
    gi_wp2
    have h1 := (hr1.set (.slice none 0 0)).kept (grownBy_setCell' _ (w.heap.size + 2) (.bool false)) (by simp)
    have h2 := (hr2.kept (grownBy_setCell' W (w.heap.size + 1) (.slice none 0 0)) (by simp)).set (.bool false)
    have hK2 := ((KeepsOthers.setCell W ⟨w.heap.size + 1, 0, none⟩ (.slice none 0 0)).trans (KeepsOthers.setCell _ ⟨w.heap.size + 2, 0, none⟩ (.bool false))).same D _ hK rfl
    have hb2 := (hb.setCell (p := ⟨w.heap.size + 1, 0, none⟩) (by simp) (.slice none 0 0)).setCell (p := ⟨w.heap.size + 2, 0, none⟩) (by simp) (.bool false)
    refine ⟨by simp, .inl ⟨_, _, rfl, run_takeDeferred hK2, ?_⟩⟩
    have hc5 := cell_kept h1.cell (grownBy_putObj' _ D (.deferred none)) (fun r e => by cases e; exact ⟨_, hK2, rfl⟩)
    have hc6 := cell_kept h2.cell (grownBy_putObj' _ D (.deferred none)) (fun r e => by cases e; exact ⟨_, hK2, rfl⟩)
    refine ⟨.tuple #[.slice none 0 0, .bool false], ?_, hb2.trans (belowK_b (w := w) (Nat.le_refl _) _ D _ _ (by omega) hK2 rfl rfl), .inl ⟨hnone, rfl⟩⟩
    simp [results, Tryz.f123, go_sem, hc5, hc6]
  case stop =>
    rintro D c pre W hD hpre ⟨A, x, ⟨⟨hr1, hr2⟩, hc, hb⟩, rfl, hA, hf⟩ hK
    have hall : (pieces 59 s).find? (dirHit name) = some x := by
      obtain ⟨r, hr⟩ := hpre
      rw [← hr, List.find?_append, hf]
      rfl
    have e1 := hr1.cell
    have e2 := hr2.cell
    gi_wp2
    refine ⟨by simp, .inl ⟨_, _, rfl, run_takeDeferred hK, ?_⟩⟩
    have hc5 := cell_kept e1 (grownBy_putObj' _ D (.deferred none)) (fun r e => by cases e; exact ⟨_, hK, rfl⟩)
    have hc6 := cell_kept e2 (grownBy_putObj' _ D (.deferred none)) (fun r e => by cases e; exact ⟨_, hK, rfl⟩)
    refine ⟨.tuple #[tailV A (wordsB x).length, .bool true], ?_, hb.trans (belowK_b (w := w) (Nat.le_refl _) _ D _ _ (by omega) hK rfl rfl), .inr ⟨A, x, hall, by omega, rfl, ?_⟩⟩
    · simp [results, Tryz.f123, go_sem, hc5, hc6]
    · exact boxBlock_kept (bs := D) (B := D + 1) (grownBy_putObj' _ D (.deferred none)) (fun r e => by cases e; exact .inl rfl) hc rfl (by rintro rfl; rw [hK] at hc; cases hc)
end Go.Proofs.YtonlcjnceooogaaGreatDoor
end
section
/- Chapter 6, by the quick engine: csp.directive as a native. -/
set_option autoImplicit false
set_option linter.unusedSimpArgs false
set_option linter.unusedVariables false
namespace Go.Proofs.YtonlcjnceooogaaGreatDoor
open Go Go.RowKit Go.Proofs.YtonlcjnceooogaaGreatDoor.Abs

noncomputable def natDir : Native := fun args h =>
  match args with
  | [.string s, .string name] => .br (Nat.ble s.size 4294967296) (match (pieces 59 s).find? (dirHit name) with
    | none => .ret (.ret (.tuple #[.slice none 0 0, .bool false]), h)
    | some x => .ret (.ret (.tuple #[.slice (some ⟨h.n, (match lenL (wordsB x) with | 1 => 0 | _ => 1), none⟩) (lenL (wordsB x) - 1) 0, .bool true]), ⟨h.t.set h.n (some (.cells ((wordsB x).map Value.string) 9 true)), h.n + 1⟩)) .none
  | _ => .none
theorem dirHit_pos {name x : ByteArray} (h : dirHit name x = true) : 1 ≤ (wordsB x).length := by
  unfold dirHit at h
  split at h
  · rename_i y ws e
    rw [e, List.length_cons]
    omega
  · cases h
theorem natDir_ok {base : Nat} {w0 : Abs.Start} : NatOk Tryz.prog base w0 123 natDir := by
  intro args h r h' hg
  unfold natDir at hg
  split at hg
  rotate_left
  · cases hg
  rename_i s name
  obtain ⟨h1, hg⟩ := br_run hg
  have h1 := Nat.le_of_ble_eq_true h1
  split at hg
  · rename_i hf
    cases hg
    refine ⟨Nat.le_refl _, fun ι w args' hI hr hgl hfr => ?_⟩
    match args', hr with
    | [x', y'], ⟨hx, hy, _⟩ =>
    cases hx
    cases hy
    refine (Directive_calls s name h1 w).mono fun e w' hq => ?_
    obtain ⟨hb, ⟨_, rfl⟩ | ⟨A, x, hf2, _⟩⟩ := hq
    · exact ⟨ι, Turn.refl _ _ _, hI.still hb, _, rfl, two .nilSlice (.bool false)⟩
    · rw [hf] at hf2; cases hf2
  · rename_i x hf
    cases hg
    refine ⟨Nat.le_succ _, fun ι w args' hI hr hgl hfr => ?_⟩
    match args', hr with
    | [x', y'], ⟨hx, hy, _⟩ =>
    cases hx
    cases hy
    refine (Directive_calls s name h1 w).mono fun e w' hq => ?_
    obtain ⟨hb, ⟨hf2, _⟩ | ⟨A, x2, hf2, hA, rfl, hcell⟩⟩ := hq
    · rw [hf] at hf2; cases hf2
    · rw [hf] at hf2
      cases hf2
      have hpos := dirHit_pos (List.find?_some hf)
      have hI' := hI.still hb
      have hm := hfr h.n (Nat.le_refl _)
      have hAlt : A < w'.heap.size := (Array.getElem?_eq_some_iff.1 hcell).1
      have hnew := hI'.learn (m := h.n) hm hgl (.cells ((wordsB x).map Value.string) 9 true) ⟨A, 0, (wordsB x).length, 1⟩ (fun id j hj e => by
        have := hI.lt id j hj
        simp only at e
        omega) hAlt ⟨_, (0, 0), hcell, by simp, by simp, fun j c hj => ⟨c, by simpa using hj, VRel.of_flat (by
          obtain ⟨y, hy, rfl⟩ := List.mem_map.1 (List.mem_of_getElem? hj)
          rfl)⟩, by kernel_rfl, fun _ => ⟨by
          have := hI.below.size
          have := hI.base_le
          simp only
          omega, fun o _ x => by simp at x⟩⟩
      refine ⟨fupd ι h.n (some ⟨A, 0, (wordsB x).length, 1⟩), by rw [Tr.get_set_fun]; exact Turn.new hm _ _, by rw [Tr.get_set_fun]; exact hnew, _, rfl, two ?_ (.bool true)⟩
      rw [lenL_eq]
      unfold tailV
      obtain ⟨n, hn⟩ : ∃ n, (wordsB x).length = n + 1 := ⟨(wordsB x).length - 1, by omega⟩
      rw [hn]
      cases n with
      | zero => exact .slice h.n 0 0 0 0 ⟨A, 0, 0 + 1, 1⟩ ⟨A, 0, none⟩ (fupd_eq _ _ _) (Nat.le_refl _) (.inl rfl) (.inr ⟨rfl, rfl⟩)
      | succ n => exact .slice h.n 1 (n + 1) 0 (n + 1) ⟨A, 0, n + 1 + 1, 1⟩ ⟨A, 1, none⟩ (fupd_eq _ _ _) (Nat.le_refl _) (.inl rfl) (.inl ⟨rfl, by simp; omega⟩)
end Go.Proofs.YtonlcjnceooogaaGreatDoor
end
