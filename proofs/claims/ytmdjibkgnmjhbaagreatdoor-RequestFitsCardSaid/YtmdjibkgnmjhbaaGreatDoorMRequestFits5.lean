/- RequestFits: part 5 of its proof: KnownA, KnownB, KnownC, KnownD, ItemsQ, Items, Tabs, WfNat, LowAll. -/
import Derived.Test.YtmdjibkgnmjhbaaGreatDoorMRequestFits4
import Derived.KernelRfl
import Derived.Recover
import Derived.Shelf.Abstract
import Derived.Test.YtmdjibkgnmjhbaaGreatDoorMRequestFits3
import Derived.WideKeyElems2
import Derived.Test.YtmdjibkgnmjhbaaGreatDoorMRequestFits0
import Derived.Test.YtmdjibkgnmjhbaaGreatDoorMRequestFits1
import Derived.Test.YtmdjibkgnmjhbaaGreatDoorMRequestFits2
section
/- wf.known: the region that puts an entry into the map. -/
set_option autoImplicit false
set_option linter.unusedSimpArgs false
set_option linter.unusedVariables false
namespace Go.Proofs.YtmdjibkgnmjhbaaGreatDoor
open Go Go.RowKit Go.Proofs.YtmdjibkgnmjhbaaGreatDoor.Abs

/-- The region in which the entry is put into the map. -/
theorem k20_ok {X : KX} (hX : KFix X) {ι : Nat → Option Abs.Loc} {M : Nat} {seen : Array Nat} {a : Act} {w : World} {e : MapEntry} {v : Value} {Q : Exit → Act → World → Prop} (h : KCore X ι M (seen.push e.born) a w) (ht : KTab X seen w) (he : e ∈ X.es.toList) (hns : seen.contains e.born = false) (ho : X.out e = some v) (hfv : flat v = true)
    (hk : a.eval (.tmp 10) = e.key) (hl : ∀ w', Below w.heap.size w w' → (Instr.loadAt 104 (a.eval (.tmp 15))).run kP w' = .ok v w')
    (hQ : ∀ a' w', KCore X ι M (seen.push e.born) a' w' → KTab X (seen.push e.born) w' → Q .normal a' w') : (Code.region 20 kOps20 true).wp kP Q a w := by
  obtain ⟨ces, cc, hc1, hc2, hc3⟩ := ht
  obtain ⟨s, kk, z, hes, hez⟩ := hX.keys e he
  obtain ⟨iC, hiC, hiCb⟩ := hX.iC
  have hcl : X.cid < X.h.n := by
    apply Classical.byContradiction
    intro hn
    rw [hX.fresh _ (by omega)] at hiC
    cases hiC
  have hiC' : ι X.cid = some iC := (h.low _ hcl).trans hiC
  refine region_plan 6 false kmix (chkR_mono k20c h.size) fun W hW => ?_
  have hBW : ∀ w', Below W.heap.size W w' → Below w.heap.size w w' := fun w' hb => by
    subst hW
    exact ((Below.refl w.heap.size w).drew).trans hb
  obtain ⟨q3, hq3⟩ : ∃ q3, a.eval (.tmp 3) = q3 := ⟨_, rfl⟩
  have hr3 : VRel ι X.nv q3 := by rw [← hq3]; exact h.s3
  obtain ⟨ad, had⟩ : ∃ ad, q3 = .pointer (some ad) := by cases hr3 with | ptr id off i hi => exact ⟨_, rfl⟩
  obtain ⟨qf, hqf1, hqf2⟩ : ∃ qf, (∀ w', (Instr.fieldAt 80 q3 3).run kP w' = .ok qf w') ∧ VRel ι X.pC qf := by
    obtain ⟨u, hu, hur⟩ := afieldAddr_ok hr3 hX.fa w
    refine ⟨u, fun w' => ?_, hur⟩
    obtain ⟨u', hu', hur'⟩ := afieldAddr_ok hr3 hX.fa w'
    rw [hu']
    rw [ptr_uniq (aload_ptr hX.ld) hur' hur]
  have hld : ∀ w', Below w.heap.size w w' → (Instr.loadAt 78 qf).run kP w' = .ok (.map (some X.bC)) w' := fun w' hb => by
    have hro := (h.inv.still hb).ro
    rw [← kHro_get] at hro
    obtain ⟨u, hu, hur⟩ := aload_ok hro hqf2 hX.ld
    rw [hu]
    cases hur with
    | map id i hi => rw [hiC'] at hi; cases hi; rw [hiCb]
  obtain ⟨o0, ho0, hd0, hp0, hg0⟩ := opG_at (show opG kOps20 0 = some (some 121, .move (.tmp 3), none) by kernel_rfl)
  obtain ⟨o1, ho1, hd1, hp1, hg1⟩ := opG_at (show opG kOps20 1 = some (some 122, .nilCheck (.tmp 121), none) by kernel_rfl)
  obtain ⟨o2, ho2, hd2, hp2, hg2⟩ := opG_at (show opG kOps20 2 = some (some 123, .fieldAddr 80 (.tmp 122) 3, none) by kernel_rfl)
  obtain ⟨o3, ho3, hd3, hp3, hg3⟩ := opG_at (show opG kOps20 3 = some (some 124, .load 78 (.tmp 123), none) by kernel_rfl)
  obtain ⟨o4, ho4, hd4, hp4, hg4⟩ := opG_at (show opG kOps20 4 = some (some 125, .move (.tmp 10), none) by kernel_rfl)
  obtain ⟨o5, ho5, hd5, hp5, hg5⟩ := opG_at (show opG kOps20 5 = some (some 126, .load 104 (.tmp 15), none) by kernel_rfl)
  obtain ⟨o6, ho6, hd6, hp6, hg6⟩ := opG_at (show opG kOps20 6 = some (none, .mapUpdate 78 (.tmp 124) (.tmp 125) (.tmp 126), none) by kernel_rfl)
  have wtd : ∀ {o : Oper} (hg : o.guard = none) (a : Act), Region.wanted o (yielded kOps20 a.tmps) = true := fun hg a => by simp only [Region.wanted, hg]
  have sz1 : ∀ {a : Act} {d : Option Tmp} {v : Value}, 128 ≤ a.tmps.size → 128 ≤ (a.put d v).tmps.size := fun h => by rw [put_size]; exact h
  have z0 := h.size
  have z1 := sz1 (d := some 121) (v := q3) z0
  have z2 := sz1 (d := some 122) (v := q3) z1
  have z3 := sz1 (d := some 123) (v := qf) z2
  have z4 := sz1 (d := some 124) (v := .map (some X.bC)) z3
  have z5 := sz1 (d := some 125) (v := e.key) z4
  have z6 := sz1 (d := some 126) (v := v) z5
  refine plan_fix (N := some 121) (v := q3) (a' := fun _ => a.put (some 121) q3) ho0 hd0 (fun u w' hB hvr => step_val (wtd hg0 _) (by rw [exec_move hp0, hq3]) ⟨rfl, Below.refl _ _⟩) (fun _ => rfl) ?_
  refine plan_fix (N := some 122) (v := q3) (a' := fun _ => (a.put (some 121) q3).put (some 122) q3) ho1 hd1 (fun u w' hB hvr => step_val (wtd hg1 _) (by rw [exec_nil hp1 (ad := ad) (by rw [eval_put_same (by omega)]; exact had), had]) ⟨rfl, Below.refl _ _⟩) (fun _ => rfl) ?_
  refine plan_fix (N := some 123) (v := qf) (a' := fun _ => ((a.put (some 121) q3).put (some 122) q3).put (some 123) qf) ho2 hd2 (fun u w' hB hvr => step_val (wtd hg2 _) (exec_fa hp2 (by rw [eval_put_same (by omega)]; exact hqf1 _)) ⟨rfl, Below.refl _ _⟩) (fun _ => rfl) ?_
  refine plan_fix (N := some 124) (v := .map (some X.bC)) (a' := fun _ => (((a.put (some 121) q3).put (some 122) q3).put (some 123) qf).put (some 124) (.map (some X.bC))) ho3 hd3 (fun u w' hB hvr => step_val (wtd hg3 _) (exec_load hp3 (by rw [eval_put_same (by omega)]; exact hld _ (hBW _ hB))) ⟨rfl, Below.refl _ _⟩) (fun _ => rfl) ?_
  refine plan_fix (N := some 125) (v := e.key) (a' := fun _ => ((((a.put (some 121) q3).put (some 122) q3).put (some 123) qf).put (some 124) (.map (some X.bC))).put (some 125) e.key) ho4 hd4 (fun u w' hB hvr => step_val (wtd hg4 _) (by
    rw [exec_move hp4, eval_put_ne (by decide), eval_put_ne (by decide), eval_put_ne (by decide), eval_put_ne (by decide), hk]) ⟨rfl, Below.refl _ _⟩) (fun _ => rfl) ?_
  refine plan_fix (N := some 126) (v := v) (a' := fun _ => (((((a.put (some 121) q3).put (some 122) q3).put (some 123) qf).put (some 124) (.map (some X.bC))).put (some 125) e.key).put (some 126) v) ho5 hd5 (fun u w' hB hvr => step_val (wtd hg5 _) (exec_load hp5 (by
    rw [eval_put_ne (by decide), eval_put_ne (by decide), eval_put_ne (by decide), eval_put_ne (by decide), eval_put_ne (by decide)]; exact hl _ (hBW _ hB))) ⟨rfl, Below.refl _ _⟩) (fun _ => rfl) ?_
  refine plan_rest #[true, true, true, true, true, true, false] rfl (n := 1) (by rw [k20s]) k20l fun u w' hB _ => ?_
  have hB := hBW _ hB
  refine ⟨fun e => (by rw [k20r] at e; cases e), fun i hi => ?_⟩
  rw [k20r] at hi
  obtain rfl : i = 6 := by simpa using hi
  have hcw : w'.heap[X.bC]? = some (.map ces cc) := (hB.block _ (lt_of_at hc1)).trans hc1
  have hup : (Instr.mapUpdate 78 (.map (some X.bC)) e.key v).run kP w' = .ok () (ChangeMaps.setBlock w' X.bC (.map (ces.push { key := e.key, val := v, born := cc }) (cc + 1))) := by
    obtain ⟨_, hck⟩ := keyOk_ok (ι := ι) (k := e.key) (k' := e.key) (kd := .string) (empty := false) kuS (by rw [hes]; exact .string s) (by rw [hes]; rfl) w'
    have hfk : (Instr.findKey 9 e.key ces.toList).run kP w' = .ok none w' := by
      rcases MapKept.findNow_spec (d := .string) (k := e.key) (by rw [hes]; trivial) ces.toList 0 (fun x hx => by
        obtain ⟨y, hy, _, hyk, _⟩ := hc2 x hx
        obtain ⟨s', _, _, hs', _⟩ := hX.keys y hy
        rw [← hyk, hs']
        trivial) with ⟨h1, h2⟩ | ⟨j, e0, h1, h2, h3⟩
      · exact MapKept.run_findKey kuS h1
      · obtain ⟨y, hy, hys, hyk, _⟩ := hc2 e0 (List.mem_of_getElem? h2)
        obtain rfl := hX.kdist y hy e he (hyk.trans h3)
        rw [hys] at hns
        cases hns
    simp only [Instr.mapUpdate, Sem.run_bind, run_underlying kuM, Result.andThen_ok, run_getObj hcw, hck, hfk]
    exact run_setObj hcw _
  unfold wpOp
  rw [ho6]
  dsimp only
  rw [if_pos (wtd hg6 _)]
  refine .inl ?_
  unfold Oper.wp
  have e3 : ((((((a.put (some 121) q3).put (some 122) q3).put (some 123) qf).put (some 124) (.map (some X.bC))).put (some 125) e.key).put (some 126) v).eval (.tmp 126) = v := eval_put_same (by omega)
  have e2 : ((((((a.put (some 121) q3).put (some 122) q3).put (some 123) qf).put (some 124) (.map (some X.bC))).put (some 125) e.key).put (some 126) v).eval (.tmp 125) = e.key := by
    rw [eval_put_ne (by decide), eval_put_same (by omega)]
  have e1 : ((((((a.put (some 121) q3).put (some 122) q3).put (some 123) qf).put (some 124) (.map (some X.bC))).put (some 125) e.key).put (some 126) v).eval (.tmp 124) = .map (some X.bC) := by
    rw [eval_put_ne (by decide), eval_put_ne (by decide), eval_put_same (by omega)]
  rw [exec_upd hp6 (by rw [e1, e2, e3]; exact hup)]
  rw [Oper.upon_skip, hd6]
  refine ⟨k20e, ?_⟩
  have hcore : KCore X ι M (seen.push e.born) a (ChangeMaps.setBlock w' X.bC (.map (ces.push { key := e.key, val := v, born := cc }) (cc + 1))) := by
    obtain ⟨c0, i1, i2⟩ := h.iter
    exact { h with
      inv := inv_outside (h.inv.still hB) (below_set hX.baseC) fun id i o h1 h2 => set_ne (hX.apart id i o (by rw [← h.low id (KX.H_low h2)]; exact h1) h2)
      iter := ⟨c0, i1, by rw [set_ne (by have := hX.ltC; omega)]; exact (hB.block _ (lt_of_at i2)).trans i2⟩
      mapF := by rw [set_ne hX.neF]; exact (hB.block _ (lt_of_at h.mapF)).trans h.mapF }
  have hvk : VRel ι e.key e.key := by rw [hes]; exact .string s
  have hvm : VRel ι (.map (some X.cid)) (.map (some X.bC)) := by rw [← hiCb]; exact .map X.cid iC hiC'
  have c1 := hcore.put (d := 121) (by decide) (by decide) (by decide) hr3
  have c2 := c1.put (d := 122) (by decide) (by decide) (by decide) hr3
  have c3 := c2.put (d := 123) (by decide) (by decide) (by decide) hqf2
  have c4 := c3.put (d := 124) (by decide) (by decide) (by decide) hvm
  have c5 := c4.put (d := 125) (by decide) (by decide) (by decide) hvk
  have c6 := c5.put (d := 126) (by decide) (by decide) (by decide) (VRel.of_flat hfv)
  have hk2 := KTab.add hX he ho hc2 hc3 (set_at (lt_of_at hcw)) (w' := ChangeMaps.setBlock w' X.bC (.map (ces.push { key := e.key, val := v, born := cc }) (cc + 1)))
  have h9 := hQ _ _ c6 hk2
  simp only [Act.put] at h9 ⊢
  exact h9
end Go.Proofs.YtmdjibkgnmjhbaaGreatDoor
end
section
/- wf.known: the loop. -/
set_option autoImplicit false
set_option linter.unusedSimpArgs false
set_option linter.unusedVariables false
namespace Go.Proofs.YtmdjibkgnmjhbaaGreatDoor
open Go Go.RowKit Go.Proofs.YtmdjibkgnmjhbaaGreatDoor.Abs

theorem noNG_k : noNG kP = true := by kernel_rfl
theorem known_loop {X : KX} (hX : KFix X) (hG : ∀ w ι, Below X.base X.w0.w w → GivenOk kP w.heap.size ⟨w, ι⟩ X.G) {Q : Exit → Act → World → Prop} (hQ : ∀ ι M seen a w, KCore X ι M seen a w → KTab X seen w → (leftOf X.es seen).size = 0 → Q (.exit 2) a w) :
    ∀ (n : Nat) (ι : Nat → Option Abs.Loc) (M : Nat) (seen : Array Nat) (a : Act) (w : World), (leftOf X.es seen).size = n → M + 512 * n ≤ 1 + 512 * X.es.size → KCore X ι M seen a w → KTab X seen w → LoopFrom kP kL Q a w := by
  intro n
  induction n using Nat.strongRecOn with
  | ind n ih =>
  intro ι M seen a w hn hroom hc ht
  obtain ⟨o0, ho0, hd0, hp0, hg0⟩ := opG_at (show opG kOps13 0 = some (some 84, .next (.tmp 83) false, none) by kernel_rfl)
  obtain ⟨o1, ho1, hd1, hp1, hg1⟩ := opG_at (show opG kOps13 1 = some (some 85, .extract (.tmp 84) 0, none) by kernel_rfl)
  have sz : ∀ {a : Act} {d : Option Tmp} {v : Value}, 128 ≤ a.tmps.size → 128 ≤ (a.put d v).tmps.size := fun h => by rw [put_size]; exact h
  refine LoopFrom.round ?_
  show (Code.seq (.region 13 kOps13 false) kTail).wp kP _ a w
  refine wp_seq ?_
  refine wp_regionO k13s fun ops hops => ?_
  rw [← hops] at ho0 ho1
  rw [show List.range 2 = [0, 1] from rfl]
  obtain ⟨c0, hc0, hit⟩ := hc.iter
  rcases run_next_at w o0.type X.r X.bF X.clock c0 seen X.es X.clock hit hc.mapF hX.old hc0 with ⟨h0, hrun⟩ | ⟨e, he, w1, hw1, hrun⟩
  · have z1 := sz (d := some 84) (v := .tuple #[.bool false]) hc.size
    refine wpOps_step ho0 hg0 (exec_next hp0 (by rw [show a.eval (.tmp 83) = _ from hc.it]; exact hrun)) ?_
    rw [hd0]
    refine wpOps_step ho1 hg1 (exec_ext hp1 (v := .bool false) (by rw [eval_put_same (by have := hc.size; omega)]; exact run_extract rfl)) ?_
    rw [hd1]
    show (kTail).wp kP _ _ w
    unfold kTail
    refine wp_seq (wp_cond_false (eval_put_same (by omega)) (wp_exit ?_))
    refine hQ ι M seen _ _ ((hc.put (by decide) (by decide) (by decide) (VRel.of_flat (v := .tuple #[.bool false]) rfl)).put (by decide) (by decide) (by decide) (VRel.bool false)) ht h0
  · obtain ⟨hem, hns⟩ := mem_left he
    obtain ⟨s, kk, z, hes, hez⟩ := hX.keys e hem
    obtain ⟨hc2, ht2⟩ := hc.next hX hw1 e.born
    have ht2 := ht2 ht
    generalize hw2 : ChangeMaps.setBlock w1 X.r (.mapIter (some X.bF) X.clock (seen.push e.born) X.clock) = w2 at hrun hc2 ht2
    have z1 := sz (d := some 84) (v := .tuple #[.bool true, e.key, e.val]) hc.size
    refine wpOps_step ho0 hg0 (exec_next hp0 (by rw [show a.eval (.tmp 83) = _ from hc.it]; exact hrun)) ?_
    rw [hd0]
    refine wpOps_step ho1 hg1 (exec_ext hp1 (v := .bool true) (by rw [eval_put_same (by have := hc.size; omega)]; exact run_extract rfl)) ?_
    rw [hd1]
    have z2 := sz (d := some 85) (v := .bool true) z1
    show (kTail).wp kP _ _ w2
    unfold kTail
    refine wp_seq (wp_cond_true (eval_put_same (by omega)) (wp_skip ?_))
    obtain ⟨p0, hpo0, hpd0, hpp0, hpg0⟩ := opG_at (show opG kOps14 0 = some (some 86, .entry (.tmp 83), none) by kernel_rfl)
    obtain ⟨p1, hpo1, hpd1, hpp1, hpg1⟩ := opG_at (show opG kOps14 1 = some (some 87, .extract (.tmp 86) 0, none) by kernel_rfl)
    obtain ⟨p2, hpo2, hpd2, hpp2, hpg2⟩ := opG_at (show opG kOps14 2 = some (some 88, .extract (.tmp 86) 1, none) by kernel_rfl)
    obtain ⟨p3, hpo3, hpd3, hpp3, hpg3⟩ := opG_at (show opG kOps14 3 = some (some 10, .assign (.tmp 87), none) by kernel_rfl)
    obtain ⟨p4, hpo4, hpd4, hpp4, hpg4⟩ := opG_at (show opG kOps14 4 = some (some 11, .assign (.tmp 88), none) by kernel_rfl)
    refine wp_block (wp_seq (wp_regionO k14s fun ops2 hops2 => ?_))
    rw [← hops2] at hpo0 hpo1 hpo2 hpo3 hpo4
    rw [show List.range 5 = [0, 1, 2, 3, 4] from rfl]
    have hkey : VRel ι e.key e.key := by rw [hes]; exact .string s
    have hval : VRel ι e.val e.val := by rw [hez]; exact .int kk z
    have htup : VRel ι (.tuple #[e.key, e.val]) (.tuple #[e.key, e.val]) := two hkey hval
    have htup3 : VRel ι (.tuple #[.bool true, e.key, e.val]) (.tuple #[.bool true, e.key, e.val]) := VRel.of_flat (by rw [hes, hez]; rfl)
    have hen : (Instr.entry (.pointer (some ⟨X.r, 0, none⟩))).run kP w2 = .ok (.tuple #[e.key, e.val]) w2 := by
      obtain ⟨c1, _, hit2⟩ := hc2.iter
      have hit3 : w2.heap[X.r]? = some (.mapIter (some X.bF) X.clock (seen.push e.born) X.clock) := by
        rw [← hw2]
        exact set_at (by
          have : w1.heap = w.heap := by rcases hw1 with rfl | rfl <;> rfl
          rw [this]
          exact lt_of_at hit)
      exact run_entry_at w2 X.r X.bF X.clock seen X.es X.clock e hit3 hc2.mapF hem hX.nodup
    have hA := ((hc2.put (d := 84) (by decide) (by decide) (by decide) htup3).put (d := 85) (by decide) (by decide) (by decide) (VRel.bool true))
    refine wpOps_step hpo0 hpg0 (exec_entry hpp0 (by rw [show Act.eval _ (.tmp 83) = _ from hA.it]; exact hen)) ?_
    rw [hpd0]
    have z3 := sz (d := some 86) (v := .tuple #[e.key, e.val]) z2
    refine wpOps_step hpo1 hpg1 (exec_ext hpp1 (v := e.key) (by rw [eval_put_same (by omega)]; exact run_extract rfl)) ?_
    rw [hpd1]
    have z4 := sz (d := some 87) (v := e.key) z3
    refine wpOps_step hpo2 hpg2 (exec_ext hpp2 (v := e.val) (by rw [eval_put_ne (by decide), eval_put_same (by omega)]; exact run_extract rfl)) ?_
    rw [hpd2]
    have z5 := sz (d := some 88) (v := e.val) z4
    refine wpOps_step hpo3 hpg3 (exec_assign hpp3) ?_
    rw [hpd3, eval_put_ne (show 88 ≠ 87 by decide), eval_put_same (by omega)]
    have z6 := sz (d := some 10) (v := e.key) z5
    refine wpOps_step hpo4 hpg4 (exec_assign hpp4) ?_
    rw [hpd4, eval_put_ne (show 10 ≠ 88 by decide), eval_put_same (by omega)]
    have hB := ((((hA.put (d := 86) (by decide) (by decide) (by decide) htup).put (d := 87) (by decide) (by decide) (by decide) hkey).put (d := 88) (by decide) (by decide) (by decide) hval).put (d := 10) (by decide) (by decide) (by decide) hkey).put (d := 11) (by decide) (by decide) (by decide) hval
    have hB10 := eval_put_same (v := e.key) (show 10 < _ from Nat.lt_of_lt_of_le (by decide) z5)
    have hB11 := eval_put_same (v := e.val) (show 11 < _ from Nat.lt_of_lt_of_le (by decide) z6)
    rw [← eval_put_ne (show 11 ≠ 10 by decide) (v := e.val)] at hB10
    show (nest kPs _).wp kP _ _ w2
    generalize (((((((a.put (some 84) (.tuple #[.bool true, e.key, e.val])).put (some 85) (.bool true)).put (some 86) (.tuple #[e.key, e.val])).put (some 87) e.key).put (some 88) e.val).put (some 10) e.key).put (some 11) e.val) = aB at hB hB10 hB11 ⊢
    obtain ⟨ET, hsub, hEnv⟩ := env_exists (E := kE X.v0 X.nv e.key e.val) hB.slots (fun t v hv => by
      rcases kE_get hv with ⟨rfl, rfl⟩ | ⟨rfl, rfl⟩ | ⟨rfl, rfl⟩ | ⟨rfl, rfl⟩
      · exact hB.s0
      · exact hB.s3
      · rw [show aB.tmps.getD 10 undef = e.key from hB10]; exact hkey
      · rw [show aB.tmps.getD 11 undef = e.val from hB11]; exact hval)
    obtain ⟨ex, s', hch, hout⟩ := hX.piece e hem ET hsub
    have hro := hB.inv.ro
    rw [← kHro_get] at hro
    have hN : X.h.n + M ≤ X.hr.n := by
      show _ ≤ X.h.n + (1 + 512 * X.es.size)
      omega
    refine ChainR.ok noNG_k (adraw_ok noNG_k kmix) (hG w2 ι hB.inv.below) hch hro hEnv hB.size (Nat.le_trans hX.glob (Nat.le_trans (Nat.le_add_right _ _) hN)) (fun id hid => hB.free id (Nat.le_trans hN hid)) fun e' a' w' hp => ?_
    obtain ⟨ι', t, hI', hE', hl', hd', hx⟩ := hp
    have hBl : Below w2.heap.size w2 w' := hI'.below
    have hfr : ∀ t v, (t = 0 ∨ t = 3 ∨ t = 10 ∨ t = 83) → ET.get t = some v → VRel ι' v (a'.tmps.getD t undef) := fun t v ht hv => by
      have := hE' t
      rw [ChainR.frame hch t (kfr t ht), hv] at this
      exact this
    have h83 : a'.tmps.getD 83 undef = .pointer (some ⟨X.r, 0, none⟩) := by
      have h1 := hEnv 83
      rw [hB.it] at h1
      cases hg : ET.get 83 with
      | none => rw [hg] at h1; cases h1
      | some v =>
        rw [hg] at h1
        exact ptr_same t.grow h1 (hfr 83 v (.inr (.inr (.inr rfl))) hg)
    have hcore := hB.later hX hN rfl t hE'.slots hl' hd' hBl hI'.lt (hfr 0 _ (.inl rfl) (hsub _ _ kE_at0)) (hfr 3 _ (.inr (.inl rfl)) (hsub _ _ kE_at3)) h83
    have hk10 : a'.eval (.tmp 10) = e.key := by
      have := hfr 10 _ (.inr (.inr (.inl rfl))) (hsub _ _ kE_at10)
      show a'.tmps.getD 10 undef = _
      rw [hes] at this ⊢
      exact this.flat_eq rfl
    have hsame : w'.heap[X.bC]? = w2.heap[X.bC]? := by
      obtain ⟨ces, cc, h1, _⟩ := ht2
      exact hBl.block _ (lt_of_at h1)
    have hlt := left_shrinks X.es seen e he
    have hb := hout.1
    have again : ∀ a2 w2', KCore X (later (X.h.n + M) X.hr.n s'.h.n ι ι') (M + (s'.h.n - X.hr.n)) (seen.push e.born) a2 w2' → KTab X (seen.push e.born) w2' → LoopFrom kP kL Q a2 w2' := fun a2 w2' k1 k2 => by
      refine ih _ (by rw [← hn]; exact hlt) _ _ _ a2 w2' rfl ?_ k1 k2
      have : (leftOf X.es (seen.push e.born)).size + 1 ≤ n := by rw [← hn]; exact hlt
      omega
    obtain ⟨_, hout⟩ := hout
    cases hox : X.out e with
    | none =>
      rw [hox] at hout
      have ht3 := KTab.none hX hem hox hsame ht2
      rcases hout with rfl | ⟨rfl, h120⟩
      · subst hx
        show Exit.inBlock 3 (Exit.then (LoopFrom kP kL Q) Q) (.exit 3) a' w'
        exact inBlock_hit (Q := Exit.then (LoopFrom kP kL Q) Q) (again a' w' hcore ht3)
      · subst hx
        have h1 : a'.eval (.tmp 120) = .bool false := by
          have := hE' 120
          rw [h120] at this
          exact this.flat_eq rfl
        exact wp_cond_false h1 (wp_skip (again a' w' hcore ht3))
    | some v =>
      rw [hox] at hout
      obtain ⟨rfl, h120, hfv, p, h15, hld⟩ := hout
      subst hx
      have h1 : a'.eval (.tmp 120) = .bool true := by
        have := hE' 120
        rw [h120] at this
        exact this.flat_eq rfl
      have hp15 : VRel ι' p (a'.eval (.tmp 15)) := by
        have := hE' 15
        rw [h15] at this
        exact this
      refine wp_cond_true h1 (k20_ok hX hcore (KTab.at_ ht2 hsame) hem hns hox hfv hk10 (fun w3 hb3 => ?_) fun a3 w3 k1 k2 => again a3 w3 k1 k2)
      obtain ⟨v', hv', hvr⟩ := aload_ok (hI'.still hb3) hp15 hld
      rw [hv', hvr.flat_eq hfv]
end Go.Proofs.YtmdjibkgnmjhbaaGreatDoor
end
section
/- wf.known: the whole function. -/
set_option autoImplicit false
set_option linter.unusedSimpArgs false
set_option linter.unusedVariables false
namespace Go.Proofs.YtmdjibkgnmjhbaaGreatDoor
open Go Go.RowKit Go.Proofs.YtmdjibkgnmjhbaaGreatDoor.Abs

/-! ### The whole function -/
def kOutOf : List MapEntry → List (Option Value) → MapEntry → Option Value
  | x :: r, o :: l, y => if x.born = y.born then o else kOutOf r l y
  | _, _, _ => none
theorem kNot_ok {s : ByteArray} {b : Nat} : ∀ {r : List MapEntry}, kNot s b r = true → ∀ y ∈ r, y.born ≠ b ∧ y.key ≠ .string s
  | [], _, y, hy => by cases hy
  | x :: r, h, y, hy => by
    have h' : ((match x.key with | .string t => !(beqB s t) | _ => false) && (!(Nat.beq b x.born) && kNot s b r)) = true := h
    rw [Bool.and_eq_true, Bool.and_eq_true] at h'
    obtain ⟨h1, h2, h3⟩ := h'
    rcases List.mem_cons.1 hy with rfl | hy
    · refine ⟨fun e => ?_, fun e => ?_⟩
      · rw [e, Nat.beq_refl] at h2
        cases h2
      · rw [e] at h1
        simp [beqB] at h1
    · exact kNot_ok h3 y hy
theorem kOkE_ok {c : Nat} : ∀ {es : List MapEntry}, kOkE c es = true → (∀ x ∈ es, ∃ s k z, x.key = .string s ∧ x.val = .int k z) ∧ (∀ x ∈ es, x.born < c) ∧ (es.map (·.born)).Nodup ∧ ∀ x ∈ es, ∀ y ∈ es, x.key = y.key → x = y
  | [], _ => ⟨fun x h => (by cases h), fun x h => (by cases h), List.nodup_nil, fun x h => (by cases h)⟩
  | x :: r, h => by
    have h' : ((match x.key, x.val with | .string s, .int _ _ => (Nat.ble (Nat.succ x.born) c && kNot s x.born r) | _, _ => false) && kOkE c r) = true := h
    rw [Bool.and_eq_true] at h'
    obtain ⟨h1, h2⟩ := h'
    obtain ⟨i1, i2, i3, i4⟩ := kOkE_ok h2
    split at h1
    · rename_i s k z hk hv
      rw [Bool.and_eq_true] at h1
      have hn := kNot_ok h1.2
      refine ⟨fun y hy => ?_, fun y hy => ?_, ?_, fun y hy y' hy' e => ?_⟩
      · rcases List.mem_cons.1 hy with rfl | hy
        · exact ⟨s, k, z, hk, hv⟩
        · exact i1 y hy
      · rcases List.mem_cons.1 hy with rfl | hy
        · exact Nat.le_of_ble_eq_true h1.1
        · exact i2 y hy
      · rw [List.map_cons, List.nodup_cons]
        refine ⟨fun hm => ?_, i3⟩
        obtain ⟨y, hy, e⟩ := List.mem_map.1 hm
        exact (hn y hy).1 e
      · rcases List.mem_cons.1 hy with e1 | hy
        · rcases List.mem_cons.1 hy' with e2 | hy'
          · exact e1.trans e2.symm
          · exact absurd (e.symm.trans (by rw [e1]; exact hk)) (hn y' hy').2
        · rcases List.mem_cons.1 hy' with e2 | hy'
          · exact absurd (e.trans (by rw [e2]; exact hk)) (hn y hy).2
          · exact i4 y hy y' hy' e
    · cases h1
theorem ents_same {ι : Nat → Option Abs.Loc} : ∀ {es l : List MapEntry}, (∀ x ∈ es, ∃ s k z, x.key = .string s ∧ x.val = .int k z) → ERel ι es l → l = es
  | [], [], _, _ => rfl
  | x :: es, y :: l, hk, ⟨⟨h1, h2, h3⟩, h⟩ => by
    obtain ⟨s, k, z, e1, e2⟩ := hk x List.mem_cons_self
    have hv : y.val = x.val := by rw [e2] at h3 ⊢; exact h3.flat_eq rfl
    obtain ⟨a, b, c⟩ := x
    obtain ⟨a', b', c'⟩ := y
    simp only at h1 h2 hv
    subst h1 h2 hv
    rw [ents_same (fun x hx => hk x (List.mem_cons_of_mem _ hx)) h]
theorem kOutOf_ok {G : GivenT} {v0 v3 : Value} {hr : Hp} : ∀ {es : List MapEntry} {l : List (Option Value)}, (es.map (·.born)).Nodup → KRounds G v0 v3 hr es l → ∀ x ∈ es, KPiece G v0 v3 hr x (kOutOf es l x)
  | [], l, _, _, x, hx => by cases hx
  | y :: r, _, hn, ⟨o, l, rfl, h1, h2⟩, x, hx => by
    rw [List.map_cons, List.nodup_cons] at hn
    show KPiece G v0 v3 hr x (if y.born = x.born then o else kOutOf r l x)
    rcases List.mem_cons.1 hx with rfl | hx
    · rw [if_pos rfl]; exact h1
    · rw [if_neg (fun e => hn.1 (List.mem_map.2 ⟨x, hx, e.symm⟩))]
      exact kOutOf_ok hn.2 h2 x hx
theorem kTab_ok {G : GivenT} {v0 v3 : Value} {hr : Hp} (s : ByteArray) : ∀ {es : List MapEntry} {l : List (Option Value)}, (es.map (·.born)).Nodup → KRounds G v0 v3 hr es l → match assocT (kTab es l) s with
    | some v => ∃ x ∈ es, x.key = .string s ∧ kOutOf es l x = some v
    | none => ∀ x ∈ es, x.key = .string s → kOutOf es l x = none
  | [], _, _, h => by
    obtain rfl : _ = [] := h
    intro x hx
    cases hx
  | y :: r, _, hn, ⟨o, l, rfl, h1, h2⟩ => by
    rw [List.map_cons, List.nodup_cons] at hn
    have ih := kTab_ok s hn.2 h2
    have hne : ∀ x ∈ r, kOutOf (y :: r) (o :: l) x = kOutOf r l x := fun x hx => if_neg (fun e => hn.1 (List.mem_map.2 ⟨x, hx, e.symm⟩))
    have hyy : kOutOf (y :: r) (o :: l) y = o := if_pos rfl
    have skip : (∀ v, y.key = .string s → o ≠ some v) → assocT (kTab (y :: r) (o :: l)) s = assocT (kTab r l) s → match assocT (kTab (y :: r) (o :: l)) s with
        | some v => ∃ x ∈ y :: r, x.key = .string s ∧ kOutOf (y :: r) (o :: l) x = some v
        | none => ∀ x ∈ y :: r, x.key = .string s → kOutOf (y :: r) (o :: l) x = none := fun hno he => by
      rw [he]
      cases hv : assocT (kTab r l) s with
      | some v =>
        rw [hv] at ih
        obtain ⟨x, hx, e1, e2⟩ := ih
        exact ⟨x, List.mem_cons_of_mem _ hx, e1, by rw [hne x hx]; exact e2⟩
      | none =>
        rw [hv] at ih
        intro x hx hk
        rcases List.mem_cons.1 hx with rfl | hx
        · rw [hyy]
          cases o with
          | none => rfl
          | some v => exact absurd rfl (hno v hk)
        · rw [hne x hx]; exact ih x hx hk
    cases o with
    | none => exact skip (fun v _ e => by cases e) rfl
    | some v =>
      cases hk : y.key with
      | string t =>
        have e1 : kTab (y :: r) (some v :: l) = (t, v) :: kTab r l := by
          show (match y.key with | .string s => (s, v) :: kTab r l | _ => kTab r l) = _
          rw [hk]
        by_cases hb : beqB s t = true
        · have hst : s = t := str_eq (by simpa [beqB] using hb)
          rw [e1]
          show match (if beqB s t = true then some v else assocT (kTab r l) s) with | some v => _ | none => _
          rw [if_pos hb]
          exact ⟨y, List.mem_cons_self, by rw [hk, hst], hyy⟩
        · refine skip (fun u hu => ?_) ?_
          · rw [hk] at hu
            cases hu
            exact absurd (by simp [beqB]) hb
          · rw [e1]
            show (if beqB s t = true then some v else assocT (kTab r l) s) = _
            rw [if_neg hb]
      | _ => exact skip (fun u hu => by rw [hk] at hu; cases hu) (by show assocT (match y.key with | .string s => (s, v) :: kTab r l | _ => kTab r l) s = _; rw [hk])
theorem k12m : [0, 1, 2, 3].map (kOps12[·]?) = (kOps12.toList.take 4).map some := by kernel_rfl
theorem kbody : Tryz.f53.body = some (bodyOf kP 53) := by kernel_rfl
theorem kntm : Tryz.f53.ntmps = 128 := by kernel_rfl
theorem kres : Tryz.f53.results = #[.tmp 2] := by kernel_rfl
theorem known_ok {base : Nat} {w0 : Abs.Start} {G : GivenT} (hG0 : GivenOk kP base w0 G) (hG : ∀ w ι, Below base w0.w w → GivenOk kP w.heap.size ⟨w, ι⟩ G) : NatOk kP base w0 53 (natKnown G) := by
  intro args h r h' hg
  obtain ⟨v, rfl, hrun⟩ := natKnown_run hg
  obtain ⟨s3, s4, fid, es, c, wr, cid, cc, nb, no, pC, outs, v0, a1, a2, a3, a4, a5, a6, a7, a8, a9, a10, a11, a12, a13, a14, a15, rfl, rfl⟩ := hrun
  have hD : DrawOk kP base w0 := adraw_ok noNG_k kmix
  have n3 : h.n ≤ s3.h.n := a1.n noNG_k hD hG0
  have n4 := (a2.ok noNG_k hD hG0).1
  refine ⟨Nat.le_trans n3 n4, fun ι w args' hI hr hgl hf => ?_⟩
  refine calls_of_wp Tryz.func53 kbody ?_
  rw [kBody_eq]
  refine ChainR.ok noNG_k hD hG0 a1 hI (args0_rel hr _ _) (by rw [kntm]; simp; omega) hgl hf fun e' b3 w3 hp => ?_
  obtain ⟨ι3, t3, hI3, hE3, hl3, hd3, rfl⟩ := hp
  have f3 := t3.fresh hf
  obtain ⟨o4, ho4, hdo4, hp4, hg4⟩ := opG_at (show opG kOps12 4 = some (some 83, .range 73 (.tmp 82), none) by kernel_rfl)
  have hk12 := k12m
  refine wp_seq (wp_seq (wp_regionO k12s fun ops hops => ?_))
  rw [← hops] at ho4 hk12 a2
  rw [show List.range 5 = [0, 1, 2, 3] ++ [4] from rfl]
  refine wpOps_append _ _ _ (wpOps_mono (fun e b4 w4 hp => ?_) _ _ _ ((a2.ok noNG_k hD hG0).2 hk12 hI3 hE3 hl3 (Nat.le_trans hgl n3) f3))
  obtain ⟨ι4, t4, hI4, hE4, hl4, hd4, rfl⟩ := hp
  have f4 := t4.fresh f3
  obtain ⟨k1, k2, k3, k4⟩ := kOkE_ok a5
  -- the map that is gone over, the map that is made
  obtain ⟨iF, hiF, h82⟩ : ∃ iF, ι4 fid = some iF ∧ b4.eval (.tmp 82) = .map (some iF.rb) := by
    have := hE4 82
    rw [a3] at this
    generalize hq : b4.tmps.getD 82 undef = q at this
    cases this with
    | map id i hi => exact ⟨i, hi, hq⟩
  obtain ⟨es', hF1, hF2, _⟩ := hI4.obj fid iF _ hiF a4
  have hes := ents_same k1 hF2
  have r3 := hE4 3
  rw [a7] at r3
  obtain ⟨iC, hiC⟩ : ∃ iC, ι4 cid = some iC := by
    obtain ⟨u, _, hur⟩ := afieldAddr_ok r3 a8 w4
    obtain ⟨u', _, hur'⟩ := aload_ok hI4 hur a9
    cases hur' with
    | map id i hi => exact ⟨i, hi⟩
  obtain ⟨ces, hC1, hC2, hC3⟩ := hI4.obj cid iC _ hiC a11
  have hC3 := hC3 rfl
  have hces : ces = #[] := by
    cases hl : ces.toList with
    | nil => exact Array.toList_eq_nil_iff.1 hl
    | cons x l => rw [hl] at hC2; exact hC2.elim
  refine wpOps_step ho4 hg4 (exec_range hp4 (by rw [h82]; exact run_range_map w4 _ _ _ _ _ _ kuF hF1)) ?_
  rw [hdo4]
  have hFlt := lt_of_at hF1
  have hClt := lt_of_at hC1
  have hbase4 : base ≤ w4.heap.size := Nat.le_trans hI4.base_le hI4.below.size
  have hne : iF.rb ≠ iC.rb := fun e => (hI4.inj cid fid iC iF _ _ hiC hiF a11 a4 (fun x => a12 x.symm) rfl) e.symm
  have hX : KFix ⟨base, w0, G, ι4, s4.h, cid, es', c, iF.rb, iC.rb, w4.heap.size, v0, nb, no, pC, kOutOf es outs, b4.defers⟩ := by
    have hsz : es'.size = es.length := by rw [← hes, Array.length_toList]
    refine
      { fresh := f4
        glob := Nat.le_trans hgl (Nat.le_trans n3 n4)
        iC := ⟨iC, hiC, rfl⟩
        apart := fun id j o h1 h2 e => ?_
        below := fun id j h1 => hI4.lt id j h1
        baseC := hC3
        ltC := hClt
        ltF := hFlt
        neF := hne
        baseR := hbase4
        nodup := by show (es'.toList.map _).Nodup; rw [hes]; exact k3
        old := by show ∀ x ∈ es'.toList, _; rw [hes]; exact k2
        keys := by show ∀ x ∈ es'.toList, _; rw [hes]; exact k1
        kdist := by show ∀ x ∈ es'.toList, ∀ y ∈ es'.toList, _; rw [hes]; exact k4
        piece := ?_
        fa := a8
        ld := by
          show aload kP _ (kHro s4.h cid es'.size) pC = _
          rw [hsz]; exact a10 }
    · have hlo := KX.H_low h2
      unfold KX.H at h2
      dsimp only at h2 hlo
      rw [if_pos hlo, Tr.get_set] at h2
      split at h2
      · cases h2
      · rename_i hne2
        exact (hI4.inj cid id iC j _ o hiC h1 a11 h2 (fun x => hne2 x.symm) rfl) e.symm
    · show ∀ x ∈ es'.toList, KPiece G v0 _ (kHro s4.h cid es'.size) x _
      rw [hes, hsz]
      exact kOutOf_ok k3 a15
  have hni : ι4 s4.h.n = none := f4 _ (Nat.le_refl _)
  have hgr := Grows.upd hni (⟨w4.heap.size, 0, 0, 0⟩ : Abs.Loc)
  have hBa : Below w4.heap.size w4 (w4.alloc (.mapIter (some iF.rb) c #[] c)) := (Below.refl _ w4).alloc (Nat.le_refl _) _
  have hHsub : Abs.Inv kP base w0 ι4 (KX.H ⟨base, w0, G, ι4, s4.h, cid, es', c, iF.rb, iC.rb, w4.heap.size, v0, nb, no, pC, kOutOf es outs, b4.defers⟩) w4 := hI4.sub fun id o ho => by
    have hlo := KX.H_low ho
    unfold KX.H at ho
    dsimp only at ho hlo
    rw [if_pos hlo, Tr.get_set] at ho
    split at ho
    · cases ho
    · exact ho
  have hcore : KCore ⟨base, w0, G, ι4, s4.h, cid, es', c, iF.rb, iC.rb, w4.heap.size, v0, nb, no, pC, kOutOf es outs, b4.defers⟩ (fupd ι4 s4.h.n (some ⟨w4.heap.size, 0, 0, 0⟩)) 1 #[] (b4.put (some 83) (.pointer (some ⟨w4.heap.size, 0, none⟩))) (w4.alloc (.mapIter (some iF.rb) c #[] c)) := by
    refine
      { low := fun id hid => fupd_ne _ _ _ _ (by intro e; subst e; exact absurd hid (Nat.lt_irrefl _))
        free := fun id hid => by
          dsimp only at hid ⊢
          rw [fupd_ne _ _ _ _ (by omega)]
          exact f4 id (by omega)
        inv := (hHsub.still hBa).wide hgr (fun id o ho => fupd_ne _ _ _ _ (by have := KX.H_low ho; dsimp only at this; omega)) fun id i hi => ?_
        slots := (hE4.slots.grow hgr).put (some 83) (.ptr s4.h.n 0 ⟨w4.heap.size, 0, 0, 0⟩ (fupd_eq _ _ _))
        size := by show 128 ≤ (b4.tmps.setIfInBounds _ _).size; rw [Array.size_setIfInBounds]; exact hl4
        defs := rfl
        s0 := ?_
        s3 := ?_
        it := eval_put_same (by omega)
        iter := ⟨c, Nat.le_refl _, alloc_new _ _⟩
        mapF := (hBa.block _ hFlt).trans hF1 }
    · by_cases e : id = s4.h.n
      · subst e
        rw [fupd_eq] at hi
        cases hi
        show w4.heap.size < (w4.heap.push _).size
        simp
      · rw [fupd_ne _ _ _ _ e] at hi
        exact Nat.lt_of_lt_of_le (hI4.lt id i hi) hBa.size
    · rw [getD_put_ne (by decide)]
      have := hE4 0
      rw [a6] at this
      exact this.grow hgr
    · rw [getD_put_ne (by decide)]
      exact r3.grow hgr
  have htab : KTab ⟨base, w0, G, ι4, s4.h, cid, es', c, iF.rb, iC.rb, w4.heap.size, v0, nb, no, pC, kOutOf es outs, b4.defers⟩ #[] (w4.alloc (.mapIter (some iF.rb) c #[] c)) := by
    refine ⟨ces, cc, (hBa.block _ hClt).trans hC1, fun e he => ?_, fun x hx hs => ?_⟩
    · rw [hces] at he
      cases he
    · simp at hs
  rw [kB2_eq]
  refine wp_block (LoopFrom.wp (known_loop hX hG (fun ιz M seen a w hc ht h0 => ?_) _ _ _ _ _ _ rfl ?_ hcore htab))
  rotate_left
  · have : (leftOf es' #[]).size ≤ es'.size := by unfold leftOf; exact Array.size_filter_le
    show 1 + 512 * (leftOf es' #[]).size ≤ 1 + 512 * es'.size
    omega
  -- behind the loop
  show Exit.inBlock 2 _ (.exit 2) a w
  refine inBlock_hit ?_
  show (Code.seq (.region 21 kOps21 false) .ret).wp kP _ a w
  have hall := all_seen _ _ h0
  obtain ⟨o0, ho0, hdo0, hp0, hg0⟩ := opG_at (show opG kOps21 0 = some (some 127, .move (.tmp 3), none) by kernel_rfl)
  obtain ⟨o1, ho1, hdo1, hp1, hg1⟩ := opG_at (show opG kOps21 1 = some (some 2, .assign (.tmp 127), none) by kernel_rfl)
  refine wp_seq (wp_regionO k21s fun ops21 hops21 => ?_)
  rw [← hops21] at ho0 ho1
  rw [show List.range 2 = [0, 1] from rfl]
  have hsz := hc.size
  refine wpOps_step ho0 hg0 (exec_move hp0) ?_
  rw [hdo0]
  refine wpOps_step ho1 hg1 (exec_assign hp1) ?_
  rw [hdo1, eval_put_same (by omega)]
  refine wp_ret ⟨?_, a.eval (.tmp 3), ?_, ?_⟩
  · show a.defers = []
    rw [hc.defs]
    exact hd4.trans hd3
  · rw [results_eq, kres]
    have : ((a.put (some 127) (a.eval (.tmp 3))).put (some 2) (a.eval (.tmp 3))).tmps.getD 2 undef = a.eval (.tmp 3) := eval_put_same (by rw [put_size]; omega)
    simp [resOf, this]
  have hgz : Grows ι4 ιz := fun id i hi => by
    have hlo : id < s4.h.n := by
      apply Classical.byContradiction
      intro hn
      rw [f4 id (by omega)] at hi
      cases hi
    rw [hc.low id hlo]
    exact hi
  have hHid : ∀ {id : Nat} {i : Abs.Loc} {o : AObj}, ι4 id = some i → id ≠ cid → s4.h.t.get id = some o → ιz id = some i ∧ KX.H ⟨base, w0, G, ι4, s4.h, cid, es', c, iF.rb, iC.rb, w4.heap.size, v0, nb, no, pC, kOutOf es outs, b4.defers⟩ id = some o := fun {id i o} hi hne2 ho => by
    have hlo : id < s4.h.n := by
      apply Classical.byContradiction
      intro hn
      rw [f4 id (by omega)] at hi
      cases hi
    refine ⟨hgz _ _ hi, ?_⟩
    unfold KX.H
    dsimp only
    rw [if_pos hlo, Tr.get_set_ne _ _ _ _ hne2]
    exact ho
  refine ⟨ι4, ?_, ?_, a.eval (.tmp 3), rfl, ?_⟩
  · refine (t3.trans t4).trans ?_
    rw [Tr.get_set_fun]
    exact Turn.at_block _ hiC
  · rw [Tr.get_set_fun]
    refine ⟨hc.inv.below, hc.inv.base_le, hI4.init, fun id i o h1 h2 => ?_, fun id id' i i' o o' h1 h2 h3 h4 hne2 hw => ?_, fun id i h1 => ?_, fun g hg2 hs => ?_⟩
    · by_cases e : id = cid
      · subst e
        rw [fupd_eq] at h2
        cases h2
        rw [hiC] at h1
        cases h1
        obtain ⟨czs, ccz, hz1, hz2, hz3⟩ := ht
        refine ⟨czs, ccz, hz1, fun kt s hkt => ?_⟩
        have htb := kTab_ok s k3 a15
        have hkey : ∀ x ∈ czs.toList, MapKept.IsKey .string x.key := fun x hx => by
          obtain ⟨y, hy, _, hyk, _⟩ := hz2 x hx
          obtain ⟨s', _, _, hs', _⟩ := hX.keys y hy
          rw [← hyk, hs']
          trivial
        rcases MapKept.findNow_spec (d := .string) (k := .string s) trivial czs.toList 0 hkey with ⟨q1, q2⟩ | ⟨j, e0, q1, q2, q3⟩
        · split at htb
          · rename_i v hv
            obtain ⟨x, hx, hxk, hxo⟩ := htb
            obtain ⟨e, he, hek, _⟩ := hz3 x (by rw [hes]; exact hx) (hall x (by rw [hes]; exact hx)) v hxo
            exact absurd (hek.trans hxk) (q2 e he)
          · rename_i hv
            rw [hv]
            exact fun w' => MapKept.run_findKey hkt q1
        · have he0 : e0 ∈ czs.toList := List.mem_of_getElem? q2
          obtain ⟨y, hy, _, hyk, hyo⟩ := hz2 e0 he0
          rw [show KX.es _ = es' from rfl, hes] at hy
          split at htb
          · rename_i v hv
            obtain ⟨x, hx, hxk, hxo⟩ := htb
            obtain rfl := k4 x hx y hy (hxk.trans (hyk.trans q3).symm)
            have hvv : v = e0.val := by
              have := hxo.symm.trans hyo
              exact Option.some.inj this
            rw [hv, hvv]
            have hpc := kOutOf_ok k3 a15 x hx
            rw [hxo] at hpc
            obtain ⟨_, _, _, hko⟩ := hpc _ (fun _ _ h => h)
            refine ⟨by rw [← hvv]; exact hko.2.2.2.1, 0 + j, fun w' => MapKept.run_findKey hkt q1⟩
          · have := htb y hy (hyk.trans q3)
            rw [show KX.out _ y = kOutOf es outs y from rfl, this] at hyo
            cases hyo
      · rw [fupd_ne _ _ _ _ e] at h2
        obtain ⟨z1, z2⟩ := hHid h1 e h2
        exact (hI4.obj id i o h1 h2).back hgz (hc.inv.obj id i o z1 z2)
    · by_cases e : id = cid
      · subst e
        rw [fupd_eq] at h3
        cases h3
        cases hw
      · rw [fupd_ne _ _ _ _ e] at h3
        by_cases e' : id' = cid
        · rw [e', hiC] at h2
          obtain rfl := Option.some.inj h2
          exact fun x => (hI4.inj cid id iC i _ o hiC h1 a11 h3 (fun y => e y.symm) rfl) x.symm
        · rw [fupd_ne _ _ _ _ e'] at h4
          exact hI4.inj id id' i i' o o' h1 h2 h3 h4 hne2 hw
    · have := hI4.lt id i h1
      have h83 := hc.iter
      obtain ⟨_, _, h83⟩ := h83
      exact Nat.lt_trans this (lt_of_at h83)
    · by_cases e : g = cid
      · subst e
        exact hI4.glob g hg2 (by rw [a11]; rfl)
      · rw [fupd_ne _ _ _ _ e] at hs
        exact hI4.glob g hg2 hs
  · exact (r3.back hgz (by exact hc.s3))
end Go.Proofs.YtmdjibkgnmjhbaaGreatDoor
end
section
/- wf.known: by the quick engine. -/
set_option autoImplicit false
set_option linter.unusedSimpArgs false
set_option linter.unusedVariables false
namespace Go.Proofs.YtmdjibkgnmjhbaaGreatDoor
open Go Go.RowKit Go.Proofs.YtmdjibkgnmjhbaaGreatDoor.Abs

/-! ### The quick engine -/
section
variable {G : GivenT} {C : Callees}
noncomputable def eqO (a b : Option Value) : Bool :=
  match a, b with
  | none, none => true
  | some a, some b => eqV a b
  | _, _ => false
theorem eqO_ok {a b : Option Value} (h : eqO a b = true) : a = b := by
  unfold eqO at h
  split at h
  · rfl
  · rw [eqV_ok h]
  · cases h
noncomputable def kOutL (K : Option Value → Bool) : KV := fun v => match flat v with
  | true => K (some v)
  | false => false
noncomputable def kOutP (K : Option Value → Bool) (h : Hp) : Value → Bool := fun p => loadC kP (theOps kP) 104 h p (kOutL K)
theorem kOutP_ok {K : Option Value → Bool} {h : Hp} {q : Value} (hk : kOutP K h q = true) : ∃ v, aload kP 104 h q = some v ∧ flat v = true ∧ K (some v) = true := by
  have h2 : loadC kP (theOps kP) 104 h q (kOutL K) = true := hk
  have h3 := @loadC_ok kP _ _ _ _ h2
  obtain ⟨v, hv, h4⟩ := h3
  unfold kOutL at h4
  split at h4
  · rename_i hf
    exact ⟨v, hv, hf, h4⟩
  · cases h4
noncomputable def kOut (n : Nat) (K : Option Value → Bool) (b p : Option Value) (h : Hp) : Bool :=
  match Nat.ble h.n (Nat.add n 512) with
  | true => match b with
    | none => K none
    | some (.bool false) => K none
    | some (.bool true) => okB p (kOutP K h)
    | _ => false
  | false => false
noncomputable def kOne (C : Callees) (v0 v3 k v : Value) (hr : Hp) (K : Option Value → Bool) : Bool := kB (theOps kP) C v0 v3 k v hr (kOut hr.n K)
set_option maxRecDepth 100000 in
theorem kOne_ok (hC : COk kP G C) {v0 v3 k v : Value} {hr : Hp} {K : Option Value → Bool} (hk : kOne C v0 v3 k v hr K = true) {ET : Tr Value} (hs : SubE (kE v0 v3 k v) ET) : ∃ e s' out, ChainR kP G 128 kPs ⟨ET, hr⟩ e s' ∧ KOut hr.n e s' out ∧ K out = true := by
  unfold kOne at hk
  rw [kB_eq] at hk
  generalize hcs : kPn = cs at hk
  have hx := @chainC_ok kP G C hC 128 0 cs (kE v0 v3 k v) ET hr _ hs hk
  clear hk
  obtain ⟨e, s', E', hch, hs', hk⟩ := hx
  rw [← hcs, kPn_fst] at hch
  have fin : ∀ b p, kOut hr.n K b p s'.h = true → s'.h.n ≤ hr.n + 512 ∧ ((b = none ∧ K none = true) ∨ (b = some (.bool false) ∧ K none = true) ∨ (b = some (.bool true) ∧ ∃ q v, p = some q ∧ aload kP 104 s'.h q = some v ∧ flat v = true ∧ K (some v) = true)) := fun b p h => by
    unfold kOut at h
    split at h
    · rename_i hb
      refine ⟨Nat.le_of_ble_eq_true hb, ?_⟩
      split at h
      · exact .inl ⟨rfl, h⟩
      · exact .inr (.inl ⟨rfl, h⟩)
      · obtain ⟨q, rfl, h⟩ := okB_ok h
        obtain ⟨v, hv, hf, h⟩ := kOutP_ok h
        exact .inr (.inr ⟨rfl, q, v, rfl, hv, hf, h⟩)
      · cases h
    · cases h
  cases e with
  | normal =>
    obtain ⟨b, hb, hk⟩ := okB_ok (show okB (E'.get 120) (fun b => kOut hr.n K (some b) (E'.get 15) s'.h) = true from hk)
    obtain ⟨hn, h⟩ := fin _ _ hk
    rcases h with ⟨h, _⟩ | ⟨h, hk2⟩ | ⟨h, q, v, hq, hv, hf, hk2⟩
    · cases h
    · cases h
      exact ⟨_, s', none, hch, ⟨hn, .inr ⟨rfl, hs' _ _ hb⟩⟩, hk2⟩
    · cases h
      exact ⟨_, s', some v, hch, ⟨hn, rfl, hs' _ _ hb, hf, q, hs' _ _ hq, hv⟩, hk2⟩
  | exit id =>
    have hk' : (match Nat.beq id 3 with | true => kOut hr.n K none none s'.h | false => false) = true := hk
    split at hk'
    · rename_i hid
      rw [Nat.beq_eq] at hid
      subst hid
      obtain ⟨hn, h⟩ := fin _ _ hk'
      rcases h with ⟨h, hk⟩ | ⟨h, _⟩ | ⟨h, _⟩
      · exact ⟨_, s', none, hch, ⟨hn, .inl rfl⟩, hk⟩
      · cases h
      · cases h
    · cases hk'
  | ret => cases hk
noncomputable def kRoundsQ (C : Callees) (v0 v3 : Value) (hr : Hp) : List MapEntry → (List (Option Value) → Bool) → Bool
  | [], K => K []
  | x :: r, K => kOne C v0 v3 x.key x.val hr fun o => R1 (kOne C v0 v3 x.key x.val hr (eqO o)) (kRoundsQ C v0 v3 hr r fun l => K (o :: l))
theorem kRoundsQ_ok (hC : COk kP G C) {v0 v3 : Value} {hr : Hp} : ∀ {es : List MapEntry} {K : List (Option Value) → Bool}, kRoundsQ C v0 v3 hr es K = true → ∃ l, KRounds G v0 v3 hr es l ∧ K l = true
  | [], K, hk => ⟨[], rfl, hk⟩
  | x :: r, K, hk => by
    obtain ⟨_, _, o, _, _, hk⟩ := kOne_ok hC (show kOne C v0 v3 x.key x.val hr _ = true from hk) (fun _ _ h => h)
    have hk' := bothK_ok (show bothK _ _ = true from hk)
    obtain ⟨l, h1, h2⟩ := kRoundsQ_ok hC hk'.2
    refine ⟨o :: l, ⟨o, l, rfl, fun ET hs => ?_, h1⟩, h2⟩
    obtain ⟨e, s', o2, c1, c2, c3⟩ := kOne_ok hC hk'.1 hs
    rw [← eqO_ok c3] at c2
    exact ⟨e, s', c1, c2⟩
noncomputable def kGo (C : Callees) (K : KVH) (m v0 nv : Value) (h : Hp) : Bool :=
  match m, nv with
  | .map (some fid), .pointer (some ⟨nb, no, none⟩) => match h.t.get fid with
    | some (.map es c _) => match kOkE c es with
      | true => faC kP (theOps kP) 80 3 (.pointer (some ⟨nb, no, none⟩)) fun pC => loadC kP (theOps kP) 78 h pC fun mc => match mc with
        | .map (some cid) => match h.t.get cid, Nat.beq fid cid, Nat.ble (Nat.succ cid) h.n, Nat.ble (Nat.succ fid) h.n with
          | some (.map [] _ true), false, true, true => h.t.setK cid none fun t0 => roK h.n t0 1 0 fun tr => forceN (Nat.add h.n (Nat.succ (Nat.mul 512 (lenM es)))) fun N =>
            loadC kP (theOps kP) 78 ⟨tr, N⟩ pC fun mc2 => match mc2 with
              | .map (some cid2) => match Nat.beq cid2 cid with
                | true => kRoundsQ C v0 (.pointer (some ⟨nb, no, none⟩)) ⟨tr, N⟩ es fun outs => h.t.setK cid (some (.table (kTab es outs))) fun t' => K (.pointer (some ⟨nb, no, none⟩)) ⟨t', h.n⟩
                | false => false
              | _ => false
          | _, _, _, _ => false
        | _ => false
      | false => false
    | _ => false
  | _, _ => false
noncomputable def kF (C0 : Callees) : Callees → FnT 1 := fun _ => lam 1 fun args h K => match args with
  | [v] => kA (theOps kP) C0 v h (kGo C0 K)
  | _ => false
theorem lenM_eq : ∀ es : List MapEntry, lenM es = es.length
  | [] => rfl
  | _ :: r => by show Nat.succ (lenM r) = _; rw [lenM_eq r]; rfl
theorem forceN_ok {n : Nat} {K : Nat → Bool} (h : forceN n K = true) : K n = true := by
  cases n with
  | zero => exact h
  | succ n => exact h
theorem kF_ok {C0 : Callees} (hC : COk kP G C0) {G' : GivenT} (hG : G' 53 = some (natKnown G)) : EntOk kP G' 53 ⟨1, kF C0⟩ := by
  intro C _ args h K hk
  replace hk : app noF 1 (lam 1 fun args h (K : KVH) => match args with | [v] => kA (theOps kP) C0 v h (kGo C0 K) | _ => false) args h K = true := hk
  rcases app_lam noF 1 (fun args h (K : KVH) => match args with | [v] => kA (theOps kP) C0 v h (kGo C0 K) | _ => false) args with e | e
  · rw [e] at hk
    dsimp only at hk
    split at hk
    · rename_i v
      rw [kA_eq] at hk
      rw [argsK_eq] at hk
      generalize hcs : kAn = cs at hk
      have hx := @chainC_ok kP G C0 hC 128 0 cs _ (args0 [v] 0 (.full 8)) _ _ (fun _ _ h => h) hk
      clear hk
      obtain ⟨e3, s3, E3, hch, hs3, hk⟩ := hx
      rw [← hcs, kAn_fst] at hch
      cases e3 with
      | normal =>
        obtain ⟨E4, s4, hr4, hs4, hk⟩ := opsU_ok (ops := kOps12) hC (fun _ => True) (fun _ _ _ _ _ _ => trivial) (fun o ho E _ => by
          unfold aguard
          rw [k12g o ho]) trivial hs3 (show opsU kP (theOps kP) C0 128 (kOps12.toList.take 4) E3 s3.h _ = true from hk)
        obtain ⟨m, hm, hk1⟩ := okB_ok hk
        obtain ⟨v0, hv0, hk2⟩ := okB_ok hk1
        obtain ⟨nv, hnv, hk3⟩ := okB_ok hk2
        clear hk hk1 hk2
        have hk := hk3
        clear hk3
        unfold kGo at hk
        split at hk
        rotate_left
        · cases hk
        rename_i fid nb no
        split at hk
        rotate_left
        · cases hk
        rename_i es c wr hes
        split at hk
        rotate_left
        · cases hk
        rename_i hok
        obtain ⟨pC, hpC, hk⟩ := faC_ok hk
        obtain ⟨mc, hmc, hk⟩ := loadC_ok hk
        split at hk
        rotate_left
        · cases hk
        rename_i cid
        split at hk
        rotate_left
        · cases hk
        rename_i cc hcid hne hlt1 hlt2
        rw [Tr.setK_eq, roK_eq] at hk
        have hk := forceN_ok hk
        have hN : Nat.add s4.h.n (Nat.succ (Nat.mul 512 (lenM es))) = s4.h.n + (1 + 512 * es.length) := by
          show s4.h.n + (512 * lenM es + 1) = _
          rw [lenM_eq]
          omega
        rw [hN] at hk
        obtain ⟨mc2, hmc2, hk⟩ := loadC_ok hk
        split at hk
        rotate_left
        · cases hk
        rename_i cid2
        split at hk
        rotate_left
        · cases hk
        rename_i hc2
        rw [Nat.beq_eq] at hc2
        subst hc2
        obtain ⟨outs, ho1, hk⟩ := kRoundsQ_ok hC hk
        rw [Tr.setK_eq] at hk
        have hrun : KRun G [v] h (.pointer (some ⟨nb, no, none⟩)) ⟨s4.h.t.set cid2 (some (.table (kTab es outs))), s4.h.n⟩ :=
          ⟨s3, s4, fid, es, c, wr, cid2, cc, nb, no, pC, outs, v0, hch, hr4, hs4 _ _ hm, hes, hok, hs4 _ _ hv0, hs4 _ _ hnv, hpC, hmc, hmc2, hcid,
            (fun e => by rw [e, Nat.beq_refl] at hne; cases hne), Nat.le_of_ble_eq_true hlt1, Nat.le_of_ble_eq_true hlt2, ho1, rfl, rfl⟩
        refine ⟨_, _, ⟨0, fun k _ => ?_⟩, hk⟩
        unfold Abs.call callBy
        rw [hG]
        dsimp only
        rw [natKnown_ret hrun]
        rfl
      | exit id => cases hk
      | ret => cases hk
    · cases hk
  · rw [e] at hk; cases hk
end
end Go.Proofs.YtmdjibkgnmjhbaaGreatDoor
end
section
/- Pieces of (*syn.reader).items as terms of the quick engine. -/
set_option autoImplicit false
set_option linter.unusedVariables false
set_option maxRecDepth 100000
namespace Go.Proofs.YtmdjibkgnmjhbaaGreatDoor
open Go Go.RowKit Go.Proofs.YtmdjibkgnmjhbaaGreatDoor.Abs
noncomputable def iBody : Code := bodyOf kP 92
noncomputable def iR0 : Code := sqA iBody
noncomputable def iOps1 : Array Oper := opsOf (sqA (sqB iBody))
noncomputable def iB0 : Code := sqA (sqB (sqB iBody))
noncomputable def iR4 : Code := sqA (sqB (sqB (sqB iBody)))
noncomputable def iDBody : Code := bodyOf kP 158
noncomputable def iDOps0 : Array Oper := opsOf (sqA iDBody)
noncomputable def iDOps1 : Array Oper := opsOf (sqA (sqB iDBody))
noncomputable def iDThen : Code := thenOf (sqB (sqB iDBody))
noncomputable def iAn : List (Code × Nat) := [(iR0, 13)]
theorem iAn_fst : iAn.map (·.1) = [iR0] := rfl
noncomputable def iBn : List (Code × Nat) := [(iB0, 12), (iR4, 12)]
theorem iBn_fst : iBn.map (·.1) = [iB0, iR4] := rfl
noncomputable def iA (R : Ops) (C : Callees) : Value → Hp → KVH → Bool := fun (v : Value) (h : Hp) (K : KVH) => R.al 76 [(.slice none 0 0)] h fun v3q v3r => R.al 27 [(.int .i64 (.ofNat 0)), (.int .i64 (.ofNat 0))] v3r fun v3s v3t => R.jn (fun J3u : Cur (Hp → Bool) 0 => R.lp 0 (fun J3v v3w => R.jn (fun J3x : Cur (Hp → Bool) 0 => R.nk v (R.fa 0 v fun v3y => R.l1 v3w v3y fun v3z => R.lv v3z fun v40 => R.bi .gtr v40 (.int .i64 (.ofNat 0)) fun v41 => R.br v41 (J3x v3w) (J3u v3w))) fun v42 => R.jn (fun J43 : Cur (Hp → Bool) 0 => R.l1 v42 v3q fun v44 => R.bo (R.l1 v42 v3q fun v45 => R.eq v45 v44) (C 159 1 v v42 fun v46 v47 => R.bl 76 1 [(0, v46)] v47 fun v48 v49 => R.bo (R.l1 v49 v3q fun v4a => R.eq v4a v44) (R.bt v49 .append ⟨[76, 76]⟩ [v44, v48] fun v4b v4c => R.s1 v4c v3q v4b fun v4d v4e => J43 v4e))) fun v4f => J3v v4f) fuel v3t) fun v4g => R.l1 v4g v3q fun v4h => R.ln 2 v4g v3s fun v4i => R.bo (R.ln 2 v4g v3s fun v4j => R.eq v4j v4i) (R.bo (R.l1 v4g v3q fun v4k => R.eq v4k v4h) (R.s1 v4g v3q v4h fun v4l v4m => R.bo (R.ln 2 v4m v3s fun v4n => R.eq v4n v4i) (R.sn 2 v4m v3s v4i fun v4o v4p => R.l1 v4p v3q fun v4q => R.ln 2 v4p v3s fun v4r => K (.tuple ⟨[v4q, v4r]⟩) v4p)))
theorem iA_eq (R : Ops) (C : Callees) (v : Value) (h : Hp) (K : KVH) : iA R C v h K = argsK (.full 5) 0 [v] fun E => chainC kP R C 18 0 iAn E h (fun ax E h => match ax with
    | .normal => okB (E.get 2) fun p2 => okB (E.get 3) fun p3 => E.setK 4 (some (.func (.func 158) #[] #[p2, p3])) fun E => chainC kP R C 18 0 iBn E h (fun ax E h => match ax with
      | .normal => resK kP R E h Tryz.f92.results.toList (fun vs => tupK vs fun v => K v h)
      | _ => false)
    | _ => false) := by kernel_rfl

end Go.Proofs.YtmdjibkgnmjhbaaGreatDoor
end
section
/- (*syn.reader).items: one call is put off at its head; what it does where nothing gave up: nothing. -/
set_option autoImplicit false
set_option linter.unusedSimpArgs false
set_option linter.unusedVariables false
namespace Go.Proofs.YtmdjibkgnmjhbaaGreatDoor
open Go Go.RowKit Go.Proofs.YtmdjibkgnmjhbaaGreatDoor.Abs

theorem iBody_eq : bodyOf kP 92 = nest [iR0] (.seq (.region 1 iOps1 false) (nest [iB0, iR4] .ret)) := by kernel_rfl
theorem iDefer_eq : bodyOf kP 158 = .seq (.region 0 iDOps0 false) (.seq (.region 1 iDOps1 false) (.cond (.tmp 7) iDThen .skip)) := by kernel_rfl
theorem ibody : Tryz.f92.body = some (bodyOf kP 92) := by kernel_rfl
theorem intm : Tryz.f92.ntmps = 18 := by kernel_rfl
theorem iDbody : Tryz.f158.body = some (bodyOf kP 158) := by kernel_rfl
theorem iDntm : Tryz.f158.ntmps = 18 := by kernel_rfl
theorem iDres : Tryz.f158.results = #[] := by kernel_rfl
theorem i1s : iOps1.size = 2 := by kernel_rfl
theorem iD0s : iDOps0.size = 2 := by kernel_rfl
theorem iD1s : iDOps1.size = 2 := by kernel_rfl

theorem wpS_regionO {P : Program} {id n : Nat} {ops : Array Oper} {Q : Exit → Act → List Frame → World → Prop} {a : Act} {cs : List Frame} {w : World} (hs : ops.size = n) (h : ∀ ops', ops' = ops → wpOpsS P ops' Q (List.range n) a cs w) : (Code.region id ops false).wpS P Q a cs w := wpS_region (by rw [hs]; exact h _ rfl)
theorem iNeq (w : World) : (do eqGuard .neq 20 (.tmp 6) (.const .nilIface) .nilIface .nilIface; Go.binOp .neq 20 .nilIface .nilIface).run kP w = .ok (.bool false) w :=
  (abin_ok (P := kP) (ι := fun _ => none) (show abin kP .neq 20 (.tmp 6) (.const .nilIface) .nilIface .nilIface = some (.bool false) by kernel_rfl) .nilIface .nilIface w).1
/-- The call that is put off, where nothing gave up. -/
theorem iDefer_ok (x y : Value) (w : World) : CallsD kP 158 #[x, y] .returning w fun e u' w' => (∃ v, e = .returned v) ∧ u' = .returning ∧ w' = w := by
  refine callsD_of_wpS Tryz.func158 iDbody fun c₀ cs hm => ?_
  rw [iDefer_eq]
  obtain ⟨o0, ho0, hd0, hp0, hg0⟩ := opG_at (show opG iDOps0 0 = some (some 5, .call { callee := .builtin .recover, args := #[], argTypes := #[] }, none) by kernel_rfl)
  obtain ⟨o1, ho1, hd1, hp1, hg1⟩ := opG_at (show opG iDOps0 1 = some (some 2, .assign (.tmp 5), none) by kernel_rfl)
  obtain ⟨p0, hq0, he0, hr0, hh0⟩ := opG_at (show opG iDOps1 0 = some (some 6, .move (.tmp 2), none) by kernel_rfl)
  obtain ⟨p1, hq1, he1, hr1, hh1⟩ := opG_at (show opG iDOps1 1 = some (some 7, .binOp .neq 20 (.tmp 6) (.const .nilIface) 20, none) by kernel_rfl)
  refine wpS_seq (wpS_regionO iD0s fun ops0 hops0 => ?_)
  rw [← hops0] at ho0 ho1
  rw [show List.range 2 = [0, 1] from rfl]
  have hrec : recoverD (c₀ :: cs) = none := by unfold recoverD; simp only [hm]
  unfold wpOpsS
  rw [ho0]
  dsimp only
  rw [if_pos (by simp only [Region.wanted, hg0])]
  have hx : ∀ ρ, (execOp ρ o0).run kP w = .ok .recover w := fun ρ => by
    unfold execOp
    rw [hp0]
    simp only [resolve, Sem.run_bind, Sem.run_pure, Result.andThen_ok, invoke]
    rfl
  rw [hx]
  dsimp only
  rw [hrec]
  dsimp only
  unfold wpOpsS
  rw [ho1]
  dsimp only
  rw [if_pos (by simp only [Region.wanted, hg1])]
  rw [exec_assign hp1]
  dsimp only [Oper.upon]
  unfold wpOpsS
  rw [hd0, hd1]
  refine wpS_of_wp ?_
  have z0 : 8 ≤ (#[x, y] ++ Array.replicate (Tryz.f158.ntmps - #[x, y].size) undef).size := by rw [iDntm]; simp
  have sz : ∀ {a : Act} {d : Option Tmp} {v : Value}, 8 ≤ a.tmps.size → 8 ≤ (a.put d v).tmps.size := fun h => by rw [put_size]; exact h
  refine wp_seq (wp_regionO iD1s fun ops1 hops1 => ?_)
  rw [← hops1] at hq0 hq1
  rw [show List.range 2 = [0, 1] from rfl]
  generalize ha : ({ tmps := #[x, y] ++ Array.replicate (Tryz.f158.ntmps - #[x, y].size) undef, defers := [] } : Act) = a
  have za : 8 ≤ a.tmps.size := by rw [← ha]; exact z0
  have da : a.defers = [] := by rw [← ha]
  have z1 := sz (d := some 5) (v := .nilIface) za
  have z2 := sz (d := some 2) (v := .nilIface) z1
  have z3 := sz (d := some 6) (v := .nilIface) z2
  rw [eval_put_same (show 5 < a.tmps.size by omega)]
  refine wpOps_step hq0 hh0 (exec_move hr0) ?_
  rw [he0, eval_put_same (by omega)]
  refine wpOps_step (v := .bool false) (w' := w) hq1 hh1 ?_ ?_
  · unfold execOp
    rw [hr1]
    dsimp only
    rw [eval_put_same (by omega)]
    have := iNeq w
    simp only [Sem.run_bind] at this ⊢
    rw [show Act.eval _ (.const .nilIface) = Value.nilIface from rfl, this]
    rfl
  rw [he1]
  refine wp_cond_false (eval_put_same (by omega)) (wp_skip ?_)
  refine ⟨da, .returning, ?_, .tuple #[], ?_, ⟨_, rfl⟩, rfl, rfl⟩
  · rw [← hm]
  · rw [results_eq, iDres]
    simp

/-! ### The whole -/
section
variable (G : GivenT)
def IRun (args : List Value) (h : Hp) (v : Value) (h' : Hp) : Prop := ∃ s0 s1 p2 p3, ChainR kP G 18 [iR0] ⟨args0 args 0 (.full 5), h⟩ .normal s0 ∧ s0.E.get 2 = some p2 ∧ s0.E.get 3 = some p3 ∧
  ChainR kP G 18 [iB0, iR4] ⟨s0.E.set 4 (some (.func (.func 158) #[] #[p2, p3])), s0.h⟩ .normal s1 ∧ aresults kP Tryz.f92 s1 = some v ∧ h' = s1.h
theorem IRun.unique {args : List Value} {h : Hp} {v1 v2 : Value} {h1 h2 : Hp} (a : IRun G args h v1 h1) (b : IRun G args h v2 h2) : v1 = v2 ∧ h1 = h2 := by
  obtain ⟨s0, s1, p2, p3, a1, a2, a3, a4, a5, a6⟩ := a
  obtain ⟨t0, t1, q2, q3, b1, b2, b3, b4, b5, b6⟩ := b
  obtain ⟨_, rfl⟩ := a1.unique b1
  rw [a2] at b2; cases b2
  rw [a3] at b3; cases b3
  obtain ⟨_, rfl⟩ := a4.unique b4
  rw [a5] at b5; cases b5
  exact ⟨rfl, a6.trans b6.symm⟩
open Classical in
noncomputable def natItems : Native := fun args h => if hx : ∃ p : Value × Hp, IRun G args h p.1 p.2 then .ret (.ret hx.choose.1, hx.choose.2) else .none
variable {G}
theorem natItems_ret {args : List Value} {h h' : Hp} {v : Value} (k : IRun G args h v h') : natItems G args h = .ret (.ret v, h') := by
  unfold natItems
  have hx : ∃ p : Value × Hp, IRun G args h p.1 p.2 := ⟨(v, h'), k⟩
  rw [dif_pos hx]
  obtain ⟨e1, e2⟩ := IRun.unique G hx.choose_spec k
  rw [e1, e2]
theorem natItems_run {args : List Value} {h h' : Hp} {r : CRet} (k : (natItems G args h).run = some (r, h')) : ∃ v, r = .ret v ∧ IRun G args h v h' := by
  unfold natItems at k
  split at k
  · rename_i hx
    cases k
    exact ⟨_, rfl, hx.choose_spec⟩
  · cases k
theorem envrel_put {ι : Nat → Option Abs.Loc} {E : Tr Value} {a : Act} {t : Nat} {v r : Value} (h : EnvRel ι E a.tmps) (ht : t < a.tmps.size) (hv : VRel ι v r) : EnvRel ι (E.set t (some v)) (a.put (some t) r).tmps := fun u => by
  rw [Tr.get_set]
  split
  · rename_i e
    subst e
    show VRel ι v ((a.tmps.setIfInBounds u r).getD u undef)
    rw [Array.getD_eq_getD_getElem?, Array.getElem?_setIfInBounds, if_pos rfl, if_pos ht]
    exact hv
  · rename_i e
    rw [getD_put_ne (fun x => e x.symm)]
    exact h u
theorem items_ok {base : Nat} {w0 : Abs.Start} (hG : GivenOk kP base w0 G) : NatOk kP base w0 92 (natItems G) := by
  intro args h r h' hg
  obtain ⟨v, rfl, s0, s1, p2, p3, a1, a2, a3, a4, a5, rfl⟩ := natItems_run hg
  have hD : DrawOk kP base w0 := adraw_ok noNG_k kmix
  have n0 := a1.n noNG_k hD hG
  have n1 := a4.n noNG_k hD hG
  refine ⟨Nat.le_trans n0 n1, fun ι w args' hI hr hgl hf => ?_⟩
  refine calls_of_wp_defers Tryz.func92 ibody ?_
  rw [iBody_eq]
  refine ChainR.ok noNG_k hD hG a1 hI (args0_rel hr _ _) (by rw [intm]; simp; omega) hgl hf fun e' b w1 hp => ?_
  obtain ⟨ι1, t1, hI1, hE1, hl1, hd1, rfl⟩ := hp
  obtain ⟨o0, ho0, hdo0, hp0, hg0⟩ := opG_at (show opG iOps1 0 = some (some 4, .makeFunc (.func 158) #[] #[.tmp 2, .tmp 3], none) by kernel_rfl)
  obtain ⟨o1, ho1, hdo1, hp1, hg1⟩ := opG_at (show opG iOps1 1 = some (none, .defer { callee := .value (.tmp 4), args := #[], argTypes := #[] }, none) by kernel_rfl)
  refine wp_seq (wp_regionO i1s fun ops1 hops1 => ?_)
  rw [← hops1] at ho0 ho1
  rw [show List.range 2 = [0, 1] from rfl]
  have h2 : VRel ι1 p2 (b.eval (.tmp 2)) := by have := hE1 2; rw [a2] at this; exact this
  have h3 : VRel ι1 p3 (b.eval (.tmp 3)) := by have := hE1 3; rw [a3] at this; exact this
  obtain ⟨q2, hq2⟩ : ∃ q, b.eval (.tmp 2) = q := ⟨_, rfl⟩
  obtain ⟨q3, hq3⟩ : ∃ q, b.eval (.tmp 3) = q := ⟨_, rfl⟩
  refine wpOps_step (v := .func (.func 158) #[] #[q2, q3]) (w' := w1) ho0 hg0 ?_ ?_
  · unfold execOp
    rw [hp0]
    simp [Instr.makeFunc, hq2, hq3]
  rw [hdo0]
  have hdf : (execOp (b.put (some 4) (.func (.func 158) #[] #[q2, q3])).eval o1).run kP w1 = .ok (.defer { target := .fn (.func 158) #[q2, q3], args := #[] }) w1 := by
    unfold execOp
    rw [hp1]
    dsimp only
    unfold resolve
    dsimp only
    rw [eval_put_same (by omega)]
    simp [Deferred.ofValue]
  unfold wpOps
  rw [ho1]
  dsimp only
  rw [if_pos (by simp only [Region.wanted, hg1])]
  refine .inl ?_
  unfold Oper.wp
  rw [hdf, Oper.upon_defer, hdo1]
  have hE2 : EnvRel ι1 (s0.E.set 4 (some (.func (.func 158) #[] #[p2, p3]))) (b.put (some 4) (.func (.func 158) #[] #[q2, q3])).tmps := by
    refine envrel_put hE1 (by omega) (.func _ _ _ _ _ rfl (fun i a _ => by simp at a) rfl fun i a b' => ?_)
    match i, a with
    | 0, _ => rw [hq2] at h2; exact h2
    | 1, _ => rw [hq3] at h3; exact h3
    | i + 2, a => exact absurd a (by simp)
  unfold wpOps
  show (nest [iB0, iR4] .ret).wp kP _ { tmps := (b.put (some 4) (.func (.func 158) #[] #[q2, q3])).tmps, defers := { target := .fn (.func 158) #[q2, q3], args := #[] } :: b.defers } w1
  refine ChainR.ok noNG_k hD hG a4 hI1 hE2 (by show 18 ≤ (b.put _ _).tmps.size; rw [put_size]; exact hl1) (Nat.le_trans hgl n0) (t1.fresh hf) fun e' a' w' hp => ?_
  obtain ⟨ι', t', hI', hE', hl', hd', rfl⟩ := hp
  refine wp_ret ?_
  show Leaves kP _ a'.tmps _ a'.defers .returning w'
  rw [hd', show b.defers = [] from hd1]
  refine leaves_cons (by intro e; cases e) (f := 158) (args := #[q2, q3]) ?_ ((iDefer_ok q2 q3 w').mono fun e u' w2 hx => ?_)
  · simp only [invoke, Array.empty_append]
    exact Go.Proofs.enters_of Tryz.func158 (by kernel_rfl) iDbody _ _
  · obtain ⟨⟨vv, rfl⟩, rfl, rfl⟩ := hx
    obtain ⟨v', hv', hvr⟩ := aresults_ok hI' hE' a5
    exact ⟨v', hv', ι', t1.trans t', hI', v', rfl, hvr⟩

noncomputable def iF (C0 : Callees) : Callees → FnT 1 := fun _ => lam 1 fun args h K => match args with
  | [v] => iA (theOps kP) C0 v h K
  | _ => false
variable {C : Callees}
theorem iF_ok {C0 : Callees} (hC : COk kP G C0) {G' : GivenT} (hG : G' 92 = some (natItems G)) : EntOk kP G' 92 ⟨1, iF C0⟩ := by
  intro C _ args h K hk
  replace hk : app noF 1 (lam 1 fun args h (K : KVH) => match args with | [v] => iA (theOps kP) C0 v h K | _ => false) args h K = true := hk
  rcases app_lam noF 1 (fun args h (K : KVH) => match args with | [v] => iA (theOps kP) C0 v h K | _ => false) args with e | e
  · rw [e] at hk
    dsimp only at hk
    split at hk
    · rename_i v
      rw [iA_eq, argsK_eq] at hk
      generalize hcs : iAn = cs at hk
      generalize hcs2 : iBn = cs2 at hk
      have hx := @chainC_ok kP G C0 hC 18 0 cs _ (args0 [v] 0 (.full 5)) _ _ (fun _ _ h => h) hk
      clear hk
      obtain ⟨e0, s0, E0, hch, hs0, hk⟩ := hx
      rw [← hcs, iAn_fst] at hch
      cases e0 with
      | normal =>
        obtain ⟨p2, hp2, hk⟩ := okB_ok (show okB (E0.get 2) _ = true from hk)
        obtain ⟨p3, hp3, hk⟩ := okB_ok hk
        rw [Tr.setK_eq] at hk
        have hx1 := @chainC_ok kP G C0 hC 18 0 cs2 _ (s0.E.set 4 (some (.func (.func 158) #[] #[p2, p3]))) _ _ (hs0.set 4 _) hk
        clear hk
        obtain ⟨e1, s1, E1, hch1, hs1, hk⟩ := hx1
        rw [← hcs2, iBn_fst] at hch1
        cases e1 with
        | normal =>
          obtain ⟨vs, hvs, hk⟩ := resK_ok hs1 (show resK kP (theOps kP) E1 s1.h Tryz.f92.results.toList _ = true from hk)
          have fin : ∀ u, aresults kP Tryz.f92 s1 = some u → K u s1.h = true → ∃ v' h', CallsTo kP G' 92 [v] h v' h' ∧ K v' h' = true := fun u hu hk => by
            refine ⟨u, s1.h, ⟨0, fun k _ => ?_⟩, hk⟩
            unfold Abs.call callBy
            rw [hG]
            dsimp only
            rw [natItems_ret ⟨s0, s1, p2, p3, hch, hs0 _ _ hp2, hs0 _ _ hp3, hch1, hu, rfl⟩]
            rfl
          unfold tupK at hk
          split at hk
          · exact fin _ (by simp only [aresults, hvs]) hk
          · rename_i us hne
            refine fin (.tuple ⟨vs⟩) ?_ hk
            simp only [aresults, hvs]
        | exit id => cases hk
        | ret => cases hk
      | exit id => cases hk
      | ret => cases hk
    · cases hk
  · rw [e] at hk; cases hk
end
end Go.Proofs.YtmdjibkgnmjhbaaGreatDoor
end
section
/- Listed maps of texts to numbers or texts: what each looks up, as a list; the sketch of a world with such maps. -/
set_option autoImplicit false
set_option linter.unusedSimpArgs false
set_option linter.unusedVariables false
namespace Go.Proofs.YtmdjibkgnmjhbaaGreatDoor.Abs
open Go Go.RowKit

/-- A listed element as a value. -/
def litV : DataW Unit → Option Value
  | .lit (.int k z) => some (.int k z)
  | .lit (.string l) => some (.string ⟨⟨l⟩⟩)
  | _ => none
/-- A listed map as a list of texts and values. -/
def tabOf : List (Lit × DataW Unit) → Option (List (ByteArray × Value))
  | [] => some []
  | (.string l, d) :: r => match litV d, tabOf r with
    | some v, some t => some ((⟨⟨l⟩⟩, v) :: t)
    | _, _ => none
  | _ => none
theorem litV_flat {d : DataW Unit} {v : Value} (h : litV d = some v) : flat v = true := by
  unfold litV at h
  split at h <;> first | (cases h; rfl) | cases h
theorem tabOf_some : ∀ {L : List (Lit × DataW Unit)} {f : List (ByteArray × Value)}, tabOf L = some f → ∀ s : ByteArray, match assocT f s with
    | some v => ∃ d, (Lit.string s.data.toList, d) ∈ L ∧ litV d = some v
    | none => ∀ d, (Lit.string s.data.toList, d) ∉ L
  | [], f, h, s => by cases h; intro d hd; cases hd
  | (.string l, d) :: r, f, h, s => by
    unfold tabOf at h
    split at h
    · rename_i v t hv ht
      cases h
      have ih := tabOf_some ht s
      show match (if beqB s ⟨⟨l⟩⟩ = true then some v else assocT t s) with | some v => _ | none => _
      by_cases hb : beqB s ⟨⟨l⟩⟩ = true
      · rw [if_pos hb]
        have e : s.data.toList = l := by simpa [beqB] using hb
        exact ⟨d, by rw [e]; exact List.mem_cons_self, hv⟩
      · rw [if_neg hb]
        have hne : s.data.toList ≠ l := fun e => hb (by simp [beqB, e])
        cases hu : assocT t s with
        | some u =>
          rw [hu] at ih
          obtain ⟨d', h1, h2⟩ := ih
          exact ⟨d', List.mem_cons_of_mem _ h1, h2⟩
        | none =>
          rw [hu] at ih
          intro d' hd
          rcases List.mem_cons.1 hd with e | hd
          · simp only [Prod.mk.injEq, Lit.string.injEq] at e
            exact hne e.1
          · exact ih d' hd
    · cases h
  | (.int _ _, _) :: _, _, h, _ => by cases h
  | (.bool _, _) :: _, _, h, _ => by cases h
  | (.float _ _, _) :: _, _, h, _ => by cases h

theorem one_cell {P : Program} {e : TypeId} {v x : Value} (he : P.underlying e = some .string ∨ ∃ kd, P.underlying e = some (.int kd)) (hf : v.formed P e = true) (hc : v.cells.toList = [x]) : v = x := by
  cases v with
  | agg cs =>
    unfold Value.formed at hf
    rcases he with h | ⟨kd, h⟩ <;> rw [h] at hf <;> cases hf
  | tuple cs => cases hf
  | _ => simpa [Value.cells] using hc

structure TabAt (P : Program) (w : World) (g bm : Nat) (f : List (ByteArray × Value)) : Prop where
  cell : ∃ ty fz, w.heap[g]? = some (.cells #[.map (some bm)] ty fz)
  map : ∃ es clock, w.heap[bm]? = some (.map es clock) ∧ ∀ kt s, P.underlying kt = some .string → match assocT f s with
      | some v => flat v = true ∧ ∃ j, ∀ w', (Instr.findKey kt (.string s) es.toList).run P w' = .ok (some (j, v)) w'
      | none => ∀ w', (Instr.findKey kt (.string s) es.toList).run P w' = .ok none w'
theorem TabAt.below {P : Program} {w w' : World} {g bm : Nat} {f : List (ByteArray × Value)} (h : TabAt P w g bm f) (hb : Below w.heap.size w w') : TabAt P w' g bm f := by
  obtain ⟨⟨ty, fz, h1⟩, ⟨es, clock, h2, h3⟩⟩ := h
  exact ⟨⟨ty, fz, (hb.block _ (Array.getElem?_eq_some_iff.1 h1).1).trans h1⟩, ⟨es, clock, (hb.block _ (Array.getElem?_eq_some_iff.1 h2).1).trans h2, h3⟩⟩

theorem mem_pair {α : Type} {a b : α} (hne : a ≠ b) : ∀ {l : List α}, a ∈ l → b ∈ l → [a, b].Sublist l ∨ [b, a].Sublist l
  | x :: l, ha, hb => by
    rcases List.mem_cons.1 ha with rfl | ha2
    · rcases List.mem_cons.1 hb with rfl | hb
      · exact absurd rfl hne
      · exact .inl ((List.singleton_sublist.2 hb).cons_cons _)
    · rcases List.mem_cons.1 hb with hb | hb
      · subst hb
        exact .inr ((List.singleton_sublist.2 ha2).cons_cons _)
      · rcases mem_pair hne ha2 hb with h | h
        · exact .inl (h.cons _)
        · exact .inr (h.cons _)
open Go.WideElems in
theorem tab_of_laid {P : Program} {w : World} {l : List (String × DataW Unit)} (h : laidMet P l w) {n : String} {L : List (Lit × DataW Unit)} (hm : (n, DataW.map L) ∈ l) {g : Nat} {t k e : TypeId} (hg : P.globalNamed n = some g) (ht : (P.globals[g]?).map (·.type) = some t)
    (hut : P.underlying t = some (.map k e)) (hk : P.underlying k = some .string) (he : P.underlying e = some .string ∨ ∃ kd, P.underlying e = some (.int kd)) {f : List (ByteArray × Value)} (hf : tabOf L = some f) : ∃ bm, TabAt P w g bm f := by
  obtain ⟨g', t', cs, fuel, p, h1, h2, h3, h4⟩ := Lib.laidMet.reads h hm
  obtain rfl := Option.some.inj (hg.symm.trans h1)
  obtain rfl := Option.some.inj (ht.symm.trans h2)
  have hv : ∃ ty fz, w.heap[g]? = some (.cells cs ty fz) := by
    unfold World.var? at h3
    rw [hg] at h3
    simp only [Option.bind_some] at h3
    split at h3
    · rename_i cs' ty fz hh
      cases h3
      exact ⟨ty, fz, hh⟩
    · cases h3
  rcases WideElems.open_map hut h4 with ⟨_, hx⟩ | ⟨bm, es, clock, m, _, hcs, hb, _, F, hx⟩
  · cases hx
  simp only [Prod.mk.injEq, DataW.map.injEq] at hx
  obtain ⟨ty, fz, hh⟩ := hv
  obtain ⟨cl⟩ := cs
  simp only at hcs
  subst hcs
  refine ⟨bm, ⟨ty, fz, hh⟩, es, clock, hb, fun kt s hkt => ?_⟩
  generalize hR : elemAt (fun _ : TypeId × Value => ()) P w 0 (fun _ => true) false m e = R at F hx
  have hL := hx.1.symm
  have perm := WideShapes.sorted_perm (es.toList.map (rg P k R))
  rw [hL] at perm
  have one : ∀ x ∈ es.toList, ∃ s' v d, x.key = .string s' ∧ x.val = v ∧ litV d = some v ∧ rg P k R x = (.string s'.data.toList, d) := by
    intro x hx
    obtain ⟨y, hy⟩ := F.reads x hx
    obtain ⟨s', e1, e2, _⟩ := WideMaps.string_of_keyOf hk (rd_key hy)
    unfold rd at hy
    rw [Option.bind_eq_some_iff] at hy
    obtain ⟨key, hk1, hy⟩ := hy
    obtain ⟨y2, hy2, rfl⟩ := Option.map_eq_some_iff.1 hy
    rw [← hR] at hy2
    unfold elemAt at hy2
    split at hy2
    · rename_i hform
      have hr : rg P k R x = (key, y2.1) := by
        unfold rg rd
        rw [hk1, ← hR]
        simp only [Option.bind_some]
        unfold elemAt
        rw [if_pos hform, hy2]
        rfl
      rcases he with he | ⟨kd, he⟩
      · obtain ⟨b, hb1, hb2, _⟩ := DataW.trod_string he hy2
        have hbx : x.val = .string b := one_cell (.inl he) hform hb1
        refine ⟨s', .string b, .lit (.string b.data.toList), e1, hbx, rfl, ?_⟩
        rw [hr, hb2]
        exact Prod.ext e2 rfl
      · obtain ⟨z, hz1, hz2, _⟩ := DataW.trod_int he hy2
        have hbx : x.val = .int kd z := one_cell (.inr ⟨kd, he⟩) hform hz1
        refine ⟨s', .int kd z, .lit (.int kd z), e1, hbx, rfl, ?_⟩
        rw [hr, hz2]
        exact Prod.ext e2 rfl
    · cases hy2
  have there : ∀ x ∈ es.toList, x.key = .string s → ∃ d, litV d = some x.val ∧ (Lit.string s.data.toList, d) ∈ L := by
    intro x hx hxk
    obtain ⟨s', v, d, e1, e2, e3, e4⟩ := one x hx
    rw [hxk] at e1
    cases e1
    exact ⟨d, by rw [e2]; exact e3, perm.mem_iff.2 (List.mem_map.2 ⟨x, hx, e4⟩)⟩
  have back : ∀ d, (Lit.string s.data.toList, d) ∈ L → ∃ x ∈ es.toList, x.key = .string s ∧ litV d = some x.val := by
    intro d hd
    obtain ⟨x, hx, hr⟩ := List.mem_map.1 (perm.mem_iff.1 hd)
    obtain ⟨s', v, d', e1, e2, e3, e4⟩ := one x hx
    rw [e4] at hr
    simp only [Prod.mk.injEq, Lit.string.injEq] at hr
    rw [str_eq hr.1] at e1
    exact ⟨x, hx, e1, by rw [← hr.2, e2]; exact e3⟩
  have hks : ∀ x ∈ es.toList, MapKept.IsKey .string x.key := fun x hx => by
    obtain ⟨s', _, _, e1, _⟩ := one x hx
    rw [e1]
    trivial
  obtain ⟨_, hnk, hap⟩ := (MapKept.stamped_iff es clock).1 F.stamped
  have hfs := tabOf_some hf s
  rcases MapKept.findNow_spec (d := .string) (k := .string s) trivial es.toList 0 hks with ⟨q1, q2⟩ | ⟨j, e0, q1, q2, q3⟩
  · cases hfn : assocT f s with
    | some v =>
      rw [hfn] at hfs
      obtain ⟨d, hd, _⟩ := hfs
      obtain ⟨x, hx, hxk, _⟩ := back d hd
      exact absurd hxk (q2 x hx)
    | none => exact fun w' => MapKept.run_findKey hkt q1
  · have he0 : e0 ∈ es.toList := List.mem_of_getElem? q2
    cases hfn : assocT f s with
    | some v =>
      rw [hfn] at hfs
      obtain ⟨d, hd, hdv⟩ := hfs
      obtain ⟨x, hx, hxk, hxv⟩ := back d hd
      have hxe : x = e0 := by
        apply Classical.byContradiction
        intro hne
        have hps : ∀ {a b : MapEntry}, [a, b].Sublist es.toList → a.key ≠ b.key := List.pairwise_iff_forall_sublist.1 hap
        rcases mem_pair hne hx he0 with hsub | hsub
        · exact hps hsub (hxk.trans q3.symm)
        · exact hps hsub (q3.trans hxk.symm)
      subst hxe
      rw [hdv] at hxv
      have hvv : v = x.val := Option.some.inj hxv
      rw [hvv]
      exact ⟨litV_flat (d := d) (by rw [hdv, hvv]), 0 + j, fun w' => MapKept.run_findKey hkt q1⟩
    | none =>
      rw [hfn] at hfs
      obtain ⟨d, _, hd⟩ := there e0 he0 q3
      exact absurd hd (hfs d)
/-- The sketch of a world with a listed map more: g the variable, m the map's number in the sketch. -/
theorem TabAt.inv {P : Program} {w : World} {g bm : Nat} {f : List (ByteArray × Value)} (h : TabAt P w g bm f) {m : Nat} (hm : P.globals.size ≤ m) (hgm : g < P.globals.size) {ι0 ι : Nat → Option Loc} {H : Nat → Option AObj} (hI : Inv P w.heap.size ⟨w, ι0⟩ ι H w)
    (h1 : ι g = none) (h2 : ι m = none) (hold : ∀ id j o', ι id = some j → H id = some o' → o'.wr = false) :
    ∃ e i j, Inv P w.heap.size ⟨w, ι0⟩ (fupd (fupd ι m (some i)) g (some j)) (fupd (fupd H m (some (.table f))) g (some (.cells [.map (some m)] e false))) w := by
  obtain ⟨⟨ty, fz, hc⟩, es, clock, hb, hF⟩ := h
  have hI1 := hI.know h2 (i := ⟨bm, 0, 0, 0⟩) (Array.getElem?_eq_some_iff.1 hb).1 (o := .table f) rfl ⟨es, clock, hb, hF⟩ hold (fun h => absurd h (by omega))
  have hne : g ≠ m := by omega
  have hold' : ∀ id j o', fupd ι m (some ⟨bm, 0, 0, 0⟩) id = some j → fupd H m (some (.table f)) id = some o' → o'.wr = false := by
    intro id j o' a b
    by_cases e : id = m
    · subst e
      rw [fupd_eq] at b
      cases b
      rfl
    · rw [fupd_ne _ _ _ _ e] at a b
      exact hold id j o' a b
  refine ⟨ty, ⟨bm, 0, 0, 0⟩, ⟨g, 0, 1, szD P ty⟩, hI1.know (by rw [fupd_ne _ _ _ _ hne]; exact h1) (Array.getElem?_eq_some_iff.1 hc).1 rfl ⟨#[.map (some bm)], fz, hc, rfl, by simp, ?_, rfl, fun h => by cases h⟩ hold' (fun _ => ⟨rfl, rfl⟩)⟩
  intro j c hj
  match j, hj with
  | 0, hj =>
    simp only [List.getElem?_cons_zero, Option.some.injEq] at hj
    subst hj
    refine ⟨.map (some bm), rfl, .map m ⟨bm, 0, 0, 0⟩ ?_⟩
    rw [fupd_ne _ _ _ _ (by omega), fupd_eq]
  | j + 1, hj => simp at hj
end Go.Proofs.YtmdjibkgnmjhbaaGreatDoor.Abs
end
section
/- Chapters from 12 on, by the quick engine: what is given of functions; what is known of the world. -/
set_option autoImplicit false
set_option linter.unusedSimpArgs false
set_option linter.unusedVariables false
namespace Go.Proofs.YtmdjibkgnmjhbaaGreatDoor
open Go Go.RowKit Go.Proofs.YtmdjibkgnmjhbaaGreatDoor.Abs

theorem MaxAt.at_ {w : World} (h : MaxAt w) : ∃ m, w.cell? ⟨7, 0, none⟩ = some (.int .i64 m) := h
noncomputable def G0 : GivenT := gAdd 160 (natRow 233 sPairs) (gAdd 127 (natFlat sHost2) (gAdd 129 (natFlat sLower) (gAdd 261 (natRow 9 sSplit) (gAdd 140 nJoin
  (gAdd 276 (natFlat sIndex) (gAdd 221 (natFlat sIndexByte) (gAdd 125 (natFlat sCut) gNone)))))))
theorem G0_ok {w : World} {ι0 : Nat → Option Abs.Loc} (h : MaxAt w) : GivenOk Tryz.prog w.heap.size ⟨w, ι0⟩ G0 := by
  obtain ⟨m, hm⟩ := h.at_
  exact (((((((GivenOk.none.add (sCut_ok h)).add sIndexByte_ok).add (sIndex_ok h)).add nJoin_ok).add (sSplit_ok hm)).add sLower_ok).add sHost2_ok).add sPairs_ok
noncomputable def G1 : GivenT := gAdd 53 (natKnown G0) (gAdd 92 (natItems G0) G0)
theorem G1_ok {w : World} {ι0 : Nat → Option Abs.Loc} (h : MaxAt w) : GivenOk Tryz.prog w.heap.size ⟨w, ι0⟩ G1 :=
  ((G0_ok h).add (items_ok (G0_ok h))).add (known_ok (G0_ok h) fun w' ι hb => G0_ok (h.below hb (Nat.le_refl _)))
noncomputable def addN (n f : Nat) (g : Native) (T : Tr Ent) : Tr Ent := T.set f (some ⟨n, natF n g⟩)
theorem addN_ok {P : Program} {G : GivenT} {T : Tr Ent} {n f : Nat} {g : Native} (hT : TabOk P G T) (hG : G f = some g) : TabOk P G (addN n f g T) := hT.add (natF_ok hG)
/-- The natives on a table. -/
noncomputable def natT (T : Tr Ent) : Tr Ent := addN 1 160 (natRow 233 sPairs) (addN 1 127 (natFlat sHost2) (addN 1 129 (natFlat sLower) (addN 2 261 (natRow 9 sSplit) (addN 2 140 nJoin
  (addN 2 276 (natFlat sIndex) (addN 2 221 (natFlat sIndexByte) (addN 2 125 (natFlat sCut) T)))))))
theorem natT_ok0 {T : Tr Ent} (hT : TabOk Tryz.prog G0 T) : TabOk Tryz.prog G0 (natT T) :=
  addN_ok (addN_ok (addN_ok (addN_ok (addN_ok (addN_ok (addN_ok (addN_ok hT rfl) rfl) rfl) rfl) rfl) rfl) rfl) rfl
/-! ### The world -/
def samesL : List (List UInt8) := [[], [78, 111, 110, 101], [76, 97, 120], [83, 116, 114, 105, 99, 116]]
noncomputable def samesC : List Value := [.string ⟨⟨[]⟩⟩, .string ⟨⟨[78, 111, 110, 101]⟩⟩, .string ⟨⟨[76, 97, 120]⟩⟩, .string ⟨⟨[83, 116, 114, 105, 99, 116]⟩⟩]
def schemesT : List (ByteArray × Value) := [(⟨⟨[104, 116, 116, 112]⟩⟩, .int .i64 (.ofNat 80)), (⟨⟨[104, 116, 116, 112, 115]⟩⟩, .int .i64 (.ofNat 443))]
def mostT : List (ByteArray × Value) := [(⟨⟨[99, 111, 111, 107, 105, 101]⟩⟩, .int .i64 (.ofNat 6)), (⟨⟨[101, 110, 100, 112, 111, 105, 110, 116]⟩⟩, .int .i64 (.ofNat 10)), (⟨⟨[111, 114, 105, 103, 105, 110]⟩⟩, .int .i64 (.ofNat 6)), (⟨⟨[112, 114, 111, 112, 101, 114, 116, 121]⟩⟩, .int .i64 (.ofNat 6)), (⟨⟨[115, 101, 99, 114, 101, 116]⟩⟩, .int .i64 (.ofNat 6))]
def askedT : List (ByteArray × Value) := [(⟨⟨[97, 116]⟩⟩, .string ⟨⟨[111, 114, 105, 103, 105, 110]⟩⟩), (⟨⟨[99, 104, 97, 110, 103, 101, 100]⟩⟩, .string ⟨⟨[101, 110, 100, 112, 111, 105, 110, 116]⟩⟩), (⟨⟨[99, 111, 114, 115]⟩⟩, .string ⟨⟨[111, 114, 105, 103, 105, 110]⟩⟩), (⟨⟨[102, 111, 114, 103, 101, 100]⟩⟩, .string ⟨⟨[101, 110, 100, 112, 111, 105, 110, 116]⟩⟩), (⟨⟨[103, 105, 118, 101, 115]⟩⟩, .string ⟨⟨[115, 101, 99, 114, 101, 116]⟩⟩), (⟨⟨[107, 110, 111, 119, 115]⟩⟩, .string ⟨⟨[115, 101, 99, 114, 101, 116]⟩⟩), (⟨⟨[110, 101, 101, 100, 115]⟩⟩, .string ⟨⟨[99, 111, 111, 107, 105, 101]⟩⟩), (⟨⟨[114, 97, 110]⟩⟩, .string ⟨⟨[111, 114, 105, 103, 105, 110]⟩⟩), (⟨⟨[114, 101, 100, 105, 114, 101, 99, 116]⟩⟩, .string ⟨⟨[101, 110, 100, 112, 111, 105, 110, 116]⟩⟩), (⟨⟨[115, 99, 114, 105, 112, 116]⟩⟩, .string ⟨⟨[111, 114, 105, 103, 105, 110]⟩⟩), (⟨⟨[115, 101, 116, 115]⟩⟩, .string ⟨⟨[99, 111, 111, 107, 105, 101]⟩⟩), (⟨⟨[115, 116, 111, 108, 101, 110]⟩⟩, .string ⟨⟨[99, 111, 111, 107, 105, 101]⟩⟩)]
structure WfWorld (w : World) : Prop where
  max : MaxAt w
  sames : VarCells w 4 samesC
  schemes : ∃ bm, TabAt Tryz.prog w 1 bm schemesT
  most : ∃ bm, TabAt Tryz.prog w 0 bm mostT
  asked : ∃ bm, TabAt Tryz.prog w 5 bm askedT
theorem WfWorld.below {w w' : World} (h : WfWorld w) (hb : Below w.heap.size w w') : WfWorld w' :=
  ⟨h.max.below hb (Nat.le_refl _), h.sames.below hb, h.schemes.imp fun _ x => x.below hb, h.most.imp fun _ x => x.below hb, h.asked.imp fun _ x => x.below hb⟩
/-- The sketch at the start: m is the first number behind the variables; m, m + 1 .. m + 4 name numbers, the maps lie behind them. -/
noncomputable def hW (e1 e2 e3 e4 : Nat) : Hp := ⟨((((((Tr.nil.set 4 (some (.cells samesC e1 false))).set 20 (some (.table schemesT))).set 1 (some (.cells [.map (some 20)] e2 false))).set 21 (some (.table mostT))).set 0 (some (.cells [.map (some 21)] e3 false))).set 22 (some (.table askedT))).set 5 (some (.cells [.map (some 22)] e4 false)), 23⟩
theorem ro_fupd {H : Nat → Option AObj} {m : Nat} {o : AObj} (h : ∀ id o', H id = some o' → o'.wr = false) (ho : o.wr = false) : ∀ id o', fupd H m (some o) id = some o' → o'.wr = false := fun id o' e => by
  by_cases x : id = m
  · subst x
    rw [fupd_eq] at e
    cases e
    exact ho
  · rw [fupd_ne _ _ _ _ x] at e
    exact h id o' e
theorem noNG_prog : noNG Tryz.prog = true := by kernel_rfl
theorem gsize : Tryz.prog.globals.size = 15 := by kernel_rfl
theorem WfWorld.inv {w : World} (h : WfWorld w) (z0 z1 z2 z3 z4 : Int) : ∃ e1 e2 e3 e4 ι, Inv Tryz.prog w.heap.size ⟨w, ι⟩ ι (hW e1 e2 e3 e4).t.get w ∧ (∀ id, 23 ≤ id → ι id = none) ∧ ι 15 = some (tokLoc z0) ∧ ι 16 = some (tokLoc z1) ∧ ι 17 = some (tokLoc z2) ∧ ι 18 = some (tokLoc z3) ∧ ι 19 = some (tokLoc z4) := by
  obtain ⟨hmax, hs, ⟨b1, t1⟩, ⟨b2, t2⟩, ⟨b3, t3⟩⟩ := h
  have hw : 0 < w.heap.size := by
    obtain ⟨m, hm⟩ := hmax.at_
    apply Classical.byContradiction
    intro hn
    have : w.heap[7]? = none := Array.getElem?_eq_none (by omega)
    simp [World.cell?, this] at hm
  obtain ⟨e1, i1, hI⟩ := Inv.know_var (Inv.start w) (P := Tryz.prog) (by rw [gsize]; decide) rfl hs (by rfl) (fun id j o' h => by cases h)
  have hr1 : ∀ id o', fupd (fun _ => none) 4 (some (AObj.cells samesC e1 false)) id = some o' → o'.wr = false := ro_fupd (fun id o' h => by cases h) rfl
  have n0 := hI.name (m := 15) rfl rfl (by rw [gsize]; decide) hw z0
  have n1 := n0.name (m := 16) rfl rfl (by rw [gsize]; decide) hw z1
  have n2 := n1.name (m := 17) rfl rfl (by rw [gsize]; decide) hw z2
  have n3 := n2.name (m := 18) rfl rfl (by rw [gsize]; decide) hw z3
  have n4 := n3.name (m := 19) rfl rfl (by rw [gsize]; decide) hw z4
  obtain ⟨e2, i2, j2, hI2⟩ := t1.inv (m := 20) (by rw [gsize]; decide) (by rw [gsize]; decide) n4 rfl rfl (fun id j o' _ h => hr1 id o' h)
  have hr2 := ro_fupd (m := 1) (o := .cells [.map (some 20)] e2 false) (ro_fupd (m := 20) (o := .table schemesT) hr1 rfl) rfl
  obtain ⟨e3, i3, j3, hI3⟩ := t2.inv (m := 21) (by rw [gsize]; decide) (by rw [gsize]; decide) hI2 rfl rfl (fun id j o' _ h => hr2 id o' h)
  have hr3 := ro_fupd (m := 0) (o := .cells [.map (some 21)] e3 false) (ro_fupd (m := 21) (o := .table mostT) hr2 rfl) rfl
  obtain ⟨e4, i4, j4, hI4⟩ := t3.inv (m := 22) (by rw [gsize]; decide) (by rw [gsize]; decide) hI3 rfl rfl (fun id j o' _ h => hr3 id o' h)
  have hf := hI4.fix
  have he : (hW e1 e2 e3 e4).t.get = fupd (fupd (fupd (fupd (fupd (fupd (fupd (fun _ => none) 4 (some (.cells samesC e1 false))) 20 (some (.table schemesT))) 1 (some (.cells [.map (some 20)] e2 false))) 21 (some (.table mostT))) 0 (some (.cells [.map (some 21)] e3 false))) 22 (some (.table askedT))) 5 (some (.cells [.map (some 22)] e4 false)) := by
    unfold hW
    rw [Tr.get_set_fun, Tr.get_set_fun, Tr.get_set_fun, Tr.get_set_fun, Tr.get_set_fun, Tr.get_set_fun, Tr.get_set_fun]
    rfl
  rw [← he] at hf
  refine ⟨e1, e2, e3, e4, _, hf, fun id hid => ?_, rfl, rfl, rfl, rfl, rfl⟩
  unfold fupd
  simp only []
  repeat (first | rfl | (rw [if_neg (by omega)]))
noncomputable def kTrue (v : Value) (h : Hp) : Bool :=
  match v with
  | .bool b => b
  | _ => false
theorem kTrue_ok {v : Value} {h : Hp} (hk : kTrue v h = true) : v = .bool true := by
  unfold kTrue at hk
  split at hk
  · rw [hk]
  · cases hk
noncomputable def sTrue : List Value → NTree Value
  | [] => .ret (.bool true)
  | _ => .none
end Go.Proofs.YtmdjibkgnmjhbaaGreatDoor
end
section
/- Low on a number that is told by its name: whatever it answers (each answer is run), or a given answer. -/
set_option autoImplicit false
set_option linter.unusedSimpArgs false
set_option linter.unusedVariables false
namespace Go.Proofs.YtmdjibkgnmjhbaaGreatDoor
open Go Go.RowKit Go.Proofs.YtmdjibkgnmjhbaaGreatDoor.Abs

noncomputable def allN (f : Nat → Bool) (n : Nat) : Bool := Nat.rec (motive := fun _ => Bool) true (fun k ih => Bool.rec (motive := fun _ => Bool) false ih (f k)) n
theorem allN_ok {f : Nat → Bool} : ∀ {n : Nat}, allN f n = true → ∀ i, i < n → f i = true
  | 0, _, i, hi => by omega
  | n + 1, h, i, hi => by
    have h' : Bool.rec (motive := fun _ => Bool) false (allN f n) (f n) = true := h
    cases hf : f n with
    | false => rw [hf] at h'; cases h'
    | true =>
      rw [hf] at h'
      by_cases e : i = n
      · rw [e]; exact hf
      · exact allN_ok (show allN f n = true from h') i (by omega)
noncomputable def hasTok (B : List (Nat × Nat)) (id n : Nat) : Bool := B.any fun x => Nat.beq x.1 id && Nat.beq x.2 n
/-- A: numbers whose answer is given. B: numbers of which each answer is run. -/
noncomputable def lowAllF (A : List (Nat × Nat × Nat)) (B : List (Nat × Nat)) (args : List Value) (h : Hp) (K : KVH) : Bool := match args with
  | [.complex .f32 id 0, .int .i64 (.ofNat n)] => match sLow.go id n A with
    | some v => K v h
    | none => match hasTok B id n with
      | true => allN (fun k => K (.int .i64 (.ofNat k)) h) n
      | false => false
  | _ => false
noncomputable def lowAll (A : List (Nat × Nat × Nat)) (B : List (Nat × Nat)) : Callees → FnT 2 := fun _ => lam 2 (lowAllF A B)
/-- What is said of the numbers' answers. -/
def LowFits (A : List (Nat × Nat × Nat)) (B : List (Nat × Nat)) (T : List (Nat × Nat × Nat)) : Prop :=
  (∀ id n v, sLow.go id n A = some v → sLow.go id n T = some v) ∧ ∀ id n, hasTok B id n = true → ∃ k, k < n ∧ sLow.go id n T = some (.int .i64 (.ofNat k))
theorem lowAll_ok {P : Program} {G : GivenT} {f : Nat} {A : List (Nat × Nat × Nat)} {B : List (Nat × Nat)} {T : List (Nat × Nat × Nat)} (hG : G f = some (natLow T)) (hT : LowFits A B T) : EntOk P G f ⟨2, lowAll A B⟩ := by
  intro C hC args h K hk0
  have hk : app noF 2 (lam 2 (lowAllF A B)) args h K = true := hk0
  clear hk0
  rcases app_lam noF 2 (lowAllF A B) args with e | e
  · rw [e] at hk
    unfold lowAllF at hk
    split at hk
    rotate_left
    · cases hk
    rename_i id n
    have fin : ∀ v, sLow.go id n T = some v → K v h = true → ∃ v h', CallsTo P G f [.complex .f32 id 0, .int .i64 (.ofNat n)] h v h' ∧ K v h' = true := fun v hv hk => by
      refine ⟨v, h, ⟨0, fun k _ => ?_⟩, hk⟩
      unfold Abs.call callBy
      rw [hG]
      show (natLow T _ h).run = _
      unfold natLow
      rw [show sLow T [.complex .f32 id 0, .int .i64 (.ofNat n)] = some v from hv]
      rfl
    cases ha : sLow.go id n A with
    | some v =>
      rw [ha] at hk
      exact fin v (hT.1 _ _ _ ha) hk
    | none =>
      rw [ha] at hk
      cases hb : hasTok B id n with
      | false => rw [hb] at hk; cases hk
      | true =>
        rw [hb] at hk
        obtain ⟨k, hkn, hv⟩ := hT.2 _ _ hb
        exact fin _ hv (allN_ok hk k hkn)
  · rw [e] at hk; cases hk
end Go.Proofs.YtmdjibkgnmjhbaaGreatDoor
end
