/- TopFirst: part 5 of its proof: KnownB, KnownC, KnownD, ItemsQ, Items, Tabs, WfNat, BoW, TopW, TextQ, BdG, Bd3, Text3, TraceQ, Trace, FreshQ, SortL, Fresh, CmpB, DelW, Del. -/
import Derived.Test.YtacknhbgfijkcaaGreatDoorMTopFirst4
import Derived.KernelRfl
import Derived.Recover
import Derived.Shelf.Abstract
import Derived.Test.YtacknhbgfijkcaaGreatDoorMTopFirst3
import Derived.WideKeyElems2
import Derived.Test.YtacknhbgfijkcaaGreatDoorProg
import Derived.Lib.UnsafeStr
import Derived.Lib.Builder
import Derived.Shelf.RegionOpenPlain
import Derived.Test.YtacknhbgfijkcaaGreatDoorMTopFirst2
import Derived.Shelf.SlIterI.Nil
import Derived.Shelf.SortM.Plain
import Derived.Shelf.SortM.SortNone
import Derived.Ground.GgzProg
import Derived.Ground.SlgmProg
import Derived.Lib.Bytealg
import Derived.WalkKit
import Derived.Deep.RegionLaw
import Derived.Lib.Walk
import Derived.Lib.SliceRun
import Derived.Deep.MidRow
import Derived.Test.YtacknhbgfijkcaaGreatDoorMTopFirst0
import Derived.Test.YtacknhbgfijkcaaGreatDoorMTopFirst1
set_option linter.unusedSimpArgs false
set_option linter.unusedVariables false
set_option linter.unusedSectionVars false
section
/- wf.known: the loop. -/
namespace Go.Proofs.YtacknhbgfijkcaaGreatDoor
open Go Go.RowKit Go.Proofs.YtacknhbgfijkcaaGreatDoor.Abs
theorem noNG_k : noNG kP = true:=by kernel_rfl
theorem known_loop {X : KX} (hX : KFix X) (hG : ∀ w ι, Below X.base X.w0.w w → GivenOk kP w.heap.size ⟨w, ι⟩ X.G) {Q : Exit → Act → World → Prop} (hQ : ∀ ι M seen a w, KCore X ι M seen a w → KTab X seen w → (leftOf X.es seen).size = 0 → Q (.exit 2) a w) :
   ∀ (n : Nat) (ι : Nat → Option Abs.Loc) (M : Nat) (seen : Array Nat) (a : Act) (w : World), (leftOf X.es seen).size = n → M + 512 * n ≤ 1 + 512 * X.es.size → KCore X ι M seen a w → KTab X seen w → LoopFrom kP kL Q a w:=by
 intro n
 induction n using Nat.strongRecOn with
 | ind n ih =>
 intro ι M seen a w hn hroom hc ht
 obtain ⟨o0, ho0, hd0, hp0, hg0⟩:=opG_at (show opG kOps13 0 = some (some 84, .next (.tmp 83) false, none) by kernel_rfl)
 obtain ⟨o1, ho1, hd1, hp1, hg1⟩:=opG_at (show opG kOps13 1 = some (some 85, .extract (.tmp 84) 0, none) by kernel_rfl)
 have sz : ∀ {a : Act} {d : Option Tmp} {v : Value}, 128 ≤ a.tmps.size → 128 ≤ (a.put d v).tmps.size:=fun h => by rw [put_size]; exact h
 refine LoopFrom.round ?_
 show (Code.seq (.region 13 kOps13 false) kTail).wp kP _ a w
 refine wp_seq ?_
 refine wp_regionO k13s fun ops hops => ?_
 rw [← hops] at ho0 ho1
 rw [show List.range 2 = [0, 1] from rfl]
 obtain ⟨c0, hc0, hit⟩:=hc.iter
 rcases run_next_at w o0.type X.r X.bF X.clock c0 seen X.es X.clock hit hc.mapF hX.old hc0 with ⟨h0, hrun⟩ | ⟨e, he, w1, hw1, hrun⟩
 · have z1:=sz (d:=some 84) (v:=.tuple #[.bool false]) hc.size
   refine wpOps_step ho0 hg0 (exec_next hp0 (by rw [show a.eval (.tmp 83) = _ from hc.it]; exact hrun)) ?_
   rw [hd0]
   refine wpOps_step ho1 hg1 (exec_ext hp1 (v:=.bool false) (by rw [eval_put_same (by have:=hc.size; omega)]; exact run_extract rfl)) ?_
   rw [hd1]
   show (kTail).wp kP _ _ w
   unfold kTail
   refine wp_seq (wp_cond_false (eval_put_same (by omega)) (wp_exit ?_))
   refine hQ ι M seen _ _ ((hc.put (by decide) (by decide) (by decide) (VRel.of_flat (v:=.tuple #[.bool false]) rfl)).put (by decide) (by decide) (by decide) (VRel.bool false)) ht h0
 · obtain ⟨hem, hns⟩:=mem_left he
   obtain ⟨s, kk, z, hes, hez⟩:=hX.keys e hem
   obtain ⟨hc2, ht2⟩:=hc.next hX hw1 e.born
   have ht2:=ht2 ht
   generalize hw2 : ChangeMaps.setBlock w1 X.r (.mapIter (some X.bF) X.clock (seen.push e.born) X.clock) = w2 at hrun hc2 ht2
   have z1:=sz (d:=some 84) (v:=.tuple #[.bool true, e.key, e.val]) hc.size
   refine wpOps_step ho0 hg0 (exec_next hp0 (by rw [show a.eval (.tmp 83) = _ from hc.it]; exact hrun)) ?_
   rw [hd0]
   refine wpOps_step ho1 hg1 (exec_ext hp1 (v:=.bool true) (by rw [eval_put_same (by have:=hc.size; omega)]; exact run_extract rfl)) ?_
   rw [hd1]
   have z2:=sz (d:=some 85) (v:=.bool true) z1
   show (kTail).wp kP _ _ w2
   unfold kTail
   refine wp_seq (wp_cond_true (eval_put_same (by omega)) (wp_skip ?_))
   obtain ⟨p0, hpo0, hpd0, hpp0, hpg0⟩:=opG_at (show opG kOps14 0 = some (some 86, .entry (.tmp 83), none) by kernel_rfl)
   obtain ⟨p1, hpo1, hpd1, hpp1, hpg1⟩:=opG_at (show opG kOps14 1 = some (some 87, .extract (.tmp 86) 0, none) by kernel_rfl)
   obtain ⟨p2, hpo2, hpd2, hpp2, hpg2⟩:=opG_at (show opG kOps14 2 = some (some 88, .extract (.tmp 86) 1, none) by kernel_rfl)
   obtain ⟨p3, hpo3, hpd3, hpp3, hpg3⟩:=opG_at (show opG kOps14 3 = some (some 10, .assign (.tmp 87), none) by kernel_rfl)
   obtain ⟨p4, hpo4, hpd4, hpp4, hpg4⟩:=opG_at (show opG kOps14 4 = some (some 11, .assign (.tmp 88), none) by kernel_rfl)
   refine wp_block (wp_seq (wp_regionO k14s fun ops2 hops2 => ?_))
   rw [← hops2] at hpo0 hpo1 hpo2 hpo3 hpo4
   rw [show List.range 5 = [0, 1, 2, 3, 4] from rfl]
   have hkey : VRel ι e.key e.key:=by rw [hes]; exact .string s
   have hval : VRel ι e.val e.val:=by rw [hez]; exact .int kk z
   have htup : VRel ι (.tuple #[e.key, e.val]) (.tuple #[e.key, e.val]):=two hkey hval
   have htup3 : VRel ι (.tuple #[.bool true, e.key, e.val]) (.tuple #[.bool true, e.key, e.val]):=VRel.of_flat (by rw [hes, hez]; rfl)
   have hen : (Instr.entry (.pointer (some ⟨X.r, 0, none⟩))).run kP w2 = .ok (.tuple #[e.key, e.val]) w2:=by
     obtain ⟨c1, _, hit2⟩:=hc2.iter
     have hit3 : w2.heap[X.r]? = some (.mapIter (some X.bF) X.clock (seen.push e.born) X.clock):=by
       rw [← hw2]
       exact set_at (by
         have : w1.heap = w.heap:=by rcases hw1 with rfl | rfl <;> rfl
         rw [this]
         exact lt_of_at hit)
     exact run_entry_at w2 X.r X.bF X.clock seen X.es X.clock e hit3 hc2.mapF hem hX.nodup
   have hA:=((hc2.put (d:=84) (by decide) (by decide) (by decide) htup3).put (d:=85) (by decide) (by decide) (by decide) (VRel.bool true))
   refine wpOps_step hpo0 hpg0 (exec_entry hpp0 (by rw [show Act.eval _ (.tmp 83) = _ from hA.it]; exact hen)) ?_
   rw [hpd0]
   have z3:=sz (d:=some 86) (v:=.tuple #[e.key, e.val]) z2
   refine wpOps_step hpo1 hpg1 (exec_ext hpp1 (v:=e.key) (by rw [eval_put_same (by omega)]; exact run_extract rfl)) ?_
   rw [hpd1]
   have z4:=sz (d:=some 87) (v:=e.key) z3
   refine wpOps_step hpo2 hpg2 (exec_ext hpp2 (v:=e.val) (by rw [eval_put_ne (by decide), eval_put_same (by omega)]; exact run_extract rfl)) ?_
   rw [hpd2]
   have z5:=sz (d:=some 88) (v:=e.val) z4
   refine wpOps_step hpo3 hpg3 (exec_assign hpp3) ?_
   rw [hpd3, eval_put_ne (show 88 ≠ 87 by decide), eval_put_same (by omega)]
   have z6:=sz (d:=some 10) (v:=e.key) z5
   refine wpOps_step hpo4 hpg4 (exec_assign hpp4) ?_
   rw [hpd4, eval_put_ne (show 10 ≠ 88 by decide), eval_put_same (by omega)]
   have hB:=((((hA.put (d:=86) (by decide) (by decide) (by decide) htup).put (d:=87) (by decide) (by decide) (by decide) hkey).put (d:=88) (by decide) (by decide) (by decide) hval).put (d:=10) (by decide) (by decide) (by decide) hkey).put (d:=11) (by decide) (by decide) (by decide) hval
   have hB10:=eval_put_same (v:=e.key) (show 10 < _ from Nat.lt_of_lt_of_le (by decide) z5)
   have hB11:=eval_put_same (v:=e.val) (show 11 < _ from Nat.lt_of_lt_of_le (by decide) z6)
   rw [← eval_put_ne (show 11 ≠ 10 by decide) (v:=e.val)] at hB10
   show (nest kPs _).wp kP _ _ w2
   generalize (((((((a.put (some 84) (.tuple #[.bool true, e.key, e.val])).put (some 85) (.bool true)).put (some 86) (.tuple #[e.key, e.val])).put (some 87) e.key).put (some 88) e.val).put (some 10) e.key).put (some 11) e.val) = aB at hB hB10 hB11 ⊢
   obtain ⟨ET, hsub, hEnv⟩:=env_exists (E:=kE X.v0 X.nv e.key e.val) hB.slots (fun t v hv => by
     rcases kE_get hv with ⟨rfl, rfl⟩ | ⟨rfl, rfl⟩ | ⟨rfl, rfl⟩ | ⟨rfl, rfl⟩
     · exact hB.s0
     · exact hB.s3
     · rw [show aB.tmps.getD 10 undef = e.key from hB10]; exact hkey
     · rw [show aB.tmps.getD 11 undef = e.val from hB11]; exact hval)
   obtain ⟨ex, s', hch, hout⟩:=hX.piece e hem ET hsub
   have hro:=hB.inv.ro
   rw [← kHro_get] at hro
   have hN : X.h.n + M ≤ X.hr.n:=by
     show _ ≤ X.h.n + (1 + 512 * X.es.size)
     omega
   refine ChainR.ok noNG_k (adraw_ok noNG_k kmix) (hG w2 ι hB.inv.below) hch hro hEnv hB.size (Nat.le_trans hX.glob (Nat.le_trans (Nat.le_add_right _ _) hN)) (fun id hid => hB.free id (Nat.le_trans hN hid)) fun e' a' w' hp => ?_
   obtain ⟨ι', t, hI', hE', hl', hd', hx⟩:=hp
   have hBl : Below w2.heap.size w2 w':=hI'.below
   have hfr : ∀ t v, (t = 0 ∨ t = 3 ∨ t = 10 ∨ t = 83) → ET.get t = some v → VRel ι' v (a'.tmps.getD t undef):=fun t v ht hv => by
     have:=hE' t
     rw [ChainR.frame hch t (kfr t ht), hv] at this
     exact this
   have h83 : a'.tmps.getD 83 undef = .pointer (some ⟨X.r, 0, none⟩):=by
     have h1:=hEnv 83
     rw [hB.it] at h1
     cases hg : ET.get 83 with
     | none => rw [hg] at h1; cases h1
     | some v =>
       rw [hg] at h1
       exact ptr_same t.grow h1 (hfr 83 v (.inr (.inr (.inr rfl))) hg)
   have hcore:=hB.later hX hN rfl t hE'.slots hl' hd' hBl hI'.lt (hfr 0 _ (.inl rfl) (hsub _ _ kE_at0)) (hfr 3 _ (.inr (.inl rfl)) (hsub _ _ kE_at3)) h83
   have hk10 : a'.eval (.tmp 10) = e.key:=by
     have:=hfr 10 _ (.inr (.inr (.inl rfl))) (hsub _ _ kE_at10)
     show a'.tmps.getD 10 undef = _
     rw [hes] at this ⊢
     exact this.flat_eq rfl
   have hsame : w'.heap[X.bC]? = w2.heap[X.bC]?:=by
     obtain ⟨ces, cc, h1, _⟩:=ht2
     exact hBl.block _ (lt_of_at h1)
   have hlt:=left_shrinks X.es seen e he
   have hb:=hout.1
   have again : ∀ a2 w2', KCore X (later (X.h.n + M) X.hr.n s'.h.n ι ι') (M + (s'.h.n - X.hr.n)) (seen.push e.born) a2 w2' → KTab X (seen.push e.born) w2' → LoopFrom kP kL Q a2 w2':=fun a2 w2' k1 k2 => by
     refine ih _ (by rw [← hn]; exact hlt) _ _ _ a2 w2' rfl ?_ k1 k2
     have : (leftOf X.es (seen.push e.born)).size + 1 ≤ n:=by rw [← hn]; exact hlt
     omega
   obtain ⟨_, hout⟩:=hout
   cases hox : X.out e with
   | none =>
     rw [hox] at hout
     have ht3:=KTab.none hX hem hox hsame ht2
     rcases hout with rfl | ⟨rfl, h120⟩
     · subst hx
       show Exit.inBlock 3 (Exit.then (LoopFrom kP kL Q) Q) (.exit 3) a' w'
       exact inBlock_hit (Q:=Exit.then (LoopFrom kP kL Q) Q) (again a' w' hcore ht3)
     · subst hx
       have h1 : a'.eval (.tmp 120) = .bool false:=by
         have:=hE' 120
         rw [h120] at this
         exact this.flat_eq rfl
       exact wp_cond_false h1 (wp_skip (again a' w' hcore ht3))
   | some v =>
     rw [hox] at hout
     obtain ⟨rfl, h120, hfv, p, h15, hld⟩:=hout
     subst hx
     have h1 : a'.eval (.tmp 120) = .bool true:=by
       have:=hE' 120
       rw [h120] at this
       exact this.flat_eq rfl
     have hp15 : VRel ι' p (a'.eval (.tmp 15)):=by
       have:=hE' 15
       rw [h15] at this
       exact this
     refine wp_cond_true h1 (k20_ok hX hcore (KTab.at_ ht2 hsame) hem hns hox hfv hk10 (fun w3 hb3 => ?_) fun a3 w3 k1 k2 => again a3 w3 k1 k2)
     obtain ⟨v', hv', hvr⟩:=aload_ok (hI'.still hb3) hp15 hld
     rw [hv', hvr.flat_eq hfv]
end Go.Proofs.YtacknhbgfijkcaaGreatDoor
end
section
/- wf.known: the whole function. -/
namespace Go.Proofs.YtacknhbgfijkcaaGreatDoor
open Go Go.RowKit Go.Proofs.YtacknhbgfijkcaaGreatDoor.Abs
def kOutOf : List MapEntry → List (Option Value) → MapEntry → Option Value
 | x :: r, o :: l, y => if x.born = y.born then o else kOutOf r l y
 | _, _, _ => none
theorem kNot_ok {s : ByteArray} {b : Nat} : ∀ {r : List MapEntry}, kNot s b r = true → ∀ y ∈ r, y.born ≠ b ∧ y.key ≠ .string s
 | [], _, y, hy => by cases hy
 | x :: r, h, y, hy => by
   have h' : ((match x.key with | .string t => !(beqB s t) | _ => false) && (!(Nat.beq b x.born) && kNot s b r)) = true:=h
   rw [Bool.and_eq_true, Bool.and_eq_true] at h'
   obtain ⟨h1, h2, h3⟩:=h'
   rcases List.mem_cons.1 hy with rfl | hy
   · refine ⟨fun e => ?_, fun e => ?_⟩
     · rw [e, Nat.beq_refl] at h2
       cases h2
     · rw [e] at h1
       simp [beqB] at h1
   · exact kNot_ok h3 y hy
theorem kOkE_ok {c : Nat} : ∀ {es : List MapEntry}, kOkE c es = true → (∀ x ∈ es, ∃ s k z, x.key = .string s ∧ x.val = .int k z) ∧ (∀ x ∈ es, x.born < c) ∧ (es.map (·.born)).Nodup ∧ ∀ x ∈ es, ∀ y ∈ es, x.key = y.key → x = y
 | [], _ => ⟨fun x h => (by cases h), fun x h => (by cases h), List.nodup_nil, fun x h => (by cases h)⟩
 | x :: r, h => by
   have h' : ((match x.key, x.val with | .string s, .int _ _ => (Nat.ble (Nat.succ x.born) c && kNot s x.born r) | _, _ => false) && kOkE c r) = true:=h
   rw [Bool.and_eq_true] at h'
   obtain ⟨h1, h2⟩:=h'
   obtain ⟨i1, i2, i3, i4⟩:=kOkE_ok h2
   split at h1
   · rename_i s k z hk hv
     rw [Bool.and_eq_true] at h1
     have hn:=kNot_ok h1.2
     refine ⟨fun y hy => ?_, fun y hy => ?_, ?_, fun y hy y' hy' e => ?_⟩
     · rcases List.mem_cons.1 hy with rfl | hy
       · exact ⟨s, k, z, hk, hv⟩
       · exact i1 y hy
     · rcases List.mem_cons.1 hy with rfl | hy
       · exact Nat.le_of_ble_eq_true h1.1
       · exact i2 y hy
     · rw [List.map_cons, List.nodup_cons]
       refine ⟨fun hm => ?_, i3⟩
       obtain ⟨y, hy, e⟩:=List.mem_map.1 hm
       exact (hn y hy).1 e
     · rcases List.mem_cons.1 hy with e1 | hy
       · rcases List.mem_cons.1 hy' with e2 | hy'
         · exact e1.trans e2.symm
         · exact absurd (e.symm.trans (by rw [e1]; exact hk)) (hn y' hy').2
       · rcases List.mem_cons.1 hy' with e2 | hy'
         · exact absurd (e.trans (by rw [e2]; exact hk)) (hn y hy).2
         · exact i4 y hy y' hy' e
   · cases h1
theorem ents_same {ι : Nat → Option Abs.Loc} : ∀ {es l : List MapEntry}, (∀ x ∈ es, ∃ s k z, x.key = .string s ∧ x.val = .int k z) → ERel ι es l → l = es
 | [], [], _, _ => rfl
 | x :: es, y :: l, hk, ⟨⟨h1, h2, h3⟩, h⟩ => by
   obtain ⟨s, k, z, e1, e2⟩:=hk x List.mem_cons_self
   have hv : y.val = x.val:=by rw [e2] at h3 ⊢; exact h3.flat_eq rfl
   obtain ⟨a, b, c⟩:=x
   obtain ⟨a', b', c'⟩:=y
   simp only at h1 h2 hv
   subst h1 h2 hv
   rw [ents_same (fun x hx => hk x (List.mem_cons_of_mem _ hx)) h]
theorem kOutOf_ok {G : GivenT} {v0 v3 : Value} {hr : Hp} : ∀ {es : List MapEntry} {l : List (Option Value)}, (es.map (·.born)).Nodup → KRounds G v0 v3 hr es l → ∀ x ∈ es, KPiece G v0 v3 hr x (kOutOf es l x)
 | [], l, _, _, x, hx => by cases hx
 | y :: r, _, hn, ⟨o, l, rfl, h1, h2⟩, x, hx => by
   rw [List.map_cons, List.nodup_cons] at hn
   show KPiece G v0 v3 hr x (if y.born = x.born then o else kOutOf r l x)
   rcases List.mem_cons.1 hx with rfl | hx
   · rw [if_pos rfl]; exact h1
   · rw [if_neg (fun e => hn.1 (List.mem_map.2 ⟨x, hx, e.symm⟩))]
     exact kOutOf_ok hn.2 h2 x hx
theorem kTab_ok {G : GivenT} {v0 v3 : Value} {hr : Hp} (s : ByteArray) : ∀ {es : List MapEntry} {l : List (Option Value)}, (es.map (·.born)).Nodup → KRounds G v0 v3 hr es l → match assocT (kTab es l) s with
   | some v => ∃ x ∈ es, x.key = .string s ∧ kOutOf es l x = some v
   | none => ∀ x ∈ es, x.key = .string s → kOutOf es l x = none
 | [], _, _, h => by
   obtain rfl : _ = []:=h
   intro x hx
   cases hx
 | y :: r, _, hn, ⟨o, l, rfl, h1, h2⟩ => by
   rw [List.map_cons, List.nodup_cons] at hn
   have ih:=kTab_ok s hn.2 h2
   have hne : ∀ x ∈ r, kOutOf (y :: r) (o :: l) x = kOutOf r l x:=fun x hx => if_neg (fun e => hn.1 (List.mem_map.2 ⟨x, hx, e.symm⟩))
   have hyy : kOutOf (y :: r) (o :: l) y = o:=if_pos rfl
   have skip : (∀ v, y.key = .string s → o ≠ some v) → assocT (kTab (y :: r) (o :: l)) s = assocT (kTab r l) s → match assocT (kTab (y :: r) (o :: l)) s with
       | some v => ∃ x ∈ y :: r, x.key = .string s ∧ kOutOf (y :: r) (o :: l) x = some v
       | none => ∀ x ∈ y :: r, x.key = .string s → kOutOf (y :: r) (o :: l) x = none:=fun hno he => by
     rw [he]
     cases hv : assocT (kTab r l) s with
     | some v =>
       rw [hv] at ih
       obtain ⟨x, hx, e1, e2⟩:=ih
       exact ⟨x, List.mem_cons_of_mem _ hx, e1, by rw [hne x hx]; exact e2⟩
     | none =>
       rw [hv] at ih
       intro x hx hk
       rcases List.mem_cons.1 hx with rfl | hx
       · rw [hyy]
         cases o with
         | none => rfl
         | some v => exact absurd rfl (hno v hk)
       · rw [hne x hx]; exact ih x hx hk
   cases o with
   | none => exact skip (fun v _ e => by cases e) rfl
   | some v =>
     cases hk : y.key with
     | string t =>
       have e1 : kTab (y :: r) (some v :: l) = (t, v) :: kTab r l:=by
         show (match y.key with | .string s => (s, v) :: kTab r l | _ => kTab r l) = _
         rw [hk]
       by_cases hb : beqB s t = true
       · have hst : s = t:=str_eq (by simpa [beqB] using hb)
         rw [e1]
         show match (if beqB s t = true then some v else assocT (kTab r l) s) with | some v => _ | none => _
         rw [if_pos hb]
         exact ⟨y, List.mem_cons_self, by rw [hk, hst], hyy⟩
       · refine skip (fun u hu => ?_) ?_
         · rw [hk] at hu
           cases hu
           exact absurd (by simp [beqB]) hb
         · rw [e1]
           show (if beqB s t = true then some v else assocT (kTab r l) s) = _
           rw [if_neg hb]
     | _ => exact skip (fun u hu => by rw [hk] at hu; cases hu) (by show assocT (match y.key with | .string s => (s, v) :: kTab r l | _ => kTab r l) s = _; rw [hk])
theorem k12m : [0, 1, 2, 3].map (kOps12[·]?) = (kOps12.toList.take 4).map some:=by kernel_rfl
theorem kbody : Tryz.f37.body = some (bodyOf kP 37):=by kernel_rfl
theorem kntm : Tryz.f37.ntmps = 128:=by kernel_rfl
theorem kres : Tryz.f37.results = #[.tmp 2]:=by kernel_rfl
theorem known_ok {base : Nat} {w0 : Abs.Start} {G : GivenT} (hG0 : GivenOk kP base w0 G) (hG : ∀ w ι, Below base w0.w w → GivenOk kP w.heap.size ⟨w, ι⟩ G) : NatOk kP base w0 37 (natKnown G):=by
 intro args h r h' hg
 obtain ⟨v, rfl, hrun⟩:=natKnown_run hg
 obtain ⟨s3, s4, fid, es, c, wr, cid, cc, nb, no, pC, outs, v0, a1, a2, a3, a4, a5, a6, a7, a8, a9, a10, a11, a12, a13, a14, a15, rfl, rfl⟩:=hrun
 have hD : DrawOk kP base w0:=adraw_ok noNG_k kmix
 have n3 : h.n ≤ s3.h.n:=a1.n noNG_k hD hG0
 have n4:=(a2.ok noNG_k hD hG0).1
 refine ⟨Nat.le_trans n3 n4, fun ι w args' hI hr hgl hf => ?_⟩
 refine calls_of_wp Tryz.func37 kbody ?_
 rw [kBody_eq]
 refine ChainR.ok noNG_k hD hG0 a1 hI (args0_rel hr _ _) (by rw [kntm]; simp; omega) hgl hf fun e' b3 w3 hp => ?_
 obtain ⟨ι3, t3, hI3, hE3, hl3, hd3, rfl⟩:=hp
 have f3:=t3.fresh hf
 obtain ⟨o4, ho4, hdo4, hp4, hg4⟩:=opG_at (show opG kOps12 4 = some (some 83, .range 67 (.tmp 82), none) by kernel_rfl)
 have hk12:=k12m
 refine wp_seq (wp_seq (wp_regionO k12s fun ops hops => ?_))
 rw [← hops] at ho4 hk12 a2
 rw [show List.range 5 = [0, 1, 2, 3] ++ [4] from rfl]
 refine wpOps_append _ _ _ (wpOps_mono (fun e b4 w4 hp => ?_) _ _ _ ((a2.ok noNG_k hD hG0).2 hk12 hI3 hE3 hl3 (Nat.le_trans hgl n3) f3))
 obtain ⟨ι4, t4, hI4, hE4, hl4, hd4, rfl⟩:=hp
 have f4:=t4.fresh f3
 obtain ⟨k1, k2, k3, k4⟩:=kOkE_ok a5
 obtain ⟨iF, hiF, h82⟩ : ∃ iF, ι4 fid = some iF ∧ b4.eval (.tmp 82) = .map (some iF.rb):=by
   have:=hE4 82
   rw [a3] at this
   generalize hq : b4.tmps.getD 82 undef = q at this
   cases this with
   | map id i hi => exact ⟨i, hi, hq⟩
 obtain ⟨es', hF1, hF2, _⟩:=hI4.obj fid iF _ hiF a4
 have hes:=ents_same k1 hF2
 have r3:=hE4 3
 rw [a7] at r3
 obtain ⟨iC, hiC⟩ : ∃ iC, ι4 cid = some iC:=by
   obtain ⟨u, _, hur⟩:=afieldAddr_ok r3 a8 w4
   obtain ⟨u', _, hur'⟩:=aload_ok hI4 hur a9
   cases hur' with
   | map id i hi => exact ⟨i, hi⟩
 obtain ⟨ces, hC1, hC2, hC3⟩:=hI4.obj cid iC _ hiC a11
 have hC3:=hC3 rfl
 have hces : ces = #[]:=by
   cases hl : ces.toList with
   | nil => exact Array.toList_eq_nil_iff.1 hl
   | cons x l => rw [hl] at hC2; exact hC2.elim
 refine wpOps_step ho4 hg4 (exec_range hp4 (by rw [h82]; exact run_range_map w4 _ _ _ _ _ _ kuF hF1)) ?_
 rw [hdo4]
 have hFlt:=lt_of_at hF1
 have hClt:=lt_of_at hC1
 have hbase4 : base ≤ w4.heap.size:=Nat.le_trans hI4.base_le hI4.below.size
 have hne : iF.rb ≠ iC.rb:=fun e => (hI4.inj cid fid iC iF _ _ hiC hiF a11 a4 (fun x => a12 x.symm) rfl) e.symm
 have hX : KFix ⟨base, w0, G, ι4, s4.h, cid, es', c, iF.rb, iC.rb, w4.heap.size, v0, nb, no, pC, kOutOf es outs, b4.defers⟩:=by
   have hsz : es'.size = es.length:=by rw [← hes, Array.length_toList]
   refine
     { fresh:=f4
       glob:=Nat.le_trans hgl (Nat.le_trans n3 n4)
       iC:=⟨iC, hiC, rfl⟩
       apart:=fun id j o h1 h2 e => ?_
       below:=fun id j h1 => hI4.lt id j h1
       baseC:=hC3
       ltC:=hClt
       ltF:=hFlt
       neF:=hne
       baseR:=hbase4
       nodup:=by show (es'.toList.map _).Nodup; rw [hes]; exact k3
       old:=by show ∀ x ∈ es'.toList, _; rw [hes]; exact k2
       keys:=by show ∀ x ∈ es'.toList, _; rw [hes]; exact k1
       kdist:=by show ∀ x ∈ es'.toList, ∀ y ∈ es'.toList, _; rw [hes]; exact k4
       piece:=?_
       fa:=a8
       ld:=by
         show aload kP _ (kHro s4.h cid es'.size) pC = _
         rw [hsz]; exact a10 }
   · have hlo:=KX.H_low h2
     unfold KX.H at h2
     dsimp only at h2 hlo
     rw [if_pos hlo, Tr.get_set] at h2
     split at h2
     · cases h2
     · rename_i hne2
       exact (hI4.inj cid id iC j _ o hiC h1 a11 h2 (fun x => hne2 x.symm) rfl) e.symm
   · show ∀ x ∈ es'.toList, KPiece G v0 _ (kHro s4.h cid es'.size) x _
     rw [hes, hsz]
     exact kOutOf_ok k3 a15
 have hni : ι4 s4.h.n = none:=f4 _ (Nat.le_refl _)
 have hgr:=Grows.upd hni (⟨w4.heap.size, 0, 0, 0⟩ : Abs.Loc)
 have hBa : Below w4.heap.size w4 (w4.alloc (.mapIter (some iF.rb) c #[] c)):=(Below.refl _ w4).alloc (Nat.le_refl _) _
 have hHsub : Abs.Inv kP base w0 ι4 (KX.H ⟨base, w0, G, ι4, s4.h, cid, es', c, iF.rb, iC.rb, w4.heap.size, v0, nb, no, pC, kOutOf es outs, b4.defers⟩) w4:=hI4.sub fun id o ho => by
   have hlo:=KX.H_low ho
   unfold KX.H at ho
   dsimp only at ho hlo
   rw [if_pos hlo, Tr.get_set] at ho
   split at ho
   · cases ho
   · exact ho
 have hcore : KCore ⟨base, w0, G, ι4, s4.h, cid, es', c, iF.rb, iC.rb, w4.heap.size, v0, nb, no, pC, kOutOf es outs, b4.defers⟩ (fupd ι4 s4.h.n (some ⟨w4.heap.size, 0, 0, 0⟩)) 1 #[] (b4.put (some 83) (.pointer (some ⟨w4.heap.size, 0, none⟩))) (w4.alloc (.mapIter (some iF.rb) c #[] c)):=by
   refine
     { low:=fun id hid => fupd_ne _ _ _ _ (by intro e; subst e; exact absurd hid (Nat.lt_irrefl _))
       free:=fun id hid => by
         dsimp only at hid ⊢
         rw [fupd_ne _ _ _ _ (by omega)]
         exact f4 id (by omega)
       inv:=(hHsub.still hBa).wide hgr (fun id o ho => fupd_ne _ _ _ _ (by have:=KX.H_low ho; dsimp only at this; omega)) fun id i hi => ?_
       slots:=(hE4.slots.grow hgr).put (some 83) (.ptr s4.h.n 0 ⟨w4.heap.size, 0, 0, 0⟩ (fupd_eq _ _ _))
       size:=by show 128 ≤ (b4.tmps.setIfInBounds _ _).size; rw [Array.size_setIfInBounds]; exact hl4
       defs:=rfl
       s0:=?_
       s3:=?_
       it:=eval_put_same (by omega)
       iter:=⟨c, Nat.le_refl _, alloc_new _ _⟩
       mapF:=(hBa.block _ hFlt).trans hF1 }
   · by_cases e : id = s4.h.n
     · subst e
       rw [fupd_eq] at hi
       cases hi
       show w4.heap.size < (w4.heap.push _).size
       simp
     · rw [fupd_ne _ _ _ _ e] at hi
       exact Nat.lt_of_lt_of_le (hI4.lt id i hi) hBa.size
   · rw [getD_put_ne (by decide)]
     have:=hE4 0
     rw [a6] at this
     exact this.grow hgr
   · rw [getD_put_ne (by decide)]
     exact r3.grow hgr
 have htab : KTab ⟨base, w0, G, ι4, s4.h, cid, es', c, iF.rb, iC.rb, w4.heap.size, v0, nb, no, pC, kOutOf es outs, b4.defers⟩ #[] (w4.alloc (.mapIter (some iF.rb) c #[] c)):=by
   refine ⟨ces, cc, (hBa.block _ hClt).trans hC1, fun e he => ?_, fun x hx hs => ?_⟩
   · rw [hces] at he
     cases he
   · simp at hs
 rw [kB2_eq]
 refine wp_block (LoopFrom.wp (known_loop hX hG (fun ιz M seen a w hc ht h0 => ?_) _ _ _ _ _ _ rfl ?_ hcore htab))
 rotate_left
 · have : (leftOf es' #[]).size ≤ es'.size:=by unfold leftOf; exact Array.size_filter_le
   show 1 + 512 * (leftOf es' #[]).size ≤ 1 + 512 * es'.size
   omega
 show Exit.inBlock 2 _ (.exit 2) a w
 refine inBlock_hit ?_
 show (Code.seq (.region 21 kOps21 false) .ret).wp kP _ a w
 have hall:=all_seen _ _ h0
 obtain ⟨o0, ho0, hdo0, hp0, hg0⟩:=opG_at (show opG kOps21 0 = some (some 127, .move (.tmp 3), none) by kernel_rfl)
 obtain ⟨o1, ho1, hdo1, hp1, hg1⟩:=opG_at (show opG kOps21 1 = some (some 2, .assign (.tmp 127), none) by kernel_rfl)
 refine wp_seq (wp_regionO k21s fun ops21 hops21 => ?_)
 rw [← hops21] at ho0 ho1
 rw [show List.range 2 = [0, 1] from rfl]
 have hsz:=hc.size
 refine wpOps_step ho0 hg0 (exec_move hp0) ?_
 rw [hdo0]
 refine wpOps_step ho1 hg1 (exec_assign hp1) ?_
 rw [hdo1, eval_put_same (by omega)]
 refine wp_ret ⟨?_, a.eval (.tmp 3), ?_, ?_⟩
 · show a.defers = []
   rw [hc.defs]
   exact hd4.trans hd3
 · rw [results_eq, kres]
   have : ((a.put (some 127) (a.eval (.tmp 3))).put (some 2) (a.eval (.tmp 3))).tmps.getD 2 undef = a.eval (.tmp 3):=eval_put_same (by rw [put_size]; omega)
   simp [resOf, this]
 have hgz : Grows ι4 ιz:=fun id i hi => by
   have hlo : id < s4.h.n:=by
     apply Classical.byContradiction
     intro hn
     rw [f4 id (by omega)] at hi
     cases hi
   rw [hc.low id hlo]
   exact hi
 have hHid : ∀ {id : Nat} {i : Abs.Loc} {o : AObj}, ι4 id = some i → id ≠ cid → s4.h.t.get id = some o → ιz id = some i ∧ KX.H ⟨base, w0, G, ι4, s4.h, cid, es', c, iF.rb, iC.rb, w4.heap.size, v0, nb, no, pC, kOutOf es outs, b4.defers⟩ id = some o:=fun {id i o} hi hne2 ho => by
   have hlo : id < s4.h.n:=by
     apply Classical.byContradiction
     intro hn
     rw [f4 id (by omega)] at hi
     cases hi
   refine ⟨hgz _ _ hi, ?_⟩
   unfold KX.H
   dsimp only
   rw [if_pos hlo, Tr.get_set_ne _ _ _ _ hne2]
   exact ho
 refine ⟨ι4, ?_, ?_, a.eval (.tmp 3), rfl, ?_⟩
 · refine (t3.trans t4).trans ?_
   rw [Tr.get_set_fun]
   exact Turn.at_block _ hiC
 · rw [Tr.get_set_fun]
   refine ⟨hc.inv.below, hc.inv.base_le, hI4.init, fun id i o h1 h2 => ?_, fun id id' i i' o o' h1 h2 h3 h4 hne2 hw => ?_, fun id i h1 => ?_, fun g hg2 hs => ?_⟩
   · by_cases e : id = cid
     · subst e
       rw [fupd_eq] at h2
       cases h2
       rw [hiC] at h1
       cases h1
       obtain ⟨czs, ccz, hz1, hz2, hz3⟩:=ht
       refine ⟨czs, ccz, hz1, fun kt s hkt => ?_⟩
       have htb:=kTab_ok s k3 a15
       have hkey : ∀ x ∈ czs.toList, MapKept.IsKey .string x.key:=fun x hx => by
         obtain ⟨y, hy, _, hyk, _⟩:=hz2 x hx
         obtain ⟨s', _, _, hs', _⟩:=hX.keys y hy
         rw [← hyk, hs']
         trivial
       rcases MapKept.findNow_spec (d:=.string) (k:=.string s) trivial czs.toList 0 hkey with ⟨q1, q2⟩ | ⟨j, e0, q1, q2, q3⟩
       · split at htb
         · rename_i v hv
           obtain ⟨x, hx, hxk, hxo⟩:=htb
           obtain ⟨e, he, hek, _⟩:=hz3 x (by rw [hes]; exact hx) (hall x (by rw [hes]; exact hx)) v hxo
           exact absurd (hek.trans hxk) (q2 e he)
         · rename_i hv
           rw [hv]
           exact fun w' => MapKept.run_findKey hkt q1
       · have he0 : e0 ∈ czs.toList:=List.mem_of_getElem? q2
         obtain ⟨y, hy, _, hyk, hyo⟩:=hz2 e0 he0
         rw [show KX.es _ = es' from rfl, hes] at hy
         split at htb
         · rename_i v hv
           obtain ⟨x, hx, hxk, hxo⟩:=htb
           obtain rfl:=k4 x hx y hy (hxk.trans (hyk.trans q3).symm)
           have hvv : v = e0.val:=by
             have:=hxo.symm.trans hyo
             exact Option.some.inj this
           rw [hv, hvv]
           have hpc:=kOutOf_ok k3 a15 x hx
           rw [hxo] at hpc
           obtain ⟨_, _, _, hko⟩:=hpc _ (fun _ _ h => h)
           refine ⟨by rw [← hvv]; exact hko.2.2.2.1, 0 + j, fun w' => MapKept.run_findKey hkt q1⟩
         · have:=htb y hy (hyk.trans q3)
           rw [show KX.out _ y = kOutOf es outs y from rfl, this] at hyo
           cases hyo
     · rw [fupd_ne _ _ _ _ e] at h2
       obtain ⟨z1, z2⟩:=hHid h1 e h2
       exact (hI4.obj id i o h1 h2).back hgz (hc.inv.obj id i o z1 z2)
   · by_cases e : id = cid
     · subst e
       rw [fupd_eq] at h3
       cases h3
       cases hw
     · rw [fupd_ne _ _ _ _ e] at h3
       by_cases e' : id' = cid
       · rw [e', hiC] at h2
         obtain rfl:=Option.some.inj h2
         exact fun x => (hI4.inj cid id iC i _ o hiC h1 a11 h3 (fun y => e y.symm) rfl) x.symm
       · rw [fupd_ne _ _ _ _ e'] at h4
         exact hI4.inj id id' i i' o o' h1 h2 h3 h4 hne2 hw
   · have:=hI4.lt id i h1
     have h83:=hc.iter
     obtain ⟨_, _, h83⟩:=h83
     exact Nat.lt_trans this (lt_of_at h83)
   · by_cases e : g = cid
     · subst e
       exact hI4.glob g hg2 (by rw [a11]; rfl)
     · rw [fupd_ne _ _ _ _ e] at hs
       exact hI4.glob g hg2 hs
 · exact (r3.back hgz (by exact hc.s3))
end Go.Proofs.YtacknhbgfijkcaaGreatDoor
end
section
/- wf.known: by the quick engine. -/
namespace Go.Proofs.YtacknhbgfijkcaaGreatDoor
open Go Go.RowKit Go.Proofs.YtacknhbgfijkcaaGreatDoor.Abs
section
variable {G : GivenT} {C : Callees}
noncomputable def eqO (a b : Option Value) : Bool :=
 match a, b with
 | none, none => true
 | some a, some b => eqV a b
 | _, _ => false
theorem eqO_ok {a b : Option Value} (h : eqO a b = true) : a = b:=by
 unfold eqO at h
 split at h
 · rfl
 · rw [eqV_ok h]
 · cases h
noncomputable def kOutL (K : Option Value → Bool) : KV:=fun v => match flat v with
 | true => K (some v)
 | false => false
noncomputable def kOutP (K : Option Value → Bool) (h : Hp) : Value → Bool:=fun p => loadC kP (theOps kP) 124 h p (kOutL K)
theorem kOutP_ok {K : Option Value → Bool} {h : Hp} {q : Value} (hk : kOutP K h q = true) : ∃ v, aload kP 124 h q = some v ∧ flat v = true ∧ K (some v) = true:=by
 have h2 : loadC kP (theOps kP) 124 h q (kOutL K) = true:=hk
 have h3:=@loadC_ok kP _ _ _ _ h2
 obtain ⟨v, hv, h4⟩:=h3
 unfold kOutL at h4
 split at h4
 · rename_i hf
   exact ⟨v, hv, hf, h4⟩
 · cases h4
noncomputable def kOut (n : Nat) (K : Option Value → Bool) (b p : Option Value) (h : Hp) : Bool :=
 match Nat.ble h.n (Nat.add n 512) with
 | true => match b with
   | none => K none
   | some (.bool false) => K none
   | some (.bool true) => okB p (kOutP K h)
   | _ => false
 | false => false
noncomputable def kOne (C : Callees) (v0 v3 k v : Value) (hr : Hp) (K : Option Value → Bool) : Bool:=kB (theOps kP) C v0 v3 k v hr (kOut hr.n K)
set_option maxRecDepth 100000 in
theorem kOne_ok (hC : COk kP G C) {v0 v3 k v : Value} {hr : Hp} {K : Option Value → Bool} (hk : kOne C v0 v3 k v hr K = true) {ET : Tr Value} (hs : SubE (kE v0 v3 k v) ET) : ∃ e s' out, ChainR kP G 128 kPs ⟨ET, hr⟩ e s' ∧ KOut hr.n e s' out ∧ K out = true:=by
 unfold kOne at hk
 rw [kB_eq] at hk
 generalize hcs : kPn = cs at hk
 have hx:=@chainC_ok kP G C hC 128 0 cs (kE v0 v3 k v) ET hr _ hs hk
 clear hk
 obtain ⟨e, s', E', hch, hs', hk⟩:=hx
 rw [← hcs, kPn_fst] at hch
 have fin : ∀ b p, kOut hr.n K b p s'.h = true → s'.h.n ≤ hr.n + 512 ∧ ((b = none ∧ K none = true) ∨ (b = some (.bool false) ∧ K none = true) ∨ (b = some (.bool true) ∧ ∃ q v, p = some q ∧ aload kP 124 s'.h q = some v ∧ flat v = true ∧ K (some v) = true)):=fun b p h => by
   unfold kOut at h
   split at h
   · rename_i hb
     refine ⟨Nat.le_of_ble_eq_true hb, ?_⟩
     split at h
     · exact .inl ⟨rfl, h⟩
     · exact .inr (.inl ⟨rfl, h⟩)
     · obtain ⟨q, rfl, h⟩:=okB_ok h
       obtain ⟨v, hv, hf, h⟩:=kOutP_ok h
       exact .inr (.inr ⟨rfl, q, v, rfl, hv, hf, h⟩)
     · cases h
   · cases h
 cases e with
 | normal =>
   obtain ⟨b, hb, hk⟩:=okB_ok (show okB (E'.get 120) (fun b => kOut hr.n K (some b) (E'.get 15) s'.h) = true from hk)
   obtain ⟨hn, h⟩:=fin _ _ hk
   rcases h with ⟨h, _⟩ | ⟨h, hk2⟩ | ⟨h, q, v, hq, hv, hf, hk2⟩
   · cases h
   · cases h
     exact ⟨_, s', none, hch, ⟨hn, .inr ⟨rfl, hs' _ _ hb⟩⟩, hk2⟩
   · cases h
     exact ⟨_, s', some v, hch, ⟨hn, rfl, hs' _ _ hb, hf, q, hs' _ _ hq, hv⟩, hk2⟩
 | exit id =>
   have hk' : (match Nat.beq id 3 with | true => kOut hr.n K none none s'.h | false => false) = true:=hk
   split at hk'
   · rename_i hid
     rw [Nat.beq_eq] at hid
     subst hid
     obtain ⟨hn, h⟩:=fin _ _ hk'
     rcases h with ⟨h, hk⟩ | ⟨h, _⟩ | ⟨h, _⟩
     · exact ⟨_, s', none, hch, ⟨hn, .inl rfl⟩, hk⟩
     · cases h
     · cases h
   · cases hk'
 | ret => cases hk
noncomputable def kRoundsQ (C : Callees) (v0 v3 : Value) (hr : Hp) : List MapEntry → (List (Option Value) → Bool) → Bool
 | [], K => K []
 | x :: r, K => kOne C v0 v3 x.key x.val hr fun o => R1 (kOne C v0 v3 x.key x.val hr (eqO o)) (kRoundsQ C v0 v3 hr r fun l => K (o :: l))
theorem kRoundsQ_ok (hC : COk kP G C) {v0 v3 : Value} {hr : Hp} : ∀ {es : List MapEntry} {K : List (Option Value) → Bool}, kRoundsQ C v0 v3 hr es K = true → ∃ l, KRounds G v0 v3 hr es l ∧ K l = true
 | [], K, hk => ⟨[], rfl, hk⟩
 | x :: r, K, hk => by
   obtain ⟨_, _, o, _, _, hk⟩:=kOne_ok hC (show kOne C v0 v3 x.key x.val hr _ = true from hk) (fun _ _ h => h)
   have hk':=bothK_ok (show bothK _ _ = true from hk)
   obtain ⟨l, h1, h2⟩:=kRoundsQ_ok hC hk'.2
   refine ⟨o :: l, ⟨o, l, rfl, fun ET hs => ?_, h1⟩, h2⟩
   obtain ⟨e, s', o2, c1, c2, c3⟩:=kOne_ok hC hk'.1 hs
   rw [← eqO_ok c3] at c2
   exact ⟨e, s', c1, c2⟩
noncomputable def kGo (C : Callees) (K : KVH) (m v0 nv : Value) (h : Hp) : Bool :=
 match m, nv with
 | .map (some fid), .pointer (some ⟨nb, no, none⟩) => match h.t.get fid with
   | some (.map es c _) => match kOkE c es with
     | true => faC kP (theOps kP) 74 3 (.pointer (some ⟨nb, no, none⟩)) fun pC => loadC kP (theOps kP) 72 h pC fun mc => match mc with
       | .map (some cid) => match h.t.get cid, Nat.beq fid cid, Nat.ble (Nat.succ cid) h.n, Nat.ble (Nat.succ fid) h.n with
         | some (.map [] _ true), false, true, true => h.t.setK cid none fun t0 => roK h.n t0 1 0 fun tr => forceN (Nat.add h.n (Nat.succ (Nat.mul 512 (lenM es)))) fun N =>
           loadC kP (theOps kP) 72 ⟨tr, N⟩ pC fun mc2 => match mc2 with
             | .map (some cid2) => match Nat.beq cid2 cid with
               | true => kRoundsQ C v0 (.pointer (some ⟨nb, no, none⟩)) ⟨tr, N⟩ es fun outs => h.t.setK cid (some (.table (kTab es outs))) fun t' => K (.pointer (some ⟨nb, no, none⟩)) ⟨t', h.n⟩
               | false => false
             | _ => false
         | _, _, _, _ => false
       | _ => false
     | false => false
   | _ => false
 | _, _ => false
noncomputable def kF (C0 : Callees) : Callees → FnT 1:=fun _ => lam 1 fun args h K => match args with
 | [v] => kA (theOps kP) C0 v h (kGo C0 K)
 | _ => false
theorem lenM_eq : ∀ es : List MapEntry, lenM es = es.length
 | [] => rfl
 | _ :: r => by show Nat.succ (lenM r) = _; rw [lenM_eq r]; rfl
theorem forceN_ok {n : Nat} {K : Nat → Bool} (h : forceN n K = true) : K n = true:=by
 cases n with
 | zero => exact h
 | succ n => exact h
theorem kF_ok {C0 : Callees} (hC : COk kP G C0) {G' : GivenT} (hG : G' 37 = some (natKnown G)) : EntOk kP G' 37 ⟨1, kF C0⟩:=by
 intro C _ args h K hk
 replace hk : app noF 1 (lam 1 fun args h (K : KVH) => match args with | [v] => kA (theOps kP) C0 v h (kGo C0 K) | _ => false) args h K = true:=hk
 rcases app_lam noF 1 (fun args h (K : KVH) => match args with | [v] => kA (theOps kP) C0 v h (kGo C0 K) | _ => false) args with e | e
 · rw [e] at hk
   dsimp only at hk
   split at hk
   · rename_i v
     rw [kA_eq] at hk
     rw [argsK_eq] at hk
     generalize hcs : kAn = cs at hk
     have hx:=@chainC_ok kP G C0 hC 128 0 cs _ (args0 [v] 0 (.full 8)) _ _ (fun _ _ h => h) hk
     clear hk
     obtain ⟨e3, s3, E3, hch, hs3, hk⟩:=hx
     rw [← hcs, kAn_fst] at hch
     cases e3 with
     | normal =>
       obtain ⟨E4, s4, hr4, hs4, hk⟩:=opsU_ok (ops:=kOps12) hC (fun _ => True) (fun _ _ _ _ _ _ => trivial) (fun o ho E _ => by
         unfold aguard
         rw [k12g o ho]) trivial hs3 (show opsU kP (theOps kP) C0 128 (kOps12.toList.take 4) E3 s3.h _ = true from hk)
       obtain ⟨m, hm, hk1⟩:=okB_ok hk
       obtain ⟨v0, hv0, hk2⟩:=okB_ok hk1
       obtain ⟨nv, hnv, hk3⟩:=okB_ok hk2
       clear hk hk1 hk2
       have hk:=hk3
       clear hk3
       unfold kGo at hk
       split at hk
       rotate_left
       · cases hk
       rename_i fid nb no
       split at hk
       rotate_left
       · cases hk
       rename_i es c wr hes
       split at hk
       rotate_left
       · cases hk
       rename_i hok
       obtain ⟨pC, hpC, hk⟩:=faC_ok hk
       obtain ⟨mc, hmc, hk⟩:=loadC_ok hk
       split at hk
       rotate_left
       · cases hk
       rename_i cid
       split at hk
       rotate_left
       · cases hk
       rename_i cc hcid hne hlt1 hlt2
       rw [Tr.setK_eq, roK_eq] at hk
       have hk:=forceN_ok hk
       have hN : Nat.add s4.h.n (Nat.succ (Nat.mul 512 (lenM es))) = s4.h.n + (1 + 512 * es.length):=by
         show s4.h.n + (512 * lenM es + 1) = _
         rw [lenM_eq]
         omega
       rw [hN] at hk
       obtain ⟨mc2, hmc2, hk⟩:=loadC_ok hk
       split at hk
       rotate_left
       · cases hk
       rename_i cid2
       split at hk
       rotate_left
       · cases hk
       rename_i hc2
       rw [Nat.beq_eq] at hc2
       subst hc2
       obtain ⟨outs, ho1, hk⟩:=kRoundsQ_ok hC hk
       rw [Tr.setK_eq] at hk
       have hrun : KRun G [v] h (.pointer (some ⟨nb, no, none⟩)) ⟨s4.h.t.set cid2 (some (.table (kTab es outs))), s4.h.n⟩ :=
         ⟨s3, s4, fid, es, c, wr, cid2, cc, nb, no, pC, outs, v0, hch, hr4, hs4 _ _ hm, hes, hok, hs4 _ _ hv0, hs4 _ _ hnv, hpC, hmc, hmc2, hcid,
           (fun e => by rw [e, Nat.beq_refl] at hne; cases hne), Nat.le_of_ble_eq_true hlt1, Nat.le_of_ble_eq_true hlt2, ho1, rfl, rfl⟩
       refine ⟨_, _, ⟨0, fun k _ => ?_⟩, hk⟩
       unfold Abs.call callBy
       rw [hG]
       dsimp only
       rw [natKnown_ret hrun]
       rfl
     | exit id => cases hk
     | ret => cases hk
   · cases hk
 · rw [e] at hk; cases hk
end
end Go.Proofs.YtacknhbgfijkcaaGreatDoor
end
section
/- Pieces of (*syn.reader).items as terms of the quick engine. -/
set_option maxRecDepth 100000
namespace Go.Proofs.YtacknhbgfijkcaaGreatDoor
open Go Go.RowKit Go.Proofs.YtacknhbgfijkcaaGreatDoor.Abs
noncomputable def iBody : Code:=bodyOf kP 59
noncomputable def iR0 : Code:=sqA iBody
noncomputable def iOps1 : Array Oper:=opsOf (sqA (sqB iBody))
noncomputable def iB0 : Code:=sqA (sqB (sqB iBody))
noncomputable def iR4 : Code:=sqA (sqB (sqB (sqB iBody)))
noncomputable def iDBody : Code:=bodyOf kP 122
noncomputable def iDOps0 : Array Oper:=opsOf (sqA iDBody)
noncomputable def iDOps1 : Array Oper:=opsOf (sqA (sqB iDBody))
noncomputable def iDThen : Code:=thenOf (sqB (sqB iDBody))
noncomputable def iAn : List (Code × Nat):=[(iR0, 13)]
theorem iAn_fst : iAn.map (·.1) = [iR0]:=rfl
noncomputable def iBn : List (Code × Nat):=[(iB0, 12), (iR4, 12)]
theorem iBn_fst : iBn.map (·.1) = [iB0, iR4]:=rfl
noncomputable def iA (R : Ops) (C : Callees) : Value → Hp → KVH → Bool:=fun (v : Value) (h : Hp) (K : KVH) => R.al 70 [(.slice none 0 0)] h fun v3p v3q => R.al 28 [(.int .i64 (.ofNat 0)), (.int .i64 (.ofNat 0))] v3q fun v3r v3s => R.jn (fun J3t : Cur (Hp → Bool) 0 => R.lp 0 (fun J3u v3v => R.jn (fun J3w : Cur (Hp → Bool) 0 => R.nk v (R.fa 0 v fun v3x => R.l1 v3v v3x fun v3y => R.lv v3y fun v3z => R.bi .gtr v3z (.int .i64 (.ofNat 0)) fun v40 => R.br v40 (J3w v3v) (J3t v3v))) fun v41 => R.jn (fun J42 : Cur (Hp → Bool) 0 => R.l1 v41 v3p fun v43 => R.l1 v41 v3p fun v4u => R.ek v4u v43 (C 123 1 v v41 fun v44 v45 => R.ug 17 v44 (fun v46 v47 v48 v49 v4a v4b v4c v4d v4e v4f v4g v4h v4i v4j v4k v4l v4m => R.rw 80 1 [v46, v47, v48, v49, v4a, v4b, v4c, v4d, v4e, v4f, v4g, v4h, v4i, v4j, v4k, v4l, v4m] v45 fun v4n v4o => R.l1 v4o v3p fun v4t => R.ek v4t v43 (R.ap ⟨[70, 70]⟩ 80 17 192 v43 v4n v4o fun v4p v4q => R.s1 v4q v3p v4p fun v4r v4s => J42 v4s)))) fun v4v => J3u v4v) fuel v3s) fun v4w => R.l1 v4w v3p fun v4x => R.ln 2 v4w v3r fun v4y => R.ln 2 v4w v3r fun v57 => R.ek v57 v4y (R.l1 v4w v3p fun v56 => R.ek v56 v4x (R.s1 v4w v3p v4x fun v4z v50 => R.ln 2 v50 v3r fun v55 => R.ek v55 v4y (R.sn 2 v50 v3r v4y fun v51 v52 => R.l1 v52 v3p fun v53 => R.ln 2 v52 v3r fun v54 => K (.tuple ⟨[v53, v54]⟩) v52)))
theorem iA_eq (R : Ops) (C : Callees) (v : Value) (h : Hp) (K : KVH) : iA R C v h K = argsK (.full 5) 0 [v] fun E => chainC kP R C 18 0 iAn E h (fun ax E h => match ax with
   | .normal => okB (E.get 2) fun p2 => okB (E.get 3) fun p3 => E.setK 4 (some (.func (.func 122) #[] #[p2, p3])) fun E => chainC kP R C 18 0 iBn E h (fun ax E h => match ax with
     | .normal => resK kP R E h Tryz.f59.results.toList (fun vs => tupK vs fun v => K v h)
     | _ => false)
   | _ => false):=by kernel_rfl
end Go.Proofs.YtacknhbgfijkcaaGreatDoor
end
section
/- (*syn.reader).items: one call is put off at its head; what it does where nothing gave up: nothing. -/
namespace Go.Proofs.YtacknhbgfijkcaaGreatDoor
open Go Go.RowKit Go.Proofs.YtacknhbgfijkcaaGreatDoor.Abs
theorem iBody_eq : bodyOf kP 59 = nest [iR0] (.seq (.region 1 iOps1 false) (nest [iB0, iR4] .ret)):=by kernel_rfl
theorem iDefer_eq : bodyOf kP 122 = .seq (.region 0 iDOps0 false) (.seq (.region 1 iDOps1 false) (.cond (.tmp 7) iDThen .skip)):=by kernel_rfl
theorem ibody : Tryz.f59.body = some (bodyOf kP 59):=by kernel_rfl
theorem intm : Tryz.f59.ntmps = 18:=by kernel_rfl
theorem iDbody : Tryz.f122.body = some (bodyOf kP 122):=by kernel_rfl
theorem iDntm : Tryz.f122.ntmps = 18:=by kernel_rfl
theorem iDres : Tryz.f122.results = #[]:=by kernel_rfl
theorem i1s : iOps1.size = 2:=by kernel_rfl
theorem iD0s : iDOps0.size = 2:=by kernel_rfl
theorem iD1s : iDOps1.size = 2:=by kernel_rfl
theorem wpS_regionO {P : Program} {id n : Nat} {ops : Array Oper} {Q : Exit → Act → List Frame → World → Prop} {a : Act} {cs : List Frame} {w : World} (hs : ops.size = n) (h : ∀ ops', ops' = ops → wpOpsS P ops' Q (List.range n) a cs w) : (Code.region id ops false).wpS P Q a cs w:=wpS_region (by rw [hs]; exact h _ rfl)
theorem iNeq (w : World) : (do eqGuard .neq 20 (.tmp 6) (.const .nilIface) .nilIface .nilIface; Go.binOp .neq 20 .nilIface .nilIface).run kP w = .ok (.bool false) w :=
 (abin_ok (P:=kP) (ι:=fun _ => none) (show abin kP .neq 20 (.tmp 6) (.const .nilIface) .nilIface .nilIface = some (.bool false) by kernel_rfl) .nilIface .nilIface w).1
theorem iDefer_ok (x y : Value) (w : World) : CallsD kP 122 #[x, y] .returning w fun e u' w' => (∃ v, e = .returned v) ∧ u' = .returning ∧ w' = w:=by
 refine callsD_of_wpS Tryz.func122 iDbody fun c₀ cs hm => ?_
 rw [iDefer_eq]
 obtain ⟨o0, ho0, hd0, hp0, hg0⟩:=opG_at (show opG iDOps0 0 = some (some 5, .call { callee:=.builtin .recover, args:=#[], argTypes:=#[] }, none) by kernel_rfl)
 obtain ⟨o1, ho1, hd1, hp1, hg1⟩:=opG_at (show opG iDOps0 1 = some (some 2, .assign (.tmp 5), none) by kernel_rfl)
 obtain ⟨p0, hq0, he0, hr0, hh0⟩:=opG_at (show opG iDOps1 0 = some (some 6, .move (.tmp 2), none) by kernel_rfl)
 obtain ⟨p1, hq1, he1, hr1, hh1⟩:=opG_at (show opG iDOps1 1 = some (some 7, .binOp .neq 20 (.tmp 6) (.const .nilIface) 20, none) by kernel_rfl)
 refine wpS_seq (wpS_regionO iD0s fun ops0 hops0 => ?_)
 rw [← hops0] at ho0 ho1
 rw [show List.range 2 = [0, 1] from rfl]
 have hrec : recoverD (c₀ :: cs) = none:=by unfold recoverD; simp only [hm]
 unfold wpOpsS
 rw [ho0]
 dsimp only
 rw [if_pos (by simp only [Region.wanted, hg0])]
 have hx : ∀ ρ, (execOp ρ o0).run kP w = .ok .recover w:=fun ρ => by
   unfold execOp
   rw [hp0]
   simp only [resolve, Sem.run_bind, Sem.run_pure, Result.andThen_ok, invoke]
   rfl
 rw [hx]
 dsimp only
 rw [hrec]
 dsimp only
 unfold wpOpsS
 rw [ho1]
 dsimp only
 rw [if_pos (by simp only [Region.wanted, hg1])]
 rw [exec_assign hp1]
 dsimp only [Oper.upon]
 unfold wpOpsS
 rw [hd0, hd1]
 refine wpS_of_wp ?_
 have z0 : 8 ≤ (#[x, y] ++ Array.replicate (Tryz.f122.ntmps - #[x, y].size) undef).size:=by rw [iDntm]; simp
 have sz : ∀ {a : Act} {d : Option Tmp} {v : Value}, 8 ≤ a.tmps.size → 8 ≤ (a.put d v).tmps.size:=fun h => by rw [put_size]; exact h
 refine wp_seq (wp_regionO iD1s fun ops1 hops1 => ?_)
 rw [← hops1] at hq0 hq1
 rw [show List.range 2 = [0, 1] from rfl]
 generalize ha : ({ tmps:=#[x, y] ++ Array.replicate (Tryz.f122.ntmps - #[x, y].size) undef, defers:=[] } : Act) = a
 have za : 8 ≤ a.tmps.size:=by rw [← ha]; exact z0
 have da : a.defers = []:=by rw [← ha]
 have z1:=sz (d:=some 5) (v:=.nilIface) za
 have z2:=sz (d:=some 2) (v:=.nilIface) z1
 have z3:=sz (d:=some 6) (v:=.nilIface) z2
 rw [eval_put_same (show 5 < a.tmps.size by omega)]
 refine wpOps_step hq0 hh0 (exec_move hr0) ?_
 rw [he0, eval_put_same (by omega)]
 refine wpOps_step (v:=.bool false) (w':=w) hq1 hh1 ?_ ?_
 · unfold execOp
   rw [hr1]
   dsimp only
   rw [eval_put_same (by omega)]
   have:=iNeq w
   simp only [Sem.run_bind] at this ⊢
   rw [show Act.eval _ (.const .nilIface) = Value.nilIface from rfl, this]
   rfl
 rw [he1]
 refine wp_cond_false (eval_put_same (by omega)) (wp_skip ?_)
 refine ⟨da, .returning, ?_, .tuple #[], ?_, ⟨_, rfl⟩, rfl, rfl⟩
 · rw [← hm]
 · rw [results_eq, iDres]
   simp
section
variable (G : GivenT)
def IRun (args : List Value) (h : Hp) (v : Value) (h' : Hp) : Prop:=∃ s0 s1 p2 p3, ChainR kP G 18 [iR0] ⟨args0 args 0 (.full 5), h⟩ .normal s0 ∧ s0.E.get 2 = some p2 ∧ s0.E.get 3 = some p3 ∧
 ChainR kP G 18 [iB0, iR4] ⟨s0.E.set 4 (some (.func (.func 122) #[] #[p2, p3])), s0.h⟩ .normal s1 ∧ aresults kP Tryz.f59 s1 = some v ∧ h' = s1.h
theorem IRun.unique {args : List Value} {h : Hp} {v1 v2 : Value} {h1 h2 : Hp} (a : IRun G args h v1 h1) (b : IRun G args h v2 h2) : v1 = v2 ∧ h1 = h2:=by
 obtain ⟨s0, s1, p2, p3, a1, a2, a3, a4, a5, a6⟩:=a
 obtain ⟨t0, t1, q2, q3, b1, b2, b3, b4, b5, b6⟩:=b
 obtain ⟨_, rfl⟩:=a1.unique b1
 rw [a2] at b2; cases b2
 rw [a3] at b3; cases b3
 obtain ⟨_, rfl⟩:=a4.unique b4
 rw [a5] at b5; cases b5
 exact ⟨rfl, a6.trans b6.symm⟩
open Classical in
noncomputable def natItems : Native:=fun args h => if hx : ∃ p : Value × Hp, IRun G args h p.1 p.2 then .ret (.ret hx.choose.1, hx.choose.2) else .none
variable {G}
theorem natItems_ret {args : List Value} {h h' : Hp} {v : Value} (k : IRun G args h v h') : natItems G args h = .ret (.ret v, h'):=by
 unfold natItems
 have hx : ∃ p : Value × Hp, IRun G args h p.1 p.2:=⟨(v, h'), k⟩
 rw [dif_pos hx]
 obtain ⟨e1, e2⟩:=IRun.unique G hx.choose_spec k
 rw [e1, e2]
theorem natItems_run {args : List Value} {h h' : Hp} {r : CRet} (k : (natItems G args h).run = some (r, h')) : ∃ v, r = .ret v ∧ IRun G args h v h':=by
 unfold natItems at k
 split at k
 · rename_i hx
   cases k
   exact ⟨_, rfl, hx.choose_spec⟩
 · cases k
theorem envrel_put {ι : Nat → Option Abs.Loc} {E : Tr Value} {a : Act} {t : Nat} {v r : Value} (h : EnvRel ι E a.tmps) (ht : t < a.tmps.size) (hv : VRel ι v r) : EnvRel ι (E.set t (some v)) (a.put (some t) r).tmps:=fun u => by
 rw [Tr.get_set]
 split
 · rename_i e
   subst e
   show VRel ι v ((a.tmps.setIfInBounds u r).getD u undef)
   rw [Array.getD_eq_getD_getElem?, Array.getElem?_setIfInBounds, if_pos rfl, if_pos ht]
   exact hv
 · rename_i e
   rw [getD_put_ne (fun x => e x.symm)]
   exact h u
theorem items_ok {base : Nat} {w0 : Abs.Start} (hG : GivenOk kP base w0 G) : NatOk kP base w0 59 (natItems G):=by
 intro args h r h' hg
 obtain ⟨v, rfl, s0, s1, p2, p3, a1, a2, a3, a4, a5, rfl⟩:=natItems_run hg
 have hD : DrawOk kP base w0:=adraw_ok noNG_k kmix
 have n0:=a1.n noNG_k hD hG
 have n1:=a4.n noNG_k hD hG
 refine ⟨Nat.le_trans n0 n1, fun ι w args' hI hr hgl hf => ?_⟩
 refine calls_of_wp_defers Tryz.func59 ibody ?_
 rw [iBody_eq]
 refine ChainR.ok noNG_k hD hG a1 hI (args0_rel hr _ _) (by rw [intm]; simp; omega) hgl hf fun e' b w1 hp => ?_
 obtain ⟨ι1, t1, hI1, hE1, hl1, hd1, rfl⟩:=hp
 obtain ⟨o0, ho0, hdo0, hp0, hg0⟩:=opG_at (show opG iOps1 0 = some (some 4, .makeFunc (.func 122) #[] #[.tmp 2, .tmp 3], none) by kernel_rfl)
 obtain ⟨o1, ho1, hdo1, hp1, hg1⟩:=opG_at (show opG iOps1 1 = some (none, .defer { callee:=.value (.tmp 4), args:=#[], argTypes:=#[] }, none) by kernel_rfl)
 refine wp_seq (wp_regionO i1s fun ops1 hops1 => ?_)
 rw [← hops1] at ho0 ho1
 rw [show List.range 2 = [0, 1] from rfl]
 have h2 : VRel ι1 p2 (b.eval (.tmp 2)):=by have:=hE1 2; rw [a2] at this; exact this
 have h3 : VRel ι1 p3 (b.eval (.tmp 3)):=by have:=hE1 3; rw [a3] at this; exact this
 obtain ⟨q2, hq2⟩ : ∃ q, b.eval (.tmp 2) = q:=⟨_, rfl⟩
 obtain ⟨q3, hq3⟩ : ∃ q, b.eval (.tmp 3) = q:=⟨_, rfl⟩
 refine wpOps_step (v:=.func (.func 122) #[] #[q2, q3]) (w':=w1) ho0 hg0 ?_ ?_
 · unfold execOp
   rw [hp0]
   simp [Instr.makeFunc, hq2, hq3]
 rw [hdo0]
 have hdf : (execOp (b.put (some 4) (.func (.func 122) #[] #[q2, q3])).eval o1).run kP w1 = .ok (.defer { target:=.fn (.func 122) #[q2, q3], args:=#[] }) w1:=by
   unfold execOp
   rw [hp1]
   dsimp only
   unfold resolve
   dsimp only
   rw [eval_put_same (by omega)]
   simp [Deferred.ofValue]
 unfold wpOps
 rw [ho1]
 dsimp only
 rw [if_pos (by simp only [Region.wanted, hg1])]
 refine .inl ?_
 unfold Oper.wp
 rw [hdf, Oper.upon_defer, hdo1]
 have hE2 : EnvRel ι1 (s0.E.set 4 (some (.func (.func 122) #[] #[p2, p3]))) (b.put (some 4) (.func (.func 122) #[] #[q2, q3])).tmps:=by
   refine envrel_put hE1 (by omega) (.func _ _ _ _ _ rfl (fun i a _ => by simp at a) rfl fun i a b' => ?_)
   match i, a with
   | 0, _ => rw [hq2] at h2; exact h2
   | 1, _ => rw [hq3] at h3; exact h3
   | i + 2, a => exact absurd a (by simp)
 unfold wpOps
 show (nest [iB0, iR4] .ret).wp kP _ { tmps:=(b.put (some 4) (.func (.func 122) #[] #[q2, q3])).tmps, defers:={ target:=.fn (.func 122) #[q2, q3], args:=#[] } :: b.defers } w1
 refine ChainR.ok noNG_k hD hG a4 hI1 hE2 (by show 18 ≤ (b.put _ _).tmps.size; rw [put_size]; exact hl1) (Nat.le_trans hgl n0) (t1.fresh hf) fun e' a' w' hp => ?_
 obtain ⟨ι', t', hI', hE', hl', hd', rfl⟩:=hp
 refine wp_ret ?_
 show Leaves kP _ a'.tmps _ a'.defers .returning w'
 rw [hd', show b.defers = [] from hd1]
 refine leaves_cons (by intro e; cases e) (f:=122) (args:=#[q2, q3]) ?_ ((iDefer_ok q2 q3 w').mono fun e u' w2 hx => ?_)
 · simp only [invoke, Array.empty_append]
   exact Go.Proofs.enters_of Tryz.func122 (by kernel_rfl) iDbody _ _
 · obtain ⟨⟨vv, rfl⟩, rfl, rfl⟩:=hx
   obtain ⟨v', hv', hvr⟩:=aresults_ok hI' hE' a5
   exact ⟨v', hv', ι', t1.trans t', hI', v', rfl, hvr⟩
noncomputable def iF (C0 : Callees) : Callees → FnT 1:=fun _ => lam 1 fun args h K => match args with
 | [v] => iA (theOps kP) C0 v h K
 | _ => false
variable {C : Callees}
theorem iF_ok {C0 : Callees} (hC : COk kP G C0) {G' : GivenT} (hG : G' 59 = some (natItems G)) : EntOk kP G' 59 ⟨1, iF C0⟩:=by
 intro C _ args h K hk
 replace hk : app noF 1 (lam 1 fun args h (K : KVH) => match args with | [v] => iA (theOps kP) C0 v h K | _ => false) args h K = true:=hk
 rcases app_lam noF 1 (fun args h (K : KVH) => match args with | [v] => iA (theOps kP) C0 v h K | _ => false) args with e | e
 · rw [e] at hk
   dsimp only at hk
   split at hk
   · rename_i v
     rw [iA_eq, argsK_eq] at hk
     generalize hcs : iAn = cs at hk
     generalize hcs2 : iBn = cs2 at hk
     have hx:=@chainC_ok kP G C0 hC 18 0 cs _ (args0 [v] 0 (.full 5)) _ _ (fun _ _ h => h) hk
     clear hk
     obtain ⟨e0, s0, E0, hch, hs0, hk⟩:=hx
     rw [← hcs, iAn_fst] at hch
     cases e0 with
     | normal =>
       obtain ⟨p2, hp2, hk⟩:=okB_ok (show okB (E0.get 2) _ = true from hk)
       obtain ⟨p3, hp3, hk⟩:=okB_ok hk
       rw [Tr.setK_eq] at hk
       have hx1:=@chainC_ok kP G C0 hC 18 0 cs2 _ (s0.E.set 4 (some (.func (.func 122) #[] #[p2, p3]))) _ _ (hs0.set 4 _) hk
       clear hk
       obtain ⟨e1, s1, E1, hch1, hs1, hk⟩:=hx1
       rw [← hcs2, iBn_fst] at hch1
       cases e1 with
       | normal =>
         obtain ⟨vs, hvs, hk⟩:=resK_ok hs1 (show resK kP (theOps kP) E1 s1.h Tryz.f59.results.toList _ = true from hk)
         have fin : ∀ u, aresults kP Tryz.f59 s1 = some u → K u s1.h = true → ∃ v' h', CallsTo kP G' 59 [v] h v' h' ∧ K v' h' = true:=fun u hu hk => by
           refine ⟨u, s1.h, ⟨0, fun k _ => ?_⟩, hk⟩
           unfold Abs.call callBy
           rw [hG]
           dsimp only
           rw [natItems_ret ⟨s0, s1, p2, p3, hch, hs0 _ _ hp2, hs0 _ _ hp3, hch1, hu, rfl⟩]
           rfl
         unfold tupK at hk
         split at hk
         · exact fin _ (by simp only [aresults, hvs]) hk
         · rename_i us hne
           refine fin (.tuple ⟨vs⟩) ?_ hk
           simp only [aresults, hvs]
       | exit id => cases hk
       | ret => cases hk
     | exit id => cases hk
     | ret => cases hk
   · cases hk
 · rw [e] at hk; cases hk
end
end Go.Proofs.YtacknhbgfijkcaaGreatDoor
end
section
/- Listed maps of texts to numbers or texts: what each looks up, as a list; the sketch of a world with such maps. -/
namespace Go.Proofs.YtacknhbgfijkcaaGreatDoor.Abs
open Go Go.RowKit
def litV : DataW Unit → Option Value
 | .lit (.int k z) => some (.int k z)
 | .lit (.string l) => some (.string ⟨⟨l⟩⟩)
 | _ => none
def tabOf : List (Lit × DataW Unit) → Option (List (ByteArray × Value))
 | [] => some []
 | (.string l, d) :: r => match litV d, tabOf r with
   | some v, some t => some ((⟨⟨l⟩⟩, v) :: t)
   | _, _ => none
 | _ => none
theorem litV_flat {d : DataW Unit} {v : Value} (h : litV d = some v) : flat v = true:=by
 unfold litV at h
 split at h <;> first | (cases h; rfl) | cases h
theorem tabOf_some : ∀ {L : List (Lit × DataW Unit)} {f : List (ByteArray × Value)}, tabOf L = some f → ∀ s : ByteArray, match assocT f s with
   | some v => ∃ d, (Lit.string s.data.toList, d) ∈ L ∧ litV d = some v
   | none => ∀ d, (Lit.string s.data.toList, d) ∉ L
 | [], f, h, s => by cases h; intro d hd; cases hd
 | (.string l, d) :: r, f, h, s => by
   unfold tabOf at h
   split at h
   · rename_i v t hv ht
     cases h
     have ih:=tabOf_some ht s
     show match (if beqB s ⟨⟨l⟩⟩ = true then some v else assocT t s) with | some v => _ | none => _
     by_cases hb : beqB s ⟨⟨l⟩⟩ = true
     · rw [if_pos hb]
       have e : s.data.toList = l:=by simpa [beqB] using hb
       exact ⟨d, by rw [e]; exact List.mem_cons_self, hv⟩
     · rw [if_neg hb]
       have hne : s.data.toList ≠ l:=fun e => hb (by simp [beqB, e])
       cases hu : assocT t s with
       | some u =>
         rw [hu] at ih
         obtain ⟨d', h1, h2⟩:=ih
         exact ⟨d', List.mem_cons_of_mem _ h1, h2⟩
       | none =>
         rw [hu] at ih
         intro d' hd
         rcases List.mem_cons.1 hd with e | hd
         · simp only [Prod.mk.injEq, Lit.string.injEq] at e
           exact hne e.1
         · exact ih d' hd
   · cases h
 | (.int _ _, _) :: _, _, h, _ => by cases h
 | (.bool _, _) :: _, _, h, _ => by cases h
 | (.float _ _, _) :: _, _, h, _ => by cases h
theorem one_cell {P : Program} {e : TypeId} {v x : Value} (he : P.underlying e = some .string ∨ ∃ kd, P.underlying e = some (.int kd)) (hf : v.formed P e = true) (hc : v.cells.toList = [x]) : v = x:=by
 cases v with
 | agg cs =>
   unfold Value.formed at hf
   rcases he with h | ⟨kd, h⟩ <;> rw [h] at hf <;> cases hf
 | tuple cs => cases hf
 | _ => simpa [Value.cells] using hc
structure TabAt (P : Program) (w : World) (g bm : Nat) (f : List (ByteArray × Value)) : Prop where
 cell : ∃ ty fz, w.heap[g]? = some (.cells #[.map (some bm)] ty fz)
 map : ∃ es clock, w.heap[bm]? = some (.map es clock) ∧ ∀ kt s, P.underlying kt = some .string → match assocT f s with
     | some v => flat v = true ∧ ∃ j, ∀ w', (Instr.findKey kt (.string s) es.toList).run P w' = .ok (some (j, v)) w'
     | none => ∀ w', (Instr.findKey kt (.string s) es.toList).run P w' = .ok none w'
theorem TabAt.below {P : Program} {w w' : World} {g bm : Nat} {f : List (ByteArray × Value)} (h : TabAt P w g bm f) (hb : Below w.heap.size w w') : TabAt P w' g bm f:=by
 obtain ⟨⟨ty, fz, h1⟩, ⟨es, clock, h2, h3⟩⟩:=h
 exact ⟨⟨ty, fz, (hb.block _ (Array.getElem?_eq_some_iff.1 h1).1).trans h1⟩, ⟨es, clock, (hb.block _ (Array.getElem?_eq_some_iff.1 h2).1).trans h2, h3⟩⟩
theorem mem_pair {α : Type} {a b : α} (hne : a ≠ b) : ∀ {l : List α}, a ∈ l → b ∈ l → [a, b].Sublist l ∨ [b, a].Sublist l
 | x :: l, ha, hb => by
   rcases List.mem_cons.1 ha with rfl | ha2
   · rcases List.mem_cons.1 hb with rfl | hb
     · exact absurd rfl hne
     · exact .inl ((List.singleton_sublist.2 hb).cons_cons _)
   · rcases List.mem_cons.1 hb with hb | hb
     · subst hb
       exact .inr ((List.singleton_sublist.2 ha2).cons_cons _)
     · rcases mem_pair hne ha2 hb with h | h
       · exact .inl (h.cons _)
       · exact .inr (h.cons _)
open Go.WideElems in
theorem tab_of_laid {P : Program} {w : World} {l : List (String × DataW Unit)} (h : laidMet P l w) {n : String} {L : List (Lit × DataW Unit)} (hm : (n, DataW.map L) ∈ l) {g : Nat} {t k e : TypeId} (hg : P.globalNamed n = some g) (ht : (P.globals[g]?).map (·.type) = some t)
   (hut : P.underlying t = some (.map k e)) (hk : P.underlying k = some .string) (he : P.underlying e = some .string ∨ ∃ kd, P.underlying e = some (.int kd)) {f : List (ByteArray × Value)} (hf : tabOf L = some f) : ∃ bm, TabAt P w g bm f:=by
 obtain ⟨g', t', cs, fuel, p, h1, h2, h3, h4⟩:=Lib.laidMet.reads h hm
 obtain rfl:=Option.some.inj (hg.symm.trans h1)
 obtain rfl:=Option.some.inj (ht.symm.trans h2)
 have hv : ∃ ty fz, w.heap[g]? = some (.cells cs ty fz):=by
   unfold World.var? at h3
   rw [hg] at h3
   simp only [Option.bind_some] at h3
   split at h3
   · rename_i cs' ty fz hh
     cases h3
     exact ⟨ty, fz, hh⟩
   · cases h3
 rcases WideElems.open_map hut h4 with ⟨_, hx⟩ | ⟨bm, es, clock, m, _, hcs, hb, _, F, hx⟩
 · cases hx
 simp only [Prod.mk.injEq, DataW.map.injEq] at hx
 obtain ⟨ty, fz, hh⟩:=hv
 obtain ⟨cl⟩:=cs
 simp only at hcs
 subst hcs
 refine ⟨bm, ⟨ty, fz, hh⟩, es, clock, hb, fun kt s hkt => ?_⟩
 generalize hR : elemAt (fun _ : TypeId × Value => ()) P w 0 (fun _ => true) false m e = R at F hx
 have hL:=hx.1.symm
 have perm:=WideShapes.sorted_perm (es.toList.map (rg P k R))
 rw [hL] at perm
 have one : ∀ x ∈ es.toList, ∃ s' v d, x.key = .string s' ∧ x.val = v ∧ litV d = some v ∧ rg P k R x = (.string s'.data.toList, d):=by
   intro x hx
   obtain ⟨y, hy⟩:=F.reads x hx
   obtain ⟨s', e1, e2, _⟩:=WideMaps.string_of_keyOf hk (rd_key hy)
   unfold rd at hy
   rw [Option.bind_eq_some_iff] at hy
   obtain ⟨key, hk1, hy⟩:=hy
   obtain ⟨y2, hy2, rfl⟩:=Option.map_eq_some_iff.1 hy
   rw [← hR] at hy2
   unfold elemAt at hy2
   split at hy2
   · rename_i hform
     have hr : rg P k R x = (key, y2.1):=by
       unfold rg rd
       rw [hk1, ← hR]
       simp only [Option.bind_some]
       unfold elemAt
       rw [if_pos hform, hy2]
       rfl
     rcases he with he | ⟨kd, he⟩
     · obtain ⟨b, hb1, hb2, _⟩:=DataW.trod_string he hy2
       have hbx : x.val = .string b:=one_cell (.inl he) hform hb1
       refine ⟨s', .string b, .lit (.string b.data.toList), e1, hbx, rfl, ?_⟩
       rw [hr, hb2]
       exact Prod.ext e2 rfl
     · obtain ⟨z, hz1, hz2, _⟩:=DataW.trod_int he hy2
       have hbx : x.val = .int kd z:=one_cell (.inr ⟨kd, he⟩) hform hz1
       refine ⟨s', .int kd z, .lit (.int kd z), e1, hbx, rfl, ?_⟩
       rw [hr, hz2]
       exact Prod.ext e2 rfl
   · cases hy2
 have there : ∀ x ∈ es.toList, x.key = .string s → ∃ d, litV d = some x.val ∧ (Lit.string s.data.toList, d) ∈ L:=by
   intro x hx hxk
   obtain ⟨s', v, d, e1, e2, e3, e4⟩:=one x hx
   rw [hxk] at e1
   cases e1
   exact ⟨d, by rw [e2]; exact e3, perm.mem_iff.2 (List.mem_map.2 ⟨x, hx, e4⟩)⟩
 have back : ∀ d, (Lit.string s.data.toList, d) ∈ L → ∃ x ∈ es.toList, x.key = .string s ∧ litV d = some x.val:=by
   intro d hd
   obtain ⟨x, hx, hr⟩:=List.mem_map.1 (perm.mem_iff.1 hd)
   obtain ⟨s', v, d', e1, e2, e3, e4⟩:=one x hx
   rw [e4] at hr
   simp only [Prod.mk.injEq, Lit.string.injEq] at hr
   rw [str_eq hr.1] at e1
   exact ⟨x, hx, e1, by rw [← hr.2, e2]; exact e3⟩
 have hks : ∀ x ∈ es.toList, MapKept.IsKey .string x.key:=fun x hx => by
   obtain ⟨s', _, _, e1, _⟩:=one x hx
   rw [e1]
   trivial
 obtain ⟨_, hnk, hap⟩:=(MapKept.stamped_iff es clock).1 F.stamped
 have hfs:=tabOf_some hf s
 rcases MapKept.findNow_spec (d:=.string) (k:=.string s) trivial es.toList 0 hks with ⟨q1, q2⟩ | ⟨j, e0, q1, q2, q3⟩
 · cases hfn : assocT f s with
   | some v =>
     rw [hfn] at hfs
     obtain ⟨d, hd, _⟩:=hfs
     obtain ⟨x, hx, hxk, _⟩:=back d hd
     exact absurd hxk (q2 x hx)
   | none => exact fun w' => MapKept.run_findKey hkt q1
 · have he0 : e0 ∈ es.toList:=List.mem_of_getElem? q2
   cases hfn : assocT f s with
   | some v =>
     rw [hfn] at hfs
     obtain ⟨d, hd, hdv⟩:=hfs
     obtain ⟨x, hx, hxk, hxv⟩:=back d hd
     have hxe : x = e0:=by
       apply Classical.byContradiction
       intro hne
       have hps : ∀ {a b : MapEntry}, [a, b].Sublist es.toList → a.key ≠ b.key:=List.pairwise_iff_forall_sublist.1 hap
       rcases mem_pair hne hx he0 with hsub | hsub
       · exact hps hsub (hxk.trans q3.symm)
       · exact hps hsub (q3.trans hxk.symm)
     subst hxe
     rw [hdv] at hxv
     have hvv : v = x.val:=Option.some.inj hxv
     rw [hvv]
     exact ⟨litV_flat (d:=d) (by rw [hdv, hvv]), 0 + j, fun w' => MapKept.run_findKey hkt q1⟩
   | none =>
     rw [hfn] at hfs
     obtain ⟨d, _, hd⟩:=there e0 he0 q3
     exact absurd hd (hfs d)
theorem TabAt.inv {P : Program} {w : World} {g bm : Nat} {f : List (ByteArray × Value)} (h : TabAt P w g bm f) {m : Nat} (hm : P.globals.size ≤ m) (hgm : g < P.globals.size) {ι0 ι : Nat → Option Loc} {H : Nat → Option AObj} (hI : Inv P w.heap.size ⟨w, ι0⟩ ι H w)
   (h1 : ι g = none) (h2 : ι m = none) (hold : ∀ id j o', ι id = some j → H id = some o' → o'.wr = false) :
   ∃ e i j, Inv P w.heap.size ⟨w, ι0⟩ (fupd (fupd ι m (some i)) g (some j)) (fupd (fupd H m (some (.table f))) g (some (.cells [.map (some m)] e false))) w:=by
 obtain ⟨⟨ty, fz, hc⟩, es, clock, hb, hF⟩:=h
 have hI1:=hI.know h2 (i:=⟨bm, 0, 0, 0⟩) (Array.getElem?_eq_some_iff.1 hb).1 (o:=.table f) rfl ⟨es, clock, hb, hF⟩ hold (fun h => absurd h (by omega))
 have hne : g ≠ m:=by omega
 have hold' : ∀ id j o', fupd ι m (some ⟨bm, 0, 0, 0⟩) id = some j → fupd H m (some (.table f)) id = some o' → o'.wr = false:=by
   intro id j o' a b
   by_cases e : id = m
   · subst e
     rw [fupd_eq] at b
     cases b
     rfl
   · rw [fupd_ne _ _ _ _ e] at a b
     exact hold id j o' a b
 refine ⟨ty, ⟨bm, 0, 0, 0⟩, ⟨g, 0, 1, szD P ty⟩, hI1.know (by rw [fupd_ne _ _ _ _ hne]; exact h1) (Array.getElem?_eq_some_iff.1 hc).1 rfl ⟨#[.map (some bm)], fz, hc, rfl, by simp, ?_, rfl, fun h => by cases h⟩ hold' (fun _ => ⟨rfl, rfl⟩)⟩
 intro j c hj
 match j, hj with
 | 0, hj =>
   simp only [List.getElem?_cons_zero, Option.some.injEq] at hj
   subst hj
   refine ⟨.map (some bm), rfl, .map m ⟨bm, 0, 0, 0⟩ ?_⟩
   rw [fupd_ne _ _ _ _ (by omega), fupd_eq]
 | j + 1, hj => simp at hj
end Go.Proofs.YtacknhbgfijkcaaGreatDoor.Abs
end
section
/- Chapters from 12 on, by the quick engine: what is given of functions; what is known of the world. -/
namespace Go.Proofs.YtacknhbgfijkcaaGreatDoor
open Go Go.RowKit Go.Proofs.YtacknhbgfijkcaaGreatDoor.Abs
theorem MaxAt.at_ {w : World} (h : MaxAt w) : ∃ m, w.cell? ⟨7, 0, none⟩ = some (.int .i64 m):=h
noncomputable def G0 : GivenT:=gAdd 126 (natRow 229 sPairs) (gAdd 125 (natFlat sHost2) (gAdd 71 (natFlat sLower) (gAdd 54 (natRow 9 sSplit) (gAdd 49 nJoin
 (gAdd 196 (natFlat sIndex) (gAdd 208 (natFlat sIndexByte) (gAdd 32 (natFlat sCut) gNone)))))))
theorem G0_ok {w : World} {ι0 : Nat → Option Abs.Loc} (h : MaxAt w) : GivenOk Tryz.prog w.heap.size ⟨w, ι0⟩ G0:=by
 obtain ⟨m, hm⟩:=h.at_
 exact (((((((GivenOk.none.add (sCut_ok h)).add sIndexByte_ok).add (sIndex_ok h)).add nJoin_ok).add (sSplit_ok hm)).add sLower_ok).add sHost2_ok).add sPairs_ok
noncomputable def G1 : GivenT:=gAdd 37 (natKnown G0) (gAdd 59 (natItems G0) G0)
theorem G1_ok {w : World} {ι0 : Nat → Option Abs.Loc} (h : MaxAt w) : GivenOk Tryz.prog w.heap.size ⟨w, ι0⟩ G1 :=
 ((G0_ok h).add (items_ok (G0_ok h))).add (known_ok (G0_ok h) fun w' ι hb => G0_ok (h.below hb (Nat.le_refl _)))
noncomputable def addN (n f : Nat) (g : Native) (T : Tr Ent) : Tr Ent:=T.set f (some ⟨n, natF n g⟩)
theorem addN_ok {P : Program} {G : GivenT} {T : Tr Ent} {n f : Nat} {g : Native} (hT : TabOk P G T) (hG : G f = some g) : TabOk P G (addN n f g T):=hT.add (natF_ok hG)
noncomputable def natT (T : Tr Ent) : Tr Ent:=addN 1 126 (natRow 229 sPairs) (addN 1 125 (natFlat sHost2) (addN 1 71 (natFlat sLower) (addN 2 54 (natRow 9 sSplit) (addN 2 49 nJoin
 (Tr.set (addN 2 208 (natFlat sIndexByte) (addN 2 32 (natFlat sCut) T)) 196 (some ⟨2, idxF⟩))))))
theorem natT_ok0 {T : Tr Ent} (hT : TabOk Tryz.prog G0 T) : TabOk Tryz.prog G0 (natT T) :=
 addN_ok (addN_ok (addN_ok (addN_ok (addN_ok ((addN_ok (addN_ok hT rfl) rfl).add (idxF_ok rfl)) rfl) rfl) rfl) rfl) rfl
def samesL : List (List UInt8):=[[], [78, 111, 110, 101], [76, 97, 120], [83, 116, 114, 105, 99, 116]]
noncomputable def samesC : List Value:=[.string ⟨⟨[]⟩⟩, .string ⟨⟨[78, 111, 110, 101]⟩⟩, .string ⟨⟨[76, 97, 120]⟩⟩, .string ⟨⟨[83, 116, 114, 105, 99, 116]⟩⟩]
def schemesT : List (ByteArray × Value):=[(⟨⟨[104, 116, 116, 112]⟩⟩, .int .i64 (.ofNat 80)), (⟨⟨[104, 116, 116, 112, 115]⟩⟩, .int .i64 (.ofNat 443))]
def mostT : List (ByteArray × Value):=[(⟨⟨[99, 111, 111, 107, 105, 101]⟩⟩, .int .i64 (.ofNat 6)), (⟨⟨[101, 110, 100, 112, 111, 105, 110, 116]⟩⟩, .int .i64 (.ofNat 10)), (⟨⟨[111, 114, 105, 103, 105, 110]⟩⟩, .int .i64 (.ofNat 6)), (⟨⟨[112, 114, 111, 112, 101, 114, 116, 121]⟩⟩, .int .i64 (.ofNat 6)), (⟨⟨[115, 101, 99, 114, 101, 116]⟩⟩, .int .i64 (.ofNat 6))]
def askedT : List (ByteArray × Value):=[(⟨⟨[97, 116]⟩⟩, .string ⟨⟨[111, 114, 105, 103, 105, 110]⟩⟩), (⟨⟨[99, 104, 97, 110, 103, 101, 100]⟩⟩, .string ⟨⟨[101, 110, 100, 112, 111, 105, 110, 116]⟩⟩), (⟨⟨[99, 111, 114, 115]⟩⟩, .string ⟨⟨[111, 114, 105, 103, 105, 110]⟩⟩), (⟨⟨[102, 111, 114, 103, 101, 100]⟩⟩, .string ⟨⟨[101, 110, 100, 112, 111, 105, 110, 116]⟩⟩), (⟨⟨[103, 105, 118, 101, 115]⟩⟩, .string ⟨⟨[115, 101, 99, 114, 101, 116]⟩⟩), (⟨⟨[107, 110, 111, 119, 115]⟩⟩, .string ⟨⟨[115, 101, 99, 114, 101, 116]⟩⟩), (⟨⟨[110, 101, 101, 100, 115]⟩⟩, .string ⟨⟨[99, 111, 111, 107, 105, 101]⟩⟩), (⟨⟨[114, 97, 110]⟩⟩, .string ⟨⟨[111, 114, 105, 103, 105, 110]⟩⟩), (⟨⟨[114, 101, 100, 105, 114, 101, 99, 116]⟩⟩, .string ⟨⟨[101, 110, 100, 112, 111, 105, 110, 116]⟩⟩), (⟨⟨[115, 99, 114, 105, 112, 116]⟩⟩, .string ⟨⟨[111, 114, 105, 103, 105, 110]⟩⟩), (⟨⟨[115, 101, 116, 115]⟩⟩, .string ⟨⟨[99, 111, 111, 107, 105, 101]⟩⟩), (⟨⟨[115, 116, 111, 108, 101, 110]⟩⟩, .string ⟨⟨[99, 111, 111, 107, 105, 101]⟩⟩)]
structure WfWorld (w : World) : Prop where
 max : MaxAt w
 sames : VarCells w 6 samesC
 schemes : ∃ bm, TabAt Tryz.prog w 4 bm schemesT
 most : ∃ bm, TabAt Tryz.prog w 1 bm mostT
 asked : ∃ bm, TabAt Tryz.prog w 5 bm askedT
theorem WfWorld.below {w w' : World} (h : WfWorld w) (hb : Below w.heap.size w w') : WfWorld w' :=
 ⟨h.max.below hb (Nat.le_refl _), h.sames.below hb, h.schemes.imp fun _ x => x.below hb, h.most.imp fun _ x => x.below hb, h.asked.imp fun _ x => x.below hb⟩
noncomputable def hW (e1 e2 e3 e4 : Nat) : Hp:=⟨((((((Tr.nil.set 6 (some (.cells samesC e1 false))).set 21 (some (.table schemesT))).set 4 (some (.cells [.map (some 21)] e2 false))).set 22 (some (.table mostT))).set 1 (some (.cells [.map (some 22)] e3 false))).set 23 (some (.table askedT))).set 5 (some (.cells [.map (some 23)] e4 false)), 24⟩
theorem ro_fupd {H : Nat → Option AObj} {m : Nat} {o : AObj} (h : ∀ id o', H id = some o' → o'.wr = false) (ho : o.wr = false) : ∀ id o', fupd H m (some o) id = some o' → o'.wr = false:=fun id o' e => by
 by_cases x : id = m
 · subst x
   rw [fupd_eq] at e
   cases e
   exact ho
 · rw [fupd_ne _ _ _ _ x] at e
   exact h id o' e
theorem noNG_prog : noNG Tryz.prog = true:=by kernel_rfl
theorem gsize : Tryz.prog.globals.size = 16:=by kernel_rfl
theorem WfWorld.inv {w : World} (h : WfWorld w) (z0 z1 z2 z3 z4 : Int) : ∃ e1 e2 e3 e4 ι, Inv Tryz.prog w.heap.size ⟨w, ι⟩ ι (hW e1 e2 e3 e4).t.get w ∧ (∀ id, 24 ≤ id → ι id = none) ∧ ι 16 = some (tokLoc z0) ∧ ι 17 = some (tokLoc z1) ∧ ι 18 = some (tokLoc z2) ∧ ι 19 = some (tokLoc z3) ∧ ι 20 = some (tokLoc z4):=by
 obtain ⟨hmax, hs, ⟨b1, t1⟩, ⟨b2, t2⟩, ⟨b3, t3⟩⟩:=h
 have hw : 0 < w.heap.size:=by
   obtain ⟨m, hm⟩:=hmax.at_
   apply Classical.byContradiction
   intro hn
   have : w.heap[7]? = none:=Array.getElem?_eq_none (by omega)
   simp [World.cell?, this] at hm
 obtain ⟨e1, i1, hI⟩:=Inv.know_var (Inv.start w) (P:=Tryz.prog) (by rw [gsize]; decide) rfl hs (by rfl) (fun id j o' h => by cases h)
 have hr1 : ∀ id o', fupd (fun _ => none) 6 (some (AObj.cells samesC e1 false)) id = some o' → o'.wr = false:=ro_fupd (fun id o' h => by cases h) rfl
 have n0:=hI.name (m:=16) rfl rfl (by rw [gsize]; decide) hw z0
 have n1:=n0.name (m:=17) rfl rfl (by rw [gsize]; decide) hw z1
 have n2:=n1.name (m:=18) rfl rfl (by rw [gsize]; decide) hw z2
 have n3:=n2.name (m:=19) rfl rfl (by rw [gsize]; decide) hw z3
 have n4:=n3.name (m:=20) rfl rfl (by rw [gsize]; decide) hw z4
 obtain ⟨e2, i2, j2, hI2⟩:=t1.inv (m:=21) (by rw [gsize]; decide) (by rw [gsize]; decide) n4 rfl rfl (fun id j o' _ h => hr1 id o' h)
 have hr2:=ro_fupd (m:=4) (o:=.cells [.map (some 21)] e2 false) (ro_fupd (m:=21) (o:=.table schemesT) hr1 rfl) rfl
 obtain ⟨e3, i3, j3, hI3⟩:=t2.inv (m:=22) (by rw [gsize]; decide) (by rw [gsize]; decide) hI2 rfl rfl (fun id j o' _ h => hr2 id o' h)
 have hr3:=ro_fupd (m:=1) (o:=.cells [.map (some 22)] e3 false) (ro_fupd (m:=22) (o:=.table mostT) hr2 rfl) rfl
 obtain ⟨e4, i4, j4, hI4⟩:=t3.inv (m:=23) (by rw [gsize]; decide) (by rw [gsize]; decide) hI3 rfl rfl (fun id j o' _ h => hr3 id o' h)
 have hf:=hI4.fix
 have he : (hW e1 e2 e3 e4).t.get = fupd (fupd (fupd (fupd (fupd (fupd (fupd (fun _ => none) 6 (some (.cells samesC e1 false))) 21 (some (.table schemesT))) 4 (some (.cells [.map (some 21)] e2 false))) 22 (some (.table mostT))) 1 (some (.cells [.map (some 22)] e3 false))) 23 (some (.table askedT))) 5 (some (.cells [.map (some 23)] e4 false)):=by
   unfold hW
   rw [Tr.get_set_fun, Tr.get_set_fun, Tr.get_set_fun, Tr.get_set_fun, Tr.get_set_fun, Tr.get_set_fun, Tr.get_set_fun, show (Tr.nil : Tr AObj).get = (fun _ => none) from funext Tr.get_nil]
 rw [← he] at hf
 refine ⟨e1, e2, e3, e4, _, hf, fun id hid => ?_, rfl, rfl, rfl, rfl, rfl⟩
 unfold fupd
 simp only []
 repeat (first | rfl | (rw [if_neg (by omega)]))
noncomputable def kTrue (v : Value) (h : Hp) : Bool :=
 match v with
 | .bool b => b
 | _ => false
theorem kTrue_ok {v : Value} {h : Hp} (hk : kTrue v h = true) : v = .bool true:=by
 unfold kTrue at hk
 split at hk
 · rw [hk]
 · cases hk
noncomputable def sTrue : List Value → NTree Value
 | [] => .ret (.bool true)
 | _ => .none
end Go.Proofs.YtacknhbgfijkcaaGreatDoor
end
section
/- The world of the rows that read build.leaves and build.joints as well. -/
namespace Go.Proofs.YtacknhbgfijkcaaGreatDoor
open Go Go.RowKit Go.Proofs.YtacknhbgfijkcaaGreatDoor.Abs
def leavesT : List (ByteArray × Value):=[(⟨⟨[99, 104, 97, 110, 103, 101, 100]⟩⟩, .int .i64 (.ofNat 1)), (⟨⟨[102, 111, 114, 103, 101, 100]⟩⟩, .int .i64 (.ofNat 2)), (⟨⟨[107, 110, 111, 119, 115]⟩⟩, .int .i64 (.ofNat 3)), (⟨⟨[114, 97, 110]⟩⟩, .int .i64 (.ofNat 5)), (⟨⟨[115, 116, 111, 108, 101, 110]⟩⟩, .int .i64 (.ofNat 4))]
def jointsT : List (ByteArray × Value):=[(⟨⟨[97, 110, 100]⟩⟩, .int .i64 (.ofNat 7)), (⟨⟨[110, 111, 116]⟩⟩, .int .i64 (.ofNat 6)), (⟨⟨[111, 114]⟩⟩, .int .i64 (.ofNat 8))]
structure BoWorld (w : World) : Prop where
 wf : WfWorld w
 leaves : ∃ bm, TabAt Tryz.prog w 2 bm leavesT
 joints : ∃ bm, TabAt Tryz.prog w 3 bm jointsT
theorem BoWorld.below {w w' : World} (h : BoWorld w) (hb : Below w.heap.size w w') : BoWorld w':=⟨h.wf.below hb, h.leaves.imp fun _ x => x.below hb, h.joints.imp fun _ x => x.below hb⟩
noncomputable def hB (e1 e2 e3 e4 e5 e6 : Nat) : Hp:=⟨((((((((((Tr.nil.set 6 (some (.cells samesC e1 false))).set 21 (some (.table schemesT))).set 4 (some (.cells [.map (some 21)] e2 false))).set 22 (some (.table mostT))).set 1 (some (.cells [.map (some 22)] e3 false))).set 23 (some (.table askedT))).set 5 (some (.cells [.map (some 23)] e4 false))).set 24 (some (.table leavesT))).set 2 (some (.cells [.map (some 24)] e5 false))).set 25 (some (.table jointsT))).set 3 (some (.cells [.map (some 25)] e6 false)), 26⟩
theorem BoWorld.inv {w : World} (h : BoWorld w) (z0 z1 z2 z3 z4 : Int) : ∃ e1 e2 e3 e4 e5 e6 ι, Inv Tryz.prog w.heap.size ⟨w, ι⟩ ι (hB e1 e2 e3 e4 e5 e6).t.get w ∧ (∀ id, 26 ≤ id → ι id = none) ∧ ι 16 = some (tokLoc z0) ∧ ι 17 = some (tokLoc z1) ∧ ι 18 = some (tokLoc z2) ∧ ι 19 = some (tokLoc z3) ∧ ι 20 = some (tokLoc z4):=by
 obtain ⟨⟨hmax, hs, ⟨b1, t1⟩, ⟨b2, t2⟩, ⟨b3, t3⟩⟩, ⟨b4, t4⟩, ⟨b5, t5⟩⟩:=h
 have hw : 0 < w.heap.size:=by
   obtain ⟨m, hm⟩:=hmax.at_
   apply Classical.byContradiction
   intro hn
   have : w.heap[7]? = none:=Array.getElem?_eq_none (by omega)
   simp [World.cell?, this] at hm
 obtain ⟨e1, i1, hI⟩:=Inv.know_var (Inv.start w) (P:=Tryz.prog) (by rw [gsize]; decide) rfl hs (by rfl) (fun id j o' h => by cases h)
 have hr1 : ∀ id o', fupd (fun _ => none) 6 (some (AObj.cells samesC e1 false)) id = some o' → o'.wr = false:=ro_fupd (fun id o' h => by cases h) rfl
 have n0:=hI.name (m:=16) rfl rfl (by rw [gsize]; decide) hw z0
 have n1:=n0.name (m:=17) rfl rfl (by rw [gsize]; decide) hw z1
 have n2:=n1.name (m:=18) rfl rfl (by rw [gsize]; decide) hw z2
 have n3:=n2.name (m:=19) rfl rfl (by rw [gsize]; decide) hw z3
 have n4:=n3.name (m:=20) rfl rfl (by rw [gsize]; decide) hw z4
 obtain ⟨e2, i2, j2, hI2⟩:=t1.inv (m:=21) (by rw [gsize]; decide) (by rw [gsize]; decide) n4 rfl rfl (fun id j o' _ h => hr1 id o' h)
 have hr2:=ro_fupd (m:=4) (o:=.cells [.map (some 21)] e2 false) (ro_fupd (m:=21) (o:=.table schemesT) hr1 rfl) rfl
 obtain ⟨e3, i3, j3, hI3⟩:=t2.inv (m:=22) (by rw [gsize]; decide) (by rw [gsize]; decide) hI2 rfl rfl (fun id j o' _ h => hr2 id o' h)
 have hr3:=ro_fupd (m:=1) (o:=.cells [.map (some 22)] e3 false) (ro_fupd (m:=22) (o:=.table mostT) hr2 rfl) rfl
 obtain ⟨e4, i4, j4, hI4⟩:=t3.inv (m:=23) (by rw [gsize]; decide) (by rw [gsize]; decide) hI3 rfl rfl (fun id j o' _ h => hr3 id o' h)
 have hr4:=ro_fupd (m:=5) (o:=.cells [.map (some 23)] e4 false) (ro_fupd (m:=23) (o:=.table askedT) hr3 rfl) rfl
 obtain ⟨e5, i5, j5, hI5⟩:=t4.inv (m:=24) (by rw [gsize]; decide) (by rw [gsize]; decide) hI4 rfl rfl (fun id j o' _ h => hr4 id o' h)
 have hr5:=ro_fupd (m:=2) (o:=.cells [.map (some 24)] e5 false) (ro_fupd (m:=24) (o:=.table leavesT) hr4 rfl) rfl
 obtain ⟨e6, i6, j6, hI6⟩:=t5.inv (m:=25) (by rw [gsize]; decide) (by rw [gsize]; decide) hI5 rfl rfl (fun id j o' _ h => hr5 id o' h)
 have hf:=hI6.fix
 have he : (hB e1 e2 e3 e4 e5 e6).t.get = fupd (fupd (fupd (fupd (fupd (fupd (fupd (fupd (fupd (fupd (fupd (fun _ => none) 6 (some (.cells samesC e1 false))) 21 (some (.table schemesT))) 4 (some (.cells [.map (some 21)] e2 false))) 22 (some (.table mostT))) 1 (some (.cells [.map (some 22)] e3 false))) 23 (some (.table askedT))) 5 (some (.cells [.map (some 23)] e4 false))) 24 (some (.table leavesT))) 2 (some (.cells [.map (some 24)] e5 false))) 25 (some (.table jointsT))) 3 (some (.cells [.map (some 25)] e6 false)):=by
   unfold hB
   rw [Tr.get_set_fun, Tr.get_set_fun, Tr.get_set_fun, Tr.get_set_fun, Tr.get_set_fun, Tr.get_set_fun, Tr.get_set_fun, Tr.get_set_fun, Tr.get_set_fun, Tr.get_set_fun, Tr.get_set_fun, show (Tr.nil : Tr AObj).get = (fun _ => none) from funext Tr.get_nil]
 rw [← he] at hf
 refine ⟨e1, e2, e3, e4, e5, e6, _, hf, fun id hid => ?_, rfl, rfl, rfl, rfl, rfl⟩
 unfold fupd
 simp only []
 repeat (first | rfl | (rw [if_neg (by omega)]))
end Go.Proofs.YtacknhbgfijkcaaGreatDoor
end
section
/- The world of the rows that read trace.words as well. -/
namespace Go.Proofs.YtacknhbgfijkcaaGreatDoor
open Go Go.RowKit Go.Proofs.YtacknhbgfijkcaaGreatDoor.Abs
def wordsL : List (List UInt8):=[[], [118, 105, 115, 105, 116], [108, 117, 114, 101], [117, 115, 101], [110, 97, 118], [102, 111, 114, 109], [101, 109, 98, 101, 100], [102, 101, 116, 99, 104], [97, 110, 115, 119, 101, 114], [115, 110, 105, 102, 102], [116, 97, 109, 112, 101, 114], [102, 111, 114, 99, 101], [100, 105, 114, 101, 99, 116]]
noncomputable def wordsC : List Value:=[.string ⟨⟨[]⟩⟩, .string ⟨⟨[118, 105, 115, 105, 116]⟩⟩, .string ⟨⟨[108, 117, 114, 101]⟩⟩, .string ⟨⟨[117, 115, 101]⟩⟩, .string ⟨⟨[110, 97, 118]⟩⟩, .string ⟨⟨[102, 111, 114, 109]⟩⟩, .string ⟨⟨[101, 109, 98, 101, 100]⟩⟩, .string ⟨⟨[102, 101, 116, 99, 104]⟩⟩, .string ⟨⟨[97, 110, 115, 119, 101, 114]⟩⟩, .string ⟨⟨[115, 110, 105, 102, 102]⟩⟩, .string ⟨⟨[116, 97, 109, 112, 101, 114]⟩⟩, .string ⟨⟨[102, 111, 114, 99, 101]⟩⟩, .string ⟨⟨[100, 105, 114, 101, 99, 116]⟩⟩]
structure TopWorld (w : World) : Prop where
 bo : BoWorld w
 words : VarCells w 0 wordsC
theorem TopWorld.below {w w' : World} (h : TopWorld w) (hb : Below w.heap.size w w') : TopWorld w':=⟨h.bo.below hb, h.words.below hb⟩
noncomputable def hT (e1 e2 e3 e4 e5 e6 e7 : Nat) : Hp:=⟨(((((((((((Tr.nil.set 6 (some (.cells samesC e1 false))).set 0 (some (.cells wordsC e7 false))).set 21 (some (.table schemesT))).set 4 (some (.cells [.map (some 21)] e2 false))).set 22 (some (.table mostT))).set 1 (some (.cells [.map (some 22)] e3 false))).set 23 (some (.table askedT))).set 5 (some (.cells [.map (some 23)] e4 false))).set 24 (some (.table leavesT))).set 2 (some (.cells [.map (some 24)] e5 false))).set 25 (some (.table jointsT))).set 3 (some (.cells [.map (some 25)] e6 false)), 26⟩
theorem TopWorld.inv {w : World} (h : TopWorld w) (z0 z1 z2 z3 z4 : Int) : ∃ e1 e2 e3 e4 e5 e6 e7 ι, Inv Tryz.prog w.heap.size ⟨w, ι⟩ ι (hT e1 e2 e3 e4 e5 e6 e7).t.get w ∧ (∀ id, 26 ≤ id → ι id = none) ∧ ι 16 = some (tokLoc z0) ∧ ι 17 = some (tokLoc z1) ∧ ι 18 = some (tokLoc z2) ∧ ι 19 = some (tokLoc z3) ∧ ι 20 = some (tokLoc z4):=by
 obtain ⟨⟨⟨hmax, hs, ⟨b1, t1⟩, ⟨b2, t2⟩, ⟨b3, t3⟩⟩, ⟨b4, t4⟩, ⟨b5, t5⟩⟩, hv⟩:=h
 have hw : 0 < w.heap.size:=by
   obtain ⟨m, hm⟩:=hmax.at_
   apply Classical.byContradiction
   intro hn
   have : w.heap[7]? = none:=Array.getElem?_eq_none (by omega)
   simp [World.cell?, this] at hm
 obtain ⟨e1, i1, hI⟩:=Inv.know_var (Inv.start w) (P:=Tryz.prog) (by rw [gsize]; decide) rfl hs (by rfl) (fun id j o' h => by cases h)
 have hr1 : ∀ id o', fupd (fun _ => none) 6 (some (AObj.cells samesC e1 false)) id = some o' → o'.wr = false:=ro_fupd (fun id o' h => by cases h) rfl
 obtain ⟨e7, i7, hI7⟩:=Inv.know_var hI (P:=Tryz.prog) (g:=0) (by rw [gsize]; decide) rfl hv (by rfl) (fun id j o' _ h => hr1 id o' h)
 have hr7:=ro_fupd (m:=0) (o:=.cells wordsC e7 false) hr1 rfl
 have n0:=hI7.name (m:=16) rfl rfl (by rw [gsize]; decide) hw z0
 have n1:=n0.name (m:=17) rfl rfl (by rw [gsize]; decide) hw z1
 have n2:=n1.name (m:=18) rfl rfl (by rw [gsize]; decide) hw z2
 have n3:=n2.name (m:=19) rfl rfl (by rw [gsize]; decide) hw z3
 have n4:=n3.name (m:=20) rfl rfl (by rw [gsize]; decide) hw z4
 obtain ⟨e2, i2, j2, hI2⟩:=t1.inv (m:=21) (by rw [gsize]; decide) (by rw [gsize]; decide) n4 rfl rfl (fun id j o' _ h => hr7 id o' h)
 have hr2:=ro_fupd (m:=4) (o:=.cells [.map (some 21)] e2 false) (ro_fupd (m:=21) (o:=.table schemesT) hr7 rfl) rfl
 obtain ⟨e3, i3, j3, hI3⟩:=t2.inv (m:=22) (by rw [gsize]; decide) (by rw [gsize]; decide) hI2 rfl rfl (fun id j o' _ h => hr2 id o' h)
 have hr3:=ro_fupd (m:=1) (o:=.cells [.map (some 22)] e3 false) (ro_fupd (m:=22) (o:=.table mostT) hr2 rfl) rfl
 obtain ⟨e4, i4, j4, hI4⟩:=t3.inv (m:=23) (by rw [gsize]; decide) (by rw [gsize]; decide) hI3 rfl rfl (fun id j o' _ h => hr3 id o' h)
 have hr4:=ro_fupd (m:=5) (o:=.cells [.map (some 23)] e4 false) (ro_fupd (m:=23) (o:=.table askedT) hr3 rfl) rfl
 obtain ⟨e5, i5, j5, hI5⟩:=t4.inv (m:=24) (by rw [gsize]; decide) (by rw [gsize]; decide) hI4 rfl rfl (fun id j o' _ h => hr4 id o' h)
 have hr5:=ro_fupd (m:=2) (o:=.cells [.map (some 24)] e5 false) (ro_fupd (m:=24) (o:=.table leavesT) hr4 rfl) rfl
 obtain ⟨e6, i6, j6, hI6⟩:=t5.inv (m:=25) (by rw [gsize]; decide) (by rw [gsize]; decide) hI5 rfl rfl (fun id j o' _ h => hr5 id o' h)
 have hf:=hI6.fix
 have he : (hT e1 e2 e3 e4 e5 e6 e7).t.get = fupd (fupd (fupd (fupd (fupd (fupd (fupd (fupd (fupd (fupd (fupd (fupd (fun _ => none) 6 (some (.cells samesC e1 false))) 0 (some (.cells wordsC e7 false))) 21 (some (.table schemesT))) 4 (some (.cells [.map (some 21)] e2 false))) 22 (some (.table mostT))) 1 (some (.cells [.map (some 22)] e3 false))) 23 (some (.table askedT))) 5 (some (.cells [.map (some 23)] e4 false))) 24 (some (.table leavesT))) 2 (some (.cells [.map (some 24)] e5 false))) 25 (some (.table jointsT))) 3 (some (.cells [.map (some 25)] e6 false)):=by
   unfold hT
   rw [Tr.get_set_fun, Tr.get_set_fun, Tr.get_set_fun, Tr.get_set_fun, Tr.get_set_fun, Tr.get_set_fun, Tr.get_set_fun, Tr.get_set_fun, Tr.get_set_fun, Tr.get_set_fun, Tr.get_set_fun, Tr.get_set_fun, show (Tr.nil : Tr AObj).get = (fun _ => none) from funext Tr.get_nil]
 rw [← he] at hf
 refine ⟨e1, e2, e3, e4, e5, e6, e7, _, hf, fun id hid => ?_, rfl, rfl, rfl, rfl, rfl⟩
 unfold fupd
 simp only []
 repeat (first | rfl | (rw [if_neg (by omega)]))
end Go.Proofs.YtacknhbgfijkcaaGreatDoor
end
section
/- Pieces of build.Text as terms of the quick engine. -/
set_option maxRecDepth 100000
namespace Go.Proofs.YtacknhbgfijkcaaGreatDoor
open Go Go.RowKit Go.Proofs.YtacknhbgfijkcaaGreatDoor.Abs
noncomputable def tBody : Code:=bodyOf kP 31
noncomputable def tR0 : Code:=sqA tBody
noncomputable def tOps1 : Array Oper:=opsOf (sqA (sqB tBody))
noncomputable def tRest : Code:=sqB (sqB tBody)
noncomputable def tAn : List (Code × Nat):=[(tR0, 2)]
theorem tAn_fst : tAn.map (·.1) = [tR0]:=rfl
noncomputable def boxT (C1 : Nat → Callees) (v : Value) (h : Hp) (K : Callees → Nat → Value → Hp → Bool) : Bool:=match Nat.beq v.cells.toList.length 9 with
 | true => forceN h.n fun m => h.t.setK m (some (.cells v.cells.toList 147 true)) fun t' => K (C1 m) m (.pointer (some ⟨m, 0, none⟩)) ⟨t', Nat.succ m⟩
 | false => false
noncomputable def ltK (m : Nat) (h : Hp) (b : Bool) : Bool:=match Nat.ble (Nat.succ m) h.n with
 | true => b
 | false => false
noncomputable def tA (R : Ops) (C : Callees) (C1 : Nat → Callees) : Value → Hp → KVH → Bool:=fun (v : Value) (h : Hp) (K : KVH) => R.bx 48 h v fun v1 v2 => R.ln 6 v2 v1 fun v3 => R.ug 6 v3 (fun v4 v5 v6 v7 v8 v9 => boxT C1 (.agg ⟨[(.pointer none), (.slice none 0 0), v4, v5, v6, v7, v8, v9, (.bool false)]⟩) v2 fun C m9 t9 h9 => C 52 1 t9 h9 fun va vb => R.nk t9 (R.fa 0 t9 fun vc => C 29 1 vc vb fun vd ve => R.jn (fun Jf : Cur (Hp → Bool) 0 => R.nk t9 (R.fa 8 t9 fun vg => R.l1 ve vg fun vh => R.jn (fun Ji : Cur (Hp → Bool) 1 => R.gd false vh (R.ls vd fun vj => R.bi .gtr vj (.int .i64 (.ofNat 8000)) fun vk => Ji vk ve) (Ji undef ve)) fun vl vm => R.pk vh (.bool true) vl fun vn => R.br vn (ltK m9 vm (K (.string ⟨⟨[]⟩⟩) vm)) (Jf vm))) fun vo => C 16 1 vd vo fun vp vq => R.ex 0 vp fun vr => R.ex 1 vp fun vs => R.al 48 [(.slice none 0 0), (.slice none 0 0), (.slice none 0 0), (.slice none 0 0), (.slice none 0 0), (.bool false)] vq fun vt vu => R.al 28 [(.int .i64 (.ofNat 0)), (.int .i64 (.ofNat 0))] vu fun vv vw => R.sn 6 vw vt vr fun vx vy => R.sn 2 vy vv vs fun vz v10 => R.jn (fun J11 : Cur (Hp → Bool) 0 => R.fa 0 vv fun v12 => R.l1 v10 v12 fun v13 => R.bi .neq v13 (.int .i64 (.ofNat 0)) fun v14 => R.jn (fun J15 : Cur (Hp → Bool) 1 => R.gd false v14 (R.ln 6 v10 v1 fun v16 => R.ln 6 v10 vt fun v17 => C 51 2 v16 v17 v10 fun v18 v19 => R.nt v18 fun v1a => J15 v1a v19) (J15 undef v10)) fun v1b v1c => R.pk v14 (.bool true) v1b fun v1d => R.br v1d (ltK m9 v1c (K (.string ⟨⟨[]⟩⟩) v1c)) (J11 v1c)) fun v1e => ltK m9 v1e (K vd v1e)))
theorem tA_eq (R : Ops) (C : Callees) (C1 : Nat → Callees) (v : Value) (h : Hp) (K : KVH) : tA R C C1 v h K = argsK (.full 6) 0 [v] fun E => chainC kP R C 40 0 tAn E h (fun ax E h => match ax with
   | .normal => opsU kP R C 40 (tOps1.toList.take 2) E h (fun E h => okB (E.get 8) fun v8 => boxT C1 v8 h fun C m9 t9 h => E.setK 9 (some t9) fun E => E.setK 3 (some t9) fun E => compC kP R C 40 tRest 4 4 E h (fun ax E h => match ax with
     | .exit _ => false
     | _ => resK kP R E h Tryz.f31.results.toList (fun vs => tupK vs fun v => ltK m9 h (K v h))))
   | _ => false):=by kernel_rfl
theorem t1a : ((tOps1.toList.take 2).all fun o => match o.guard with | none => true | some _ => false) = true:=by kernel_rfl
theorem t1g (o : Oper) (ho : o ∈ tOps1.toList.take 2) : o.guard = none:=by
 have:=List.all_eq_true.1 t1a o ho
 split at this
 · assumption
 · cases this
end Go.Proofs.YtacknhbgfijkcaaGreatDoor
end
section
/- strings.Builder at the head of a block (of its own, or as the first field of build.writer): copyCheck and String: the walks. -/
namespace Go.Proofs.YtacknhbgfijkcaaGreatDoor
open Go Go.RowKit Go.Proofs Go.Proofs.YtacknhbgfijkcaaGreatDoorW.PrintWords Go.Proofs.YtacknhbgfijkcaaGreatDoorW.PrintLast Go.Proofs.YtacknhbgfijkcaaGreatDoorW.PrintMore
set_option maxRecDepth 100000 in
set_option maxHeartbeats 1000000 in
theorem copyCheck_new (T n : Nat) (b : Nat) (w : World) (hn : 0 < n) (hlies : liesAt Tryz.prog Tryz.prog.depth T (n / Tryz.prog.cellsOf T) 0 99 1 = true) (h0 : w.cell? ⟨b, 0, none⟩ = some (.pointer none)) (hsh : w.shape? b = some (T, n)) (hfz : w.frozen? ⟨b, 0, none⟩ = false) :
   Calls Tryz.prog 50 #[.pointer (some ⟨b, 0, none⟩)] w fun e w' => e = .returned (.tuple #[]) ∧ w' = w.setCell ⟨b, 0, none⟩ (.pointer (some ⟨b, 0, none⟩)):=by
 obtain ⟨j, hj, hjs⟩:=Option.map_eq_some_iff.1 (show (Tryz.prog.info? 99).map (·.size) = some 2 by kernel_rfl)
 go_enter Tryz.func50, Tryz.ntmps50
 go_wp2
 rw [Lib.run_to_unsafe w ⟨b, 0, none⟩ Tryz.underlying96 Tryz.underlying196 hj (by rw [hjs]; decide) hsh hn]
 simp only [Result.andThen]
 rw [Oper.upon_value]
 go_wp2
 rw [run_callFunc_extern Tryz.func94 (by kernel_rfl) (by kernel_rfl) (by kernel_rfl) (e:=Extern.AbiNoEscape.same) (by kernel_rfl)]
 rw [Lib.run_noEscape]
 simp only [Result.andThen]
 rw [Oper.upon_value]
 go_wp2
 rw [Lib.run_from_unsafe w ⟨b, 0, none⟩ Tryz.underlying196 Tryz.underlying96 hj hsh hlies]
 simp only [Result.andThen]
 rw [Oper.upon_value]
 go_wp2
 go_end0
 exact ⟨rfl, rfl⟩
set_option maxRecDepth 100000 in
set_option maxHeartbeats 1000000 in
theorem copyCheck_old (b : Nat) (w : World) (h0 : w.cell? ⟨b, 0, none⟩ = some (.pointer (some ⟨b, 0, none⟩))) :
   Calls Tryz.prog 50 #[.pointer (some ⟨b, 0, none⟩)] w fun e w' => e = .returned (.tuple #[]) ∧ w' = w:=by
 obtain ⟨j, hj, _⟩:=Option.map_eq_some_iff.1 (show (Tryz.prog.info? 99).map (·.size) = some 2 by kernel_rfl)
 go_enter Tryz.func50, Tryz.ntmps50
 go_wp2
 rw [Lib.run_neq_ptr_same w _ Tryz.underlying96 hj]
 go_wp2
 go_end0
 exact ⟨rfl, rfl⟩
theorem liesAt_bytesFrom {P : Program} {e : TypeId} (hc : P.cellsOf e = 1) (count o n : Nat) (hn : o + n ≤ count) : liesAt P P.depth e count o e n = true:=by
 have hd : P.depth = (2 * (P.types.size + Made.depth) + 1) + 1:=rfl
 rw [hd]
 simp only [liesAt, Bool.or_eq_true]
 left
 rw [hd]
 simp [rowAt, hc, hn, sameLayout, Nat.mod_one]
theorem run_unsafeString_from {P : Program} (w : World) (pt it ty e : TypeId) (hp : P.underlying pt = some (.pointer e)) (hc : P.cellsOf e = 1) (g o cells : Nat) (hsh : w.shape? g = some (e, cells)) (l : List UInt8) (h0 : l ≠ []) (hn : o + l.length ≤ cells) (h63 : l.length ≤ 9223372036854775807)
   (hcell : ∀ j x, l[j]? = some x → w.cell? ((⟨g, o, none⟩ : Addr).add j) = some (.int .u8 x.toNat)) :
   (Builtin.unsafeString_ #[pt, it] ty #[.pointer (some ⟨g, o, none⟩), .int .i64 l.length]).run P w = .ok (.string ⟨l.toArray⟩) (w.freeze ⟨g, o, none⟩ l.length):=by
 have hl : l.length ≠ 0:=by simpa using h0
 have hlb:=Lib.run_loadBytes (P:=P) w l ⟨g, o, none⟩ .empty hcell
 have hlies:=liesAt_bytesFrom (P:=P) hc (cells / P.cellsOf e) o l.length (by rw [hc]; simpa using hn)
 have h63' : ¬ (9223372036854775807 : Int) < (l.length : Int):=by omega
 have hdef : Builtin.unsafeString_ #[pt, it] ty #[.pointer (some ⟨g, o, none⟩), .int .i64 l.length] =
     (do
       let n ← asInt (.int .i64 l.length)
       if n < 0 then runtimePanic (.error "unsafe.String: len out of range")
       if n > IntKind.i64.max then unsupported (.unsafePointer "String: a length above the largest int")
       if n = 0 then pure (.string .empty)
       else if ← variablesAt ⟨g, o, none⟩ (← elemOf pt) n.toNat then do
         let s ← loadBytes ⟨g, o, none⟩ .empty n.toNat
         freeze ⟨g, o, none⟩ n.toNat
         pure (.string s)
       else unsupported (.unsafePointer "String: not so many bytes at ptr")) := rfl
 rw [hdef]
 have hmax : IntKind.i64.max = 9223372036854775807:=rfl
 have hneg : ¬ (l.length : Int) < 0:=by omega
 simp [asInt, asIntOf, hmax, h63', hneg, hl, variablesAt, hsh, elemOf, run_underlying hp, hlies, hlb]
set_option maxHeartbeats 1000000 in
set_option maxRecDepth 100000 in
theorem string_at (b g o cap cells : Nat) (l : List UInt8) (w : World) (hc1 : w.cell? ⟨b, 1, none⟩ = some (.slice (some ⟨g, o, none⟩) l.length cap)) (h0 : l ≠ []) (hlc : l.length ≤ cap) (hsh : w.shape? g = some (5, cells)) (hn : o + l.length ≤ cells) (h63 : l.length ≤ 1000000)
   (hcell : ∀ j x, l[j]? = some x → w.cell? ((⟨g, o, none⟩ : Addr).add j) = some (.int .u8 x.toNat)) :
   Calls Tryz.prog 29 #[.pointer (some ⟨b, 0, none⟩)] w fun e w' => e = .returned (.string ⟨l.toArray⟩) ∧ w' = w.drew.freeze ⟨g, o, none⟩ l.length:=by
 have mixed : Tryz.prog.follows Departure.mixedOrders = true:=by kernel_rfl
 have hl0 : l.length ≠ 0:=by simpa using h0
 have c1 : w.drew.cell? ⟨b, 1, none⟩ = some (.slice (some ⟨g, o, none⟩) l.length cap):=hc1
 have hSD : (Builtin.unsafeSliceData_ #[97] 143 #[.slice (some ⟨g, o, none⟩) l.length cap]).run Tryz.prog w.drew = .ok (.pointer (some ⟨g, o, none⟩)) w.drew :=
   Lib.run_unsafeSliceData_row _ _ _ _ _ _ (by omega)
 have hUS : (Builtin.unsafeString_ #[143, 3] 9 #[.pointer (some ⟨g, o, none⟩), .int .i64 l.length]).run Tryz.prog w.drew = .ok (.string ⟨l.toArray⟩) (w.drew.freeze ⟨g, o, none⟩ l.length) :=
   run_unsafeString_from w.drew 143 3 9 5 Tryz.underlying143 (by kernel_rfl) g o cells hsh l h0 hn (by omega) hcell
 go_enter Tryz.func29, Tryz.ntmps29
 go_wp2
 go_region_o
 all_goals (go_wp2; go_ret; exact ⟨rfl, rfl⟩)
set_option maxHeartbeats 1000000 in
set_option maxRecDepth 100000 in
theorem string_nil_at (b : Nat) (w : World) (hc1 : w.cell? ⟨b, 1, none⟩ = some (.slice none 0 0)) :
   Calls Tryz.prog 29 #[.pointer (some ⟨b, 0, none⟩)] w fun e w' => e = .returned (.string ⟨⟨[]⟩⟩) ∧ w' = w.drew:=by
 have mixed : Tryz.prog.follows Departure.mixedOrders = true:=by kernel_rfl
 have c1 : w.drew.cell? ⟨b, 1, none⟩ = some (.slice none 0 0):=hc1
 have hSD : (Builtin.unsafeSliceData_ #[97] 143 #[.slice none 0 0]).run Tryz.prog w.drew = .ok (.pointer none) w.drew:=Lib.run_unsafeSliceData_nil _ _ _ _ _
 have hUS : (Builtin.unsafeString_ #[143, 3] 9 #[.pointer none, .int .i64 0]).run Tryz.prog w.drew = .ok (.string .empty) w.drew:=Lib.run_unsafeString_none _ _ _ _ _
 go_enter Tryz.func29, Tryz.ntmps29
 go_wp2
 go_region_o
 all_goals (go_wp2; go_ret; exact ⟨rfl, rfl⟩)
end Go.Proofs.YtacknhbgfijkcaaGreatDoor
end
section
/- strings.Builder at the head of a block that is known from the start on: copyCheck and String as natives. -/
namespace Go.Proofs.YtacknhbgfijkcaaGreatDoor.Abs
open Go Go.RowKit
section
variable {P : Program} {base : Nat} {w0 : Start} {ι : Nat → Option Loc} {H : Nat → Option AObj} {w w' : World}
theorem Inv.dead (h : Inv P base w0 ι H w) {id : Nat} {i : Loc} {o : AObj} (h1 : ι id = some i) (h2 : H id = some o) (hw : o.wr = true) (hb : base ≤ i.rb) (ho : OnlyAt i.rb w w') : Inv P base w0 ι (fupd H id none) w':=by
 have hk:=h.kill id
 refine ⟨h.below.trans (ho.below hb), h.base_le, h.init, ?_, hk.inj, ?_, hk.glob⟩
 · intro jd j oj a b
   by_cases x : jd = id
   · subst x; rw [fupd_eq] at b; cases b
   · rw [fupd_ne _ _ _ _ x] at b
     exact (h.obj jd j oj a b).grow (Grows.refl _) (ho.block _ (fun y => h.inj id jd i j o oj h1 a h2 b (fun z => x z.symm) hw y.symm))
 · intro jd j a
   rw [ho.size]
   exact h.lt jd j a
theorem NatOk.more {f : FuncId} {g : Native} {ι1 : Nat → Option Loc} (h : NatOk P base w0 f g) (hg : Grows w0.ι ι1) : NatOk P base ⟨w0.w, ι1⟩ f g:=by
 intro args k r k' hr
 obtain ⟨hn, hc⟩:=h args k r k' hr
 refine ⟨hn, fun ι w args' hI ha hgl hf => ?_⟩
 have hI0 : Inv P base w0 ι k.t.get w:=⟨hI.below, hI.base_le, hg.trans hI.init, hI.obj, hI.inj, hI.lt, hI.glob⟩
 refine (hc ι w args' hI0 ha hgl hf).mono fun e w' hq => ?_
 obtain ⟨ι', ht, hI', hv⟩:=hq
 exact ⟨ι', ht, ⟨hI'.below, hI'.base_le, hI.init.trans ht.grow, hI'.obj, hI'.inj, hI'.lt, hI'.glob⟩, hv⟩
theorem GivenOk.more {G : GivenT} {ι1 : Nat → Option Loc} (h : GivenOk P base w0 G) (hg : Grows w0.ι ι1) : GivenOk P base ⟨w0.w, ι1⟩ G:=fun f g hx => NatOk.more (f:=f) (g:=g) (h f g hx) hg
end
end Go.Proofs.YtacknhbgfijkcaaGreatDoor.Abs
namespace Go.Proofs.YtacknhbgfijkcaaGreatDoor
open Go Go.RowKit Go.Proofs.YtacknhbgfijkcaaGreatDoor.Abs
def BdAt (w0 : Abs.Start) (m T n : Nat) : Prop:=1 < n ∧ liesAt Tryz.prog Tryz.prog.depth T (n / Tryz.prog.cellsOf T) 0 99 1 = true ∧ ∃ b, w0.ι m = some ⟨b, 0, n, n⟩
noncomputable def natCC (m T : Nat) : Native:=fun args h => match args with
 | [.pointer (some ⟨id, 0, none⟩)] => match Nat.beq id m with
   | true => match h.t.get m with
     | some (.cells (c :: r) e true) => match Nat.beq e T with
       | true => match c with
         | .pointer none => .ret (.ret (.tuple #[]), ⟨h.t.set m (some (.cells (.pointer (some ⟨m, 0, none⟩) :: r) e true)), h.n⟩)
         | .pointer (some ⟨id2, 0, none⟩) => match Nat.beq id2 m with
           | true => .ret (.ret (.tuple #[]), h)
           | false => .none
         | _ => .none
       | false => .none
     | _ => .none
   | false => .none
 | _ => .none
theorem storeCells_one {P : Program} {w : World} {b : Nat} {v u : Value} (h1 : v.oneCell' = true) (hc : w.cell? ⟨b, 0, none⟩ = some u) (hf : w.frozen? ⟨b, 0, none⟩ = false) : (storeCells ⟨b, 0, none⟩ [v]).run P w = .ok () (w.setCell ⟨b, 0, none⟩ v):=by
 rw [show storeCells ⟨b, 0, none⟩ [v] = (do store ((⟨b, 0, none⟩ : Addr).add 0) v; storeCells ⟨b, 0, none⟩ [] 1) from rfl, Sem.run_bind, addr_add, run_store P w _ v _ h1, hc]
 simp only [hf]
 rfl
theorem natCC_ok {base : Nat} {w0 : Abs.Start} {m T n : Nat} (hm : BdAt w0 m T n) : NatOk Tryz.prog base w0 50 (natCC m T):=by
 intro args h r h' hg
 unfold natCC at hg
 split at hg
 rotate_left
 · cases hg
 rename_i id
 split at hg
 rotate_left
 · cases hg
 rename_i hid
 rw [Nat.beq_eq] at hid
 subst hid
 split at hg
 rotate_left
 · cases hg
 rename_i c cs e hcs
 split at hg
 rotate_left
 · cases hg
 rename_i he
 rw [Nat.beq_eq] at he
 have he:=he.symm
 subst he
 obtain ⟨hn1, hlies, b, hb⟩:=hm
 split at hg
 · cases hg
   refine ⟨Nat.le_refl _, fun ι w args' hI hr hgl hf => ?_⟩
   match args', hr with
   | [p'], ⟨hp, _⟩ =>
   cases hp with
   | ptr _ _ i hi =>
   have hi':=hI.init _ _ hb
   rw [hi] at hi'
   cases hi'
   obtain ⟨arr, fz, h1, h2, h3, h5, h4, h6⟩:=hI.cells_at hi hcs
   obtain ⟨hbb, hfz⟩:=h6 rfl
   obtain ⟨v, hv, hvr⟩:=h4 0 _ rfl
   cases hvr
   have hcell : w.cell? ⟨b, 0, none⟩ = some (.pointer none):=by rw [cell_of h1]; exact hv
   have hsh : w.shape? b = some (T, n):=by
     have h1' : w.heap[b]? = some (.cells arr T fz):=h1
     simp only [World.shape?, h1', h2]
   have hfr : w.frozen? ⟨b, 0, none⟩ = false:=by
     have:=hfz 0 (show 0 < n by omega)
     rw [frozen_of h1, Bool.eq_false_iff]
     simpa using this
   obtain ⟨w1, r1, r2⟩:=hI.write (off:=0) hi hcs (vs:=#[.pointer (some ⟨id, 0, none⟩)]) (vs':=#[.pointer (some ⟨b, 0, none⟩)]) ⟨rfl, fun j a _ => by
     obtain rfl : j = 0:=by simpa using a
     exact .ptr id 0 _ hi⟩ (by simp) (by rfl)
   have r3:=storeCells_one (P:=Tryz.prog) (v:=.pointer (some ⟨b, 0, none⟩)) rfl hcell hfr
   have r4 : (storeCells ⟨b, 0 + 0, none⟩ [.pointer (some ⟨b, 0, none⟩)]).run Tryz.prog w = .ok () w1:=r1
   rw [Nat.add_zero, r3] at r4
   cases r4
   refine (copyCheck_new T n b w (by omega) hlies hcell hsh hfr).mono fun e w' hq => ?_
   obtain ⟨rfl, rfl⟩:=hq
   refine ⟨ι, by rw [Tr.get_set_fun]; exact Turn.at_block _ hi, by rw [Tr.get_set_fun]; exact r2, _, rfl, .tuple _ _ rfl fun i a => by simp at a⟩
 · rename_i id2
   split at hg
   rotate_left
   · cases hg
   rename_i hid2
   rw [Nat.beq_eq] at hid2
   subst hid2
   cases hg
   refine ⟨Nat.le_refl _, fun ι w args' hI hr hgl hf => ?_⟩
   match args', hr with
   | [p'], ⟨hp, _⟩ =>
   cases hp with
   | ptr _ _ i hi =>
   have hi':=hI.init _ _ hb
   rw [hi] at hi'
   cases hi'
   obtain ⟨arr, fz, h1, h2, h3, h5, h4, h6⟩:=hI.cells_at hi hcs
   obtain ⟨v, hv, hvr⟩:=h4 0 _ rfl
   cases hvr with
   | ptr _ _ i2 hi2 =>
   rw [hi] at hi2
   cases hi2
   have hcell : w.cell? ⟨b, 0, none⟩ = some (.pointer (some ⟨b, 0, none⟩)):=by rw [cell_of h1]; exact hv
   refine (copyCheck_old b w hcell).mono fun e w' hq => ?_
   obtain ⟨rfl, rfl⟩:=hq
   exact ⟨ι, Turn.refl _ _ _, hI, _, rfl, .tuple _ _ rfl fun i a => by simp at a⟩
 · cases hg
noncomputable def bytes8 : List Value → Option (List UInt8)
 | [] => some []
 | .int .u8 (.ofNat n) :: r => match Nat.ble (Nat.succ n) 256 with
   | true => match bytes8 r with
     | some l => some (UInt8.ofNat n :: l)
     | none => none
   | false => none
 | _ => none
theorem bytes8_ok : ∀ {xs : List Value} {l : List UInt8}, bytes8 xs = some l → xs = l.map fun b => Value.int .u8 b.toNat
 | [], l, h => by cases h; rfl
 | x :: xs, l, h => by
   unfold bytes8 at h
   split at h
   · rename_i e; cases e
   · rename_i n r e
     cases e
     split at h
     · rename_i hn
       split at h
       · rename_i l' hl
         cases h
         rw [bytes8_ok hl, List.map_cons]
         have : n < 256:=by have:=Nat.le_of_ble_eq_true hn; omega
         congr 2
         show (n : Int) = ((UInt8.ofNat n).toNat : Int)
         rw [UInt8.toNat_ofNat', Nat.mod_eq_of_lt (by simpa using this)]
       · cases h
     · cases h
   · cases h
noncomputable def natStr (m : Nat) : Native:=fun args h => match args with
 | [.pointer (some ⟨id, 0, none⟩)] => match Nat.beq id m with
   | true => match h.t.get m with
     | some (.cells (_ :: .slice (some ⟨r, o, none⟩) n _ :: _) _ true) => match h.t.get r with
       | some (.cells xs u true) => match Nat.beq u 5, Nat.ble (Nat.add o n) xs.length, Nat.ble 1 n, Nat.ble n 1000000 with
         | true, true, true, true => match bytes8 ((xs.drop o).take n) with
           | some l => .ret (.ret (.string ⟨⟨l⟩⟩), ⟨h.t.set r none, h.n⟩)
           | none => .none
         | _, _, _, _ => .none
       | _ => .none
     | some (.cells (_ :: .slice none 0 0 :: _) _ true) => .ret (.ret (.string ⟨⟨[]⟩⟩), h)
     | _ => .none
   | false => .none
 | _ => .none
theorem freeze_only {w : World} {g o n : Nat} : OnlyAt g w (w.drew.freeze ⟨g, o, none⟩ n):=by
 unfold World.freeze
 split
 · exact ⟨rfl, rfl, rfl, rfl, fun _ _ => rfl⟩
 · refine ⟨rfl, rfl, rfl, Array.size_modify .., fun k hk => ?_⟩
   simp only [Array.getElem?_modify]
   rw [if_neg (fun e => hk e.symm)]
   rfl
theorem natStr_ok {base : Nat} {w0 : Abs.Start} {m T n : Nat} (hm : BdAt w0 m T n) : NatOk Tryz.prog base w0 29 (natStr m):=by
 intro args h r h' hg
 unfold natStr at hg
 split at hg
 rotate_left
 · cases hg
 rename_i id
 split at hg
 rotate_left
 · cases hg
 rename_i hid
 rw [Nat.beq_eq] at hid
 subst hid
 split at hg
 rotate_left
 · rename_i c cs e hcs
   obtain ⟨hn1, hlies, b, hb⟩:=hm
   cases hg
   refine ⟨Nat.le_refl _, fun ι w args' hI hr hgl hf => ?_⟩
   match args', hr with
   | [p'], ⟨hp, _⟩ =>
   cases hp with
   | ptr _ _ i hi =>
   have hi':=hI.init _ _ hb
   rw [hi] at hi'
   cases hi'
   obtain ⟨arr, fz, h1, h2, h3, h5, h4, h6⟩:=hI.cells_at hi hcs
   obtain ⟨v, hv, hvr⟩:=h4 1 _ rfl
   cases hvr
   have hc1 : w.cell? ⟨b, 1, none⟩ = some (.slice none 0 0):=by rw [cell_of h1]; exact hv
   refine (string_nil_at b w hc1).mono fun e w' hq => ?_
   obtain ⟨rfl, rfl⟩:=hq
   exact ⟨ι, Turn.refl _ _ _, inv_drew hI, _, rfl, .string _⟩
 · cases hg
 rename_i c r o n cc cs e hcs
 split at hg
 rotate_left
 · cases hg
 rename_i xs u hxs
 split at hg
 rotate_left
 · cases hg
 rename_i hu hle h1n hn6
 split at hg
 rotate_left
 · cases hg
 rename_i l hl
 rw [Nat.beq_eq] at hu
 subst hu
 have hle:=Nat.le_of_ble_eq_true hle
 have h1n:=Nat.le_of_ble_eq_true h1n
 have hn6:=Nat.le_of_ble_eq_true hn6
 have hle : o + n ≤ xs.length:=hle
 have hb8:=bytes8_ok hl
 have hlen : l.length = n:=by
   have:=congrArg List.length hb8
   rw [List.length_take, List.length_drop, List.length_map] at this
   omega
 obtain ⟨hn1, hlies, b, hb⟩:=hm
 cases hg
 refine ⟨Nat.le_refl _, fun ι w args' hI hr hgl hf => ?_⟩
 match args', hr with
 | [p'], ⟨hp, _⟩ =>
 cases hp with
 | ptr _ _ i hi =>
 have hi':=hI.init _ _ hb
 rw [hi] at hi'
 cases hi'
 obtain ⟨arr, fz, h1, h2, h3, h5, h4, h6⟩:=hI.cells_at hi hcs
 obtain ⟨v, hv, hvr⟩:=h4 1 _ rfl
 cases hvr with
 | slice _ _ _ _ cap j ra hj hlc hcc hx =>
 obtain ⟨arr2, fz2, g1, g2, g3, g5, g4, g6⟩:=hI.cells_at hj hxs
 obtain ⟨gb, _⟩:=g6 rfl
 rcases hx with ⟨rfl, hx⟩ | ⟨h0, _⟩
 rotate_left
 · omega
 have hc1 : w.cell? ⟨b, 1, none⟩ = some (.slice (some ⟨j.rb, j.δ + o, none⟩) l.length cap):=by rw [cell_of h1, hlen]; exact hv
 have hsh : w.shape? j.rb = some (5, j.tot):=by
   simp only [World.shape?, g1, g2]
 refine (string_at b j.rb (j.δ + o) cap j.tot l w hc1 (by rintro rfl; simp at hlen; omega) (by omega) hsh (by omega) (by omega) fun k x hk => ?_).mono fun e w' hq => ?_
 · rw [addr_add, cell_of g1]
   have hx1 : ((xs.drop o).take n)[k]? = some (.int .u8 x.toNat):=by rw [hb8, List.getElem?_map, hk]; rfl
   have hkl : k < n:=by
     have:=(List.getElem?_eq_some_iff.1 hk).1
     omega
   rw [List.getElem?_take, if_pos hkl, List.getElem?_drop] at hx1
   obtain ⟨v2, p, q⟩:=g4 _ _ hx1
   cases q
   rw [Nat.add_assoc, p]
 · obtain ⟨rfl, rfl⟩:=hq
   exact ⟨ι, by rw [Tr.get_set_fun]; exact Turn.at_block _ hj, by rw [Tr.get_set_fun]; exact hI.dead hj hxs rfl gb freeze_only, _, rfl, .string _⟩
end Go.Proofs.YtacknhbgfijkcaaGreatDoor
end
section
/- build.Text: where the writer lies is known while it is written: a native. -/
namespace Go.Proofs.YtacknhbgfijkcaaGreatDoor
open Go Go.RowKit Go.Proofs.YtacknhbgfijkcaaGreatDoor.Abs
theorem tBody_eq : bodyOf kP 31 = .seq tR0 (.seq (.region 1 tOps1 false) tRest):=by kernel_rfl
theorem tbody : Tryz.f31.body = some (bodyOf kP 31):=by kernel_rfl
theorem tntm : Tryz.f31.ntmps = 40:=by kernel_rfl
theorem t1s : tOps1.size = 4:=by kernel_rfl
theorem t1m : [0, 1].map (tOps1[·]?) = (tOps1.toList.take 2).map some:=by kernel_rfl
theorem tinf : (kP.info? 147).map (fun i => i.size) = some 9:=by kernel_rfl
section
variable (G : GivenT)
noncomputable def GT (m : Nat) : GivenT:=gAdd 50 (natCC m 147) (gAdd 29 (natStr m) G)
noncomputable def sW (s : ASt) (v8 : Value) : ASt:=⟨(s.E.set 9 (some (.pointer (some ⟨s.h.n, 0, none⟩)))).set 3 (some (.pointer (some ⟨s.h.n, 0, none⟩))), ⟨s.h.t.set s.h.n (some (.cells v8.cells.toList 147 true)), s.h.n + 1⟩⟩
def TRun (args : List Value) (h : Hp) (v : Value) (h' : Hp) : Prop:=∃ s0 s1 v8 e s2, ChainR kP G 40 [tR0] ⟨args0 args 0 (.full 6), h⟩ .normal s0 ∧ RunsOps kP G 40 tOps1 (tOps1.toList.take 2) s0 s1 ∧ s1.E.get 8 = some v8 ∧
 (e = .normal ∨ e = .ret) ∧ Runs kP (GT G s1.h.n) 40 tRest (sW s1 v8) e s2 ∧ v8.cells.toList.length = 9 ∧ s1.h.n < s2.h.n ∧ aresults kP Tryz.f31 s2 = some v ∧ h' = s2.h
theorem TRun.unique {args : List Value} {h : Hp} {v1 v2 : Value} {h1 h2 : Hp} (a : TRun G args h v1 h1) (b : TRun G args h v2 h2) : v1 = v2 ∧ h1 = h2:=by
 obtain ⟨s0, s1, v8, e, s2, a1, a2, a3, a4, a5, a6, a7, a8, a9⟩:=a
 obtain ⟨t0, t1, u8, f, t2, b1, b2, b3, b4, b5, b6, b7, b8, b9⟩:=b
 obtain ⟨_, rfl⟩:=a1.unique b1
 obtain rfl:=a2.unique b2
 rw [a3] at b3; cases b3
 obtain ⟨_, rfl⟩:=a5.unique b5
 rw [a8] at b8; cases b8
 exact ⟨rfl, a9.trans b9.symm⟩
open Classical in
noncomputable def natText : Native:=fun args h => if hx : ∃ p : Value × Hp, TRun G args h p.1 p.2 then .ret (.ret hx.choose.1, hx.choose.2) else .none
variable {G}
theorem natText_ret {args : List Value} {h h' : Hp} {v : Value} (k : TRun G args h v h') : natText G args h = .ret (.ret v, h'):=by
 unfold natText
 have hx : ∃ p : Value × Hp, TRun G args h p.1 p.2:=⟨(v, h'), k⟩
 rw [dif_pos hx]
 obtain ⟨e1, e2⟩:=TRun.unique G hx.choose_spec k
 rw [e1, e2]
theorem natText_run {args : List Value} {h h' : Hp} {r : CRet} (k : (natText G args h).run = some (r, h')) : ∃ v, r = .ret v ∧ TRun G args h v h':=by
 unfold natText at k
 split at k
 · rename_i hx
   cases k
   exact ⟨_, rfl, hx.choose_spec⟩
 · cases k
theorem text_ok {base : Nat} {w0 : Abs.Start} (hG : GivenOk kP base w0 G) : NatOk kP base w0 31 (natText G):=by
 intro args h r h' hg
 obtain ⟨v, rfl, s0, s1, v8, e, s2, a1, a2, a3, he, a4, a5, a6, a7, rfl⟩:=natText_run hg
 have hD : DrawOk kP base w0:=adraw_ok noNG_k kmix
 have n0:=a1.n noNG_k hD hG
 have n1:=(a2.ok noNG_k hD hG).1
 have n01 : h.n ≤ s1.h.n:=Nat.le_trans n0 n1
 refine ⟨by omega, fun ι w args' hI hr hgl hf => ?_⟩
 refine calls_of_wp Tryz.func31 tbody ?_
 rw [tBody_eq]
 refine ChainR.ok noNG_k hD hG a1 hI (args0_rel hr _ _) (by rw [tntm]; simp; omega) hgl hf fun e' b1 w1 hp => ?_
 obtain ⟨ι1, t1, hI1, hE1, hl1, hd1, rfl⟩:=hp
 have f1:=t1.fresh hf
 obtain ⟨o2, ho2, hdo2, hp2, hg2⟩:=opG_at (show opG tOps1 2 = some (some 9, .box 147 (.tmp 8), none) by kernel_rfl)
 obtain ⟨o3, ho3, hdo3, hp3, hg3⟩:=opG_at (show opG tOps1 3 = some (some 3, .assign (.tmp 9), none) by kernel_rfl)
 have hm01:=t1m
 refine wp_seq (wp_regionO t1s fun ops hops => ?_)
 rw [← hops] at ho2 ho3 hm01 a2
 rw [show List.range 4 = [0, 1] ++ [2, 3] from rfl]
 refine wpOps_append _ _ _ (wpOps_mono (fun e b2 w2 hp => ?_) _ _ _ ((a2.ok noNG_k hD hG).2 hm01 hI1 hE1 hl1 (Nat.le_trans hgl n0) f1))
 obtain ⟨ι2, t2, hI2, hE2, hl2, hd2, rfl⟩:=hp
 have f2:=t2.fresh f1
 have h8 : VRel ι2 v8 (b2.eval (.tmp 8)):=by have:=hE2 8; rw [a3] at this; exact this
 obtain ⟨q8, hq8⟩ : ∃ q, b2.eval (.tmp 8) = q:=⟨_, rfl⟩
 rw [hq8] at h8
 obtain ⟨inf, hinf, hisz⟩:=Option.map_eq_some_iff.1 tinf
 obtain ⟨ι3, r1, r2, r3, r4⟩:=newRow_ok (e:=147) hI2 (f2 _ (Nat.le_refl _)) (Nat.le_trans hgl n01) hinf h8.cells
 have hsz : q8.cells.size = 9:=by rw [← h8.cells.1, ← a5, Array.length_toList]
 rw [hsz, hisz] at r2
 refine wpOps_step (v:=.pointer (some ⟨w2.heap.size, 0, none⟩)) (w':=w2.alloc (.cells q8.cells 147)) ho2 hg2 ?_ ?_
 · unfold execOp
   rw [hp2]
   simp only [hq8, Instr.box, newVar, Sem.run_bind, r1, Result.andThen_ok, Sem.run_pure]
 rw [hdo2]
 refine wpOps_step ho3 hg3 (exec_assign hp3) ?_
 rw [hdo3, eval_put_same (by omega)]
 have hE3 : EnvRel ι3 (sW s1 v8).E ((b2.put (some 9) (.pointer (some ⟨w2.heap.size, 0, none⟩))).put (some 3) (.pointer (some ⟨w2.heap.size, 0, none⟩))).tmps:=by
   have hE2' : EnvRel ι3 s1.E b2.tmps:=fun t => (hE2 t).grow r3.grow
   have hE3a : EnvRel ι3 (s1.E.set 9 (some (.pointer (some ⟨s1.h.n, 0, none⟩)))) (b2.put (some 9) (.pointer (some ⟨w2.heap.size, 0, none⟩))).tmps:=envrel_put hE2' (by omega) (.ptr s1.h.n 0 _ r2)
   have hz : 3 < (b2.put (some 9) (.pointer (some ⟨w2.heap.size, 0, none⟩))).tmps.size:=by rw [put_size]; omega
   exact envrel_put hE3a hz (.ptr s1.h.n 0 _ r2)
 have f3:=r3.fresh f2
 have hI3 : Inv kP base ⟨w0.w, ι3⟩ ι3 (sW s1 v8).h.t.get (w2.alloc (.cells q8.cells 147)):=⟨r4.below, r4.base_le, Grows.refl _, r4.obj, r4.inj, r4.lt, r4.glob⟩
 have hbd : BdAt ⟨w0.w, ι3⟩ s1.h.n 147 9:=⟨by decide, by kernel_rfl, _, r2⟩
 have hG3 : GivenOk kP base ⟨w0.w, ι3⟩ (GT G s1.h.n):=((hG.more r4.init).add (natStr_ok hbd)).add (natCC_ok hbd)
 have hD3 : DrawOk kP base ⟨w0.w, ι3⟩:=adraw_ok noNG_k kmix
 unfold wpOps
 refine wp_mono ((a4.ok noNG_k hD3 hG3).2 ι3 ((b2.put (some 9) (.pointer (some ⟨w2.heap.size, 0, none⟩))).put (some 3) (.pointer (some ⟨w2.heap.size, 0, none⟩))) _ hI3 hE3 (by rw [put_size, put_size]; exact hl2) (by
   show kP.globals.size ≤ s1.h.n + 1
   exact Nat.le_trans (Nat.le_trans hgl n01) (Nat.le_succ _)) f3) fun e' a' w' hp => ?_
 obtain ⟨ι4, t4, hI4, hE4, hl4, hd4, hx⟩:=hp
 obtain ⟨v', q1, q2⟩:=aresults_ok hI4 hE4 a7
 have hI5 : Inv kP base w0 ι4 s2.h.t.get w':=⟨hI4.below, hI4.base_le, r4.init.trans hI4.init, hI4.obj, hI4.inj, hI4.lt, hI4.glob⟩
 have hd5 : a'.defers = []:=hd4.trans (hd2.trans hd1)
 rcases he with rfl | rfl
 · subst hx
   exact ⟨hd5, v', q1, ι4, t1.trans (t2.trans (r3.trans t4)), hI5, v', rfl, q2⟩
 · subst hx
   exact ⟨hd5, v', q1, ι4, t1.trans (t2.trans (r3.trans t4)), hI5, v', rfl, q2⟩
noncomputable def tF (C0 : Callees) (C1 : Nat → Callees) : Callees → FnT 1:=fun _ => lam 1 fun args h K => match args with
 | [v] => tA (theOps kP) C0 C1 v h K
 | _ => false
theorem tF_ok {C0 : Callees} {C1 : Nat → Callees} (hC : COk kP G C0) (hC1 : ∀ m, COk kP (GT G m) (C1 m)) {G' : GivenT} (hG : G' 31 = some (natText G)) : EntOk kP G' 31 ⟨1, tF C0 C1⟩:=by
 intro C _ args h K hk
 replace hk : app noF 1 (lam 1 fun args h (K : KVH) => match args with | [v] => tA (theOps kP) C0 C1 v h K | _ => false) args h K = true:=hk
 rcases app_lam noF 1 (fun args h (K : KVH) => match args with | [v] => tA (theOps kP) C0 C1 v h K | _ => false) args with e | e
 · rw [e] at hk
   dsimp only at hk
   split at hk
   · rename_i v
     rw [tA_eq, argsK_eq] at hk
     generalize hcs : tAn = cs at hk
     have hx:=@chainC_ok kP G C0 hC 40 0 cs _ (args0 [v] 0 (.full 6)) _ _ (fun _ _ h => h) hk
     clear hk
     obtain ⟨e0, s0, E0, hch, hs0, hk⟩:=hx
     rw [← hcs, tAn_fst] at hch
     cases e0 with
     | normal =>
       obtain ⟨E4, s1, hr4, hs4, hk⟩:=opsU_ok (ops:=tOps1) hC (fun _ => True) (fun _ _ _ _ _ _ => trivial) (fun o ho E _ => by
         unfold aguard
         rw [t1g o ho]) trivial hs0 (show opsU kP (theOps kP) C0 40 (tOps1.toList.take 2) E0 s0.h _ = true from hk)
       obtain ⟨v8, hv8, hk⟩:=okB_ok hk
       unfold boxT at hk
       split at hk
       rotate_left
       · cases hk
       rename_i h9
       rw [Nat.beq_eq] at h9
       have hk:=forceN_ok hk
       rw [Tr.setK_eq] at hk
       dsimp only at hk
       rw [Tr.setK_eq] at hk
       have hk : (Tr.setK _ 3 _ _) = true:=hk
       rw [Tr.setK_eq] at hk
       have hx1:=@compC_ok kP (GT G s1.h.n) (C1 s1.h.n) (hC1 _) 40 tRest _ _ _ ((s1.E.set 9 (some (.pointer (some ⟨s1.h.n, 0, none⟩)))).set 3 (some (.pointer (some ⟨s1.h.n, 0, none⟩)))) _ _ ((hs4.set 9 _).set 3 _) hk
       clear hk
       obtain ⟨e1, s2, E2, hr5, hs5, hk⟩:=hx1
       have hr5 : Runs kP (GT G s1.h.n) 40 tRest (sW s1 v8) (toE e1) s2:=hr5
       have fin : (toE e1 = .normal ∨ toE e1 = .ret) → resK kP (theOps kP) E2 s2.h Tryz.f31.results.toList (fun vs => tupK vs fun v => ltK s1.h.n s2.h (K v s2.h)) = true → ∃ v' h', CallsTo kP G' 31 [v] h v' h' ∧ K v' h' = true:=fun he hk => by
         obtain ⟨vs, hvs, hk⟩:=resK_ok hs5 hk
         have fin : ∀ u, aresults kP Tryz.f31 s2 = some u → ltK s1.h.n s2.h (K u s2.h) = true → ∃ v' h', CallsTo kP G' 31 [v] h v' h' ∧ K v' h' = true:=fun u hu hk => by
           unfold ltK at hk
           split at hk
           rotate_left
           · cases hk
           rename_i hlt
           refine ⟨u, s2.h, ⟨0, fun k _ => ?_⟩, hk⟩
           unfold Abs.call callBy
           rw [hG]
           dsimp only
           rw [natText_ret ⟨s0, s1, v8, toE e1, s2, hch, hr4, hs4 _ _ hv8, he, hr5, h9, Nat.le_of_ble_eq_true hlt, hu, rfl⟩]
           rfl
         unfold tupK at hk
         split at hk
         · exact fin _ (by simp only [aresults, hvs]) hk
         · rename_i us hne
           refine fin (.tuple ⟨vs⟩) ?_ hk
           simp only [aresults, hvs]
       cases e1 with
       | normal => exact fin (.inl rfl) hk
       | exit id => cases hk
       | ret => exact fin (.inr rfl) hk
     | exit id => cases hk
     | ret => cases hk
   · cases hk
 · rw [e] at hk; cases hk
end
end Go.Proofs.YtacknhbgfijkcaaGreatDoor
end
section
/- Pieces of trace.Text as terms of the quick engine. -/
set_option maxRecDepth 100000
namespace Go.Proofs.YtacknhbgfijkcaaGreatDoor
open Go Go.RowKit Go.Proofs.YtacknhbgfijkcaaGreatDoor.Abs
noncomputable def uBody : Code:=bodyOf kP 18
noncomputable def uR0 : Code:=sqA uBody
noncomputable def uS1 : Code:=sqA (sqB uBody)
noncomputable def uOps3 : Array Oper:=opsOf (sqA (sqB (sqB uBody)))
noncomputable def uRest : Code:=sqB (sqB (sqB uBody))
noncomputable def uAn : List (Code × Nat):=[(uR0, 22), (uS1, 22)]
theorem uAn_fst : uAn.map (·.1) = [uR0, uS1]:=rfl
noncomputable def boxB (C1 : Nat → Callees) (h : Hp) (K : Callees → Nat → Value → Hp → Bool) : Bool:=forceN h.n fun m => h.t.setK m (some (.cells [.pointer none, .slice none 0 0] 99 true)) fun t' => K (C1 m) m (.pointer (some ⟨m, 0, none⟩)) ⟨t', Nat.succ m⟩
noncomputable def uA (R : Ops) (C : Callees) (C1 : Nat → Callees) : Value → Value → Hp → KVH → Bool:=fun (p0 p1 : Value) (h : Hp) (K : KVH) => R.bx 48 h p0 fun v1 v2 => R.ln 6 v2 v1 fun v3 => C 19 1 v3 v2 fun v4 v5 => R.nt v4 fun v6 => R.br v6 (false) (boxB C1 v5 fun C m9 t9 h9 => R.jn (fun J7 : Cur (Hp → Bool) 0 => R.lv p1 fun v8 => R.jn (fun J9 : Cur (Hp → Bool) 0 => R.lp 2 (fun Ja vb vc vd => R.bi .lss vc v8 fun ve => R.jn (fun Jf : Cur (Hp → Bool) 0 => R.br ve (Jf vd) (J9 vd)) fun vg => R.jn (fun Jh : Cur (Hp → Bool) 1 => R.jn (fun Ji : Cur (Hp → Bool) 1 => R.xs 5 p1 vc fun vj => R.ln 5 vg vj fun vk => R.al 94 [(.int .i64 (.ofNat 0)), (.int .i64 (.ofNat 0)), (.int .i64 (.ofNat 0)), (.bool false), (.bool false)] vg fun vl vm => R.sn 5 vm vl vk fun vn vo => R.ln 6 vo v1 fun vp => R.ln 5 vo vl fun vq => C 27 2 vp vq vo fun vr vs => R.jn (fun Jt : Cur (Hp → Bool) 1 => R.bs .eql vr (.string ⟨⟨[]⟩⟩) fun vu => R.br vu (ltK m9 vs (K (.string ⟨⟨[]⟩⟩) vs)) (Jt vb vs)) fun vv vw => C 28 2 t9 vr vw fun vx vy => Ji vv vy) fun vz v10 => Jh vz v10) fun v11 v12 => R.bi .add vc (.int .i64 (.ofNat 1)) fun v13 => Ja v11 v13 v12) fuel (.string ⟨⟨[]⟩⟩) (.int .i64 (.ofNat 0)) h9) fun v14 => J7 v14) fun v15 => C 29 1 t9 v15 fun v16 v17 => ltK m9 v17 (K v16 v17))
theorem uA_eq (R : Ops) (C : Callees) (C1 : Nat → Callees) (v v1 : Value) (h : Hp) (K : KVH) : uA R C C1 v v1 h K = argsK (.full 5) 0 [v, v1] fun E => chainC kP R C 27 16 uAn E h (fun ax E h => match ax with
   | .normal => boxB C1 h fun C m9 t9 h => E.setK 5 (some t9) fun E => compC kP R C 27 uRest 16 16 E h (fun ax E h => match ax with
     | .exit _ => false
     | _ => resK kP R E h Tryz.f18.results.toList (fun vs => tupK vs fun v => ltK m9 h (K v h)))
   | _ => false):=by kernel_rfl
end Go.Proofs.YtacknhbgfijkcaaGreatDoor
end
section
/- trace.Text: where its builder lies is known while it is written: a native. -/
namespace Go.Proofs.YtacknhbgfijkcaaGreatDoor
open Go Go.RowKit Go.Proofs.YtacknhbgfijkcaaGreatDoor.Abs
theorem uBody_eq : bodyOf kP 18 = .seq uR0 (.seq uS1 (.seq (.region 3 uOps3 false) uRest)):=by kernel_rfl
theorem ubody : Tryz.f18.body = some (bodyOf kP 18):=by kernel_rfl
theorem untm : Tryz.f18.ntmps = 27:=by kernel_rfl
theorem u3s : uOps3.size = 1:=by kernel_rfl
theorem uinf : (kP.info? 99).bind (fun i => i.zero.map fun z => (i.size, z)) = some (2, .agg #[.pointer none, .slice none 0 0]):=by kernel_rfl
section
variable (G : GivenT)
noncomputable def GB (m : Nat) : GivenT:=gAdd 50 (natCC m 99) (gAdd 29 (natStr m) G)
noncomputable def sB (s : ASt) : ASt:=⟨s.E.set 5 (some (.pointer (some ⟨s.h.n, 0, none⟩))), ⟨s.h.t.set s.h.n (some (.cells [.pointer none, .slice none 0 0] 99 true)), s.h.n + 1⟩⟩
def URun (args : List Value) (h : Hp) (v : Value) (h' : Hp) : Prop:=∃ s0 e s2, ChainR kP G 27 [uR0, uS1] ⟨args0 args 0 (.full 5), h⟩ .normal s0 ∧
 (e = .normal ∨ e = .ret) ∧ Runs kP (GB G s0.h.n) 27 uRest (sB s0) e s2 ∧ s0.h.n < s2.h.n ∧ aresults kP Tryz.f18 s2 = some v ∧ h' = s2.h
theorem URun.unique {args : List Value} {h : Hp} {v1 v2 : Value} {h1 h2 : Hp} (a : URun G args h v1 h1) (b : URun G args h v2 h2) : v1 = v2 ∧ h1 = h2:=by
 obtain ⟨s0, e, s2, a1, a4, a5, a7, a8, a9⟩:=a
 obtain ⟨t0, f, t2, b1, b4, b5, b7, b8, b9⟩:=b
 obtain ⟨_, rfl⟩:=a1.unique b1
 obtain ⟨_, rfl⟩:=a5.unique b5
 rw [a8] at b8; cases b8
 exact ⟨rfl, a9.trans b9.symm⟩
open Classical in
noncomputable def natTrace : Native:=fun args h => if hx : ∃ p : Value × Hp, URun G args h p.1 p.2 then .ret (.ret hx.choose.1, hx.choose.2) else .none
variable {G}
theorem natTrace_ret {args : List Value} {h h' : Hp} {v : Value} (k : URun G args h v h') : natTrace G args h = .ret (.ret v, h'):=by
 unfold natTrace
 have hx : ∃ p : Value × Hp, URun G args h p.1 p.2:=⟨(v, h'), k⟩
 rw [dif_pos hx]
 obtain ⟨e1, e2⟩:=URun.unique G hx.choose_spec k
 rw [e1, e2]
theorem natTrace_run {args : List Value} {h h' : Hp} {r : CRet} (k : (natTrace G args h).run = some (r, h')) : ∃ v, r = .ret v ∧ URun G args h v h':=by
 unfold natTrace at k
 split at k
 · rename_i hx
   cases k
   exact ⟨_, rfl, hx.choose_spec⟩
 · cases k
theorem trace_ok {base : Nat} {w0 : Abs.Start} (hG : GivenOk kP base w0 G) : NatOk kP base w0 18 (natTrace G):=by
 intro args h r h' hg
 obtain ⟨v, rfl, s0, e, s2, a1, he, a4, a6, a7, rfl⟩:=natTrace_run hg
 have hD : DrawOk kP base w0:=adraw_ok noNG_k kmix
 have n0:=a1.n noNG_k hD hG
 have n01 : h.n ≤ s0.h.n:=n0
 refine ⟨by omega, fun ι w args' hI hr hgl hf => ?_⟩
 refine calls_of_wp Tryz.func18 ubody ?_
 rw [uBody_eq]
 refine ChainR.ok noNG_k hD hG a1 hI (args0_rel hr _ _) (by rw [untm]; simp; omega) hgl hf fun e' b2 w2 hp => ?_
 obtain ⟨ι2, t2, hI2, hE2, hl2, hd2, rfl⟩:=hp
 have f2:=t2.fresh hf
 obtain ⟨o2, ho2, hdo2, hp2, hg2⟩:=opG_at (show opG uOps3 0 = some (some 5, .alloc 99, none) by kernel_rfl)
 refine wp_seq (wp_regionO u3s fun ops hops => ?_)
 rw [← hops] at ho2
 rw [show List.range 1 = [0] from rfl]
 obtain ⟨inf, hinf, hz⟩:=Option.bind_eq_some_iff.1 uinf
 obtain ⟨z, hz, hzz⟩:=Option.map_eq_some_iff.1 hz
 obtain ⟨hisz, rfl⟩:=Prod.mk.inj hzz
 obtain ⟨ι3, r1, r2, r3, r4⟩:=newRow_ok (e:=99) (cs:=#[.pointer none, .slice none 0 0]) (cs':=#[.pointer none, .slice none 0 0]) hI2 (f2 _ (Nat.le_refl _)) (Nat.le_trans hgl n01) hinf ⟨rfl, fun i a _ => match i, a with
   | 0, _ => .nilPtr
   | 1, _ => .nilSlice
   | i + 2, a => absurd a (by simp)⟩
 have r2 : ι3 s0.h.n = some ⟨w2.heap.size, 0, 2, 2⟩:=by rw [r2, hisz]; rfl
 refine wpOps_step (v:=.pointer (some ⟨w2.heap.size, 0, none⟩)) (w':=w2.alloc (.cells #[.pointer none, .slice none 0 0] 99)) ho2 hg2 ?_ ?_
 · unfold execOp
   rw [hp2]
   simp only [Instr.alloc, Sem.run_bind, run_zero hinf hz, Result.andThen_ok, newVar, Value.cells, r1, Sem.run_pure]
 rw [hdo2]
 have hE3 : EnvRel ι3 (sB s0).E (b2.put (some 5) (.pointer (some ⟨w2.heap.size, 0, none⟩))).tmps:=by
   have hE2' : EnvRel ι3 s0.E b2.tmps:=fun t => (hE2 t).grow r3.grow
   have hz5 : 5 < b2.tmps.size:=by omega
   exact envrel_put hE2' hz5 (.ptr s0.h.n 0 _ r2)
 have f3:=r3.fresh f2
 have hI3 : Inv kP base ⟨w0.w, ι3⟩ ι3 (sB s0).h.t.get (w2.alloc (.cells #[.pointer none, .slice none 0 0] 99)):=⟨r4.below, r4.base_le, Grows.refl _, r4.obj, r4.inj, r4.lt, r4.glob⟩
 have hbd : BdAt ⟨w0.w, ι3⟩ s0.h.n 99 2:=⟨by decide, by kernel_rfl, _, r2⟩
 have hG3 : GivenOk kP base ⟨w0.w, ι3⟩ (GB G s0.h.n):=((hG.more r4.init).add (natStr_ok hbd)).add (natCC_ok hbd)
 have hD3 : DrawOk kP base ⟨w0.w, ι3⟩:=adraw_ok noNG_k kmix
 unfold wpOps
 refine wp_mono ((a4.ok noNG_k hD3 hG3).2 ι3 (b2.put (some 5) (.pointer (some ⟨w2.heap.size, 0, none⟩))) _ hI3 hE3 (by rw [put_size]; exact hl2) (by
   show kP.globals.size ≤ s0.h.n + 1
   exact Nat.le_trans (Nat.le_trans hgl n01) (Nat.le_succ _)) f3) fun e' a' w' hp => ?_
 obtain ⟨ι4, t4, hI4, hE4, hl4, hd4, hx⟩:=hp
 obtain ⟨v', q1, q2⟩:=aresults_ok hI4 hE4 a7
 have hI5 : Inv kP base w0 ι4 s2.h.t.get w':=⟨hI4.below, hI4.base_le, r4.init.trans hI4.init, hI4.obj, hI4.inj, hI4.lt, hI4.glob⟩
 have hd5 : a'.defers = []:=hd4.trans hd2
 rcases he with rfl | rfl
 · subst hx
   exact ⟨hd5, v', q1, ι4, t2.trans (r3.trans t4), hI5, v', rfl, q2⟩
 · subst hx
   exact ⟨hd5, v', q1, ι4, t2.trans (r3.trans t4), hI5, v', rfl, q2⟩
noncomputable def uF (C0 : Callees) (C1 : Nat → Callees) : Callees → FnT 2:=fun _ => lam 2 fun args h K => match args with
 | [v, v1] => uA (theOps kP) C0 C1 v v1 h K
 | _ => false
theorem uF_ok {C0 : Callees} {C1 : Nat → Callees} (hC : COk kP G C0) (hC1 : ∀ m, COk kP (GB G m) (C1 m)) {G' : GivenT} (hG : G' 18 = some (natTrace G)) : EntOk kP G' 18 ⟨2, uF C0 C1⟩:=by
 intro C _ args h K hk
 replace hk : app noF 2 (lam 2 fun args h (K : KVH) => match args with | [v, v1] => uA (theOps kP) C0 C1 v v1 h K | _ => false) args h K = true:=hk
 rcases app_lam noF 2 (fun args h (K : KVH) => match args with | [v, v1] => uA (theOps kP) C0 C1 v v1 h K | _ => false) args with e | e
 · rw [e] at hk
   dsimp only at hk
   split at hk
   · rename_i v v1
     rw [uA_eq, argsK_eq] at hk
     generalize hcs : uAn = cs at hk
     have hx:=@chainC_ok kP G C0 hC 27 _ cs _ (args0 [v, v1] 0 (.full 5)) _ _ (fun _ _ h => h) hk
     clear hk
     obtain ⟨e0, s0, E0, hch, hs0, hk⟩:=hx
     rw [← hcs, uAn_fst] at hch
     cases e0 with
     | normal =>
       have hk : boxB _ _ _ = true:=hk
       unfold boxB at hk
       have hk:=forceN_ok hk
       rw [Tr.setK_eq] at hk
       dsimp only at hk
       rw [Tr.setK_eq] at hk
       have hx1:=@compC_ok kP (GB G s0.h.n) (C1 s0.h.n) (hC1 _) 27 uRest _ _ _ (s0.E.set 5 (some (.pointer (some ⟨s0.h.n, 0, none⟩)))) _ _ (hs0.set 5 _) hk
       clear hk
       obtain ⟨e1, s2, E2, hr5, hs5, hk⟩:=hx1
       have hr5 : Runs kP (GB G s0.h.n) 27 uRest (sB s0) (toE e1) s2:=hr5
       have fin : (toE e1 = .normal ∨ toE e1 = .ret) → resK kP (theOps kP) E2 s2.h Tryz.f18.results.toList (fun vs => tupK vs fun v => ltK s0.h.n s2.h (K v s2.h)) = true → ∃ v' h', CallsTo kP G' 18 [v, v1] h v' h' ∧ K v' h' = true:=fun he hk => by
         obtain ⟨vs, hvs, hk⟩:=resK_ok hs5 hk
         have fin : ∀ u, aresults kP Tryz.f18 s2 = some u → ltK s0.h.n s2.h (K u s2.h) = true → ∃ v' h', CallsTo kP G' 18 [v, v1] h v' h' ∧ K v' h' = true:=fun u hu hk => by
           unfold ltK at hk
           split at hk
           rotate_left
           · cases hk
           rename_i hlt
           refine ⟨u, s2.h, ⟨0, fun k _ => ?_⟩, hk⟩
           unfold Abs.call callBy
           rw [hG]
           dsimp only
           rw [natTrace_ret ⟨s0, toE e1, s2, hch, he, hr5, Nat.le_of_ble_eq_true hlt, hu, rfl⟩]
           rfl
         unfold tupK at hk
         split at hk
         · exact fin _ (by simp only [aresults, hvs]) hk
         · rename_i us hne
           refine fin (.tuple ⟨vs⟩) ?_ hk
           simp only [aresults, hvs]
       cases e1 with
       | normal => exact fin (.inl rfl) hk
       | exit id => cases hk
       | ret => exact fin (.inr rfl) hk
     | exit id => cases hk
     | ret => cases hk
   · cases hk
 · rw [e] at hk; cases hk
end
end Go.Proofs.YtacknhbgfijkcaaGreatDoor
end
section
/- Pieces of state.Fresh as terms of the quick engine. -/
set_option maxRecDepth 100000
namespace Go.Proofs.YtacknhbgfijkcaaGreatDoor
open Go Go.RowKit Go.Proofs.YtacknhbgfijkcaaGreatDoor.Abs
noncomputable def fBody : Code:=bodyOf kP 138
noncomputable def fP0 : Code:=sqA fBody
noncomputable def fP1 : Code:=sqA (sqB fBody)
noncomputable def fP2 : Code:=sqA (sqB (sqB fBody))
noncomputable def fP3 : Code:=sqA (sqB (sqB (sqB fBody)))
noncomputable def fP4 : Code:=sqA (sqB (sqB (sqB (sqB fBody))))
noncomputable def fOps9 : Array Oper:=opsOf (sqA (sqB (sqB (sqB (sqB (sqB fBody))))))
noncomputable def fPs : List Code:=[fP0, fP1, fP2, fP3, fP4]
noncomputable def fAn : List (Code × Nat):=[(fP0, 2), (fP1, 10), (fP2, 26), (fP3, 26), (fP4, 8)]
theorem fAn_fst : fAn.map (·.1) = fPs:=rfl
noncomputable def freshK (m : Value) (h : Hp) (K : KVH) : Bool:=match m with
 | .map (some id) => match h.t.get id with
   | some (.map [] _ _) => K (.slice none 0 0) h
   | _ => false
 | _ => false
noncomputable def fA (R : Ops) (C : Callees) : Value → Hp → KVH → Bool:=fun (v : Value) (h : Hp) (K : KVH) => R.bx 91 h v fun v1 v2 => R.mm v2 fun v3 v4 => R.al 304 [(.map none)] v4 fun v5 v6 => R.s1 v6 v5 v3 fun v7 v8 => R.fa 2 v1 fun v9 => R.l1 v8 v9 fun va => R.dy C (.func (.func 225) ⟨[]⟩ ⟨[v5]⟩) [va] v8 fun vb vc => R.fa 7 v1 fun vd => R.l1 vc vd fun ve => R.lv ve fun vf => R.jn (fun Jg : Cur (Hp → Bool) 0 => R.lp 1 (fun Jh vi vj => R.bi .lss vi vf fun vk => R.jn (fun Jl : Cur (Hp → Bool) 0 => R.br vk (Jl vj) (Jg vj)) fun vm => R.jn (fun Jn : Cur (Hp → Bool) 0 => R.jn (fun Jo : Cur (Hp → Bool) 0 => R.xs 8 ve vi fun vp => R.ln 8 vm vp fun vq => R.al 188 [(.int .i64 (.ofNat 0)), (.int .i64 (.ofNat 0)), (.int .i64 (.ofNat 0)), (.bool false), (.bool false), (.bool false), (.int .i64 (.ofNat 0)), (.slice none 0 0)] vm fun vr vs => R.sn 8 vs vr vq fun vt vu => R.fa 7 vr fun vv => R.l1 vu vv fun vw => R.dy C (.func (.func 225) ⟨[]⟩ ⟨[v5]⟩) [vw] vu fun vx vy => Jo vy) fun vz => Jn vz) fun v10 => R.bi .add vi (.int .i64 (.ofNat 1)) fun v11 => Jh v11 v10) fuel (.int .i64 (.ofNat 0)) vc) fun v12 => R.l1 v12 v5 fun v13 => freshK v13 v12 K
theorem fA_eq (R : Ops) (C : Callees) (v : Value) (h : Hp) (K : KVH) : fA R C v h K = argsK (.full 5) 0 [v] fun E => chainC kP R C 28 0 fAn E h (fun ax E h => match ax with
   | .normal => opsU kP R C 28 (fOps9.toList.take 1) E h (fun E h => okB (E.get 25) fun m => freshK m h K)
   | _ => false):=by kernel_rfl
theorem f9a : ((fOps9.toList.take 1).all fun o => match o.guard with | none => true | some _ => false) = true:=by kernel_rfl
theorem f9g (o : Oper) (ho : o ∈ fOps9.toList.take 1) : o.guard = none:=by
 have:=List.all_eq_true.1 f9a o ho
 split at this
 · assumption
 · cases this
end Go.Proofs.YtacknhbgfijkcaaGreatDoor
end
section
namespace Go.Proofs.YtacknhbgfijkcaaGreatDoor
open Go.Proofs
open Go.RowKit Go.Maps Go.Sort Go.Shelf
shelf_lay_g SlLaysZI.n7 Ggz 7 at Tryz 227 as Tryz.keysA
shelf_lay_g SlLaysZI.n6 Ggz 6 at Tryz 226 as Tryz.sortedA
shelf_lay_g SlLaysM.n5 Slgm 5 at Tryz 283 as Tryz.sortA
theorem Tryz.sortsA (m : Nat) : AnyZI.SortsIn Tryz.prog Tryz.sortedA_ren Fence.wide m :=
 ⟨fun blk off cap ss W hH hblk hsz => callsIn_wide.2 (AnyM.slices_Sort_int Tryz.sortA blk off cap ss W hH hblk hsz),
  fun p cap W => callsIn_wide.2 (AnyM.slices_Sort_int_none Tryz.sortA p cap W)⟩
theorem Tryz.maps_Keys (mb : Option Nat) (W : World) : Calls Tryz.prog 227 #[.map mb] W fun e w' => e = .returned (.func (.func 284) #[] #[.pointer (some ⟨W.heap.size, 0, none⟩)]) ∧ w' = W.alloc (.cells #[.map mb] 304) :=
 (callsIn_wide (n:=5)).1 (AnyZI.keys_in Tryz.keysA Fence.wide 5 trivial rfl mb W)
set_option maxHeartbeats 1000000 in
theorem Tryz.sorted_keys {H : Type} (Bm b nn : Nat) (D0 : DataW H) (R : Value → Option (DataW H × List MemPlace)) (w : World) (hBm : Bm < w.heap.size) (hm : w.cell? ⟨Bm, 0, none⟩ = some (.map (some b))) (hown : w.ownsMap Tryz.prog 3 R b nn D0) (hmax : Maps.size D0 ≤ maxLen) (hbytes : Maps.size D0 * 8 ≤ 140737488355328) :
   Calls Tryz.prog 226 #[.func (.func 284) #[] #[.pointer (some ⟨Bm, 0, none⟩)]] w fun e w' => ∃ (v : Value) (ss : List Int), e = .returned v ∧ ss.Perm (intKeys D0) ∧
     w'.ownsRow w.heap.size 3 1 v ss.length ((ss.mergeSort (fun x y => decide (x ≤ y))).map encZ) ∧ (v = .slice none 0 0 ↔ ss = []) ∧ Below w.heap.size w w':=by
 have hseq : SeqGives Fence.wide 2 Tryz.prog 284 #[.pointer (some ⟨Bm, 0, none⟩)] encZ (fun ss => ss.Perm (intKeys D0)) (Maps.size D0) w :=
   AnyZI.keys_gives (ρ:=Tryz.keysA_ren) { Tryz.keysA with } Fence.wide _ trivial rfl (by omega) Bm b nn D0 w hBm hm hown
 have cS:=AnyZI.sorted_in Tryz.sortedA Fence.wide 5 trivial trivial trivial trivial rfl (by omega) (Tryz.sortsA _) (enters_of Tryz.func283 (by kernel_rfl) rfl) 284 #[.pointer (some ⟨Bm, 0, none⟩)] trivial (enters_of Tryz.func284 (by kernel_rfl) rfl) _ _ hmax hbytes w hseq
 change CallsIn _ _ Tryz.prog 226 _ _ _ at cS
 exact (callsIn_wide (n:=5)).1 cS
end Go.Proofs.YtacknhbgfijkcaaGreatDoor
end
section
/- state.Fresh where nothing is fresh: a native. -/
namespace Go.Proofs.YtacknhbgfijkcaaGreatDoor
open Go Go.RowKit Go.Proofs.YtacknhbgfijkcaaGreatDoor.Abs
theorem fBody_eq : bodyOf kP 138 = nest fPs (.seq (.region 9 fOps9 false) .ret):=by kernel_rfl
theorem fbody : Tryz.f138.body = some (bodyOf kP 138):=by kernel_rfl
theorem fntm : Tryz.f138.ntmps = 28:=by kernel_rfl
theorem fres : Tryz.f138.results = #[.tmp 2]:=by kernel_rfl
theorem f9s : fOps9.size = 4:=by kernel_rfl
theorem f9m : [0].map (fOps9[·]?) = (fOps9.toList.take 1).map some:=by kernel_rfl
theorem wpOps_call {P : Program} {ops : Array Oper} {Q : Exit → Act → World → Prop} {i : Nat} {l : List Nat} {a : Act} {w : World} {o : Oper} {f : FuncId} {args : Array Value} (ho : ops[i]? = some o) (hg : o.guard = none)
   (hr : (execOp a.eval o).run P w = .ok (.enter f args) w) (h : Calls P f args w fun e w' => ∃ v, e = .returned v ∧ wpOps P ops Q l (a.put o.dst v) w') : wpOps P ops Q (i :: l) a w:=by
 unfold wpOps
 rw [ho]
 dsimp only
 rw [if_pos (by simp only [Region.wanted, hg])]
 refine .inl ?_
 unfold Oper.wp
 rw [hr, Oper.upon_enter]
 refine Calls.mono h fun e w' hx => ?_
 obtain ⟨v, rfl, hx⟩:=hx
 exact hx
section
variable (G : GivenT)
def FRun (args : List Value) (h : Hp) (v : Value) (h' : Hp) : Prop:=∃ s0 s1 id clock wr, ChainR kP G 28 fPs ⟨args0 args 0 (.full 5), h⟩ .normal s0 ∧ RunsOps kP G 28 fOps9 (fOps9.toList.take 1) s0 s1 ∧
 s1.E.get 25 = some (.map (some id)) ∧ s1.h.t.get id = some (.map [] clock wr) ∧ v = .slice none 0 0 ∧ h' = s1.h
theorem FRun.unique {args : List Value} {h : Hp} {v1 v2 : Value} {h1 h2 : Hp} (a : FRun G args h v1 h1) (b : FRun G args h v2 h2) : v1 = v2 ∧ h1 = h2:=by
 obtain ⟨s0, s1, _, _, _, a1, a2, _, _, a3, a4⟩:=a
 obtain ⟨t0, t1, _, _, _, b1, b2, _, _, b3, b4⟩:=b
 obtain ⟨_, rfl⟩:=a1.unique b1
 obtain rfl:=a2.unique b2
 exact ⟨a3.trans b3.symm, a4.trans b4.symm⟩
open Classical in
noncomputable def natFresh : Native:=fun args h => if hx : ∃ p : Value × Hp, FRun G args h p.1 p.2 then .ret (.ret hx.choose.1, hx.choose.2) else .none
variable {G}
theorem natFresh_ret {args : List Value} {h h' : Hp} {v : Value} (k : FRun G args h v h') : natFresh G args h = .ret (.ret v, h'):=by
 unfold natFresh
 have hx : ∃ p : Value × Hp, FRun G args h p.1 p.2:=⟨(v, h'), k⟩
 rw [dif_pos hx]
 obtain ⟨e1, e2⟩:=FRun.unique G hx.choose_spec k
 rw [e1, e2]
theorem natFresh_run {args : List Value} {h h' : Hp} {r : CRet} (k : (natFresh G args h).run = some (r, h')) : ∃ v, r = .ret v ∧ FRun G args h v h':=by
 unfold natFresh at k
 split at k
 · rename_i hx
   cases k
   exact ⟨_, rfl, hx.choose_spec⟩
 · cases k
theorem exec_callF {P : Program} {ρ : Operand → Value} {o : Oper} {f : FuncId} {x : Operand} {ts : Array TypeId} {w : World} (h : o.op = .call { callee:=.value (.func f), args:=#[x], argTypes:=ts }) (hf : ρ (.func f) = .func (.func f) #[] #[]) (he : ∀ args w, (callFunc f args).run P w = .ok (.enter f args) w) :
   (execOp ρ o).run P w = .ok (.enter f #[ρ x]) w:=by
 unfold execOp
 rw [h]
 simp only [resolve, hf, Deferred.ofValue, Sem.run_bind, Sem.run_pure, Result.andThen_ok, invoke, List.map_toArray, List.map_cons, List.map_nil]
 simpa using he #[ρ x] w
theorem fresh_ok {base : Nat} {w0 : Abs.Start} (hG : GivenOk kP base w0 G) : NatOk kP base w0 138 (natFresh G):=by
 intro args h r h' hg
 obtain ⟨v, rfl, s0, s1, mid, clock, wr, a1, a2, a3, a4, rfl, rfl⟩:=natFresh_run hg
 have hD : DrawOk kP base w0:=adraw_ok noNG_k kmix
 have n0:=a1.n noNG_k hD hG
 have n1:=(a2.ok noNG_k hD hG).1
 have n01 : h.n ≤ s1.h.n:=Nat.le_trans n0 n1
 refine ⟨n01, fun ι w args' hI hr hgl hf => ?_⟩
 refine calls_of_wp Tryz.func138 fbody ?_
 rw [fBody_eq]
 refine ChainR.ok noNG_k hD hG a1 hI (args0_rel hr _ _) (by rw [fntm]; simp; omega) hgl hf fun e' b1 w1 hp => ?_
 obtain ⟨ι1, t1, hI1, hE1, hl1, hd1, rfl⟩:=hp
 have f1:=t1.fresh hf
 obtain ⟨o1, ho1, hdo1, hp1, hg1⟩:=opG_at (show opG fOps9 1 = some (some 26, .call { callee:=.value (.func 227), args:=#[.tmp 25], argTypes:=#[304] }, none) by kernel_rfl)
 obtain ⟨o2, ho2, hdo2, hp2, hg2⟩:=opG_at (show opG fOps9 2 = some (some 27, .call { callee:=.value (.func 226), args:=#[.tmp 26], argTypes:=#[308] }, none) by kernel_rfl)
 obtain ⟨o3, ho3, hdo3, hp3, hg3⟩:=opG_at (show opG fOps9 3 = some (some 2, .assign (.tmp 27), none) by kernel_rfl)
 have hm01:=f9m
 refine wp_seq (wp_regionO f9s fun ops hops => ?_)
 rw [← hops] at ho1 ho2 ho3 hm01 a2
 rw [show List.range 4 = [0] ++ [1, 2, 3] from rfl]
 refine wpOps_append _ _ _ (wpOps_mono (fun e b2 w2 hp => ?_) _ _ _ ((a2.ok noNG_k hD hG).2 hm01 hI1 hE1 hl1 (Nat.le_trans hgl n0) f1))
 obtain ⟨ι2, t2, hI2, hE2, hl2, hd2, rfl⟩:=hp
 obtain ⟨i, hi, h25⟩ : ∃ i, ι2 mid = some i ∧ b2.eval (.tmp 25) = .map (some i.rb):=by
   have:=hE2 25
   rw [a3] at this
   generalize hq : b2.tmps.getD 25 undef = q at this
   cases this with
   | map id i hi => exact ⟨i, hi, hq⟩
 obtain ⟨es', hm1, hm2, _⟩:=hI2.obj mid i _ hi a4
 have hes : es' = #[]:=by
   cases hl : es'.toList with
   | nil => exact Array.toList_eq_nil_iff.1 hl
   | cons x l => rw [hl] at hm2; exact hm2.elim
 subst hes
 have hlt:=(Array.getElem?_eq_some_iff.1 hm1).1
 refine wpOps_call ho1 hg1 (exec_callF hp1 rfl (enters_of Tryz.func227 (by kernel_rfl) rfl)) ?_
 rw [h25, hdo1]
 refine (Tryz.maps_Keys (some i.rb) w2).mono fun e w3 hq => ?_
 obtain ⟨rfl, rfl⟩:=hq
 refine ⟨_, rfl, ?_⟩
 have hb3 : Below w2.heap.size w2 (w2.alloc (.cells #[.map (some i.rb)] 304)):=(Below.refl _ _).alloc (Nat.le_refl _) _
 refine wpOps_call ho2 hg2 (exec_callF hp2 rfl (enters_of Tryz.func226 (by kernel_rfl) rfl)) ?_
 rw [eval_put_same (by omega), hdo2]
 have hown : (w2.alloc (.cells #[.map (some i.rb)] 304)).ownsMap Tryz.prog 3 (fun _ => (none : Option (DataW Unit × List MemPlace))) i.rb 0 (.map []) :=
   ⟨#[], clock, (hb3.block _ hlt).trans hm1, ⟨Nat.zero_le _, MapKept.stamped_empty clock, fun x hx => by simp at hx⟩, Nat.le_refl _, rfl⟩
 refine (Tryz.sorted_keys w2.heap.size i.rb 0 (.map []) _ (w2.alloc (.cells #[.map (some i.rb)] 304)) (by rw [World.size_alloc]; omega) (by rw [cell_of (alloc_new w2 _)]; rfl) hown (by decide) (by decide)).mono fun e w4 hq => ?_
 obtain ⟨v, ss, rfl, hss, hrow, hnil, hb4⟩:=hq
 have hss0 : ss = []:=List.Perm.eq_nil hss
 obtain rfl:=hnil.2 hss0
 refine ⟨_, rfl, ?_⟩
 refine wpOps_step ho3 hg3 (exec_assign hp3) ?_
 rw [hdo3, eval_put_same (by rw [put_size]; omega)]
 unfold wpOps
 refine wp_ret ?_
 refine ⟨hd2.trans hd1, .slice none 0 0, ?_, ι2, t1.trans t2, (hI2.still hb3).still hb4, _, rfl, .nilSlice⟩
 rw [results_eq, fres]
 have h2 : (((b2.put (some 26) (.func (.func 284) #[] #[.pointer (some ⟨w2.heap.size, 0, none⟩)])).put (some 27) (.slice none 0 0)).put (some 2) (.slice none 0 0)).tmps.getD 2 undef = .slice none 0 0:=eval_put_same (by rw [put_size, put_size]; omega)
 simp
 unfold resOf
 dsimp only
 rw [h2]
 rfl
noncomputable def frF (C0 : Callees) : Callees → FnT 1:=fun _ => lam 1 fun args h K => match args with
 | [v] => fA (theOps kP) C0 v h K
 | _ => false
theorem frF_ok {C0 : Callees} (hC : COk kP G C0) {G' : GivenT} (hG : G' 138 = some (natFresh G)) : EntOk kP G' 138 ⟨1, frF C0⟩:=by
 intro C _ args h K hk
 replace hk : app noF 1 (lam 1 fun args h (K : KVH) => match args with | [v] => fA (theOps kP) C0 v h K | _ => false) args h K = true:=hk
 rcases app_lam noF 1 (fun args h (K : KVH) => match args with | [v] => fA (theOps kP) C0 v h K | _ => false) args with e | e
 · rw [e] at hk
   dsimp only at hk
   split at hk
   · rename_i v
     rw [fA_eq, argsK_eq] at hk
     generalize hcs : fAn = cs at hk
     have hx:=@chainC_ok kP G C0 hC 28 0 cs _ (args0 [v] 0 (.full 5)) _ _ (fun _ _ h => h) hk
     clear hk
     obtain ⟨e0, s0, E0, hch, hs0, hk⟩:=hx
     rw [← hcs, fAn_fst] at hch
     cases e0 with
     | normal =>
       obtain ⟨E4, s1, hr4, hs4, hk⟩:=opsU_ok (ops:=fOps9) hC (fun _ => True) (fun _ _ _ _ _ _ => trivial) (fun o ho E _ => by
         unfold aguard
         rw [f9g o ho]) trivial hs0 (show opsU kP (theOps kP) C0 28 (fOps9.toList.take 1) E0 s0.h _ = true from hk)
       obtain ⟨m, hm, hk⟩:=okB_ok hk
       unfold freshK at hk
       split at hk
       rotate_left
       · cases hk
       rename_i id
       split at hk
       rotate_left
       · cases hk
       rename_i clock wr hid
       refine ⟨_, _, ⟨0, fun k _ => ?_⟩, hk⟩
       unfold Abs.call callBy
       rw [hG]
       dsimp only
       rw [natFresh_ret ⟨s0, s1, id, clock, wr, hch, hr4, hs4 _ _ hm, hid, rfl, rfl⟩]
       rfl
     | exit id => cases hk
     | ret => cases hk
   · cases hk
 · rw [e] at hk; cases hk
end
end Go.Proofs.YtacknhbgfijkcaaGreatDoor
end
section
/- bytes.Compare: what it reads of rows that are known; a native. -/
namespace Go.Proofs.YtacknhbgfijkcaaGreatDoor
open Go Go.RowKit Go.Proofs.YtacknhbgfijkcaaGreatDoor.Abs
theorem eload_run {P : Program} {w : World} : ∀ (l : List UInt8) (a : Addr) (acc : ByteArray), (∀ j x, l[j]? = some x → w.cell? (a.add j) = some (.int .u8 x.toNat)) →
   (Extern.Bytes.loadBytes a l.length acc).run P w = .ok ⟨acc.data ++ l.toArray⟩ w
 | [], a, acc, _ => by simp [Extern.Bytes.loadBytes]
 | x :: l, a, acc, h => by
   have h0 : w.cell? a = some (.int .u8 x.toNat):=by
     have:=h 0 x rfl
     simpa [Addr.add] using this
   have ih:=eload_run (P:=P) l (a.add 1) (acc.push x) (fun j y hy => by
     have:=h (j + 1) y (by simpa using hy)
     have e : (a.add 1).add j = a.add (j + 1):=by
       unfold Addr.add
       by_cases hj : j = 0
       · subst hj; simp
       · simp [hj]; omega
     rw [e]; exact this)
   have hx : ((x.toNat : Int).toNat).toUInt8 = x:=by simp
   simp only [List.length_cons, Extern.Bytes.loadBytes, Sem.run_bind, run_load, h0, Result.andThen, hx]
   rw [ih]
   congr 1
   apply ByteArray.ext
   simp [ByteArray.push]
noncomputable def bytesS (h : Hp) : Value → Option (List UInt8)
 | .slice none 0 0 => some []
 | .slice (some ⟨id, off, none⟩) len _ => match h.t.get id with
   | some (.cells cs u _) => match Nat.beq u 5, Nat.ble (Nat.add off len) cs.length with
     | true, true => bytes8 ((cs.drop off).take len)
     | _, _ => none
   | _ => none
 | _ => none
theorem bytesS_ok {base : Nat} {w0 : Abs.Start} {ι : Nat → Option Abs.Loc} {h : Hp} {w : World} {v v' : Value} {l : List UInt8} (hI : Inv Tryz.prog base w0 ι h.t.get w) (hx : VRel ι v v') (hb : bytesS h v = some l) :
   (Extern.Bytes.bytesOf v').run Tryz.prog w = .ok ⟨⟨l⟩⟩ w:=by
 unfold bytesS at hb
 split at hb
 · cases hb
   cases hx
   rfl
 · rename_i id off len c
   split at hb
   rotate_left
   · cases hb
   rename_i cs u wr hcs
   split at hb
   rotate_left
   · cases hb
   rename_i hu hle
   have hle:=Nat.le_of_ble_eq_true hle
   have hle : off + len ≤ cs.length:=hle
   have hb8:=bytes8_ok hb
   have hlen : l.length = len:=by
     have:=congrArg List.length hb8
     rw [List.length_take, List.length_drop, List.length_map] at this
     omega
   cases hx with
   | slice _ _ _ _ cap j ra hj hl hcc hxx =>
   obtain ⟨arr, fz, g1, g2, g3, g5, g4, _⟩:=hI.cells_at hj hcs
   rcases hxx with ⟨rfl, hxx⟩ | ⟨h0, h00⟩
   · have hr:=eload_run (P:=Tryz.prog) l ⟨j.rb, j.δ + off, none⟩ .empty fun k x hk => by
       rw [addr_add, cell_of g1]
       have hx1 : ((cs.drop off).take len)[k]? = some (.int .u8 x.toNat):=by rw [hb8, List.getElem?_map, hk]; rfl
       have hkl : k < len:=by
         have:=(List.getElem?_eq_some_iff.1 hk).1
         omega
       rw [List.getElem?_take, if_pos hkl, List.getElem?_drop] at hx1
       obtain ⟨v2, p, q⟩:=g4 _ _ hx1
       cases q
       rw [Nat.add_assoc, p]
     rw [hlen] at hr
     simp only [Extern.Bytes.bytesOf]
     rw [hr]
     have e : (⟨ByteArray.empty.data ++ l.toArray⟩ : ByteArray) = ⟨⟨l⟩⟩:=by
       apply ByteArray.ext
       simp
     rw [e]
   · subst h0
     have : l = []:=List.eq_nil_of_length_eq_zero hlen
     subst this
     simp only [Extern.Bytes.bytesOf, Extern.Bytes.loadBytes, Sem.run_pure]
     rfl
 · cases hb
theorem ecompare_run {P : Program} {w : World} {a b : Value} {la lb : List UInt8} (h1 : (Extern.Bytes.bytesOf a).run P w = .ok ⟨⟨la⟩⟩ w) (h2 : (Extern.Bytes.bytesOf b).run P w = .ok ⟨⟨lb⟩⟩ w) :
   (Extern.BytealgCompare.compare #[a, b]).run P w = .ok (.int .i64 (Lib.compareBytes la lb)) w:=by
 change Sem.run P (do pure (goInt (Extern.BytealgCompare.cmp (← Extern.Bytes.bytesOf a) (← Extern.Bytes.bytesOf b)))) w = _
 simp only [Sem.run_bind, h1, h2, Sem.run_pure, Result.andThen]
 rw [Lib.cmp_eq]
 rfl
noncomputable def cmpN : List UInt8 → List UInt8 → Nat
 | [], [] => 1
 | [], _ :: _ => 0
 | _ :: _, [] => 2
 | a :: xs, b :: ys => match Nat.beq a.toNat b.toNat, Nat.ble a.toNat b.toNat with
   | true, _ => cmpN xs ys
   | false, true => 0
   | false, false => 2
theorem cmpN_ok : ∀ a b : List UInt8, Lib.compareBytes a b = (cmpN a b : Int) - 1
 | [], [] => rfl
 | [], _ :: _ => rfl
 | _ :: _, [] => rfl
 | a :: xs, b :: ys => by
   unfold Lib.compareBytes cmpN
   cases h1 : Nat.beq a.toNat b.toNat with
   | true =>
     rw [Nat.beq_eq] at h1
     have e : a = b:=UInt8.toNat_inj.1 h1
     subst e
     simp only [UInt8.lt_irrefl, if_false]
     exact cmpN_ok xs ys
   | false =>
     have hne : a.toNat ≠ b.toNat:=fun e => by rw [e, Nat.beq_refl] at h1; cases h1
     cases h2 : Nat.ble a.toNat b.toNat with
     | true =>
       have:=Nat.le_of_ble_eq_true h2
       have hlt : a < b:=UInt8.lt_iff_toNat_lt.2 (by omega)
       simp [hlt]
     | false =>
       have hnle : ¬ a.toNat ≤ b.toNat:=fun e => by rw [Nat.ble_eq_true_of_le e] at h2; cases h2
       have hlt : b < a:=UInt8.lt_iff_toNat_lt.2 (by omega)
       have hnl : ¬ a < b:=fun e => by have:=UInt8.lt_iff_toNat_lt.1 e; omega
       simp [hlt, hnl]
noncomputable def cmpV (n : Nat) : Value:=match n with
 | 0 => .int .i64 (.negSucc 0)
 | 1 => .int .i64 (.ofNat 0)
 | _ => .int .i64 (.ofNat 1)
theorem cmpN_le : ∀ a b : List UInt8, cmpN a b ≤ 2
 | [], [] => Nat.le_succ 1
 | [], _ :: _ => Nat.zero_le 2
 | _ :: _, [] => Nat.le_refl 2
 | a :: xs, b :: ys => by
   unfold cmpN
   split
   · exact cmpN_le xs ys
   · decide
   · decide
theorem cmpV_eq (a b : List UInt8) : cmpV (cmpN a b) = .int .i64 (Lib.compareBytes a b):=by
 rw [cmpN_ok]
 have:=cmpN_le a b
 generalize cmpN a b = n at *
 match n, this with
 | 0, _ => rfl
 | 1, _ => rfl
 | 2, _ => rfl
end Go.Proofs.YtacknhbgfijkcaaGreatDoor
end
section
/- slices.Delete at requests (eight cells each): the walk. -/
namespace Go.Proofs.YtacknhbgfijkcaaGreatDoor
open Go Go.RowKit Go.Lib Go.Shelf Go.Proofs Go.Proofs.YtacknhbgfijkcaaGreatDoorW.PrintWords Go.Proofs.YtacknhbgfijkcaaGreatDoorW.PrintLast Go.Proofs.YtacknhbgfijkcaaGreatDoorW.PrintMore
theorem run_clear_cells {P : Program} (w : World) (t e ty : TypeId) (z : Value) (ht : P.underlying t = some (.slice e)) (hv : ∀ w, (zeroValue e).run P w = .ok z w) (b o n c : Nat) (hn : 0 < n) (zs : List Value) (hz : (Builtin.zeroCells z.cells n).toList = zs) (h1 : ∀ v ∈ zs, v.oneCell' = true)
   (hc : ∀ j, j < zs.length → (w.cell? ⟨b, o + j, none⟩).isSome = true) (hf : ∀ j, j < zs.length → w.frozen? ⟨b, o + j, none⟩ = false) :
   (Builtin.clear_ #[t] ty #[.slice (some ⟨b, o, none⟩) n c]).run P w = .ok (.tuple #[]) (w.setCells b o zs):=by
 have hst:=run_storeCells_cells (P:=P) b o zs 0 w (by simpa using hc) (by simpa using hf) h1
 simp only [Nat.add_zero] at hst
 obtain ⟨m, rfl⟩ : ∃ m, n = m + 1:=⟨n - 1, by omega⟩
 simp [Builtin.clear_, run_underlying ht, hv, hz, hst]
noncomputable def zReq : List Value:=[.int .i64 0, .int .i64 0, .int .i64 0, .bool false, .bool false, .bool false, .int .i64 0, .slice none 0 0]
theorem zeroCells_zReq : (Builtin.zeroCells ⟨zReq⟩ 1).toList = zReq:=by kernel_rfl
theorem zeroCells_one {z : Value} (hz : z.cells.toList = zReq) : (Builtin.zeroCells z.cells 1).toList = zReq:=by
 obtain ⟨a, ha⟩ : ∃ a, z.cells = a:=⟨_, rfl⟩
 rw [ha] at hz ⊢
 obtain ⟨l⟩:=a
 have hl : l = zReq:=hz
 subst hl
 exact zeroCells_zReq
theorem reqZero (w : World) : ∃ z : Value, (∀ w, (zeroValue 188).run Tryz.prog w = .ok z w) ∧ z.cells.toList = zReq:=by
 obtain ⟨i, hi, hz⟩:=Option.bind_eq_some_iff.1 (show (Tryz.prog.info? 188).bind (·.zero) = some (.agg zReq.toArray) by kernel_rfl)
 exact ⟨.agg zReq.toArray, fun w => by simp [zeroValue, typeInfo, hi, hz], rfl⟩
set_option maxHeartbeats 4000000 in
set_option maxRecDepth 100000 in
theorem delete_at (blk off len cap i : Nat) (hi : i < len) (hlc : len ≤ cap) (news : List Value) (hnews : news.length = (len - (i + 1)) * 8) (w : World)
   (hc : ∀ t, t < len * 8 → (w.cell? ⟨blk, off + t, none⟩).isSome = true ∧ w.frozen? ⟨blk, off + t, none⟩ = false)
   (hsrc : ∀ t u, news[t]? = some u → w.cell? ⟨blk, off + (i + 1) * 8 + t, none⟩ = some u) (h1 : ∀ u ∈ news, u.oneCell' = true) :
   Calls Tryz.prog 85 #[.slice (some ⟨blk, off, none⟩) len cap, .int .i64 i, .int .i64 (i + 1 : Nat)] w fun e w' => e = .returned (.slice (some ⟨blk, off, none⟩) (len - 1) cap) ∧
     w' = ((w.drew.setCells blk (off + i * 8) news).setCells blk (off + (len - 1) * 8) zReq):=by
 have mixed : Tryz.prog.follows Departure.mixedOrders = true:=by kernel_rfl
 obtain ⟨zr, hzr, hzc⟩:=reqZero w
 obtain ⟨i0, hi0, hs0⟩:=Option.map_eq_some_iff.1 (show (Tryz.prog.info? 188).map (·.size) = some 8 by kernel_rfl)
 obtain ⟨A, hA, hA2⟩ : ∃ A : Addr, (if cap = i + 1 then some (⟨blk, off, none⟩ : Addr) else some ⟨blk, off + (i + 1) * 8, none⟩) = some A ∧ Hid (∀ t u, news[t]? = some u → w.drew.cell? (A.add t) = some u):=by
   by_cases h : cap = i + 1
   · refine ⟨⟨blk, off, none⟩, by simp [h], fun t u hu => ?_⟩
     have h0 : news.length = 0:=by rw [hnews]; omega
     rw [List.length_eq_zero_iff.1 h0] at hu
     simp at hu
   · exact ⟨⟨blk, off + (i + 1) * 8, none⟩, by simp [h], fun t u hu => by rw [Addr.add_lit]; exact hsrc t u hu⟩
 have s1 : Hid (news.length = (len - (i + 1)) * 8):=hnews
 have s2 : Hid (∀ u ∈ news, u.oneCell' = true):=h1
 have s3 : Hid (∀ t, t < news.length → (w.drew.cell? ⟨blk, off + i * 8 + t, none⟩).isSome = true ∧ w.drew.frozen? ⟨blk, off + i * 8 + t, none⟩ = false):=by
   intro t ht
   rw [hnews] at ht
   rw [Nat.add_assoc]
   exact hc (i * 8 + t) (by omega)
 obtain ⟨W1, hW1⟩ : ∃ W1, W1 = w.drew.setCells blk (off + i * 8) news:=⟨_, rfl⟩
 have hcl : ∀ ty, (Builtin.clear_ #[89] ty #[.slice (some ⟨blk, off + (i + (len - (i + 1))) * 8, none⟩) (len - (i + (len - (i + 1)))) (cap - (i + (len - (i + 1))))]).run Tryz.prog W1 = .ok (.tuple #[]) (W1.setCells blk (off + (i + (len - (i + 1))) * 8) zReq):=fun ty => by
   have hlen : i + (len - (i + 1)) = len - 1:=by omega
   rw [hlen, show len - (len - 1) = 1 by omega]
   refine run_clear_cells W1 _ _ ty zr Tryz.underlying89 hzr blk (off + (len - 1) * 8) 1 _ (by decide) zReq (zeroCells_one hzc) (by simp [zReq, Value.oneCell']) ?_ ?_
   · intro j hj
     rw [hW1, Nat.add_assoc]
     exact World.isSome_setCells _ _ _ _ _ (hc ((len - 1) * 8 + j) (by have : zReq.length = 8:=rfl; omega)).1
   · intro j hj
     rw [hW1, World.frozen?_setCells, Nat.add_assoc]
     exact (hc ((len - 1) * 8 + j) (by have : zReq.length = 8:=rfl; omega)).2
 have hW : Hid (W1 = w.drew.setCells blk (off + i * 8) news):=hW1
 have hic : i ≤ cap:=by omega
 have hjc : i + 1 ≤ cap:=by omega
 have hI1 : (i : Int) + 1 ≤ (len : Int):=by omega
 have hI0 : (0 : Int) ≤ (i : Int) + 1:=by omega
 clear hc hsrc hnews h1 hW1
 go_enter Tryz.func85, Tryz.ntmps85
 go_wp2_with fail
 go_region_law_o (refine step_append_room rfl (.tmp 22) (.tmp 25) 89 rfl 188 i0 8 Tryz.underlying89 hi0 hs0 blk off i cap (by simp [Act.eval, Act.put]) A (len - (i + 1)) (cap - (i + 1)) news (by simp [Act.eval, Act.put]) s1.out hA2.out s2.out (by omega) s3.out ?_; rw [← hW.out])
 go_wp2
 go_ret
 have hlen : i + (len - (i + 1)) = len - 1:=by omega
 refine ⟨by rw [hlen]; rfl, ?_⟩
 rw [hW.out, hlen]
end Go.Proofs.YtacknhbgfijkcaaGreatDoor
end
section
/- slices.Delete at requests, bytes.Compare: natives. -/
namespace Go.Proofs.YtacknhbgfijkcaaGreatDoor
open Go Go.RowKit Go.Proofs.YtacknhbgfijkcaaGreatDoor.Abs
noncomputable def natDel : Native:=fun args h => match args with
 | [.slice (some ⟨id, off, none⟩) len c, .int .i64 (.ofNat i), .int .i64 (.ofNat j)] => match h.t.get id with
   | some (.cells cs e true) => match Nat.beq j (Nat.succ i), Nat.ble (Nat.succ i) len, Nat.ble (Nat.add off (Nat.mul len 8)) cs.length with
     | true, true, true => match cs.all Value.oneCell' with
       | true => .ret (.ret (.slice (some ⟨id, off, none⟩) (Nat.pred len) c), ⟨h.t.set id (some (.cells (over (over cs (Nat.add off (Nat.mul i 8)) ((cs.drop (Nat.add off (Nat.mul (Nat.succ i) 8))).take (Nat.mul (Nat.sub len (Nat.succ i)) 8))) (Nat.add off (Nat.mul (Nat.pred len) 8)) zReq) e true)), h.n⟩)
       | false => .none
     | _, _, _ => .none
   | _ => .none
 | _ => .none
theorem storeCells_set {P : Program} {w w1 : World} {b o : Nat} {vs : List Value} (hr : (storeCells ⟨b, o, none⟩ vs).run P w = .ok () w1) (hc : ∀ j, j < vs.length → (w.cell? ⟨b, o + j, none⟩).isSome = true) (hf : ∀ j, j < vs.length → w.frozen? ⟨b, o + j, none⟩ = false) (h1 : ∀ v ∈ vs, v.oneCell' = true) : w1 = w.setCells b o vs:=by
 have:=run_storeCells_cells (P:=P) b o vs 0 w (by simpa using hc) (by simpa using hf) h1
 rw [Nat.add_zero] at this
 have h2 : (storeCells ⟨b, o, none⟩ vs 0).run P w = .ok () w1:=hr
 rw [this] at h2
 cases h2
 rfl
theorem zReq_flat : zReq.all scalar = true:=rfl
theorem natDel_ok {base : Nat} {w0 : Abs.Start} : NatOk Tryz.prog base w0 85 natDel:=by
 intro args h r h' hg
 unfold natDel at hg
 split at hg
 rotate_left
 · cases hg
 rename_i id off len c i j
 split at hg
 rotate_left
 · cases hg
 rename_i cs e hcs
 split at hg
 rotate_left
 · cases hg
 rename_i hj1 hi1 hle
 split at hg
 rotate_left
 · cases hg
 rename_i hone
 rw [Nat.beq_eq] at hj1
 subst hj1
 have hi1 : i + 1 ≤ len:=Nat.le_of_ble_eq_true hi1
 have hle : off + len * 8 ≤ cs.length:=Nat.le_of_ble_eq_true hle
 cases hg
 refine ⟨Nat.le_refl _, fun ι w args' hI hr hgl hf => ?_⟩
 match args', hr with
 | [s', a', b'], ⟨hs, ha, hb, _⟩ =>
 cases ha
 cases hb
 cases hs with
 | slice _ _ _ _ cap i0 ra hi hl hcc hx =>
 obtain ⟨arr, fz, g1, g2, g3, g5, g4, g6⟩:=hI.cells_at hi hcs
 obtain ⟨gb, gfz⟩:=g6 rfl
 rcases hx with ⟨rfl, hx⟩ | ⟨h0, _⟩
 rotate_left
 · omega
 have hId : Inv Tryz.prog base w0 ι h.t.get w.drew:=inv_drew hI
 have hle2 : off + (i + 1) * 8 + (len - (i + 1)) * 8 ≤ cs.length:=by omega
 have hrel:=rel_extract (ι:=ι) (i:=i0) (cs:=cs) (arr:=arr) (by omega) g4 hle2
 generalize hA : arr.extract (i0.δ + (off + (i + 1) * 8)) (i0.δ + (off + (i + 1) * 8) + (len - (i + 1)) * 8) = A at hrel
 have hAs : A.size = (len - (i + 1)) * 8:=by rw [← hrel.1]; simp; omega
 have hsome : ∀ t, t < len * 8 → (w.cell? ⟨i0.rb, i0.δ + off + t, none⟩).isSome = true ∧ w.frozen? ⟨i0.rb, i0.δ + off + t, none⟩ = false:=fun t ht => by
   rw [cell_of g1, frozen_of g1]
   refine ⟨by rw [Array.getElem?_eq_getElem (by omega)]; rfl, ?_⟩
   have:=gfz (i0.δ + off + t) (by omega)
   rw [Bool.eq_false_iff]
   simpa using this
 have hone1 : ∀ v ∈ A.toList, v.oneCell' = true:=fun v hm => by
   obtain ⟨k, hk, rfl⟩:=List.getElem_of_mem hm
   rw [Array.getElem_toList]
   have hk1 : k < ((cs.drop (off + (i + 1) * 8)).take ((len - (i + 1)) * 8)).toArray.size:=by rw [hrel.1]; simpa using hk
   have hr:=hrel.2 k hk1 (by simpa using hk)
   rw [hr.oneCell]
   have hmem : ((cs.drop (off + (i + 1) * 8)).take ((len - (i + 1)) * 8)).toArray[k] ∈ (cs.drop (off + (i + 1) * 8)).take ((len - (i + 1)) * 8):=by
     rw [List.getElem_toArray]
     exact List.getElem_mem _
   exact List.all_eq_true.1 hone _ (List.mem_of_mem_drop (List.mem_of_mem_take hmem))
 obtain ⟨w1, r1, r2⟩:=hId.write (off:=off + i * 8) hi hcs hrel (by rw [hrel.1, hAs]; omega) (List.all_eq_true.2 fun v hm => by
   exact List.all_eq_true.1 hone _ (List.mem_of_mem_drop (List.mem_of_mem_take (by simpa using hm))))
 have e1:=storeCells_set r1 (fun k hk => by
   have:=(hsome (i * 8 + k) (by simp [hAs] at hk; omega)).1
   rw [show i0.δ + (off + i * 8) + k = i0.δ + off + (i * 8 + k) by omega]
   exact this) (fun k hk => by
   have:=(hsome (i * 8 + k) (by simp [hAs] at hk; omega)).2
   rw [show i0.δ + (off + i * 8) + k = i0.δ + off + (i * 8 + k) by omega]
   exact this) hone1
 have hcs1 : (fupd h.t.get id (some (AObj.cells (over cs (off + i * 8) ((cs.drop (off + (i + 1) * 8)).take ((len - (i + 1)) * 8))) e true))) id = some (.cells (over cs (off + i * 8) ((cs.drop (off + (i + 1) * 8)).take ((len - (i + 1)) * 8))) e true):=fupd_eq _ _ _
 have hol : (over cs (off + i * 8) ((cs.drop (off + (i + 1) * 8)).take ((len - (i + 1)) * 8))).length = cs.length:=over_length _ _ _ (by simp; omega)
 have hz : ARel ι zReq.toArray zReq.toArray:=⟨rfl, fun k a _ => VRel.of_scalar (List.all_eq_true.1 zReq_flat _ (by simp))⟩
 obtain ⟨w2, r3, r4⟩:=r2.write (off:=off + (len - 1) * 8) hi hcs1 hz (by rw [hol]; simp [zReq]; omega) (by rfl)
 have hzl : zReq.length = 8:=rfl
 have e2:=storeCells_set r3 (fun k hk => by
   have hk : k < 8:=hk
   rw [e1]
   refine World.isSome_setCells _ _ _ _ _ ?_
   have:=(hsome ((len - 1) * 8 + k) (by omega)).1
   rw [show i0.δ + (off + (len - 1) * 8) + k = i0.δ + off + ((len - 1) * 8 + k) by omega]
   exact this) (fun k hk => by
   have hk : k < 8:=hk
   rw [e1, World.frozen?_setCells]
   have:=(hsome ((len - 1) * 8 + k) (by omega)).2
   rw [show i0.δ + (off + (len - 1) * 8) + k = i0.δ + off + ((len - 1) * 8 + k) by omega]
   exact this) (fun v hm => List.all_eq_true.1 (show zReq.all Value.oneCell' = true from rfl) v hm)
 refine (delete_at i0.rb (i0.δ + off) len cap i (by omega) hl A.toList (by simpa using hAs) w hsome (fun t u hu => ?_) hone1).mono fun e w' hq => ?_
 · rw [cell_of g1]
   rw [← hA, Array.getElem?_toList, Array.getElem?_extract] at hu
   split at hu
   · rw [show i0.δ + off + (i + 1) * 8 + t = i0.δ + (off + (i + 1) * 8) + t by omega]
     exact hu
   · cases hu
 · obtain ⟨rfl, rfl⟩:=hq
   rw [show i0.δ + off + i * 8 = i0.δ + (off + i * 8) by omega, ← e1, show i0.δ + off + (len - 1) * 8 = i0.δ + (off + (len - 1) * 8) by omega]
   rw [e2] at r4
   refine ⟨ι, by rw [Tr.get_set_fun]; exact Turn.at_block _ hi, ?_, _, rfl, ?_⟩
   · rw [Tr.get_set_fun]
     rw [fupd_fupd] at r4
     exact r4
   · exact .slice _ _ _ _ _ i0 _ hi (by show len - 1 ≤ cap; omega) hcc (.inl ⟨rfl, hx⟩)
set_option maxRecDepth 100000 in
theorem compare_at {a b : Value} {la lb : List UInt8} {w : World} (h1 : (Extern.Bytes.bytesOf a).run Tryz.prog w = .ok ⟨⟨la⟩⟩ w) (h2 : (Extern.Bytes.bytesOf b).run Tryz.prog w = .ok ⟨⟨lb⟩⟩ w) :
   Calls Tryz.prog 230 #[a, b] w fun e w' => e = .returned (.int .i64 (Lib.compareBytes la lb)) ∧ w' = w:=by
 have hc:=ecompare_run h1 h2
 go_enter Tryz.func230, Tryz.ntmps230
 go_wp2
 rw [run_callFunc_extern Tryz.func285 (by kernel_rfl) (by kernel_rfl) (by kernel_rfl) (e:=Extern.BytealgCompare.compare) (by kernel_rfl)]
 rw [hc]
 simp only [Result.andThen]
 rw [Oper.upon_value]
 go_wp2
 go_ret
 exact ⟨rfl, rfl⟩
noncomputable def natCmp : Native:=fun args h => match args with
 | [a, b] => match bytesS h a with
   | some la => match bytesS h b with
     | some lb => .ret (.ret (cmpV (cmpN la lb)), h)
     | none => .none
   | none => .none
 | _ => .none
theorem natCmp_ok {base : Nat} {w0 : Abs.Start} : NatOk Tryz.prog base w0 230 natCmp:=by
 intro args h r h' hg
 unfold natCmp at hg
 split at hg
 rotate_left
 · cases hg
 rename_i a b
 split at hg
 rotate_left
 · cases hg
 rename_i la hla
 split at hg
 rotate_left
 · cases hg
 rename_i lb hlb
 cases hg
 refine ⟨Nat.le_refl _, fun ι w args' hI hr hgl hf => ?_⟩
 match args', hr with
 | [a', b'], ⟨ha, hb, _⟩ =>
 refine (compare_at (bytesS_ok hI ha hla) (bytesS_ok hI hb hlb)).mono fun e w' hq => ?_
 obtain ⟨rfl, rfl⟩:=hq
 refine ⟨ι, Turn.refl _ _ _, hI, _, rfl, ?_⟩
 rw [cmpV_eq]
 exact .int _ _
end Go.Proofs.YtacknhbgfijkcaaGreatDoor
end
