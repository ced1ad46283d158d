/- moatref3.Pairs in plain words: the same pairs as the package field's. -/
import Derived.Test.YtfmppmabnpkooaaDoorRefCut
import Derived.Test.YtfmppmabnpkooaaDoorEqPair
import Derived.Test.YtfmppmabnpkooaaDoorReg
set_option linter.unusedSimpArgs false
set_option linter.unusedVariables false
namespace Go.Proofs.YtfmppmabnpkooaaDoor
open Go Go.RowKit Go.Shelf Go.Proofs Go.Proofs.YtfmppmabnpkooaaDoorW.PrintWords Go.Proofs.YtfmppmabnpkooaaDoorW.PrintLast Go.Proofs.YtfmppmabnpkooaaDoorW.PrintMore

theorem strs_at {w : World} {A : Option Addr} {n : Nat} {xs : List ByteArray} (h : Kd.C Kd.string w A n xs) (i : Nat) (x : ByteArray) (hi : xs[i]? = some x) : ∃ ad, A = some ad ∧ w.cell? (ad.add i) = some (.string x) := by
  obtain ⟨h1, _, h2⟩ := h
  have hlt : i < xs.length := (List.getElem?_eq_some_iff.1 hi).1
  obtain ⟨ad, e, hc⟩ := h2 (by omega)
  obtain ⟨c, _, hr, hcell⟩ := hc i x hi
  have hr' : c = [.string x] := hr
  subst hr'
  have := hcell 0 (.string x) rfl
  exact ⟨ad, e, by simpa [Kd.string, Kd.scalar] using this⟩

theorem cutA_take (c : UInt8) (l : List UInt8) (k : Nat) (h : ∀ x ∈ l.take k, x ≠ c) (hk : l.length ≤ k ∨ ∃ hlt : k < l.length, l[k] = c) : cutA c l = l.take k ∧ cutZ c l = l.drop (k + 1) := by
  rcases hk with hk | ⟨hlt, hk⟩
  · rw [List.take_of_length_le hk] at h ⊢
    obtain ⟨h1, h2⟩ := cut_none c l h
    exact ⟨h1, by rw [h2, List.drop_of_length_le (by omega)]⟩
  · have e : l = l.take k ++ c :: l.drop (k + 1) := by
      have := List.take_append_drop k l
      rw [List.drop_eq_getElem_cons hlt, hk] at this
      exact this.symm
    have := cut_at c (l.drop (k + 1)) (l.take k) h
    rw [← e] at this
    exact this

set_option maxRecDepth 100000 in
set_option maxHeartbeats 4000000 in
theorem RefPairs_calls (s : ByteArray) (hn : s.size ≤ 1099511627776) (w : World) :
    Calls Tryd.prog 21 #[.string s] w fun e w' => ∃ v, e = .returned v ∧ w'.ownsRow w.heap.size 29 2 v (pairsF (pieces 59 s)).length ((pairsF (pieces 59 s)).flatMap pairCells) ∧ Below w.heap.size w w' := by
  have hcut : BG.moatref1_Cut.f (s.size + 2) s 59 = some (pieces 59 s) := RefCut_f _ s 59 hn (by omega)
  have hcutC := fun w => BG.moatref1_Cut.calls (s.size + 2) s 59 _ w hcut
  have hsz : ∀ x ∈ pieces 59 s, x.size ≤ 1099511627776 := fun x hx => Nat.le_trans (piece_size 59 _ _ _ hx) hn
  have hcnt : (pieces 59 s).length ≤ 1099511627777 := by
    have h2 := congrArg List.length (pieces_split 59 s)
    rw [List.length_map, splitL_length] at h2
    have h3 := count_size s 59
    omega
  have HSZ := Lib.hid hsz
  clear hcut hsz
  generalize pieces 59 s = ps at hcutC HSZ hcnt ⊢
  go_enter Tryd.func21, Tryd.ntmps21
  go_wp2_with fail
  refine (hcutC _).mono ?_
  clear hcutC
  rintro e w1 ⟨v1, rfl, hR1, hb1⟩
  obtain ⟨A1, c1, rfl, hc1, hC1⟩ := Kd.R_reads hR1
  clear hR1
  have HB1 := Lib.hid hb1
  have HC1 := Lib.hid hC1
  have hz1 := hb1.size
  clear hb1 hC1
  go_wp2_with fail
  go_loopg [4, 5] ps.length (fun gk v4 v5 wr => ∃ i : Nat, v5 = .int .i64 i ∧ i + gk = ps.length ∧ Aside0 (wr.ownsRow w1.heap.size 29 2 v4 (pairsF (ps.take i)).length ((pairsF (ps.take i)).flatMap pairCells)) ∧ Aside0 (Below w1.heap.size w1 wr))
  case atStart => exact ⟨0, rfl, by omega, ⟨World.ownsRow_nil _ _ _ _⟩, ⟨Below.refl _ _⟩⟩
  case round =>
    obtain ⟨go, rfl⟩ : ∃ g, g = gk := ⟨_, rfl⟩
    obtain ⟨i, rfl, hik, hO, hB⟩ := hrel
    obtain ⟨oa, c4, rfl, ho4⟩ := slice_of hO.out
    by_cases hi : i < ps.length
    · obtain ⟨x, hx⟩ : ∃ x, ps[i]? = some x := ⟨ps[i], List.getElem?_eq_getElem hi⟩
      have hxs : x.size ≤ 1099511627776 := HSZ.out x (List.mem_of_getElem? hx)
      have HTK := Lib.hid (show ps.take (i + 1) = ps.take i ++ [x] by rw [List.take_add_one, hx]; rfl)
      have hpl : (pairsF (ps.take i)).length ≤ i := Nat.le_trans (pairs_len _) (List.length_take_le _ _)
      obtain ⟨ad, rfl, hcell⟩ := strs_at (Kd.C_below HC1.out hB.out) i x hx
      obtain ⟨T, hT⟩ : ∃ T : ByteArray, (⟨(trimL x.data.toList).toArray⟩ : ByteArray) = T := ⟨_, rfl⟩
      have hTl : T.data.toList = trimL x.data.toList := by rw [← hT]
      have hTs : T.size ≤ 1099511627776 := by
        have := trimL_len x.data.toList
        rw [Lib.size_eq] at hxs ⊢
        rw [hTl]; omega
      have hTrim : BG.moatref3_Trim.f (2 * x.size + 3) x = some T := by rw [← hT]; exact RefTrim_f _ x (by omega) (by omega)
      have hTC := fun w => BG.moatref3_Trim.calls (2 * x.size + 3) x T w hTrim
      clear hTrim hx hT
      have hwz := hB.out.size
      by_cases hE : trimL x.data.toList = []
      · have hE1 : (T.toList == ([] : List UInt8)) = true := by rw [Go.ByteArray.toList_eq, hTl]; exact beq_iff_eq.2 hE
        have hE2 : T.toList.isEmpty = true := by rw [Go.ByteArray.toList_eq, hTl]; exact List.isEmpty_iff.2 hE
        clear hTl
        go_wp2_with (go_at_call 29; refine (hTC _).mono ?_; rintro e w3 ⟨rfl, hb3⟩; replace hb3 := hb3.below)
        go_roundg (go - 1)
        case measure => omega
        case rel => exact ⟨i + 1, rfl, by omega, ⟨by rw [HTK.out, pairs_miss _ x hE]; exact ownsRow_below hO.out hb3⟩, ⟨hB.out.trans (hb3.mono hwz)⟩⟩
      · have hE1 : (T.toList == ([] : List UInt8)) = false := by rw [Go.ByteArray.toList_eq, hTl]; exact beq_eq_false_iff_ne.2 hE
        have hE2 : T.toList.isEmpty = false := by rw [Go.ByteArray.toList_eq, hTl]; exact Bool.eq_false_iff.2 fun h => hE (List.isEmpty_iff.1 h)
        have HTL := Lib.hid hTl
        clear hTl
        go_wp2_with (go_at_call 29; refine (hTC _).mono ?_; rintro e w3 ⟨rfl, hb3⟩; replace hb3 := hb3.below)
        go_loopg [7] T.size (fun gk2 v7 wr2 => ∃ k : Nat, v7 = .int .i64 k ∧ k + gk2 = T.size ∧ wr2 = w3 ∧ Aside0 (∀ z ∈ T.data.toList.take k, z ≠ 61))
        case atStart => exact ⟨0, rfl, by omega, rfl, ⟨by simp⟩⟩
        case round =>
          obtain ⟨k, rfl, hk2, rfl, hno⟩ := hrel
          have hTd : T.data.toList.length = T.size := (Lib.size_eq T).symm
          have fin : ∀ (hk : T.data.toList.length ≤ k ∨ ∃ hlt : k < T.data.toList.length, T.data.toList[k] = 61), True := fun _ => trivial
          by_cases hk : k < T.size
          · obtain ⟨c, hc⟩ : ∃ c, T[k] = c := ⟨_, rfl⟩
            by_cases h61 : c = 61
            · have h61' : ((c.toNat : Int) == 61) = true := by rw [h61]; rfl
              obtain ⟨hcA, hcZ⟩ := cutA_take 61 T.data.toList k hno.out (by right; exact ⟨by omega, by rw [← h61, ← hc]; simp [ByteArray.getElem_eq_getElem_data]⟩)
              obtain ⟨A0, hA0⟩ : ∃ A0 : ByteArray, T.extract 0 k = A0 := ⟨_, rfl⟩
              obtain ⟨Z0, hZ0⟩ : ∃ Z0 : ByteArray, T.extract (k + 1) T.size = Z0 := ⟨_, rfl⟩
              have hAl : A0.data.toList = cutA 61 (trimL x.data.toList) := by rw [← hA0, ← HTL.out, hcA]; simp
              have hZl : Z0.data.toList = cutZ 61 (trimL x.data.toList) := by rw [← hZ0, ← HTL.out, hcZ, extract_list, List.take_of_length_le (by simp)]
              have hAs : A0.size ≤ 1099511627776 := by rw [← hA0]; simp; omega
              have hZs : Z0.size ≤ 1099511627776 := by rw [← hZ0]; first | (simp; omega) | simp
              have hAt : BG.moatref3_Trim.f (2 * A0.size + 3) A0 = some ⟨(trimL A0.data.toList).toArray⟩ := RefTrim_f _ A0 (by omega) (by omega)
              have hZt : BG.moatref3_Trim.f (2 * Z0.size + 3) Z0 = some ⟨(trimL Z0.data.toList).toArray⟩ := RefTrim_f _ Z0 (by omega) (by omega)
              have hTA := fun w => BG.moatref3_Trim.calls _ A0 _ w hAt
              have hTZ := fun w => BG.moatref3_Trim.calls _ Z0 _ w hZt
              have hLA := fun w => RefLower_calls ⟨(trimL A0.data.toList).toArray⟩ (by rw [Lib.size_eq] at hAs ⊢; have := trimL_len A0.data.toList; show (trimL A0.data.toList).length ≤ _; omega) w
              have HP := Lib.hid (show pairB x = (⟨(lowL (trimL A0.data.toList)).toArray⟩, ⟨(trimL Z0.data.toList).toArray⟩) by unfold pairB; rw [hAl, hZl])
              clear hAt hZt hAl hZl hcA hcZ
              go_upto_region 11 with (fail)
              have e1 : IntKind.i64.wrap ((k : Int) + 1) = (k : Int) + 1 := by rw [IntKind.wrap_i64]; omega
              have e2 : ((k : Int) + 1).toNat = k + 1 := by omega
              have e3 : 0 ≤ (k : Int) + 1 := by omega
              have e4 : k ≤ T.size := by omega
              have e5 : min ((k : Int) + 1) (T.size : Int) = (k : Int) + 1 := by omega
              have e6 : (k : Int) + 1 ≤ (T.size : Int) := by omega
              refine region_plan (m := 16) (by kernel_rfl) (by kernel_rfl) (fun W hW => ?_)
              refine plan_fix (N := some 35) (v := ?_) (a' := ?_) rfl rfl (fun u w' hBr hvr => step_val (by rfl) ?_ ⟨rfl, Below.refl _ _⟩) ?_ ?_
              rotate_left 2
              · go_simp
                with_reducible rfl
              · intro u
                simp only [Act.put, List.setIfInBounds_toArray, List.set_cons_zero, List.set_cons_succ]
                rfl
              refine plan_fix (N := some 36) (v := ?_) (a' := ?_) rfl rfl (fun u w' hBr hvr => step_val (by rfl) ?_ ⟨rfl, Below.refl _ _⟩) ?_ ?_
              rotate_left 2
              · go_simp
                with_reducible rfl
              · intro u
                simp only [Act.put, List.setIfInBounds_toArray, List.set_cons_zero, List.set_cons_succ]
                rfl
              refine plan_fix (N := some 37) (v := ?_) (a' := ?_) rfl rfl (fun u w' hBr hvr => step_val (by rfl) ?_ ⟨rfl, Below.refl _ _⟩) ?_ ?_
              rotate_left 2
              · go_simp
                with_reducible rfl
              · intro u
                simp only [Act.put, List.setIfInBounds_toArray, List.set_cons_zero, List.set_cons_succ]
                rfl
              refine plan_fix (N := some 38) (v := ?_) (a' := ?_) rfl rfl (fun u w' hBr hvr => step_val (by rfl) ?_ ⟨rfl, Below.refl _ _⟩) ?_ ?_
              rotate_left 2
              · go_simp
                with_reducible rfl
              · intro u
                simp only [Act.put, List.setIfInBounds_toArray, List.set_cons_zero, List.set_cons_succ]
                rfl
              refine plan_fix (N := some 39) (v := ?_) (a' := ?_) rfl rfl (fun u w' hBr hvr => step_call Tryd.func29 (by kernel_rfl) rfl #[.string A0] (by rfl) rfl (by (try simp only [List.map_toArray, List.map_cons, List.map_nil]); first | done | rfl) ?_) ?_ ?_
              rotate_left 2
              · refine (hTA w').mono ?_
                rintro e w'' ⟨rfl, hbn⟩
                refine ⟨_, rfl, ?_, hbn.below⟩
                with_reducible rfl
              · intro u
                simp only [Act.put, List.setIfInBounds_toArray, List.set_cons_zero, List.set_cons_succ]
                rfl
              refine plan_fix (N := some 40) (v := ?_) (a' := ?_) rfl rfl (fun u w' hBr hvr => step_call Tryd.func27 (by kernel_rfl) rfl #[.string _] (by rfl) rfl (by (try simp only [List.map_toArray, List.map_cons, List.map_nil]); first | done | rfl) ?_) ?_ ?_
              rotate_left 2
              · refine (hLA w').mono ?_
                rintro e w'' ⟨rfl, hbn⟩
                refine ⟨_, rfl, ?_, hbn⟩
                with_reducible rfl
              · intro u
                simp only [Act.put, List.setIfInBounds_toArray, List.set_cons_zero, List.set_cons_succ]
                rfl
              refine plan_fix (N := some 41) (v := ?_) (a' := ?_) rfl rfl (fun u w' hBr hvr => step_val (by rfl) ?_ ⟨rfl, Below.refl _ _⟩) ?_ ?_
              rotate_left 2
              · go_simp
                with_reducible rfl
              · intro u
                simp only [Act.put, List.setIfInBounds_toArray, List.set_cons_zero, List.set_cons_succ]
                rfl
              refine plan_fix (N := some 42) (v := ?_) (a' := ?_) rfl rfl (fun u w' hBr hvr => step_val (by rfl) ?_ ⟨rfl, Below.refl _ _⟩) ?_ ?_
              rotate_left 2
              · go_simp
                with_reducible rfl
              · intro u
                simp only [Act.put, List.setIfInBounds_toArray, List.set_cons_zero, List.set_cons_succ]
                rfl
              refine plan_fix (N := some 43) (v := ?_) (a' := ?_) rfl rfl (fun u w' hBr hvr => step_val (by rfl) ?_ ⟨rfl, Below.refl _ _⟩) ?_ ?_
              rotate_left 2
              · go_simp
                with_reducible rfl
              · intro u
                simp only [Act.put, List.setIfInBounds_toArray, List.set_cons_zero, List.set_cons_succ]
                rfl
              refine plan_fix (N := some 44) (v := ?_) (a' := ?_) rfl rfl (fun u w' hBr hvr => step_val (by rfl) ?_ ⟨rfl, Below.refl _ _⟩) ?_ ?_
              rotate_left 2
              · go_simp
                with_reducible rfl
              · intro u
                simp only [Act.put, List.setIfInBounds_toArray, List.set_cons_zero, List.set_cons_succ]
                rfl
              refine plan_fix (N := some 45) (v := ?_) (a' := ?_) rfl rfl (fun u w' hBr hvr => step_val (by rfl) ?_ ⟨rfl, Below.refl _ _⟩) ?_ ?_
              rotate_left 2
              · go_simp
                with_reducible rfl
              · intro u
                simp only [Act.put, List.setIfInBounds_toArray, List.set_cons_zero, List.set_cons_succ]
                rfl
              refine plan_fix (N := some 46) (v := ?_) (a' := ?_) rfl rfl (fun u w' hBr hvr => step_val (by rfl) ?_ ⟨rfl, Below.refl _ _⟩) ?_ ?_
              rotate_left 2
              · go_simp
                with_reducible rfl
              · intro u
                simp only [Act.put, List.setIfInBounds_toArray, List.set_cons_zero, List.set_cons_succ]
                rfl
              refine plan_fix (N := some 47) (v := ?_) (a' := ?_) rfl rfl (fun u w' hBr hvr => step_val (by rfl) ?_ ⟨rfl, Below.refl _ _⟩) ?_ ?_
              rotate_left 2
              · go_simp
                with_reducible rfl
              · intro u
                simp only [Act.put, List.setIfInBounds_toArray, List.set_cons_zero, List.set_cons_succ]
                rfl
              refine plan_fix (N := some 48) (v := ?_) (a' := ?_) rfl rfl (fun u w' hBr hvr => step_call Tryd.func29 (by kernel_rfl) rfl #[.string Z0] (by rfl) rfl (by (try simp only [List.map_toArray, List.map_cons, List.map_nil]); first | done | rfl) ?_) ?_ ?_
              rotate_left 2
              · refine (hTZ w').mono ?_
                rintro e w'' ⟨rfl, hbn⟩
                refine ⟨_, rfl, ?_, hbn.below⟩
                with_reducible rfl
              · intro u
                simp only [Act.put, List.setIfInBounds_toArray, List.set_cons_zero, List.set_cons_succ]
                rfl
              refine plan_fix (N := some 49) (v := ?_) (a' := ?_) rfl rfl (fun u w' hBr hvr => step_val (by rfl) ?_ ⟨rfl, Below.refl _ _⟩) ?_ ?_
              rotate_left 2
              · go_simp
                with_reducible rfl
              · intro u
                simp only [Act.put, List.setIfInBounds_toArray, List.set_cons_zero, List.set_cons_succ]
                rfl
              refine plan_new (N := some 50) (V := IsLit 29 1 #[.string ⟨(lowL (trimL A0.data.toList)).toArray⟩, .string ⟨(trimL Z0.data.toList).toArray⟩]) (a' := ?_) rfl rfl (stable_lit _ _ _) (fun u w' hBr hvr => step_val (w' := w'.alloc (.cells #[.string ⟨(lowL (trimL A0.data.toList)).toArray⟩, .string ⟨(trimL Z0.data.toList).toArray⟩] 29)) (x := .slice (some ⟨w'.heap.size, 0, none⟩) 1 1) (by rfl) ?_ ⟨⟨_, rfl, World.alloc_heap_new w' _⟩, (Below.refl _ _).alloc (Nat.le_refl _) _, fun r e => by cases e; simp⟩) ?_ ?_
              rotate_left
              · go_simp
              · intro u
                simp only [Act.put, List.setIfInBounds_toArray, List.set_cons_zero, List.set_cons_succ]
                rfl
              refine plan_rest #[true, true, true, true, true, true, true, true, true, true, true, true, true, true, true, true, false, false] rfl rfl (by kernel_rfl) (fun u wz hBz hvz => any_last ?_)
              obtain ⟨b, hu, hbz⟩ := hvz _ List.mem_cons_self
              have hwW : Below wr.heap.size wr W := by rw [hW]; exact below_drew1 (Below.refl _ _)
              have hBz' : Below wr.heap.size wr wz := hwW.trans (hBz.mono hwW.size)
              have hbW : b < wz.heap.size := (Array.getElem?_eq_some_iff.1 hbz).1
              have hrz := ownsRow_below (ownsRow_below hO.out hb3) hBz'
              have hz5 := hb3.size
              have hz6 := hBz'.size
              clear hvz
              generalize hub : u 15 = ub at hu ⊢
              subst hu
              refine last_ (i := 16) (N := some 51) #[true, true, true, true, true, true, true, true, true, true, true, true, true, true, true, true, true, false] rfl rfl (by kernel_rfl) (by decide) (fun K hK => ?_)
              refine step_append_at (v := .slice oa (pairsF (ps.take i)).length c4) (by rfl) (append_run w1.heap.size (.tmp 35) (.tmp 50) 26 29 (.agg #[.string ⟨#[]⟩, .string ⟨#[]⟩]) 2 32 rfl Tryd.underlying26 Pairs_info (by rfl) (by decide) (by decide) _ _ _ [.string ⟨(lowL (trimL A0.data.toList)).toArray⟩, .string ⟨(trimL Z0.data.toList).toArray⟩] (by rfl) ⟨b, 0, none⟩ 1 1 (by rfl) rfl (by simp [Value.oneCell']) hrz (World.news_of_block hbz) (by omega) (by omega)) ?_
              intro v7 w7 hown7 hg7 _
              refine hK.out _ _ ?_
              clear hK K
              refine last_ (i := 17) (N := some 4) #[true, true, true, true, true, true, true, true, true, true, true, true, true, true, true, true, true, true] rfl rfl (by kernel_rfl) (by decide) (fun K hK => ?_)
              go_simp
              refine hK.out _ _ ?_
              clear hK K
              refine done_ (by kernel_rfl) ?_
              have hBf : Below w1.heap.size w1 w7 := (hB.out.trans ((hb3.trans (hBz'.mono hz5)).mono hwz)).grown hg7 (by omega) (fun r e => own_base hrz r e)
              clear hbz hBz hwW hub
              go_wp2
              go_roundg (go - 1)
              case measure => omega
              case rel =>
                refine ⟨i + 1, by go_num, by omega, ⟨?_⟩, ⟨hBf⟩⟩
                rw [HTK.out, pairs_hit _ x hE, HP.out, List.flatMap_append, List.length_append]
                simpa [pairCells] using hown7
            · have h61' : ((c.toNat : Int) == 61) = false := by
                rw [beq_eq_false_iff_ne]; intro h; exact h61 (UInt8.toNat_inj.1 (by have : (61 : UInt8).toNat = 61 := rfl; omega))
              have HSN := Lib.hid (show T.data.toList.take (k + 1) = T.data.toList.take k ++ [c] by
                rw [List.take_succ_eq_append_getElem (by omega), ← hc]; simp [ByteArray.getElem_eq_getElem_data])
              clear hTd
              go_wp2
              go_roundg (gk - 1)
              case measure => omega
              case rel => exact ⟨k + 1, by go_num, by omega, rfl, ⟨by
                rw [HSN.out]
                intro z hz
                rcases List.mem_append.1 hz with h | h
                · exact hno.out z h
                · rw [List.mem_singleton.1 h]; exact h61⟩⟩
          · have hTd2 := hTd
            obtain ⟨hcA, hcZ⟩ := cutA_take 61 T.data.toList k hno.out (by left; omega)
            obtain ⟨A0, hA0⟩ : ∃ A0 : ByteArray, T.extract 0 k = A0 := ⟨_, rfl⟩
            obtain ⟨Z0, hZ0⟩ : ∃ Z0 : ByteArray, ByteArray.empty = Z0 := ⟨_, rfl⟩
            have hAl : A0.data.toList = cutA 61 (trimL x.data.toList) := by rw [← hA0, ← HTL.out, hcA]; simp
            have hZl : Z0.data.toList = cutZ 61 (trimL x.data.toList) := by rw [← hZ0, ← HTL.out, hcZ, List.drop_of_length_le (by omega)]; rfl
            have hAs : A0.size ≤ 1099511627776 := by rw [← hA0]; simp; omega
            have hZs : Z0.size ≤ 1099511627776 := by rw [← hZ0]; first | (simp; omega) | simp
            have hAt : BG.moatref3_Trim.f (2 * A0.size + 3) A0 = some ⟨(trimL A0.data.toList).toArray⟩ := RefTrim_f _ A0 (by omega) (by omega)
            have hZt : BG.moatref3_Trim.f (2 * Z0.size + 3) Z0 = some ⟨(trimL Z0.data.toList).toArray⟩ := RefTrim_f _ Z0 (by omega) (by omega)
            have hTA := fun w => BG.moatref3_Trim.calls _ A0 _ w hAt
            have hTZ := fun w => BG.moatref3_Trim.calls _ Z0 _ w hZt
            have hLA := fun w => RefLower_calls ⟨(trimL A0.data.toList).toArray⟩ (by rw [Lib.size_eq] at hAs ⊢; have := trimL_len A0.data.toList; show (trimL A0.data.toList).length ≤ _; omega) w
            have HP := Lib.hid (show pairB x = (⟨(lowL (trimL A0.data.toList)).toArray⟩, ⟨(trimL Z0.data.toList).toArray⟩) by unfold pairB; rw [hAl, hZl])
            clear hAt hZt hAl hZl hcA hcZ
            go_upto_region 11 with (fail)
            have e1 : IntKind.i64.wrap ((k : Int) + 1) = (k : Int) + 1 := by rw [IntKind.wrap_i64]; omega
            have e2 : ((k : Int) + 1).toNat = k + 1 := by omega
            have e3 : 0 ≤ (k : Int) + 1 := by omega
            have e4 : k ≤ T.size := by omega
            have e5 : min ((k : Int) + 1) (T.size : Int) = (T.size : Int) := by omega
            refine region_plan (m := 16) (by kernel_rfl) (by kernel_rfl) (fun W hW => ?_)
            refine plan_fix (N := some 35) (v := ?_) (a' := ?_) rfl rfl (fun u w' hBr hvr => step_val (by rfl) ?_ ⟨rfl, Below.refl _ _⟩) ?_ ?_
            rotate_left 2
            · go_simp
              with_reducible rfl
            · intro u
              simp only [Act.put, List.setIfInBounds_toArray, List.set_cons_zero, List.set_cons_succ]
              rfl
            refine plan_fix (N := some 36) (v := ?_) (a' := ?_) rfl rfl (fun u w' hBr hvr => step_val (by rfl) ?_ ⟨rfl, Below.refl _ _⟩) ?_ ?_
            rotate_left 2
            · go_simp
              with_reducible rfl
            · intro u
              simp only [Act.put, List.setIfInBounds_toArray, List.set_cons_zero, List.set_cons_succ]
              rfl
            refine plan_fix (N := some 37) (v := ?_) (a' := ?_) rfl rfl (fun u w' hBr hvr => step_val (by rfl) ?_ ⟨rfl, Below.refl _ _⟩) ?_ ?_
            rotate_left 2
            · go_simp
              with_reducible rfl
            · intro u
              simp only [Act.put, List.setIfInBounds_toArray, List.set_cons_zero, List.set_cons_succ]
              rfl
            refine plan_fix (N := some 38) (v := ?_) (a' := ?_) rfl rfl (fun u w' hBr hvr => step_val (by rfl) ?_ ⟨rfl, Below.refl _ _⟩) ?_ ?_
            rotate_left 2
            · go_simp
              with_reducible rfl
            · intro u
              simp only [Act.put, List.setIfInBounds_toArray, List.set_cons_zero, List.set_cons_succ]
              rfl
            refine plan_fix (N := some 39) (v := ?_) (a' := ?_) rfl rfl (fun u w' hBr hvr => step_call Tryd.func29 (by kernel_rfl) rfl #[.string A0] (by rfl) rfl (by (try simp only [List.map_toArray, List.map_cons, List.map_nil]); first | done | rfl) ?_) ?_ ?_
            rotate_left 2
            · refine (hTA w').mono ?_
              rintro e w'' ⟨rfl, hbn⟩
              refine ⟨_, rfl, ?_, hbn.below⟩
              with_reducible rfl
            · intro u
              simp only [Act.put, List.setIfInBounds_toArray, List.set_cons_zero, List.set_cons_succ]
              rfl
            refine plan_fix (N := some 40) (v := ?_) (a' := ?_) rfl rfl (fun u w' hBr hvr => step_call Tryd.func27 (by kernel_rfl) rfl #[.string _] (by rfl) rfl (by (try simp only [List.map_toArray, List.map_cons, List.map_nil]); first | done | rfl) ?_) ?_ ?_
            rotate_left 2
            · refine (hLA w').mono ?_
              rintro e w'' ⟨rfl, hbn⟩
              refine ⟨_, rfl, ?_, hbn⟩
              with_reducible rfl
            · intro u
              simp only [Act.put, List.setIfInBounds_toArray, List.set_cons_zero, List.set_cons_succ]
              rfl
            refine plan_fix (N := some 41) (v := ?_) (a' := ?_) rfl rfl (fun u w' hBr hvr => step_val (by rfl) ?_ ⟨rfl, Below.refl _ _⟩) ?_ ?_
            rotate_left 2
            · go_simp
              with_reducible rfl
            · intro u
              simp only [Act.put, List.setIfInBounds_toArray, List.set_cons_zero, List.set_cons_succ]
              rfl
            refine plan_fix (N := some 42) (v := ?_) (a' := ?_) rfl rfl (fun u w' hBr hvr => step_val (by rfl) ?_ ⟨rfl, Below.refl _ _⟩) ?_ ?_
            rotate_left 2
            · go_simp
              with_reducible rfl
            · intro u
              simp only [Act.put, List.setIfInBounds_toArray, List.set_cons_zero, List.set_cons_succ]
              rfl
            refine plan_fix (N := some 43) (v := ?_) (a' := ?_) rfl rfl (fun u w' hBr hvr => step_val (by rfl) ?_ ⟨rfl, Below.refl _ _⟩) ?_ ?_
            rotate_left 2
            · go_simp
              with_reducible rfl
            · intro u
              simp only [Act.put, List.setIfInBounds_toArray, List.set_cons_zero, List.set_cons_succ]
              rfl
            refine plan_fix (N := some 44) (v := ?_) (a' := ?_) rfl rfl (fun u w' hBr hvr => step_val (by rfl) ?_ ⟨rfl, Below.refl _ _⟩) ?_ ?_
            rotate_left 2
            · go_simp
              with_reducible rfl
            · intro u
              simp only [Act.put, List.setIfInBounds_toArray, List.set_cons_zero, List.set_cons_succ]
              rfl
            refine plan_fix (N := some 45) (v := ?_) (a' := ?_) rfl rfl (fun u w' hBr hvr => step_val (by rfl) ?_ ⟨rfl, Below.refl _ _⟩) ?_ ?_
            rotate_left 2
            · go_simp
              with_reducible rfl
            · intro u
              simp only [Act.put, List.setIfInBounds_toArray, List.set_cons_zero, List.set_cons_succ]
              rfl
            refine plan_fix (N := some 46) (v := ?_) (a' := ?_) rfl rfl (fun u w' hBr hvr => step_val (by rfl) ?_ ⟨rfl, Below.refl _ _⟩) ?_ ?_
            rotate_left 2
            · go_simp
              with_reducible rfl
            · intro u
              simp only [Act.put, List.setIfInBounds_toArray, List.set_cons_zero, List.set_cons_succ]
              rfl
            refine plan_fix (N := some 47) (v := ?_) (a' := ?_) rfl rfl (fun u w' hBr hvr => step_val (by rfl) ?_ ⟨rfl, Below.refl _ _⟩) ?_ ?_
            rotate_left 2
            · go_simp
              with_reducible rfl
            · intro u
              simp only [Act.put, List.setIfInBounds_toArray, List.set_cons_zero, List.set_cons_succ]
              rfl
            refine plan_fix (N := some 48) (v := ?_) (a' := ?_) rfl rfl (fun u w' hBr hvr => step_call Tryd.func29 (by kernel_rfl) rfl #[.string Z0] (by rfl) rfl (by (try simp only [List.map_toArray, List.map_cons, List.map_nil]); first | done | rfl) ?_) ?_ ?_
            rotate_left 2
            · refine (hTZ w').mono ?_
              rintro e w'' ⟨rfl, hbn⟩
              refine ⟨_, rfl, ?_, hbn.below⟩
              with_reducible rfl
            · intro u
              simp only [Act.put, List.setIfInBounds_toArray, List.set_cons_zero, List.set_cons_succ]
              rfl
            refine plan_fix (N := some 49) (v := ?_) (a' := ?_) rfl rfl (fun u w' hBr hvr => step_val (by rfl) ?_ ⟨rfl, Below.refl _ _⟩) ?_ ?_
            rotate_left 2
            · go_simp
              with_reducible rfl
            · intro u
              simp only [Act.put, List.setIfInBounds_toArray, List.set_cons_zero, List.set_cons_succ]
              rfl
            refine plan_new (N := some 50) (V := IsLit 29 1 #[.string ⟨(lowL (trimL A0.data.toList)).toArray⟩, .string ⟨(trimL Z0.data.toList).toArray⟩]) (a' := ?_) rfl rfl (stable_lit _ _ _) (fun u w' hBr hvr => step_val (w' := w'.alloc (.cells #[.string ⟨(lowL (trimL A0.data.toList)).toArray⟩, .string ⟨(trimL Z0.data.toList).toArray⟩] 29)) (x := .slice (some ⟨w'.heap.size, 0, none⟩) 1 1) (by rfl) ?_ ⟨⟨_, rfl, World.alloc_heap_new w' _⟩, (Below.refl _ _).alloc (Nat.le_refl _) _, fun r e => by cases e; simp⟩) ?_ ?_
            rotate_left
            · go_simp
            · intro u
              simp only [Act.put, List.setIfInBounds_toArray, List.set_cons_zero, List.set_cons_succ]
              rfl
            refine plan_rest #[true, true, true, true, true, true, true, true, true, true, true, true, true, true, true, true, false, false] rfl rfl (by kernel_rfl) (fun u wz hBz hvz => any_last ?_)
            obtain ⟨b, hu, hbz⟩ := hvz _ List.mem_cons_self
            have hwW : Below wr.heap.size wr W := by rw [hW]; exact below_drew1 (Below.refl _ _)
            have hBz' : Below wr.heap.size wr wz := hwW.trans (hBz.mono hwW.size)
            have hbW : b < wz.heap.size := (Array.getElem?_eq_some_iff.1 hbz).1
            have hrz := ownsRow_below (ownsRow_below hO.out hb3) hBz'
            have hz5 := hb3.size
            have hz6 := hBz'.size
            clear hvz
            generalize hub : u 15 = ub at hu ⊢
            subst hu
            refine last_ (i := 16) (N := some 51) #[true, true, true, true, true, true, true, true, true, true, true, true, true, true, true, true, true, false] rfl rfl (by kernel_rfl) (by decide) (fun K hK => ?_)
            refine step_append_at (v := .slice oa (pairsF (ps.take i)).length c4) (by rfl) (append_run w1.heap.size (.tmp 35) (.tmp 50) 26 29 (.agg #[.string ⟨#[]⟩, .string ⟨#[]⟩]) 2 32 rfl Tryd.underlying26 Pairs_info (by rfl) (by decide) (by decide) _ _ _ [.string ⟨(lowL (trimL A0.data.toList)).toArray⟩, .string ⟨(trimL Z0.data.toList).toArray⟩] (by rfl) ⟨b, 0, none⟩ 1 1 (by rfl) rfl (by simp [Value.oneCell']) hrz (World.news_of_block hbz) (by omega) (by omega)) ?_
            intro v7 w7 hown7 hg7 _
            refine hK.out _ _ ?_
            clear hK K
            refine last_ (i := 17) (N := some 4) #[true, true, true, true, true, true, true, true, true, true, true, true, true, true, true, true, true, true] rfl rfl (by kernel_rfl) (by decide) (fun K hK => ?_)
            go_simp
            refine hK.out _ _ ?_
            clear hK K
            refine done_ (by kernel_rfl) ?_
            have hBf : Below w1.heap.size w1 w7 := (hB.out.trans ((hb3.trans (hBz'.mono hz5)).mono hwz)).grown hg7 (by omega) (fun r e => own_base hrz r e)
            clear hbz hBz hwW hub
            go_wp2
            go_roundg (go - 1)
            case measure => omega
            case rel =>
              refine ⟨i + 1, by go_num, by omega, ⟨?_⟩, ⟨hBf⟩⟩
              rw [HTK.out, pairs_hit _ x hE, HP.out, List.flatMap_append, List.length_append]
              simpa [pairCells] using hown7
    · have hall : ps.take i = ps := List.take_of_length_le (by omega)
      have hi2 : i = ps.length := by omega
      clear ho4
      have HALL := Lib.hid hall
      clear hall
      go_wp2
      go_ret
      refine ⟨.slice oa (pairsF (ps.take i)).length c4, rfl, ?_, HB1.out.trans (hB.out.mono (by omega))⟩
      have h := ownsRow_lower hO.out (base' := w.heap.size) (by omega)
      rw [HALL.out] at h ⊢
      exact h
end Go.Proofs.YtfmppmabnpkooaaDoor
