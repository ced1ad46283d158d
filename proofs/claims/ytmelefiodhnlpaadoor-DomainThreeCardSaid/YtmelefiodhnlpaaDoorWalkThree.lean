/- moatlaw2.DomainThree: the walk. -/
import Derived.Test.YtmelefiodhnlpaaDoorJar
import Derived.Test.YtmelefiodhnlpaaDoorAwake2
import Derived.Test.YtmelefiodhnlpaaDoorReg
import Derived.Test.YtmelefiodhnlpaaDoorLow
import Derived.Test.YtmelefiodhnlpaaDoorPlain
set_option linter.unusedSimpArgs false
set_option linter.unusedVariables false
namespace Go.Proofs.YtmelefiodhnlpaaDoor
open Go Go.RowKit Go.Proofs.YtmelefiodhnlpaaDoorW.PrintWords Go.Proofs.YtmelefiodhnlpaaDoorW.PrintLast Go.Proofs.YtmelefiodhnlpaaDoorW.PrintMore

def threeHosts : List ByteArray := [⟨#[97, 46, 116, 101, 115, 116]⟩, ⟨#[120, 46, 97, 46, 116, 101, 115, 116]⟩, ⟨#[121, 46, 120, 46, 97, 46, 116, 101, 115, 116]⟩, ⟨#[98, 46, 116, 101, 115, 116]⟩, ⟨#[97, 46, 116, 101, 115, 116, 46, 98]⟩, ⟨#[116, 101, 115, 116]⟩, ⟨#[120, 97, 46, 116, 101, 115, 116]⟩]
def threeSchemes : List ByteArray := [⟨#[104, 116, 116, 112]⟩, ⟨#[104, 116, 116, 112, 115]⟩]
def zB : Value := .string ⟨#[]⟩
def zO : List Value := [.string ⟨#[]⟩, .string ⟨#[]⟩, .string ⟨#[]⟩, .int .i64 0]
def oCells (o : Nat × Nat) (p : Int) : List Value := [.string ⟨#[]⟩, .string (threeSchemes.getD o.1 ⟨#[]⟩), .string (threeHosts.getD o.2 ⟨#[]⟩), .int .i64 p]
def osC (i : Nat) (f : Nat → Nat × Nat) : List Value := (if 0 < i then oCells (f 0) 1 else zO) ++ ((if 1 < i then oCells (f 1) 2 else zO) ++ (if 2 < i then oCells (f 2) 3 else zO))
theorem host_three {i : Nat} {h : ByteArray} (hi : i < 7) (e : threeHosts.getD i ⟨#[]⟩ = h) : h.size < 4294967281 ∧ siteL h.data.toList ≠ [] := by
  subst e
  have : i = 0 ∨ i = 1 ∨ i = 2 ∨ i = 3 ∨ i = 4 ∨ i = 5 ∨ i = 6 := by omega
  rcases this with rfl | rfl | rfl | rfl | rfl | rfl | rfl <;> exact ⟨by decide, by decide⟩
theorem bytes_eq3 {s t : ByteArray} (h : s.toList = t.toList) : s = t := by
  rw [Go.ByteArray.toList_eq, Go.ByteArray.toList_eq] at h
  exact ByteArray.ext (Array.toList_inj.1 h)
theorem three_facts (s0 s1 s2 h0 h1 h2 : List UInt8) (hn : siteL h0 ≠ []) : (sameSiteL s0 h0 s1 h1 = true → sameSiteL s1 h1 s2 h2 = true → sameSiteL s0 h0 s2 h2 = true) ∧ sameSiteL s1 h1 s0 h0 = sameSiteL s0 h0 s1 h1 ∧ sameSiteL s0 h0 s0 h0 = true ∧
    (underL h0 h1 = true → 2 ≤ (labelsL h1).length → s0 = s1 → sameSiteL s0 h0 s1 h1 = true) := by
  refine ⟨?_, ?_, ?_, ?_⟩
  · simp only [sameSiteL, Bool.and_eq_true, decide_eq_true_eq]
    rintro ⟨rfl, e1, e2⟩ ⟨rfl, e3, e4⟩
    exact ⟨rfl, e1.trans e3, e2⟩
  · rw [Bool.eq_iff_iff]
    simp only [sameSiteL, Bool.and_eq_true, decide_eq_true_eq]
    constructor
    · rintro ⟨rfl, e1, e2⟩
      exact ⟨rfl, e1.symm, by rw [← e1]; exact e2⟩
    · rintro ⟨rfl, e1, e2⟩
      exact ⟨rfl, e1.symm, by rw [← e1]; exact e2⟩
  · simp [sameSiteL, hn]
  · rintro hu hl rfl
    have hh := ((underL_iff _ _).1 hu).2.1
    rw [labelsL_host hh] at hl
    simp only [sameSiteL, Bool.and_eq_true, decide_eq_true_eq]
    exact ⟨trivial, site_under hu hl, hn⟩
theorem three_cells {w : World} {b : Nat} {e : TypeId} {x0 x1 x2 x3 x4 x5 x6 x7 x8 x9 x10 x11 : Value} (h : w.heap[b]? = some (.cells #[x0, x1, x2, x3, x4, x5, x6, x7, x8, x9, x10, x11] e (0, 0))) :
    w.cell? ⟨b, 0, none⟩ = some x0 ∧ w.cell? ⟨b, 1, none⟩ = some x1 ∧ w.cell? ⟨b, 2, none⟩ = some x2 ∧ w.cell? ⟨b, 3, none⟩ = some x3 ∧ w.cell? ⟨b, 4, none⟩ = some x4 ∧ w.cell? ⟨b, 5, none⟩ = some x5 ∧
    w.cell? ⟨b, 6, none⟩ = some x6 ∧ w.cell? ⟨b, 7, none⟩ = some x7 ∧ w.cell? ⟨b, 8, none⟩ = some x8 ∧ w.cell? ⟨b, 9, none⟩ = some x9 ∧ w.cell? ⟨b, 10, none⟩ = some x10 ∧ w.cell? ⟨b, 11, none⟩ = some x11 := by
  refine ⟨?_, ?_, ?_, ?_, ?_, ?_, ?_, ?_, ?_, ?_, ?_, ?_⟩ <;> simp [World.cell?, h]
theorem bit_nat (x : Int) : ∃ be : Nat, (be = 0 ∨ be = 1) ∧ Go.bits .and .i64 x 1 = (be : Int) := by
  have h := bits_low x 1 (by omega)
  refine ⟨(x % 2).toNat, by omega, ?_⟩
  have h2 : Go.bits .and .i64 x 1 = x % 2 := h
  rw [h2]
  omega
theorem put_one {w : World} {b : Nat} {e : TypeId} {cs : Array Value} (h : w.heap[b]? = some (.cells cs e (0, 0))) (o : Nat) (v : Value) (ho : o < cs.size) :
    (∃ x, w.cell? ⟨b, o, none⟩ = some x) ∧ w.frozen? ⟨b, o, none⟩ = false ∧ (w.setCell ⟨b, o, none⟩ v).heap[b]? = some (.cells (cs.setIfInBounds o v) e (0, 0)) := by
  refine ⟨⟨cs[o], by simp [World.cell?, h, ho]⟩, by simp [World.frozen?, h], ?_⟩
  simp [World.setCell, Array.getElem?_modify, h]
theorem cell_text {w : World} {b : Nat} {e : TypeId} {l : List ByteArray} (h : w.heap[b]? = some (.cells (l.map Value.string).toArray e (0, 0))) (i : Nat) (hi : i < l.length) : w.cell? ⟨b, i, none⟩ = some (.string (l.getD i ⟨#[]⟩)) := by
  simp [World.cell?, h, hi]

set_option maxRecDepth 100000 in
set_option maxHeartbeats 8000000 in
theorem moatlaw2_DomainThree.walk (n0 n1 n2 bits : Int) (w : World) :
    Calls Tryd.prog 4 #[.agg #[.int .i64 n0, .int .i64 n1, .int .i64 n2], .int .i64 bits] w fun e w' => e = .returned (.bool true) ∧ Below w.heap.size w w' := by
  go_enter Tryd.func4, Tryd.ntmps4
  go_upto_region 4 with (fail)
  have hW0 : True := trivial
  obtain ⟨W0, hW0⟩ : ∃ W0, ((w.alloc (.cells #[.int .i64 n0, .int .i64 n1, .int .i64 n2] 30)).alloc (.cells (threeHosts.map Value.string).toArray 9)).alloc (.cells (zO ++ zO ++ zO).toArray 33) = W0 := ⟨_, rfl⟩
  have hs0 : W0.heap.size = w.heap.size + 3 := by rw [← hW0]; simp
  have hbl : Below w.heap.size w W0 := by rw [← hW0]; exact (((Below.refl _ w).alloc (Nat.le_refl _) _).alloc (by simp) _).alloc (by simp; omega) _
  have hk0 : W0.heap[w.heap.size]? = some (.cells #[.int .i64 n0, .int .i64 n1, .int .i64 n2] 30 (0, 0)) := by
    rw [← hW0]; exact ((Below.heap_alloc _ _ _ (by simp; omega)).trans (Below.heap_alloc _ _ _ (by simp))).trans (heap_alloc_new w _)
  have hk1 : W0.heap[w.heap.size + 1]? = some (.cells (threeHosts.map Value.string).toArray 9 (0, 0)) := by
    rw [← hW0]; refine (Below.heap_alloc _ _ _ (by simp)).trans ?_
    have := heap_alloc_new (w.alloc (.cells #[.int .i64 n0, .int .i64 n1, .int .i64 n2] 30)) (.cells (threeHosts.map Value.string).toArray 9); rwa [World.size_alloc] at this
  have hk2 : W0.heap[w.heap.size + 2]? = some (.cells (zO ++ zO ++ zO).toArray 33 (0, 0)) := by
    rw [← hW0]; have := heap_alloc_new ((w.alloc (.cells #[.int .i64 n0, .int .i64 n1, .int .i64 n2] 30)).alloc (.cells (threeHosts.map Value.string).toArray 9)) (.cells (zO ++ zO ++ zO).toArray 33); rwa [World.size_alloc, World.size_alloc] at this
  have hEQ : Code.wp Tryd.prog = Code.wp Tryd.prog := rfl
  rw [show (#[Value.string ⟨#[97, 46, 116, 101, 115, 116]⟩, Value.string ⟨#[120, 46, 97, 46, 116, 101, 115, 116]⟩, Value.string ⟨#[121, 46, 120, 46, 97, 46, 116, 101, 115, 116]⟩, Value.string ⟨#[98, 46, 116, 101, 115, 116]⟩, Value.string ⟨#[97, 46, 116, 101, 115, 116, 46, 98]⟩, Value.string ⟨#[116, 101, 115, 116]⟩, Value.string ⟨#[120, 97, 46, 116, 101, 115, 116]⟩] : Array Value) = (threeHosts.map Value.string).toArray from rfl, show (#[Value.string ⟨#[]⟩, Value.string ⟨#[]⟩, Value.string ⟨#[]⟩, Value.int .i64 0, Value.string ⟨#[]⟩, Value.string ⟨#[]⟩, Value.string ⟨#[]⟩, Value.int .i64 0, Value.string ⟨#[]⟩, Value.string ⟨#[]⟩, Value.string ⟨#[]⟩, Value.int .i64 0] : Array Value) = (zO ++ zO ++ zO).toArray from rfl, hW0]
  clear hW0
  have HB0 := Lib.hid hbl
  have HK0 := Lib.hid hk0
  have HK1 := Lib.hid hk1
  clear hbl hk0 hk1
  go_loopg [7] 3 (fun gk v7 wr => ∃ (i : Nat) (f : Nat → Nat × Nat), v7 = .int .i64 i ∧ i + gk = 3 ∧ (∀ j, (f j).1 < 2 ∧ (f j).2 < 7) ∧ Below w.heap.size w wr ∧ w.heap.size + 3 ≤ wr.heap.size ∧
      wr.heap[w.heap.size]? = some (.cells #[.int .i64 n0, .int .i64 n1, .int .i64 n2] 30 (0, 0)) ∧ wr.heap[w.heap.size + 1]? = some (.cells (threeHosts.map Value.string).toArray 9 (0, 0)) ∧
      wr.heap[w.heap.size + 2]? = some (.cells (osC i f).toArray 33 (0, 0)))
  case atStart => exact ⟨0, fun _ => (0, 0), rfl, rfl, fun _ => ⟨Nat.zero_lt_succ _, Nat.zero_lt_succ _⟩, HB0.out, by omega, HK0.out, HK1.out, hk2⟩
  case round =>
    clear hk2 HK0 HK1 HB0
    obtain ⟨i, f, rfl, hik, hf, hbw, hsz, hk0, hk1, hk2⟩ := hrel
    have HF := Lib.hid hf
    have HBW := Lib.hid hbw
    have HK0 := Lib.hid hk0
    have HK1 := Lib.hid hk1
    have HK2 := Lib.hid hk2
    clear hf hbw hk0 hk1 hk2
    have hcase : i = 0 ∨ i = 1 ∨ i = 2 ∨ i = 3 := by omega
    rcases hcase with rfl | rfl | rfl | rfl
    · go_upto_region 6 with (fail)
      obtain ⟨be, hbe, hbits⟩ := bit_nat (bits)
      have hb2 : (be : Int) < 2 := by omega
      have hLow := fun w' => BB.moatlaw0_Low.calls n0 7 _ w' (Low_f n0 7 (by omega) (by omega))
      have hni := lowN_lt n0 7 (by omega)
      generalize lowN n0 7 = ni at *
      obtain ⟨TS, hTS0⟩ : ∃ TS, threeSchemes.getD be ⟨#[]⟩ = TS := ⟨_, rfl⟩
      have hTS := Lib.hid hTS0
      clear hTS0
      obtain ⟨TH, hTH0⟩ : ∃ TH, threeHosts.getD ni ⟨#[]⟩ = TH := ⟨_, rfl⟩
      have hTH := Lib.hid hTH0
      clear hTH0
      refine region_plan (tk := false) (m := 19) (by kernel_rfl) (by kernel_rfl) (fun W hW => ?_)
      have hWW : Below wr.heap.size wr W := by rw [hW]; exact below_drew1 (Below.refl _ _)
      have HN := Lib.hid (fun (w' : World) (hb : Below W.heap.size W w') => show w'.cell? ⟨w.heap.size, 0, none⟩ = some (.int .i64 n0) by
        have e := ((hWW.trans (hb.mono hWW.size)).block _ (by omega)).trans HK0.out
        simp [World.cell?, e])
      have HH := Lib.hid (fun (w' : World) (hb : Below W.heap.size W w') => show w'.cell? ⟨w.heap.size + 1, ni, none⟩ = some (.string TH) from hTH.out ▸ cell_text (((hWW.trans (hb.mono hWW.size)).block _ (by omega)).trans HK1.out) ni (show ni < 7 by omega))
      refine plan_fix (N := some 17) (v := ?_) (a' := ?_) rfl rfl (fun u w' hBr hvr => step_val (by rfl) ?_ ⟨rfl, Below.refl _ _⟩) ?_ ?_
      rotate_left 2
      · go_simp
        with_reducible rfl
      · intro u
        simp only [Act.put, List.setIfInBounds_toArray, List.set_cons_zero, List.set_cons_succ]
        rfl
      refine plan_new (N := some 18) (V := IsLit 9 2 (threeSchemes.map Value.string).toArray) (a' := ?_) rfl rfl (stable_lit _ _ _) (fun u w' hBr hvr => step_val (w' := w'.alloc (.cells (threeSchemes.map Value.string).toArray 9)) (x := .slice (some ⟨w'.heap.size, 0, none⟩) 2 2) (by rfl) ?_ ⟨⟨_, rfl, heap_alloc_new w' _⟩, (Below.refl _ _).alloc (Nat.le_refl _) _, fun r e => by cases e; simp⟩) ?_ ?_
      rotate_left
      · go_simp
        rfl
      · intro u
        simp only [Act.put, List.setIfInBounds_toArray, List.set_cons_zero, List.set_cons_succ]
        rfl
      refine plan_fix (N := some 19) (v := ?_) (a' := ?_) rfl rfl (fun u w' hBr hvr => step_val (by rfl) ?_ ⟨rfl, Below.refl _ _⟩) ?_ ?_
      rotate_left 2
      · go_simp
        with_reducible rfl
      · intro u
        simp only [Act.put, List.setIfInBounds_toArray, List.set_cons_zero, List.set_cons_succ]
        rfl
      refine plan_fix (N := some 20) (v := ?_) (a' := ?_) rfl rfl (fun u w' hBr hvr => step_val (by rfl) ?_ ⟨rfl, Below.refl _ _⟩) ?_ ?_
      rotate_left 2
      · go_simp
        with_reducible rfl
      · intro u
        simp only [Act.put, List.setIfInBounds_toArray, List.set_cons_zero, List.set_cons_succ]
        rfl
      refine plan_fix (N := some 21) (v := ?_) (a' := ?_) rfl rfl (fun u w' hBr hvr => step_val (by rfl) ?_ ⟨rfl, Below.refl _ _⟩) ?_ ?_
      rotate_left 2
      · go_simp
        with_reducible rfl
      · intro u
        simp only [Act.put, List.setIfInBounds_toArray, List.set_cons_zero, List.set_cons_succ]
        rfl
      refine plan_fix (N := some 22) (v := .int .i64 (be : Int)) (a' := ?_) rfl rfl (fun u w' hBr hvr => ?_) ?_ ?_
      rotate_left
      · refine step_val (w' := w') (by rfl) ?_ ⟨rfl, Below.refl _ _⟩
        go_simp
      · intro u
        simp only [Act.put, List.setIfInBounds_toArray, List.set_cons_zero, List.set_cons_succ]
        rfl
      refine plan_new (N := some 23) (V := fun u w => ∃ b, u = .pointer (some ⟨b, be, none⟩) ∧ w.heap[b]? = some (.cells (threeSchemes.map Value.string).toArray 9 (0, 0))) (a' := ?_) rfl rfl (stable_below (fun u w w' h hb => by obtain ⟨b, h1, h2⟩ := h; exact ⟨b, h1, (hb.block b (Array.getElem?_eq_some_iff.1 h2).1).trans h2⟩)) (fun u w' hBr hvr => ?_) ?_ ?_
      rotate_left
      · obtain ⟨⟨b, hu, hb⟩, _⟩ := hvr _ List.mem_cons_self (by kernel_rfl)
        refine step_val (x := .pointer (some ⟨b, be, none⟩)) (w' := w') (by rfl) ?_ ⟨⟨b, rfl, hb⟩, Below.refl _ _, fun r e => by cases e⟩
        simp only at hu
        go_simp
      · intro u
        simp only [Act.put, List.setIfInBounds_toArray, List.set_cons_zero, List.set_cons_succ]
        rfl
      refine plan_fix (N := some 24) (v := .string TS) (a' := ?_) rfl rfl (fun u w' hBr hvr => ?_) ?_ ?_
      rotate_left
      · obtain ⟨⟨b, hu, hb⟩, _⟩ := hvr _ List.mem_cons_self (by kernel_rfl)
        refine step_val (w' := w') (by rfl) ?_ ⟨rfl, Below.refl _ _⟩
        simp only at hu
        have hc := cell_text hb be (show be < 2 by omega)
        rw [hTS.out] at hc
        go_simp
      · intro u
        simp only [Act.put, List.setIfInBounds_toArray, List.set_cons_zero, List.set_cons_succ]
        rfl
      refine plan_fix (N := some 25) (v := ?_) (a' := ?_) rfl rfl (fun u w' hBr hvr => step_val (by rfl) ?_ ⟨rfl, Below.refl _ _⟩) ?_ ?_
      rotate_left 2
      · go_simp
        with_reducible rfl
      · intro u
        simp only [Act.put, List.setIfInBounds_toArray, List.set_cons_zero, List.set_cons_succ]
        rfl
      refine plan_fix (N := some 26) (v := ?_) (a' := ?_) rfl rfl (fun u w' hBr hvr => step_val (by rfl) ?_ ⟨rfl, Below.refl _ _⟩) ?_ ?_
      rotate_left 2
      · go_simp
        with_reducible rfl
      · intro u
        simp only [Act.put, List.setIfInBounds_toArray, List.set_cons_zero, List.set_cons_succ]
        rfl
      refine plan_fix (N := some 27) (v := ?_) (a' := ?_) rfl rfl (fun u w' hBr hvr => step_val (by rfl) ?_ ⟨rfl, Below.refl _ _⟩) ?_ ?_
      rotate_left 2
      · have h1 := HN.out w' hBr
        go_simp
        with_reducible rfl
      · intro u
        simp only [Act.put, List.setIfInBounds_toArray, List.set_cons_zero, List.set_cons_succ]
        rfl
      refine plan_fix (N := some 28) (v := ?_) (a' := ?_) rfl rfl (fun u w' hBr hvr => step_val (by rfl) ?_ ⟨rfl, Below.refl _ _⟩) ?_ ?_
      rotate_left 2
      · have h1 := HN.out w' hBr
        go_simp
        with_reducible rfl
      · intro u
        simp only [Act.put, List.setIfInBounds_toArray, List.set_cons_zero, List.set_cons_succ]
        rfl
      refine plan_fix (N := some 29) (v := ?_) (a' := ?_) rfl rfl (fun u w' hBr hvr => step_call Tryd.func12 (by kernel_rfl) rfl #[.int .i64 n0, .int .i64 7] (by rfl) rfl (by (try simp only [List.map_toArray, List.map_cons, List.map_nil]); first | done | rfl) ?_) ?_ ?_
      rotate_left 2
      · refine (hLow w').mono ?_
        rintro e w'' ⟨rfl, hbn⟩
        refine ⟨_, rfl, ?_, hbn.below⟩
        with_reducible rfl
      · intro u
        simp only [Act.put, List.setIfInBounds_toArray, List.set_cons_zero, List.set_cons_succ]
        rfl
      refine plan_fix (N := some 30) (v := ?_) (a' := ?_) rfl rfl (fun u w' hBr hvr => step_val (by rfl) ?_ ⟨rfl, Below.refl _ _⟩) ?_ ?_
      rotate_left 2
      · go_simp
        with_reducible rfl
      · intro u
        simp only [Act.put, List.setIfInBounds_toArray, List.set_cons_zero, List.set_cons_succ]
        rfl
      refine plan_fix (N := some 31) (v := .string TH) (a' := ?_) rfl rfl (fun u w' hBr hvr => ?_) ?_ ?_
      rotate_left
      · refine step_val (w' := w') (by rfl) ?_ ⟨rfl, Below.refl _ _⟩
        have h1 := HH.out w' hBr
        go_simp
      · intro u
        simp only [Act.put, List.setIfInBounds_toArray, List.set_cons_zero, List.set_cons_succ]
        rfl
      refine plan_fix (N := some 32) (v := ?_) (a' := ?_) rfl rfl (fun u w' hBr hvr => step_val (by rfl) ?_ ⟨rfl, Below.refl _ _⟩) ?_ ?_
      rotate_left 2
      · go_simp
        with_reducible rfl
      · intro u
        simp only [Act.put, List.setIfInBounds_toArray, List.set_cons_zero, List.set_cons_succ]
        rfl
      refine plan_fix (N := some 33) (v := .int .i64 1) (a' := ?_) rfl rfl (fun u w' hBr hvr => ?_) ?_ ?_
      rotate_left
      · refine step_val (w' := w') (by rfl) ?_ ⟨rfl, Below.refl _ _⟩
        go_simp
        rfl
      · intro u
        simp only [Act.put, List.setIfInBounds_toArray, List.set_cons_zero, List.set_cons_succ]
        rfl
      refine plan_fix (N := some 34) (v := ?_) (a' := ?_) rfl rfl (fun u w' hBr hvr => step_val (by rfl) ?_ ⟨rfl, Below.refl _ _⟩) ?_ ?_
      rotate_left 2
      · go_simp
        with_reducible rfl
      · intro u
        simp only [Act.put, List.setIfInBounds_toArray, List.set_cons_zero, List.set_cons_succ]
        rfl
      refine plan_fix (N := some 35) (v := ?_) (a' := ?_) rfl rfl (fun u w' hBr hvr => step_val (by rfl) ?_ ⟨rfl, Below.refl _ _⟩) ?_ ?_
      rotate_left 2
      · go_simp
        with_reducible rfl
      · intro u
        simp only [Act.put, List.setIfInBounds_toArray, List.set_cons_zero, List.set_cons_succ]
        rfl
      refine plan_rest #[true, true, true, true, true, true, true, true, true, true, true, true, true, true, true, true, true, true, true, false] rfl rfl (by kernel_rfl) (fun u wz hBz hvz => any_last ?_)
      refine last_ (i := 19) (N := none) #[true, true, true, true, true, true, true, true, true, true, true, true, true, true, true, true, true, true, true, true] rfl rfl (by kernel_rfl) (by decide) (fun K hK => ?_)
      clear hvz
      have hBz2 := hWW.trans (hBz.mono hWW.size)
      have hk2 : wz.heap[w.heap.size + 1 + 1]? = some (.cells (osC 0 f).toArray 33 (0, 0)) := (hBz2.block _ (by omega)).trans HK2.out
      have hzl : (osC 0 f).toArray.size = 12 := by simp [osC, oCells, zO]
      clear HN HH HK2
      obtain ⟨⟨y0, ca0⟩, ff0, hk3⟩ := put_one hk2 0 (.string ⟨#[]⟩) (by omega)
      obtain ⟨⟨y1, ca1⟩, ff1, hk4⟩ := put_one hk3 1 (.string TS) (by simp only [Array.size_setIfInBounds]; omega)
      obtain ⟨⟨y2, ca2⟩, ff2, hk5⟩ := put_one hk4 2 (.string TH) (by simp only [Array.size_setIfInBounds]; omega)
      obtain ⟨⟨y3, ca3⟩, ff3, hk6⟩ := put_one hk5 3 (.int .i64 1) (by simp only [Array.size_setIfInBounds]; omega)
      have HK6 := Lib.hid hk6
      clear hk2 hk3 hk4 hk5 hk6 hzl
      go_simp
      refine hK.out _ _ ?_
      clear hK K
      refine done_ (by kernel_rfl) ?_
      have hB6 := Lib.hid (((((hBz2.mono (show w.heap.size + 2 ≤ wr.heap.size by omega)).setCell (p := ⟨w.heap.size + 1 + 1, 0, none⟩) (show w.heap.size + 2 ≤ w.heap.size + 1 + 1 by omega) (.string ⟨#[]⟩)).setCell (p := ⟨w.heap.size + 1 + 1, 1, none⟩) (show w.heap.size + 2 ≤ w.heap.size + 1 + 1 by omega) (.string TS)).setCell (p := ⟨w.heap.size + 1 + 1, 2, none⟩) (show w.heap.size + 2 ≤ w.heap.size + 1 + 1 by omega) (.string TH)).setCell (p := ⟨w.heap.size + 1 + 1, 3, none⟩) (show w.heap.size + 2 ≤ w.heap.size + 1 + 1 by omega) (.int .i64 1))
      have hsz6 := hBz2.size
      clear ca0 ca1 ca2 ca3 ff0 ff1 ff2 ff3 hBz hBz2 hWW hLow
      generalize World.setCell _ _ _ = w6 at HK6 hB6 ⊢
      go_wp2
      go_roundg (gk - 1)
      case measure => omega
      case rel =>
        refine ⟨1, fun j => if j = 0 then (be, ni) else f j, by go_num, by omega, ?_, HBW.out.trans (hB6.out.mono (by omega)), ?_, ?_, ?_, ?_⟩
        · intro j
          show (if j = 0 then (be, ni) else f j).1 < 2 ∧ (if j = 0 then (be, ni) else f j).2 < 7
          by_cases hj : j = 0
          · rw [if_pos hj]
            exact ⟨by show be < 2; omega, by show ni < 7; omega⟩
          · rw [if_neg hj]
            exact HF.out j
        · have h1 := hB6.out.size
          exact Nat.le_trans hsz h1
        · exact (hB6.out.block _ (by omega)).trans HK0.out
        · exact (hB6.out.block _ (by omega)).trans HK1.out
        · have hk6 := HK6.out
          rw [← hTS.out, ← hTH.out] at hk6
          exact hk6
    · go_upto_region 6 with (fail)
      obtain ⟨be, hbe, hbits⟩ := bit_nat (bits / 2)
      have hb2 : (be : Int) < 2 := by omega
      have hLow := fun w' => BB.moatlaw0_Low.calls n1 7 _ w' (Low_f n1 7 (by omega) (by omega))
      have hni := lowN_lt n1 7 (by omega)
      generalize lowN n1 7 = ni at *
      obtain ⟨TS, hTS0⟩ : ∃ TS, threeSchemes.getD be ⟨#[]⟩ = TS := ⟨_, rfl⟩
      have hTS := Lib.hid hTS0
      clear hTS0
      obtain ⟨TH, hTH0⟩ : ∃ TH, threeHosts.getD ni ⟨#[]⟩ = TH := ⟨_, rfl⟩
      have hTH := Lib.hid hTH0
      clear hTH0
      refine region_plan (tk := false) (m := 19) (by kernel_rfl) (by kernel_rfl) (fun W hW => ?_)
      have hWW : Below wr.heap.size wr W := by rw [hW]; exact below_drew1 (Below.refl _ _)
      have HN := Lib.hid (fun (w' : World) (hb : Below W.heap.size W w') => show w'.cell? ⟨w.heap.size, 1, none⟩ = some (.int .i64 n1) by
        have e := ((hWW.trans (hb.mono hWW.size)).block _ (by omega)).trans HK0.out
        simp [World.cell?, e])
      have HH := Lib.hid (fun (w' : World) (hb : Below W.heap.size W w') => show w'.cell? ⟨w.heap.size + 1, ni, none⟩ = some (.string TH) from hTH.out ▸ cell_text (((hWW.trans (hb.mono hWW.size)).block _ (by omega)).trans HK1.out) ni (show ni < 7 by omega))
      refine plan_fix (N := some 17) (v := ?_) (a' := ?_) rfl rfl (fun u w' hBr hvr => step_val (by rfl) ?_ ⟨rfl, Below.refl _ _⟩) ?_ ?_
      rotate_left 2
      · go_simp
        with_reducible rfl
      · intro u
        simp only [Act.put, List.setIfInBounds_toArray, List.set_cons_zero, List.set_cons_succ]
        rfl
      refine plan_new (N := some 18) (V := IsLit 9 2 (threeSchemes.map Value.string).toArray) (a' := ?_) rfl rfl (stable_lit _ _ _) (fun u w' hBr hvr => step_val (w' := w'.alloc (.cells (threeSchemes.map Value.string).toArray 9)) (x := .slice (some ⟨w'.heap.size, 0, none⟩) 2 2) (by rfl) ?_ ⟨⟨_, rfl, heap_alloc_new w' _⟩, (Below.refl _ _).alloc (Nat.le_refl _) _, fun r e => by cases e; simp⟩) ?_ ?_
      rotate_left
      · go_simp
        rfl
      · intro u
        simp only [Act.put, List.setIfInBounds_toArray, List.set_cons_zero, List.set_cons_succ]
        rfl
      refine plan_fix (N := some 19) (v := ?_) (a' := ?_) rfl rfl (fun u w' hBr hvr => step_val (by rfl) ?_ ⟨rfl, Below.refl _ _⟩) ?_ ?_
      rotate_left 2
      · go_simp
        with_reducible rfl
      · intro u
        simp only [Act.put, List.setIfInBounds_toArray, List.set_cons_zero, List.set_cons_succ]
        rfl
      refine plan_fix (N := some 20) (v := ?_) (a' := ?_) rfl rfl (fun u w' hBr hvr => step_val (by rfl) ?_ ⟨rfl, Below.refl _ _⟩) ?_ ?_
      rotate_left 2
      · go_simp
        with_reducible rfl
      · intro u
        simp only [Act.put, List.setIfInBounds_toArray, List.set_cons_zero, List.set_cons_succ]
        rfl
      refine plan_fix (N := some 21) (v := ?_) (a' := ?_) rfl rfl (fun u w' hBr hvr => step_val (by rfl) ?_ ⟨rfl, Below.refl _ _⟩) ?_ ?_
      rotate_left 2
      · go_simp
        with_reducible rfl
      · intro u
        simp only [Act.put, List.setIfInBounds_toArray, List.set_cons_zero, List.set_cons_succ]
        rfl
      refine plan_fix (N := some 22) (v := .int .i64 (be : Int)) (a' := ?_) rfl rfl (fun u w' hBr hvr => ?_) ?_ ?_
      rotate_left
      · refine step_val (w' := w') (by rfl) ?_ ⟨rfl, Below.refl _ _⟩
        go_simp
      · intro u
        simp only [Act.put, List.setIfInBounds_toArray, List.set_cons_zero, List.set_cons_succ]
        rfl
      refine plan_new (N := some 23) (V := fun u w => ∃ b, u = .pointer (some ⟨b, be, none⟩) ∧ w.heap[b]? = some (.cells (threeSchemes.map Value.string).toArray 9 (0, 0))) (a' := ?_) rfl rfl (stable_below (fun u w w' h hb => by obtain ⟨b, h1, h2⟩ := h; exact ⟨b, h1, (hb.block b (Array.getElem?_eq_some_iff.1 h2).1).trans h2⟩)) (fun u w' hBr hvr => ?_) ?_ ?_
      rotate_left
      · obtain ⟨⟨b, hu, hb⟩, _⟩ := hvr _ List.mem_cons_self (by kernel_rfl)
        refine step_val (x := .pointer (some ⟨b, be, none⟩)) (w' := w') (by rfl) ?_ ⟨⟨b, rfl, hb⟩, Below.refl _ _, fun r e => by cases e⟩
        simp only at hu
        go_simp
      · intro u
        simp only [Act.put, List.setIfInBounds_toArray, List.set_cons_zero, List.set_cons_succ]
        rfl
      refine plan_fix (N := some 24) (v := .string TS) (a' := ?_) rfl rfl (fun u w' hBr hvr => ?_) ?_ ?_
      rotate_left
      · obtain ⟨⟨b, hu, hb⟩, _⟩ := hvr _ List.mem_cons_self (by kernel_rfl)
        refine step_val (w' := w') (by rfl) ?_ ⟨rfl, Below.refl _ _⟩
        simp only at hu
        have hc := cell_text hb be (show be < 2 by omega)
        rw [hTS.out] at hc
        go_simp
      · intro u
        simp only [Act.put, List.setIfInBounds_toArray, List.set_cons_zero, List.set_cons_succ]
        rfl
      refine plan_fix (N := some 25) (v := ?_) (a' := ?_) rfl rfl (fun u w' hBr hvr => step_val (by rfl) ?_ ⟨rfl, Below.refl _ _⟩) ?_ ?_
      rotate_left 2
      · go_simp
        with_reducible rfl
      · intro u
        simp only [Act.put, List.setIfInBounds_toArray, List.set_cons_zero, List.set_cons_succ]
        rfl
      refine plan_fix (N := some 26) (v := ?_) (a' := ?_) rfl rfl (fun u w' hBr hvr => step_val (by rfl) ?_ ⟨rfl, Below.refl _ _⟩) ?_ ?_
      rotate_left 2
      · go_simp
        with_reducible rfl
      · intro u
        simp only [Act.put, List.setIfInBounds_toArray, List.set_cons_zero, List.set_cons_succ]
        rfl
      refine plan_fix (N := some 27) (v := ?_) (a' := ?_) rfl rfl (fun u w' hBr hvr => step_val (by rfl) ?_ ⟨rfl, Below.refl _ _⟩) ?_ ?_
      rotate_left 2
      · have h1 := HN.out w' hBr
        go_simp
        with_reducible rfl
      · intro u
        simp only [Act.put, List.setIfInBounds_toArray, List.set_cons_zero, List.set_cons_succ]
        rfl
      refine plan_fix (N := some 28) (v := ?_) (a' := ?_) rfl rfl (fun u w' hBr hvr => step_val (by rfl) ?_ ⟨rfl, Below.refl _ _⟩) ?_ ?_
      rotate_left 2
      · have h1 := HN.out w' hBr
        go_simp
        with_reducible rfl
      · intro u
        simp only [Act.put, List.setIfInBounds_toArray, List.set_cons_zero, List.set_cons_succ]
        rfl
      refine plan_fix (N := some 29) (v := ?_) (a' := ?_) rfl rfl (fun u w' hBr hvr => step_call Tryd.func12 (by kernel_rfl) rfl #[.int .i64 n1, .int .i64 7] (by rfl) rfl (by (try simp only [List.map_toArray, List.map_cons, List.map_nil]); first | done | rfl) ?_) ?_ ?_
      rotate_left 2
      · refine (hLow w').mono ?_
        rintro e w'' ⟨rfl, hbn⟩
        refine ⟨_, rfl, ?_, hbn.below⟩
        with_reducible rfl
      · intro u
        simp only [Act.put, List.setIfInBounds_toArray, List.set_cons_zero, List.set_cons_succ]
        rfl
      refine plan_fix (N := some 30) (v := ?_) (a' := ?_) rfl rfl (fun u w' hBr hvr => step_val (by rfl) ?_ ⟨rfl, Below.refl _ _⟩) ?_ ?_
      rotate_left 2
      · go_simp
        with_reducible rfl
      · intro u
        simp only [Act.put, List.setIfInBounds_toArray, List.set_cons_zero, List.set_cons_succ]
        rfl
      refine plan_fix (N := some 31) (v := .string TH) (a' := ?_) rfl rfl (fun u w' hBr hvr => ?_) ?_ ?_
      rotate_left
      · refine step_val (w' := w') (by rfl) ?_ ⟨rfl, Below.refl _ _⟩
        have h1 := HH.out w' hBr
        go_simp
      · intro u
        simp only [Act.put, List.setIfInBounds_toArray, List.set_cons_zero, List.set_cons_succ]
        rfl
      refine plan_fix (N := some 32) (v := ?_) (a' := ?_) rfl rfl (fun u w' hBr hvr => step_val (by rfl) ?_ ⟨rfl, Below.refl _ _⟩) ?_ ?_
      rotate_left 2
      · go_simp
        with_reducible rfl
      · intro u
        simp only [Act.put, List.setIfInBounds_toArray, List.set_cons_zero, List.set_cons_succ]
        rfl
      refine plan_fix (N := some 33) (v := .int .i64 2) (a' := ?_) rfl rfl (fun u w' hBr hvr => ?_) ?_ ?_
      rotate_left
      · refine step_val (w' := w') (by rfl) ?_ ⟨rfl, Below.refl _ _⟩
        go_simp
        rfl
      · intro u
        simp only [Act.put, List.setIfInBounds_toArray, List.set_cons_zero, List.set_cons_succ]
        rfl
      refine plan_fix (N := some 34) (v := ?_) (a' := ?_) rfl rfl (fun u w' hBr hvr => step_val (by rfl) ?_ ⟨rfl, Below.refl _ _⟩) ?_ ?_
      rotate_left 2
      · go_simp
        with_reducible rfl
      · intro u
        simp only [Act.put, List.setIfInBounds_toArray, List.set_cons_zero, List.set_cons_succ]
        rfl
      refine plan_fix (N := some 35) (v := ?_) (a' := ?_) rfl rfl (fun u w' hBr hvr => step_val (by rfl) ?_ ⟨rfl, Below.refl _ _⟩) ?_ ?_
      rotate_left 2
      · go_simp
        with_reducible rfl
      · intro u
        simp only [Act.put, List.setIfInBounds_toArray, List.set_cons_zero, List.set_cons_succ]
        rfl
      refine plan_rest #[true, true, true, true, true, true, true, true, true, true, true, true, true, true, true, true, true, true, true, false] rfl rfl (by kernel_rfl) (fun u wz hBz hvz => any_last ?_)
      refine last_ (i := 19) (N := none) #[true, true, true, true, true, true, true, true, true, true, true, true, true, true, true, true, true, true, true, true] rfl rfl (by kernel_rfl) (by decide) (fun K hK => ?_)
      clear hvz
      have hBz2 := hWW.trans (hBz.mono hWW.size)
      have hk2 : wz.heap[w.heap.size + 1 + 1]? = some (.cells (osC 1 f).toArray 33 (0, 0)) := (hBz2.block _ (by omega)).trans HK2.out
      have hzl : (osC 1 f).toArray.size = 12 := by simp [osC, oCells, zO]
      clear HN HH HK2
      obtain ⟨⟨y0, ca0⟩, ff0, hk3⟩ := put_one hk2 4 (.string ⟨#[]⟩) (by omega)
      obtain ⟨⟨y1, ca1⟩, ff1, hk4⟩ := put_one hk3 5 (.string TS) (by simp only [Array.size_setIfInBounds]; omega)
      obtain ⟨⟨y2, ca2⟩, ff2, hk5⟩ := put_one hk4 6 (.string TH) (by simp only [Array.size_setIfInBounds]; omega)
      obtain ⟨⟨y3, ca3⟩, ff3, hk6⟩ := put_one hk5 7 (.int .i64 2) (by simp only [Array.size_setIfInBounds]; omega)
      have HK6 := Lib.hid hk6
      clear hk2 hk3 hk4 hk5 hk6 hzl
      go_simp
      refine hK.out _ _ ?_
      clear hK K
      refine done_ (by kernel_rfl) ?_
      have hB6 := Lib.hid (((((hBz2.mono (show w.heap.size + 2 ≤ wr.heap.size by omega)).setCell (p := ⟨w.heap.size + 1 + 1, 4, none⟩) (show w.heap.size + 2 ≤ w.heap.size + 1 + 1 by omega) (.string ⟨#[]⟩)).setCell (p := ⟨w.heap.size + 1 + 1, 5, none⟩) (show w.heap.size + 2 ≤ w.heap.size + 1 + 1 by omega) (.string TS)).setCell (p := ⟨w.heap.size + 1 + 1, 6, none⟩) (show w.heap.size + 2 ≤ w.heap.size + 1 + 1 by omega) (.string TH)).setCell (p := ⟨w.heap.size + 1 + 1, 7, none⟩) (show w.heap.size + 2 ≤ w.heap.size + 1 + 1 by omega) (.int .i64 2))
      have hsz6 := hBz2.size
      clear ca0 ca1 ca2 ca3 ff0 ff1 ff2 ff3 hBz hBz2 hWW hLow
      generalize World.setCell _ _ _ = w6 at HK6 hB6 ⊢
      go_wp2
      go_roundg (gk - 1)
      case measure => omega
      case rel =>
        refine ⟨2, fun j => if j = 1 then (be, ni) else f j, by go_num, by omega, ?_, HBW.out.trans (hB6.out.mono (by omega)), ?_, ?_, ?_, ?_⟩
        · intro j
          show (if j = 1 then (be, ni) else f j).1 < 2 ∧ (if j = 1 then (be, ni) else f j).2 < 7
          by_cases hj : j = 1
          · rw [if_pos hj]
            exact ⟨by show be < 2; omega, by show ni < 7; omega⟩
          · rw [if_neg hj]
            exact HF.out j
        · have h1 := hB6.out.size
          exact Nat.le_trans hsz h1
        · exact (hB6.out.block _ (by omega)).trans HK0.out
        · exact (hB6.out.block _ (by omega)).trans HK1.out
        · have hk6 := HK6.out
          rw [← hTS.out, ← hTH.out] at hk6
          exact hk6
    · go_upto_region 6 with (fail)
      obtain ⟨be, hbe, hbits⟩ := bit_nat (bits / 4)
      have hb2 : (be : Int) < 2 := by omega
      have hLow := fun w' => BB.moatlaw0_Low.calls n2 7 _ w' (Low_f n2 7 (by omega) (by omega))
      have hni := lowN_lt n2 7 (by omega)
      generalize lowN n2 7 = ni at *
      obtain ⟨TS, hTS0⟩ : ∃ TS, threeSchemes.getD be ⟨#[]⟩ = TS := ⟨_, rfl⟩
      have hTS := Lib.hid hTS0
      clear hTS0
      obtain ⟨TH, hTH0⟩ : ∃ TH, threeHosts.getD ni ⟨#[]⟩ = TH := ⟨_, rfl⟩
      have hTH := Lib.hid hTH0
      clear hTH0
      refine region_plan (tk := false) (m := 19) (by kernel_rfl) (by kernel_rfl) (fun W hW => ?_)
      have hWW : Below wr.heap.size wr W := by rw [hW]; exact below_drew1 (Below.refl _ _)
      have HN := Lib.hid (fun (w' : World) (hb : Below W.heap.size W w') => show w'.cell? ⟨w.heap.size, 2, none⟩ = some (.int .i64 n2) by
        have e := ((hWW.trans (hb.mono hWW.size)).block _ (by omega)).trans HK0.out
        simp [World.cell?, e])
      have HH := Lib.hid (fun (w' : World) (hb : Below W.heap.size W w') => show w'.cell? ⟨w.heap.size + 1, ni, none⟩ = some (.string TH) from hTH.out ▸ cell_text (((hWW.trans (hb.mono hWW.size)).block _ (by omega)).trans HK1.out) ni (show ni < 7 by omega))
      refine plan_fix (N := some 17) (v := ?_) (a' := ?_) rfl rfl (fun u w' hBr hvr => step_val (by rfl) ?_ ⟨rfl, Below.refl _ _⟩) ?_ ?_
      rotate_left 2
      · go_simp
        with_reducible rfl
      · intro u
        simp only [Act.put, List.setIfInBounds_toArray, List.set_cons_zero, List.set_cons_succ]
        rfl
      refine plan_new (N := some 18) (V := IsLit 9 2 (threeSchemes.map Value.string).toArray) (a' := ?_) rfl rfl (stable_lit _ _ _) (fun u w' hBr hvr => step_val (w' := w'.alloc (.cells (threeSchemes.map Value.string).toArray 9)) (x := .slice (some ⟨w'.heap.size, 0, none⟩) 2 2) (by rfl) ?_ ⟨⟨_, rfl, heap_alloc_new w' _⟩, (Below.refl _ _).alloc (Nat.le_refl _) _, fun r e => by cases e; simp⟩) ?_ ?_
      rotate_left
      · go_simp
        rfl
      · intro u
        simp only [Act.put, List.setIfInBounds_toArray, List.set_cons_zero, List.set_cons_succ]
        rfl
      refine plan_fix (N := some 19) (v := ?_) (a' := ?_) rfl rfl (fun u w' hBr hvr => step_val (by rfl) ?_ ⟨rfl, Below.refl _ _⟩) ?_ ?_
      rotate_left 2
      · go_simp
        with_reducible rfl
      · intro u
        simp only [Act.put, List.setIfInBounds_toArray, List.set_cons_zero, List.set_cons_succ]
        rfl
      refine plan_fix (N := some 20) (v := ?_) (a' := ?_) rfl rfl (fun u w' hBr hvr => step_val (by rfl) ?_ ⟨rfl, Below.refl _ _⟩) ?_ ?_
      rotate_left 2
      · go_simp
        with_reducible rfl
      · intro u
        simp only [Act.put, List.setIfInBounds_toArray, List.set_cons_zero, List.set_cons_succ]
        rfl
      refine plan_fix (N := some 21) (v := ?_) (a' := ?_) rfl rfl (fun u w' hBr hvr => step_val (by rfl) ?_ ⟨rfl, Below.refl _ _⟩) ?_ ?_
      rotate_left 2
      · go_simp
        with_reducible rfl
      · intro u
        simp only [Act.put, List.setIfInBounds_toArray, List.set_cons_zero, List.set_cons_succ]
        rfl
      refine plan_fix (N := some 22) (v := .int .i64 (be : Int)) (a' := ?_) rfl rfl (fun u w' hBr hvr => ?_) ?_ ?_
      rotate_left
      · refine step_val (w' := w') (by rfl) ?_ ⟨rfl, Below.refl _ _⟩
        go_simp
      · intro u
        simp only [Act.put, List.setIfInBounds_toArray, List.set_cons_zero, List.set_cons_succ]
        rfl
      refine plan_new (N := some 23) (V := fun u w => ∃ b, u = .pointer (some ⟨b, be, none⟩) ∧ w.heap[b]? = some (.cells (threeSchemes.map Value.string).toArray 9 (0, 0))) (a' := ?_) rfl rfl (stable_below (fun u w w' h hb => by obtain ⟨b, h1, h2⟩ := h; exact ⟨b, h1, (hb.block b (Array.getElem?_eq_some_iff.1 h2).1).trans h2⟩)) (fun u w' hBr hvr => ?_) ?_ ?_
      rotate_left
      · obtain ⟨⟨b, hu, hb⟩, _⟩ := hvr _ List.mem_cons_self (by kernel_rfl)
        refine step_val (x := .pointer (some ⟨b, be, none⟩)) (w' := w') (by rfl) ?_ ⟨⟨b, rfl, hb⟩, Below.refl _ _, fun r e => by cases e⟩
        simp only at hu
        go_simp
      · intro u
        simp only [Act.put, List.setIfInBounds_toArray, List.set_cons_zero, List.set_cons_succ]
        rfl
      refine plan_fix (N := some 24) (v := .string TS) (a' := ?_) rfl rfl (fun u w' hBr hvr => ?_) ?_ ?_
      rotate_left
      · obtain ⟨⟨b, hu, hb⟩, _⟩ := hvr _ List.mem_cons_self (by kernel_rfl)
        refine step_val (w' := w') (by rfl) ?_ ⟨rfl, Below.refl _ _⟩
        simp only at hu
        have hc := cell_text hb be (show be < 2 by omega)
        rw [hTS.out] at hc
        go_simp
      · intro u
        simp only [Act.put, List.setIfInBounds_toArray, List.set_cons_zero, List.set_cons_succ]
        rfl
      refine plan_fix (N := some 25) (v := ?_) (a' := ?_) rfl rfl (fun u w' hBr hvr => step_val (by rfl) ?_ ⟨rfl, Below.refl _ _⟩) ?_ ?_
      rotate_left 2
      · go_simp
        with_reducible rfl
      · intro u
        simp only [Act.put, List.setIfInBounds_toArray, List.set_cons_zero, List.set_cons_succ]
        rfl
      refine plan_fix (N := some 26) (v := ?_) (a' := ?_) rfl rfl (fun u w' hBr hvr => step_val (by rfl) ?_ ⟨rfl, Below.refl _ _⟩) ?_ ?_
      rotate_left 2
      · go_simp
        with_reducible rfl
      · intro u
        simp only [Act.put, List.setIfInBounds_toArray, List.set_cons_zero, List.set_cons_succ]
        rfl
      refine plan_fix (N := some 27) (v := ?_) (a' := ?_) rfl rfl (fun u w' hBr hvr => step_val (by rfl) ?_ ⟨rfl, Below.refl _ _⟩) ?_ ?_
      rotate_left 2
      · have h1 := HN.out w' hBr
        go_simp
        with_reducible rfl
      · intro u
        simp only [Act.put, List.setIfInBounds_toArray, List.set_cons_zero, List.set_cons_succ]
        rfl
      refine plan_fix (N := some 28) (v := ?_) (a' := ?_) rfl rfl (fun u w' hBr hvr => step_val (by rfl) ?_ ⟨rfl, Below.refl _ _⟩) ?_ ?_
      rotate_left 2
      · have h1 := HN.out w' hBr
        go_simp
        with_reducible rfl
      · intro u
        simp only [Act.put, List.setIfInBounds_toArray, List.set_cons_zero, List.set_cons_succ]
        rfl
      refine plan_fix (N := some 29) (v := ?_) (a' := ?_) rfl rfl (fun u w' hBr hvr => step_call Tryd.func12 (by kernel_rfl) rfl #[.int .i64 n2, .int .i64 7] (by rfl) rfl (by (try simp only [List.map_toArray, List.map_cons, List.map_nil]); first | done | rfl) ?_) ?_ ?_
      rotate_left 2
      · refine (hLow w').mono ?_
        rintro e w'' ⟨rfl, hbn⟩
        refine ⟨_, rfl, ?_, hbn.below⟩
        with_reducible rfl
      · intro u
        simp only [Act.put, List.setIfInBounds_toArray, List.set_cons_zero, List.set_cons_succ]
        rfl
      refine plan_fix (N := some 30) (v := ?_) (a' := ?_) rfl rfl (fun u w' hBr hvr => step_val (by rfl) ?_ ⟨rfl, Below.refl _ _⟩) ?_ ?_
      rotate_left 2
      · go_simp
        with_reducible rfl
      · intro u
        simp only [Act.put, List.setIfInBounds_toArray, List.set_cons_zero, List.set_cons_succ]
        rfl
      refine plan_fix (N := some 31) (v := .string TH) (a' := ?_) rfl rfl (fun u w' hBr hvr => ?_) ?_ ?_
      rotate_left
      · refine step_val (w' := w') (by rfl) ?_ ⟨rfl, Below.refl _ _⟩
        have h1 := HH.out w' hBr
        go_simp
      · intro u
        simp only [Act.put, List.setIfInBounds_toArray, List.set_cons_zero, List.set_cons_succ]
        rfl
      refine plan_fix (N := some 32) (v := ?_) (a' := ?_) rfl rfl (fun u w' hBr hvr => step_val (by rfl) ?_ ⟨rfl, Below.refl _ _⟩) ?_ ?_
      rotate_left 2
      · go_simp
        with_reducible rfl
      · intro u
        simp only [Act.put, List.setIfInBounds_toArray, List.set_cons_zero, List.set_cons_succ]
        rfl
      refine plan_fix (N := some 33) (v := .int .i64 3) (a' := ?_) rfl rfl (fun u w' hBr hvr => ?_) ?_ ?_
      rotate_left
      · refine step_val (w' := w') (by rfl) ?_ ⟨rfl, Below.refl _ _⟩
        go_simp
        rfl
      · intro u
        simp only [Act.put, List.setIfInBounds_toArray, List.set_cons_zero, List.set_cons_succ]
        rfl
      refine plan_fix (N := some 34) (v := ?_) (a' := ?_) rfl rfl (fun u w' hBr hvr => step_val (by rfl) ?_ ⟨rfl, Below.refl _ _⟩) ?_ ?_
      rotate_left 2
      · go_simp
        with_reducible rfl
      · intro u
        simp only [Act.put, List.setIfInBounds_toArray, List.set_cons_zero, List.set_cons_succ]
        rfl
      refine plan_fix (N := some 35) (v := ?_) (a' := ?_) rfl rfl (fun u w' hBr hvr => step_val (by rfl) ?_ ⟨rfl, Below.refl _ _⟩) ?_ ?_
      rotate_left 2
      · go_simp
        with_reducible rfl
      · intro u
        simp only [Act.put, List.setIfInBounds_toArray, List.set_cons_zero, List.set_cons_succ]
        rfl
      refine plan_rest #[true, true, true, true, true, true, true, true, true, true, true, true, true, true, true, true, true, true, true, false] rfl rfl (by kernel_rfl) (fun u wz hBz hvz => any_last ?_)
      refine last_ (i := 19) (N := none) #[true, true, true, true, true, true, true, true, true, true, true, true, true, true, true, true, true, true, true, true] rfl rfl (by kernel_rfl) (by decide) (fun K hK => ?_)
      clear hvz
      have hBz2 := hWW.trans (hBz.mono hWW.size)
      have hk2 : wz.heap[w.heap.size + 1 + 1]? = some (.cells (osC 2 f).toArray 33 (0, 0)) := (hBz2.block _ (by omega)).trans HK2.out
      have hzl : (osC 2 f).toArray.size = 12 := by simp [osC, oCells, zO]
      clear HN HH HK2
      obtain ⟨⟨y0, ca0⟩, ff0, hk3⟩ := put_one hk2 8 (.string ⟨#[]⟩) (by omega)
      obtain ⟨⟨y1, ca1⟩, ff1, hk4⟩ := put_one hk3 9 (.string TS) (by simp only [Array.size_setIfInBounds]; omega)
      obtain ⟨⟨y2, ca2⟩, ff2, hk5⟩ := put_one hk4 10 (.string TH) (by simp only [Array.size_setIfInBounds]; omega)
      obtain ⟨⟨y3, ca3⟩, ff3, hk6⟩ := put_one hk5 11 (.int .i64 3) (by simp only [Array.size_setIfInBounds]; omega)
      have HK6 := Lib.hid hk6
      clear hk2 hk3 hk4 hk5 hk6 hzl
      go_simp
      refine hK.out _ _ ?_
      clear hK K
      refine done_ (by kernel_rfl) ?_
      have hB6 := Lib.hid (((((hBz2.mono (show w.heap.size + 2 ≤ wr.heap.size by omega)).setCell (p := ⟨w.heap.size + 1 + 1, 8, none⟩) (show w.heap.size + 2 ≤ w.heap.size + 1 + 1 by omega) (.string ⟨#[]⟩)).setCell (p := ⟨w.heap.size + 1 + 1, 9, none⟩) (show w.heap.size + 2 ≤ w.heap.size + 1 + 1 by omega) (.string TS)).setCell (p := ⟨w.heap.size + 1 + 1, 10, none⟩) (show w.heap.size + 2 ≤ w.heap.size + 1 + 1 by omega) (.string TH)).setCell (p := ⟨w.heap.size + 1 + 1, 11, none⟩) (show w.heap.size + 2 ≤ w.heap.size + 1 + 1 by omega) (.int .i64 3))
      have hsz6 := hBz2.size
      clear ca0 ca1 ca2 ca3 ff0 ff1 ff2 ff3 hBz hBz2 hWW hLow
      generalize World.setCell _ _ _ = w6 at HK6 hB6 ⊢
      go_wp2
      go_roundg (gk - 1)
      case measure => omega
      case rel =>
        refine ⟨3, fun j => if j = 2 then (be, ni) else f j, by go_num, by omega, ?_, HBW.out.trans (hB6.out.mono (by omega)), ?_, ?_, ?_, ?_⟩
        · intro j
          show (if j = 2 then (be, ni) else f j).1 < 2 ∧ (if j = 2 then (be, ni) else f j).2 < 7
          by_cases hj : j = 2
          · rw [if_pos hj]
            exact ⟨by show be < 2; omega, by show ni < 7; omega⟩
          · rw [if_neg hj]
            exact HF.out j
        · have h1 := hB6.out.size
          exact Nat.le_trans hsz h1
        · exact (hB6.out.block _ (by omega)).trans HK0.out
        · exact (hB6.out.block _ (by omega)).trans HK1.out
        · have hk6 := HK6.out
          rw [← hTS.out, ← hTH.out] at hk6
          exact hk6
    · go_upto_region 7 with (fail)
      obtain ⟨s0, hs0'⟩ : ∃ s0, threeSchemes.getD (f 0).1 ⟨#[]⟩ = s0 := ⟨_, rfl⟩
      obtain ⟨s1, hs1'⟩ : ∃ s1, threeSchemes.getD (f 1).1 ⟨#[]⟩ = s1 := ⟨_, rfl⟩
      obtain ⟨s2, hs2'⟩ : ∃ s2, threeSchemes.getD (f 2).1 ⟨#[]⟩ = s2 := ⟨_, rfl⟩
      obtain ⟨h0, hh0'⟩ : ∃ h0, threeHosts.getD (f 0).2 ⟨#[]⟩ = h0 := ⟨_, rfl⟩
      obtain ⟨h1, hh1'⟩ : ∃ h1, threeHosts.getD (f 1).2 ⟨#[]⟩ = h1 := ⟨_, rfl⟩
      obtain ⟨h2, hh2'⟩ : ∃ h2, threeHosts.getD (f 2).2 ⟨#[]⟩ = h2 := ⟨_, rfl⟩
      have hk2 : wr.heap[w.heap.size + 1 + 1]? = some (.cells #[.string ⟨#[]⟩, .string s0, .string h0, .int .i64 1, .string ⟨#[]⟩, .string s1, .string h1, .int .i64 2, .string ⟨#[]⟩, .string s2, .string h2, .int .i64 3] 33 (0, 0)) := by
        rw [← hs0', ← hs1', ← hs2', ← hh0', ← hh1', ← hh2']
        exact HK2.out
      obtain ⟨hz0, hn0⟩ := host_three (HF.out 0).2 hh0'
      obtain ⟨hz1, hn1⟩ := host_three (HF.out 1).2 hh1'
      obtain ⟨hz2, hn2⟩ := host_three (HF.out 2).2 hh2'
      clear hs0' hs1' hs2' hh0' hh1' hh2' HK0 HK1 HK2 HF
      have hS01 := fun w' => BB.domain_SameSite.calls ⟨#[]⟩ s0 h0 1 ⟨#[]⟩ s1 h1 2 _ w' (SameSite_f _ _ _ _ _ _ _ _ hz0 hz1)
      have hS12 := fun w' => BB.domain_SameSite.calls ⟨#[]⟩ s1 h1 2 ⟨#[]⟩ s2 h2 3 _ w' (SameSite_f _ _ _ _ _ _ _ _ hz1 hz2)
      have hS02 := fun w' => BB.domain_SameSite.calls ⟨#[]⟩ s0 h0 1 ⟨#[]⟩ s2 h2 3 _ w' (SameSite_f _ _ _ _ _ _ _ _ hz0 hz2)
      have hS10 := fun w' => BB.domain_SameSite.calls ⟨#[]⟩ s1 h1 2 ⟨#[]⟩ s0 h0 1 _ w' (SameSite_f _ _ _ _ _ _ _ _ hz1 hz0)
      have hS00 := fun w' => BB.domain_SameSite.calls ⟨#[]⟩ s0 h0 1 ⟨#[]⟩ s0 h0 1 _ w' (SameSite_f _ _ _ _ _ _ _ _ hz0 hz0)
      have hU := fun w' => BB.domain_Under.calls h0 h1 _ w' (Under_f _ _ (by omega) (by omega))
      have hL := fun w' => BB.domain_Labels.calls h1 _ w' (Labels_f h1 hz1)
      have hfacts := Lib.hid (three_facts s0.data.toList s1.data.toList s2.data.toList h0.data.toList h1.data.toList h2.data.toList hn0)
      have hlen := Lib.hid (labels_list h1)
      generalize hLA : (if hostL h1.data.toList then pieces 46 h1 else []) = LA at hL hlen
      generalize sameSiteL s0.data.toList h0.data.toList s1.data.toList h1.data.toList = a at hS01 hfacts
      generalize sameSiteL s1.data.toList h1.data.toList s2.data.toList h2.data.toList = b at hS12 hfacts
      generalize sameSiteL s0.data.toList h0.data.toList s2.data.toList h2.data.toList = c at hS02 hfacts
      generalize sameSiteL s1.data.toList h1.data.toList s0.data.toList h0.data.toList = a' at hS10 hfacts
      generalize sameSiteL s0.data.toList h0.data.toList s0.data.toList h0.data.toList = aa at hS00 hfacts
      generalize underL h0.data.toList h1.data.toList = un at hU hfacts
      clear hz0 hz1 hz2 hn0 hn1 hn2 hLA
      refine region_plan (tk := false) (m := 18) (by kernel_rfl) (by kernel_rfl) (fun W hW => ?_)
      have hWW : Below wr.heap.size wr W := by rw [hW]; exact below_drew1 (Below.refl _ _)
      have HK := fun (w' : World) (hb : Below W.heap.size W w') => three_cells (((hWW.trans (hb.mono hWW.size)).block _ (by omega)).trans hk2)
      clear hW hk2
      refine plan_fix (N := some 36) (v := ?_) (a' := ?_) rfl rfl (fun u w' hBr hvr => step_val (by rfl) ?_ ⟨rfl, Below.refl _ _⟩) ?_ ?_
      rotate_left 2
      · go_simp
        with_reducible rfl
      · intro u
        simp only [Act.put, List.setIfInBounds_toArray, List.set_cons_zero, List.set_cons_succ]
        rfl
      refine plan_fix (N := some 37) (v := ?_) (a' := ?_) rfl rfl (fun u w' hBr hvr => step_val (by rfl) ?_ ⟨rfl, Below.refl _ _⟩) ?_ ?_
      rotate_left 2
      · have hK4 := HK w' hBr; obtain ⟨d0, d1, d2, d3, d4, d5, d6, d7, d8, d9, d10, d11⟩ := hK4
        go_simp
        with_reducible rfl
      · intro u
        simp only [Act.put, List.setIfInBounds_toArray, List.set_cons_zero, List.set_cons_succ]
        rfl
      refine plan_fix (N := some 38) (v := ?_) (a' := ?_) rfl rfl (fun u w' hBr hvr => step_val (by rfl) ?_ ⟨rfl, Below.refl _ _⟩) ?_ ?_
      rotate_left 2
      · go_simp
        with_reducible rfl
      · intro u
        simp only [Act.put, List.setIfInBounds_toArray, List.set_cons_zero, List.set_cons_succ]
        rfl
      refine plan_fix (N := some 39) (v := ?_) (a' := ?_) rfl rfl (fun u w' hBr hvr => step_val (by rfl) ?_ ⟨rfl, Below.refl _ _⟩) ?_ ?_
      rotate_left 2
      · have hK4 := HK w' hBr; obtain ⟨d0, d1, d2, d3, d4, d5, d6, d7, d8, d9, d10, d11⟩ := hK4
        go_simp
        with_reducible rfl
      · intro u
        simp only [Act.put, List.setIfInBounds_toArray, List.set_cons_zero, List.set_cons_succ]
        rfl
      refine plan_fix (N := some 40) (v := ?_) (a' := ?_) rfl rfl (fun u w' hBr hvr => step_call Tryd.func16 (by kernel_rfl) rfl #[.agg #[.string ⟨#[]⟩, .string s0, .string h0, .int .i64 1], .agg #[.string ⟨#[]⟩, .string s1, .string h1, .int .i64 2]] (by rfl) rfl (by (try simp only [List.map_toArray, List.map_cons, List.map_nil]); first | done | rfl) ?_) ?_ ?_
      rotate_left 2
      · refine (hS01 w').mono ?_
        rintro e w'' ⟨rfl, hbn⟩
        refine ⟨_, rfl, ?_, hbn⟩
        with_reducible rfl
      · intro u
        simp only [Act.put, List.setIfInBounds_toArray, List.set_cons_zero, List.set_cons_succ]
        rfl
      refine plan_fix (N := some 41) (v := ?_) (a' := ?_) rfl rfl (fun u w' hBr hvr => step_val (by rfl) ?_ ⟨rfl, Below.refl _ _⟩) ?_ ?_
      rotate_left 2
      · go_simp
        with_reducible rfl
      · intro u
        simp only [Act.put, List.setIfInBounds_toArray, List.set_cons_zero, List.set_cons_succ]
        rfl
      refine plan_fix (N := some 42) (v := ?_) (a' := ?_) rfl rfl (fun u w' hBr hvr => step_val (by rfl) ?_ ⟨rfl, Below.refl _ _⟩) ?_ ?_
      rotate_left 2
      · have hK4 := HK w' hBr; obtain ⟨d0, d1, d2, d3, d4, d5, d6, d7, d8, d9, d10, d11⟩ := hK4
        go_simp
        with_reducible rfl
      · intro u
        simp only [Act.put, List.setIfInBounds_toArray, List.set_cons_zero, List.set_cons_succ]
        rfl
      refine plan_fix (N := some 43) (v := ?_) (a' := ?_) rfl rfl (fun u w' hBr hvr => step_val (by rfl) ?_ ⟨rfl, Below.refl _ _⟩) ?_ ?_
      rotate_left 2
      · go_simp
        with_reducible rfl
      · intro u
        simp only [Act.put, List.setIfInBounds_toArray, List.set_cons_zero, List.set_cons_succ]
        rfl
      refine plan_fix (N := some 44) (v := ?_) (a' := ?_) rfl rfl (fun u w' hBr hvr => step_val (by rfl) ?_ ⟨rfl, Below.refl _ _⟩) ?_ ?_
      rotate_left 2
      · have hK4 := HK w' hBr; obtain ⟨d0, d1, d2, d3, d4, d5, d6, d7, d8, d9, d10, d11⟩ := hK4
        go_simp
        with_reducible rfl
      · intro u
        simp only [Act.put, List.setIfInBounds_toArray, List.set_cons_zero, List.set_cons_succ]
        rfl
      refine plan_fix (N := some 45) (v := ?_) (a' := ?_) rfl rfl (fun u w' hBr hvr => step_call Tryd.func16 (by kernel_rfl) rfl #[.agg #[.string ⟨#[]⟩, .string s1, .string h1, .int .i64 2], .agg #[.string ⟨#[]⟩, .string s2, .string h2, .int .i64 3]] (by rfl) rfl (by (try simp only [List.map_toArray, List.map_cons, List.map_nil]); first | done | rfl) ?_) ?_ ?_
      rotate_left 2
      · refine (hS12 w').mono ?_
        rintro e w'' ⟨rfl, hbn⟩
        refine ⟨_, rfl, ?_, hbn⟩
        with_reducible rfl
      · intro u
        simp only [Act.put, List.setIfInBounds_toArray, List.set_cons_zero, List.set_cons_succ]
        rfl
      refine plan_fix (N := some 46) (v := ?_) (a' := ?_) rfl rfl (fun u w' hBr hvr => step_val (by rfl) ?_ ⟨rfl, Below.refl _ _⟩) ?_ ?_
      rotate_left 2
      · go_simp
        with_reducible rfl
      · intro u
        simp only [Act.put, List.setIfInBounds_toArray, List.set_cons_zero, List.set_cons_succ]
        rfl
      refine plan_fix (N := some 47) (v := ?_) (a' := ?_) rfl rfl (fun u w' hBr hvr => step_val (by rfl) ?_ ⟨rfl, Below.refl _ _⟩) ?_ ?_
      rotate_left 2
      · have hK4 := HK w' hBr; obtain ⟨d0, d1, d2, d3, d4, d5, d6, d7, d8, d9, d10, d11⟩ := hK4
        go_simp
        with_reducible rfl
      · intro u
        simp only [Act.put, List.setIfInBounds_toArray, List.set_cons_zero, List.set_cons_succ]
        rfl
      refine plan_fix (N := some 48) (v := ?_) (a' := ?_) rfl rfl (fun u w' hBr hvr => step_val (by rfl) ?_ ⟨rfl, Below.refl _ _⟩) ?_ ?_
      rotate_left 2
      · go_simp
        with_reducible rfl
      · intro u
        simp only [Act.put, List.setIfInBounds_toArray, List.set_cons_zero, List.set_cons_succ]
        rfl
      refine plan_fix (N := some 49) (v := ?_) (a' := ?_) rfl rfl (fun u w' hBr hvr => step_val (by rfl) ?_ ⟨rfl, Below.refl _ _⟩) ?_ ?_
      rotate_left 2
      · have hK4 := HK w' hBr; obtain ⟨d0, d1, d2, d3, d4, d5, d6, d7, d8, d9, d10, d11⟩ := hK4
        go_simp
        with_reducible rfl
      · intro u
        simp only [Act.put, List.setIfInBounds_toArray, List.set_cons_zero, List.set_cons_succ]
        rfl
      refine plan_fix (N := some 50) (v := ?_) (a' := ?_) rfl rfl (fun u w' hBr hvr => step_call Tryd.func16 (by kernel_rfl) rfl #[.agg #[.string ⟨#[]⟩, .string s0, .string h0, .int .i64 1], .agg #[.string ⟨#[]⟩, .string s2, .string h2, .int .i64 3]] (by rfl) rfl (by (try simp only [List.map_toArray, List.map_cons, List.map_nil]); first | done | rfl) ?_) ?_ ?_
      rotate_left 2
      · refine (hS02 w').mono ?_
        rintro e w'' ⟨rfl, hbn⟩
        refine ⟨_, rfl, ?_, hbn⟩
        with_reducible rfl
      · intro u
        simp only [Act.put, List.setIfInBounds_toArray, List.set_cons_zero, List.set_cons_succ]
        rfl
      refine plan_fix (N := some 8) (v := ?_) (a' := ?_) rfl rfl (fun u w' hBr hvr => step_val (by rfl) ?_ ⟨rfl, Below.refl _ _⟩) ?_ ?_
      rotate_left 2
      · go_simp
        with_reducible rfl
      · intro u
        simp only [Act.put, List.setIfInBounds_toArray, List.set_cons_zero, List.set_cons_succ]
        rfl
      refine plan_fix (N := some 9) (v := ?_) (a' := ?_) rfl rfl (fun u w' hBr hvr => step_val (by rfl) ?_ ⟨rfl, Below.refl _ _⟩) ?_ ?_
      rotate_left 2
      · go_simp
        with_reducible rfl
      · intro u
        simp only [Act.put, List.setIfInBounds_toArray, List.set_cons_zero, List.set_cons_succ]
        rfl
      refine plan_fix (N := some 10) (v := ?_) (a' := ?_) rfl rfl (fun u w' hBr hvr => step_val (by rfl) ?_ ⟨rfl, Below.refl _ _⟩) ?_ ?_
      rotate_left 2
      · go_simp
        with_reducible rfl
      · intro u
        simp only [Act.put, List.setIfInBounds_toArray, List.set_cons_zero, List.set_cons_succ]
        rfl
      refine plan_end rfl rfl (fun u wz hBz _ => ?_)
      obtain ⟨hf1, hfa, hfb, hf4⟩ := hfacts.out
      subst hfa
      subst hfb
      have hE := Lib.hid (fun (w' : World) (hb : Below W.heap.size W w') => HBW.out.trans ((hWW.trans (hb.mono hWW.size)).mono HBW.out.size))
      have HF1 := Lib.hid hf1
      have HF4 := Lib.hid hf4
      have HKH := Lib.hid HK
      clear hfacts hf1 hf4 HK hWW
      obtain ⟨d0, d1, d2, d3, d4, d5, d6, d7, d8, d9, d10, d11⟩ := HKH.out wz hBz
      go_wp2_with fail
      refine (hU _).mono ?_
      rintro e w1 ⟨rfl, hb1⟩
      have hB1 := hBz.trans (hb1.mono hBz.size)
      clear d0 d1 d2 d3 d4 d5 d6 d7 d8 d9 d10 d11
      obtain ⟨d0, d1, d2, d3, d4, d5, d6, d7, d8, d9, d10, d11⟩ := HKH.out w1 hB1
      cases un with
      | false =>
        go_wp2_with fail
        all_goals first
          | exact absurd (HF1.out (by first | assumption | rfl) (by assumption)) (by first | assumption | exact ne_true_of_eq_false (by assumption))
          | (refine (hS10 _).mono ?_; rintro e w3 ⟨rfl, hb3⟩; have hB3 := hB1.trans (hb3.mono hB1.size); clear d0 d1 d2 d3 d4 d5 d6 d7 d8 d9 d10 d11; obtain ⟨d0, d1, d2, d3, d4, d5, d6, d7, d8, d9, d10, d11⟩ := HKH.out w3 hB3; go_wp2_with fail; refine (hS00 _).mono ?_; rintro e w4 ⟨rfl, hb4⟩; have hB4 := hB3.trans (hb4.mono hB3.size); clear d0 d1 d2 d3 d4 d5 d6 d7 d8 d9 d10 d11; go_wp2_with fail; refine (awake2_calls _).mono ?_; rintro e w5 ⟨rfl, hb5⟩; have hB5 := hB4.trans (hb5.mono hB4.size); go_wp2; go_ret; exact ⟨rfl, hE.out _ hB5⟩)
      | true =>
        go_wp2_with fail
        refine (hL _).mono ?_
        rintro e w2 ⟨v5, rfl, hR5, hb2⟩
        obtain ⟨A5, c5, rfl, hc5, hC5⟩ := Kd.R_reads hR5
        have hB2 := hB1.trans (hb2.mono hB1.size)
        have hlen2 : LA.length = (labelsL h1.data.toList).length := by rw [← hlen.out]; simp
        clear hR5 hC5 d0 d1 d2 d3 d4 d5 d6 d7 d8 d9 d10 d11
        obtain ⟨d0, d1, d2, d3, d4, d5, d6, d7, d8, d9, d10, d11⟩ := HKH.out w2 hB2
        by_cases hl : 2 ≤ LA.length
        · have HA := Lib.hid (show s0.data.toList = s1.data.toList → a' = true from by first | exact HF4.out rfl (hlen2 ▸ hl) | exact HF4.out trivial (hlen2 ▸ hl))
          have hl2 : (2 : Int) ≤ (LA.length : Int) := by omega
          clear hlen2 hl
          by_cases he : s0 = s1
          · subst he
            have ha := HA.out rfl
            subst ha
            go_wp2_with fail
            all_goals first
              | exact absurd (HF1.out (by first | assumption | rfl) (by assumption)) (by first | assumption | exact ne_true_of_eq_false (by assumption))
              | (refine (hS10 _).mono ?_; rintro e w3 ⟨rfl, hb3⟩; have hB3 := hB2.trans (hb3.mono hB2.size); clear d0 d1 d2 d3 d4 d5 d6 d7 d8 d9 d10 d11; obtain ⟨d0, d1, d2, d3, d4, d5, d6, d7, d8, d9, d10, d11⟩ := HKH.out w3 hB3; go_wp2_with fail; refine (hS00 _).mono ?_; rintro e w4 ⟨rfl, hb4⟩; have hB4 := hB3.trans (hb4.mono hB3.size); clear d0 d1 d2 d3 d4 d5 d6 d7 d8 d9 d10 d11; go_wp2_with fail; refine (awake2_calls _).mono ?_; rintro e w5 ⟨rfl, hb5⟩; have hB5 := hB4.trans (hb5.mono hB4.size); go_wp2; go_ret; exact ⟨rfl, hE.out _ hB5⟩)
          · have he2 : ¬ s0.toList = s1.toList := fun e => he (bytes_eq3 e)
            go_wp2_with fail
            all_goals first
              | exact absurd (HF1.out (by first | assumption | rfl) (by assumption)) (by first | assumption | exact ne_true_of_eq_false (by assumption))
              | (refine (hS10 _).mono ?_; rintro e w3 ⟨rfl, hb3⟩; have hB3 := hB2.trans (hb3.mono hB2.size); clear d0 d1 d2 d3 d4 d5 d6 d7 d8 d9 d10 d11; obtain ⟨d0, d1, d2, d3, d4, d5, d6, d7, d8, d9, d10, d11⟩ := HKH.out w3 hB3; go_wp2_with fail; refine (hS00 _).mono ?_; rintro e w4 ⟨rfl, hb4⟩; have hB4 := hB3.trans (hb4.mono hB3.size); clear d0 d1 d2 d3 d4 d5 d6 d7 d8 d9 d10 d11; go_wp2_with fail; refine (awake2_calls _).mono ?_; rintro e w5 ⟨rfl, hb5⟩; have hB5 := hB4.trans (hb5.mono hB4.size); go_wp2; go_ret; exact ⟨rfl, hE.out _ hB5⟩)
        · have hl2 : ¬ (2 : Int) ≤ (LA.length : Int) := by omega
          clear hlen2 hl
          go_wp2_with fail
          all_goals first
            | exact absurd (HF1.out (by first | assumption | rfl) (by assumption)) (by first | assumption | exact ne_true_of_eq_false (by assumption))
            | (refine (hS10 _).mono ?_; rintro e w3 ⟨rfl, hb3⟩; have hB3 := hB2.trans (hb3.mono hB2.size); clear d0 d1 d2 d3 d4 d5 d6 d7 d8 d9 d10 d11; obtain ⟨d0, d1, d2, d3, d4, d5, d6, d7, d8, d9, d10, d11⟩ := HKH.out w3 hB3; go_wp2_with fail; refine (hS00 _).mono ?_; rintro e w4 ⟨rfl, hb4⟩; have hB4 := hB3.trans (hb4.mono hB3.size); clear d0 d1 d2 d3 d4 d5 d6 d7 d8 d9 d10 d11; go_wp2_with fail; refine (awake2_calls _).mono ?_; rintro e w5 ⟨rfl, hb5⟩; have hB5 := hB4.trans (hb5.mono hB4.size); go_wp2; go_ret; exact ⟨rfl, hE.out _ hB5⟩)
end Go.Proofs.YtmelefiodhnlpaaDoor
