/- The package formula: Deep, at, Holds: the walks. -/
import Derived.Test.YtmelefiodhnlpaaFoldW
set_option linter.unusedSimpArgs false
set_option linter.unusedVariables false
namespace Go.Proofs.Ytmelefiodhnlpaa
open Go Go.RowKit Go.Proofs.YtmelefiodhnlpaaW.PrintWords Go.Proofs.YtmelefiodhnlpaaW.PrintLast Go.Proofs.YtmelefiodhnlpaaW.PrintMore

theorem deep_good (f : List (Int × Int)) (st : List Int) (h : runL depthD f [] = some st) (hf : f.length ≤ 100000) : ∀ x ∈ st, 0 ≤ x ∧ x ≤ 1000000 := fun x hx => by
  have := runL_deep f [] st 0 (by omega) h (by simp) x hx
  omega

set_option maxHeartbeats 1000000 in
theorem Deep_calls (A : Option Addr) (c : Nat) (f : List (Int × Int)) (w : World) (hC : Kd.C partK w A f.length f) (hf : f.length ≤ 100000) :
    Calls Try.prog 5 #[.slice A f.length c] w fun e w' => e = .returned (.int .i64 (deepL f)) ∧ Below w.heap.size w w' := by
  have hF := FoldInt_calls 9 _ Try.func9 (by kernel_rfl) rfl #[] depthD (fun x => 0 ≤ x ∧ x ≤ 1000000) deep_good A c f w hC hf
    (fun p A' c' xs W _ h1 h2 h3 h4 => Deep1_calls p A' c' xs W h1 h2 (by rw [h3]; have := takesL_bd p.1; omega))
  clear hC
  go_enter Try.func5, Try.ntmps5
  go_wp2_with fail
  refine hF.mono ?_
  rintro e w1 ⟨rfl, hb1⟩
  go_wp2
  go_ret
  exact ⟨rfl, hb1⟩

def atI (l : List Int) (k : Int) : Int := if k < 0 ∨ (l.length : Int) ≤ k then 0 else l.getD k.toNat 0
def atB (l : List Bool) (k : Int) : Bool := if k < 0 ∨ (l.length : Int) ≤ k then false else l.getD k.toNat false

set_option maxHeartbeats 1000000 in
theorem atI_calls (A : Option Addr) (c : Nat) (l : List Int) (k : Int) (w : World) (hC : Kd.C (Kd.int .i64) w A l.length l) :
    Calls Try.prog 14 #[.slice A l.length c, .int .i64 k] w fun e w' => e = .returned (.int .i64 (atI l k)) ∧ w = w' := by
  by_cases h1 : k < 0
  · have HA : Hid (atI l k = 0) := Lib.hid (if_pos (.inl h1))
    clear hC
    go_enter Try.func14, Try.ntmps14
    go_wp2
    go_ret
    exact ⟨by rw [HA.out]; rfl, rfl⟩
  · by_cases h2 : (l.length : Int) ≤ k
    · have HA : Hid (atI l k = 0) := Lib.hid (if_pos (.inr h2))
      clear hC
      go_enter Try.func14, Try.ntmps14
      go_wp2
      go_ret
      exact ⟨by rw [HA.out]; rfl, rfl⟩
    · obtain ⟨ad, rfl, hx⟩ := (reads_of_C (d := (0 : Int)) hC).at_ k (by omega) (by omega)
      have HA : Hid (atI l k = rdOf 0 l k) := Lib.hid (if_neg (by omega))
      clear hC
      have h1' : 0 ≤ k := by omega
      have h2' : k < (l.length : Int) := by omega
      go_enter Try.func14, Try.ntmps14
      go_wp2
      go_ret
      exact ⟨by rw [HA.out]; rfl, rfl⟩

set_option maxHeartbeats 1000000 in
theorem atB_calls (A : Option Addr) (c : Nat) (l : List Bool) (k : Int) (w : World) (hC : Kd.C Kd.bool w A l.length l) :
    Calls Try.prog 15 #[.slice A l.length c, .int .i64 k] w fun e w' => e = .returned (.bool (atB l k)) ∧ w = w' := by
  by_cases h1 : k < 0
  · have HA : Hid (atB l k = false) := Lib.hid (if_pos (.inl h1))
    clear hC
    go_enter Try.func15, Try.ntmps15
    go_wp2
    go_ret
    exact ⟨by rw [HA.out]; rfl, rfl⟩
  · by_cases h2 : (l.length : Int) ≤ k
    · have HA : Hid (atB l k = false) := Lib.hid (if_pos (.inr h2))
      clear hC
      go_enter Try.func15, Try.ntmps15
      go_wp2
      go_ret
      exact ⟨by rw [HA.out]; rfl, rfl⟩
    · obtain ⟨ad, rfl, hx⟩ := (reads_of_C (d := false) hC).at_ k (by omega) (by omega)
      have HA : Hid (atB l k = rdOf false l k) := Lib.hid (if_neg (by omega))
      clear hC
      have h1' : 0 ≤ k := by omega
      have h2' : k < (l.length : Int) := by omega
      go_enter Try.func15, Try.ntmps15
      go_wp2
      go_ret
      exact ⟨by rw [HA.out]; rfl, rfl⟩

def askL (ch : List Int) (kn stl rn : List Bool) (p : Int × Int) : Bool :=
  if p.1 = 1 then decide (atI ch p.2 ≠ 0) else if p.1 = 2 then decide (atI ch p.2 = 2) else if p.1 = 3 then atB kn p.2 else if p.1 = 4 then atB stl p.2 else if p.1 = 5 then atB rn p.2 else false

/-- A state's box, and its lists. -/
structure StBox (b : Nat) (v0 v1 v2 v7 : Value) (A3 : Option Addr) (c3 : Nat) (ch : List Int) (A4 : Option Addr) (c4 : Nat) (kn : List Bool) (A5 : Option Addr) (c5 : Nat) (stl : List Bool) (A6 : Option Addr) (c6 : Nat) (rn : List Bool) (W : World) : Prop where
  box : W.heap[b]? = some (.cells #[v0, v1, v2, .slice A3 ch.length c3, .slice A4 kn.length c4, .slice A5 stl.length c5, .slice A6 rn.length c6, v7] 27 (0, 0))
  hch : Kd.C (Kd.int .i64) W A3 ch.length ch
  hkn : Kd.C Kd.bool W A4 kn.length kn
  hst : Kd.C Kd.bool W A5 stl.length stl
  hrn : Kd.C Kd.bool W A6 rn.length rn
section
variable {b : Nat} {v0 v1 v2 v7 : Value} {A3 : Option Addr} {c3 : Nat} {ch : List Int} {A4 : Option Addr} {c4 : Nat} {kn : List Bool} {A5 : Option Addr} {c5 : Nat} {stl : List Bool} {A6 : Option Addr} {c6 : Nat} {rn : List Bool} {W W' : World}
theorem StBox.below (h : StBox b v0 v1 v2 v7 A3 c3 ch A4 c4 kn A5 c5 stl A6 c6 rn W) (hb : Below W.heap.size W W') : StBox b v0 v1 v2 v7 A3 c3 ch A4 c4 kn A5 c5 stl A6 c6 rn W' :=
  ⟨(hb.block b (Array.getElem?_eq_some_iff.1 h.box).1).trans h.box, Kd.C_below h.hch hb, Kd.C_below h.hkn hb, Kd.C_below h.hst hb, Kd.C_below h.hrn hb⟩
end

set_option maxRecDepth 100000 in
set_option maxHeartbeats 2000000 in
theorem Holds1_calls {b : Nat} {v0 v1 v2 v7 : Value} {A3 : Option Addr} {c3 : Nat} {ch : List Int} {A4 : Option Addr} {c4 : Nat} {kn : List Bool} {A5 : Option Addr} {c5 : Nat} {stl : List Bool} {A6 : Option Addr} {c6 : Nat} {rn : List Bool} {W : World}
    (p : Int × Int) (A : Option Addr) (c : Nat) (xs : List Bool) (hS : StBox b v0 v1 v2 v7 A3 c3 ch A4 c4 kn A5 c5 stl A6 c6 rn W) (hC : Kd.C Kd.bool W A xs.length xs) (hl : xs.length = (takesL p.1).toNat) (h0 : 0 ≤ takesL p.1) :
    Calls Try.prog 13 (#[.agg #[.int .i64 p.1, .int .i64 p.2], .slice A xs.length c] ++ #[.pointer (some ⟨b, 0, none⟩)]) W fun e w' => e = .returned (.bool (holdsD (askL ch kn stl rn) p xs)) ∧ Below W.heap.size W w' := by
  obtain ⟨k, a⟩ := p
  simp only at *
  have hk : k = 1 ∨ k = 2 ∨ k = 3 ∨ k = 4 ∨ k = 5 ∨ k = 6 ∨ k = 7 ∨ k = 8 := by
    unfold takesL at h0
    apply Classical.byContradiction
    intro h
    rw [if_neg (by omega), if_neg (by omega), if_neg (by omega)] at h0
    omega
  have hx6 : k = 6 → ∃ x, xs = [x] := fun e => by
    subst e
    match xs, (show xs.length = 1 from hl) with
    | [x], _ => exact ⟨x, rfl⟩
  have hx78 : k = 7 ∨ k = 8 → ∃ x y, xs = [x, y] := fun e => by
    match xs, (show xs.length = 2 by rcases e with rfl | rfl <;> exact hl) with
    | [x, y], _ => exact ⟨x, y, rfl⟩
  have HX6 := Lib.hid hx6
  have HX78 := Lib.hid hx78
  clear hx6 hx78 hl h0
  have hblt : b < W.heap.size := (Array.getElem?_eq_some_iff.1 hS.box).1
  have HS := Lib.hid (hS.below ((Below.refl W.heap.size W).alloc (Nat.le_refl _) (.cells #[.int .i64 k, .int .i64 a] 32)))
  have HC := Lib.hid (Kd.C_below hC ((Below.refl W.heap.size W).alloc (Nat.le_refl _) (.cells #[.int .i64 k, .int .i64 a] 32)))
  have HB : Hid (Below W.heap.size W (W.alloc (.cells #[.int .i64 k, .int .i64 a] 32))) := Lib.hid ((Below.refl W.heap.size W).alloc (Nat.le_refl _) _)
  have HN := Lib.hid (heap_alloc_new W (.cells #[.int .i64 k, .int .i64 a] 32))
  have hsz : (W.alloc (.cells #[.int .i64 k, .int .i64 a] 32)).heap.size = W.heap.size + 1 := by simp
  clear hS hC
  go_enter Try.func13, Try.ntmps13
  go_upto_region 1 with (fail)
  generalize W.alloc (.cells #[.int .i64 k, .int .i64 a] 32) = W0 at *
  have e0 : W0.cell? ⟨W.heap.size, 0, none⟩ = some (.int .i64 k) := by simp [World.cell?, HN.out]
  have e1 : W0.cell? ⟨W.heap.size, 1, none⟩ = some (.int .i64 a) := by simp [World.cell?, HN.out]
  have s3 : W0.cell? ⟨b, 3, none⟩ = some (.slice A3 ch.length c3) := by simp [World.cell?, HS.out.box]
  have s4 : W0.cell? ⟨b, 4, none⟩ = some (.slice A4 kn.length c4) := by simp [World.cell?, HS.out.box]
  have s5 : W0.cell? ⟨b, 5, none⟩ = some (.slice A5 stl.length c5) := by simp [World.cell?, HS.out.box]
  have s6 : W0.cell? ⟨b, 6, none⟩ = some (.slice A6 rn.length c6) := by simp [World.cell?, HS.out.box]
  rcases hk with rfl | rfl | rfl | rfl | rfl | rfl | rfl | rfl
  · have HR : Hid (holdsD (askL ch kn stl rn) (1, a) xs = (atI ch a != 0)) := Lib.hid (by unfold holdsD askL; simp [bne]; rw [Bool.eq_iff_iff]; simp)
    go_wp2_with (go_at_call 14; refine (atI_calls _ _ _ _ _ HS.out.hch).mono ?_; rintro e w1 ⟨rfl, rfl⟩)
    go_ret
    exact ⟨by rw [HR.out]; rfl, HB.out⟩
  · have HR : Hid (holdsD (askL ch kn stl rn) (2, a) xs = (atI ch a == 2)) := Lib.hid (by unfold holdsD askL; rw [Bool.eq_iff_iff]; simp)
    go_wp2_with (go_at_call 14; refine (atI_calls _ _ _ _ _ HS.out.hch).mono ?_; rintro e w1 ⟨rfl, rfl⟩)
    go_ret
    exact ⟨by rw [HR.out]; rfl, HB.out⟩
  · have HR : Hid (holdsD (askL ch kn stl rn) (3, a) xs = atB kn a) := Lib.hid (by unfold holdsD askL; simp)
    go_wp2_with (go_at_call 15; refine (atB_calls _ _ _ _ _ HS.out.hkn).mono ?_; rintro e w1 ⟨rfl, rfl⟩)
    go_ret
    exact ⟨by rw [HR.out]; rfl, HB.out⟩
  · have HR : Hid (holdsD (askL ch kn stl rn) (4, a) xs = atB stl a) := Lib.hid (by unfold holdsD askL; simp)
    go_wp2_with (go_at_call 15; refine (atB_calls _ _ _ _ _ HS.out.hst).mono ?_; rintro e w1 ⟨rfl, rfl⟩)
    go_ret
    exact ⟨by rw [HR.out]; rfl, HB.out⟩
  · have HR : Hid (holdsD (askL ch kn stl rn) (5, a) xs = atB rn a) := Lib.hid (by unfold holdsD askL; simp)
    go_wp2_with (go_at_call 15; refine (atB_calls _ _ _ _ _ HS.out.hrn).mono ?_; rintro e w1 ⟨rfl, rfl⟩)
    go_ret
    exact ⟨by rw [HR.out]; rfl, HB.out⟩
  · obtain ⟨x, rfl⟩ := HX6.out rfl
    · have HR : Hid (holdsD (askL ch kn stl rn) (6, a) [x] = !x) := Lib.hid (by unfold holdsD; simp)
      obtain ⟨ad, rfl, hx0⟩ := (reads_of_C (d := false) HC.out).at_ 0 (by omega) (by simp)
      have hx : W0.cell? ad = some (.bool x) := by
        have e0 : ad.add 0 = ad := by simp [Addr.add]
        rw [← e0]; simpa [rdOf] using hx0
      clear hx0
      go_wp2
      go_ret
      exact ⟨by rw [HR.out]; rfl, HB.out⟩
  · obtain ⟨x, y, rfl⟩ := HX78.out (by simp)
    · have HR : Hid (holdsD (askL ch kn stl rn) (7, a) [x, y] = (x && y)) := Lib.hid (by unfold holdsD; simp)
      obtain ⟨ad, rfl, hx0⟩ := (reads_of_C (d := false) HC.out).at_ 0 (by omega) (by simp)
      obtain ⟨ad', hae, hy0⟩ := (reads_of_C (d := false) HC.out).at_ 1 (by omega) (by simp)
      cases hae
      have hx : W0.cell? ad = some (.bool x) := by
        have e0 : ad.add 0 = ad := by simp [Addr.add]
        rw [← e0]; simpa [rdOf] using hx0
      have hy : W0.cell? ⟨ad.block, ad.off + 1, none⟩ = some (.bool y) := by
        have e1 : ad.add 1 = ⟨ad.block, ad.off + 1, none⟩ := by simp [Addr.add]
        rw [← e1]; simpa [rdOf] using hy0
      clear hx0 hy0
      cases x with
      | true =>
        go_wp2
        go_ret
        exact ⟨by rw [HR.out]; rfl, HB.out⟩
      | false =>
        go_wp2
        go_ret
        exact ⟨by rw [HR.out]; rfl, HB.out⟩
  · obtain ⟨x, y, rfl⟩ := HX78.out (by simp)
    · have HR : Hid (holdsD (askL ch kn stl rn) (8, a) [x, y] = (x || y)) := Lib.hid (by unfold holdsD; simp)
      obtain ⟨ad, rfl, hx0⟩ := (reads_of_C (d := false) HC.out).at_ 0 (by omega) (by simp)
      obtain ⟨ad', hae, hy0⟩ := (reads_of_C (d := false) HC.out).at_ 1 (by omega) (by simp)
      cases hae
      have hx : W0.cell? ad = some (.bool x) := by
        have e0 : ad.add 0 = ad := by simp [Addr.add]
        rw [← e0]; simpa [rdOf] using hx0
      have hy : W0.cell? ⟨ad.block, ad.off + 1, none⟩ = some (.bool y) := by
        have e1 : ad.add 1 = ⟨ad.block, ad.off + 1, none⟩ := by simp [Addr.add]
        rw [← e1]; simpa [rdOf] using hy0
      clear hx0 hy0
      cases x with
      | true =>
        go_wp2
        go_ret
        exact ⟨by rw [HR.out]; rfl, HB.out⟩
      | false =>
        go_wp2
        go_ret
        exact ⟨by rw [HR.out]; rfl, HB.out⟩

set_option maxRecDepth 100000 in
set_option maxHeartbeats 1000000 in
theorem Holds_calls {v0 v1 v2 v7 : Value} {A3 : Option Addr} {c3 : Nat} {ch : List Int} {A4 : Option Addr} {c4 : Nat} {kn : List Bool} {A5 : Option Addr} {c5 : Nat} {stl : List Bool} {A6 : Option Addr} {c6 : Nat} {rn : List Bool}
    (A : Option Addr) (c : Nat) (f : List (Int × Int)) (w : World) (hC : Kd.C partK w A f.length f) (hf : f.length ≤ 100000) (h1 : v0.oneCell' = true) (h2 : v1.oneCell' = true) (h3 : v2.oneCell' = true) (h7 : v7.oneCell' = true)
    (hch : Kd.C (Kd.int .i64) w A3 ch.length ch) (hkn : Kd.C Kd.bool w A4 kn.length kn) (hst : Kd.C Kd.bool w A5 stl.length stl) (hrn : Kd.C Kd.bool w A6 rn.length rn) :
    Calls Try.prog 7 #[.slice A f.length c, .agg #[v0, v1, v2, .slice A3 ch.length c3, .slice A4 kn.length c4, .slice A5 stl.length c5, .slice A6 rn.length c6, v7]] w fun e w' =>
      e = .returned (.bool (holdsL (askL ch kn stl rn) f)) ∧ Below w.heap.size w w' := by
  have hb0 : Below w.heap.size w (w.alloc (.cells #[v0, v1, v2, .slice A3 ch.length c3, .slice A4 kn.length c4, .slice A5 stl.length c5, .slice A6 rn.length c6, v7] 27)) := (Below.refl _ w).alloc (Nat.le_refl _) _
  have hS : StBox w.heap.size v0 v1 v2 v7 A3 c3 ch A4 c4 kn A5 c5 stl A6 c6 rn (w.alloc (.cells #[v0, v1, v2, .slice A3 ch.length c3, .slice A4 kn.length c4, .slice A5 stl.length c5, .slice A6 rn.length c6, v7] 27)) :=
    ⟨heap_alloc_new w _, Kd.C_below hch hb0, Kd.C_below hkn hb0, Kd.C_below hst hb0, Kd.C_below hrn hb0⟩
  have hF := FoldBool_calls 13 _ Try.func13 (by kernel_rfl) rfl #[.pointer (some ⟨w.heap.size, 0, none⟩)] (holdsD (askL ch kn stl rn)) (fun _ => True) (fun _ _ _ _ _ _ => trivial) A c f _ (Kd.C_below hC hb0) hf
    (fun p A' c' xs W hb h1 _ h3 h4 => Holds1_calls p A' c' xs (hS.below hb) h1 h3 h4)
  have HB0 := Lib.hid hb0
  clear hS hb0 hC hch hkn hst hrn
  go_enter Try.func7, Try.ntmps7
  go_wp2_with fail
  refine hF.mono ?_
  rintro e w1 ⟨rfl, hb1⟩
  go_wp2
  go_ret
  exact ⟨rfl, HB0.out.trans (hb1.mono (by simp))⟩
end Go.Proofs.Ytmelefiodhnlpaa
