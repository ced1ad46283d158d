/- CspHosts: part 4 of its proof: CkNat, Pieces, Round, ShelfA, DirC, CspNat, ShelfB, PortC, Tabs, CspW, CspF, CspFl, ChDef. -/
import Derived.Test.YtoemgehbpamklaaDoorMCspHosts3
import Derived.Test.YtoemgehbpamklaaDoorProg
import Derived.KernelRfl
import Derived.RangeFuncCalls
import Derived.WalkKit
import Derived.OrdersIn
import Derived.Shelf.LaysM
import Derived.Shelf.Strings.FieldsFuncAny
import Derived.Shelf.Strings.FieldsFuncGrows
import Derived.RangeFuncBox
import Derived.Maps.AppendAt
import Derived.Shelf.Strconv.Atoi
import Derived.Shelf.Strconv.Itoa0
import Derived.Shelf.Strconv.Itoa1
import Derived.Shelf.Strconv.Itoa2
import Derived.Shelf.Strconv.Itoa3
import Derived.Shelf.Strconv.AtoiErrFast
import Derived.Shelf.Strconv.ParseIntEmpty
import Derived.Shelf.Strconv.AtoiFail
import Derived.Shelf.Strconv.Clone
import Derived.Shelf.Strconv.SyntaxError
import Derived.Shelf.LaysC
import Derived.Shelf.Strconv.ToError
import Derived.Shelf.Strconv.AtoiErr
import Derived.Shelf.Strconv.ErrVar
import Derived.Shelf.Strconv.Lower
import Derived.Shelf.Strconv.ParseUint10
import Derived.Shelf.Strconv.ParseUint10Empty
import Derived.Shelf.Strconv.ParseUint10Any
import Derived.Shelf.Strconv.ParseInt10
import Derived.Shelf.Strconv.AtoiLong
import Derived.Shelf.Strconv.AtoiInnerAll
import Derived.Shelf.Strconv.RangeError
import Derived.Shelf.Strconv.ToErrorRange
import Derived.Shelf.Strconv.AtoiAll
import Derived.Shelf.Strconv.ErrVarAll
import Derived.Shelf.Strings.Search1
import Derived.Shelf.Strings.Search2
import Derived.Shelf.Strings.Search3
import Derived.Shelf.Strings.Cut
import Derived.Shelf.Strings.Shaped
import Derived.Shelf.Strings.Prefix
import Derived.Shelf.Unicode.Decode
import Derived.Shelf.Unicode.DecodeSlow
import Derived.Shelf.Unicode.DecodeAny
import Derived.Lib.AppendIntMem
import Derived.WideKeyElems2
import Derived.Test.YtoemgehbpamklaaDoorMCspHosts0
import Derived.Test.YtoemgehbpamklaaDoorMCspHosts1
import Derived.Test.YtoemgehbpamklaaDoorMCspHosts2
section
/- Chapter 7, by the quick engine: what is given of functions; what is known of the world. -/
set_option autoImplicit false
set_option linter.unusedSimpArgs false
set_option linter.unusedVariables false
namespace Go.Proofs.YtoemgehbpamklaaDoor
open Go Go.RowKit Go.Proofs.YtoemgehbpamklaaDoor.Abs

theorem br_run {α : Type} {b : Bool} {x : NTree α} {r : α} (h : (NTree.br b x .none).run = some r) : b = true ∧ x.run = some r := by
  cases b with
  | true => exact ⟨rfl, h⟩
  | false => cases h
/-! ### Texts -/
noncomputable def sLower : List Value → NTree Value
  | [.string s] => .br (Nat.ble s.size 140737488355328) (.ret (.string ⟨⟨lowL s.data.toList⟩⟩)) .none
  | _ => .none
theorem sLower_ok {base : Nat} {w0 : Abs.Start} : NatOk Tryd.prog base w0 8 (natFlat sLower) := by
  refine natFlat_ok fun args v hv => ?_
  unfold sLower at hv
  split at hv
  · rename_i s
    obtain ⟨h1, hv⟩ := br_run hv
    cases hv
    exact ⟨rfl, rfl, fun w _ => Lower_calls s (Nat.le_of_ble_eq_true h1) w⟩
  · cases hv
noncomputable def sHost2 : List Value → NTree Value
  | [.string s] => .br (Nat.ble s.size 140737488355328) (.ret (.bool (hostL s.data.toList))) .none
  | _ => .none
theorem sHost2_ok {base : Nat} {w0 : Abs.Start} : NatOk Tryd.prog base w0 22 (natFlat sHost2) := by
  refine natFlat_ok fun args v hv => ?_
  unfold sHost2 at hv
  split at hv
  · rename_i s
    obtain ⟨h1, hv⟩ := br_run hv
    cases hv
    exact ⟨rfl, rfl, fun w _ => Host_calls s (Nat.le_of_ble_eq_true h1) w⟩
  · cases hv
/-! ### A number that is told by its name -/
noncomputable def sLow (T : List (Nat × Nat × Nat)) : List Value → Option Value
  | [.complex .f32 id 0, .int .i64 (.ofNat n)] => go id n T
  | _ => none
where go (id n : Nat) : List (Nat × Nat × Nat) → Option Value
  | [] => none
  | (i, m, v) :: r => bif Nat.beq i id && Nat.beq m n then some (.int .i64 (.ofNat v)) else go id n r
noncomputable def natLow (T : List (Nat × Nat × Nat)) : Native := fun args h => match sLow T args with
  | some v => .ret (.ret v, h)
  | none => .none
theorem sLow_go {T : List (Nat × Nat × Nat)} {id n : Nat} {v : Value} : sLow.go id n T = some v → ∃ k, (id, n, k) ∈ T ∧ v = .int .i64 (.ofNat k) := by
  induction T with
  | nil => intro h; cases h
  | cons x r ih =>
    obtain ⟨i, m, k⟩ := x
    intro h
    unfold sLow.go at h
    cases hb : Nat.beq i id && Nat.beq m n with
    | true =>
      rw [hb] at h
      cases h
      rw [Bool.and_eq_true, Nat.beq_eq, Nat.beq_eq] at hb
      obtain ⟨rfl, rfl⟩ := hb
      exact ⟨k, List.mem_cons_self, rfl⟩
    | false =>
      rw [hb] at h
      obtain ⟨k, h1, h2⟩ := ih h
      exact ⟨k, List.mem_cons_of_mem _ h1, h2⟩
theorem natLow_ok {base : Nat} {w0 : Abs.Start} {T : List (Nat × Nat × Nat)} (hT : ∀ id n k, (id, n, k) ∈ T → ∃ z, w0.ι id = some (tokLoc z) ∧ 0 < n ∧ n ≤ 9223372036854775807 ∧ lowN z n = k) : NatOk Tryd.prog base w0 4 (natLow T) := by
  intro args h r h' hg
  unfold natLow at hg
  split at hg
  rotate_left
  · cases hg
  rename_i v hv
  cases hg
  refine ⟨Nat.le_refl _, fun ι w args' hI hr hgl hf => ?_⟩
  unfold sLow at hv
  split at hv
  rotate_left
  · cases hv
  rename_i id n
  obtain ⟨k, hmem, rfl⟩ := sLow_go hv
  obtain ⟨z, hz, hn0, hn1, hk⟩ := hT id n k hmem
  match args', hr with
  | [x', y'], ⟨hx, hy, _⟩ =>
  cases hx with
  | tok _ i hi =>
  cases hy with
  | int _ _ =>
  rw [hI.init id _ hz] at hi
  cases hi
  rw [tokLoc_z]
  have hc := BF.moatlaw0_Low.calls z (Int.ofNat n) (lowN z n : Int) w (Low_f z n (by omega) (by omega))
  refine hc.mono fun e w' hq => ?_
  obtain ⟨rfl, n', rfl⟩ := hq
  have hb : Below w.heap.size w (w.drewN n') := Below.trans (Below.refl _ _) ⟨rfl, rfl, rfl, Nat.le_refl _, fun _ _ => rfl⟩
  exact ⟨ι, Turn.refl _ _ _, hI.still hb, _, rfl, by rw [hk]; exact .int .i64 (k : Int)⟩
end Go.Proofs.YtoemgehbpamklaaDoor
end
section
/- A piece between separators is no longer than the whole. -/
namespace Go.Proofs.YtoemgehbpamklaaDoor
open Go
theorem piece_size (c : UInt8) : ∀ (k : Nat) (s x : ByteArray), x ∈ cutB c k s → x.size ≤ s.size
  | 0, s, x, h => by simp [cutB] at h; rw [h]; exact Nat.le_refl _
  | k + 1, s, x, h => by
    unfold cutB at h
    split at h
    · simp at h; rw [h]; exact Nat.le_refl _
    · rcases List.mem_cons.1 h with rfl | h
      · simp; omega
      · have := piece_size c k _ x h
        simp at this
        omega
end Go.Proofs.YtoemgehbpamklaaDoor
end
section
/- A region that draws its order, inside a round of a range over an iterator: what is proved of it outside of rounds holds there too, if it defers nothing. -/
set_option linter.unusedSimpArgs false
set_option linter.unusedVariables false
namespace Go.Proofs.YtoemgehbpamklaaDoor
open Go

theorem rows_in {P : Program} {row : String} {args : Array Value} {w : World} {R : Value → World → Prop} {l n : Nat} (h : Rows P row args w R) : RowsIn (Fence.wide.inRound l) n P row args w R :=
  fun c cs _ => let ⟨v, w', r, s⟩ := h c cs; ⟨v, w', r, stepsIn_wide.2 s⟩

theorem oper_in {P : Program} {o : Oper} {a : Act} {w : World} {K K' : Act → World → Prop} {Q : Exit → Act → World → Prop} {l n : Nat} (hd : ∀ c, o.op ≠ .defer c)
    (hK : ∀ a w, K a w → K' a w) (h : o.wp P a w K Q) : o.wpIn (Fence.wide.inRound l) n P a w K' Q := by
  refine ⟨fun _ _ => trivial, ?_⟩
  rw [Oper.semAt_eq _ _ _ hd]
  unfold Oper.wp at h
  generalize (execOp a.eval o).run P w = R at h ⊢
  rcases R with ⟨nx, w'⟩ | ⟨hh, w'⟩
  · cases nx with
    | value v => exact hK _ _ h
    | skip => exact hK _ _ h
    | defer d => exact hK _ _ h
    | enter f args =>
      refine ⟨fun hdep => by simp [Fence.wide] at hdep, CallsIn.inRound l (callsIn_wide.2 (Calls.mono (show Calls P f args w' _ from h) ?_))⟩
      intro e w'' he
      cases e with
      | returned v => exact hK _ _ he
      | panicked c => exact he
      | outgrown => exact he
    | row row args =>
      refine ⟨fun hdep => by simp [Fence.wide] at hdep, rows_in (Rows.mono (show Rows P row args w' _ from h) fun v w'' he => hK _ _ he)⟩
    | _ => exact (h : False).elim
  · cases hh with
    | panic v => exact h
    | _ => exact (h : False).elim

theorem any_in {P : Program} {md : Region.Mode} {ops : Array Oper} {Q : Exit → Act → World → Prop} {l n : Nat} (hd : ∀ (i : Nat) (o : Oper) c, ops[i]? = some o → o.op ≠ .defer c) (hlo : ¬ LetsOut Q) :
    ∀ (fuel : Nat) (listed : Array Bool) (a : Act) (w : World), wpAny P md ops Q fuel listed a w → wpAnyIn (Fence.wide.inRound l) n P md ops Q fuel listed a w := by
  intro fuel
  induction fuel with
  | zero => exact fun listed a w h => h
  | succ fuel ih =>
    intro listed a w h
    refine ⟨h.1, fun i hi => ?_⟩
    have hw := h.2 i hi
    unfold wpOp at hw
    unfold wpOpIn
    cases ho : ops[i]? with
    | none => rw [ho] at hw; exact ih _ _ _ hw
    | some o =>
      rw [ho] at hw
      by_cases hwant : Region.wanted o (yielded ops a.tmps) = true
      · simp only [hwant, if_true] at hw ⊢
        exact oper_in (hd i o · ho) (ih _) (hw.resolve_right fun h => hlo h.2)
      · simp only [hwant, if_false, Bool.false_eq_true] at hw ⊢
        exact ⟨fun _ _ => trivial, ih _ _ _ hw⟩

/-- The start of a drawn region, as the print's words walk it, inside a round. -/
theorem start_in {P : Program} {ops : Array Oper} {Q : Exit → Act → World → Prop} {S : World → Prop} {ds : List Nat} {l n0 id n : Nat} {a : Act} {w : World} (lst : Array Bool) (hm : P.follows .mixedOrders = true)
    (hd : (ops.toList.all fun o => match o.op with | .defer _ => false | _ => true) = true) (hlo : ¬ LetsOut Q) (hn : ops.size = n) (hl : Array.replicate n false = lst) (hS : S w.drew)
    (h : S w.drew → Go.Proofs.YtoemgehbpamklaaDoorW.PrintLast.wpAnyLast P .any ops Q S ds n lst a w.drew) : (Code.region id ops true).wpIn (Fence.wide.inRound l) n0 P Q a w := by
  subst hn
  subst hl
  refine wpIn_region_any hm (any_in (fun i o c ho e => ?_) hlo _ _ _ _ (Go.Proofs.YtoemgehbpamklaaDoorW.PrintLast.wpAny_of_last _ _ _ _ (h hS)))
  have := List.all_eq_true.1 hd o (by simpa using Array.mem_of_getElem? ho)
  rw [e] at this
  cases this
end Go.Proofs.YtoemgehbpamklaaDoor
end
section
/-
  DERIVED: THE SHELF's CONTRACTS AT THIS DUMP, IN PLAIN WORDS (tools/lay-plain.mjs out of 'TrydShelf.lean', which tools/lay-shelf.mjs wrote): THE SAME DECLARATIONS UNDER THE SAME NAMES: 'import', 'namespace', 'open', 'def', 'theorem' AND NOTHING ELSE: no command of the shelf's: FOR A HAND-IN. Each laying: the table of numbers ('.._ren') and one theorem, a field a fact of the dump's own or the kernel's comparison; each contract: ONE APPLICATION.
-/
namespace Go.Proofs.YtoemgehbpamklaaDoor.SA
open Go.Proofs
open Go.Shelf
def Tryd.lays229_ren : Go.Shelf.Ren := ⟨fun | 229 => 34 | n => n, fun | 9 => 9 | 40 => 62 | 31 => 22 | 152 => 69 | 3 => 3 | 0 => 0 | 4 => 4 | 21 => 21 | 154 => 71 | n => n, fun | n => n⟩
theorem Tryd.lays229 : Go.Proofs.Lays.n229 Tryd.prog Tryd.lays229_ren := {
  mixed := by kernel_rfl
  f229 := Tryd.func34.trans (congrArg some (by kernel_rfl))
  t0 := Tryd.underlying0
  a0 := Tryd.isAgg0
  z0 := Tryd.sizeOf0
  v0 := Tryd.zeroValue0
  t3 := Tryd.underlying3
  a3 := Tryd.isAgg3
  z3 := Tryd.sizeOf3
  v3 := Tryd.zeroValue3
  t4 := Tryd.underlying4
  a4 := Tryd.isAgg4
  z4 := Tryd.sizeOf4
  v4 := Tryd.zeroValue4
  t9 := Tryd.underlying9
  a9 := Tryd.isAgg9
  z9 := Tryd.sizeOf9
  v9 := Tryd.zeroValue9
  t21 := Tryd.underlying21
  a21 := Tryd.isAgg21
  z21 := Tryd.sizeOf21
  v21 := Tryd.zeroValue21
  t31 := Tryd.underlying22
  a31 := Tryd.isAgg22
  z31 := Tryd.sizeOf22
  v31 := Tryd.zeroValue22
  t40 := Tryd.underlying62
  a40 := Tryd.isAgg62
  z40 := Tryd.sizeOf62
  v40 := Tryd.zeroValue62
  t152 := Tryd.underlying69
  a152 := Tryd.isAgg69
  z152 := Tryd.sizeOf69
  v152 := Tryd.zeroValue69
  t154 := Tryd.underlying71
  a154 := Tryd.isAgg71
  z154 := Tryd.sizeOf71
  v154 := Tryd.zeroValue71 }
open Go.RowKit Go.Lib in
theorem Tryd.strings_FieldsFunc_grows (g : Nat) (lb : Array Value) (eg : ∀ args w, (callFunc g args).run Tryd.prog w = .ok (.enter g args) w) (p : Nat → Bool) (s : ByteArray) (w : World) (hs : s.size ≤ 4294967296) (hp : PredGrows Tryd.prog g lb p w) :
    Calls Tryd.prog 34 #[.string s, .func (.func g) #[] lb] w fun e w' => ∃ A, e = .returned (.slice (some ⟨A, 0, none⟩) (Lib.goFieldsP p s).length (Lib.goFieldsP p s).length) ∧ w.heap.size ≤ A ∧
      w'.ownsRow w.heap.size 9 1 (.slice (some ⟨A, 0, none⟩) (Lib.goFieldsP p s).length (Lib.goFieldsP p s).length) (Lib.goFieldsP p s).length ((Lib.goFieldsP p s).map Value.string) ∧ Below w.heap.size w w' := Any.strings_FieldsFunc_grows Tryd.lays229 g lb eg p s w hs hp (by kernel_rfl) (by kernel_rfl)
end Go.Proofs.YtoemgehbpamklaaDoor.SA
end
section
/- csp.directive in plain words: the words behind the first piece whose first word is the name. -/
set_option linter.unusedSimpArgs false
set_option linter.unusedVariables false
namespace Go.Proofs.YtoemgehbpamklaaDoor
open Go Go.RowKit Go.Shelf Go.Proofs Go.Proofs.YtoemgehbpamklaaDoorW.PrintWords Go.Proofs.YtoemgehbpamklaaDoorW.PrintLast Go.Proofs.YtoemgehbpamklaaDoorW.PrintMore
attribute [local go_sem] Oper.semAt_some

theorem keepsFrom_below {B : Nat} {W W' : World} (h : Below W.heap.size W W') : KeepsFrom B W W' :=
  ⟨h.size, fun k o _ hk _ => (h.block k (Array.getElem?_eq_some_iff.1 hk).1).trans hk⟩
theorem boxed_below {W W' : World} {b : Nat} {t : TypeId} {v : Value} (h : Boxed W b t v) (hb : Below W.heap.size W W') : Boxed W' b t v := (hb.block b h.lt).trans h
def blankP (n : Nat) : Bool := n == 32 || n == 9
set_option maxHeartbeats 1000000 in
theorem blank_calls (x : Nat) (w : World) : Calls Tryd.prog 35 #[.int .i32 (x : Int)] w fun e w' => e = .returned (.bool (blankP x)) ∧ Below w.heap.size w w' := by
  go_enter Tryd.func35, Tryd.ntmps35
  by_cases h1 : x = 32
  · subst h1
    go_wp2
    go_ret
    exact ⟨rfl, Below.refl _ _⟩
  · have e1 : ((x : Int) == 32) = false := by rw [beq_eq_false_iff_ne]; omega
    have e3 : ((x : Int) = 32) = False := eq_false (by omega)
    by_cases h2 : x = 9
    · subst h2
      go_wp2
      go_ret
      exact ⟨rfl, Below.refl _ _⟩
    · have e2 : ((x : Int) == 9) = false := by rw [beq_eq_false_iff_ne]; omega
      have e4 : ((x : Int) = 9) = False := eq_false (by omega)
      go_wp2
      go_ret
      exact ⟨by simp [blankP, h1, h2], Below.refl _ _⟩
def lowT (x : ByteArray) : ByteArray := ⟨(lowL x.data.toList).toArray⟩
def wordsB (x : ByteArray) : List ByteArray := Lib.goFieldsP blankP (lowT x)
/-- l[1:] of a row of n. -/
def tailV (A n : Nat) : Value := .slice (some ⟨A, if n = 1 then 0 else 1, none⟩) (n - 1) (n - 1)
def dirHit (name : ByteArray) (x : ByteArray) : Bool := match wordsB x with
  | y :: _ => decide (y.toList = name.toList)
  | [] => false
theorem lowT_size (x : ByteArray) : (lowT x).size = x.size := by
  rw [Lib.size_eq, Lib.size_eq]
  show (lowL x.data.toList).length = _
  unfold lowL
  rw [List.length_map]
theorem words_calls (x : ByteArray) (hx : x.size ≤ 4294967296) (w : World) : Calls Tryd.prog 34 #[.string (lowT x), .func (.func 35) #[] #[]] w fun e w' => ∃ A, e = .returned (.slice (some ⟨A, 0, none⟩) (wordsB x).length (wordsB x).length) ∧ w.heap.size ≤ A ∧
      w'.heap[A]? = some (.cells ((wordsB x).map Value.string).toArray 9 (0, 0)) ∧ Below w.heap.size w w' := by
  refine (SA.Tryd.strings_FieldsFunc_grows 35 #[] (enters_of Tryd.func35 (by kernel_rfl) rfl) blankP (lowT x) w (by rw [lowT_size]; exact hx) (fun W y _ _ => blank_calls y W)).mono ?_
  rintro e w' ⟨A, rfl, hA, hrow, hb⟩
  refine ⟨A, rfl, hA, ?_, hb⟩
  rcases hrow.2 with ⟨hv, _⟩ | ⟨g, cap, cur, hv, hbg, hcell, hn, hcap, hsz, htake⟩
  · cases hv
  · simp only [Value.slice.injEq, Option.some.injEq, Addr.mk.injEq] at hv
    obtain ⟨⟨rfl, _⟩, _, hc⟩ := hv
    have hlen := hrow.1
    have : cur.toList = (Lib.goFieldsP blankP (lowT x)).map Value.string := by
      rw [← htake, List.take_of_length_le]
      rw [Array.length_toList, hsz]
      omega
    rw [hcell, show wordsB x = Lib.goFieldsP blankP (lowT x) from rfl, ← this, Array.toArray_toList]

set_option maxRecDepth 100000 in
set_option maxHeartbeats 4000000 in
theorem Directive_calls (s name : ByteArray) (hn : s.size ≤ 4294967296) (w : World) :
    Calls Tryd.prog 24 #[.string s, .string name] w fun e w' => Below w.heap.size w w' ∧ (((pieces 59 s).find? (dirHit name) = none ∧ e = .returned (.tuple #[.slice none 0 0, .bool false])) ∨
      ∃ A x, (pieces 59 s).find? (dirHit name) = some x ∧ w.heap.size ≤ A ∧ e = .returned (.tuple #[tailV A (wordsB x).length, .bool true]) ∧ w'.heap[A]? = some (.cells ((wordsB x).map Value.string).toArray 9 (0, 0))) := by
  refine (callsIn_wide (n := 4)).1 ?_
  refine callsIn_of_wp_marks Tryd.func24 rfl trivial ?_ rfl
  simp only [Tryd.ntmps24, List.size_toArray, List.length_cons, List.length_nil, Nat.reduceAdd, Nat.reduceSub, Array.replicate_succ, Array.replicate_zero, List.push_toArray, List.append_toArray, List.nil_append, List.cons_append]
  gi_wp2_with (refine ⟨trivial, ?_⟩; gi_at_call 30; refine (callsIn_wide.2 (SplitSeq_any _ _ _)).mono ?_; rintro e w' ⟨rfl, rfl⟩)
  obtain ⟨W0, hW0⟩ : ∃ W0, (((((w.alloc (.cells #[.string name] 9)).alloc (.cells #[.slice none 0 0] 22)).alloc (.cells #[.bool false] 4)).alloc (.cells #[.string s] 9)).alloc (.cells #[.string ⟨#[59]⟩] 9)).alloc (.cells #[.int .i64 0] 3) = W0 := ⟨_, rfl⟩
  have hs0 : W0.heap.size = w.heap.size + 6 := by rw [← hW0]; simp
  have hbx : Boxes (w.heap.size + 3) 59 s W0 := by
    have := boxes_new s 59 (((w.alloc (.cells #[.string name] 9)).alloc (.cells #[.slice none 0 0] 22)).alloc (.cells #[.bool false] 4)); rw [World.size_alloc, World.size_alloc, World.size_alloc] at this; rw [← hW0]; exact this
  have hbl : Below w.heap.size w W0 := by
    rw [← hW0]; exact ((((((Below.refl _ w).alloc (Nat.le_refl _) _).alloc (by simp) _).alloc (by simp; omega) _).alloc (by simp; omega) _).alloc (by simp; omega) _).alloc (by simp; omega) _
  have hk0 : Boxed W0 w.heap.size 9 (.string name) := by
    rw [← hW0]; exact (((((Boxed.new w _ _).alloc _).alloc _).alloc _).alloc _).alloc _
  have hk1 : Boxed W0 (w.heap.size + 1) 22 (.slice none 0 0) := by
    have := Boxed.new (w.alloc (.cells #[.string name] 9)) 22 (.slice none 0 0)
    rw [World.size_alloc] at this
    rw [← hW0]; exact (((this.alloc _).alloc _).alloc _).alloc _
  have hk2 : Boxed W0 (w.heap.size + 2) 4 (.bool false) := by
    have := Boxed.new ((w.alloc (.cells #[.string name] 9)).alloc (.cells #[.slice none 0 0] 22)) 4 (.bool false)
    rw [World.size_alloc, World.size_alloc] at this
    rw [← hW0]; exact ((this.alloc _).alloc _).alloc _
  rw [hW0]
  clear hW0
  have hsz := Lib.hid (Lib.size_eq s)
  refine wpIn_rangeBox rfl (by omega) (gf := 50) rfl trivial (enters_of Tryd.func50 (by kernel_rfl) rfl) (bs := w.heap.size + 3) (lo := w.heap.size + 3) (xs0 := pieces 59 s)
    (splitSeq1_box _ (by omega) _ _ _ _ (by omega) (by omega) hbx) (by omega) (by omega) rfl
    (fun pre W => ((Boxed W w.heap.size 9 (.string name) ∧ Boxed W (w.heap.size + 1) 22 (.slice none 0 0)) ∧ (Boxed W (w.heap.size + 2) 4 (.bool false) ∧ Below w.heap.size w W)) ∧ pre.find? (dirHit name) = none)
    (fun c pre W => ∃ A x, ((Boxed W (w.heap.size + 1) 22 (tailV A (wordsB x).length) ∧ Boxed W (w.heap.size + 2) 4 (.bool true)) ∧ (W.heap[A]? = some (.cells ((wordsB x).map Value.string).toArray 9 (0, 0)) ∧ Below w.heap.size w W)) ∧ c = .ret ∧ w.heap.size + 6 ≤ A ∧ pre.find? (dirHit name) = some x)
    ((((BoxOwn.block (f := fun _ => .cells #[.string name] 9 (0, 0)) (fun _ => rfl) (by omega)).and (BoxOwn.block (f := fun _ => .cells #[.slice none 0 0] 22 (0, 0)) (fun _ => rfl) (by omega))).and
      ((BoxOwn.block (f := fun _ => .cells #[.bool false] 4 (0, 0)) (fun _ => rfl) (by omega)).and (BoxOwn.below (Nat.le_refl _) (by omega) (by omega)))).and BoxOwn.pure)
    (fun c => by
      rintro pre W W' row ⟨A, x, ⟨⟨g1, g2⟩, g3, g4⟩, hc, hA, hf⟩ hg hr
      exact ⟨A, x, ⟨⟨boxBlock_kept hg hr g1 rfl (by omega), boxBlock_kept hg hr g2 rfl (by omega)⟩, boxBlock_kept hg hr g3 rfl (by omega), (BoxOwn.below (β := Unit) (bs := w.heap.size + 3) (Nat.le_refl _) (by omega) (by omega)) () W W' row g4 hg hr⟩, hc, hA, hf⟩)
    ⟨⟨⟨hk0, hk1⟩, hk2, hbl⟩, rfl⟩
    (fun x => { tmps := #[.string s, .string name, undef, .pointer (some ⟨w.heap.size, 0, none⟩), .pointer (some ⟨w.heap.size + 1, 0, none⟩), .pointer (some ⟨w.heap.size + 2, 0, none⟩), .string x, undef, .string s, .func (.func 50) #[] #[.pointer (some ⟨w.heap.size + 3 + 1, 0, none⟩), .pointer (some ⟨w.heap.size + 3, 0, none⟩), .pointer (some ⟨w.heap.size + 3 + 2, 0, none⟩)], .string x, undef, undef, undef, undef, undef, undef, undef, undef, undef, undef, undef, undef, undef, undef, undef], defers := [] }) ?assign ?body ?done ?stop
  case assign =>
    intro l x W K hK
    gi_wp2
    exact hK
  case body =>
    rintro l pre x W ⟨⟨⟨hr0, hr1⟩, hr2, hb⟩, hnone⟩ hpre hle
    have hx : x.size ≤ 4294967296 := by
      have : x ∈ pieces 59 s := hpre.subset (by simp)
      have := piece_size 59 _ _ _ this
      omega
    have hL := fun w => Lower_calls x (Nat.le_trans hx (by decide)) w
    have hF := words_calls x hx
    obtain ⟨T, hT⟩ : ∃ T : ByteArray, lowT x = T := ⟨_, rfl⟩
    have hLT : (⟨(lowL x.data.toList).toArray⟩ : ByteArray) = T := hT
    rw [hT] at hF
    simp only [hLT] at hL
    obtain ⟨ws, hws⟩ : ∃ ws, wordsB x = ws := ⟨_, rfl⟩
    rw [hws] at hF

    cases ws with
    | nil =>
      have hmiss : (pre ++ [x]).find? (dirHit name) = none := by
        rw [List.find?_append, hnone]
        simp [dirHit, hws]
      gi_wp2_with (first
        | (refine ⟨trivial, ?_⟩; gi_at_call 8; refine (CallsIn.inRound l (callsIn_wide.2 (hL _))).mono ?_; rintro e w1 ⟨rfl, hb1⟩)
        | (refine ⟨trivial, ?_⟩; gi_at_call 34; refine (CallsIn.inRound l (callsIn_wide.2 (hF _))).mono ?_; rintro e w2 ⟨A, rfl, hA, hcell, hb2⟩; have hb3 := hb1.trans (hb2.mono hb1.size); have hA2 := Nat.le_trans hb1.size hA; clear hb1 hb2 hA))
      rename_i Kc hKc
      try simp only [List.length_nil]
      refine start_in (n := 10) (S := fun _ => True) (ds := []) #[false, false, false, false, false, false, false, false, false, false] (by kernel_rfl) rfl (by rintro ⟨a, w, h⟩; exact h) rfl rfl trivial (fun hHeld => ?_)
      have hb4 := below_drew1 hb3
      clear hb3
      generalize World.drew w2 = w4 at *
      refine pure_ (i := 0) (N := some 14) (v := ?_) (a' := ?_) #[true, false, false, false, false, false, false, false, false, false] rfl rfl (by kernel_rfl) (fun _ _ _ h => h) (Or.inl ⟨by rfl, ?_⟩) ?_ ?_
      rotate_left
      · intro w'
        go_simp
        with_reducible rfl
      rotate_left
      · simp only [Act.put, List.setIfInBounds_toArray, List.set_cons_zero, List.set_cons_succ]
        rfl
      refine pure_ (i := 1) (N := some 15) (v := ?_) (a' := ?_) #[true, true, false, false, false, false, false, false, false, false] rfl rfl (by kernel_rfl) (fun _ _ _ h => h) (Or.inl ⟨by rfl, ?_⟩) ?_ ?_
      rotate_left
      · intro w'
        go_simp
        with_reducible rfl
      rotate_left
      · simp only [Act.put, List.setIfInBounds_toArray, List.set_cons_zero, List.set_cons_succ]
        rfl
      refine pure_ (i := 2) (N := some 16) (v := ?_) (a' := ?_) #[true, true, true, false, false, false, false, false, false, false] rfl rfl (by kernel_rfl) (fun _ _ _ h => h) (Or.inl ⟨by rfl, ?_⟩) ?_ ?_
      rotate_left
      · intro w'
        go_simp
        with_reducible rfl
      rotate_left
      · simp only [Act.put, List.setIfInBounds_toArray, List.set_cons_zero, List.set_cons_succ]
        rfl
      refine pure_ (i := 3) (N := some 17) (v := ?_) (a' := ?_) #[true, true, true, true, false, false, false, false, false, false] rfl rfl (by kernel_rfl) (fun _ _ _ h => h) (Or.inl ⟨by rfl, ?_⟩) ?_ ?_
      rotate_left
      · intro w'
        go_simp
        with_reducible rfl
      rotate_left
      · simp only [Act.put, List.setIfInBounds_toArray, List.set_cons_zero, List.set_cons_succ]
        rfl
      refine pure_ (i := 4) (N := some 18) (v := undef) (a' := ?_) #[true, true, true, true, true, false, false, false, false, false] rfl rfl (by kernel_rfl) (fun _ _ _ h => h) (Or.inr ⟨by rfl, rfl⟩) ?_ ?_
      rotate_left
      · simp only [Act.put, List.setIfInBounds_toArray, List.set_cons_zero, List.set_cons_succ]
        rfl
      refine pure_ (i := 5) (N := some 19) (v := undef) (a' := ?_) #[true, true, true, true, true, true, false, false, false, false] rfl rfl (by kernel_rfl) (fun _ _ _ h => h) (Or.inr ⟨by rfl, rfl⟩) ?_ ?_
      rotate_left
      · simp only [Act.put, List.setIfInBounds_toArray, List.set_cons_zero, List.set_cons_succ]
        rfl
      refine pure_ (i := 6) (N := some 20) (v := undef) (a' := ?_) #[true, true, true, true, true, true, true, false, false, false] rfl rfl (by kernel_rfl) (fun _ _ _ h => h) (Or.inr ⟨by rfl, rfl⟩) ?_ ?_
      rotate_left
      · simp only [Act.put, List.setIfInBounds_toArray, List.set_cons_zero, List.set_cons_succ]
        rfl
      refine pure_ (i := 7) (N := some 21) (v := undef) (a' := ?_) #[true, true, true, true, true, true, true, true, false, false] rfl rfl (by kernel_rfl) (fun _ _ _ h => h) (Or.inr ⟨by rfl, rfl⟩) ?_ ?_
      rotate_left
      · simp only [Act.put, List.setIfInBounds_toArray, List.set_cons_zero, List.set_cons_succ]
        rfl
      refine pure_ (i := 8) (N := some 22) (v := undef) (a' := ?_) #[true, true, true, true, true, true, true, true, true, false] rfl rfl (by kernel_rfl) (fun _ _ _ h => h) (Or.inr ⟨by rfl, rfl⟩) ?_ ?_
      rotate_left
      · simp only [Act.put, List.setIfInBounds_toArray, List.set_cons_zero, List.set_cons_succ]
        rfl
      refine pure_ (i := 9) (N := some 23) (v := ?_) (a' := ?_) #[true, true, true, true, true, true, true, true, true, true] rfl rfl (by kernel_rfl) (fun _ _ _ h => h) (Or.inl ⟨by rfl, ?_⟩) ?_ ?_
      rotate_left
      · intro w'
        go_simp
        with_reducible rfl
      rotate_left
      · simp only [Act.put, List.setIfInBounds_toArray, List.set_cons_zero, List.set_cons_succ]
        rfl
      refine done_ (by kernel_rfl) ?_
      refine hKc _ _ ?_
      gi_wp2
      exact ⟨keepsFrom_below hb4, KeepB.below hb4 (by omega), ⟨⟨boxed_below hr0 hb4, boxed_below hr1 hb4⟩, boxed_below hr2 hb4, hb.trans (hb4.mono hb.size)⟩, hmiss⟩
    | cons y ws =>
      have hpos : (0 : Int) < ((ws.length + 1 : Nat) : Int) := by omega
      gi_wp2_with (first
        | (refine ⟨trivial, ?_⟩; gi_at_call 8; refine (CallsIn.inRound l (callsIn_wide.2 (hL _))).mono ?_; rintro e w1 ⟨rfl, hb1⟩)
        | (refine ⟨trivial, ?_⟩; gi_at_call 34; refine (CallsIn.inRound l (callsIn_wide.2 (hF _))).mono ?_; rintro e w2 ⟨A, rfl, hA, hcell, hb2⟩; have hb3 := hb1.trans (hb2.mono hb1.size); have hA2 := Nat.le_trans hb1.size hA; clear hb1 hb2 hA))
      rename_i Kc hKc
      try simp only [List.length_cons]
      have hc0 : w2.cell? ⟨w.heap.size, 0, none⟩ = some (.string name) := (boxed_below hr0 hb3).cell
      have hcA : w2.cell? ⟨A, 0, none⟩ = some (.string y) := by simp [World.cell?, hcell]
      refine start_in (n := 10) (S := fun w' => w'.cell? ⟨w.heap.size, 0, none⟩ = some (.string name) ∧ w'.cell? ⟨A, 0, none⟩ = some (.string y)) (ds := []) #[false, false, false, false, false, false, false, false, false, false] (by kernel_rfl) rfl (by rintro ⟨a, w, h⟩; exact h) rfl rfl ⟨hc0, hcA⟩ (fun hHeld => ?_)
      have hb4 := below_drew1 hb3
      have hcell4 : (World.drew w2).heap[A]? = some (.cells ((y :: ws).map Value.string).toArray 9 (0, 0)) := hcell
      clear hb3 hcell hc0 hcA
      generalize World.drew w2 = w4 at *
      cases hit : decide (y.toList = name.toList)
      · have hmiss : (pre ++ [x]).find? (dirHit name) = none := by
          rw [List.find?_append, hnone]
          simp [dirHit, hws, hit]
        have hE : ¬ y.toList = name.toList := of_decide_eq_false hit
        refine pure_ (i := 0) (N := some 14) (v := ?_) (a' := ?_) #[true, false, false, false, false, false, false, false, false, false] rfl rfl (by kernel_rfl) (fun _ _ _ h => h) (Or.inl ⟨by rfl, ?_⟩) ?_ ?_
        rotate_left
        · intro w'
          go_simp
          with_reducible rfl
        rotate_left
        · simp only [Act.put, List.setIfInBounds_toArray, List.set_cons_zero, List.set_cons_succ]
          rfl
        refine pure_ (i := 1) (N := some 15) (v := ?_) (a' := ?_) #[true, true, false, false, false, false, false, false, false, false] rfl rfl (by kernel_rfl) (fun _ _ _ h => h) (Or.inl ⟨by rfl, ?_⟩) ?_ ?_
        rotate_left
        · intro w'
          go_simp
          with_reducible rfl
        rotate_left
        · simp only [Act.put, List.setIfInBounds_toArray, List.set_cons_zero, List.set_cons_succ]
          rfl
        refine pure_ (i := 2) (N := some 16) (v := .bool true) (a' := ?_) #[true, true, true, false, false, false, false, false, false, false] rfl rfl (by kernel_rfl) (fun _ _ _ h => h) (Or.inl ⟨by rfl, ?_⟩) ?_ ?_
        · intro w'
          go_simp
          all_goals first | with_reducible rfl | (simp [hit, hpos]; done) | (simp [hit, hpos]; omega) | (simp [hit, hpos]; exact hE)
        rotate_left
        · simp only [Act.put, List.setIfInBounds_toArray, List.set_cons_zero, List.set_cons_succ]
          rfl
        refine pure_ (i := 3) (N := some 17) (v := ?_) (a' := ?_) #[true, true, true, true, false, false, false, false, false, false] rfl rfl (by kernel_rfl) (fun _ _ _ h => h) (Or.inl ⟨by rfl, ?_⟩) ?_ ?_
        rotate_left
        · intro w'
          go_simp
          with_reducible rfl
        rotate_left
        · simp only [Act.put, List.setIfInBounds_toArray, List.set_cons_zero, List.set_cons_succ]
          rfl
        refine pure_ (i := 4) (N := some 18) (v := ?_) (a' := ?_) #[true, true, true, true, true, false, false, false, false, false] rfl rfl (by kernel_rfl) (fun _ _ _ h => h) (Or.inl ⟨by rfl, ?_⟩) ?_ ?_
        rotate_left
        · intro w'
          go_simp
          with_reducible rfl
        rotate_left
        · simp only [Act.put, List.setIfInBounds_toArray, List.set_cons_zero, List.set_cons_succ]
          rfl
        refine pure_ (i := 5) (N := some 19) (v := ?_) (a' := ?_) #[true, true, true, true, true, true, false, false, false, false] rfl rfl (by kernel_rfl) (fun _ _ _ h => h) (Or.inl ⟨by rfl, ?_⟩) ?_ ?_
        rotate_left
        · intro w'
          go_simp
          with_reducible rfl
        rotate_left
        · simp only [Act.put, List.setIfInBounds_toArray, List.set_cons_zero, List.set_cons_succ]
          rfl
        refine take_ (i := 6) (N := some 20) (v := ?_) (a' := ?_) #[true, true, true, true, true, true, true, false, false, false] rfl rfl (by kernel_rfl) (fun _ _ _ h => h) (Or.inl ⟨by rfl, ?_⟩) hHeld ?_ ?_
        rotate_left
        · rintro w' ⟨s0, s1⟩
          go_simp
          with_reducible rfl
        rotate_left
        · simp only [Act.put, List.setIfInBounds_toArray, List.set_cons_zero, List.set_cons_succ]
          rfl
        refine take_ (i := 7) (N := some 21) (v := ?_) (a' := ?_) #[true, true, true, true, true, true, true, true, false, false] rfl rfl (by kernel_rfl) (fun _ _ _ h => h) (Or.inl ⟨by rfl, ?_⟩) hHeld ?_ ?_
        rotate_left
        · rintro w' ⟨s0, s1⟩
          go_simp
          with_reducible rfl
        rotate_left
        · simp only [Act.put, List.setIfInBounds_toArray, List.set_cons_zero, List.set_cons_succ]
          rfl
        refine pure_ (i := 8) (N := some 22) (v := .bool false) (a' := ?_) #[true, true, true, true, true, true, true, true, true, false] rfl rfl (by kernel_rfl) (fun _ _ _ h => h) (Or.inl ⟨by rfl, ?_⟩) ?_ ?_
        · intro w'
          go_simp
          all_goals first | with_reducible rfl | (simp [hit, hpos]; done) | (simp [hit, hpos]; omega) | (simp [hit, hpos]; exact hE)
        rotate_left
        · simp only [Act.put, List.setIfInBounds_toArray, List.set_cons_zero, List.set_cons_succ]
          rfl
        refine pure_ (i := 9) (N := some 23) (v := ?_) (a' := ?_) #[true, true, true, true, true, true, true, true, true, true] rfl rfl (by kernel_rfl) (fun _ _ _ h => h) (Or.inl ⟨by rfl, ?_⟩) ?_ ?_
        rotate_left
        · intro w'
          go_simp
          with_reducible rfl
        rotate_left
        · simp only [Act.put, List.setIfInBounds_toArray, List.set_cons_zero, List.set_cons_succ]
          rfl

        refine done_ (by kernel_rfl) ?_
        refine hKc _ _ ?_
        gi_wp2
        exact ⟨keepsFrom_below hb4, KeepB.below hb4 (by omega), ⟨⟨boxed_below hr0 hb4, boxed_below hr1 hb4⟩, boxed_below hr2 hb4, hb.trans (hb4.mono hb.size)⟩, hmiss⟩
      · have hhit : (pre ++ [x]).find? (dirHit name) = some x := by
          rw [List.find?_append, hnone]
          simp [dirHit, hws, hit]
        have hE : y.toList = name.toList := of_decide_eq_true hit
        refine pure_ (i := 0) (N := some 14) (v := ?_) (a' := ?_) #[true, false, false, false, false, false, false, false, false, false] rfl rfl (by kernel_rfl) (fun _ _ _ h => h) (Or.inl ⟨by rfl, ?_⟩) ?_ ?_
        rotate_left
        · intro w'
          go_simp
          with_reducible rfl
        rotate_left
        · simp only [Act.put, List.setIfInBounds_toArray, List.set_cons_zero, List.set_cons_succ]
          rfl
        refine pure_ (i := 1) (N := some 15) (v := ?_) (a' := ?_) #[true, true, false, false, false, false, false, false, false, false] rfl rfl (by kernel_rfl) (fun _ _ _ h => h) (Or.inl ⟨by rfl, ?_⟩) ?_ ?_
        rotate_left
        · intro w'
          go_simp
          with_reducible rfl
        rotate_left
        · simp only [Act.put, List.setIfInBounds_toArray, List.set_cons_zero, List.set_cons_succ]
          rfl
        refine pure_ (i := 2) (N := some 16) (v := .bool true) (a' := ?_) #[true, true, true, false, false, false, false, false, false, false] rfl rfl (by kernel_rfl) (fun _ _ _ h => h) (Or.inl ⟨by rfl, ?_⟩) ?_ ?_
        · intro w'
          go_simp
          all_goals first | with_reducible rfl | (simp [hit, hpos]; done) | (simp [hit, hpos]; omega) | (simp [hit, hpos]; exact hE)
        rotate_left
        · simp only [Act.put, List.setIfInBounds_toArray, List.set_cons_zero, List.set_cons_succ]
          rfl
        refine pure_ (i := 3) (N := some 17) (v := ?_) (a' := ?_) #[true, true, true, true, false, false, false, false, false, false] rfl rfl (by kernel_rfl) (fun _ _ _ h => h) (Or.inl ⟨by rfl, ?_⟩) ?_ ?_
        rotate_left
        · intro w'
          go_simp
          with_reducible rfl
        rotate_left
        · simp only [Act.put, List.setIfInBounds_toArray, List.set_cons_zero, List.set_cons_succ]
          rfl
        refine pure_ (i := 4) (N := some 18) (v := ?_) (a' := ?_) #[true, true, true, true, true, false, false, false, false, false] rfl rfl (by kernel_rfl) (fun _ _ _ h => h) (Or.inl ⟨by rfl, ?_⟩) ?_ ?_
        rotate_left
        · intro w'
          go_simp
          with_reducible rfl
        rotate_left
        · simp only [Act.put, List.setIfInBounds_toArray, List.set_cons_zero, List.set_cons_succ]
          rfl
        refine pure_ (i := 5) (N := some 19) (v := ?_) (a' := ?_) #[true, true, true, true, true, true, false, false, false, false] rfl rfl (by kernel_rfl) (fun _ _ _ h => h) (Or.inl ⟨by rfl, ?_⟩) ?_ ?_
        rotate_left
        · intro w'
          go_simp
          with_reducible rfl
        rotate_left
        · simp only [Act.put, List.setIfInBounds_toArray, List.set_cons_zero, List.set_cons_succ]
          rfl
        refine take_ (i := 6) (N := some 20) (v := ?_) (a' := ?_) #[true, true, true, true, true, true, true, false, false, false] rfl rfl (by kernel_rfl) (fun _ _ _ h => h) (Or.inl ⟨by rfl, ?_⟩) hHeld ?_ ?_
        rotate_left
        · rintro w' ⟨s0, s1⟩
          go_simp
          with_reducible rfl
        rotate_left
        · simp only [Act.put, List.setIfInBounds_toArray, List.set_cons_zero, List.set_cons_succ]
          rfl
        refine take_ (i := 7) (N := some 21) (v := ?_) (a' := ?_) #[true, true, true, true, true, true, true, true, false, false] rfl rfl (by kernel_rfl) (fun _ _ _ h => h) (Or.inl ⟨by rfl, ?_⟩) hHeld ?_ ?_
        rotate_left
        · rintro w' ⟨s0, s1⟩
          go_simp
          with_reducible rfl
        rotate_left
        · simp only [Act.put, List.setIfInBounds_toArray, List.set_cons_zero, List.set_cons_succ]
          rfl
        refine pure_ (i := 8) (N := some 22) (v := .bool true) (a' := ?_) #[true, true, true, true, true, true, true, true, true, false] rfl rfl (by kernel_rfl) (fun _ _ _ h => h) (Or.inl ⟨by rfl, ?_⟩) ?_ ?_
        · intro w'
          go_simp
          all_goals first | with_reducible rfl | (simp [hit, hpos]; done) | (simp [hit, hpos]; omega) | (simp [hit, hpos]; exact hE)
        rotate_left
        · simp only [Act.put, List.setIfInBounds_toArray, List.set_cons_zero, List.set_cons_succ]
          rfl
        refine pure_ (i := 9) (N := some 23) (v := ?_) (a' := ?_) #[true, true, true, true, true, true, true, true, true, true] rfl rfl (by kernel_rfl) (fun _ _ _ h => h) (Or.inl ⟨by rfl, ?_⟩) ?_ ?_
        rotate_left
        · intro w'
          go_simp
          with_reducible rfl
        rotate_left
        · simp only [Act.put, List.setIfInBounds_toArray, List.set_cons_zero, List.set_cons_succ]
          rfl

        refine done_ (by kernel_rfl) ?_
        refine hKc _ _ ?_
        have g1 := boxed_below hr1 hb4
        have g2 := boxed_below hr2 hb4
        have hAw : w.heap.size + 6 ≤ A := by omega
        have hcell5 : ∀ u, ((w4.setCell ⟨w.heap.size + 1, 0, none⟩ u).setCell ⟨w.heap.size + 2, 0, none⟩ (.bool true)).heap[A]? = some (.cells ((y :: ws).map Value.string).toArray 9 (0, 0)) := fun u =>
          (Below.heap_setCell _ ⟨w.heap.size + 2, 0, none⟩ (.bool true) A (by simp; omega)).trans ((Below.heap_setCell w4 ⟨w.heap.size + 1, 0, none⟩ u A (by simp; omega)).trans hcell4)
        have c1 := g1.cell
        have c2 := g2.cell
        have q1 := g1.frozen
        have q2 := g2.frozen
        have hset : ∀ u, KeepsOthers w4 ((w4.setCell ⟨w.heap.size + 1, 0, none⟩ u).setCell ⟨w.heap.size + 2, 0, none⟩ (.bool true)) := fun u => (KeepsOthers.setCell w4 ⟨w.heap.size + 1, 0, none⟩ u).trans (KeepsOthers.setCell _ ⟨w.heap.size + 2, 0, none⟩ (.bool true))
        have h1 : ∀ u, Boxed ((w4.setCell ⟨w.heap.size + 1, 0, none⟩ u).setCell ⟨w.heap.size + 2, 0, none⟩ (.bool true)) (w.heap.size + 1) 22 u := fun u => (g1.set u).kept (grownBy_setCell' _ (w.heap.size + 2) (.bool true)) (by simp)
        have h2 : ∀ u, Boxed ((w4.setCell ⟨w.heap.size + 1, 0, none⟩ u).setCell ⟨w.heap.size + 2, 0, none⟩ (.bool true)) (w.heap.size + 2) 4 (.bool true) := fun u => (g2.kept (grownBy_setCell' w4 (w.heap.size + 1) u) (by simp)).set (.bool true)
        have hb5 : ∀ u, Below w.heap.size w ((w4.setCell ⟨w.heap.size + 1, 0, none⟩ u).setCell ⟨w.heap.size + 2, 0, none⟩ (.bool true)) := fun u => ((hb.trans (hb4.mono hb.size)).setCell (p := ⟨w.heap.size + 1, 0, none⟩) (by simp) u).setCell (p := ⟨w.heap.size + 2, 0, none⟩) (by simp) (.bool true)
        cases ws with
        | nil =>
          have e : tailV A (wordsB x).length = .slice (some ⟨A, 0, none⟩) 0 0 := by rw [hws]; rfl
          gi_wp2
          refine ⟨(keepsFrom_below hb4).trans ((hset _).from _), A, x, ⟨⟨?_, h2 _⟩, ?_, hb5 _⟩, rfl, hAw, hhit⟩
          · rw [e]; exact h1 _
          · rw [hws]; exact hcell5 _
        | cons z zs =>
          have e : tailV A (wordsB x).length = .slice (some ⟨A, 1, none⟩) (zs.length + 1) (zs.length + 1) := by rw [hws]; rfl
          gi_wp2
          refine ⟨(keepsFrom_below hb4).trans ((hset _).from _), A, x, ⟨⟨?_, h2 _⟩, ?_, hb5 _⟩, rfl, hAw, hhit⟩
          · rw [e]; exact h1 _
          · rw [hws]; exact hcell5 _
  case done =>
    rintro D W hD ⟨⟨⟨hr0, hr1⟩, hr2, hb⟩, hnone⟩ hK
    have e1 := hr1.cell
    have e2 := hr2.cell
    have q1 := hr1.frozen
    have q2 := hr2.frozen
    gi_wp2
    have h1 := (hr1.set (.slice none 0 0)).kept (grownBy_setCell' _ (w.heap.size + 2) (.bool false)) (by simp)
    have h2 := (hr2.kept (grownBy_setCell' W (w.heap.size + 1) (.slice none 0 0)) (by simp)).set (.bool false)
    have hK2 := ((KeepsOthers.setCell W ⟨w.heap.size + 1, 0, none⟩ (.slice none 0 0)).trans (KeepsOthers.setCell _ ⟨w.heap.size + 2, 0, none⟩ (.bool false))).same D _ hK rfl
    have hb2 := (hb.setCell (p := ⟨w.heap.size + 1, 0, none⟩) (by simp) (.slice none 0 0)).setCell (p := ⟨w.heap.size + 2, 0, none⟩) (by simp) (.bool false)
    refine ⟨by simp, .inl ⟨_, _, rfl, run_takeDeferred hK2, ?_⟩⟩
    have hc5 := cell_kept h1.cell (grownBy_putObj' _ D (.deferred none)) (fun r e => by cases e; exact ⟨_, hK2, rfl⟩)
    have hc6 := cell_kept h2.cell (grownBy_putObj' _ D (.deferred none)) (fun r e => by cases e; exact ⟨_, hK2, rfl⟩)
    refine ⟨.tuple #[.slice none 0 0, .bool false], ?_, hb2.trans (belowK_b (w := w) (Nat.le_refl _) _ D _ _ (by omega) hK2 rfl rfl), .inl ⟨hnone, rfl⟩⟩
    simp [results, Tryd.f24, go_sem, hc5, hc6]
  case stop =>
    rintro D c pre W hD hpre ⟨A, x, ⟨⟨hr1, hr2⟩, hc, hb⟩, rfl, hA, hf⟩ hK
    have hall : (pieces 59 s).find? (dirHit name) = some x := by
      obtain ⟨r, hr⟩ := hpre
      rw [← hr, List.find?_append, hf]
      rfl
    have e1 := hr1.cell
    have e2 := hr2.cell
    gi_wp2
    refine ⟨by simp, .inl ⟨_, _, rfl, run_takeDeferred hK, ?_⟩⟩
    have hc5 := cell_kept e1 (grownBy_putObj' _ D (.deferred none)) (fun r e => by cases e; exact ⟨_, hK, rfl⟩)
    have hc6 := cell_kept e2 (grownBy_putObj' _ D (.deferred none)) (fun r e => by cases e; exact ⟨_, hK, rfl⟩)
    refine ⟨.tuple #[tailV A (wordsB x).length, .bool true], ?_, hb.trans (belowK_b (w := w) (Nat.le_refl _) _ D _ _ (by omega) hK rfl rfl), .inr ⟨A, x, hall, by omega, rfl, ?_⟩⟩
    · simp [results, Tryd.f24, go_sem, hc5, hc6]
    · exact boxBlock_kept (bs := D) (B := D + 1) (grownBy_putObj' _ D (.deferred none)) (fun r e => by cases e; exact .inl rfl) hc rfl (by rintro rfl; rw [hK] at hc; cases hc)
end Go.Proofs.YtoemgehbpamklaaDoor
end
section
/- Chapter 6, by the quick engine: csp.directive as a native. -/
set_option autoImplicit false
set_option linter.unusedSimpArgs false
set_option linter.unusedVariables false
namespace Go.Proofs.YtoemgehbpamklaaDoor
open Go Go.RowKit Go.Proofs.YtoemgehbpamklaaDoor.Abs

noncomputable def natDir : Native := fun args h =>
  match args with
  | [.string s, .string name] => .br (Nat.ble s.size 4294967296) (match (pieces 59 s).find? (dirHit name) with
    | none => .ret (.ret (.tuple #[.slice none 0 0, .bool false]), h)
    | some x => .ret (.ret (.tuple #[.slice (some ⟨h.n, (match lenL (wordsB x) with | 1 => 0 | _ => 1), none⟩) (lenL (wordsB x) - 1) 0, .bool true]), ⟨h.t.set h.n (some (.cells ((wordsB x).map Value.string) 9 true)), h.n + 1⟩)) .none
  | _ => .none
theorem dirHit_pos {name x : ByteArray} (h : dirHit name x = true) : 1 ≤ (wordsB x).length := by
  unfold dirHit at h
  split at h
  · rename_i y ws e
    rw [e, List.length_cons]
    omega
  · cases h
theorem natDir_ok {base : Nat} {w0 : Abs.Start} : NatOk Tryd.prog base w0 24 natDir := by
  intro args h r h' hg
  unfold natDir at hg
  split at hg
  rotate_left
  · cases hg
  rename_i s name
  obtain ⟨h1, hg⟩ := br_run hg
  have h1 := Nat.le_of_ble_eq_true h1
  split at hg
  · rename_i hf
    cases hg
    refine ⟨Nat.le_refl _, fun ι w args' hI hr hgl hfr => ?_⟩
    match args', hr with
    | [x', y'], ⟨hx, hy, _⟩ =>
    cases hx
    cases hy
    refine (Directive_calls s name h1 w).mono fun e w' hq => ?_
    obtain ⟨hb, ⟨_, rfl⟩ | ⟨A, x, hf2, _⟩⟩ := hq
    · exact ⟨ι, Turn.refl _ _ _, hI.still hb, _, rfl, two .nilSlice (.bool false)⟩
    · rw [hf] at hf2; cases hf2
  · rename_i x hf
    cases hg
    refine ⟨Nat.le_succ _, fun ι w args' hI hr hgl hfr => ?_⟩
    match args', hr with
    | [x', y'], ⟨hx, hy, _⟩ =>
    cases hx
    cases hy
    refine (Directive_calls s name h1 w).mono fun e w' hq => ?_
    obtain ⟨hb, ⟨hf2, _⟩ | ⟨A, x2, hf2, hA, rfl, hcell⟩⟩ := hq
    · rw [hf] at hf2; cases hf2
    · rw [hf] at hf2
      cases hf2
      have hpos := dirHit_pos (List.find?_some hf)
      have hI' := hI.still hb
      have hm := hfr h.n (Nat.le_refl _)
      have hAlt : A < w'.heap.size := (Array.getElem?_eq_some_iff.1 hcell).1
      have hnew := hI'.learn (m := h.n) hm hgl (.cells ((wordsB x).map Value.string) 9 true) ⟨A, 0, (wordsB x).length, 1⟩ (fun id j hj e => by
        have := hI.lt id j hj
        simp only at e
        omega) hAlt ⟨_, (0, 0), hcell, by simp, by simp, fun j c hj => ⟨c, by simpa using hj, VRel.of_flat (by
          obtain ⟨y, hy, rfl⟩ := List.mem_map.1 (List.mem_of_getElem? hj)
          rfl)⟩, by kernel_rfl, fun _ => ⟨by
          have := hI.below.size
          have := hI.base_le
          simp only
          omega, fun o _ x => by simp at x⟩⟩
      refine ⟨fupd ι h.n (some ⟨A, 0, (wordsB x).length, 1⟩), by rw [Tr.get_set_fun]; exact Turn.new hm _ _, by rw [Tr.get_set_fun]; exact hnew, _, rfl, two ?_ (.bool true)⟩
      rw [lenL_eq]
      unfold tailV
      obtain ⟨n, hn⟩ : ∃ n, (wordsB x).length = n + 1 := ⟨(wordsB x).length - 1, by omega⟩
      rw [hn]
      cases n with
      | zero => exact .slice h.n 0 0 0 0 ⟨A, 0, 0 + 1, 1⟩ ⟨A, 0, none⟩ (fupd_eq _ _ _) (Nat.le_refl _) (.inl rfl) (.inr ⟨rfl, rfl⟩)
      | succ n => exact .slice h.n 1 (n + 1) 0 (n + 1) ⟨A, 0, n + 1 + 1, 1⟩ ⟨A, 1, none⟩ (fupd_eq _ _ _) (Nat.le_refl _) (.inl rfl) (.inl ⟨rfl, by simp; omega⟩)
end Go.Proofs.YtoemgehbpamklaaDoor
end
section
/-
  DERIVED: THE SHELF's CONTRACTS AT THIS DUMP, IN PLAIN WORDS (tools/lay-plain.mjs out of 'TrydShelf.lean', which tools/lay-shelf.mjs wrote): THE SAME DECLARATIONS UNDER THE SAME NAMES: 'import', 'namespace', 'open', 'def', 'theorem' AND NOTHING ELSE: no command of the shelf's: FOR A HAND-IN. Each laying: the table of numbers ('.._ren') and one theorem, a field a fact of the dump's own or the kernel's comparison; each contract: ONE APPLICATION.
-/
namespace Go.Proofs.YtoemgehbpamklaaDoor.SB
open Go.Proofs
open Go.Shelf
def Tryd.lays172_ren : Go.Shelf.Ren := ⟨fun | 172 => 32 | 244 => 45 | 245 => 46 | 247 => 53 | 279 => 54 | 280 => 55 | 281 => 56 | 282 => 57 | 287 => 60 | 316 => 61 | 171 => 33 | 205 => 62 | 321 => 67 | 322 => 68 | 243 => 47 | 246 => 58 | 283 => 63 | 284 => 64 | 285 => 65 | 286 => 66 | 129 => 70 | 317 => 69 | 318 => 71 | 319 => 72 | 320 => 73 | 337 => 74 | 338 => 75 | n => n, fun | 9 => 9 | 3 => 3 | 75 => 57 | 76 => 58 | 4 => 4 | 5 => 5 | 167 => 77 | 37 => 43 | 0 => 0 | 85 => 78 | 2 => 2 | 168 => 80 | 53 => 84 | 175 => 85 | 46 => 30 | 210 => 88 | 127 => 100 | 145 => 103 | 143 => 101 | 21 => 21 | 171 => 90 | 173 => 93 | 212 => 105 | 51 => 72 | 20 => 20 | 213 => 106 | 232 => 110 | 233 => 111 | 80 => 112 | n => n, fun | 15 => 2 | 16 => 3 | 17 => 6 | 18 => 7 | 19 => 8 | n => n⟩
theorem Tryd.lays172 : Go.Proofs.Lays.n172 Tryd.prog Tryd.lays172_ren := {
  mixed := by kernel_rfl
  f129 := Tryd.func70.trans (congrArg some (by kernel_rfl))
  f171 := Tryd.func33.trans (congrArg some (by kernel_rfl))
  f172 := Tryd.func32.trans (congrArg some (by kernel_rfl))
  f205 := Tryd.func62.trans (congrArg some (by kernel_rfl))
  f243 := Tryd.func47.trans (congrArg some (by kernel_rfl))
  f244 := Tryd.func45.trans (congrArg some (by kernel_rfl))
  f245 := Tryd.func46.trans (congrArg some (by kernel_rfl))
  f246 := Tryd.func58.trans (congrArg some (by kernel_rfl))
  f247 := Tryd.func53.trans (congrArg some (by kernel_rfl))
  f279 := Tryd.func54.trans (congrArg some (by kernel_rfl))
  f280 := Tryd.func55.trans (congrArg some (by kernel_rfl))
  f281 := Tryd.func56.trans (congrArg some (by kernel_rfl))
  f282 := Tryd.func57.trans (congrArg some (by kernel_rfl))
  f283 := Tryd.func63.trans (congrArg some (by kernel_rfl))
  f284 := Tryd.func64.trans (congrArg some (by kernel_rfl))
  f285 := Tryd.func65.trans (congrArg some (by kernel_rfl))
  f286 := Tryd.func66.trans (congrArg some (by kernel_rfl))
  f287 := Tryd.func60.trans (congrArg some (by kernel_rfl))
  f316 := Tryd.func61.trans (congrArg some (by kernel_rfl))
  f317 := Tryd.func69.trans (congrArg some (by kernel_rfl))
  f318 := Tryd.func71.trans (congrArg some (by kernel_rfl))
  f319 := Tryd.func72.trans (congrArg some (by kernel_rfl))
  f320 := Tryd.func73.trans (congrArg some (by kernel_rfl))
  f321 := Tryd.func67.trans (congrArg some (by kernel_rfl))
  f322 := Tryd.func68.trans (congrArg some (by kernel_rfl))
  f337 := Tryd.func74.trans (congrArg some (by kernel_rfl))
  f338 := Tryd.func75.trans (congrArg some (by kernel_rfl))
  t0 := Tryd.underlying0
  a0 := Tryd.isAgg0
  z0 := Tryd.sizeOf0
  v0 := Tryd.zeroValue0
  t2 := Tryd.underlying2
  a2 := Tryd.isAgg2
  z2 := Tryd.sizeOf2
  v2 := Tryd.zeroValue2
  t3 := Tryd.underlying3
  a3 := Tryd.isAgg3
  z3 := Tryd.sizeOf3
  v3 := Tryd.zeroValue3
  t4 := Tryd.underlying4
  a4 := Tryd.isAgg4
  z4 := Tryd.sizeOf4
  v4 := Tryd.zeroValue4
  t5 := Tryd.underlying5
  a5 := Tryd.isAgg5
  z5 := Tryd.sizeOf5
  v5 := Tryd.zeroValue5
  t9 := Tryd.underlying9
  a9 := Tryd.isAgg9
  z9 := Tryd.sizeOf9
  v9 := Tryd.zeroValue9
  t20 := Tryd.underlying20
  a20 := Tryd.isAgg20
  z20 := Tryd.sizeOf20
  v20 := Tryd.zeroValue20
  t21 := Tryd.underlying21
  a21 := Tryd.isAgg21
  z21 := Tryd.sizeOf21
  v21 := Tryd.zeroValue21
  t37 := Tryd.underlying43
  a37 := Tryd.isAgg43
  z37 := Tryd.sizeOf43
  v37 := Tryd.zeroValue43
  t46 := Tryd.underlying30
  a46 := Tryd.isAgg30
  z46 := Tryd.sizeOf30
  v46 := Tryd.zeroValue30
  t51 := Tryd.underlying72
  a51 := Tryd.isAgg72
  z51 := Tryd.sizeOf72
  v51 := Tryd.zeroValue72
  t53 := Tryd.underlying84
  a53 := Tryd.isAgg84
  z53 := Tryd.sizeOf84
  v53 := Tryd.zeroValue84
  t75 := Tryd.underlying57
  a75 := Tryd.isAgg57
  z75 := Tryd.sizeOf57
  v75 := Tryd.zeroValue57
  t76 := Tryd.underlying58
  a76 := Tryd.isAgg58
  z76 := Tryd.sizeOf58
  v76 := Tryd.zeroValue58
  t85 := Tryd.underlying78
  a85 := Tryd.isAgg78
  z85 := Tryd.sizeOf78
  v85 := Tryd.zeroValue78
  t127 := Tryd.underlying100
  a127 := Tryd.isAgg100
  z127 := Tryd.sizeOf100
  v127 := Tryd.zeroValue100
  t143 := Tryd.underlying101
  a143 := Tryd.isAgg101
  z143 := Tryd.sizeOf101
  v143 := Tryd.zeroValue101
  t145 := Tryd.underlying103
  a145 := Tryd.isAgg103
  z145 := Tryd.sizeOf103
  v145 := Tryd.zeroValue103
  t167 := Tryd.underlying77
  a167 := Tryd.isAgg77
  z167 := Tryd.sizeOf77
  v167 := Tryd.zeroValue77
  t168 := Tryd.underlying80
  a168 := Tryd.isAgg80
  z168 := Tryd.sizeOf80
  v168 := Tryd.zeroValue80
  t171 := Tryd.underlying90
  a171 := Tryd.isAgg90
  z171 := Tryd.sizeOf90
  v171 := Tryd.zeroValue90
  t173 := Tryd.underlying93
  a173 := Tryd.isAgg93
  z173 := Tryd.sizeOf93
  v173 := Tryd.zeroValue93
  t175 := Tryd.underlying85
  a175 := Tryd.isAgg85
  z175 := Tryd.sizeOf85
  v175 := Tryd.zeroValue85
  t210 := Tryd.underlying88
  a210 := Tryd.isAgg88
  z210 := Tryd.sizeOf88
  v210 := Tryd.zeroValue88
  t212 := Tryd.underlying105
  a212 := Tryd.isAgg105
  z212 := Tryd.sizeOf105
  v212 := Tryd.zeroValue105
  t213 := Tryd.underlying106
  a213 := Tryd.isAgg106
  z213 := Tryd.sizeOf106
  t232 := Tryd.underlying110
  a232 := Tryd.isAgg110
  z232 := Tryd.sizeOf110
  v232 := Tryd.zeroValue110
  t233 := Tryd.underlying111
  a233 := Tryd.isAgg111
  z233 := Tryd.sizeOf111
  v233 := Tryd.zeroValue111
  g15 := by kernel_rfl
  g16 := by kernel_rfl
  g17 := by kernel_rfl
  g18 := by kernel_rfl
  g19 := by kernel_rfl }
open Go.RowKit in
/-- strconv.Atoi: "Atoi is equivalent to ParseInt(s, 10, 0), converted to type int.": AT A DECIMAL NUMERAL OF AT MOST 18 BYTES: its value, and a nil error. The world behind the call: the one new row that the library's '[]byte(s)' lays. (LAID: no walk: one application.) -/
theorem Tryd.strconv_Atoi (s : ByteArray) (n : Int) (hl : s.size ≤ 18) (h : Lib.atoi s.data.toList = some n) (w : World) :
    Calls Tryd.prog 32 #[.string s] w fun e w' => e = .returned (.tuple #[.int .i64 n, .nilIface]) ∧ ∃ t, w' = Lib.bytesWorld w 5 t := Any.strconv_Atoi Tryd.lays172 s n hl h w
def Tryd.laysM171_ren : Go.Shelf.Ren := ⟨fun | 171 => 33 | 243 => 47 | 246 => 58 | 283 => 63 | 284 => 64 | 285 => 65 | 286 => 66 | 129 => 70 | 317 => 69 | 318 => 71 | 319 => 72 | 320 => 73 | 337 => 74 | 338 => 75 | n => n, fun | 3 => 3 | 9 => 9 | 2 => 2 | 4 => 4 | 171 => 90 | 0 => 0 | 53 => 84 | 37 => 43 | 5 => 5 | 173 => 93 | 212 => 105 | 51 => 72 | 20 => 20 | 213 => 106 | 46 => 30 | 232 => 110 | 233 => 111 | n => n, fun | 17 => 6 | 18 => 7 | 19 => 8 | n => n⟩
theorem Tryd.laysM171 : Go.Proofs.LaysM.n171 Tryd.prog Tryd.laysM171_ren := {
  mixed := by kernel_rfl
  f129 := Tryd.func70.trans (congrArg some (by kernel_rfl))
  f171 := Tryd.func33.trans (congrArg some (by kernel_rfl))
  f243 := Tryd.func47.trans (congrArg some (by kernel_rfl))
  f246 := Tryd.func58.trans (congrArg some (by kernel_rfl))
  f283 := Tryd.func63.trans (congrArg some (by kernel_rfl))
  f284 := Tryd.func64.trans (congrArg some (by kernel_rfl))
  f285 := Tryd.func65.trans (congrArg some (by kernel_rfl))
  f286 := Tryd.func66.trans (congrArg some (by kernel_rfl))
  f317 := Tryd.func69.trans (congrArg some (by kernel_rfl))
  f318 := Tryd.func71.trans (congrArg some (by kernel_rfl))
  f319 := Tryd.func72.trans (congrArg some (by kernel_rfl))
  f320 := Tryd.func73.trans (congrArg some (by kernel_rfl))
  f337 := Tryd.func74.trans (congrArg some (by kernel_rfl))
  f338 := Tryd.func75.trans (congrArg some (by kernel_rfl))
  t0 := Tryd.underlying0
  a0 := Tryd.isAgg0
  z0 := Tryd.sizeOf0
  v0 := Tryd.zeroValue0
  t2 := Tryd.underlying2
  a2 := Tryd.isAgg2
  z2 := Tryd.sizeOf2
  v2 := Tryd.zeroValue2
  t3 := Tryd.underlying3
  a3 := Tryd.isAgg3
  z3 := Tryd.sizeOf3
  v3 := Tryd.zeroValue3
  t4 := Tryd.underlying4
  a4 := Tryd.isAgg4
  z4 := Tryd.sizeOf4
  v4 := Tryd.zeroValue4
  t5 := Tryd.underlying5
  a5 := Tryd.isAgg5
  z5 := Tryd.sizeOf5
  v5 := Tryd.zeroValue5
  t9 := Tryd.underlying9
  a9 := Tryd.isAgg9
  z9 := Tryd.sizeOf9
  v9 := Tryd.zeroValue9
  t20 := Tryd.underlying20
  a20 := Tryd.isAgg20
  z20 := Tryd.sizeOf20
  v20 := Tryd.zeroValue20
  t37 := Tryd.underlying43
  a37 := Tryd.isAgg43
  z37 := Tryd.sizeOf43
  v37 := Tryd.zeroValue43
  t46 := Tryd.underlying30
  a46 := Tryd.isAgg30
  z46 := Tryd.sizeOf30
  v46 := Tryd.zeroValue30
  t51 := Tryd.underlying72
  a51 := Tryd.isAgg72
  z51 := Tryd.sizeOf72
  v51 := Tryd.zeroValue72
  t53 := Tryd.underlying84
  a53 := Tryd.isAgg84
  z53 := Tryd.sizeOf84
  v53 := Tryd.zeroValue84
  t171 := Tryd.underlying90
  a171 := Tryd.isAgg90
  z171 := Tryd.sizeOf90
  v171 := Tryd.zeroValue90
  t173 := Tryd.underlying93
  a173 := Tryd.isAgg93
  z173 := Tryd.sizeOf93
  v173 := Tryd.zeroValue93
  t212 := Tryd.underlying105
  a212 := Tryd.isAgg105
  z212 := Tryd.sizeOf105
  v212 := Tryd.zeroValue105
  t213 := Tryd.underlying106
  a213 := Tryd.isAgg106
  z213 := Tryd.sizeOf106
  t232 := Tryd.underlying110
  a232 := Tryd.isAgg110
  z232 := Tryd.sizeOf110
  v232 := Tryd.zeroValue110
  t233 := Tryd.underlying111
  a233 := Tryd.isAgg111
  z233 := Tryd.sizeOf111
  v233 := Tryd.zeroValue111
  g17 := by kernel_rfl
  g18 := by kernel_rfl
  g19 := by kernel_rfl
  i0 := by kernel_rfl
  i2 := by kernel_rfl
  i3 := by kernel_rfl
  i4 := by kernel_rfl
  i5 := by kernel_rfl
  i9 := by kernel_rfl
  i20 := by kernel_rfl
  i37 := by kernel_rfl
  i46 := by kernel_rfl
  i51 := by kernel_rfl
  i53 := by kernel_rfl
  i171 := by kernel_rfl
  i173 := by kernel_rfl
  i212 := by kernel_rfl
  i232 := by kernel_rfl
  i233 := by kernel_rfl
  m17 := by kernel_rfl
  m18 := by kernel_rfl
  m19 := by kernel_rfl }
open Go.RowKit Go.Sort Go.Lib in
/-- strconv.Itoa: "Itoa is equivalent to FormatInt(int64(i), 10).": i's DECIMAL NUMERAL ('Lib.itoa': a '-' where i is negative, then the digits), FOR EVERY int. The world behind the call: the world before it, new blocks behind the heap (the library's 'var a [24]byte'), draws. (LAID: no walk: one application.) -/
theorem Tryd.strconv_Itoa (n : Int) (h0 : -9223372036854775808 ≤ n) (h1 : n ≤ 9223372036854775807) (w : World) (htab : Lib.TabIs Tryd.prog w "internal/strconv.uint64pow10" .u64 Lib.pow10Tab) :
    Calls Tryd.prog 33 #[.int .i64 n] w fun e w' => e = .returned (.string ⟨(Lib.itoa n).toArray⟩) ∧ ∃ k os, w' = grow (w.drewN k) os := Any.strconv_Itoa Tryd.laysM171 n h0 h1 w htab
def Tryd.laysC172_ren : Go.Shelf.Ren := ⟨fun | 172 => 32 | 244 => 45 | 245 => 46 | 247 => 53 | 279 => 54 | 280 => 55 | 281 => 56 | 282 => 57 | 287 => 60 | 316 => 61 | 171 => 33 | 205 => 62 | 321 => 67 | 322 => 68 | 243 => 47 | 246 => 58 | 283 => 63 | 284 => 64 | 285 => 65 | 286 => 66 | 129 => 70 | 317 => 69 | 318 => 71 | 319 => 72 | 320 => 73 | 337 => 74 | 338 => 75 | n => n, fun | 9 => 9 | 3 => 3 | 75 => 57 | 76 => 58 | 4 => 4 | 5 => 5 | 167 => 77 | 37 => 43 | 0 => 0 | 85 => 78 | 2 => 2 | 168 => 80 | 53 => 84 | 175 => 85 | 46 => 30 | 210 => 88 | 127 => 100 | 145 => 103 | 143 => 101 | 21 => 21 | 171 => 90 | 173 => 93 | 212 => 105 | 51 => 72 | 20 => 20 | 213 => 106 | 232 => 110 | 233 => 111 | 80 => 112 | n => n, fun | 15 => 2 | 16 => 3 | 17 => 6 | 18 => 7 | 19 => 8 | n => n⟩
theorem Tryd.laysC172 : Go.Proofs.LaysC.n172 Tryd.prog Tryd.laysC172_ren := {
  mixed := by kernel_rfl
  f129 := Tryd.func70.trans (congrArg some (by kernel_rfl))
  f171 := Tryd.func33.trans (congrArg some (by kernel_rfl))
  f172 := Tryd.func32.trans (congrArg some (by kernel_rfl))
  f205 := Tryd.func62.trans (congrArg some (by kernel_rfl))
  f243 := Tryd.func47.trans (congrArg some (by kernel_rfl))
  f244 := Tryd.func45.trans (congrArg some (by kernel_rfl))
  f245 := Tryd.func46.trans (congrArg some (by kernel_rfl))
  f246 := Tryd.func58.trans (congrArg some (by kernel_rfl))
  f247 := Tryd.func53.trans (congrArg some (by kernel_rfl))
  f279 := Tryd.func54.trans (congrArg some (by kernel_rfl))
  f280 := Tryd.func55.trans (congrArg some (by kernel_rfl))
  f281 := Tryd.func56.trans (congrArg some (by kernel_rfl))
  f282 := Tryd.func57.trans (congrArg some (by kernel_rfl))
  f283 := Tryd.func63.trans (congrArg some (by kernel_rfl))
  f284 := Tryd.func64.trans (congrArg some (by kernel_rfl))
  f285 := Tryd.func65.trans (congrArg some (by kernel_rfl))
  f286 := Tryd.func66.trans (congrArg some (by kernel_rfl))
  f287 := Tryd.func60.trans (congrArg some (by kernel_rfl))
  f316 := Tryd.func61.trans (congrArg some (by kernel_rfl))
  f317 := Tryd.func69.trans (congrArg some (by kernel_rfl))
  f318 := Tryd.func71.trans (congrArg some (by kernel_rfl))
  f319 := Tryd.func72.trans (congrArg some (by kernel_rfl))
  f320 := Tryd.func73.trans (congrArg some (by kernel_rfl))
  f321 := Tryd.func67.trans (congrArg some (by kernel_rfl))
  f322 := Tryd.func68.trans (congrArg some (by kernel_rfl))
  f337 := Tryd.func74.trans (congrArg some (by kernel_rfl))
  f338 := Tryd.func75.trans (congrArg some (by kernel_rfl))
  t0 := Tryd.underlying0
  a0 := Tryd.isAgg0
  z0 := Tryd.sizeOf0
  v0 := Tryd.zeroValue0
  t2 := Tryd.underlying2
  a2 := Tryd.isAgg2
  z2 := Tryd.sizeOf2
  v2 := Tryd.zeroValue2
  t3 := Tryd.underlying3
  a3 := Tryd.isAgg3
  z3 := Tryd.sizeOf3
  v3 := Tryd.zeroValue3
  t4 := Tryd.underlying4
  a4 := Tryd.isAgg4
  z4 := Tryd.sizeOf4
  v4 := Tryd.zeroValue4
  t5 := Tryd.underlying5
  a5 := Tryd.isAgg5
  z5 := Tryd.sizeOf5
  v5 := Tryd.zeroValue5
  t9 := Tryd.underlying9
  a9 := Tryd.isAgg9
  z9 := Tryd.sizeOf9
  v9 := Tryd.zeroValue9
  t20 := Tryd.underlying20
  a20 := Tryd.isAgg20
  z20 := Tryd.sizeOf20
  v20 := Tryd.zeroValue20
  t21 := Tryd.underlying21
  a21 := Tryd.isAgg21
  z21 := Tryd.sizeOf21
  v21 := Tryd.zeroValue21
  t37 := Tryd.underlying43
  a37 := Tryd.isAgg43
  z37 := Tryd.sizeOf43
  v37 := Tryd.zeroValue43
  t46 := Tryd.underlying30
  a46 := Tryd.isAgg30
  z46 := Tryd.sizeOf30
  v46 := Tryd.zeroValue30
  t51 := Tryd.underlying72
  a51 := Tryd.isAgg72
  z51 := Tryd.sizeOf72
  v51 := Tryd.zeroValue72
  t53 := Tryd.underlying84
  a53 := Tryd.isAgg84
  z53 := Tryd.sizeOf84
  v53 := Tryd.zeroValue84
  t75 := Tryd.underlying57
  a75 := Tryd.isAgg57
  z75 := Tryd.sizeOf57
  v75 := Tryd.zeroValue57
  t76 := Tryd.underlying58
  a76 := Tryd.isAgg58
  z76 := Tryd.sizeOf58
  v76 := Tryd.zeroValue58
  t85 := Tryd.underlying78
  a85 := Tryd.isAgg78
  z85 := Tryd.sizeOf78
  v85 := Tryd.zeroValue78
  t127 := Tryd.underlying100
  a127 := Tryd.isAgg100
  z127 := Tryd.sizeOf100
  v127 := Tryd.zeroValue100
  t143 := Tryd.underlying101
  a143 := Tryd.isAgg101
  z143 := Tryd.sizeOf101
  v143 := Tryd.zeroValue101
  t145 := Tryd.underlying103
  a145 := Tryd.isAgg103
  z145 := Tryd.sizeOf103
  v145 := Tryd.zeroValue103
  t167 := Tryd.underlying77
  a167 := Tryd.isAgg77
  z167 := Tryd.sizeOf77
  v167 := Tryd.zeroValue77
  t168 := Tryd.underlying80
  a168 := Tryd.isAgg80
  z168 := Tryd.sizeOf80
  v168 := Tryd.zeroValue80
  t171 := Tryd.underlying90
  a171 := Tryd.isAgg90
  z171 := Tryd.sizeOf90
  v171 := Tryd.zeroValue90
  t173 := Tryd.underlying93
  a173 := Tryd.isAgg93
  z173 := Tryd.sizeOf93
  v173 := Tryd.zeroValue93
  t175 := Tryd.underlying85
  a175 := Tryd.isAgg85
  z175 := Tryd.sizeOf85
  v175 := Tryd.zeroValue85
  t210 := Tryd.underlying88
  a210 := Tryd.isAgg88
  z210 := Tryd.sizeOf88
  v210 := Tryd.zeroValue88
  t212 := Tryd.underlying105
  a212 := Tryd.isAgg105
  z212 := Tryd.sizeOf105
  v212 := Tryd.zeroValue105
  t213 := Tryd.underlying106
  a213 := Tryd.isAgg106
  z213 := Tryd.sizeOf106
  t232 := Tryd.underlying110
  a232 := Tryd.isAgg110
  z232 := Tryd.sizeOf110
  v232 := Tryd.zeroValue110
  t233 := Tryd.underlying111
  a233 := Tryd.isAgg111
  z233 := Tryd.sizeOf111
  v233 := Tryd.zeroValue111
  g15 := by kernel_rfl
  g16 := by kernel_rfl
  g17 := by kernel_rfl
  g18 := by kernel_rfl
  g19 := by kernel_rfl
  t80 := Tryd.underlying112
  a80 := Tryd.isAgg112
  z80 := Tryd.sizeOf112
  v80 := Tryd.zeroValue112
  i0 := by kernel_rfl
  i2 := by kernel_rfl
  i3 := by kernel_rfl
  i4 := by kernel_rfl
  i5 := by kernel_rfl
  i9 := by kernel_rfl
  i20 := by kernel_rfl
  i21 := by kernel_rfl
  i37 := by kernel_rfl
  i46 := by kernel_rfl
  i51 := by kernel_rfl
  i53 := by kernel_rfl
  i75 := by kernel_rfl
  i76 := by kernel_rfl
  i80 := by kernel_rfl
  i85 := by kernel_rfl
  i127 := by kernel_rfl
  i143 := by kernel_rfl
  i145 := by kernel_rfl
  i167 := by kernel_rfl
  i168 := by kernel_rfl
  i171 := by kernel_rfl
  i173 := by kernel_rfl
  i175 := by kernel_rfl
  i210 := by kernel_rfl
  i212 := by kernel_rfl
  i232 := by kernel_rfl
  i233 := by kernel_rfl
  m15 := by kernel_rfl
  m16 := by kernel_rfl
  m17 := by kernel_rfl
  m18 := by kernel_rfl
  m19 := by kernel_rfl
  c0 := by kernel_rfl
  c2 := by kernel_rfl
  c3 := by kernel_rfl
  c4 := by kernel_rfl
  c5 := by kernel_rfl
  c9 := by kernel_rfl
  c20 := by kernel_rfl
  c21 := by kernel_rfl
  c37 := by kernel_rfl
  c46 := by kernel_rfl
  c51 := by kernel_rfl
  c53 := by kernel_rfl
  c75 := by kernel_rfl
  c76 := by kernel_rfl
  c80 := by kernel_rfl
  c85 := by kernel_rfl
  c127 := by kernel_rfl
  c143 := by kernel_rfl
  c145 := by kernel_rfl
  c167 := by kernel_rfl
  c168 := by kernel_rfl
  c171 := by kernel_rfl
  c173 := by kernel_rfl
  c175 := by kernel_rfl
  c210 := by kernel_rfl
  c212 := by kernel_rfl
  c213 := by kernel_rfl
  c232 := by kernel_rfl
  c233 := by kernel_rfl }
open Go.RowKit in
/-- strconv.Atoi, AT EVERY STRING OF AT MOST 18 BYTES THAT IS NO DECIMAL NUMERAL (the empty one too): 0, AND AN ERROR THAT IS NOT nil: a *NumError in a new block N: {Func: "Atoi", Num: s's bytes, Err: what the variable ErrSyntax holds}. Of what was there nothing has turned. (LAID: no walk: one application.) -/
theorem Tryd.strconv_Atoi_err (s : ByteArray) (hl : s.size ≤ 18) (h : Lib.atoi s.data.toList = none) (ev : Value) (w : World) (hv : w.cell? ⟨2, 0, none⟩ = some ev) (hev : ev = .nilIface ∨ ∃ te pe, ev = .iface te pe) :
    Calls Tryd.prog 32 #[.string s] w fun e w' => ∃ N, e = .returned (.tuple #[.int .i64 0, .iface 80 (.pointer (some ⟨N, 0, none⟩))]) ∧ w.heap.size ≤ N ∧ w'.heap[N]? = some (.cells #[.string ⟨#[65, 116, 111, 105]⟩, .string s, ev] 88 (0, 0)) ∧ Below w.heap.size w w' := Any.strconv_Atoi_err Tryd.laysC172 s hl h ev w hv hev
end Go.Proofs.YtoemgehbpamklaaDoor.SB
end
section
/- url.Port: a number's own text gives it, what is no number nothing. -/
set_option linter.unusedSimpArgs false
set_option linter.unusedVariables false
namespace Go.Proofs.YtoemgehbpamklaaDoor
open Go Go.RowKit Go.Shelf Go.Proofs Go.Proofs.YtoemgehbpamklaaDoorW.PrintWords Go.Proofs.YtoemgehbpamklaaDoorW.PrintLast Go.Proofs.YtoemgehbpamklaaDoorW.PrintMore
attribute [local go_sem] Oper.semAt_some

/-- Of strconv's variables: the table of powers, the error. -/
structure PortAt (w : World) : Prop where
  tab : Lib.TabIs Tryd.prog w "internal/strconv.uint64pow10" .u64 Lib.pow10Tab
  err : ∃ te pe, w.cell? ⟨2, 0, none⟩ = some (.iface te pe)
theorem var_below {w w' : World} {n : String} {cs : Array Value} (h : w.var? Tryd.prog n = some cs) (hb : Below w.heap.size w w') : w'.var? Tryd.prog n = some cs := by
  unfold World.var? at h ⊢
  cases hg : Tryd.prog.globalNamed n with
  | none => rw [hg] at h; cases h
  | some g =>
    rw [hg] at h
    simp only [Option.bind_some] at h ⊢
    cases hc : w.heap[g]? with
    | none => rw [hc] at h; cases h
    | some o => rw [hb.block g (Array.getElem?_eq_some_iff.1 hc).1, hc]; rw [hc] at h; exact h
theorem PortAt.below {w w' : World} (h : PortAt w) (hb : Below w.heap.size w w') : PortAt w' := by
  obtain ⟨te, pe, he⟩ := h.err
  refine ⟨var_below h.tab hb, te, pe, ?_⟩
  rw [← he]
  refine hb.cell ?_
  apply Classical.byContradiction
  intro hn
  have : w.heap[2]? = none := Array.getElem?_eq_none (by simp only [] at hn; omega)
  simp [World.cell?, this] at he

set_option maxRecDepth 100000 in
set_option maxHeartbeats 2000000 in
theorem Port_bad (s : ByteArray) (hl : s.size ≤ 18) (h : Lib.atoi s.data.toList = none) (w : World) (hw : PortAt w) :
    Calls Tryd.prog 23 #[.string s] w fun e w' => e = .returned (.tuple #[.int .i64 0, .bool false]) ∧ Below w.heap.size w w' := by
  obtain ⟨te, pe, he⟩ := hw.err
  have hA := SB.Tryd.strconv_Atoi_err s hl h (.iface te pe) w he (.inr ⟨te, pe, rfl⟩)
  go_enter Tryd.func23, Tryd.ntmps23
  go_wp2_with (go_at_call 32; refine hA.mono ?_; rintro e w1 ⟨N, rfl, _, _, hb⟩)
  go_wp2
  go_ret2
  exact ⟨rfl, hb⟩
set_option maxRecDepth 100000 in
set_option maxHeartbeats 2000000 in
theorem Port_good (s : ByteArray) (n : Int) (hn : n = 443 ∨ n = 8443) (hl : s.size ≤ 18) (h : Lib.atoi s.data.toList = some n) (hs : (⟨(Lib.itoa n).toArray⟩ : ByteArray) = s) (w : World) (hw : PortAt w) :
    Calls Tryd.prog 23 #[.string s] w fun e w' => e = .returned (.tuple #[.int .i64 n, .bool true]) ∧ Below w.heap.size w w' := by
  have hA : Calls Tryd.prog 32 #[.string s] w fun e w' => e = .returned (.tuple #[.int .i64 n, .nilIface]) ∧ Below w.heap.size w w' := (SB.Tryd.strconv_Atoi s n hl h w).mono fun e w' ⟨he, t, ht⟩ => ⟨he, by rw [ht]; exact Lib.bytesWorld_below _ _ _⟩
  have hI : ∀ w1, Below w.heap.size w w1 → Calls Tryd.prog 33 #[.int .i64 n] w1 fun e w' => e = .returned (.string s) ∧ Below w.heap.size w w' := fun w1 hb => by
    have hI := SB.Tryd.strconv_Itoa n (by omega) (by omega) w1 (hw.below hb).tab
    rw [hs] at hI
    exact hI.mono fun e w' ⟨he, k, os, hk⟩ => ⟨he, hb.trans (hk ▸ Lib.below_grow _ _ hb.size k os)⟩
  clear hs h hw hl
  rcases hn with rfl | rfl <;>
  · go_enter Tryd.func23, Tryd.ntmps23
    go_wp2_with (go_at_call 32; refine hA.mono ?_; rintro e w1 ⟨rfl, hb⟩)
    have hI := hI w1 hb
    go_wp2_with (go_at_call 33; refine hI.mono ?_; rintro e w2 ⟨rfl, hb2⟩)
    go_wp2
    go_ret2
    exact ⟨rfl, hb2⟩
end Go.Proofs.YtoemgehbpamklaaDoor
end
section
/- Listed maps of texts to numbers or texts: what each looks up, as a list; the sketch of a world with such maps. -/
set_option autoImplicit false
set_option linter.unusedSimpArgs false
set_option linter.unusedVariables false
namespace Go.Proofs.YtoemgehbpamklaaDoor.Abs
open Go Go.RowKit

/-- A listed element as a value. -/
def litV : DataW Unit → Option Value
  | .lit (.int k z) => some (.int k z)
  | .lit (.string l) => some (.string ⟨⟨l⟩⟩)
  | _ => none
/-- A listed map as a list of texts and values. -/
def tabOf : List (Lit × DataW Unit) → Option (List (ByteArray × Value))
  | [] => some []
  | (.string l, d) :: r => match litV d, tabOf r with
    | some v, some t => some ((⟨⟨l⟩⟩, v) :: t)
    | _, _ => none
  | _ => none
theorem litV_flat {d : DataW Unit} {v : Value} (h : litV d = some v) : flat v = true := by
  unfold litV at h
  split at h <;> first | (cases h; rfl) | cases h
theorem tabOf_some : ∀ {L : List (Lit × DataW Unit)} {f : List (ByteArray × Value)}, tabOf L = some f → ∀ s : ByteArray, match assocT f s with
    | some v => ∃ d, (Lit.string s.data.toList, d) ∈ L ∧ litV d = some v
    | none => ∀ d, (Lit.string s.data.toList, d) ∉ L
  | [], f, h, s => by cases h; intro d hd; cases hd
  | (.string l, d) :: r, f, h, s => by
    unfold tabOf at h
    split at h
    · rename_i v t hv ht
      cases h
      have ih := tabOf_some ht s
      show match (if beqB s ⟨⟨l⟩⟩ = true then some v else assocT t s) with | some v => _ | none => _
      by_cases hb : beqB s ⟨⟨l⟩⟩ = true
      · rw [if_pos hb]
        have e : s.data.toList = l := by simpa [beqB] using hb
        exact ⟨d, by rw [e]; exact List.mem_cons_self, hv⟩
      · rw [if_neg hb]
        have hne : s.data.toList ≠ l := fun e => hb (by simp [beqB, e])
        cases hu : assocT t s with
        | some u =>
          rw [hu] at ih
          obtain ⟨d', h1, h2⟩ := ih
          exact ⟨d', List.mem_cons_of_mem _ h1, h2⟩
        | none =>
          rw [hu] at ih
          intro d' hd
          rcases List.mem_cons.1 hd with e | hd
          · simp only [Prod.mk.injEq, Lit.string.injEq] at e
            exact hne e.1
          · exact ih d' hd
    · cases h
  | (.int _ _, _) :: _, _, h, _ => by cases h
  | (.bool _, _) :: _, _, h, _ => by cases h
  | (.float _ _, _) :: _, _, h, _ => by cases h

theorem one_cell {P : Program} {e : TypeId} {v x : Value} (he : P.underlying e = some .string ∨ ∃ kd, P.underlying e = some (.int kd)) (hf : v.formed P e = true) (hc : v.cells.toList = [x]) : v = x := by
  cases v with
  | agg cs =>
    unfold Value.formed at hf
    rcases he with h | ⟨kd, h⟩ <;> rw [h] at hf <;> cases hf
  | tuple cs => cases hf
  | _ => simpa [Value.cells] using hc

structure TabAt (P : Program) (w : World) (g bm : Nat) (f : List (ByteArray × Value)) : Prop where
  cell : ∃ ty fz, w.heap[g]? = some (.cells #[.map (some bm)] ty fz)
  map : ∃ es clock, w.heap[bm]? = some (.map es clock) ∧ ∀ kt s, P.underlying kt = some .string → match assocT f s with
      | some v => flat v = true ∧ ∃ j, ∀ w', (Instr.findKey kt (.string s) es.toList).run P w' = .ok (some (j, v)) w'
      | none => ∀ w', (Instr.findKey kt (.string s) es.toList).run P w' = .ok none w'
theorem TabAt.below {P : Program} {w w' : World} {g bm : Nat} {f : List (ByteArray × Value)} (h : TabAt P w g bm f) (hb : Below w.heap.size w w') : TabAt P w' g bm f := by
  obtain ⟨⟨ty, fz, h1⟩, ⟨es, clock, h2, h3⟩⟩ := h
  exact ⟨⟨ty, fz, (hb.block _ (Array.getElem?_eq_some_iff.1 h1).1).trans h1⟩, ⟨es, clock, (hb.block _ (Array.getElem?_eq_some_iff.1 h2).1).trans h2, h3⟩⟩

theorem mem_pair {α : Type} {a b : α} (hne : a ≠ b) : ∀ {l : List α}, a ∈ l → b ∈ l → [a, b].Sublist l ∨ [b, a].Sublist l
  | x :: l, ha, hb => by
    rcases List.mem_cons.1 ha with rfl | ha2
    · rcases List.mem_cons.1 hb with rfl | hb
      · exact absurd rfl hne
      · exact .inl ((List.singleton_sublist.2 hb).cons_cons _)
    · rcases List.mem_cons.1 hb with hb | hb
      · subst hb
        exact .inr ((List.singleton_sublist.2 ha2).cons_cons _)
      · rcases mem_pair hne ha2 hb with h | h
        · exact .inl (h.cons _)
        · exact .inr (h.cons _)
open Go.WideElems in
theorem tab_of_laid {P : Program} {w : World} {l : List (String × DataW Unit)} (h : laidMet P l w) {n : String} {L : List (Lit × DataW Unit)} (hm : (n, DataW.map L) ∈ l) {g : Nat} {t k e : TypeId} (hg : P.globalNamed n = some g) (ht : (P.globals[g]?).map (·.type) = some t)
    (hut : P.underlying t = some (.map k e)) (hk : P.underlying k = some .string) (he : P.underlying e = some .string ∨ ∃ kd, P.underlying e = some (.int kd)) {f : List (ByteArray × Value)} (hf : tabOf L = some f) : ∃ bm, TabAt P w g bm f := by
  obtain ⟨g', t', cs, fuel, p, h1, h2, h3, h4⟩ := Lib.laidMet.reads h hm
  obtain rfl := Option.some.inj (hg.symm.trans h1)
  obtain rfl := Option.some.inj (ht.symm.trans h2)
  have hv : ∃ ty fz, w.heap[g]? = some (.cells cs ty fz) := by
    unfold World.var? at h3
    rw [hg] at h3
    simp only [Option.bind_some] at h3
    split at h3
    · rename_i cs' ty fz hh
      cases h3
      exact ⟨ty, fz, hh⟩
    · cases h3
  rcases WideElems.open_map hut h4 with ⟨_, hx⟩ | ⟨bm, es, clock, m, _, hcs, hb, _, F, hx⟩
  · cases hx
  simp only [Prod.mk.injEq, DataW.map.injEq] at hx
  obtain ⟨ty, fz, hh⟩ := hv
  obtain ⟨cl⟩ := cs
  simp only at hcs
  subst hcs
  refine ⟨bm, ⟨ty, fz, hh⟩, es, clock, hb, fun kt s hkt => ?_⟩
  generalize hR : elemAt (fun _ : TypeId × Value => ()) P w 0 (fun _ => true) false m e = R at F hx
  have hL := hx.1.symm
  have perm := WideShapes.sorted_perm (es.toList.map (rg P k R))
  rw [hL] at perm
  have one : ∀ x ∈ es.toList, ∃ s' v d, x.key = .string s' ∧ x.val = v ∧ litV d = some v ∧ rg P k R x = (.string s'.data.toList, d) := by
    intro x hx
    obtain ⟨y, hy⟩ := F.reads x hx
    obtain ⟨s', e1, e2, _⟩ := WideMaps.string_of_keyOf hk (rd_key hy)
    unfold rd at hy
    rw [Option.bind_eq_some_iff] at hy
    obtain ⟨key, hk1, hy⟩ := hy
    obtain ⟨y2, hy2, rfl⟩ := Option.map_eq_some_iff.1 hy
    rw [← hR] at hy2
    unfold elemAt at hy2
    split at hy2
    · rename_i hform
      have hr : rg P k R x = (key, y2.1) := by
        unfold rg rd
        rw [hk1, ← hR]
        simp only [Option.bind_some]
        unfold elemAt
        rw [if_pos hform, hy2]
        rfl
      rcases he with he | ⟨kd, he⟩
      · obtain ⟨b, hb1, hb2, _⟩ := DataW.trod_string he hy2
        have hbx : x.val = .string b := one_cell (.inl he) hform hb1
        refine ⟨s', .string b, .lit (.string b.data.toList), e1, hbx, rfl, ?_⟩
        rw [hr, hb2]
        exact Prod.ext e2 rfl
      · obtain ⟨z, hz1, hz2, _⟩ := DataW.trod_int he hy2
        have hbx : x.val = .int kd z := one_cell (.inr ⟨kd, he⟩) hform hz1
        refine ⟨s', .int kd z, .lit (.int kd z), e1, hbx, rfl, ?_⟩
        rw [hr, hz2]
        exact Prod.ext e2 rfl
    · cases hy2
  have there : ∀ x ∈ es.toList, x.key = .string s → ∃ d, litV d = some x.val ∧ (Lit.string s.data.toList, d) ∈ L := by
    intro x hx hxk
    obtain ⟨s', v, d, e1, e2, e3, e4⟩ := one x hx
    rw [hxk] at e1
    cases e1
    exact ⟨d, by rw [e2]; exact e3, perm.mem_iff.2 (List.mem_map.2 ⟨x, hx, e4⟩)⟩
  have back : ∀ d, (Lit.string s.data.toList, d) ∈ L → ∃ x ∈ es.toList, x.key = .string s ∧ litV d = some x.val := by
    intro d hd
    obtain ⟨x, hx, hr⟩ := List.mem_map.1 (perm.mem_iff.1 hd)
    obtain ⟨s', v, d', e1, e2, e3, e4⟩ := one x hx
    rw [e4] at hr
    simp only [Prod.mk.injEq, Lit.string.injEq] at hr
    rw [str_eq hr.1] at e1
    exact ⟨x, hx, e1, by rw [← hr.2, e2]; exact e3⟩
  have hks : ∀ x ∈ es.toList, MapKept.IsKey .string x.key := fun x hx => by
    obtain ⟨s', _, _, e1, _⟩ := one x hx
    rw [e1]
    trivial
  obtain ⟨_, hnk, hap⟩ := (MapKept.stamped_iff es clock).1 F.stamped
  have hfs := tabOf_some hf s
  rcases MapKept.findNow_spec (d := .string) (k := .string s) trivial es.toList 0 hks with ⟨q1, q2⟩ | ⟨j, e0, q1, q2, q3⟩
  · cases hfn : assocT f s with
    | some v =>
      rw [hfn] at hfs
      obtain ⟨d, hd, _⟩ := hfs
      obtain ⟨x, hx, hxk, _⟩ := back d hd
      exact absurd hxk (q2 x hx)
    | none => exact fun w' => MapKept.run_findKey hkt q1
  · have he0 : e0 ∈ es.toList := List.mem_of_getElem? q2
    cases hfn : assocT f s with
    | some v =>
      rw [hfn] at hfs
      obtain ⟨d, hd, hdv⟩ := hfs
      obtain ⟨x, hx, hxk, hxv⟩ := back d hd
      have hxe : x = e0 := by
        apply Classical.byContradiction
        intro hne
        have hps : ∀ {a b : MapEntry}, [a, b].Sublist es.toList → a.key ≠ b.key := List.pairwise_iff_forall_sublist.1 hap
        rcases mem_pair hne hx he0 with hsub | hsub
        · exact hps hsub (hxk.trans q3.symm)
        · exact hps hsub (q3.trans hxk.symm)
      subst hxe
      rw [hdv] at hxv
      have hvv : v = x.val := Option.some.inj hxv
      rw [hvv]
      exact ⟨litV_flat (d := d) (by rw [hdv, hvv]), 0 + j, fun w' => MapKept.run_findKey hkt q1⟩
    | none =>
      rw [hfn] at hfs
      obtain ⟨d, _, hd⟩ := there e0 he0 q3
      exact absurd hd (hfs d)
/-- The sketch of a world with a listed map more: g the variable, m the map's number in the sketch. -/
theorem TabAt.inv {P : Program} {w : World} {g bm : Nat} {f : List (ByteArray × Value)} (h : TabAt P w g bm f) {m : Nat} (hm : P.globals.size ≤ m) (hgm : g < P.globals.size) {ι0 ι : Nat → Option Loc} {H : Nat → Option AObj} (hI : Inv P w.heap.size ⟨w, ι0⟩ ι H w)
    (h1 : ι g = none) (h2 : ι m = none) (hold : ∀ id j o', ι id = some j → H id = some o' → o'.wr = false) :
    ∃ e i j, Inv P w.heap.size ⟨w, ι0⟩ (fupd (fupd ι m (some i)) g (some j)) (fupd (fupd H m (some (.table f))) g (some (.cells [.map (some m)] e false))) w := by
  obtain ⟨⟨ty, fz, hc⟩, es, clock, hb, hF⟩ := h
  have hI1 := hI.know h2 (i := ⟨bm, 0, 0, 0⟩) (Array.getElem?_eq_some_iff.1 hb).1 (o := .table f) rfl ⟨es, clock, hb, hF⟩ hold (fun h => absurd h (by omega))
  have hne : g ≠ m := by omega
  have hold' : ∀ id j o', fupd ι m (some ⟨bm, 0, 0, 0⟩) id = some j → fupd H m (some (.table f)) id = some o' → o'.wr = false := by
    intro id j o' a b
    by_cases e : id = m
    · subst e
      rw [fupd_eq] at b
      cases b
      rfl
    · rw [fupd_ne _ _ _ _ e] at a b
      exact hold id j o' a b
  refine ⟨ty, ⟨bm, 0, 0, 0⟩, ⟨g, 0, 1, szD P ty⟩, hI1.know (by rw [fupd_ne _ _ _ _ hne]; exact h1) (Array.getElem?_eq_some_iff.1 hc).1 rfl ⟨#[.map (some bm)], fz, hc, rfl, by simp, ?_, rfl, fun h => by cases h⟩ hold' (fun _ => ⟨rfl, rfl⟩)⟩
  intro j c hj
  match j, hj with
  | 0, hj =>
    simp only [List.getElem?_cons_zero, Option.some.injEq] at hj
    subst hj
    refine ⟨.map (some bm), rfl, .map m ⟨bm, 0, 0, 0⟩ ?_⟩
    rw [fupd_ne _ _ _ _ (by omega), fupd_eq]
  | j + 1, hj => simp at hj
end Go.Proofs.YtoemgehbpamklaaDoor.Abs
end
section
/- Chapter 6, by the quick engine: what is given of functions; what is known of the world. -/
set_option autoImplicit false
set_option linter.unusedSimpArgs false
set_option linter.unusedVariables false
namespace Go.Proofs.YtoemgehbpamklaaDoor
open Go Go.RowKit Go.Proofs.YtoemgehbpamklaaDoor.Abs

/-! ### url.Port at three texts -/
noncomputable def sPort : List Value → NTree Value
  | [.string s] => .br (beqB s ⟨⟨[42]⟩⟩) (.ret (.tuple #[.int .i64 (.ofNat 0), .bool false])) (.br (beqB s ⟨⟨[52, 52, 51]⟩⟩) (.ret (.tuple #[.int .i64 (.ofNat 443), .bool true])) (.br (beqB s ⟨⟨[56, 52, 52, 51]⟩⟩) (.ret (.tuple #[.int .i64 (.ofNat 8443), .bool true])) .none))
  | _ => .none
theorem beqB_eq {s : ByteArray} {l : List UInt8} (h : beqB s ⟨⟨l⟩⟩ = true) : s = ⟨⟨l⟩⟩ := by
  obtain ⟨⟨x⟩⟩ := s
  have : (x == l) = true := h
  rw [eq_of_beq this]
theorem br_run3 {α : Type} {b : Bool} {x y : NTree α} {r : α} (h : (NTree.br b x y).run = some r) : (b = true ∧ x.run = some r) ∨ (b = false ∧ y.run = some r) := by
  cases b with
  | true => exact .inl ⟨rfl, h⟩
  | false => exact .inr ⟨rfl, h⟩
theorem sPort_ok {w : World} {ι0 : Nat → Option Abs.Loc} (hp : PortAt w) : NatOk Tryd.prog w.heap.size ⟨w, ι0⟩ 23 (natFlat sPort) := by
  refine natFlat_ok fun args v hv => ?_
  unfold sPort at hv
  split at hv
  · rename_i s
    rcases br_run3 hv with ⟨h1, h⟩ | ⟨_, h⟩
    · cases h
      refine ⟨rfl, rfl, fun w' hb => ?_⟩
      rw [beqB_eq h1]
      exact Port_bad _ (by decide) (by kernel_rfl) w' (hp.below hb)
    rcases br_run3 h with ⟨h1, h⟩ | ⟨_, h⟩
    · cases h
      refine ⟨rfl, rfl, fun w' hb => ?_⟩
      rw [beqB_eq h1]
      exact Port_good _ 443 (.inl rfl) (by decide) (by kernel_rfl) (by kernel_rfl) w' (hp.below hb)
    rcases br_run3 h with ⟨h1, h⟩ | ⟨_, h⟩
    · cases h
      refine ⟨rfl, rfl, fun w' hb => ?_⟩
      rw [beqB_eq h1]
      exact Port_good _ 8443 (.inr rfl) (by decide) (by kernel_rfl) (by kernel_rfl) w' (hp.below hb)
    · cases h
  · cases hv

noncomputable def G0 : GivenT := gAdd 23 (natFlat sPort) (gAdd 22 (natFlat sHost2) (gAdd 8 (natFlat sLower) (gAdd 24 natDir (gAdd 10 (natFlat sCut) gNone))))
noncomputable def addN (n f : Nat) (g : Native) (T : Tr Ent) : Tr Ent := T.set f (some ⟨n, natF n g⟩)
theorem addN_ok {P : Program} {G : GivenT} {T : Tr Ent} {n f : Nat} {g : Native} (hT : TabOk P G T) (hG : G f = some g) : TabOk P G (addN n f g T) := hT.add (natF_ok hG)
/-- The natives on a table. -/
noncomputable def natT (T : Tr Ent) : Tr Ent := addN 1 23 (natFlat sPort) (addN 1 22 (natFlat sHost2) (addN 1 8 (natFlat sLower) (addN 2 24 natDir (addN 2 10 (natFlat sCut) T))))

/-! ### The world -/
def portsT : List (ByteArray × Value) := [(⟨⟨[104, 116, 116, 112]⟩⟩, .int .i64 (.ofNat 80)), (⟨⟨[104, 116, 116, 112, 115]⟩⟩, .int .i64 (.ofNat 443))]
structure CspWorld (w : World) : Prop where
  max : MaxAt w
  port : PortAt w
  ports : ∃ bm, TabAt Tryd.prog w 0 bm portsT
theorem CspWorld.below {w w' : World} (h : CspWorld w) (hb : Below w.heap.size w w') : CspWorld w' :=
  ⟨h.max.below hb (Nat.le_refl _), h.port.below hb, h.ports.imp fun _ x => x.below hb⟩
theorem G0_ok {w : World} {ι0 : Nat → Option Abs.Loc} (h : CspWorld w) : GivenOk Tryd.prog w.heap.size ⟨w, ι0⟩ G0 :=
  ((((GivenOk.none.add (sCut_ok h.max)).add natDir_ok).add sLower_ok).add sHost2_ok).add (sPort_ok h.port)
noncomputable def hW (e1 : Nat) : Hp := ⟨(Tr.nil.set 13 (some (.table portsT))).set 0 (some (.cells [.map (some 13)] e1 false)), 14⟩
theorem noNG_prog : noNG Tryd.prog = true := by kernel_rfl
theorem gsize : Tryd.prog.globals.size = 9 := by kernel_rfl
theorem CspWorld.inv {w : World} (h : CspWorld w) (z0 z1 z2 z3 : Int) : ∃ e1 ι, Inv Tryd.prog w.heap.size ⟨w, ι⟩ ι (hW e1).t.get w ∧ (∀ id, 14 ≤ id → ι id = none) ∧ ι 9 = some (tokLoc z0) ∧ ι 10 = some (tokLoc z1) ∧ ι 11 = some (tokLoc z2) ∧ ι 12 = some (tokLoc z3) := by
  obtain ⟨hmax, hp, ⟨b1, t1⟩⟩ := h
  have hw : 0 < w.heap.size := by
    obtain ⟨m, hm⟩ := hmax
    apply Classical.byContradiction
    intro hn
    have : w.heap[1]? = none := Array.getElem?_eq_none (by omega)
    simp [World.cell?, this] at hm
  have n0 := (Inv.start w (P := Tryd.prog)).name (m := 9) rfl rfl (by rw [gsize]; decide) hw z0
  have n1 := n0.name (m := 10) rfl rfl (by rw [gsize]; decide) hw z1
  have n2 := n1.name (m := 11) rfl rfl (by rw [gsize]; decide) hw z2
  have n3 := n2.name (m := 12) rfl rfl (by rw [gsize]; decide) hw z3
  obtain ⟨e1, i1, j1, hI1⟩ := t1.inv (m := 13) (by rw [gsize]; decide) (by rw [gsize]; decide) n3 rfl rfl (fun id j o' _ h => by cases h)
  have hf := hI1.fix
  have he : (hW e1).t.get = fupd (fupd (fun _ => none) 13 (some (.table portsT))) 0 (some (.cells [.map (some 13)] e1 false)) := by
    unfold hW
    rw [Tr.get_set_fun, Tr.get_set_fun]
    rfl
  rw [← he] at hf
  refine ⟨e1, _, hf, fun id hid => ?_, rfl, rfl, rfl, rfl⟩
  unfold fupd
  simp only []
  repeat (first | rfl | (rw [if_neg (by omega)]))
noncomputable def kTrue (v : Value) (h : Hp) : Bool :=
  match v with
  | .bool b => b
  | _ => false
theorem kTrue_ok {v : Value} {h : Hp} (hk : kTrue v h = true) : v = .bool true := by
  unfold kTrue at hk
  split at hk
  · rw [hk]
  · cases hk
noncomputable def sTrue : List Value → NTree Value
  | [] => .ret (.bool true)
  | _ => .none
noncomputable def allB (f : Nat → Bool) (n : Nat) : Bool := Nat.rec (motive := fun _ => Bool) true (fun k ih => Bool.rec (motive := fun _ => Bool) false ih (f k)) n
theorem allB_ok {f : Nat → Bool} : ∀ {n : Nat}, allB f n = true → ∀ i, i < n → f i = true
  | 0, _, i, hi => by omega
  | n + 1, h, i, hi => by
    have h' : Bool.rec (motive := fun _ => Bool) false (allB f n) (f n) = true := h
    cases hf : f n with
    | false => rw [hf] at h'; cases h'
    | true =>
      rw [hf] at h'
      by_cases e : i = n
      · rw [e]; exact hf
      · exact allB_ok (show allB f n = true from h') i (by omega)
end Go.Proofs.YtoemgehbpamklaaDoor
end
section
/- Functions of the program as terms of the quick engine; each is what its code comes to. -/
set_option autoImplicit false
set_option linter.unusedVariables false
set_option maxRecDepth 100000
namespace Go.Proofs.YtoemgehbpamklaaDoor
open Go Go.RowKit Go.Proofs.YtoemgehbpamklaaDoor.Abs
noncomputable def F5 (R : Ops) (C : Callees) : FnT 3 := fun v1 v2 v3 v4 kr => R.bx 26 v4 v2 fun v5 v6 => R.bx 26 v6 v3 fun v7 v8 => R.jn (fun J9 : Cur (Hp → Bool) 1 => C 8 1 v1 v8 fun va vb => R.jn (fun Jc : Cur (Hp → Bool) 0 => R.bs .eql va (.string ⟨⟨[39,115,101,108,102,39]⟩⟩) fun vd => R.br vd (R.ln 4 vb v7 fun ve => R.ln 4 vb v5 fun vf => C 9 2 ve vf vb fun vg vh => kr vg vh) (R.bs .eql va (.string ⟨⟨[42]⟩⟩) fun vi => R.br vi (kr (.bool true) vb) (R.jn (fun Jj : Cur (Hp → Bool) 1 => R.bs .eql va (.string ⟨⟨[104,116,116,112,58]⟩⟩) fun vk => R.br vk (Jj vk vb) (R.bs .eql va (.string ⟨⟨[104,116,116,112,115,58]⟩⟩) fun vl => Jj vl vb)) fun vm vn => R.br vm (R.fa 1 v7 fun vo => R.l1 vn vo fun vp => R.bs .add vp (.string ⟨⟨[58]⟩⟩) fun vq => R.bs .eql va vq fun vr => kr vr vn) (Jc vn)))) fun vs => J9 va vs) fun vt vu => C 10 2 vt (.string ⟨⟨[58,47,47]⟩⟩) vu fun vv vw => R.ex 0 vv fun vx => R.ex 1 vv fun vy => R.ex 2 vv fun vz => R.jn (fun J10 : Cur (Hp → Bool) 2 => R.nt vz fun v11 => R.br v11 (J10 (.string ⟨⟨[]⟩⟩) vt vw) (J10 vx vy vw)) fun v12 v13 v14 => R.jn (fun J15 : Cur (Hp → Bool) 0 => R.jn (fun J16 : Cur (Hp → Bool) 0 => R.jn (fun J17 : Cur (Hp → Bool) 1 => R.gd true vz (R.bs .neq v12 (.string ⟨⟨[104,116,116,112]⟩⟩) fun v18 => J17 v18 v14) (J17 undef v14)) fun v19 v1a => R.pk vz v19 (.bool false) fun v1b => R.jn (fun J1c : Cur (Hp → Bool) 1 => R.gd true v1b (R.bs .neq v12 (.string ⟨⟨[104,116,116,112,115]⟩⟩) fun v1d => J1c v1d v1a) (J1c undef v1a)) fun v1e v1f => R.pk v1b v1e (.bool false) fun v1g => R.br v1g (kr (.bool false) v1f) (R.jn (fun J1h : Cur (Hp → Bool) 1 => R.jn (fun J1i : Cur (Hp → Bool) 1 => R.gd true vz (R.fa 1 v7 fun v1j => R.l1 v1f v1j fun v1k => R.bs .neq v12 v1k fun v1l => J1i v1l v1f) (J1i undef v1f)) fun v1m v1n => R.pk vz v1m (.bool false) fun v1o => R.br v1o (J1h v1o v1n) (R.nt vz fun v1p => R.jn (fun J1q : Cur (Hp → Bool) 1 => R.gd true v1p (R.fa 1 v7 fun v1r => R.l1 v1n v1r fun v1s => R.fa 1 v5 fun v1t => R.l1 v1n v1t fun v1u => R.bs .neq v1s v1u fun v1v => J1q v1v v1n) (J1q undef v1n)) fun v1w v1x => R.pk v1p v1w (.bool false) fun v1y => R.jn (fun J1z : Cur (Hp → Bool) 1 => R.gd true v1y (R.fa 1 v7 fun v20 => R.l1 v1x v20 fun v21 => R.bs .neq v21 (.string ⟨⟨[104,116,116,112,115]⟩⟩) fun v22 => J1z v22 v1x) (J1z undef v1x)) fun v23 v24 => R.pk v1y v23 (.bool false) fun v25 => J1h v25 v24)) fun v26 v27 => R.br v26 (kr (.bool false) v27) (J16 v27))) fun v28 => J15 v28) fun v29 => C 10 2 v13 (.string ⟨⟨[58]⟩⟩) v29 fun v2a v2b => R.ex 0 v2a fun v2c => R.ex 1 v2a fun v2d => R.ex 2 v2a fun v2e => R.fa 2 v7 fun v2f => R.l1 v2b v2f fun v2g => C 11 2 v2c v2g v2b fun v2h v2i => R.jn (fun J2j : Cur (Hp → Bool) 1 => R.gd true v2h (R.ln 4 v2i v7 fun v2k => C 12 3 v2d v2e v2k v2i fun v2l v2m => J2j v2l v2m) (J2j undef v2i)) fun v2n v2o => R.pk v2h v2n (.bool false) fun v2p => kr v2p v2o
theorem F5_eq (R : Ops) (C : Callees) : F5 R C = fnOf Tryd.prog R C 3 Tryd.f5 (bodyOf Tryd.prog 5) := by kernel_rfl

noncomputable def F6 (R : Ops) (C : Callees) : FnT 3 := fun v1 v2 v3 v4 kr => R.bx 26 v4 v2 fun v5 v6 => R.bx 26 v6 v3 fun v7 v8 => C 13 1 v1 v8 fun v9 va => R.ex 0 v9 fun vb => R.ex 1 v9 fun vc => R.nt vc fun vd => R.jn (fun Je : Cur (Hp → Bool) 1 => R.gd false vd (C 14 2 vb (.func (.func 15) ⟨[]⟩ ⟨[v5, v7]⟩) va fun vf vg => Je vf vg) (Je undef va)) fun vh vi => R.pk vd (.bool true) vh fun vj => kr vj vi
theorem F6_eq (R : Ops) (C : Callees) : F6 R C = fnOf Tryd.prog R C 3 Tryd.f6 (bodyOf Tryd.prog 6) := by kernel_rfl

noncomputable def F9 (R : Ops) (C : Callees) : FnT 2 := fun v1 v2 v3 kr => R.bx 26 v3 v1 fun v4 v5 => R.bx 26 v5 v2 fun v6 v7 => R.fa 1 v4 fun v8 => R.l1 v7 v8 fun v9 => R.fa 1 v6 fun va => R.l1 v7 va fun vb => R.bs .eql v9 vb fun vc => R.jn (fun Jd : Cur (Hp → Bool) 1 => R.gd true vc (R.fa 2 v4 fun ve => R.l1 v7 ve fun vf => R.fa 2 v6 fun vg => R.l1 v7 vg fun vh => R.bs .eql vf vh fun vi => Jd vi v7) (Jd undef v7)) fun vj vk => R.pk vc vj (.bool false) fun vl => R.jn (fun Jm : Cur (Hp → Bool) 1 => R.gd true vl (R.fa 3 v4 fun vn => R.l1 vk vn fun vo => R.fa 3 v6 fun vp => R.l1 vk vp fun vq => R.bi .eql vo vq fun vr => Jm vr vk) (Jm undef vk)) fun vs vt => R.pk vl vs (.bool false) fun vu => kr vu vt
theorem F9_eq (R : Ops) (C : Callees) : F9 R C = fnOf Tryd.prog R C 2 Tryd.f9 (bodyOf Tryd.prog 9) := by kernel_rfl

noncomputable def F11 (R : Ops) (C : Callees) : FnT 2 := fun v1 v2 v3 kr => R.jn (fun J4 : Cur (Hp → Bool) 0 => C 20 2 v1 (.string ⟨⟨[42,46]⟩⟩) v3 fun v5 v6 => R.ex 0 v5 fun v7 => R.ex 1 v5 fun v8 => R.br v8 (C 21 2 v2 v7 v6 fun v9 va => R.jn (fun Jb : Cur (Hp → Bool) 1 => R.gd true v9 (R.bs .neq v2 v7 fun vc => Jb vc va) (Jb undef va)) fun vd ve => R.pk v9 vd (.bool false) fun vf => kr vf ve) (J4 v6)) fun vg => C 22 1 v1 vg fun vh vi => R.jn (fun Jj : Cur (Hp → Bool) 1 => R.gd true vh (R.bs .eql v1 v2 fun vk => Jj vk vi) (Jj undef vi)) fun vl vm => R.pk vh vl (.bool false) fun vn => kr vn vm
theorem F11_eq (R : Ops) (C : Callees) : F11 R C = fnOf Tryd.prog R C 2 Tryd.f11 (bodyOf Tryd.prog 11) := by kernel_rfl

noncomputable def F12 (R : Ops) (C : Callees) : FnT 3 := fun v1 v2 v3 v4 kr => R.bx 26 v4 v3 fun v5 v6 => R.jn (fun J7 : Cur (Hp → Bool) 0 => R.nt v2 fun v8 => R.br v8 (R.fa 3 v5 fun v9 => R.l1 v6 v9 fun va => R.gl 0 v6 fun vb => R.l1 v6 vb fun vc => R.fa 1 v5 fun vd => R.l1 v6 vd fun ve => R.lk 46 v6 vc ve false fun vf => R.bi .eql va vf fun vg => kr vg v6) (J7 v6)) fun vh => C 23 1 v1 vh fun vi vj => R.ex 0 vi fun vk => R.ex 1 vi fun vl => R.bs .eql v1 (.string ⟨⟨[42]⟩⟩) fun vm => R.jn (fun Jn : Cur (Hp → Bool) 1 => R.gd false vm (Jn vl vj) (Jn undef vj)) fun vo vp => R.jn (fun Jq : Cur (Hp → Bool) 1 => R.gd true vo (R.fa 3 v5 fun vr => R.l1 vp vr fun vs => R.bi .eql vk vs fun vt => Jq vt vp) (Jq undef vp)) fun vu vv => R.jn (fun Jw : Cur (Hp → Bool) 1 => R.gd false vm (R.pk vo vu (.bool false) fun vx => Jw vx vv) (Jw undef vv)) fun vy vz => R.pk vm (.bool true) vy fun v10 => kr v10 vz
theorem F12_eq (R : Ops) (C : Callees) : F12 R C = fnOf Tryd.prog R C 3 Tryd.f12 (bodyOf Tryd.prog 12) := by kernel_rfl

noncomputable def F13 (R : Ops) (C : Callees) : FnT 1 := fun v1 v2 kr => R.jn (fun J3 : Cur (Hp → Bool) 0 => C 24 2 v1 (.string ⟨⟨[115,99,114,105,112,116,45,115,114,99]⟩⟩) v2 fun v4 v5 => R.ex 0 v4 fun v6 => R.ex 1 v4 fun v7 => R.br v7 (kr (.tuple ⟨[v6, (.bool true)]⟩) v5) (J3 v5)) fun v8 => C 24 2 v1 (.string ⟨⟨[100,101,102,97,117,108,116,45,115,114,99]⟩⟩) v8 fun v9 va => R.ex 0 v9 fun vb => R.ex 1 v9 fun vc => kr (.tuple ⟨[vb, vc]⟩) va
theorem F13_eq (R : Ops) (C : Callees) : F13 R C = fnOf Tryd.prog R C 1 Tryd.f13 (bodyOf Tryd.prog 13) := by kernel_rfl

noncomputable def F14 (R : Ops) (C : Callees) : FnT 2 := fun v1 v2 v3 kr => C 25 2 v1 v2 v3 fun v4 v5 => R.bi .geq v4 (.int .i64 (.ofNat 0)) fun v6 => kr v6 v5
theorem F14_eq (R : Ops) (C : Callees) : F14 R C = fnOf Tryd.prog R C 2 Tryd.f14 (bodyOf Tryd.prog 14) := by kernel_rfl

noncomputable def F15 (R : Ops) (C : Callees) : FnT 3 := fun v1 v2 v3 v4 kr => R.ln 4 v4 v2 fun v5 => R.ln 4 v4 v3 fun v6 => C 5 3 v1 v5 v6 v4 fun v7 v8 => kr v7 v8
theorem F15_eq (R : Ops) (C : Callees) : F15 R C = fnOf Tryd.prog R C 3 Tryd.f15 (bodyOf Tryd.prog 15) := by kernel_rfl

noncomputable def F16 (R : Ops) (C : Callees) : FnT 2 := fun v1 v2 v3 kr => R.jn (fun J4 : Cur (Hp → Bool) 1 => R.lv v1 fun v5 => R.lv v2 fun v6 => R.bi .neq v5 v6 fun v7 => R.br v7 (kr (.bool false) v3) (J4 (.bool false) v3)) fun v8 v9 => R.jn (fun Ja : Cur (Hp → Bool) 0 => R.jn (fun Jb : Cur (Hp → Bool) 0 => R.lp 2 (fun Jc vd ve vf => R.jn (fun Jg : Cur (Hp → Bool) 0 => R.lv v1 fun vh => R.bi .lss ve vh fun vi => R.br vi (Jg vf) (Jb vf)) fun vj => R.jn (fun Jk : Cur (Hp → Bool) 1 => R.jn (fun Jl : Cur (Hp → Bool) 1 => R.xs 1 v1 ve fun vm => R.l1 vj vm fun vn => R.xs 1 v2 ve fun vo => R.l1 vj vo fun vp => R.bs .neq vn vp fun vq => R.bo (R.l1 vj vo fun vr => R.eq vr vp) (R.bo (R.l1 vj vm fun vs => R.eq vs vn) (R.br vq (kr (.bool false) vj) (Jl vd vj)))) fun vt vu => Jk vt vu) fun vv vw => R.bi .add ve (.int .i64 (.ofNat 1)) fun vx => Jc vv vx vw) fuel v8 (.int .i64 (.ofNat 0)) v9) fun vy => Ja vy) fun vz => kr (.bool true) vz
theorem F16_eq (R : Ops) (C : Callees) : F16 R C = fnOf Tryd.prog R C 2 Tryd.f16 (bodyOf Tryd.prog 16) := by kernel_rfl

noncomputable def F17 (R : Ops) (C : Callees) : FnT 0 := fun v1 kr => R.al 26 [(.string ⟨⟨[]⟩⟩), (.string ⟨⟨[]⟩⟩), (.string ⟨⟨[]⟩⟩), (.int .i64 (.ofNat 0))] v1 fun v2 v3 => R.bd 26 [(1, (.string ⟨⟨[104,116,116,112,115]⟩⟩)), (2, (.string ⟨⟨[97,46,116,101,115,116]⟩⟩)), (3, (.int .i64 (.ofNat 443)))] fun v4 => R.sn 4 v3 v2 v4 fun v5 v6 => R.ln 4 v6 v2 fun v7 => kr v7 v6
theorem F17_eq (R : Ops) (C : Callees) : F17 R C = fnOf Tryd.prog R C 0 Tryd.f17 (bodyOf Tryd.prog 17) := by kernel_rfl

noncomputable def F18 (R : Ops) (C : Callees) : FnT 1 := fun v1 v2 kr => C 13 1 v1 v2 fun v3 v4 => R.ex 0 v3 fun v5 => R.ex 1 v3 fun v6 => R.nt v6 fun v7 => R.jn (fun J8 : Cur (Hp → Bool) 1 => R.gd false v7 (C 26 2 v5 (.string ⟨⟨[39,117,110,115,97,102,101,45,105,110,108,105,110,101,39]⟩⟩) v4 fun v9 va => J8 v9 va) (J8 undef v4)) fun vb vc => R.pk v7 (.bool true) vb fun vd => kr vd vc
theorem F18_eq (R : Ops) (C : Callees) : F18 R C = fnOf Tryd.prog R C 1 Tryd.f18 (bodyOf Tryd.prog 18) := by kernel_rfl

noncomputable def F20 (R : Ops) (C : Callees) : FnT 2 := fun v1 v2 v3 kr => C 28 2 v1 v2 v3 fun v4 v5 => R.ex 0 v4 fun v6 => R.ex 1 v4 fun v7 => kr (.tuple ⟨[v6, v7]⟩) v5
theorem F20_eq (R : Ops) (C : Callees) : F20 R C = fnOf Tryd.prog R C 2 Tryd.f20 (bodyOf Tryd.prog 20) := by kernel_rfl

noncomputable def F21 (R : Ops) (C : Callees) : FnT 2 := fun v1 v2 v3 kr => C 22 1 v1 v3 fun v4 v5 => R.jn (fun J6 : Cur (Hp → Bool) 1 => R.gd true v4 (C 22 1 v2 v5 fun v7 v8 => J6 v7 v8) (J6 undef v5)) fun v9 va => R.pk v4 v9 (.bool false) fun vb => R.jn (fun Jc : Cur (Hp → Bool) 1 => R.gd true vb (R.bs .eql v1 v2 fun vd => Jc vd va) (Jc undef va)) fun ve vf => R.jn (fun Jg : Cur (Hp → Bool) 1 => R.gd false ve (R.bs .add (.string ⟨⟨[46]⟩⟩) v2 fun vh => C 29 2 v1 vh vf fun vi vj => Jg vi vj) (Jg undef vf)) fun vk vl => R.jn (fun Jm : Cur (Hp → Bool) 1 => R.gd true vb (R.pk ve (.bool true) vk fun vn => Jm vn vl) (Jm undef vl)) fun vo vp => R.pk vb vo (.bool false) fun vq => kr vq vp
theorem F21_eq (R : Ops) (C : Callees) : F21 R C = fnOf Tryd.prog R C 2 Tryd.f21 (bodyOf Tryd.prog 21) := by kernel_rfl

noncomputable def F25 (R : Ops) (C : Callees) : FnT 2 := fun v1 v2 v3 kr => R.jn (fun J4 : Cur (Hp → Bool) 0 => R.lv v1 fun v5 => R.jn (fun J6 : Cur (Hp → Bool) 0 => R.lp 2 (fun J7 v8 v9 va => R.bi .lss v9 v5 fun vb => R.jn (fun Jc : Cur (Hp → Bool) 0 => R.br vb (Jc va) (J6 va)) fun vd => R.jn (fun Je : Cur (Hp → Bool) 1 => R.jn (fun Jf : Cur (Hp → Bool) 1 => R.xs 1 v1 v9 fun vg => R.l1 vd vg fun vh => R.dy C v2 [vh] vd fun vi vj => R.br vi (kr v9 vj) (Jf v8 vj)) fun vk vl => Je vk vl) fun vm vn => R.bi .add v9 (.int .i64 (.ofNat 1)) fun vo => J7 vm vo vn) fuel (.int .i64 (.ofNat 0)) (.int .i64 (.ofNat 0)) v3) fun vp => J4 vp) fun vq => kr (.int .i64 (.negSucc 0)) vq
theorem F25_eq (R : Ops) (C : Callees) : F25 R C = fnOf Tryd.prog R C 2 Tryd.f25 (bodyOf Tryd.prog 25) := by kernel_rfl

noncomputable def F26 (R : Ops) (C : Callees) : FnT 2 := fun v1 v2 v3 kr => C 36 2 v1 v2 v3 fun v4 v5 => R.bi .geq v4 (.int .i64 (.ofNat 0)) fun v6 => kr v6 v5
theorem F26_eq (R : Ops) (C : Callees) : F26 R C = fnOf Tryd.prog R C 2 Tryd.f26 (bodyOf Tryd.prog 26) := by kernel_rfl

noncomputable def F28 (R : Ops) (C : Callees) : FnT 2 := fun v1 v2 v3 kr => R.jn (fun J4 : Cur (Hp → Bool) 0 => C 41 2 v1 v2 v3 fun v5 v6 => R.nt v5 fun v7 => R.br v7 (kr (.tuple ⟨[v1, (.bool false)]⟩) v6) (J4 v6)) fun v8 => R.ls v2 fun v9 => R.ss v1 (some v9) none fun va => kr (.tuple ⟨[va, (.bool true)]⟩) v8
theorem F28_eq (R : Ops) (C : Callees) : F28 R C = fnOf Tryd.prog R C 2 Tryd.f28 (bodyOf Tryd.prog 28) := by kernel_rfl

noncomputable def F29 (R : Ops) (C : Callees) : FnT 2 := fun v1 v2 v3 kr => C 42 2 v1 v2 v3 fun v4 v5 => kr v4 v5
theorem F29_eq (R : Ops) (C : Callees) : F29 R C = fnOf Tryd.prog R C 2 Tryd.f29 (bodyOf Tryd.prog 29) := by kernel_rfl

noncomputable def F36 (R : Ops) (C : Callees) : FnT 2 := fun v1 v2 v3 kr => R.jn (fun J4 : Cur (Hp → Bool) 0 => R.lv v1 fun v5 => R.jn (fun J6 : Cur (Hp → Bool) 0 => R.lp 2 (fun J7 v8 v9 va => R.bi .lss v9 v5 fun vb => R.jn (fun Jc : Cur (Hp → Bool) 0 => R.br vb (Jc va) (J6 va)) fun vd => R.jn (fun Je : Cur (Hp → Bool) 1 => R.jn (fun Jf : Cur (Hp → Bool) 1 => R.xs 1 v1 v9 fun vg => R.l1 vd vg fun vh => R.bs .eql v2 vh fun vi => R.br vi (kr v9 vd) (Jf v8 vd)) fun vj vk => Je vj vk) fun vl vm => R.bi .add v9 (.int .i64 (.ofNat 1)) fun vn => J7 vl vn vm) fuel (.int .i64 (.ofNat 0)) (.int .i64 (.ofNat 0)) v3) fun vo => J4 vo) fun vp => kr (.int .i64 (.negSucc 0)) vp
theorem F36_eq (R : Ops) (C : Callees) : F36 R C = fnOf Tryd.prog R C 2 Tryd.f36 (bodyOf Tryd.prog 36) := by kernel_rfl

noncomputable def F41 (R : Ops) (C : Callees) : FnT 2 := fun v1 v2 v3 kr => R.ls v1 fun v4 => R.ls v2 fun v5 => R.bi .geq v4 v5 fun v6 => R.jn (fun J7 : Cur (Hp → Bool) 1 => R.gd true v6 (R.ls v2 fun v8 => R.ss v1 none (some v8) fun v9 => R.bs .eql v9 v2 fun va => J7 va v3) (J7 undef v3)) fun vb vc => R.pk v6 vb (.bool false) fun vd => kr vd vc
theorem F41_eq (R : Ops) (C : Callees) : F41 R C = fnOf Tryd.prog R C 2 Tryd.f41 (bodyOf Tryd.prog 41) := by kernel_rfl

noncomputable def F42 (R : Ops) (C : Callees) : FnT 2 := fun v1 v2 v3 kr => R.ls v1 fun v4 => R.ls v2 fun v5 => R.bi .geq v4 v5 fun v6 => R.jn (fun J7 : Cur (Hp → Bool) 1 => R.gd true v6 (R.ls v1 fun v8 => R.ls v2 fun v9 => R.bi .sub v8 v9 fun va => R.ss v1 (some va) none fun vb => R.bs .eql vb v2 fun vc => J7 vc v3) (J7 undef v3)) fun vd ve => R.pk v6 vd (.bool false) fun vf => kr vf ve
theorem F42_eq (R : Ops) (C : Callees) : F42 R C = fnOf Tryd.prog R C 2 Tryd.f42 (bodyOf Tryd.prog 42) := by kernel_rfl

theorem F5_ent {G : GivenT} (hG : G 5 = none) : EntOk Tryd.prog G 5 ⟨3, F5 (theOps Tryd.prog)⟩ := ent_of_fn F5_eq Tryd.func5 (by kernel_rfl) hG
theorem F6_ent {G : GivenT} (hG : G 6 = none) : EntOk Tryd.prog G 6 ⟨3, F6 (theOps Tryd.prog)⟩ := ent_of_fn F6_eq Tryd.func6 (by kernel_rfl) hG
theorem F9_ent {G : GivenT} (hG : G 9 = none) : EntOk Tryd.prog G 9 ⟨2, F9 (theOps Tryd.prog)⟩ := ent_of_fn F9_eq Tryd.func9 (by kernel_rfl) hG
theorem F11_ent {G : GivenT} (hG : G 11 = none) : EntOk Tryd.prog G 11 ⟨2, F11 (theOps Tryd.prog)⟩ := ent_of_fn F11_eq Tryd.func11 (by kernel_rfl) hG
theorem F12_ent {G : GivenT} (hG : G 12 = none) : EntOk Tryd.prog G 12 ⟨3, F12 (theOps Tryd.prog)⟩ := ent_of_fn F12_eq Tryd.func12 (by kernel_rfl) hG
theorem F13_ent {G : GivenT} (hG : G 13 = none) : EntOk Tryd.prog G 13 ⟨1, F13 (theOps Tryd.prog)⟩ := ent_of_fn F13_eq Tryd.func13 (by kernel_rfl) hG
theorem F14_ent {G : GivenT} (hG : G 14 = none) : EntOk Tryd.prog G 14 ⟨2, F14 (theOps Tryd.prog)⟩ := ent_of_fn F14_eq Tryd.func14 (by kernel_rfl) hG
theorem F15_ent {G : GivenT} (hG : G 15 = none) : EntOk Tryd.prog G 15 ⟨3, F15 (theOps Tryd.prog)⟩ := ent_of_fn F15_eq Tryd.func15 (by kernel_rfl) hG
theorem F16_ent {G : GivenT} (hG : G 16 = none) : EntOk Tryd.prog G 16 ⟨2, F16 (theOps Tryd.prog)⟩ := ent_of_fn F16_eq Tryd.func16 (by kernel_rfl) hG
theorem F17_ent {G : GivenT} (hG : G 17 = none) : EntOk Tryd.prog G 17 ⟨0, F17 (theOps Tryd.prog)⟩ := ent_of_fn F17_eq Tryd.func17 (by kernel_rfl) hG
theorem F18_ent {G : GivenT} (hG : G 18 = none) : EntOk Tryd.prog G 18 ⟨1, F18 (theOps Tryd.prog)⟩ := ent_of_fn F18_eq Tryd.func18 (by kernel_rfl) hG
theorem F20_ent {G : GivenT} (hG : G 20 = none) : EntOk Tryd.prog G 20 ⟨2, F20 (theOps Tryd.prog)⟩ := ent_of_fn F20_eq Tryd.func20 (by kernel_rfl) hG
theorem F21_ent {G : GivenT} (hG : G 21 = none) : EntOk Tryd.prog G 21 ⟨2, F21 (theOps Tryd.prog)⟩ := ent_of_fn F21_eq Tryd.func21 (by kernel_rfl) hG
theorem F25_ent {G : GivenT} (hG : G 25 = none) : EntOk Tryd.prog G 25 ⟨2, F25 (theOps Tryd.prog)⟩ := ent_of_fn F25_eq Tryd.func25 (by kernel_rfl) hG
theorem F26_ent {G : GivenT} (hG : G 26 = none) : EntOk Tryd.prog G 26 ⟨2, F26 (theOps Tryd.prog)⟩ := ent_of_fn F26_eq Tryd.func26 (by kernel_rfl) hG
theorem F28_ent {G : GivenT} (hG : G 28 = none) : EntOk Tryd.prog G 28 ⟨2, F28 (theOps Tryd.prog)⟩ := ent_of_fn F28_eq Tryd.func28 (by kernel_rfl) hG
theorem F29_ent {G : GivenT} (hG : G 29 = none) : EntOk Tryd.prog G 29 ⟨2, F29 (theOps Tryd.prog)⟩ := ent_of_fn F29_eq Tryd.func29 (by kernel_rfl) hG
theorem F36_ent {G : GivenT} (hG : G 36 = none) : EntOk Tryd.prog G 36 ⟨2, F36 (theOps Tryd.prog)⟩ := ent_of_fn F36_eq Tryd.func36 (by kernel_rfl) hG
theorem F41_ent {G : GivenT} (hG : G 41 = none) : EntOk Tryd.prog G 41 ⟨2, F41 (theOps Tryd.prog)⟩ := ent_of_fn F41_eq Tryd.func41 (by kernel_rfl) hG
theorem F42_ent {G : GivenT} (hG : G 42 = none) : EntOk Tryd.prog G 42 ⟨2, F42 (theOps Tryd.prog)⟩ := ent_of_fn F42_eq Tryd.func42 (by kernel_rfl) hG
def fsF : List Nat := [5, 6, 9, 11, 12, 13, 14, 15, 16, 17, 18, 20, 21, 25, 26, 28, 29, 36, 41, 42]
noncomputable def tabF : Tr Ent := (Tr.set (Tr.set (Tr.set (Tr.set (Tr.set (Tr.set (Tr.set (Tr.set (Tr.set (Tr.set (Tr.set (Tr.set (Tr.set (Tr.set (Tr.set (Tr.set (Tr.set (Tr.set (Tr.set (Tr.set .nil 5 (some ⟨3, F5 (theOps Tryd.prog)⟩)) 6 (some ⟨3, F6 (theOps Tryd.prog)⟩)) 9 (some ⟨2, F9 (theOps Tryd.prog)⟩)) 11 (some ⟨2, F11 (theOps Tryd.prog)⟩)) 12 (some ⟨3, F12 (theOps Tryd.prog)⟩)) 13 (some ⟨1, F13 (theOps Tryd.prog)⟩)) 14 (some ⟨2, F14 (theOps Tryd.prog)⟩)) 15 (some ⟨3, F15 (theOps Tryd.prog)⟩)) 16 (some ⟨2, F16 (theOps Tryd.prog)⟩)) 17 (some ⟨0, F17 (theOps Tryd.prog)⟩)) 18 (some ⟨1, F18 (theOps Tryd.prog)⟩)) 20 (some ⟨2, F20 (theOps Tryd.prog)⟩)) 21 (some ⟨2, F21 (theOps Tryd.prog)⟩)) 25 (some ⟨2, F25 (theOps Tryd.prog)⟩)) 26 (some ⟨2, F26 (theOps Tryd.prog)⟩)) 28 (some ⟨2, F28 (theOps Tryd.prog)⟩)) 29 (some ⟨2, F29 (theOps Tryd.prog)⟩)) 36 (some ⟨2, F36 (theOps Tryd.prog)⟩)) 41 (some ⟨2, F41 (theOps Tryd.prog)⟩)) 42 (some ⟨2, F42 (theOps Tryd.prog)⟩))
theorem tabF_ok {G : GivenT} (h : ∀ g, g ∈ fsF → G g = none) : TabOk Tryd.prog G tabF := (TabOk.add (TabOk.add (TabOk.add (TabOk.add (TabOk.add (TabOk.add (TabOk.add (TabOk.add (TabOk.add (TabOk.add (TabOk.add (TabOk.add (TabOk.add (TabOk.add (TabOk.add (TabOk.add (TabOk.add (TabOk.add (TabOk.add (TabOk.add .nil (F5_ent (h 5 (by decide)))) (F6_ent (h 6 (by decide)))) (F9_ent (h 9 (by decide)))) (F11_ent (h 11 (by decide)))) (F12_ent (h 12 (by decide)))) (F13_ent (h 13 (by decide)))) (F14_ent (h 14 (by decide)))) (F15_ent (h 15 (by decide)))) (F16_ent (h 16 (by decide)))) (F17_ent (h 17 (by decide)))) (F18_ent (h 18 (by decide)))) (F20_ent (h 20 (by decide)))) (F21_ent (h 21 (by decide)))) (F25_ent (h 25 (by decide)))) (F26_ent (h 26 (by decide)))) (F28_ent (h 28 (by decide)))) (F29_ent (h 29 (by decide)))) (F36_ent (h 36 (by decide)))) (F41_ent (h 41 (by decide)))) (F42_ent (h 42 (by decide))))
end Go.Proofs.YtoemgehbpamklaaDoor
end
section
/- Functions of the program as terms of the quick engine; each is what its code comes to. -/
set_option autoImplicit false
set_option linter.unusedVariables false
set_option maxRecDepth 100000
namespace Go.Proofs.YtoemgehbpamklaaDoor
open Go Go.RowKit Go.Proofs.YtoemgehbpamklaaDoor.Abs
noncomputable def L3 (R : Ops) (C : Callees) : FnT 7 := fun v1 v2 v3 v4 v5 v6 v7 v8 kr => R.bl 22 3 [(0, (.string ⟨⟨[]⟩⟩)), (1, (.string ⟨⟨[104,116,116,112,58,47,47]⟩⟩)), (2, (.string ⟨⟨[104,116,116,112,115,58,47,47]⟩⟩))] v8 fun v9 va => R.bl 22 4 [(0, (.string ⟨⟨[]⟩⟩)), (1, (.string ⟨⟨[58,42]⟩⟩)), (2, (.string ⟨⟨[58,56,52,52,51]⟩⟩)), (3, (.string ⟨⟨[58,52,52,51]⟩⟩))] va fun vb vc => C 4 2 v2 (.int .i64 (.ofNat 3)) vc fun vd ve => C 4 2 v3 (.int .i64 (.ofNat 4)) ve fun vf vg => R.xs 1 v9 vd fun vh => R.l1 vg vh fun vi => R.jn (fun Jj : Cur (Hp → Bool) 1 => R.br v1 (R.bs .add vi (.string ⟨⟨[42,46]⟩⟩) fun vk => Jj vk vg) (Jj vi vg)) fun vl vm => R.bs .add vl (.string ⟨⟨[97,46,116,101,115,116]⟩⟩) fun vn => R.xs 1 vb vf fun vo => R.l1 vm vo fun vp => R.bs .add vn vp fun vq => R.bl 24 3 [(0, (.int .i64 (.ofNat 80))), (1, (.int .i64 (.ofNat 443))), (2, (.int .i64 (.ofNat 8443)))] vm fun vr vs => C 4 2 v4 (.int .i64 (.ofNat 4)) vs fun vt vu => C 4 2 v5 (.int .i64 (.ofNat 3)) vu fun vv vw => R.xs 1 vr vv fun vx => R.l1 vw vx fun vy => R.bo (R.l1 vw vx fun vz => R.eq vz vy) (R.bl 22 4 [(0, (.string ⟨⟨[97,46,116,101,115,116]⟩⟩)), (1, (.string ⟨⟨[98,46,97,46,116,101,115,116]⟩⟩)), (2, (.string ⟨⟨[98,97,46,116,101,115,116]⟩⟩)), (3, (.string ⟨⟨[99,46,98,46,97,46,116,101,115,116]⟩⟩))] vw fun v10 v11 => R.xs 1 v10 vt fun v12 => R.l1 v11 v12 fun v13 => R.bd 26 [(1, (.string ⟨⟨[104,116,116,112,115]⟩⟩)), (2, v13), (3, vy)] fun v14 => R.al 26 [(.string ⟨⟨[]⟩⟩), (.string ⟨⟨[]⟩⟩), (.string ⟨⟨[]⟩⟩), (.int .i64 (.ofNat 0))] v11 fun v15 v16 => R.sn 4 v16 v15 v14 fun v17 v18 => R.bd 26 [(1, (.string ⟨⟨[104,116,116,112,115]⟩⟩)), (2, (.string ⟨⟨[113,46,116,101,115,116]⟩⟩)), (3, (.int .i64 (.ofNat 443)))] fun v19 => R.al 26 [(.string ⟨⟨[]⟩⟩), (.string ⟨⟨[]⟩⟩), (.string ⟨⟨[]⟩⟩), (.int .i64 (.ofNat 0))] v18 fun v1a v1b => R.sn 4 v1b v1a v19 fun v1c v1d => R.jn (fun J1e : Cur (Hp → Bool) 1 => R.br v6 (R.fa 1 v15 fun v1f => R.s1 v1d v1f (.string ⟨⟨[104,116,116,112]⟩⟩) fun v1g v1h => J1e (.int .i64 (.ofNat 80)) v1h) (J1e (.int .i64 (.ofNat 443)) v1d)) fun v1i v1j => R.jn (fun J1k : Cur (Hp → Bool) 0 => R.br v7 (R.fa 1 v1a fun v1l => R.s1 v1j v1l (.string ⟨⟨[104,116,116,112]⟩⟩) fun v1m v1n => J1k v1n) (J1k v1j)) fun v1o => R.bi .eql vt (.int .i64 (.ofNat 0)) fun v1p => R.jn (fun J1q : Cur (Hp → Bool) 1 => R.gd true v1p (R.nt v1 fun v1r => J1q v1r v1o) (J1q undef v1o)) fun v1s v1t => R.pk v1p v1s (.bool false) fun v1u => R.jn (fun J1v : Cur (Hp → Bool) 1 => R.gd false v1u (J1v v1 v1t) (J1v undef v1t)) fun v1w v1x => R.jn (fun J1y : Cur (Hp → Bool) 1 => R.gd true v1w (R.bi .eql vt (.int .i64 (.ofNat 1)) fun v1z => J1y v1z v1x) (J1y undef v1x)) fun v20 v21 => R.jn (fun J22 : Cur (Hp → Bool) 1 => R.gd false v20 (R.bi .eql vt (.int .i64 (.ofNat 3)) fun v23 => J22 v23 v21) (J22 undef v21)) fun v24 v25 => R.jn (fun J26 : Cur (Hp → Bool) 1 => R.gd true v1w (R.pk v20 (.bool true) v24 fun v27 => J26 v27 v25) (J26 undef v25)) fun v28 v29 => R.jn (fun J2a : Cur (Hp → Bool) 1 => R.gd false v1u (R.pk v1w v28 (.bool false) fun v2b => J2a v2b v29) (J2a undef v29)) fun v2c v2d => R.pk v1u (.bool true) v2c fun v2e => R.bi .eql vd (.int .i64 (.ofNat 0)) fun v2f => R.jn (fun J2g : Cur (Hp → Bool) 1 => R.gd true v2f (R.nt v6 fun v2h => J2g v2h v2d) (J2g undef v2d)) fun v2i v2j => R.jn (fun J2k : Cur (Hp → Bool) 1 => R.gd false v2i (J2k v7 v2j) (J2k undef v2j)) fun v2l v2m => R.jn (fun J2n : Cur (Hp → Bool) 1 => R.gd true v2f (R.pk v2i (.bool true) v2l fun v2o => J2n v2o v2m) (J2n undef v2m)) fun v2p v2q => R.pk v2f v2p (.bool false) fun v2r => R.jn (fun J2s : Cur (Hp → Bool) 1 => R.gd false v2r (R.bi .eql vd (.int .i64 (.ofNat 1)) fun v2t => J2s v2t v2q) (J2s undef v2q)) fun v2u v2v => R.jn (fun J2w : Cur (Hp → Bool) 1 => R.gd true v2u (J2w v6 v2v) (J2w undef v2v)) fun v2x v2y => R.jn (fun J2z : Cur (Hp → Bool) 1 => R.gd false v2r (R.pk v2u v2x (.bool false) fun v30 => J2z v30 v2y) (J2z undef v2y)) fun v31 v32 => R.pk v2r (.bool true) v31 fun v33 => R.jn (fun J34 : Cur (Hp → Bool) 1 => R.gd false v33 (R.bi .eql vd (.int .i64 (.ofNat 2)) fun v35 => J34 v35 v32) (J34 undef v32)) fun v36 v37 => R.jn (fun J38 : Cur (Hp → Bool) 1 => R.gd true v36 (R.nt v6 fun v39 => J38 v39 v37) (J38 undef v37)) fun v3a v3b => R.jn (fun J3c : Cur (Hp → Bool) 1 => R.gd false v33 (R.pk v36 v3a (.bool false) fun v3d => J3c v3d v3b) (J3c undef v3b)) fun v3e v3f => R.pk v33 (.bool true) v3e fun v3g => R.bi .eql vf (.int .i64 (.ofNat 0)) fun v3h => R.jn (fun J3i : Cur (Hp → Bool) 1 => R.gd true v3h (R.bi .eql vy v1i fun v3j => J3i v3j v3f) (J3i undef v3f)) fun v3k v3l => R.pk v3h v3k (.bool false) fun v3m => R.jn (fun J3n : Cur (Hp → Bool) 1 => R.gd false v3m (R.bi .eql vf (.int .i64 (.ofNat 1)) fun v3o => J3n v3o v3l) (J3n undef v3l)) fun v3p v3q => R.pk v3m (.bool true) v3p fun v3r => R.jn (fun J3s : Cur (Hp → Bool) 1 => R.gd false v3r (R.bi .eql vf (.int .i64 (.ofNat 2)) fun v3t => J3s v3t v3q) (J3s undef v3q)) fun v3u v3v => R.jn (fun J3w : Cur (Hp → Bool) 1 => R.gd true v3u (R.bi .eql vy (.int .i64 (.ofNat 8443)) fun v3x => J3w v3x v3v) (J3w undef v3v)) fun v3y v3z => R.jn (fun J40 : Cur (Hp → Bool) 1 => R.gd false v3r (R.pk v3u v3y (.bool false) fun v41 => J40 v41 v3z) (J40 undef v3z)) fun v42 v43 => R.pk v3r (.bool true) v42 fun v44 => R.jn (fun J45 : Cur (Hp → Bool) 1 => R.gd false v44 (R.bi .eql vf (.int .i64 (.ofNat 3)) fun v46 => J45 v46 v43) (J45 undef v43)) fun v47 v48 => R.jn (fun J49 : Cur (Hp → Bool) 1 => R.gd true v47 (R.bi .eql vy (.int .i64 (.ofNat 443)) fun v4a => J49 v4a v48) (J49 undef v48)) fun v4b v4c => R.jn (fun J4d : Cur (Hp → Bool) 1 => R.gd false v44 (R.pk v47 v4b (.bool false) fun v4e => J4d v4e v4c) (J4d undef v4c)) fun v4f v4g => R.pk v44 (.bool true) v4f fun v4h => R.jn (fun J4i : Cur (Hp → Bool) 1 => R.gd true v2e (J4i v3g v4g) (J4i undef v4g)) fun v4j v4k => R.pk v2e v4j (.bool false) fun v4l => R.jn (fun J4m : Cur (Hp → Bool) 1 => R.gd true v4l (J4m v4h v4k) (J4m undef v4k)) fun v4n v4o => R.pk v4l v4n (.bool false) fun v4p => R.ln 4 v4o v1a fun v4q => R.ln 4 v4o v15 fun v4r => C 5 3 vq v4q v4r v4o fun v4s v4t => R.bv .eql 4 (.tmp 145) (.tmp 146) v4s v4p fun v4u => R.jn (fun J4v : Cur (Hp → Bool) 1 => R.gd true v4u (R.bs .add (.string ⟨⟨[115,99,114,105,112,116,45,115,114,99,32,39,110,111,110,101,39,32]⟩⟩) vq fun v4w => R.ln 4 v4t v1a fun v4x => R.ln 4 v4t v15 fun v4y => C 6 3 v4w v4x v4y v4t fun v4z v50 => R.bv .eql 4 (.tmp 153) (.tmp 154) v4z v4p fun v51 => J4v v51 v50) (J4v undef v4t)) fun v52 v53 => R.pk v4u v52 (.bool false) fun v54 => R.jn (fun J55 : Cur (Hp → Bool) 1 => R.gd true v54 (C 7 0 v53 fun v56 v57 => J55 v56 v57) (J55 undef v53)) fun v58 v59 => R.pk v54 v58 (.bool false) fun v5a => kr v5a v59)
theorem L3_eq (R : Ops) (C : Callees) : L3 R C = fnOf Tryd.prog R C 7 Tryd.f3 (bodyOf Tryd.prog 3) := by kernel_rfl

noncomputable def L7 (R : Ops) (C : Callees) : FnT 0 := fun v1 kr => R.bd 26 [(1, (.string ⟨⟨[104,116,116,112,115]⟩⟩)), (2, (.string ⟨⟨[98,46,97,46,116,101,115,116]⟩⟩)), (3, (.int .i64 (.ofNat 443)))] fun v2 => R.al 26 [(.string ⟨⟨[]⟩⟩), (.string ⟨⟨[]⟩⟩), (.string ⟨⟨[]⟩⟩), (.int .i64 (.ofNat 0))] v1 fun v3 v4 => R.sn 4 v4 v3 v2 fun v5 v6 => C 13 1 (.string ⟨⟨[100,101,102,97,117,108,116,45,115,114,99,32,42,59,32,115,99,114,105,112,116,45,115,114,99,32,39,115,101,108,102,39,32,98,46,116,101,115,116]⟩⟩) v6 fun v7 v8 => R.ex 0 v7 fun v9 => R.ex 1 v7 fun va => R.jn (fun Jb : KVH => R.gd true va (Jb v9 v8) (Jb undef v8)) fun vc vd => R.jn (fun Je : KVH => R.gd true va (R.bl 22 2 [(0, (.string ⟨⟨[39,115,101,108,102,39]⟩⟩)), (1, (.string ⟨⟨[98,46,116,101,115,116]⟩⟩))] vd Je) (Je undef vd)) fun vf vg => R.jn (fun Jh : KVH => R.gd true va (C 16 2 vc vf vg Jh) (Jh undef vg)) fun vi vj => R.pk va vi (.bool false) fun vk => R.jn (fun Jl : KVH => R.gd true vk (R.ln 4 vj v3 fun vm => Jl vm vj) (Jl undef vj)) fun vn vo => R.bo (R.gd true vk (R.ln 4 vo v3 fun vp => R.eq vp vn) true) (R.jn (fun Jq : KVH => R.gd true vk (C 17 0 vo Jq) (Jq undef vo)) fun vr vs => R.bo (R.gd true vk (R.ln 4 vs v3 fun vt => R.eq vt vn) true) (R.jn (fun Ju : KVH => R.gd true vk (C 5 3 (.string ⟨⟨[42,46,97,46,116,101,115,116]⟩⟩) vr vn vs Ju) (Ju undef vs)) fun vv vw => R.pk vk vv (.bool false) fun vx => R.jn (fun Jy : KVH => R.gd true vx (R.ln 4 vw v3 fun vz => Jy vz vw) (Jy undef vw)) fun v10 v11 => R.bo (R.gd true vx (R.ln 4 v11 v3 fun v12 => R.eq v12 v10) true) (R.jn (fun J13 : KVH => R.gd true vx (C 17 0 v11 J13) (J13 undef v11)) fun v14 v15 => R.bo (R.gd true vx (R.ln 4 v15 v3 fun v16 => R.eq v16 v10) true) (R.jn (fun J17 : KVH => R.gd true vx (C 5 3 (.string ⟨⟨[39,115,101,108,102,39]⟩⟩) v14 v10 v15 J17) (J17 undef v15)) fun v18 v19 => R.jn (fun J1a : KVH => R.gd true vx (R.nt v18 fun v1b => J1a v1b v19) (J1a undef v19)) fun v1c v1d => R.pk vx v1c (.bool false) fun v1e => R.jn (fun J1f : KVH => R.gd true v1e (R.ln 4 v1d v3 fun v1g => J1f v1g v1d) (J1f undef v1d)) fun v1h v1i => R.bo (R.gd true v1e (R.ln 4 v1i v3 fun v1j => R.eq v1j v1h) true) (R.jn (fun J1k : KVH => R.gd true v1e (C 17 0 v1i J1k) (J1k undef v1i)) fun v1l v1m => R.bo (R.gd true v1e (R.ln 4 v1m v3 fun v1n => R.eq v1n v1h) true) (R.jn (fun J1o : KVH => R.gd true v1e (C 6 3 (.string ⟨⟨[]⟩⟩) v1l v1h v1m J1o) (J1o undef v1m)) fun v1p v1q => R.pk v1e v1p (.bool false) fun v1r => R.jn (fun J1s : KVH => R.gd true v1r (R.ln 4 v1q v3 fun v1t => J1s v1t v1q) (J1s undef v1q)) fun v1u v1v => R.bo (R.gd true v1r (R.ln 4 v1v v3 fun v1w => R.eq v1w v1u) true) (R.jn (fun J1x : KVH => R.gd true v1r (C 17 0 v1v J1x) (J1x undef v1v)) fun v1y v1z => R.bo (R.gd true v1r (R.ln 4 v1z v3 fun v20 => R.eq v20 v1u) true) (R.jn (fun J21 : KVH => R.gd true v1r (C 6 3 (.string ⟨⟨[115,99,114,105,112,116,45,115,114,99,32,39,110,111,110,101,39]⟩⟩) v1y v1u v1z J21) (J21 undef v1z)) fun v22 v23 => R.jn (fun J24 : KVH => R.gd true v1r (R.nt v22 fun v25 => J24 v25 v23) (J24 undef v23)) fun v26 v27 => R.pk v1r v26 (.bool false) fun v28 => R.jn (fun J29 : KVH => R.gd true v28 (C 18 1 (.string ⟨⟨[115,99,114,105,112,116,45,115,114,99,32,39,115,101,108,102,39]⟩⟩) v27 J29) (J29 undef v27)) fun v2a v2b => R.jn (fun J2c : KVH => R.gd true v28 (R.nt v2a fun v2d => J2c v2d v2b) (J2c undef v2b)) fun v2e v2f => R.pk v28 v2e (.bool false) fun v2g => kr v2g v2f))))))))
theorem L7_eq (R : Ops) (C : Callees) : L7 R C = fnOf Tryd.prog R C 0 Tryd.f7 (bodyOf Tryd.prog 7) := by kernel_rfl

theorem L3_ent {G : GivenT} (hG : G 3 = none) : EntOk Tryd.prog G 3 ⟨7, L3 (theOps Tryd.prog)⟩ := ent_of_fn L3_eq Tryd.func3 (by kernel_rfl) hG
theorem L7_ent {G : GivenT} (hG : G 7 = none) : EntOk Tryd.prog G 7 ⟨0, L7 (theOps Tryd.prog)⟩ := ent_of_fn L7_eq Tryd.func7 (by kernel_rfl) hG
end Go.Proofs.YtoemgehbpamklaaDoor
end
section
/- CspHosts: awake, and what is run. -/
set_option autoImplicit false
set_option linter.unusedSimpArgs false
set_option linter.unusedVariables false
namespace Go.Proofs.YtoemgehbpamklaaDoor
open Go Go.RowKit Go.Proofs.YtoemgehbpamklaaDoor.Abs

theorem fsF_none0 (g : Nat) (hg : g ∈ fsF) : G0 g = none := by
  have : (fsF.all fun g => match G0 g with | none => true | some _ => false) = true := by kernel_rfl
  have := List.all_eq_true.1 this g hg
  split at this
  · assumption
  · cases this
noncomputable def tabA : Tr Ent := natT (Tr.set tabF 7 (some ⟨0, L7 (theOps Tryd.prog)⟩))
theorem natT_ok0 {T : Tr Ent} (hT : TabOk Tryd.prog G0 T) : TabOk Tryd.prog G0 (natT T) := addN_ok (addN_ok (addN_ok (addN_ok (addN_ok hT rfl) rfl) rfl) rfl) rfl
theorem tabA_ok : TabOk Tryd.prog G0 tabA := natT_ok0 ((tabF_ok fsF_none0).add (L7_ent rfl))
set_option maxRecDepth 1000000 in
theorem awake6_run (e1 : Nat) : app noF 0 (knot tabA 60 7 0) [] (hW e1) kTrue = true := by kernel_rfl
theorem awake6_calls {w : World} (h : CspWorld w) : Calls Tryd.prog 7 #[] w fun e w' => e = .returned (.bool true) ∧ Below w.heap.size w w' := by
  obtain ⟨e1, ι, hI, hf, _⟩ := h.inv 0 0 0 0
  obtain ⟨v, h', j, hc, hk⟩ := call_of_knot tabA_ok (awake6_run e1)
  obtain rfl := kTrue_ok hk
  exact law_of_call (args' := []) noNG_prog (adraw_ok noNG_prog (by kernel_rfl)) (G0_ok h) hc hI trivial (of_decide_eq_true (by kernel_rfl)) hf
theorem sTrue6_ok {w : World} {ι0 : Nat → Option Abs.Loc} (h : CspWorld w) : NatOk Tryd.prog w.heap.size ⟨w, ι0⟩ 7 (natFlat sTrue) := by
  refine natFlat_ok fun args v hv => ?_
  unfold sTrue at hv
  split at hv
  · cases hv
    exact ⟨rfl, rfl, fun w' hb => awake6_calls (h.below hb)⟩
  · cases hv
noncomputable def TCh (i j k l : Nat) : List (Nat × Nat × Nat) := [(9, 3, i), (10, 4, j), (11, 4, k), (12, 3, l)]
noncomputable def GCh (i j k l : Nat) : GivenT := gAdd 7 (natFlat sTrue) (gAdd 4 (natLow (TCh i j k l)) G0)
noncomputable def tabCh (i j k l : Nat) : Tr Ent := addN 0 7 (natFlat sTrue) (addN 2 4 (natLow (TCh i j k l)) (natT (Tr.set tabF 3 (some ⟨7, L3 (theOps Tryd.prog)⟩))))
theorem fsF_noneC (i j k l g : Nat) (hg : g ∈ fsF) : GCh i j k l g = none := by
  have : (fsF.all fun g => match GCh i j k l g with | none => true | some _ => false) = true := by kernel_rfl
  have := List.all_eq_true.1 this g hg
  split at this
  · assumption
  · cases this
theorem tabCh_ok (i j k l : Nat) : TabOk Tryd.prog (GCh i j k l) (tabCh i j k l) :=
  addN_ok (addN_ok (addN_ok (addN_ok (addN_ok (addN_ok (addN_ok ((tabF_ok (fsF_noneC i j k l)).add (L3_ent rfl)) rfl) rfl) rfl) rfl) rfl) rfl) rfl
noncomputable def oneCh (e1 : Nat) (a b c : Bool) (i j k l : Nat) : Bool := app noF 7 (knot (tabCh i j k l) 60 3 7) [.bool a, .complex .f32 9 0, .complex .f32 10 0, .complex .f32 11 0, .complex .f32 12 0, .bool b, .bool c] (hW e1) kTrue
noncomputable def bits2 (f : Bool → Bool → Bool) : Bool := Bool.rec (motive := fun _ => Bool) false (Bool.rec (motive := fun _ => Bool) false (Bool.rec (motive := fun _ => Bool) false (f true true) (f true false)) (f false true)) (f false false)
theorem bits2_ok {f : Bool → Bool → Bool} (h : bits2 f = true) (a b : Bool) : f a b = true := by
  unfold bits2 at h
  cases h1 : f false false with
  | false => rw [h1] at h; cases h
  | true =>
    rw [h1] at h
    cases h2 : f false true with
    | false => rw [h2] at h; cases h
    | true =>
      rw [h2] at h
      cases h3 : f true false with
      | false => rw [h3] at h; cases h
      | true =>
        rw [h3] at h
        cases a <;> cases b
        · exact h1
        · exact h2
        · exact h3
        · exact h
noncomputable def runCh (e1 : Nat) (a : Bool) (i : Nat) : Bool := bits2 fun b c => allB (fun j => allB (fun k => allB (fun l => oneCh e1 a b c i j k l) 3) 4) 4
end Go.Proofs.YtoemgehbpamklaaDoor
end
