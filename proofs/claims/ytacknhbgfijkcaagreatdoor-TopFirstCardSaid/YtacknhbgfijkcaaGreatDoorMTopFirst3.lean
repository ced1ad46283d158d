/- TopFirst: part 3 of its proof: NatR, Shelf, Idx, Bridge, Seq, Cut, SplitSeq, Word, WWords, WLast, WQPut, WApart, WArr, WZeros, WFoot, WKept, WShare, WN, WNEv, WMore, GivenF, WTab, WFour, WFootNe, WAt, WEqStruct, WRepsOne, WInv, WInvWords, WGuard, BFx0. -/
import Derived.Test.YtacknhbgfijkcaaGreatDoorMTopFirst2
import Derived.Laws.AppendOwn
import Derived.Lib.LaidTab
import Derived.Lib.LaidU8
import Derived.Shelf.Strings.Builder1
import Derived.Shelf.Strings.Builder2
import Derived.Shelf.Strings.OnBuilder
import Derived.Shelf.Strings.Trim
import Derived.Shelf.Small.Utf8
import Derived.Shelf.Small.Bits
import Derived.Shelf.Small.Strs
import Derived.Shelf.Strings.BuilderF
import Derived.Shelf.Strings.BuilderK
import Derived.Shelf.Strings.Builder2Cap
import Derived.Shelf.Strconv.Itoa0
import Derived.Shelf.Strings.Search1
import Derived.Shelf.Strings.Search2
import Derived.Shelf.Strings.Search3
import Derived.Shelf.Strings.Cut
import Derived.Shelf.Strings.Count
import Derived.Shelf.LaysM
import Derived.Shelf.Strings.Shaped
import Derived.Shelf.Strings.Prefix
import Derived.Shelf.Strings.Split
import Derived.Shelf.Strings.Runes
import Derived.Shelf.Strings.AsciiSet
import Derived.Shelf.Unicode.DecodeSlow
import Derived.Shelf.Unicode.DecodeAny
import Derived.Shelf.Strings.BuilderCap
import Derived.Ground.Names2Prog
import Derived.Shelf.Slices.Clone
import Derived.Shelf.Slices.SearchI
import Derived.Ground.SlgnProg
import Derived.Shelf.SlicesE.Clone
import Derived.Test.YtacknhbgfijkcaaGreatDoorProg
import Derived.KernelRfl
import Derived.Test.YtacknhbgfijkcaaGreatDoorMTopFirst1
import Derived.HandedShaped
import Derived.StringKeys
import Derived.LaidSub
import Derived.Shelf.Vars
import Derived.RangeFuncWrites
import Derived.RangeFuncNested
import Derived.Deep.Draws
import Derived.WalkKit
import Derived.Lib.IndexLaws
import Derived.Lib.CutLaws
import Derived.Lib.Strings
import Derived.RangeFuncBox
import Derived.RangeFuncCalls
import Derived.RangeFuncLeaves
import Derived.Shelf.Abstract
import Derived.Shelf.RegionOpen
import Derived.OwnWalkIn
import Derived.TacticsInMore
import Derived.LoopNIn
import Derived.LoopIn
import Derived.Lib.Hide
import Derived.Below
import Derived.Deep.AppendLies
import Derived.Maps.AppendAt
import Derived.OwnWalk
import Derived.Laws.BytesArg
import Derived.Laws.MakeOwn
import Derived.Laws.OwnMore
import Derived.Deep.OwnRows
import Derived.Tactics
import Derived.Lib.ConvBytes
import Derived.Laws.Slices
import Derived.RowKit3
import Derived.Deep.LoopGhost
import Derived.Deep.QuietTactic
import Derived.BigQuiet
import Derived.WideLaws
import Derived.Deep.DeepCutAuto
import Derived.Deep.CutBlock
import Derived.Deep.RegionHeld3
import Derived.Laws.Rows
import Derived.Lib.AppendStr
import Derived.ArgAppend
import Derived.Laws.IdiomCopy
import Derived.RowKit
import Derived.OrdersHeld
import Derived.Laws.BitsLemmas
import Derived.Shelf.Strings.SlTrimAscii
import Derived.Laws.StructEq
import Derived.Test.YtacknhbgfijkcaaGreatDoorMTopFirst0
set_option linter.unusedSimpArgs false
set_option linter.unusedVariables false
set_option linter.unusedSectionVars false
section
/- The engine: functions whose answer is a new row, by a contract; listed arrays of texts or numbers as blocks of the sketch; natives of the quick engine. -/
namespace Go.Proofs.YtacknhbgfijkcaaGreatDoor.Abs
open Go Go.RowKit
section
variable {P : Program} {base : Nat} {w0 : Start} {ι : Nat → Option Loc} {H : Nat → Option AObj} {w w' : World}
theorem Inv.learn (h : Inv P base w0 ι H w) {m : Nat} (hm : ι m = none) (hg : P.globals.size ≤ m) (o : AObj) (i : Loc) (hi : ∀ id j, ι id = some j → j.rb ≠ i.rb) (hlt : i.rb < w.heap.size)
   (ho : ORel P base (fupd ι m (some i)) i w o) : Inv P base w0 (fupd ι m (some i)) (fupd H m (some o)) w:=by
 have hgr:=Grows.upd hm i
 refine ⟨h.below, h.base_le, h.init.trans hgr, ?_, ?_, ?_, ?_⟩
 · intro id j o' h1 h2
   by_cases e : id = m
   · subst e
     rw [fupd_eq] at h1 h2
     cases h1; cases h2
     exact ho
   · rw [fupd_ne _ _ _ _ e] at h1 h2
     exact (h.obj id j o' h1 h2).grow hgr rfl
 · intro id id' j j' o1 o2 h1 h2 h3 h4 hne hw
   by_cases e : id = m
   · subst e
     rw [fupd_eq] at h1
     cases h1
     rw [fupd_ne _ _ _ _ (fun x => hne x.symm)] at h2
     exact fun x => hi id' j' h2 x.symm
   · rw [fupd_ne _ _ _ _ e] at h1 h3
     by_cases e' : id' = m
     · subst e'
       rw [fupd_eq] at h2
       cases h2
       exact hi id j h1
     · rw [fupd_ne _ _ _ _ e'] at h2 h4
       exact h.inj id id' j j' o1 o2 h1 h2 h3 h4 hne hw
 · intro id j h1
   by_cases e : id = m
   · subst e
     rw [fupd_eq] at h1
     cases h1
     exact hlt
   · rw [fupd_ne _ _ _ _ e] at h1
     exact h.lt id j h1
 · intro g hlt hs
   have e : g ≠ m:=by omega
   rw [fupd_ne _ _ _ _ e] at hs
   obtain ⟨j, h1, h2⟩:=h.glob g hlt hs
   exact ⟨j, by rw [fupd_ne _ _ _ _ e]; exact h1, h2⟩
def rowV (t : Option Bool) (v : Value) : Value :=
 match t with
 | some b => .tuple #[v, .bool b]
 | none => v
noncomputable def natRow (e : TypeId) (spec : List Value → NTree (Nat × List Value × Option Bool)) : Native:=fun args h =>
 (spec args).map fun r => match r.1 with
   | 0 => (.ret (rowV r.2.2 (.slice none 0 0)), h)
   | n + 1 => (.ret (rowV r.2.2 (.slice (some ⟨h.n, 0, none⟩) (n + 1) 0)), ⟨h.t.set h.n (some (.cells r.2.1 e true)), h.n + 1⟩)
theorem natRow_ok {f : FuncId} {e size : Nat} (he : szD P e = size) {spec : List Value → NTree (Nat × List Value × Option Bool)} (hs : ∀ args n xs t, (spec args).run = some (n, xs, t) → args.all flat = true ∧ xs.all flat = true ∧
   ∀ w, Below base w0.w w → Calls P f args.toArray w fun r w' => ∃ v, r = .returned (rowV t v) ∧ w'.ownsRow w.heap.size e size v n xs ∧ Below w.heap.size w w' ∧ (n = 0 → v = .slice none 0 0)) : NatOk P base w0 f (natRow e spec):=by
 intro args h r h' hg
 unfold natRow at hg
 rw [NTree.run_map] at hg
 cases hv : (spec args).run with
 | none => rw [hv] at hg; cases hg
 | some q =>
   obtain ⟨n, xs, t⟩:=q
   rw [hv] at hg
   obtain ⟨h1, h3, h4⟩:=hs args n xs t hv
   cases n with
   | zero =>
     cases hg
     refine ⟨Nat.le_refl _, fun ι w args' hI hr hgl hf => ?_⟩
     rw [hr.flats h1]
     refine (h4 w hI.below).mono fun r w' hq => ?_
     obtain ⟨v, rfl, hrow, hb, hnil⟩:=hq
     rw [hnil rfl]
     refine ⟨ι, Turn.refl _ _ _, hI.still hb, ?_⟩
     cases t with
     | none => exact ⟨_, rfl, .nilSlice⟩
     | some b => exact ⟨_, rfl, two .nilSlice (.bool b)⟩
   | succ n =>
   cases hg
   refine ⟨Nat.le_succ _, fun ι w args' hI hr hgl hf => ?_⟩
   rw [hr.flats h1]
   refine (h4 w hI.below).mono fun r w' hq => ?_
   obtain ⟨v, rfl, hrow, hb, _⟩:=hq
   have hI':=hI.still hb
   obtain ⟨hl, hc⟩:=hrow
   rcases hc with ⟨_, h0⟩ | ⟨g, cap, cur, rfl, hbg, hcell, hn, hcap, hsz, htake⟩
   · omega
   · have hm:=hf h.n (Nat.le_refl _)
     have hglt : g < w'.heap.size:=(Array.getElem?_eq_some_iff.1 hcell).1
     have hle : (n + 1) * size ≤ cap * size:=Nat.mul_le_mul_right _ hn
     have hmul : xs.length ≤ cur.size:=by
       rw [hl, hsz]
       exact hle
     have hcells : ∀ (j : Nat) (c : Value), xs[j]? = some c → cur[0 + j]? = some c:=by
       intro j c hj
       rw [← htake] at hj
       rw [List.getElem?_take] at hj
       split at hj
       · rw [Array.getElem?_toList] at hj
         rw [Nat.zero_add]; exact hj
       · cases hj
     have hnew:=hI'.learn (m:=h.n) hm hgl (.cells xs e true) ⟨g, 0, cur.size, size⟩ (fun id j hj e => by
       have:=hI.lt id j hj
       simp only at e
       omega) hglt ⟨cur, (0, 0), hcell, rfl, by simpa using hmul, fun j c hj => ⟨c, hcells j c hj, VRel.of_flat (List.all_eq_true.1 h3 c (List.mem_of_getElem? hj))⟩, he, fun _ => ⟨by
         have:=hI.below.size
         have:=hI.base_le
         simp only
         omega, fun o _ x => by simp at x⟩⟩
     refine ⟨fupd ι h.n (some ⟨g, 0, cur.size, size⟩), by rw [Tr.get_set_fun]; exact Turn.new hm _ _, by rw [Tr.get_set_fun]; exact hnew, ?_⟩
     have hv2 : VRel (fupd ι h.n (some ⟨g, 0, cur.size, size⟩)) (.slice (some ⟨h.n, 0, none⟩) (n + 1) 0) (.slice (some ⟨g, 0, none⟩) (n + 1) cap) :=
       .slice h.n 0 (n + 1) 0 cap ⟨g, 0, cur.size, size⟩ ⟨g, 0, none⟩ (fupd_eq _ _ _) hn (.inl rfl) (.inl ⟨rfl, by simp [hsz]⟩)
     cases t with
     | none => exact ⟨_, rfl, hv2⟩
     | some b => exact ⟨_, rfl, two hv2 (.bool b)⟩
noncomputable def natF (n : Nat) (g : Native) : Callees → FnT n:=fun _ => lam n fun args h K => match (g args h).run with
 | some (.ret v, h') => K v h'
 | _ => false
theorem natF_ok {G : GivenT} {f n : Nat} {g : Native} (hG : G f = some g) : EntOk P G f ⟨n, natF n g⟩:=by
 intro C hC args h K hk
 change app noF n (lam n _) args h K = true at hk
 rcases app_lam noF n (fun args h (K : KVH) => match (g args h).run with | some (.ret v, h') => K v h' | _ => false) args with e | e
 · rw [e] at hk
   dsimp only at hk
   split at hk
   · rename_i v h' hr
     refine ⟨v, h', ⟨0, fun k _ => ?_⟩, hk⟩
     unfold Abs.call callBy
     rw [hG]
     exact hr
   · cases hk
 · rw [e] at hk; cases hk
theorem strs_of_tab {H : Type} {enc : TypeId × Value → H} {sp : Nat → Bool} {held : Bool} {fuel : Nat} {t e : TypeId} {n : Nat} {cs : List Value} {ss : List (List UInt8)} {p : List MemPlace}
   (ht : P.underlying t = some (.array n e)) (he : P.underlying e = some .string) (hce : P.cellsOf e = 1) (hct : P.cellsOf t = n)
   (h : DataW.trod enc P w base sp held fuel t cs = some (.agg (ss.map fun s => .lit (.string s)), p)) : cs = ss.map fun s => Value.string ⟨⟨s⟩⟩:=by
 cases fuel with
 | zero => simp [DataW.trod] at h
 | succ fuel =>
   simp only [DataW.trod, ht, hce, hct, Nat.mul_one] at h
   split at h
   · rename_i hl
     obtain ⟨xs, hm, hx⟩:=Option.map_eq_some_iff.1 h
     have hxs : xs.map (·.1) = ss.map fun s => (DataW.lit (.string s) : DataW H):=by
       have:=congrArg Prod.fst hx
       simpa using this
     have hxl : xs.length = n:=by simpa using Lib.mapM_length hm
     have hzl : ss.length = n:=by
       have:=congrArg List.length hxs
       simp at this
       omega
     apply List.ext_getElem?
     intro i
     by_cases hi : i < n
     · obtain ⟨b, hb, hf⟩:=Lib.mapM_at hm i i (by simp [hi])
       obtain ⟨s, hc, rfl, _⟩:=DataW.trod_string he hf
       have h1 : cs[i]? = some (.string s):=by
         have:=congrArg (·[0]?) hc
         simpa [List.getElem?_take, List.getElem?_drop] using this
       have h2 : (xs.map (·.1))[i]? = some (DataW.lit (.string s.data.toList) : DataW H):=by simp [hb]
       rw [hxs] at h2
       simp only [List.getElem?_map, Option.map_eq_some_iff, DataW.lit.injEq, Lit.string.injEq] at h2
       obtain ⟨s', hs', e2⟩:=h2
       rw [h1, List.getElem?_map, hs', e2]
       rfl
     · rw [List.getElem?_eq_none (by omega), List.getElem?_eq_none (by simp; omega)]
   · cases h
def VarCells (w : World) (g : Nat) (cs : List Value) : Prop:=∃ arr ty fz, w.heap[g]? = some (.cells arr ty fz) ∧ arr.toList = cs
theorem VarCells.below {w w' : World} {g : Nat} {cs : List Value} (h : VarCells w g cs) (hb : Below w.heap.size w w') : VarCells w' g cs:=by
 obtain ⟨arr, ty, fz, h1, h2⟩:=h
 exact ⟨arr, ty, fz, (hb.block _ (Array.getElem?_eq_some_iff.1 h1).1).trans h1, h2⟩
theorem cells_of_reads {l : List (String × DataW Unit)} (h : laidMet P l w) {n : String} {d : DataW Unit} (hm : (n, d) ∈ l) {g : Nat} {t : TypeId} (hg : P.globalNamed n = some g) (ht : (P.globals[g]?).map (·.type) = some t) {cs : List Value}
   (hcs : ∀ enc sp held fuel b us p, DataW.trod (H:=Unit) enc P w b sp held fuel t us = some (d, p) → us = cs) : VarCells w g cs:=by
 obtain ⟨g', t', us, fuel, p, h1, h2, h3, h4⟩:=Lib.laidMet.reads h hm
 obtain rfl:=Option.some.inj (hg.symm.trans h1)
 obtain rfl:=Option.some.inj (ht.symm.trans h2)
 unfold World.var? at h3
 rw [hg] at h3
 simp only [Option.bind_some] at h3
 split at h3
 · rename_i arr ty fz hh
   cases h3
   exact ⟨_, ty, fz, hh, by simpa using hcs _ _ _ _ _ _ _ h4⟩
 · cases h3
theorem Inv.know_var {w : World} {ι0 ι : Nat → Option Loc} {H : Nat → Option AObj} (hI : Inv P w.heap.size ⟨w, ι0⟩ ι H w) {g : Nat} (hg : g < P.globals.size) (hi : ι g = none) {cs : List Value} (hv : VarCells w g cs) (hf : cs.all flat = true)
   (hold : ∀ id j o', ι id = some j → H id = some o' → o'.wr = false) : ∃ e i, Inv P w.heap.size ⟨w, ι0⟩ (fupd ι g (some i)) (fupd H g (some (.cells cs e false))) w:=by
 obtain ⟨arr, ty, fz, h1, h2⟩:=hv
 refine ⟨ty, ⟨g, 0, arr.size, szD P ty⟩, hI.know hi (i:=⟨g, 0, arr.size, szD P ty⟩) (Array.getElem?_eq_some_iff.1 h1).1 rfl ⟨arr, fz, h1, rfl, ?_, fun j c hj => ?_, rfl, fun h => by cases h⟩ hold (fun _ => ⟨rfl, rfl⟩)⟩
 · rw [← h2]; simp
 · rw [← h2, Array.getElem?_toList] at hj
   exact ⟨c, by rw [Nat.zero_add]; exact hj, VRel.of_flat (List.all_eq_true.1 hf c (by rw [← h2]; exact List.mem_of_getElem? (by rw [Array.getElem?_toList]; exact hj)))⟩
end
end Go.Proofs.YtacknhbgfijkcaaGreatDoor.Abs
end
section
/-
  DERIVED: THE SHELF's CONTRACTS AT THIS DUMP, IN PLAIN WORDS (tools/lay-plain.mjs out of 'TryzShelf.lean', which tools/lay-shelf.mjs wrote): THE SAME DECLARATIONS UNDER THE SAME NAMES: 'import', 'namespace', 'open', 'def', 'theorem' AND NOTHING ELSE: no command of the shelf's: FOR A HAND-IN. Each laying: the table of numbers ('.._ren') and one theorem, a field a fact of the dump's own or the kernel's comparison; each contract: ONE APPLICATION.
-/
namespace Go.Proofs.YtacknhbgfijkcaaGreatDoor
open Go.Proofs
open Go.Shelf
def Tryz.lays156_ren : Go.Shelf.Ren:=⟨fun | 156 => 49 | 165 => 93 | 166 => 28 | 169 => 29 | 240 => 50 | 241 => 175 | 276 => 94 | 277 => 250 | n => n, fun | 31 => 22 | 9 => 9 | 3 => 3 | 4 => 4 | 0 => 0 | 20 => 20 | 72 => 99 | 76 => 103 | 70 => 96 | 37 => 97 | 75 => 102 | 127 => 143 | 164 => 196 | 5 => 5 | 80 => 105 | n => n, fun | n => n⟩
theorem Tryz.lays156 : Go.Proofs.Lays.n156 Tryz.prog Tryz.lays156_ren:={
 mixed:=by kernel_rfl
 f156:=Tryz.func49.trans (congrArg some (by kernel_rfl))
 f165:=Tryz.func93.trans (congrArg some (by kernel_rfl))
 f166:=Tryz.func28.trans (congrArg some (by kernel_rfl))
 f169:=Tryz.func29.trans (congrArg some (by kernel_rfl))
 f240:=Tryz.func50.trans (congrArg some (by kernel_rfl))
 f241:=Tryz.func175.trans (congrArg some (by kernel_rfl))
 f276:=Tryz.func94.trans (congrArg some (by kernel_rfl))
 f277:=Tryz.func250.trans (congrArg some (by kernel_rfl))
 t0:=Tryz.underlying0
 a0:=Tryz.isAgg0
 z0:=Tryz.sizeOf0
 v0:=Tryz.zeroValue0
 t3:=Tryz.underlying3
 a3:=Tryz.isAgg3
 z3:=Tryz.sizeOf3
 v3:=Tryz.zeroValue3
 t4:=Tryz.underlying4
 a4:=Tryz.isAgg4
 z4:=Tryz.sizeOf4
 v4:=Tryz.zeroValue4
 t9:=Tryz.underlying9
 a9:=Tryz.isAgg9
 z9:=Tryz.sizeOf9
 v9:=Tryz.zeroValue9
 t20:=Tryz.underlying20
 a20:=Tryz.isAgg20
 z20:=Tryz.sizeOf20
 v20:=Tryz.zeroValue20
 t31:=Tryz.underlying22
 a31:=Tryz.isAgg22
 z31:=Tryz.sizeOf22
 v31:=Tryz.zeroValue22
 t37:=Tryz.underlying97
 a37:=Tryz.isAgg97
 z37:=Tryz.sizeOf97
 v37:=Tryz.zeroValue97
 t70:=Tryz.underlying96
 a70:=Tryz.isAgg96
 z70:=Tryz.sizeOf96
 v70:=Tryz.zeroValue96
 t72:=Tryz.underlying99
 a72:=Tryz.isAgg99
 z72:=Tryz.sizeOf99
 v72:=Tryz.zeroValue99
 t75:=Tryz.underlying102
 a75:=Tryz.isAgg102
 z75:=Tryz.sizeOf102
 v75:=Tryz.zeroValue102
 t76:=Tryz.underlying103
 a76:=Tryz.isAgg103
 z76:=Tryz.sizeOf103
 v76:=Tryz.zeroValue103
 t127:=Tryz.underlying143
 a127:=Tryz.isAgg143
 z127:=Tryz.sizeOf143
 v127:=Tryz.zeroValue143
 t164:=Tryz.underlying196
 a164:=Tryz.isAgg196
 z164:=Tryz.sizeOf196
 v164:=Tryz.zeroValue196 }
theorem Tryz.Builder_Extra_156 : Builder.Extra Tryz.prog Tryz.lays156_ren:={
 sizeBuilder:=by kernel_rfl
 liesBuilder:=by kernel_rfl
 t5:=Tryz.underlying5
 a5:=Tryz.isAgg5
 z5:=Tryz.sizeOf5
 v5:=Tryz.zeroValue5
 infoByte:=by kernel_rfl
 cellsByte:=by kernel_rfl
 sizeByte:=by kernel_rfl
 neB5:=by decide }
open Go.RowKit in
theorem Tryz.strings_Join (bk o c : Nat) (xs : List ByteArray) (sep : ByteArray) (w : World) (hcells : ∀ (j : Nat) x, xs[j]? = some x → w.cell? ⟨bk, o + j, none⟩ = some (.string x)) (hbk : bk < w.heap.size) (hN : xs.length ≤ 140737488355328) (hcap : xs.length ≤ c) (hlen : (Lib.join (xs.map (·.data.toList)) sep.data.toList).length ≤ 140737488355328) :
   Calls Tryz.prog 49 #[.slice (some ⟨bk, o, none⟩) xs.length c, .string sep] w fun e w' => e = .returned (.string ⟨(Lib.join (xs.map (·.data.toList)) sep.data.toList).toArray⟩) ∧ Below w.heap.size w w':=Any.strings_Join Tryz.lays156 Tryz.Builder_Extra_156 bk o c xs sep w hcells hbk hN hcap hlen
def Tryz.lays160_ren : Go.Shelf.Ren:=⟨fun | 160 => 224 | 232 => 276 | 231 => 275 | 227 => 277 | 234 => 279 | 233 => 278 | 236 => 281 | 235 => 280 | 228 => 308 | 271 => 310 | 151 => 309 | 197 => 260 | 120 => 329 | 152 => 328 | 260 => 300 | 137 => 208 | 119 => 352 | 224 => 192 | 225 => 191 | 217 => 190 | 266 => 257 | n => n, fun | 9 => 9 | 4 => 4 | 3 => 3 | 5 => 5 | 117 => 342 | 116 => 341 | 0 => 0 | 124 => 345 | 21 => 21 | 105 => 334 | 46 => 42 | 119 => 372 | 139 => 375 | 138 => 374 | n => n, fun | 3 => 8 | 4 => 9 | n => n⟩
theorem Tryz.lays160 : Go.Proofs.Lays.n160 Tryz.prog Tryz.lays160_ren:={
 mixed:=by kernel_rfl
 f119:=Tryz.func352.trans (congrArg some (by kernel_rfl))
 f120:=Tryz.func329.trans (congrArg some (by kernel_rfl))
 f137:=Tryz.func208.trans (congrArg some (by kernel_rfl))
 f151:=Tryz.func309.trans (congrArg some (by kernel_rfl))
 f152:=Tryz.func328.trans (congrArg some (by kernel_rfl))
 f160:=Tryz.func224.trans (congrArg some (by kernel_rfl))
 f197:=Tryz.func260.trans (congrArg some (by kernel_rfl))
 f217:=Tryz.func190.trans (congrArg some (by kernel_rfl))
 f224:=Tryz.func192.trans (congrArg some (by kernel_rfl))
 f225:=Tryz.func191.trans (congrArg some (by kernel_rfl))
 f227:=Tryz.func277.trans (congrArg some (by kernel_rfl))
 f228:=Tryz.func308.trans (congrArg some (by kernel_rfl))
 f231:=Tryz.func275.trans (congrArg some (by kernel_rfl))
 f232:=Tryz.func276.trans (congrArg some (by kernel_rfl))
 f233:=Tryz.func278.trans (congrArg some (by kernel_rfl))
 f234:=Tryz.func279.trans (congrArg some (by kernel_rfl))
 f235:=Tryz.func280.trans (congrArg some (by kernel_rfl))
 f236:=Tryz.func281.trans (congrArg some (by kernel_rfl))
 f260:=Tryz.func300.trans (congrArg some (by kernel_rfl))
 f266:=Tryz.func257.trans (congrArg some (by kernel_rfl))
 f271:=Tryz.func310.trans (congrArg some (by kernel_rfl))
 t0:=Tryz.underlying0
 a0:=Tryz.isAgg0
 z0:=Tryz.sizeOf0
 v0:=Tryz.zeroValue0
 t3:=Tryz.underlying3
 a3:=Tryz.isAgg3
 z3:=Tryz.sizeOf3
 v3:=Tryz.zeroValue3
 t4:=Tryz.underlying4
 a4:=Tryz.isAgg4
 z4:=Tryz.sizeOf4
 v4:=Tryz.zeroValue4
 t5:=Tryz.underlying5
 a5:=Tryz.isAgg5
 z5:=Tryz.sizeOf5
 v5:=Tryz.zeroValue5
 t9:=Tryz.underlying9
 a9:=Tryz.isAgg9
 z9:=Tryz.sizeOf9
 v9:=Tryz.zeroValue9
 t21:=Tryz.underlying21
 a21:=Tryz.isAgg21
 z21:=Tryz.sizeOf21
 v21:=Tryz.zeroValue21
 t46:=Tryz.underlying42
 a46:=Tryz.isAgg42
 z46:=Tryz.sizeOf42
 v46:=Tryz.zeroValue42
 t105:=Tryz.underlying334
 a105:=Tryz.isAgg334
 z105:=Tryz.sizeOf334
 v105:=Tryz.zeroValue334
 t116:=Tryz.underlying341
 a116:=Tryz.isAgg341
 z116:=Tryz.sizeOf341
 t117:=Tryz.underlying342
 a117:=Tryz.isAgg342
 z117:=Tryz.sizeOf342
 v117:=Tryz.zeroValue342
 t119:=Tryz.underlying372
 a119:=Tryz.isAgg372
 z119:=Tryz.sizeOf372
 t124:=Tryz.underlying345
 a124:=Tryz.isAgg345
 z124:=Tryz.sizeOf345
 v124:=Tryz.zeroValue345
 t138:=Tryz.underlying374
 a138:=Tryz.isAgg374
 z138:=Tryz.sizeOf374
 v138:=Tryz.zeroValue374
 t139:=Tryz.underlying375
 a139:=Tryz.isAgg375
 z139:=Tryz.sizeOf375
 v139:=Tryz.zeroValue375
 g3:=by kernel_rfl
 g4:=by kernel_rfl }
def Tryz.lays137_ren : Go.Shelf.Ren:=⟨fun | 137 => 208 | 217 => 190 | 266 => 257 | n => n, fun | 9 => 9 | 5 => 5 | 3 => 3 | n => n, fun | n => n⟩
theorem Tryz.lays137 : Go.Proofs.Lays.n137 Tryz.prog Tryz.lays137_ren:={
 mixed:=by kernel_rfl
 f137:=Tryz.func208.trans (congrArg some (by kernel_rfl))
 f217:=Tryz.func190.trans (congrArg some (by kernel_rfl))
 f266:=Tryz.func257.trans (congrArg some (by kernel_rfl))
 t3:=Tryz.underlying3
 a3:=Tryz.isAgg3
 z3:=Tryz.sizeOf3
 v3:=Tryz.zeroValue3
 t5:=Tryz.underlying5
 a5:=Tryz.isAgg5
 z5:=Tryz.sizeOf5
 v5:=Tryz.zeroValue5
 t9:=Tryz.underlying9
 a9:=Tryz.isAgg9
 z9:=Tryz.sizeOf9
 v9:=Tryz.zeroValue9 }
open Go.RowKit in
theorem Tryz.strings_IndexByte (s : ByteArray) (c : Int) (w : World) :
   Calls Tryz.prog 208 #[.string s, .int .u8 c] w fun e w' => e = .returned (.int .i64 (Lib.indexByte s.data.toList c.toNat.toUInt8)) ∧ w' = w:=Any.strings_IndexByte Tryz.lays137 s c w
def Tryz.lays219_ren : Go.Shelf.Ren:=⟨fun | 219 => 110 | 217 => 190 | 225 => 191 | 224 => 192 | 267 => 193 | 266 => 257 | 314 => 258 | n => n, fun | 9 => 9 | 3 => 3 | 4 => 4 | 5 => 5 | 46 => 42 | 146 => 332 | 51 => 331 | n => n, fun | 1 => 7 | n => n⟩
theorem Tryz.lays219 : Go.Proofs.Lays.n219 Tryz.prog Tryz.lays219_ren:={
 mixed:=by kernel_rfl
 f217:=Tryz.func190.trans (congrArg some (by kernel_rfl))
 f219:=Tryz.func110.trans (congrArg some (by kernel_rfl))
 f224:=Tryz.func192.trans (congrArg some (by kernel_rfl))
 f225:=Tryz.func191.trans (congrArg some (by kernel_rfl))
 f266:=Tryz.func257.trans (congrArg some (by kernel_rfl))
 f267:=Tryz.func193.trans (congrArg some (by kernel_rfl))
 f314:=Tryz.func258.trans (congrArg some (by kernel_rfl))
 t3:=Tryz.underlying3
 a3:=Tryz.isAgg3
 z3:=Tryz.sizeOf3
 v3:=Tryz.zeroValue3
 t4:=Tryz.underlying4
 a4:=Tryz.isAgg4
 z4:=Tryz.sizeOf4
 v4:=Tryz.zeroValue4
 t5:=Tryz.underlying5
 a5:=Tryz.isAgg5
 z5:=Tryz.sizeOf5
 v5:=Tryz.zeroValue5
 t9:=Tryz.underlying9
 a9:=Tryz.isAgg9
 z9:=Tryz.sizeOf9
 v9:=Tryz.zeroValue9
 t46:=Tryz.underlying42
 a46:=Tryz.isAgg42
 z46:=Tryz.sizeOf42
 v46:=Tryz.zeroValue42
 t51:=Tryz.underlying331
 a51:=Tryz.isAgg331
 z51:=Tryz.sizeOf331
 v51:=Tryz.zeroValue331
 t146:=Tryz.underlying332
 a146:=Tryz.isAgg332
 z146:=Tryz.sizeOf332
 v146:=Tryz.zeroValue332
 g1:=by kernel_rfl }
open Go.RowKit Go.Lib in
theorem Tryz.stringslite_Index_one (s : ByteArray) (c : UInt8) (w : World) :
   Calls Tryz.prog 110 #[.string s, .string ⟨#[c]⟩] w fun e w' => e = .returned (.int .i64 (Lib.indexByte s.data.toList c)) ∧ w' = w:=Any.stringslite_Index_one Tryz.lays219 s c w
open Go.RowKit Go.Lib in
theorem Tryz.stringslite_Index (s sub : ByteArray) (m : Int) (w : World) (hs : s.size < 4294967281) (hm : w.cell? ⟨7, 0, none⟩ = some (.int .i64 m)) :
   Calls Tryz.prog 110 #[.string s, .string sub] w fun e w' => e = .returned (.int .i64 (Lib.index s.data.toList sub.data.toList)) ∧ w' = w:=Any.stringslite_Index Tryz.lays219 s sub m w hs hm
def Tryz.lays143_ren : Go.Shelf.Ren:=⟨fun | 143 => 196 | 219 => 110 | 217 => 190 | 225 => 191 | 224 => 192 | 267 => 193 | 266 => 257 | 314 => 258 | n => n, fun | 9 => 9 | 3 => 3 | 4 => 4 | 5 => 5 | 46 => 42 | 146 => 332 | 51 => 331 | n => n, fun | 1 => 7 | n => n⟩
theorem Tryz.lays143 : Go.Proofs.Lays.n143 Tryz.prog Tryz.lays143_ren:={
 mixed:=by kernel_rfl
 f143:=Tryz.func196.trans (congrArg some (by kernel_rfl))
 f217:=Tryz.func190.trans (congrArg some (by kernel_rfl))
 f219:=Tryz.func110.trans (congrArg some (by kernel_rfl))
 f224:=Tryz.func192.trans (congrArg some (by kernel_rfl))
 f225:=Tryz.func191.trans (congrArg some (by kernel_rfl))
 f266:=Tryz.func257.trans (congrArg some (by kernel_rfl))
 f267:=Tryz.func193.trans (congrArg some (by kernel_rfl))
 f314:=Tryz.func258.trans (congrArg some (by kernel_rfl))
 t3:=Tryz.underlying3
 a3:=Tryz.isAgg3
 z3:=Tryz.sizeOf3
 v3:=Tryz.zeroValue3
 t4:=Tryz.underlying4
 a4:=Tryz.isAgg4
 z4:=Tryz.sizeOf4
 v4:=Tryz.zeroValue4
 t5:=Tryz.underlying5
 a5:=Tryz.isAgg5
 z5:=Tryz.sizeOf5
 v5:=Tryz.zeroValue5
 t9:=Tryz.underlying9
 a9:=Tryz.isAgg9
 z9:=Tryz.sizeOf9
 v9:=Tryz.zeroValue9
 t46:=Tryz.underlying42
 a46:=Tryz.isAgg42
 z46:=Tryz.sizeOf42
 v46:=Tryz.zeroValue42
 t51:=Tryz.underlying331
 a51:=Tryz.isAgg331
 z51:=Tryz.sizeOf331
 v51:=Tryz.zeroValue331
 t146:=Tryz.underlying332
 a146:=Tryz.isAgg332
 z146:=Tryz.sizeOf332
 v146:=Tryz.zeroValue332
 g1:=by kernel_rfl }
open Go.RowKit Go.Lib in
theorem Tryz.strings_Index_one (s : ByteArray) (c : UInt8) (w : World) :
   Calls Tryz.prog 196 #[.string s, .string ⟨#[c]⟩] w fun e w' => e = .returned (.int .i64 (Lib.indexByte s.data.toList c)) ∧ w' = w:=Any.strings_Index_one Tryz.lays143 s c w
open Go.RowKit Go.Lib in
theorem Tryz.strings_Index (s sub : ByteArray) (m : Int) (w : World) (hs : s.size < 4294967281) (hm : w.cell? ⟨7, 0, none⟩ = some (.int .i64 m)) :
   Calls Tryz.prog 196 #[.string s, .string sub] w fun e w' => e = .returned (.int .i64 (Lib.index s.data.toList sub.data.toList)) ∧ w' = w:=Any.strings_Index Tryz.lays143 s sub m w hs hm
def Tryz.lays220_ren : Go.Shelf.Ren:=⟨fun | 220 => 53 | 219 => 110 | 217 => 190 | 225 => 191 | 224 => 192 | 267 => 193 | 266 => 257 | 314 => 258 | n => n, fun | 9 => 9 | 4 => 4 | 3 => 3 | 5 => 5 | 46 => 42 | 146 => 332 | 51 => 331 | n => n, fun | 1 => 7 | n => n⟩
theorem Tryz.lays220 : Go.Proofs.Lays.n220 Tryz.prog Tryz.lays220_ren:={
 mixed:=by kernel_rfl
 f217:=Tryz.func190.trans (congrArg some (by kernel_rfl))
 f219:=Tryz.func110.trans (congrArg some (by kernel_rfl))
 f220:=Tryz.func53.trans (congrArg some (by kernel_rfl))
 f224:=Tryz.func192.trans (congrArg some (by kernel_rfl))
 f225:=Tryz.func191.trans (congrArg some (by kernel_rfl))
 f266:=Tryz.func257.trans (congrArg some (by kernel_rfl))
 f267:=Tryz.func193.trans (congrArg some (by kernel_rfl))
 f314:=Tryz.func258.trans (congrArg some (by kernel_rfl))
 t3:=Tryz.underlying3
 a3:=Tryz.isAgg3
 z3:=Tryz.sizeOf3
 v3:=Tryz.zeroValue3
 t4:=Tryz.underlying4
 a4:=Tryz.isAgg4
 z4:=Tryz.sizeOf4
 v4:=Tryz.zeroValue4
 t5:=Tryz.underlying5
 a5:=Tryz.isAgg5
 z5:=Tryz.sizeOf5
 v5:=Tryz.zeroValue5
 t9:=Tryz.underlying9
 a9:=Tryz.isAgg9
 z9:=Tryz.sizeOf9
 v9:=Tryz.zeroValue9
 t46:=Tryz.underlying42
 a46:=Tryz.isAgg42
 z46:=Tryz.sizeOf42
 v46:=Tryz.zeroValue42
 t51:=Tryz.underlying331
 a51:=Tryz.isAgg331
 z51:=Tryz.sizeOf331
 v51:=Tryz.zeroValue331
 t146:=Tryz.underlying332
 a146:=Tryz.isAgg332
 z146:=Tryz.sizeOf332
 v146:=Tryz.zeroValue332
 g1:=by kernel_rfl }
open Go.RowKit Go.Lib in
theorem Tryz.stringslite_Cut (s sep : ByteArray) (m : Int) (w : World) (hs : s.size < 4294967281) (hm : w.cell? ⟨7, 0, none⟩ = some (.int .i64 m)) :
   Calls Tryz.prog 53 #[.string s, .string sep] w fun e w' => e = .returned (.tuple #[.string ⟨(Lib.cut s.data.toList sep.data.toList).1.toArray⟩, .string ⟨(Lib.cut s.data.toList sep.data.toList).2.1.toArray⟩, .bool (Lib.cut s.data.toList sep.data.toList).2.2]) ∧ ∃ n, w' = w.drewN n:=Any.stringslite_Cut Tryz.lays220 s sep m w hs hm
def Tryz.lays145_ren : Go.Shelf.Ren:=⟨fun | 145 => 32 | 220 => 53 | 219 => 110 | 217 => 190 | 225 => 191 | 224 => 192 | 267 => 193 | 266 => 257 | 314 => 258 | n => n, fun | 9 => 9 | 4 => 4 | 59 => 107 | 3 => 3 | 5 => 5 | 46 => 42 | 146 => 332 | 51 => 331 | n => n, fun | 1 => 7 | n => n⟩
theorem Tryz.lays145 : Go.Proofs.Lays.n145 Tryz.prog Tryz.lays145_ren:={
 mixed:=by kernel_rfl
 f145:=Tryz.func32.trans (congrArg some (by kernel_rfl))
 f217:=Tryz.func190.trans (congrArg some (by kernel_rfl))
 f219:=Tryz.func110.trans (congrArg some (by kernel_rfl))
 f220:=Tryz.func53.trans (congrArg some (by kernel_rfl))
 f224:=Tryz.func192.trans (congrArg some (by kernel_rfl))
 f225:=Tryz.func191.trans (congrArg some (by kernel_rfl))
 f266:=Tryz.func257.trans (congrArg some (by kernel_rfl))
 f267:=Tryz.func193.trans (congrArg some (by kernel_rfl))
 f314:=Tryz.func258.trans (congrArg some (by kernel_rfl))
 t3:=Tryz.underlying3
 a3:=Tryz.isAgg3
 z3:=Tryz.sizeOf3
 v3:=Tryz.zeroValue3
 t4:=Tryz.underlying4
 a4:=Tryz.isAgg4
 z4:=Tryz.sizeOf4
 v4:=Tryz.zeroValue4
 t5:=Tryz.underlying5
 a5:=Tryz.isAgg5
 z5:=Tryz.sizeOf5
 v5:=Tryz.zeroValue5
 t9:=Tryz.underlying9
 a9:=Tryz.isAgg9
 z9:=Tryz.sizeOf9
 v9:=Tryz.zeroValue9
 t46:=Tryz.underlying42
 a46:=Tryz.isAgg42
 z46:=Tryz.sizeOf42
 v46:=Tryz.zeroValue42
 t51:=Tryz.underlying331
 a51:=Tryz.isAgg331
 z51:=Tryz.sizeOf331
 v51:=Tryz.zeroValue331
 t59:=Tryz.underlying107
 a59:=Tryz.isAgg107
 z59:=Tryz.sizeOf107
 v59:=Tryz.zeroValue107
 t146:=Tryz.underlying332
 a146:=Tryz.isAgg332
 z146:=Tryz.sizeOf332
 v146:=Tryz.zeroValue332
 g1:=by kernel_rfl }
open Go.RowKit Go.Lib in
theorem Tryz.strings_Cut (s sep : ByteArray) (m : Int) (w : World) (hs : s.size < 4294967281) (hm : w.cell? ⟨7, 0, none⟩ = some (.int .i64 m)) :
   Calls Tryz.prog 32 #[.string s, .string sep] w fun e w' => e = .returned (.tuple #[.string ⟨(Lib.cut s.data.toList sep.data.toList).1.toArray⟩, .string ⟨(Lib.cut s.data.toList sep.data.toList).2.1.toArray⟩, .bool (Lib.cut s.data.toList sep.data.toList).2.2]) ∧ ∃ n, w' = w.drewN n:=Any.strings_Cut Tryz.lays145 s sep m w hs hm
def Tryz.lays146_ren : Go.Shelf.Ren:=⟨fun | 146 => 54 | 221 => 111 | 268 => 194 | 138 => 195 | 143 => 196 | 195 => 259 | 197 => 260 | 218 => 261 | 219 => 110 | 260 => 300 | 217 => 190 | 225 => 191 | 224 => 192 | 267 => 193 | 266 => 257 | 314 => 258 | n => n, fun | 9 => 9 | 31 => 22 | 3 => 3 | 4 => 4 | 0 => 0 | 105 => 334 | 21 => 21 | 5 => 5 | 46 => 42 | 119 => 372 | 139 => 375 | 138 => 374 | 146 => 332 | 51 => 331 | n => n, fun | 1 => 7 | 3 => 8 | 4 => 9 | n => n⟩
theorem Tryz.lays146 : Go.Proofs.Lays.n146 Tryz.prog Tryz.lays146_ren:={
 mixed:=by kernel_rfl
 f138:=Tryz.func195.trans (congrArg some (by kernel_rfl))
 f143:=Tryz.func196.trans (congrArg some (by kernel_rfl))
 f146:=Tryz.func54.trans (congrArg some (by kernel_rfl))
 f195:=Tryz.func259.trans (congrArg some (by kernel_rfl))
 f197:=Tryz.func260.trans (congrArg some (by kernel_rfl))
 f217:=Tryz.func190.trans (congrArg some (by kernel_rfl))
 f218:=Tryz.func261.trans (congrArg some (by kernel_rfl))
 f219:=Tryz.func110.trans (congrArg some (by kernel_rfl))
 f221:=Tryz.func111.trans (congrArg some (by kernel_rfl))
 f224:=Tryz.func192.trans (congrArg some (by kernel_rfl))
 f225:=Tryz.func191.trans (congrArg some (by kernel_rfl))
 f260:=Tryz.func300.trans (congrArg some (by kernel_rfl))
 f266:=Tryz.func257.trans (congrArg some (by kernel_rfl))
 f267:=Tryz.func193.trans (congrArg some (by kernel_rfl))
 f268:=Tryz.func194.trans (congrArg some (by kernel_rfl))
 f314:=Tryz.func258.trans (congrArg some (by kernel_rfl))
 t0:=Tryz.underlying0
 a0:=Tryz.isAgg0
 z0:=Tryz.sizeOf0
 v0:=Tryz.zeroValue0
 t3:=Tryz.underlying3
 a3:=Tryz.isAgg3
 z3:=Tryz.sizeOf3
 v3:=Tryz.zeroValue3
 t4:=Tryz.underlying4
 a4:=Tryz.isAgg4
 z4:=Tryz.sizeOf4
 v4:=Tryz.zeroValue4
 t5:=Tryz.underlying5
 a5:=Tryz.isAgg5
 z5:=Tryz.sizeOf5
 v5:=Tryz.zeroValue5
 t9:=Tryz.underlying9
 a9:=Tryz.isAgg9
 z9:=Tryz.sizeOf9
 v9:=Tryz.zeroValue9
 t21:=Tryz.underlying21
 a21:=Tryz.isAgg21
 z21:=Tryz.sizeOf21
 v21:=Tryz.zeroValue21
 t31:=Tryz.underlying22
 a31:=Tryz.isAgg22
 z31:=Tryz.sizeOf22
 v31:=Tryz.zeroValue22
 t46:=Tryz.underlying42
 a46:=Tryz.isAgg42
 z46:=Tryz.sizeOf42
 v46:=Tryz.zeroValue42
 t51:=Tryz.underlying331
 a51:=Tryz.isAgg331
 z51:=Tryz.sizeOf331
 v51:=Tryz.zeroValue331
 t105:=Tryz.underlying334
 a105:=Tryz.isAgg334
 z105:=Tryz.sizeOf334
 v105:=Tryz.zeroValue334
 t119:=Tryz.underlying372
 a119:=Tryz.isAgg372
 z119:=Tryz.sizeOf372
 t138:=Tryz.underlying374
 a138:=Tryz.isAgg374
 z138:=Tryz.sizeOf374
 v138:=Tryz.zeroValue374
 t139:=Tryz.underlying375
 a139:=Tryz.isAgg375
 z139:=Tryz.sizeOf375
 v139:=Tryz.zeroValue375
 t146:=Tryz.underlying332
 a146:=Tryz.isAgg332
 z146:=Tryz.sizeOf332
 v146:=Tryz.zeroValue332
 g1:=by kernel_rfl
 g3:=by kernel_rfl
 g4:=by kernel_rfl }
open Go.RowKit Go.Lib in
theorem Tryz.strings_Split (s sep : ByteArray) (m : Int) (w : World) (hs : s.size < 4294967281) (hm : w.cell? ⟨7, 0, none⟩ = some (.int .i64 m)) (h1 : 1 ≤ sep.size) :
   Calls Tryz.prog 54 #[.string s, .string sep] w fun e w' =>
     e = .returned (.slice (some ⟨w.heap.size, 0, none⟩) (Lib.countB s sep + 1) (Lib.countB s sep + 1)) ∧ w' = w.alloc (.cells ((Lib.splitB sep 0 (Lib.countB s sep) s).map Value.string).toArray 9):=Any.strings_Split Tryz.lays146 (by kernel_rfl) s sep m w hs hm h1
end Go.Proofs.YtacknhbgfijkcaaGreatDoor
end
section
/- Where a text stands in another, for the kernel; strings.Index, strings.IndexByte, strings.Cut, strings.Split, as natives. -/
namespace Go.Proofs.YtacknhbgfijkcaaGreatDoor
open Go Go.RowKit Go.Proofs.YtacknhbgfijkcaaGreatDoor.Abs
noncomputable def preL (sub : List UInt8) : List UInt8 → Bool:=List.rec (motive:=fun _ => List UInt8 → Bool) (fun _ => true) (fun x _ ih l => List.rec (motive:=fun _ => Bool) false (fun y s _ => Bool.rec (motive:=fun _ => Bool) false (ih s) (Nat.beq (u8N x) (u8N y))) l) sub
theorem preL_eq : ∀ sub l : List UInt8, preL sub l = sub.isPrefixOf l
 | [], l => by cases l <;> rfl
 | x :: t, [] => rfl
 | x :: t, y :: s => by
   show Bool.rec (motive:=fun _ => Bool) false (preL t s) (Nat.beq (u8N x) (u8N y)) = _
   rw [preL_eq t s, u8N_inj, List.isPrefixOf]
   cases x == y <;> rfl
noncomputable def idxN (sub : List UInt8) (l : List UInt8) : Nat → Option Nat :=
 List.rec (motive:=fun _ => Nat → Option Nat) (fun n => List.rec (motive:=fun _ => Option Nat) (some n) (fun _ _ _ => none) sub) (fun b l ih n => Bool.rec (motive:=fun _ => Option Nat) (ih (Nat.succ n)) (some n) (preL sub (b :: l))) l
theorem idxN_none : ∀ (sub l : List UInt8) (n : Nat), idxN sub l n = none → Lib.index l sub = -1
 | [], [], n, h => by cases h
 | x :: t, [], n, h => rfl
 | sub, b :: l, n, h => by
   have h' : Bool.rec (motive:=fun _ => Option Nat) (idxN sub l (n + 1)) (some n) (preL sub (b :: l)) = none:=h
   rw [preL_eq] at h'
   unfold Lib.index
   cases hp : sub.isPrefixOf (b :: l) with
   | true => rw [hp] at h'; cases h'
   | false =>
     rw [hp] at h'
     have:=idxN_none sub l (n + 1) h'
     simp [this]
theorem idxN_some : ∀ (sub l : List UInt8) (n k : Nat), idxN sub l n = some k → ∃ j : Nat, Lib.index l sub = (j : Int) ∧ k = n + j
 | [], [], n, k, h => by cases h; exact ⟨0, rfl, rfl⟩
 | x :: t, [], n, k, h => by cases h
 | sub, b :: l, n, k, h => by
   have h' : Bool.rec (motive:=fun _ => Option Nat) (idxN sub l (n + 1)) (some n) (preL sub (b :: l)) = some k:=h
   rw [preL_eq] at h'
   unfold Lib.index
   cases hp : sub.isPrefixOf (b :: l) with
   | true => rw [hp] at h'; cases h'; exact ⟨0, by simp, rfl⟩
   | false =>
     rw [hp] at h'
     obtain ⟨j, h1, h2⟩:=idxN_some sub l (n + 1) k h'
     refine ⟨j + 1, ?_, by omega⟩
     have hne : ((j : Int) == -1) = false:=by simp
     simp [h1, hne]
noncomputable def idxV (o : Option Nat) : Value:=match o with
 | some k => .int .i64 (.ofNat k)
 | none => .int .i64 (.negSucc 0)
theorem idxV_eq (sub l : List UInt8) : idxV (idxN sub l 0) = .int .i64 (Lib.index l sub):=by
 cases h : idxN sub l 0 with
 | none => rw [idxN_none _ _ _ h]; rfl
 | some k =>
   obtain ⟨j, h1, h2⟩:=idxN_some _ _ _ _ h
   rw [h1, h2, Nat.zero_add]
   rfl
theorem br_run1 {α : Type} {b : Bool} {x : NTree α} {r : α} (h : (NTree.br b x .none).run = some r) : b = true ∧ x.run = some r:=by
 cases b with
 | true => exact ⟨rfl, h⟩
 | false => cases h
def MaxAt (w : World) : Prop:=∃ m, w.cell? ⟨7, 0, none⟩ = some (.int .i64 m)
theorem MaxAt.below {w w' : World} (h : MaxAt w) {b : Nat} (hb : Below b w w') (hlt : w.heap.size ≤ b) : MaxAt w':=by
 obtain ⟨m, hm⟩:=h
 refine ⟨m, ?_⟩
 rw [← hm]
 refine hb.cell ?_
 apply Classical.byContradiction
 intro hn
 have : w.heap[7]? = none:=Array.getElem?_eq_none (by simp only [] at hn; omega)
 simp [World.cell?, this] at hm
noncomputable def sIndex : List Value → NTree Value
 | [.string s, .string t] => .br (Nat.ble (sizB s) 4294967280) (.ret (idxV (idxN t.data.toList s.data.toList 0))) .none
 | _ => .none
theorem sIndex_ok {w : World} {ι0 : Nat → Option Abs.Loc} (h : MaxAt w) : NatOk Tryz.prog w.heap.size ⟨w, ι0⟩ 196 (natFlat sIndex):=by
 refine natFlat_ok fun args v hv => ?_
 unfold sIndex at hv
 split at hv
 · rename_i s t
   obtain ⟨h1, hv⟩:=br_run1 hv
   cases hv
   have h1:=Nat.le_of_ble_eq_true h1
   rw [sizB_eq] at h1
   refine ⟨rfl, ?_, fun w' hb => ?_⟩
   · cases idxN t.data.toList s.data.toList 0 <;> rfl
   · obtain ⟨m, hm⟩:=h.below hb (Nat.le_refl _)
     rw [idxV_eq]
     refine (Tryz.strings_Index s t m w' (by omega) hm).mono fun e w2 hq => ?_
     obtain ⟨rfl, rfl⟩:=hq
     exact ⟨rfl, Below.refl _ _⟩
 · cases hv
noncomputable def preK (sub : List UInt8) : List UInt8 → Bool → Bool → Bool:=List.rec (motive:=fun _ => List UInt8 → Bool → Bool → Bool) (fun _ kt _ => kt) (fun x _ ih l kt kf => List.rec (motive:=fun _ => Bool) kf (fun y s _ => Bool.rec (motive:=fun _ => Bool) kf (ih s kt kf) (Nat.beq (u8N x) (u8N y))) l) sub
theorem preK_eq : ∀ (sub l : List UInt8) (kt kf : Bool), preK sub l kt kf = bif preL sub l then kt else kf
 | [], l, kt, kf => rfl
 | x :: t, [], kt, kf => rfl
 | x :: t, y :: s, kt, kf => by
   show Bool.rec (motive:=fun _ => Bool) kf (preK t s kt kf) (Nat.beq (u8N x) (u8N y)) = cond (Bool.rec (motive:=fun _ => Bool) false (preL t s) (Nat.beq (u8N x) (u8N y))) kt kf
   rw [preK_eq t s]
   cases Nat.beq (u8N x) (u8N y) <;> rfl
noncomputable def idxK (sub l : List UInt8) : Nat → (Option Nat → Bool) → Bool:=List.rec (motive:=fun _ => Nat → (Option Nat → Bool) → Bool) (fun n K => List.rec (motive:=fun _ => Bool) (K (some n)) (fun _ _ _ => K none) sub) (fun b l ih n K => preK sub (b :: l) (K (some n)) (ih (Nat.succ n) K)) l
theorem idxK_eq (sub : List UInt8) : ∀ (l : List UInt8) (n : Nat) (K : Option Nat → Bool), idxK sub l n K = K (idxN sub l n)
 | [], n, K => by cases sub <;> rfl
 | b :: l, n, K => by
   show preK sub (b :: l) (K (some n)) (idxK sub l (n + 1) K) = K (Bool.rec (motive:=fun _ => Option Nat) (idxN sub l (n + 1)) (some n) (preL sub (b :: l)))
   rw [preK_eq, idxK_eq sub l]
   cases preL sub (b :: l) <;> rfl
noncomputable def idxF : Callees → FnT 2:=fun _ => fun (s t : Value) (h : Hp) (K : KVH) => strV s fun a => strV t fun b => iteK (Nat.ble (sizB a) 4294967280) (idxK b.data.toList a.data.toList 0 fun o => Option.rec (motive:=fun _ => Bool) (K (.int .i64 (.negSucc 0)) h) (fun k => K (.int .i64 (.ofNat k)) h) o) false
theorem idxF_ok {P : Program} {G : GivenT} {f : Nat} (hG : G f = some (natFlat sIndex)) : EntOk P G f ⟨2, idxF⟩:=by
 intro C hC args h K hk
 match args with
 | [] => cases hk
 | [_] => cases hk
 | _ :: _ :: _ :: _ => cases hk
 | [s, t] =>
   have hk0 : (strV s fun a => strV t fun b => iteK (Nat.ble (sizB a) 4294967280) (idxK b.data.toList a.data.toList 0 fun o => Option.rec (motive:=fun _ => Bool) (K (.int .i64 (.negSucc 0)) h) (fun k => K (.int .i64 (.ofNat k)) h) o) false) = true:=hk
   clear hk
   obtain ⟨a, ha, h1⟩:=strV_ok hk0
   obtain ⟨b, hb, h2⟩:=strV_ok h1
   subst ha; subst hb
   obtain ⟨h3, h4⟩:=iteK_false h2
   rw [idxK_eq] at h4
   refine ⟨idxV (idxN b.data.toList a.data.toList 0), h, ⟨0, fun k _ => ?_⟩, ?_⟩
   · unfold Abs.call callBy
     rw [hG]
     show (natFlat sIndex [.string a, .string b] h).run = _
     unfold natFlat sIndex
     rw [NTree.run_map]
     have e : (NTree.br (Nat.ble (sizB a) 4294967280) (.ret (idxV (idxN b.data.toList a.data.toList 0))) (.none : NTree Value)).run = some (idxV (idxN b.data.toList a.data.toList 0)):=by rw [h3]; rfl
     rw [e]
     rfl
   · revert h4
     cases idxN b.data.toList a.data.toList 0 with
     | none => exact fun x => x
     | some k => exact fun x => x
noncomputable def ibN (c : Nat) (l : List UInt8) : Nat → Option Nat :=
 List.rec (motive:=fun _ => Nat → Option Nat) (fun _ => none) (fun b _ ih n => Bool.rec (motive:=fun _ => Option Nat) (ih (Nat.succ n)) (some n) (Nat.beq (u8N b) c)) l
theorem ibN_eq {c : Nat} (hc : c < 256) : ∀ (l : List UInt8) (n : Nat), match ibN c l n with
   | some k => ∃ j : Nat, Lib.indexByte l c.toUInt8 = (j : Int) ∧ k = n + j
   | none => Lib.indexByte l c.toUInt8 = -1
 | [], n => rfl
 | b :: l, n => by
   have ih:=ibN_eq hc l (n + 1)
   have hb : Nat.beq (u8N b) c = (b == c.toUInt8):=by
     rw [← u8N_inj]
     have : u8N c.toUInt8 = c:=by
       show c.toUInt8.toNat = c
       simp [Nat.toUInt8]
       omega
     rw [this]
   show match Bool.rec (motive:=fun _ => Option Nat) (ibN c l (n + 1)) (some n) (Nat.beq (u8N b) c) with | some k => _ | none => _
   rw [hb]
   unfold Lib.indexByte
   cases hbc : b == c.toUInt8 with
   | true => exact ⟨0, by simp, rfl⟩
   | false =>
     dsimp only
     cases hk : ibN c l (n + 1) with
     | some k =>
       rw [hk] at ih
       obtain ⟨j, h1, h2⟩:=ih
       refine ⟨j + 1, ?_, by omega⟩
       have hne : ((j : Int) == -1) = false:=by simp
       simp [h1, hne]
     | none =>
       rw [hk] at ih
       simp [ih]
noncomputable def sIndexByte : List Value → NTree Value
 | [.string s, .int .u8 (.ofNat c)] => .br (Nat.ble c 255) (.ret (idxV (ibN c s.data.toList 0))) .none
 | _ => .none
theorem sIndexByte_ok {base : Nat} {w0 : Abs.Start} : NatOk Tryz.prog base w0 208 (natFlat sIndexByte):=by
 refine natFlat_ok fun args v hv => ?_
 unfold sIndexByte at hv
 split at hv
 · rename_i s c
   obtain ⟨h1, hv⟩:=br_run1 hv
   cases hv
   have h1:=Nat.le_of_ble_eq_true h1
   refine ⟨rfl, ?_, fun w' hb => ?_⟩
   · cases ibN c s.data.toList 0 <;> rfl
   · have e : idxV (ibN c s.data.toList 0) = .int .i64 (Lib.indexByte s.data.toList ((Int.ofNat c).toNat.toUInt8)):=by
       have:=ibN_eq (c:=c) (by omega) s.data.toList 0
       cases hk : ibN c s.data.toList 0 with
       | some k =>
         rw [hk] at this
         obtain ⟨j, g1, g2⟩:=this
         show Value.int .i64 (Int.ofNat k) = .int .i64 (Lib.indexByte _ c.toUInt8)
         rw [g1, g2, Nat.zero_add]
         rfl
       | none =>
         rw [hk] at this
         show Value.int .i64 (Int.negSucc 0) = .int .i64 (Lib.indexByte _ c.toUInt8)
         rw [this]
         rfl
     rw [e]
     refine (Tryz.strings_IndexByte s (Int.ofNat c) w').mono fun e w2 hq => ?_
     obtain ⟨rfl, rfl⟩:=hq
     exact ⟨rfl, Below.refl _ _⟩
 · cases hv
noncomputable def cutV (sep l : List UInt8) (o : Option Nat) : Value:=match o with
 | some k => .tuple #[.string ⟨⟨takeL l k⟩⟩, .string ⟨⟨dropL l (Nat.add k (lenL sep))⟩⟩, .bool true]
 | none => .tuple #[.string ⟨⟨l⟩⟩, .string ⟨⟨[]⟩⟩, .bool false]
theorem cutV_eq (sep l : List UInt8) : cutV sep l (idxN sep l 0) = .tuple #[.string ⟨(Lib.cut l sep).1.toArray⟩, .string ⟨(Lib.cut l sep).2.1.toArray⟩, .bool (Lib.cut l sep).2.2]:=by
 unfold Lib.cut
 cases h : idxN sep l 0 with
 | none => rw [idxN_none _ _ _ h]; rfl
 | some k =>
   obtain ⟨j, h1, h2⟩:=idxN_some _ _ _ _ h
   rw [Nat.zero_add] at h2
   subst h2
   rw [h1, if_pos (by omega)]
   unfold cutV
   simp only [takeL_eq, dropL_eq, lenL_eq, Int.toNat_natCast]
   rfl
noncomputable def sCut : List Value → NTree Value
 | [.string s, .string t] => .br (Nat.ble (sizB s) 4294967280) (.ret (cutV t.data.toList s.data.toList (idxN t.data.toList s.data.toList 0))) .none
 | _ => .none
theorem sCut_ok {w : World} {ι0 : Nat → Option Abs.Loc} (h : MaxAt w) : NatOk Tryz.prog w.heap.size ⟨w, ι0⟩ 32 (natFlat sCut):=by
 refine natFlat_ok fun args v hv => ?_
 unfold sCut at hv
 split at hv
 · rename_i s t
   obtain ⟨h1, hv⟩:=br_run1 hv
   cases hv
   have h1:=Nat.le_of_ble_eq_true h1
   rw [sizB_eq] at h1
   refine ⟨rfl, ?_, fun w' hb => ?_⟩
   · cases idxN t.data.toList s.data.toList 0 <;> rfl
   · obtain ⟨m, hm⟩:=h.below hb (Nat.le_refl _)
     rw [cutV_eq]
     refine (Tryz.strings_Cut s t m w' (by omega) hm).mono fun e w2 hq => ?_
     obtain ⟨rfl, n, rfl⟩:=hq
     exact ⟨rfl, Below.trans (Below.refl _ _) ⟨rfl, rfl, rfl, Nat.le_refl _, fun _ _ => rfl⟩⟩
 · cases hv
end Go.Proofs.YtacknhbgfijkcaaGreatDoor
end
section
/- The engine's bridge to the rows: the wrap that gives both the listed variables and the world's shape; a listed map of texts and numbers, as a table of the sketch. -/
namespace Go.Proofs.YtacknhbgfijkcaaGreatDoor.Abs
open Go Go.RowKit
section
variable {H : Type} {enc : TypeId × Value → H}
theorem returnsInHanded_of_change_both {a : Assume} {C : Checked} {os : Os} {f : FuncId} {fn : Func} {s : ChangeSpec} {conds : List PathCond} {apart fresh handsOn again : Bool} {X : World → Array Value → Prop}
   (hX : ∀ (w w' : World) (args : Array Value), w.heap = w'.heap → X w args → X w' args)
   (own : ownKnob C.prog.godebug = none) (started : os.Started) (noInit : C.prog.inits.idxOf? f = none) (hfn : C.prog.funcs[f]? = some fn)
   (witness : ∃ (w : World) (tape : Tape) (i : Input), w.os = os ∧ (w.forCall tape i).Shaped C.prog ∧ i.vars = [] ∧ Input.okWide C.prog (w.forCall tape i) .any w.heap.size f i ∧
     ((s.pre enc C.prog fn conds apart (w.forCall tape i).memory i.args ∧ X (w.forCall tape i).memory i.args) ∧ sizedMet enc C.prog fn (OpenSpec.ofChange s) apart (w.forCall tape i).memory i.args) ∧ a.holds C.prog (lone (Frame.enter C.prog f i.args .normal) [] (w.forCall tape i)))
   (contract : ∀ (W : World) (base : Nat) (args : Array Value) (ds gs : List (DataW H)) (before : List MemPlace),
     (∀ (j : Nat) t v, fn.params[j]? = some t → args[j]? = some v → Value.okWide C.prog W .any base t v) →
     DataW.Whole enc C.prog fn.params.toList s.vars apart W args.toList ds gs before →
     conds.all (PathCond.test C.prog ⟨fn.params.toList, ds, s.plain.varTypes C.prog, gs⟩) = true →
     (DataW.weightsEach C.prog (fn.params.toList ++ s.plain.varTypes C.prog) (ds ++ gs)).all (· ≤ reachBytes) = true → X W args → W.ShapedOpen C.prog →
     a.holds C.prog (lone (Frame.enter C.prog f args .normal) [] W) →
     Calls C.prog f args W fun e W' => ∃ v, e = .returned v ∧ s.post enc C.prog fn apart fresh handsOn again W args v W') :
   ReturnsInHanded a C os f .any (fun w args => (s.pre enc C.prog fn conds apart w args ∧ X w args) ∧ sizedMet enc C.prog fn (OpenSpec.ofChange s) apart w args) (s.post enc C.prog fn apart fresh handsOn again):=by
 refine returnsInHanded_of_calls own started noInit witness ?_
 intro w tape i _ hsh _ hok hpre hholds
 obtain ⟨_, _, _, fn', hfn', _, _, _, _, hval⟩:=hok
 have e : fn' = fn:=Option.some.inj (hfn'.symm.trans hfn)
 subst e
 obtain ⟨⟨⟨ds, gs, before, hw, hc⟩, hx⟩, hz⟩:=hpre
 have hw':=DataW.Whole.of_heap (w':=w.forCall tape i) (by rfl) hw
 refine (contract (w.forCall tape i) w.heap.size i.args ds gs before hval hw' hc (hz.weights hw) (hX _ _ _ (by rfl) hx) hsh hholds).mono fun e W' ⟨v, he, hp⟩ => ?_
 subst he
 exact ChangeSpec.post_blind hp
end
structure MapAt (P : Program) (w : World) (g bm : Nat) (k : TypeId) (kd : IntKind) (L : List (Lit × DataW Unit)) : Prop where
 cell : ∃ ty fz, w.heap[g]? = some (.cells #[.map (some bm)] ty fz)
 map : ∃ es clock, w.heap[bm]? = some (.map es clock) ∧ WideMaps.Fit Unit P k kd es clock ∧ (es.toList.map (WideMaps.rg Unit P k kd)).foldr DataW.insert [] = L
theorem MapAt.below {P : Program} {w w' : World} {g bm : Nat} {k : TypeId} {kd : IntKind} {L : List (Lit × DataW Unit)} (h : MapAt P w g bm k kd L) (hb : Below w.heap.size w w') : MapAt P w' g bm k kd L:=by
 obtain ⟨⟨ty, fz, h1⟩, ⟨es, clock, h2, h3⟩⟩:=h
 have lt : ∀ {b : Nat} {o : Obj}, w.heap[b]? = some o → b < w.heap.size:=fun h => by
   obtain ⟨hi, _⟩:=Array.getElem?_eq_some_iff.1 h
   exact hi
 exact ⟨⟨ty, fz, (hb.block _ (lt h1)).trans h1⟩, ⟨es, clock, (hb.block _ (lt h2)).trans h2, h3⟩⟩
theorem str_eq {s s' : ByteArray} (h : s.data.toList = s'.data.toList) : s = s':=by
 obtain ⟨⟨l⟩⟩:=s
 obtain ⟨⟨l'⟩⟩:=s'
 simp only at h
 rw [h]
theorem MapAt.table {P : Program} {w : World} {g bm : Nat} {k : TypeId} {kd : IntKind} {L : List (Lit × DataW Unit)} (h : MapAt P w g bm k kd L) (hk : P.underlying k = some .string) {f : List (ByteArray × Value)}
   (hf : ∀ s : ByteArray, match assocT f s with
     | some v => ∃ z, v = .int kd z ∧ (∃ x, (Lit.string s.data.toList, x) ∈ L) ∧ ∀ x, (Lit.string s.data.toList, x) ∈ L → x = .lit (.int kd z)
     | none => ∀ x, (Lit.string s.data.toList, x) ∉ L) (base : Nat) (ι : Nat → Option Loc) : ORel P base ι ⟨bm, 0, 0, 0⟩ w (.table f):=by
 obtain ⟨_, es, clock, hb, F, hL⟩:=h
 refine ⟨es, clock, hb, fun kt s hkt => ?_⟩
 have perm:=WideShapes.sorted_perm (es.toList.map (WideMaps.rg Unit P k kd))
 rw [hL] at perm
 have rdof : ∀ e ∈ es.toList, ∃ n s', e.key = .string s' ∧ e.val = .int kd n ∧ WideMaps.rg Unit P k kd e = (.string s'.data.toList, .lit (.int kd n)):=by
   intro e he
   obtain ⟨y, hy⟩:=F.reads e he
   obtain ⟨s', e1, e2, _⟩:=WideMaps.string_of_keyOf hk (WideMaps.rd_key hy)
   obtain ⟨n, n1, n2, _⟩:=WideMaps.rd_val hy
   exact ⟨n, s', e1, n1, by rw [WideMaps.rg_of hy]; exact Prod.ext e2 n2⟩
 have there : ∀ e ∈ es.toList, e.key = .string s → ∃ n, e.val = .int kd n ∧ (Lit.string s.data.toList, DataW.lit (.int kd n)) ∈ L:=by
   intro e he hke
   obtain ⟨n, s', e1, e2, e3⟩:=rdof e he
   rw [hke] at e1
   cases e1
   exact ⟨n, e2, perm.mem_iff.2 (List.mem_map.2 ⟨e, he, e3⟩)⟩
 have back : ∀ x, (Lit.string s.data.toList, x) ∈ L → ∃ e ∈ es.toList, e.key = .string s:=by
   intro x hx
   obtain ⟨e, he, hr⟩:=List.mem_map.1 (perm.mem_iff.1 hx)
   obtain ⟨n, s', e1, e2, e3⟩:=rdof e he
   rw [e3] at hr
   simp only [Prod.mk.injEq, Lit.string.injEq] at hr
   rw [str_eq hr.1] at e1
   exact ⟨e, he, e1⟩
 have hks : ∀ x ∈ es.toList, MapKept.IsKey .string x.key:=fun x hx => by
   obtain ⟨n, s', e1, _, _⟩:=rdof x hx
   rw [e1]
   trivial
 have hfs:=hf s
 rcases MapKept.findNow_spec (d:=.string) (k:=.string s) trivial es.toList 0 hks with ⟨h1, h2⟩ | ⟨j, e0, h1, h2, h3⟩
 · split at hfs
   · obtain ⟨z, _, ⟨x, hx⟩, _⟩:=hfs
     obtain ⟨e, he, hke⟩:=back x hx
     exact absurd hke (h2 e he)
   · rename_i hfn
     rw [hfn]
     exact fun w' => MapKept.run_findKey hkt h1
 · have he0 : e0 ∈ es.toList:=List.mem_of_getElem? h2
   obtain ⟨n, hn, hin⟩:=there e0 he0 h3
   split at hfs
   · rename_i v hfn
     obtain ⟨z, rfl, _, hall⟩:=hfs
     have:=hall _ hin
     simp only [DataW.lit.injEq, Lit.int.injEq, true_and] at this
     subst this
     rw [hfn]
     rw [hn] at h1
     exact ⟨rfl, _, fun w' => MapKept.run_findKey hkt h1⟩
   · exact absurd hin (hfs _)
theorem MapAt.inv {P : Program} {w : World} {g bm : Nat} {k : TypeId} {kd : IntKind} {L : List (Lit × DataW Unit)} (h : MapAt P w g bm k kd L) (hk : P.underlying k = some .string) {f : List (ByteArray × Value)}
   (hf : ∀ s : ByteArray, match assocT f s with
     | some v => ∃ z, v = .int kd z ∧ (∃ x, (Lit.string s.data.toList, x) ∈ L) ∧ ∀ x, (Lit.string s.data.toList, x) ∈ L → x = .lit (.int kd z)
     | none => ∀ x, (Lit.string s.data.toList, x) ∉ L) {m : Nat} (hm : P.globals.size ≤ m) (hgm : g < P.globals.size) {ι0 ι : Nat → Option Loc} {H : Nat → Option AObj} (hI : Inv P w.heap.size ⟨w, ι0⟩ ι H w)
   (h1 : ι g = none) (h2 : ι m = none) (hold : ∀ id j o', ι id = some j → H id = some o' → o'.wr = false) :
   ∃ e i j, Inv P w.heap.size ⟨w, ι0⟩ (fupd (fupd ι m (some i)) g (some j)) (fupd (fupd H m (some (.table f))) g (some (.cells [.map (some m)] e false))) w:=by
 obtain ⟨⟨ty, fz, hc⟩, es, clock, hb, F, hL⟩:=h
 have lt : ∀ {b : Nat} {o : Obj}, w.heap[b]? = some o → b < w.heap.size:=fun h => by
   obtain ⟨hi, _⟩:=Array.getElem?_eq_some_iff.1 h
   exact hi
 have hI1:=hI.know h2 (i:=⟨bm, 0, 0, 0⟩) (lt hb) (o:=.table f) rfl (MapAt.table ⟨⟨ty, fz, hc⟩, es, clock, hb, F, hL⟩ hk hf _ _) hold (fun h => absurd h (by omega))
 have hne : g ≠ m:=by omega
 have hold' : ∀ id j o', fupd ι m (some ⟨bm, 0, 0, 0⟩) id = some j → fupd H m (some (.table f)) id = some o' → o'.wr = false:=by
   intro id j o' a b
   by_cases e : id = m
   · subst e
     rw [fupd_eq] at b
     cases b
     rfl
   · rw [fupd_ne _ _ _ _ e] at a b
     exact hold id j o' a b
 refine ⟨ty, ⟨bm, 0, 0, 0⟩, ⟨g, 0, 1, szD P ty⟩, hI1.know (by rw [fupd_ne _ _ _ _ hne]; exact h1) (lt hc) rfl ⟨#[.map (some bm)], fz, hc, rfl, by simp, ?_, rfl, fun h => by cases h⟩ hold' (fun _ => ⟨rfl, rfl⟩)⟩
 intro j c hj
 match j, hj with
 | 0, hj =>
   simp only [List.getElem?_cons_zero, Option.some.injEq] at hj
   subst hj
   refine ⟨.map (some bm), rfl, .map m ⟨bm, 0, 0, 0⟩ ?_⟩
   rw [fupd_ne _ _ _ _ (by omega), fupd_eq]
 | j + 1, hj => simp at hj
end Go.Proofs.YtacknhbgfijkcaaGreatDoor.Abs
end
section
/- The law of 'for x := range seq { body }' where the iterator keeps a state of its own in one cell (block bs) and reads it again behind a round: the contract of such an iterator, and what a caller owes. No program in sight. -/
namespace Go.Proofs.YtacknhbgfijkcaaGreatDoor
open Go Go.RowKit
def BoxOwn {β : Type} (bs B : Nat) (J : β → World → Prop) : Prop :=
 ∀ s W W' row, J s W → W.grownBy W' row → (∀ r, row = some r → r = bs ∨ (B ≤ r ∧ ∃ o : Obj, W.heap[r]? = some o ∧ o.isCells = false)) → J s W'
theorem BoxOwn.and {β : Type} {bs B : Nat} {I I' : β → World → Prop} (h : BoxOwn bs B I) (h' : BoxOwn bs B I') : BoxOwn bs B (fun s W => I s W ∧ I' s W) :=
 fun s W W' row hs hg hr => ⟨h s W W' row hs.1 hg hr, h' s W W' row hs.2 hg hr⟩
theorem BoxOwn.pure {β : Type} {bs B : Nat} {p : β → Prop} : BoxOwn bs B (fun s (_ : World) => p s):=fun _ _ _ _ hs _ _ => hs
theorem BoxOwn.alloc {β : Type} {bs B : Nat} {I : β → World → Prop} (h : BoxOwn bs B I) {s : β} {W : World} (o : Obj) (hs : I s W) : I s (W.alloc o) :=
 h s W _ none hs (World.grownBy_alloc W o none) (fun r e => by cases e)
theorem BoxOwn.putObj {β : Type} {bs B : Nat} {I : β → World → Prop} (h : BoxOwn bs B I) {s : β} {W : World} {l : Nat} {o : Obj} (o' : Obj) (hs : I s W) (hB : B ≤ l) (hl : W.heap[l]? = some o) (ho : o.isCells = false) : I s (W.putObj l o') :=
 h s W _ (some l) hs (grownBy_putObj' W l o') (fun r e => by cases e; exact .inr ⟨hB, o, hl, ho⟩)
theorem BoxOwn.below {β : Type} {bs B n₀ : Nat} {w : World} (hw : n₀ ≤ w.heap.size) (hbs : n₀ ≤ bs) (hB : n₀ ≤ B) : BoxOwn bs B (fun (_ : β) W => Below n₀ w W) :=
 fun _ _ _ _ hs hg hr => hs.grown hg (Nat.le_trans hw hs.size) (fun k e => by rcases hr k e with rfl | h <;> omega)
theorem boxBlock_kept {W W' : World} {row : Option Nat} {bs B k : Nat} {o : Obj} (hg : W.grownBy W' row) (hr : ∀ r, row = some r → r = bs ∨ (B ≤ r ∧ ∃ o : Obj, W.heap[r]? = some o ∧ o.isCells = false))
   (hk : W.heap[k]? = some o) (hc : o.isCells = true) (hne : k ≠ bs) : W'.heap[k]? = some o:=by
 refine (hg.block k (Array.getElem?_eq_some_iff.1 hk).1 ?_).trans hk
 intro e
 rcases hr k e.symm with h | ⟨_, o', ho', hc'⟩
 · exact hne h
 · rw [hk] at ho'; cases ho'; rw [hc] at hc'; cases hc'
theorem BoxOwn.block {β : Type} {bs B k : Nat} {f : β → Obj} (hc : ∀ s, (f s).isCells = true) (hne : k ≠ bs) : BoxOwn bs B (fun s W => W.heap[k]? = some (f s)) :=
 fun _ _ _ _ hs hg hr => boxBlock_kept hg hr hs (hc _) hne
def KeepB (lo : Nat) (W W' : World) : Prop:=∀ b, lo ≤ b → b < lo + 3 → W'.heap[b]? = W.heap[b]?
theorem KeepB.refl (lo : Nat) (W : World) : KeepB lo W W:=fun _ _ _ => rfl
theorem KeepB.trans {lo : Nat} {A B C : World} (h : KeepB lo A B) (k : KeepB lo B C) : KeepB lo A C:=fun b h1 h2 => (k b h1 h2).trans (h b h1 h2)
theorem KeepB.below {lo n₀ : Nat} {A B : World} (h : Below n₀ A B) (hn : lo + 3 ≤ n₀) : KeepB lo A B:=fun b _ h2 => h.block b (by omega)
theorem KeepB.setCell {lo : Nat} (W : World) (a : Addr) (v : Value) (h : a.block < lo ∨ lo + 3 ≤ a.block) : KeepB lo W (W.setCell a v) :=
 fun b h1 h2 => Below.heap_setCell W a v b (by omega)
theorem KeepB.grown {lo : Nat} {W W' : World} {row : Option Nat} (hg : W.grownBy W' row) (hlt : lo + 3 ≤ W.heap.size) (hr : ∀ r, row = some r → r < lo ∨ lo + 3 ≤ r) : KeepB lo W W' :=
 fun b h1 h2 => hg.block b (by omega) (fun e => by have:=hr b e.symm; omega)
theorem one_set {W : World} {b : Nat} {t : TypeId} {v : Value} (h : W.heap[b]? = some (.cells #[v] t (0, 0))) (u : Value) : (W.setCell ⟨b, 0, none⟩ u).heap[b]? = some (.cells #[u] t (0, 0)):=by
 simp [World.setCell, Array.getElem?_modify, h]
theorem one_cell {W : World} {b : Nat} {t : TypeId} {v : Value} (h : W.heap[b]? = some (.cells #[v] t (0, 0))) : W.cell? ⟨b, 0, none⟩ = some v:=by simp [World.cell?, h]
theorem one_free {W : World} {b : Nat} {t : TypeId} {v : Value} (h : W.heap[b]? = some (.cells #[v] t (0, 0))) : W.frozen? ⟨b, 0, none⟩ = false:=by simp [World.frozen?, h]
theorem keepsFrom_drewN (B : Nat) (W : World) (n : Nat) : KeepsFrom B W (W.drewN n):=⟨Nat.le_refl _, fun _ _ _ h _ => h⟩
def SeqBox {α : Type} (F : Fence) (n : Nat) (P : Program) (g : Nat) (lb : Array Value) (enc : α → Value) (bs lo : Nat) (xs0 : List α) (w : World) : Prop :=
 ∀ (l : Nat) (J Jx : List α → World → Prop) (W : World), Below w.heap.size w W → BoxOwn bs W.heap.size J → BoxOwn bs W.heap.size Jx →
   (∀ pre x W1, J pre W1 → pre ++ [x] <+: xs0 → YieldAt F (n - 1) P l #[enc x] W1 fun e W' =>
     (e = .returned (.bool true) ∧ J (pre ++ [x]) W' ∧ KeepB lo W1 W') ∨ (e = .returned (.bool false) ∧ Jx (pre ++ [x]) W')) →
   J [] W →
   CallsIn F n P g (#[.func (.yield l) #[] #[]] ++ lb) W fun e W' => (∃ v, e = .returned v) ∧ (J xs0 W' ∨ (∃ pre, pre <+: xs0 ∧ Jx pre W'))
def boxPost {α : Type} (B lo : Nat) (I : List α → World → Prop) (Ix : Code → List α → World → Prop) (xs : List α) (W : World) : Exit → Act → World → Prop
 | .normal, _, W' => KeepsFrom B W W' ∧ KeepB lo W W' ∧ I xs W'
 | .ret, _, W' => KeepsFrom B W W' ∧ Ix .ret xs W'
 | .exit id, _, W' => KeepsFrom B W W' ∧ Ix (.exit id) xs W'
 | .goto t, _, W' => KeepsFrom B W W' ∧ Ix (.goto t) xs W'
 | .panic _, _, _ => False
 | .outgrown, _, _ => False
variable {F : Fence} {n : Nat} {P : Program}
theorem wpIn_rangeBox {α : Type} {g : Operand} {ps : Array Tmp} {assign body : Code} {Q : Exit → Act → World → Prop} {a : Act} {w : World}
   (hro : F.round = none) (h1 : 1 ≤ n) {gf : Nat} {lb : Array Value} (hg : a.eval g = .func (.func gf) #[] lb) (hFg : F.fn gf) (eg : ∀ args w, (callFunc gf args).run P w = .ok (.enter gf args) w)
   {enc : α → Value} {bs lo : Nat} {xs0 : List α} (hseq : SeqBox F (n - 1) P gf lb enc bs lo xs0 w) (hbs : bs < w.heap.size) (hlo : lo + 3 ≤ w.heap.size) (hps : ps.size = 1)
   (I : List α → World → Prop) (Ix : Code → List α → World → Prop) (hI : BoxOwn bs w.heap.size I) (hIx : ∀ c, BoxOwn bs w.heap.size (Ix c)) (h0 : I [] w) (a₁ : α → Act)
   (hassign : ∀ (l : Nat) (x : α) (W : World) (K : Act → World → Prop), K (a₁ x) W →
     assign.wpIn (F.inRound l) (n - 1 - 1) P (Exit.then K (fun _ _ _ => False)) { tmps:=(ps.zip #[enc x]).foldl (fun t (p, v) => t.setIfInBounds p v) a.tmps, defers:=[] } W)
   (hbody : ∀ (l : Nat) (pre : List α) (x : α) (W : World), I pre W → pre ++ [x] <+: xs0 → w.heap.size ≤ W.heap.size → body.wpIn (F.inRound l) (n - 1 - 1) P (boxPost w.heap.size lo I Ix (pre ++ [x]) W) (a₁ x) W)
   (hdone : ∀ (D : Nat) (W : World), w.heap.size ≤ D → I xs0 W → W.heap[D]? = some (.deferred (some [])) → Q .normal { a with defers:={ target:=.collected D, args:=#[] } :: a.defers } W)
   (hstop : ∀ (D : Nat) (c : Code) (pre : List α) (W : World), w.heap.size ≤ D → pre <+: xs0 → Ix c pre W → W.heap[D]? = some (.deferred (some [])) → c.wpIn F n P Q { a with defers:={ target:=.collected D, args:=#[] } :: a.defers } W) :
   (Code.rangeFunc g ps assign body).wpIn F n P Q a w:=by
 refine wpIn_rangeFunc ?_
 intro fn hfn
 rw [hro]
 obtain ⟨rec, hrec⟩ : ∃ rec : LoopState → Option Code → Loop, rec = fun st pe => { state:=st, pending:=pe, fn, tmps:=a.tmps, params:=ps, assign, body, defers:=w.heap.size }:=⟨_, rfl⟩
 obtain ⟨W1, hW1⟩ : ∃ W1, (w.alloc (.deferred (some []))).alloc (.loop (rec .ready none)) = W1:=⟨_, rfl⟩
 have hsz1 : W1.heap.size = w.heap.size + 2:=by rw [← hW1]; simp
 have hL1 : W1.heap[w.heap.size + 1]? = some (.loop (rec .ready none)):=by
   rw [← hW1]; have:=World.alloc_heap_new (w.alloc (.deferred (some []))) (.loop (rec .ready none)); rwa [World.size_alloc] at this
 have hK1 : W1.heap[w.heap.size]? = some (.deferred (some [])):=by
   rw [← hW1]; exact (Below.heap_alloc _ _ _ (by simp)).trans (World.alloc_heap_new w _)
 have hI1 : I [] W1:=by rw [← hW1]; exact hI.alloc _ (hI.alloc _ h0)
 have hb1 : Below w.heap.size w W1:=by
   rw [← hW1]; exact ((Below.refl _ w).alloc (Nat.le_refl _) _).alloc (by simp) _
 refine ⟨w.heap.size + 1, [{ target:=.collected w.heap.size, args:=#[] }], W1, { target:=.fn (.func gf) lb, args:=#[.func (.yield (w.heap.size + 1)) #[] #[]] }, W1, gf,
   #[.func (.yield (w.heap.size + 1)) #[] #[]] ++ lb, W1, ?_, ?_, ?_, ?_, fun _ => h1, ?_⟩
 · rw [← hW1, hrec]; exact run_enterLoop_outer _ _ _ _ _
 · simp only [resolve, hg]
   simp [go_sem]
 · intro f' hf'; simp [Target.leads] at hf'; subst hf'; exact hFg
 · simp [invoke, go_sem, eg]
 · have keep : ∀ {A B : World} {row : Option Nat} {k : Nat} {o : Obj}, A.grownBy B row → (∀ r, row = some r → r = bs ∨ (W1.heap.size ≤ r ∧ ∃ o : Obj, A.heap[r]? = some o ∧ o.isCells = false)) → w.heap.size ≤ k → k < W1.heap.size → A.heap[k]? = some o → B.heap[k]? = some o :=
     fun hg' hr hk1 hk2 hk => (hg'.block _ (Array.getElem?_eq_some_iff.1 hk).1 (fun e => by rcases hr _ e.symm with h | h <;> omega)).trans hk
   have weak : ∀ {A : World} {row : Option Nat}, (∀ r, row = some r → r = bs ∨ (W1.heap.size ≤ r ∧ ∃ o : Obj, A.heap[r]? = some o ∧ o.isCells = false)) → (∀ r, row = some r → r = bs ∨ (w.heap.size ≤ r ∧ ∃ o : Obj, A.heap[r]? = some o ∧ o.isCells = false)) :=
     fun hr r e => (hr r e).imp id (fun h => ⟨by omega, h.2⟩)
   refine (hseq (w.heap.size + 1)
     (fun pre W => (I pre W ∧ w.heap.size ≤ W.heap.size) ∧ W.heap[w.heap.size + 1]? = some (.loop (rec .ready none)) ∧ W.heap[w.heap.size]? = some (.deferred (some [])))
     (fun pre W => ∃ c, Ix c pre W ∧ W.heap[w.heap.size + 1]? = some (.loop (rec .done (some c))) ∧ W.heap[w.heap.size]? = some (.deferred (some [])))
     W1 hb1
     (fun s A B row hs hg' hr => ⟨⟨hI s A B row hs.1.1 hg' (weak hr), Nat.le_trans hs.1.2 hg'.size⟩, keep hg' hr (by omega) (by omega) hs.2.1, keep hg' hr (by omega) (by omega) hs.2.2⟩)
     (fun s A B row hs hg' hr => by
       obtain ⟨c, hc, hl, hk⟩:=hs
       exact ⟨c, hIx c s A B row hc hg' (weak hr), keep hg' hr (by omega) (by omega) hl, keep hg' hr (by omega) (by omega) hk⟩)
     ?_ ⟨⟨hI1, by omega⟩, hL1, hK1⟩).mono ?_
   · rintro pre x W ⟨⟨hi, hsW⟩, hl, hk⟩ hlen
     have hlt : w.heap.size + 1 < W.heap.size:=(Array.getElem?_eq_some_iff.1 hl).1
     have hy:=run_yield (P:=P) (args:=#[enc x]) hl (by rw [hrec]; simpa using hps.symm)
     rw [hrec] at hy
     refine ⟨fn, _, assign, body, hy, roundIn_of_wpIn hfn (hassign _ x W _ ⟨_, run_beginRound hl (by rw [hrec]), ?_⟩)⟩
     have hl2 : (W.putObj (w.heap.size + 1) (.loop { rec .ready none with state:=.busy })).heap[w.heap.size + 1]? = some (.loop { rec .ready none with state:=.busy }):=World.putObj_heap_same hlt
     have hk2 : (W.putObj (w.heap.size + 1) (.loop { rec .ready none with state:=.busy })).heap[w.heap.size]? = some (.deferred (some [])):=(World.putObj_heap_other (by omega)).trans hk
     have hw2 : KeepB lo W (W.putObj (w.heap.size + 1) (.loop { rec .ready none with state:=.busy })):=fun b _ h2 => World.putObj_heap_other (by omega)
     refine wpIn_mono (hbody _ pre x _ (hI.putObj _ hi (by omega) hl rfl) hlen (by simpa using hsW)) ?_
     have fin : ∀ (jump : Option Code) (W3 : World), KeepsFrom w.heap.size (W.putObj (w.heap.size + 1) (.loop { rec .ready none with state:=.busy })) W3 →
         (Instr.endRound (w.heap.size + 1) jump).run P W3 = .ok (.bool jump.isNone) (W3.putObj (w.heap.size + 1) (.loop (rec (if jump.isNone then .ready else .done) jump))) ∧
         W3.heap[w.heap.size + 1]? = some (.loop { rec .ready none with state:=.busy }) ∧
         (W3.putObj (w.heap.size + 1) (.loop (rec (if jump.isNone then .ready else .done) jump))).heap[w.heap.size + 1]? = some (.loop (rec (if jump.isNone then .ready else .done) jump)) ∧
         (W3.putObj (w.heap.size + 1) (.loop (rec (if jump.isNone then .ready else .done) jump))).heap[w.heap.size]? = some (.deferred (some [])):=fun jump W3 hk3 => by
       have hl3:=hk3.same _ _ (by omega) hl2 rfl
       have:=run_endRound (P:=P) jump hl3
       rw [hrec] at this ⊢
       exact ⟨this, by rw [hrec] at hl3; exact hl3, World.putObj_heap_same (Array.getElem?_eq_some_iff.1 hl3).1, (World.putObj_heap_other (by omega)).trans (hk3.same _ _ (Nat.le_refl _) hk2 rfl)⟩
     rintro e a3 W3 hp
     cases e with
     | normal =>
       obtain ⟨hk3, hkp3, hi3⟩:=hp
       obtain ⟨hr, hl3, hl4, hk4⟩:=fin none W3 hk3
       have hs3:=hk3.size
       refine ⟨_, _, hr, .inl ⟨rfl, ⟨⟨hI.putObj _ hi3 (by omega) hl3 rfl, ?_⟩, hl4, hk4⟩, (hw2.trans hkp3).trans (fun b _ h2 => World.putObj_heap_other (by omega))⟩⟩
       simp at hs3 ⊢; omega
     | ret =>
       obtain ⟨hk3, hi3⟩:=hp
       obtain ⟨hr, hl3, hl4, hk4⟩:=fin (some .ret) W3 hk3
       exact ⟨_, _, hr, .inr ⟨rfl, .ret, (hIx _).putObj _ hi3 (by omega) hl3 rfl, hl4, hk4⟩⟩
     | exit id =>
       obtain ⟨hk3, hi3⟩:=hp
       obtain ⟨hr, hl3, hl4, hk4⟩:=fin (some (.exit id)) W3 hk3
       exact ⟨_, _, hr, .inr ⟨rfl, .exit id, (hIx _).putObj _ hi3 (by omega) hl3 rfl, hl4, hk4⟩⟩
     | goto t =>
       obtain ⟨hk3, hi3⟩:=hp
       obtain ⟨hr, hl3, hl4, hk4⟩:=fin (some (.goto t)) W3 hk3
       exact ⟨_, _, hr, .inr ⟨rfl, .goto t, (hIx _).putObj _ hi3 (by omega) hl3 rfl, hl4, hk4⟩⟩
     | panic ch => exact hp.elim
     | outgrown => exact hp.elim
   · rintro e W2 ⟨⟨v, rfl⟩, (⟨⟨hi, _⟩, hl, hk⟩ | ⟨pre, hSp, c, hi, hl, hk⟩)⟩
     · exact ⟨none, _, by have:=run_endLoop (P:=P) hl (by rw [hrec]; simp); rw [hrec] at this; exact this, hdone _ _ (Nat.le_refl _) (hI.putObj _ hi (by omega) hl rfl) ((World.putObj_heap_other (by omega)).trans hk)⟩
     · exact ⟨some c, _, by have:=run_endLoop (P:=P) hl (by rw [hrec]; simp); rw [hrec] at this; exact this, hstop _ c pre _ (Nat.le_refl _) hSp ((hIx c).putObj _ hi (by omega) hl rfl) ((World.putObj_heap_other (by omega)).trans hk)⟩
end Go.Proofs.YtacknhbgfijkcaaGreatDoor
end
section
/- Plain words: a text cut at each byte c, the pieces in order. No program in sight. -/
namespace Go.Proofs.YtacknhbgfijkcaaGreatDoor
open Go
def splitL (c : UInt8) : List UInt8 → List (List UInt8)
 | [] => [[]]
 | x :: xs => if x = c then [] :: splitL c xs else match splitL c xs with
   | [] => [[x]]
   | p :: ps => (x :: p) :: ps
theorem splitL_ne_nil (c : UInt8) : ∀ l : List UInt8, splitL c l ≠ []
 | [] => by simp [splitL]
 | x :: xs => by
   unfold splitL
   split
   · simp
   · split <;> simp
theorem splitL_none (c : UInt8) : ∀ l : List UInt8, (∀ x ∈ l, x ≠ c) → splitL c l = [l]
 | [], _ => rfl
 | x :: xs, h => by
   rw [splitL, if_neg (h x (by simp)), splitL_none c xs (fun y hy => h y (by simp [hy]))]
theorem splitL_cut (c : UInt8) : ∀ (a b : List UInt8), (∀ x ∈ a, x ≠ c) → splitL c (a ++ c :: b) = a :: splitL c b
 | [], b, _ => by simp [splitL]
 | x :: a, b, h => by
   rw [List.cons_append, splitL, if_neg (h x (by simp)), splitL_cut c a b (fun y hy => h y (by simp [hy]))]
theorem splitL_length (c : UInt8) : ∀ l : List UInt8, (splitL c l).length = l.count c + 1
 | [] => rfl
 | x :: xs => by
   have ih:=splitL_length c xs
   unfold splitL
   by_cases h : x = c
   · rw [if_pos h]; simp [ih, h]
   · rw [if_neg h, List.count_cons_of_ne h]
     split
     · rename_i e; exact absurd e (splitL_ne_nil c xs)
     · rename_i p ps e; rw [e] at ih; simpa using ih
def cutB (c : UInt8) : Nat → ByteArray → List ByteArray
 | 0, s => [s]
 | k + 1, s => if Lib.indexByte s.data.toList c < 0 then [s] else s.extract 0 (Lib.indexByte s.data.toList c).toNat :: cutB c k (s.extract ((Lib.indexByte s.data.toList c).toNat + 1) s.size)
def pieces (c : UInt8) (s : ByteArray) : List ByteArray:=cutB c s.size s
theorem extract_list (s : ByteArray) (a b : Nat) : (s.extract a b).data.toList = (s.data.toList.drop a).take (b - a):=Lib.extract_data s a b
theorem indexByte_cases (l : List UInt8) (c : UInt8) : (Lib.indexByte l c = -1 ∧ ∀ x ∈ l, x ≠ c) ∨ ∃ i : Nat, Lib.indexByte l c = i ∧ i < l.length ∧ l = l.take i ++ c :: l.drop (i + 1) ∧ ∀ x ∈ l.take i, x ≠ c:=by
 have hge:=Lib.indexByte_ge l c
 by_cases h : Lib.indexByte l c = -1
 · refine .inl ⟨h, fun x hx e => ?_⟩
   obtain ⟨k, hk, hk'⟩:=List.getElem_of_mem hx
   exact Lib.indexByte_none h k (by rw [List.getElem?_eq_getElem hk, hk', e])
 · obtain ⟨i, hi⟩ : ∃ i : Nat, Lib.indexByte l c = i:=⟨(Lib.indexByte l c).toNat, by omega⟩
   obtain ⟨h1, h2⟩:=Lib.indexByte_some hi
   obtain ⟨hlt, hget⟩:=List.getElem?_eq_some_iff.1 h1
   refine .inr ⟨i, hi, hlt, ?_, fun x hx e => ?_⟩
   · rw [← hget, ← List.drop_eq_getElem_cons hlt, List.take_append_drop]
   · obtain ⟨k, hk, hk'⟩:=List.getElem_of_mem hx
     rw [List.length_take] at hk
     rw [List.getElem_take] at hk'
     exact h2 k (by omega) (by rw [List.getElem?_eq_getElem (by omega), hk', e])
theorem cutB_split (c : UInt8) : ∀ (k : Nat) (s : ByteArray), s.size ≤ k → (cutB c k s).map (·.data.toList) = splitL c s.data.toList
 | 0, s, h => by
   have e : s.data.toList = []:=List.eq_nil_of_length_eq_zero (by have:=Lib.size_eq s; omega)
   simp [cutB, e, splitL]
 | k + 1, s, h => by
   rcases indexByte_cases s.data.toList c with ⟨h1, h2⟩ | ⟨i, h1, hlt, h2, h3⟩
   · rw [cutB, if_pos (by omega), splitL_none c _ h2]; rfl
   · rw [cutB, if_neg (by omega), List.map_cons, h1]
     have hs : s.data.toList.length = s.size:=(Lib.size_eq s).symm
     have e1 : (s.extract 0 ((i : Int).toNat)).data.toList = s.data.toList.take i:=by
       rw [extract_list]; simp
     have e2 : (s.extract ((i : Int).toNat + 1) s.size).data.toList = s.data.toList.drop (i + 1):=by
       rw [extract_list, List.take_of_length_le (by simp)]; simp
     rw [cutB_split c k _ (by rw [Lib.size_eq, e2]; simp only [List.length_drop]; omega), e1, e2]
     conv => rhs; rw [h2]
     rw [splitL_cut c _ _ h3]
theorem pieces_split (c : UInt8) (s : ByteArray) : (pieces c s).map (·.data.toList) = splitL c s.data.toList:=cutB_split c _ s (Nat.le_refl _)
theorem cutB_none (c : UInt8) (k : Nat) (s : ByteArray) (h : Lib.indexByte s.data.toList c < 0) : cutB c k s = [s]:=by
 cases k with
 | zero => rfl
 | succ k => rw [cutB, if_pos h]
theorem tail_size (s : ByteArray) (i : Nat) (h : i < s.size) : (s.extract (i + 1) s.size).size = s.size - (i + 1):=by
 have hs : s.data.toList.length = s.size:=(Lib.size_eq s).symm
 rw [Lib.size_eq (s.extract _ _), extract_list, List.length_take, List.length_drop]; omega
theorem count_tail (s : ByteArray) (c : UInt8) (i : Nat) (hlt : i < s.data.toList.length) (h : s.data.toList = s.data.toList.take i ++ c :: s.data.toList.drop (i + 1)) (hn : ∀ x ∈ s.data.toList.take i, x ≠ c) :
   s.data.toList.count c = (s.extract (i + 1) s.size).data.toList.count c + 1:=by
 have hs : s.data.toList.length = s.size:=(Lib.size_eq s).symm
 have e2 : (s.extract (i + 1) s.size).data.toList = s.data.toList.drop (i + 1):=by
   rw [extract_list, List.take_of_length_le (by simp)]
 rw [e2]
 conv => lhs; rw [h]
 rw [List.count_append, List.count_cons_self, List.count_eq_zero_of_not_mem (fun hm => hn c hm rfl)]
 omega
theorem count_miss (s : ByteArray) (c : UInt8) (h : s.data.toList.count c = 0) : Lib.indexByte s.data.toList c < 0:=by
 rcases indexByte_cases s.data.toList c with ⟨h1, _⟩ | ⟨i, h1, hlt, h2, h3⟩
 · omega
 · have:=count_tail s c i hlt h2 h3
   omega
theorem cutB_more (c : UInt8) : ∀ (k j : Nat) (s : ByteArray), s.data.toList.count c ≤ k → s.data.toList.count c ≤ j → cutB c k s = cutB c j s:=by
 intro k
 induction k with
 | zero =>
   intro j s h _
   have h0:=count_miss s c (by omega)
   rw [cutB_none c 0 s h0, cutB_none c j s h0]
 | succ k ih =>
   intro j s h h2
   rcases indexByte_cases s.data.toList c with ⟨h1, _⟩ | ⟨i, h1, hlt, h3, h4⟩
   · rw [cutB_none c _ s (by omega), cutB_none c _ s (by omega)]
   · have ht:=count_tail s c i hlt h3 h4
     obtain ⟨j, rfl⟩ : ∃ m, j = m + 1:=⟨j - 1, by omega⟩
     rw [cutB, cutB, if_neg (by omega), if_neg (by omega), h1]
     simp only [Int.toNat_natCast]
     rw [ih j _ (by omega) (by omega)]
theorem count_size (s : ByteArray) (c : UInt8) : s.data.toList.count c ≤ s.size:=by
 have:=List.count_le_length (a:=c) (l:=s.data.toList)
 rw [Lib.size_eq]; exact this
theorem pieces_miss (c : UInt8) (s : ByteArray) (h : Lib.indexByte s.data.toList c < 0) : pieces c s = [s]:=by
 unfold pieces
 cases s.size with
 | zero => rfl
 | succ k => rw [cutB, if_pos h]
theorem pieces_hit (c : UInt8) (s : ByteArray) (i : Nat) (h : Lib.indexByte s.data.toList c = i) : pieces c s = s.extract 0 i :: pieces c (s.extract (i + 1) s.size):=by
 rcases indexByte_cases s.data.toList c with ⟨h1, _⟩ | ⟨j, h1, hlt, _, _⟩
 · omega
 · obtain rfl : i = j:=by omega
   have hs : s.data.toList.length = s.size:=(Lib.size_eq s).symm
   unfold pieces
   obtain ⟨k, hk⟩ : ∃ k, s.size = k + 1:=⟨s.size - 1, by omega⟩
   have ht:=tail_size s i (by omega)
   conv => lhs; rw [hk]
   rw [cutB, if_neg (by omega), h1]
   simp only [Int.toNat_natCast]
   have hc:=count_size (s.extract (i + 1) s.size) c
   rw [cutB_more c k _ _ (by omega) hc]
end Go.Proofs.YtacknhbgfijkcaaGreatDoor
end
section
/- strings.SplitSeq at a separator of one byte: what it hands back is an iterator whose rounds are the pieces, in order; its state is the block of s. -/
namespace Go.Proofs.YtacknhbgfijkcaaGreatDoor
open Go Go.RowKit Go.Shelf Go.Proofs
attribute [local go_sem] Oper.semAt_some
def Boxes (lo : Nat) (c : UInt8) (s : ByteArray) (W : World) : Prop :=
 W.heap[lo]? = some (.cells #[.string s] 9 (0, 0)) ∧ W.heap[lo + 1]? = some (.cells #[.string ⟨#[c]⟩] 9 (0, 0)) ∧ W.heap[lo + 2]? = some (.cells #[.int .i64 0] 3 (0, 0))
theorem Boxes.keep {lo : Nat} {c : UInt8} {s : ByteArray} {W W' : World} (h : Boxes lo c s W) (k : KeepB lo W W') : Boxes lo c s W' :=
 ⟨(k lo (by omega) (by omega)).trans h.1, (k (lo + 1) (by omega) (by omega)).trans h.2.1, (k (lo + 2) (by omega) (by omega)).trans h.2.2⟩
theorem Boxes.cells {lo : Nat} {c : UInt8} {s : ByteArray} {W : World} (h : Boxes lo c s W) :
   W.cell? ⟨lo, 0, none⟩ = some (.string s) ∧ W.cell? ⟨lo + 1, 0, none⟩ = some (.string ⟨#[c]⟩) ∧ W.cell? ⟨lo + 2, 0, none⟩ = some (.int .i64 0) ∧ W.frozen? ⟨lo, 0, none⟩ = false:=by
 obtain ⟨a, b, d⟩:=h
 refine ⟨?_, ?_, ?_, ?_⟩
 · simp [World.cell?, a]
 · simp [World.cell?, b]
 · simp [World.cell?, d]
 · simp [World.frozen?, a]
theorem Boxes.set {lo : Nat} {c : UInt8} {s : ByteArray} {W : World} (h : Boxes lo c s W) (x : ByteArray) : Boxes lo c x (W.setCell ⟨lo, 0, none⟩ (.string x)):=by
 obtain ⟨a, b, d⟩:=h
 refine ⟨?_, (Below.heap_setCell W ⟨lo, 0, none⟩ (.string x) (lo + 1) (by simp)).trans b, (Below.heap_setCell W ⟨lo, 0, none⟩ (.string x) (lo + 2) (by simp)).trans d⟩
 simp [World.setCell, Array.getElem?_modify, a]
def boxLeft (lo : Nat) (W : World) : Nat:=match W.cell? ⟨lo, 0, none⟩ with | some (.string s) => s.size | _ => 0
theorem Boxes.left {lo : Nat} {c : UInt8} {s : ByteArray} {W : World} (h : Boxes lo c s W) : boxLeft lo W = s.size:=by
 unfold boxLeft; rw [h.cells.1]
set_option maxRecDepth 100000 in
set_option maxHeartbeats 2000000 in
theorem splitSeq1_box (n : Nat) (hn : 2 ≤ n) (lo : Nat) (c : UInt8) (s0 : ByteArray) (w : World) (hlo : lo + 3 ≤ w.heap.size) (hs0 : s0.size ≤ 9223372036854775807) (hB : Boxes lo c s0 w) :
   SeqBox Fence.wide n Tryz.prog 274 #[.pointer (some ⟨lo + 1, 0, none⟩), .pointer (some ⟨lo, 0, none⟩), .pointer (some ⟨lo + 2, 0, none⟩)] Value.string lo lo (pieces c s0) w:=fun l J Jx W hW hJ hJx hY h0 => by
 have hn1 : 1 ≤ n:=by omega
 have hB0 : Boxes lo c s0 W:=hB.keep (KeepB.below hW hlo)
 have hc0:=hB0.cells
 refine callsIn_of_wp Tryz.func274 rfl trivial ?_ rfl
 simp only [Tryz.ntmps274, List.size_toArray, List.length_cons, List.length_nil, Nat.reduceAdd, Nat.reduceSub, Array.replicate_succ, Array.replicate_zero, List.push_toArray, List.append_toArray, List.nil_append, List.cons_append]
 have q1:=hc0.1
 have q2:=hc0.2.1
 have q3:=hc0.2.2.1
 clear hc0
 gi_wp2
 gi_loopw [7] (fun _ wr => ∃ (pre : List ByteArray) (s : ByteArray), pieces c s0 = pre ++ pieces c s ∧ Boxes lo c s wr ∧ s.size ≤ s0.size ∧ J pre wr) (fun _ wr => boxLeft lo wr)
 case atStart => exact ⟨[], s0, rfl, hB0, Nat.le_refl _, h0⟩
 case round =>
   obtain ⟨pre, s, hp, hb, hle, hj⟩:=hrel
   clear q1 q2 q3
   have q1:=hb.cells.1
   have q2:=hb.cells.2.1
   have q3:=hb.cells.2.2.1
   rcases indexByte_cases s.data.toList c with ⟨h1, _⟩ | ⟨i, h1, hlt, _, _⟩
   · have hpre:=pieces_miss c s (by omega)
     rw [hpre] at hp
     obtain ⟨f1, t1, a1, b1, hy1, hR1⟩:=hY pre s wr hj (by rw [hp]; exact List.prefix_rfl)
     have H1:=Lib.hid h1
     clear h1 hpre
     gi_wp2_with (refine ⟨trivial, ?_⟩; gi_at_call 196; refine (callsIn_wide.2 (Tryz.strings_Index_one _ _ _)).mono ?_; rintro e w' ⟨rfl, rfl⟩; rw [H1.out])
     refine hR1.mono ?_
     rintro e W3 (⟨rfl, hJ3, _⟩ | ⟨rfl, hJx3⟩)
     · gi_wp2
       go_end0
       exact ⟨⟨_, rfl⟩, .inl (by rw [hp]; exact hJ3)⟩
     · gi_wp2
       go_end0
       exact ⟨⟨_, rfl⟩, .inr ⟨pre ++ [s], by rw [hp]; exact List.prefix_rfl, hJx3⟩⟩
   · have hs : s.data.toList.length = s.size:=(Lib.size_eq s).symm
     have hpre:=pieces_hit c s i h1
     rw [hpre] at hp
     obtain ⟨f1, t1, a1, b1, hy1, hR1⟩:=hY pre (s.extract 0 i) wr hj (by rw [hp]; exact ⟨pieces c (s.extract (i + 1) s.size), by simp⟩)
     have H1:=Lib.hid h1
     have htl:=tail_size s i (by omega)
     have HT:=Lib.hid htl
     have hlt2 : i < s.size:=by omega
     clear h1 hpre hs hlt htl
     gi_wp2_with (refine ⟨trivial, ?_⟩; gi_at_call 196; refine (callsIn_wide.2 (Tryz.strings_Index_one _ _ _)).mono ?_; rintro e w' ⟨rfl, rfl⟩; rw [H1.out])
     refine hR1.mono ?_
     rintro e W3 (⟨rfl, hJ3, hk3⟩ | ⟨rfl, hJx3⟩)
     · have hb3:=hb.keep hk3
       have r1:=hb3.cells.1
       have r2:=hb3.cells.2.1
       have r3:=hb3.cells.2.2.2
       gi_wp2
       have ht:=HT.out
       refine ⟨⟨pre ++ [s.extract 0 i], s.extract (i + 1) s.size, by rw [hp]; simp, hb3.set _, by rw [ht]; omega, hJ _ W3 _ (some lo) hJ3 (grownBy_setCell' W3 lo _) (fun r e => .inl (by cases e; rfl))⟩, ?_⟩
       rw [(hb3.set _).left, hb.left, ht]
       omega
     · gi_wp2
       refine bodyPost_ret (results_none rfl _ _ _) rfl ?_
       exact ⟨⟨_, rfl⟩, .inr ⟨pre ++ [s.extract 0 i], by rw [hp]; exact ⟨pieces c (s.extract (i + 1) s.size), by simp⟩, hJx3⟩⟩
set_option maxHeartbeats 1000000 in
theorem splitSeq_any (s sep : ByteArray) (w : World) :
   Calls Tryz.prog 223 #[.string s, .string sep, .int .i64 0] w fun e w' =>
     e = .returned (.func (.func 274) #[] #[.pointer (some ⟨w.heap.size + 1, 0, none⟩), .pointer (some ⟨w.heap.size, 0, none⟩), .pointer (some ⟨w.heap.size + 2, 0, none⟩)]) ∧
     w' = ((w.alloc (.cells #[.string s] 9 (0, 0))).alloc (.cells #[.string sep] 9 (0, 0))).alloc (.cells #[.int .i64 0] 3 (0, 0)):=by
 go_enter Tryz.func223, Tryz.ntmps223
 go_wp2
 go_ret
 exact ⟨rfl, rfl⟩
set_option maxHeartbeats 1000000 in
theorem SplitSeq_any (s sep : ByteArray) (w : World) :
   Calls Tryz.prog 135 #[.string s, .string sep] w fun e w' =>
     e = .returned (.func (.func 274) #[] #[.pointer (some ⟨w.heap.size + 1, 0, none⟩), .pointer (some ⟨w.heap.size, 0, none⟩), .pointer (some ⟨w.heap.size + 2, 0, none⟩)]) ∧
     w' = ((w.alloc (.cells #[.string s] 9 (0, 0))).alloc (.cells #[.string sep] 9 (0, 0))).alloc (.cells #[.int .i64 0] 3 (0, 0)):=by
 go_enter Tryz.func135, Tryz.ntmps135
 go_wp2_with (go_at_call 223; refine (splitSeq_any _ _ _).mono ?_; rintro e w' ⟨rfl, rfl⟩)
 go_ret
 exact ⟨rfl, rfl⟩
theorem boxes_new (s : ByteArray) (c : UInt8) (w : World) : Boxes w.heap.size c s (((w.alloc (.cells #[.string s] 9 (0, 0))).alloc (.cells #[.string ⟨#[c]⟩] 9 (0, 0))).alloc (.cells #[.int .i64 0] 3 (0, 0))):=by
 refine ⟨?_, ?_, ?_⟩
 · exact ((Below.heap_alloc _ _ _ (by simp; omega)).trans (Below.heap_alloc _ _ _ (by simp))).trans (World.alloc_heap_new w _)
 · refine (Below.heap_alloc _ _ _ (by simp)).trans ?_
   have:=World.alloc_heap_new (w.alloc (.cells #[.string s] 9 (0, 0))) (.cells #[.string ⟨#[c]⟩] 9 (0, 0)); rwa [World.size_alloc] at this
 · have:=World.alloc_heap_new ((w.alloc (.cells #[.string s] 9 (0, 0))).alloc (.cells #[.string ⟨#[c]⟩] 9 (0, 0))) (.cells #[.int .i64 0] 3 (0, 0)); rwa [World.size_alloc, World.size_alloc] at this
end Go.Proofs.YtacknhbgfijkcaaGreatDoor
end
section
/- Small words beside the print's: a text held against the empty one. -/
namespace Go.Proofs.YtacknhbgfijkcaaGreatDoor
theorem isEmpty_bne (l : List UInt8) : (l != []) = !l.isEmpty:=by cases l <;> rfl
theorem isEmpty_beq (l : List UInt8) : (l == []) = l.isEmpty:=by cases l <;> rfl
end Go.Proofs.YtacknhbgfijkcaaGreatDoor
end
section
namespace Go.Proofs.YtacknhbgfijkcaaGreatDoorW.PrintWords
open Go.RowKit
structure Aside0 (p : Prop) : Prop where mk :: (out : p)
structure Drawn0 (w w' : World) : Prop where mk :: (out : ∃ n, w' = w.drewN n)
theorem Drawn0.refl (w : World) : Drawn0 w w:=⟨⟨0, rfl⟩⟩
theorem Drawn0.step {w w' : World} (h : Drawn0 w w') (n : Nat) : Drawn0 w (w'.drewN n):=by
 obtain ⟨m, rfl⟩:=h
 exact ⟨⟨m + n, World.drewN_drewN ..⟩⟩
theorem Drawn0.grown {w w' : World} (h : Drawn0 w w') : Grown w w':=by
 obtain ⟨n, rfl⟩:=h
 induction n with
 | zero => exact Grown.refl _
 | succ n ih => rw [← World.drew_drewN]; exact Grown.drew ih
theorem Drawn0.below {w w' : World} (h : Drawn0 w w') : Below w.heap.size w w':=by
 obtain ⟨n, rfl⟩:=h
 induction n with
 | zero => exact Below.refl _ _
 | succ n ih => rw [← World.drew_drewN]; exact ih.drew
def rd (xs : List Int) (i : Int) : Int:=xs.getD i.toNat 0
def bt (s : ByteArray) (i : Int) : Int:=if h : i.toNat < s.size then ((s[i.toNat]'h).toNat : Int) else 0
theorem bt_at (s : ByteArray) (i : Int) : ∀ h : i.toNat < s.size, ((s[i.toNat]'h).toNat : Int) = bt s i:=fun h => by simp [bt, h]
theorem below_alloc {w W : World} (h : Below w.heap.size w W) (o : Obj) : Below w.heap.size w (W.alloc o):=h.alloc h.size o
theorem pw_below_drewN {B : Nat} {w W : World} (h : Below B w W) (n : Nat) : Below B w (W.drewN n):=⟨h.os, h.tape, h.output, h.size, h.block⟩
theorem below_then {B : Nat} {w w1 w2 : World} (h : Below B w w1) (hB : B ≤ w1.heap.size) (k : Below w1.heap.size w1 w2) : Below B w w2 :=
 h.trans ⟨k.os, k.tape, k.output, k.size, fun i hi => k.block i (Nat.lt_of_lt_of_le hi hB)⟩
theorem grown_of_below {w w1 : World} (h : Below w.heap.size w w1) (row : Option Nat) : w.grownBy w1 row:=⟨h.os, h.tape, h.output, h.size, fun i hi _ => h.block i hi⟩
theorem pw_cell_below {w w1 : World} (h : Below w.heap.size w w1) {a : Addr} {v : Value} (hc : w.cell? a = some v) : w1.cell? a = some v:=(h.cell (World.block_lt_of_cell? w a hc)).trans hc
def ReadsInt (w : World) (k : IntKind) (A : Option Addr) (n : Nat) (xs : List Int) : Prop :=
 xs.length = n ∧ n ≤ 9223372036854775807 ∧ (0 < n → ∃ ad, A = some ad ∧ ∀ j, j < n → w.cell? (ad.add j) = some (.int k (xs.getD j 0)))
theorem ReadsInt.at_ {w : World} {k : IntKind} {A : Option Addr} {n : Nat} {xs : List Int} (h : ReadsInt w k A n xs) (i : Int) (h0 : 0 ≤ i) (h1 : i < n) : ∃ ad, A = some ad ∧ w.cell? (ad.add i.toNat) = some (.int k (rd xs i)):=by
 obtain ⟨ad, e, hc⟩:=h.2.2 (by omega)
 exact ⟨ad, e, hc _ (by omega)⟩
theorem ReadsInt.below {w w1 : World} {k : IntKind} {A : Option Addr} {n : Nat} {xs : List Int} (h : ReadsInt w k A n xs) (hb : Below w.heap.size w w1) : ReadsInt w1 k A n xs :=
 ⟨h.1, h.2.1, fun hn => by
   obtain ⟨ad, e, hc⟩:=h.2.2 hn
   exact ⟨ad, e, fun j hj => pw_cell_below hb (hc j hj)⟩⟩
theorem own_base {w : World} {base : Nat} {e : TypeId} {size n : Nat} {v : Value} {xs : List Value} (h : w.ownsRow base e size v n xs) (k : Nat) (hk : v.ownBlock = some k) : base ≤ k:=by
 rcases h.2 with ⟨rfl, _⟩ | ⟨g, cap, cur, rfl, hb, _⟩
 · simp [Value.ownBlock] at hk
 · have : g = k:=by simpa [Value.ownBlock] using hk
   omega
theorem own_lt {w : World} {base : Nat} {e : TypeId} {size n : Nat} {v : Value} {xs : List Value} (h : w.ownsRow base e size v n xs) (k : Nat) (hk : v.ownBlock = some k) : k < w.heap.size:=by
 rcases h.2 with ⟨rfl, _⟩ | ⟨g, cap, cur, rfl, hb, hh, _⟩
 · simp [Value.ownBlock] at hk
 · have : g = k:=by simpa [Value.ownBlock] using hk
   subst this
   exact (Array.getElem?_eq_some_iff.1 hh).1
theorem pw_own_below {w w1 : World} {base : Nat} {e : TypeId} {size n : Nat} {v : Value} {xs : List Value} (h : w.ownsRow base e size v n xs) (hb : Below w.heap.size w w1) : w1.ownsRow base e size v n xs :=
 h.kept (grown_of_below hb none) (by cases v.ownBlock <;> simp)
section
variable {P : Program} {ops : Array Oper} {rest : List Oper} {o : Oper} {a : Act} {Q : Exit → Act → World → Prop}
end
section
variable {P : Program}
end
section
variable {P : Program} {ops : Array Oper} {rest : List Oper} {o : Oper} {a : Act} {Q : Exit → Act → World → Prop}
end
def bytesOf (s : ByteArray) : List Int:=s.data.toList.map fun b => (b.toNat : Int)
theorem ReadsInt.take_ {w : World} {k : IntKind} {A : Option Addr} {n : Nat} {xs : List Int} (h : ReadsInt w k A n xs) (i : Nat) (hi : i ≤ n) : ReadsInt w k A i (xs.take i):=by
 refine ⟨by rw [List.length_take, h.1]; omega, by have:=h.2.1; omega, fun hp => ?_⟩
 obtain ⟨ad, e, hc⟩:=h.2.2 (by omega)
 refine ⟨ad, e, fun j hj => ?_⟩
 rw [hc j (by omega)]
 simp [List.getD_eq_getElem?_getD, hj]
def LeO {α : Type} (a b : Option α) : Prop:=∀ r, a = some r → b = some r
theorem LeO.refl {α : Type} (a : Option α) : LeO a a:=fun _ h => h
theorem LeO.none {α : Type} (b : Option α) : LeO Option.none b:=fun _ h => by cases h
theorem LeO.trans {α : Type} {a b c : Option α} (h : LeO a b) (k : LeO b c) : LeO a c:=fun r hr => k r (h r hr)
theorem LeO.ite {α : Type} {c : Prop} [Decidable c] {a a' b b' : Option α} (h : LeO a a') (k : LeO b b') : LeO (if c then a else b) (if c then a' else b'):=by
 split
 · exact h
 · exact k
theorem LeO.bind {α β : Type} {a a' : Option α} {f f' : α → Option β} (h : LeO a a') (k : ∀ x, LeO (f x) (f' x)) : LeO (a.bind f) (a'.bind f'):=by
 intro r hr
 obtain ⟨x, hx, hf⟩:=Option.bind_eq_some_iff.1 hr
 exact Option.bind_eq_some_iff.2 ⟨x, h x hx, k x r hf⟩
theorem LeO.map {α β : Type} {a a' : Option α} (f : α → β) (h : LeO a a') : LeO (a.map f) (a'.map f):=by
 intro r hr
 obtain ⟨x, hx, hf⟩:=Option.map_eq_some_iff.1 hr
 exact Option.map_eq_some_iff.2 ⟨x, h x hx, hf⟩
theorem more_rounds {α : Type} {g : Nat → Option α} (h : ∀ k, LeO (g k) (g (k + 1))) (k : Nat) : ∀ j, LeO (g k) (g (k + j))
 | 0 => LeO.refl _
 | j + 1 => (more_rounds h k j).trans (h (k + j))
theorem at_rounds {α : Type} {g : Nat → Option α} (h : ∀ k, LeO (g k) (g (k + 1))) {k k' : Nat} (hk : k ≤ k') {r : α} (hr : g k = some r) : g k' = some r:=by
 have:=more_rounds h k (k' - k) r hr
 rwa [Nat.add_sub_cancel' hk] at this
def Reps {α : Type} (R : α → List Value → Prop) (size : Nat) (ps : List α) (cs : List Value) : Prop :=
 cs.length = ps.length * size ∧ ∀ j p, ps[j]? = some p → R p ((cs.drop (j * size)).take size)
theorem Reps.none {α : Type} (R : α → List Value → Prop) (size : Nat) : Reps R size [] []:=⟨by simp, fun j p h => by simp at h⟩
theorem Reps.snoc {α : Type} {R : α → List Value → Prop} {size : Nat} {ps : List α} {cs c : List Value} {p : α} (h : Reps R size ps cs) (hp : R p c) (hc : c.length = size) : Reps R size (ps ++ [p]) (cs ++ c):=by
 refine ⟨by rw [List.length_append, h.1, hc, List.length_append, List.length_singleton, Nat.add_mul, Nat.one_mul], fun j q hq => ?_⟩
 rcases Nat.lt_or_ge j ps.length with hj | hj
 · rw [List.getElem?_append_left hj] at hq
   have h1 : j * size + size ≤ cs.length:=by rw [h.1, ← Nat.succ_mul]; exact Nat.mul_le_mul_right _ hj
   have h2:=h.2 j q hq
   rw [List.drop_append_of_le_length (by omega), List.take_append_of_le_length (by rw [List.length_drop]; omega)]
   exact h2
 · have hj' : j = ps.length:=by
     have:=(List.getElem?_eq_some_iff.1 hq).1
     rw [List.length_append, List.length_singleton] at this
     omega
   subst hj'
   have hq' : p = q:=by simpa using hq
   subst hq'
   rw [← h.1, List.drop_left, ← hc, List.take_length]
   exact hp
theorem Reps.imp_ {α : Type} {R R' : α → List Value → Prop} {size : Nat} {ps : List α} {cs : List Value} (h : Reps R size ps cs) (hR : ∀ p c, R p c → R' p c) : Reps R' size ps cs:=⟨h.1, fun j p hj => hR _ _ (h.2 j p hj)⟩
def ReadsRow {α : Type} (R : α → List Value → Prop) (size : Nat) (w : World) (A : Option Addr) (n : Nat) (ps : List α) : Prop :=
 ps.length = n ∧ n ≤ 9223372036854775807 ∧ (0 < n → ∃ ad, A = some ad ∧ ∀ j p, ps[j]? = some p → ∃ c, c.length = size ∧ R p c ∧ ∀ i u, c[i]? = some u → w.cell? (ad.add (j * size + i)) = some u)
theorem ReadsRow.imp_ {α : Type} {R R' : α → List Value → Prop} {size : Nat} {w w1 : World} {A : Option Addr} {n : Nat} {ps : List α} (h : ReadsRow R size w A n ps) (hb : Below w.heap.size w w1) (hR : ∀ p c, R p c → R' p c) : ReadsRow R' size w1 A n ps :=
 ⟨h.1, h.2.1, fun hn => by
   obtain ⟨ad, e, hc⟩:=h.2.2 hn
   refine ⟨ad, e, fun j p hj => ?_⟩
   obtain ⟨c, hs, hr, hcell⟩:=hc j p hj
   exact ⟨c, hs, hR _ _ hr, fun i u hu => pw_cell_below hb (hcell i u hu)⟩⟩
theorem own_reads_row {α : Type} {R : α → List Value → Prop} {w : World} {base n size : Nat} {e : TypeId} {v : Value} {ps : List α} {cs : List Value} (h : w.ownsRow base e size v n cs) (hR : Reps R size ps cs) (hn : ps.length = n) :
   ∃ A c, v = .slice A n c ∧ ReadsRow R size w A n ps:=by
 rcases Nat.eq_zero_or_pos n with h0 | h0
 · rcases h.2 with ⟨rfl, rfl⟩ | ⟨g, cap, cur, rfl, _⟩
   · exact ⟨none, 0, rfl, hn, by omega, fun hp => absurd hp (by omega)⟩
   · exact ⟨_, cap, rfl, hn, by omega, fun hp => absurd hp (by omega)⟩
 · obtain ⟨g, cap, rfl, _, _⟩:=h.form h0
   have hm : n ≤ 9223372036854775807:=by
     rcases h.2 with ⟨_, h1⟩ | ⟨g', cap', cur, he, _, _, h1, h2, _⟩
     · omega
     · simp only [maxLen] at h2
       omega
   refine ⟨_, cap, rfl, hn, hm, fun _ => ⟨_, rfl, fun j p hj => ⟨(cs.drop (j * size)).take size, ?_, hR.2 j p hj, fun i u hu => ?_⟩⟩⟩
   · have hjl:=(List.getElem?_eq_some_iff.1 hj).1
     have h1 : j * size + size ≤ cs.length:=by rw [hR.1, ← Nat.succ_mul]; exact Nat.mul_le_mul_right _ hjl
     rw [List.length_take, List.length_drop]
     omega
   · refine h.cells (g:=g) rfl _ u ?_
     rw [List.getElem?_take] at hu
     split at hu
     · rw [List.getElem?_drop] at hu
       exact hu
     · cases hu
section
variable {P : Program} {ops : Array Oper} {rest : List Oper} {o : Oper} {a : Act} {Q : Exit → Act → World → Prop}
theorem print_append_cells {w0 W : World} (base : Nat) (hgd : o.guard = none) (s x : Operand) (t e : TypeId) (z : Value) (size bytes : Nat)
   (ho : o.op = .call { callee:=.builtin .append, args:=#[s, x], argTypes:=#[t, t] })
   (ht : P.underlying t = some (.slice e)) (hinfo : (P.info? e).map (fun i => (i.zero, i.size, i.bytes)) = some (some z, size, bytes)) (hz : z.cells.size = size) (hs0 : 0 < size) (hb0 : 0 < bytes)
   (v : Value) (n : Nat) (xs ys : List Value) (hs : a.eval s = v) (hx : a.eval x = .slice (some ⟨W.heap.size, 0, none⟩) 1 1) (hys : ys.length = size) (h1 : ∀ u ∈ ys, u.oneCell' = true)
   (HO : W.ownsRow base e size v n xs) (HB : Below base w0 W) (hbase : base ≤ W.heap.size) (hl : (n + 1) * bytes ≤ 140737488355328)
   (h : ∀ v1 w1, w1.ownsRow base e size v1 (n + 1) (xs ++ ys) → Below base w0 w1 → W.grownBy w1 v.ownBlock → (v1.ownBlock = v.ownBlock ∨ ∃ b, v1.ownBlock = some b ∧ W.heap.size ≤ b) → wpList P ops Q rest (a.put o.dst v1) w1) :
   wpList P ops Q (o :: rest) a (W.alloc (.cells ys.toArray e)):=by
 obtain ⟨i0, hi, hzz⟩:=Option.map_eq_some_iff.1 hinfo
 simp only [Prod.mk.injEq] at hzz
 obtain ⟨hz0, hz1, hz2⟩:=hzz
 have hlen : n + 1 ≤ 140737488355328:=Nat.le_trans (Nat.le_mul_of_pos_right _ hb0) hl
 refine wpList_append_own_at (W.alloc (.cells ys.toArray e)) hgd s x t ho base e i0 z size bytes ht hi hz0 hz1 hz2 hz hs0 v n xs hs (HO.alloc _) ⟨W.heap.size, 0, none⟩ 1 1 ys hx (by rw [hys]; simp)
   (by simpa using World.news_of_block (cs:=ys.toArray) (t:=e) (fr:=(0, 0)) (heap_alloc_new W (.cells ys.toArray e))) h1 (by simp only [maxLen]; omega) hl (by simp; omega) ?_
 intro v1 w1 hown hg _ hat
 refine h v1 w1 hown ((HB.alloc hbase _).grown hg (by simp; omega) (own_base HO)) (World.grownBy.trans (World.grownBy_alloc W _ _) hg) ?_
 rcases hat with hat | hat
 · exact .inl hat
 · exact .inr ⟨_, hat, by simp⟩
end
theorem own_ne {w : World} {base : Nat} {e t : TypeId} {size n g : Nat} {v : Value} {xs : List Value} {cs : Array Value} (h : w.ownsRow base e size v n xs) (hg : w.heap[g]? = some (.cells cs t (0, 0))) (hne : e ≠ t) : some g ≠ v.ownBlock:=by
 rcases h.2 with ⟨rfl, _⟩ | ⟨g', cap, cur, rfl, _, hh, _⟩
 · simp [Value.ownBlock]
 · intro he
   have : g = g':=by simpa [Value.ownBlock] using he
   subst this
   rw [hg] at hh
   injection hh with hh
   injection hh with _ ht
   exact hne ht.symm
theorem blk_lt {w : World} {g : Nat} {o : Obj} (h : w.heap[g]? = some o) : g < w.heap.size:=(Array.getElem?_eq_some_iff.1 h).1
def KeepBut (w w' : World) (g : Nat) (row : Option Nat) : Prop:=w.heap.size ≤ w'.heap.size ∧ ∀ i, i < w.heap.size → i ≠ g → some i ≠ row → w'.heap[i]? = w.heap[i]?
theorem KeepBut.refl (w : World) (g : Nat) (row : Option Nat) : KeepBut w w g row:=⟨Nat.le_refl _, fun _ _ _ _ => rfl⟩
theorem KeepBut.of_below {w w1 : World} (h : Below w.heap.size w w1) (g : Nat) (row : Option Nat) : KeepBut w w1 g row:=⟨h.size, fun i hi _ _ => h.block i hi⟩
theorem KeepBut.trans {w w1 w2 : World} {g : Nat} {row row1 : Option Nat} (h : KeepBut w w1 g row) (k : KeepBut w1 w2 g row1) (hr : row1 = row ∨ ∃ b, row1 = some b ∧ w.heap.size ≤ b) : KeepBut w w2 g row :=
 ⟨Nat.le_trans h.1 k.1, fun i hi hg hn => by
   refine (k.2 i (Nat.lt_of_lt_of_le hi h.1) hg ?_).trans (h.2 i hi hg hn)
   rcases hr with rfl | ⟨b, rfl, hb⟩
   · exact hn
   · intro e
     injection e with e
     omega⟩
theorem KeepBut.blk {w w1 : World} {g g' : Nat} {row : Option Nat} {o : Obj} (h : KeepBut w w1 g row) (hb : w.heap[g']? = some o) (hg : g' ≠ g) (hr : some g' ≠ row) : w1.heap[g']? = some o:=(h.2 g' (blk_lt hb) hg hr).trans hb
theorem KeepBut.own {w w1 : World} {g : Nat} {row : Option Nat} {base : Nat} {e : TypeId} {size n : Nat} {v : Value} {xs : List Value} (h : KeepBut w w1 g row) (ho : w.ownsRow base e size v n xs) (hg : v.ownBlock ≠ some g) (hr : v.ownBlock = none ∨ v.ownBlock ≠ row) : w1.ownsRow base e size v n xs:=by
 obtain ⟨h1, h2⟩:=ho
 refine ⟨h1, ?_⟩
 rcases h2 with h2 | ⟨b, cap, cur, rfl, hb, hh, r⟩
 · exact .inl h2
 · refine .inr ⟨b, cap, cur, rfl, hb, h.blk hh ?_ ?_, r⟩
   · intro e
     exact hg (by rw [← e]; rfl)
   · rcases hr with hr | hr
     · simp [Value.ownBlock] at hr
     · exact hr
def Ev {α : Type} (g : Nat → Option α) (r : α) : Prop:=∃ K, ∀ k, K ≤ k → g k = some r
theorem Ev.of {α : Type} {g : Nat → Option α} {r : α} (hg : ∀ k, LeO (g k) (g (k + 1))) {k : Nat} (h : g k = some r) : Ev g r:=⟨k, fun _ hk => at_rounds hg hk h⟩
theorem Ev.bind {α β : Type} {g : Nat → Option α} {f : Nat → α → Option β} {a : α} {r : β} (h : Ev g a) (k : Ev (fun n => f n a) r) : Ev (fun n => (g n).bind (f n)) r:=by
 obtain ⟨K, h⟩:=h
 obtain ⟨K', k⟩:=k
 refine ⟨max K K', fun n hn => ?_⟩
 have h1:=h n (by omega)
 have h2:=k n (by omega)
 simp only [h1, Option.bind_some]
 exact h2
theorem Ev.step {α : Type} {g f : Nat → Option α} {r : α} (h : ∀ k, g (k + 1) = f k) (k : Ev f r) : Ev g r:=by
 obtain ⟨K, k⟩:=k
 refine ⟨K + 1, fun n hn => ?_⟩
 obtain ⟨m, rfl⟩ : ∃ m, n = m + 1:=⟨n - 1, by omega⟩
 rw [h]
 exact k m (by omega)
theorem Ev.congr {α : Type} {g f : Nat → Option α} {r : α} (h : ∀ k, g k = f k) (k : Ev f r) : Ev g r:=by
 obtain ⟨K, k⟩:=k
 exact ⟨K, fun n hn => (h n).trans (k n hn)⟩
section
variable {P : Program} {ops : Array Oper} {o : Oper} {a : Act} {Q : Exit → Act → World → Prop} {K : Act → World → Prop}
theorem step_append_cells {w0 W : World} (base : Nat) (hw : Region.wanted o (yielded ops a.tmps) = true) (s x : Operand) (t e : TypeId) (z : Value) (size bytes : Nat)
   (ho : o.op = .call { callee:=.builtin .append, args:=#[s, x], argTypes:=#[t, t] })
   (ht : P.underlying t = some (.slice e)) (hinfo : (P.info? e).map (fun i => (i.zero, i.size, i.bytes)) = some (some z, size, bytes)) (hz : z.cells.size = size) (hs0 : 0 < size) (hb0 : 0 < bytes)
   (v : Value) (n : Nat) (xs ys : List Value) (hs : a.eval s = v) (hx : a.eval x = .slice (some ⟨W.heap.size, 0, none⟩) 1 1) (hys : ys.length = size) (h1 : ∀ u ∈ ys, u.oneCell' = true)
   (HO : W.ownsRow base e size v n xs) (HB : Below base w0 W) (hbase : base ≤ W.heap.size) (hl : (n + 1) * bytes ≤ 140737488355328)
   (h : ∀ v1 w1, w1.ownsRow base e size v1 (n + 1) (xs ++ ys) → Below base w0 w1 → W.grownBy w1 v.ownBlock → (v1.ownBlock = v.ownBlock ∨ ∃ b, v1.ownBlock = some b ∧ W.heap.size ≤ b) → K (a.put o.dst v1) w1) :
   if Region.wanted o (yielded ops a.tmps) = true then Oper.wp P o a (W.alloc (.cells ys.toArray e)) K Q else K (a.put o.dst undef) (W.alloc (.cells ys.toArray e)):=by
 obtain ⟨i0, hi, hzz⟩:=Option.map_eq_some_iff.1 hinfo
 simp only [Prod.mk.injEq] at hzz
 obtain ⟨hz0, hz1, hz2⟩:=hzz
 have hlen : n + 1 ≤ 140737488355328:=Nat.le_trans (Nat.le_mul_of_pos_right _ hb0) hl
 rw [if_pos hw]
 obtain ⟨v1, w1, hr, hown, hg, _, hat⟩:=run_append_own_at (P:=P) (W.alloc (.cells ys.toArray e)) base t o.type e i0 z size bytes ht hi hz0 hz1 hz2 hz hs0 v n xs (HO.alloc _) ⟨W.heap.size, 0, none⟩ 1 1 ys (by rw [hys]; simp)
   (by simpa using World.news_of_block (cs:=ys.toArray) (t:=e) (fr:=(0, 0)) (heap_alloc_new W (.cells ys.toArray e))) h1 (by simp only [maxLen]; omega) hl (by simp; omega)
 unfold Oper.wp execOp
 simp only [ho, resolve, invoke, builtin, Sem.run_bind, Sem.run_pure, Result.andThen_ok, List.map_toArray, List.map_cons, List.map_nil, hs, hx, hr]
 refine h v1 w1 hown ((HB.alloc hbase _).grown hg (by simp; omega) (own_base HO)) (World.grownBy.trans (World.grownBy_alloc W _ _) hg) ?_
 rcases hat with hat | hat
 · exact .inl hat
 · exact .inr ⟨_, hat, by simp⟩
end
theorem own_weaken {w : World} {base base' : Nat} {e : TypeId} {size n : Nat} {v : Value} {xs : List Value} (h : w.ownsRow base e size v n xs) (hb : base' ≤ base) : w.ownsRow base' e size v n xs:=by
 obtain ⟨h1, h2⟩:=h
 refine ⟨h1, ?_⟩
 rcases h2 with h2 | ⟨g, cap, cur, rfl, hg, r⟩
 · exact .inl h2
 · exact .inr ⟨g, cap, cur, rfl, Nat.le_trans hb hg, r⟩
section
variable {α : Type} {enc : α → Value} {d : α}
def rdOf (d : α) (xs : List α) (i : Int) : α:=xs.getD i.toNat d
def ReadsOf (enc : α → Value) (d : α) (w : World) (A : Option Addr) (n : Nat) (xs : List α) : Prop :=
 xs.length = n ∧ n ≤ 9223372036854775807 ∧ (0 < n → ∃ ad, A = some ad ∧ ∀ j, j < n → w.cell? (ad.add j) = some (enc (xs.getD j d)))
theorem ReadsOf.at_ {w : World} {A : Option Addr} {n : Nat} {xs : List α} (h : ReadsOf enc d w A n xs) (i : Int) (h0 : 0 ≤ i) (h1 : i < n) : ∃ ad, A = some ad ∧ w.cell? (ad.add i.toNat) = some (enc (rdOf d xs i)):=by
 obtain ⟨ad, e, hc⟩:=h.2.2 (by omega)
 exact ⟨ad, e, hc _ (by omega)⟩
theorem ReadsOf.below {w w1 : World} {A : Option Addr} {n : Nat} {xs : List α} (h : ReadsOf enc d w A n xs) (hb : Below w.heap.size w w1) : ReadsOf enc d w1 A n xs :=
 ⟨h.1, h.2.1, fun hn => by
   obtain ⟨ad, e, hc⟩:=h.2.2 hn
   exact ⟨ad, e, fun j hj => pw_cell_below hb (hc j hj)⟩⟩
theorem ReadsOf.take_ {w : World} {A : Option Addr} {n : Nat} {xs : List α} (h : ReadsOf enc d w A n xs) (i : Nat) (hi : i ≤ n) : ReadsOf enc d w A i (xs.take i):=by
 refine ⟨by rw [List.length_take, h.1]; omega, by have:=h.2.1; omega, fun hp => ?_⟩
 obtain ⟨ad, e, hc⟩:=h.2.2 (by omega)
 refine ⟨ad, e, fun j hj => ?_⟩
 rw [hc j (by omega)]
 simp [List.getD_eq_getElem?_getD, hj]
end
section
variable {α : Type} {P : Program} {ops : Array Oper} {rest : List Oper} {o : Oper} {a : Act} {Q : Exit → Act → World → Prop}
end
section
variable {P : Program}
end
theorem own_le {w : World} {base n m c size : Nat} {e : TypeId} {A : Option Addr} {xs : List Value} (h : w.ownsRow base e size (.slice A m c) n xs) : m ≤ c:=by
 rcases h.2 with ⟨he, _⟩ | ⟨g, cap, cur, he, _, _, hnc, _⟩
 · injection he with _ h2 h3
   omega
 · injection he with _ h2 h3
   omega
def OwnRow {α : Type} (R : α → List Value → Prop) (e : TypeId) (size : Nat) (w : World) (base : Nat) (v : Value) (ps : List α) : Prop :=
 ∃ inner, w.ownsRow base e size v ps.length inner ∧ Reps R size ps inner
section
variable {α : Type} {R R' : α → List Value → Prop} {e : TypeId} {size : Nat} {w w1 : World} {base : Nat} {v : Value} {ps : List α}
theorem OwnRow.imp_ (h : OwnRow R e size w base v ps) (hR : ∀ p c, R p c → R' p c) : OwnRow R' e size w base v ps:=by
 obtain ⟨inner, ho, hr⟩:=h
 exact ⟨inner, ho, hr.imp_ hR⟩
theorem OwnRow.below (h : OwnRow R e size w base v ps) (hb : Below w.heap.size w w1) : OwnRow R e size w1 base v ps:=by
 obtain ⟨inner, ho, hr⟩:=h
 exact ⟨inner, pw_own_below ho hb, hr⟩
theorem OwnRow.keep (h : OwnRow R e size w base v ps) {g : Nat} {t : TypeId} {cells : Array Value} (hb : w.heap[g]? = some (.cells cells t (0, 0))) (ht : e ≠ t) (hk : KeepBut w w1 g none) : OwnRow R e size w1 base v ps:=by
 obtain ⟨inner, ho, hr⟩:=h
 exact ⟨inner, hk.own ho (Ne.symm (own_ne ho hb ht)) (by cases v.ownBlock <;> simp), hr⟩
theorem OwnRow.reads (h : OwnRow R e size w base v ps) : ∃ A c, v = .slice A ps.length c ∧ ps.length ≤ c ∧ ReadsRow R size w A ps.length ps:=by
 obtain ⟨inner, ho, hr⟩:=h
 obtain ⟨A, c, rfl, hrow⟩:=own_reads_row ho hr rfl
 exact ⟨A, c, rfl, own_le ho, hrow⟩
theorem OwnRow.lit (W : World) (base : Nat) {inner : List Value} (hr : Reps R size ps inner) (hb : base ≤ W.heap.size) (hm : ps.length ≤ 9223372036854775807) :
   OwnRow R e size (W.alloc (.cells inner.toArray e)) base (.slice (some ⟨W.heap.size, 0, none⟩) ps.length ps.length) ps:=by
 have h:=World.ownsRow_lit (base:=base) (e:=e) (size:=size) W inner.toArray ps.length hb (by simpa [maxLen] using hm) (by simpa using hr.1)
 exact ⟨inner, by simpa using h, hr⟩
end
section
variable {P : Program} {ops : Array Oper} {rest : List Oper} {o : Oper} {a : Act} {Q : Exit → Act → World → Prop} {α : Type} {R : α → List Value → Prop}
theorem OwnRow.append {w0 W : World} (base : Nat) (hgd : o.guard = none) (s x : Operand) (t e : TypeId) (z : Value) (size bytes : Nat)
   (ho : o.op = .call { callee:=.builtin .append, args:=#[s, x], argTypes:=#[t, t] })
   (ht : P.underlying t = some (.slice e)) (hinfo : (P.info? e).map (fun i => (i.zero, i.size, i.bytes)) = some (some z, size, bytes)) (hz : z.cells.size = size) (hs0 : 0 < size) (hb0 : 0 < bytes)
   (v : Value) (ps : List α) (p : α) (cs : List Value) (hs : a.eval s = v) (hx : a.eval x = .slice (some ⟨W.heap.size, 0, none⟩) 1 1) (hp : R p cs) (hcs : cs.length = size) (h1 : ∀ u ∈ cs, u.oneCell' = true)
   (HO : OwnRow R e size W base v ps) (HB : Below base w0 W) (hbase : base ≤ W.heap.size) (hl : (ps.length + 1) * bytes ≤ 140737488355328)
   (h : ∀ v1 w1, OwnRow R e size w1 base v1 (ps ++ [p]) → Below base w0 w1 → W.grownBy w1 v.ownBlock → (v1.ownBlock = v.ownBlock ∨ ∃ b, v1.ownBlock = some b ∧ W.heap.size ≤ b) → wpList P ops Q rest (a.put o.dst v1) w1) :
   wpList P ops Q (o :: rest) a (W.alloc (.cells cs.toArray e)):=by
 obtain ⟨inner, hown, hr⟩:=HO
 refine print_append_cells base hgd s x t e z size bytes ho ht hinfo hz hs0 hb0 v ps.length inner cs hs hx hcs h1 hown HB hbase hl ?_
 intro v1 w1 hown1 hb1 hg1 hat1
 exact h v1 w1 ⟨inner ++ cs, by rw [List.length_append, List.length_singleton]; exact hown1, hr.snoc hp hcs⟩ hb1 hg1 hat1
end
section
variable {P : Program} {ops : Array Oper} {o : Oper} {a : Act} {Q : Exit → Act → World → Prop} {K : Act → World → Prop} {α : Type} {R : α → List Value → Prop}
end
section
variable {α : Type} {P : Program}
theorem ReadsOf.len_ {enc : α → Value} {d : α} {w : World} {A : Option Addr} {n : Nat} {xs : List α} (h : ReadsOf enc d w A n xs) : ReadsOf enc d w A xs.length xs:=by rw [h.1]; exact h
end
section
variable {P : Program} {ops : Array Oper} {rest : List Oper} {o : Oper} {a : Act} {Q : Exit → Act → World → Prop}
end
structure Kd (α : Type) where
 sz : Nat
 E : List Nat
 K : World → α → List Value → Prop
 M : World → Nat → (Nat → Prop) → α → List Value → Prop
 K_len : ∀ {w x cs}, K w x cs → cs.length = sz
 K_one : ∀ {w x cs}, K w x cs → ∀ u ∈ cs, u.oneCell' = true
 K_below : ∀ {w w1 : World} {x cs}, Below w.heap.size w w1 → K w x cs → K w1 x cs
 K_of_M : ∀ {w base ok x cs}, M w base ok x cs → K w x cs
 M_mono : ∀ {w base ok ok' x cs}, (∀ k, ok k → ok' k) → M w base ok x cs → M w base ok' x cs
 M_bound : ∀ {w : World} {base ok x cs}, M w base ok x cs → M w base (fun k => ok k ∧ base ≤ k ∧ k < w.heap.size ∧ ∃ q, q ∈ E ∧ ∃ cells, w.heap[k]? = some (.cells cells q (0, 0))) x cs
 M_move : ∀ {w w1 : World} {base ok x cs}, (∀ k, ok k → w1.heap[k]? = w.heap[k]?) → M w base ok x cs → M w1 base ok x cs
 M_lower : ∀ {w base base' ok x cs}, base' ≤ base → M w base ok x cs → M w base' ok x cs
theorem own_move {w w1 : World} {base : Nat} {e : TypeId} {size n : Nat} {v : Value} {xs : List Value} (h : w.ownsRow base e size v n xs) (hm : ∀ k, v.ownBlock = some k → w1.heap[k]? = w.heap[k]?) : w1.ownsRow base e size v n xs:=by
 obtain ⟨h1, h2⟩:=h
 refine ⟨h1, ?_⟩
 rcases h2 with h2 | ⟨g, cap, cur, rfl, hg, hh, r⟩
 · exact .inl h2
 · exact .inr ⟨g, cap, cur, rfl, hg, (hm g (by simp [Value.ownBlock])).trans hh, r⟩
theorem own_typed {w : World} {base : Nat} {e : TypeId} {size n : Nat} {v : Value} {xs : List Value} (h : w.ownsRow base e size v n xs) (k : Nat) (hk : v.ownBlock = some k) : ∃ cells, w.heap[k]? = some (.cells cells e (0, 0)):=by
 rcases h.2 with ⟨rfl, _⟩ | ⟨g, cap, cur, rfl, hg, hh, r⟩
 · simp [Value.ownBlock] at hk
 · have : g = k:=by simpa [Value.ownBlock] using hk
   subst this
   exact ⟨cur, hh⟩
namespace Kd
def C {α : Type} (d : Kd α) (w : World) (A : Option Addr) (n : Nat) (xs : List α) : Prop:=ReadsRow (d.K w) d.sz w A n xs
def R {α : Type} (d : Kd α) (e : Nat) (w : World) (base : Nat) (ok : Nat → Prop) (v : Value) (xs : List α) : Prop :=
 (∀ k, v.ownBlock = some k → ok k) ∧ OwnRow (d.M w base (fun k => ok k ∧ some k ≠ v.ownBlock)) e d.sz w base v xs
section
variable {α : Type} {d : Kd α} {e : Nat} {w w1 : World} {base : Nat} {ok ok' : Nat → Prop} {v : Value} {xs : List α}
theorem C_below {A : Option Addr} {n : Nat} (h : d.C w A n xs) (hb : Below w.heap.size w w1) : d.C w1 A n xs:=ReadsRow.imp_ h hb (fun _ _ hp => d.K_below hb hp)
theorem R_mono (h : d.R e w base ok v xs) (hok : ∀ k, ok k → ok' k) : d.R e w base ok' v xs:=⟨fun k hk => hok k (h.1 k hk), h.2.imp_ (fun _ _ hp => d.M_mono (fun k hk => ⟨hok k hk.1, hk.2⟩) hp)⟩
theorem R_bound (h : d.R e w base ok v xs) : d.R e w base (fun k => ok k ∧ base ≤ k ∧ k < w.heap.size ∧ ∃ q, q ∈ e :: d.E ∧ ∃ cells, w.heap[k]? = some (.cells cells q (0, 0))) v xs:=by
 obtain ⟨h0, inner, ho, hr⟩:=h
 refine ⟨fun k hk => ?_, inner, ho, hr.imp_ (fun _ _ hp => d.M_mono (fun k hk => ?_) (d.M_bound hp))⟩
 · obtain ⟨cells, hc⟩:=own_typed ho k hk
   exact ⟨h0 k hk, own_base ho k hk, own_lt ho k hk, e, List.mem_cons_self, cells, hc⟩
 · obtain ⟨⟨h1, h2⟩, h3, h4, q, hq, hc⟩:=hk
   exact ⟨⟨h1, h3, h4, q, List.mem_cons_of_mem _ hq, hc⟩, h2⟩
theorem R_move (h : d.R e w base ok v xs) (hm : ∀ k, ok k → w1.heap[k]? = w.heap[k]?) : d.R e w1 base ok v xs:=by
 obtain ⟨h0, inner, ho, hr⟩:=h
 exact ⟨h0, inner, own_move ho (fun k hk => hm k (h0 k hk)), hr.imp_ (fun _ _ hp => d.M_move (fun k hk => hm k hk.1) hp)⟩
theorem R_lower {base' : Nat} (h : d.R e w base ok v xs) (hb : base' ≤ base) : d.R e w base' ok v xs:=by
 obtain ⟨h0, inner, ho, hr⟩:=h
 exact ⟨h0, inner, own_weaken ho hb, hr.imp_ (fun _ _ hp => d.M_lower hb hp)⟩
theorem R_reads (h : d.R e w base ok v xs) : ∃ A c, v = .slice A xs.length c ∧ xs.length ≤ c ∧ d.C w A xs.length xs:=by
 obtain ⟨A, c, he, hl, hr⟩:=OwnRow.reads h.2
 exact ⟨A, c, he, hl, hr.imp_ (Below.refl _ _) (fun _ _ hp => d.K_of_M hp)⟩
theorem R_own (h : d.R e w base ok v xs) : ∃ inner, w.ownsRow base e d.sz v xs.length inner:=by
 obtain ⟨_, inner, ho, _⟩:=h
 exact ⟨inner, ho⟩
end
def scalar {α : Type} (enc : α → Value) (h1 : ∀ x, (enc x).oneCell' = true) : Kd α where
 sz:=1
 E:=[]
 K:=fun _ x cs => cs = [enc x]
 M:=fun _ _ _ x cs => cs = [enc x]
 K_len:=fun h => by rw [h]; rfl
 K_one:=fun h u hu => by
   rw [h] at hu
   rw [List.mem_singleton.1 hu]
   exact h1 _
 K_below:=fun _ h => h
 K_of_M:=fun h => h
 M_mono:=fun _ h => h
 M_bound:=fun h => h
 M_move:=fun _ h => h
 M_lower:=fun _ h => h
def int (k : IntKind) : Kd Int:=scalar (Value.int k) (fun _ => rfl)
def bool : Kd Bool:=scalar Value.bool (fun _ => rfl)
def string : Kd ByteArray:=scalar Value.string (fun _ => rfl)
def slice {α : Type} (e : Nat) (d : Kd α) : Kd (List α) where
 sz:=1
 E:=e :: d.E
 K:=fun w xs cs => ∃ A c, cs = [.slice A xs.length c] ∧ xs.length ≤ c ∧ d.C w A xs.length xs
 M:=fun w base ok xs cs => ∃ v, cs = [v] ∧ d.R e w base ok v xs
 K_len:=by
   rintro w x cs ⟨A, c, rfl, _⟩
   rfl
 K_one:=by
   rintro w x cs ⟨A, c, rfl, _⟩ u hu
   rw [List.mem_singleton.1 hu]
   rfl
 K_below:=by
   rintro w w1 x cs hb ⟨A, c, rfl, hl, hr⟩
   exact ⟨A, c, rfl, hl, C_below hr hb⟩
 K_of_M:=by
   rintro w base ok x cs ⟨v, rfl, h⟩
   obtain ⟨A, c, rfl, hl, hr⟩:=R_reads h
   exact ⟨A, c, rfl, hl, hr⟩
 M_mono:=by
   rintro w base ok ok' x cs hok ⟨v, rfl, h⟩
   exact ⟨v, rfl, R_mono h hok⟩
 M_bound:=by
   rintro w base ok x cs ⟨v, rfl, h⟩
   exact ⟨v, rfl, R_bound h⟩
 M_move:=by
   rintro w w1 base ok x cs hm ⟨v, rfl, h⟩
   exact ⟨v, rfl, R_move h hm⟩
 M_lower:=by
   rintro w base base' ok x cs hb ⟨v, rfl, h⟩
   exact ⟨v, rfl, R_lower h hb⟩
def pair {α β : Type} (a : Kd α) (b : Kd β) : Kd (α × β) where
 sz:=a.sz + b.sz
 E:=a.E ++ b.E
 K:=fun w x cs => ∃ c0 c1, cs = c0 ++ c1 ∧ a.K w x.1 c0 ∧ b.K w x.2 c1
 M:=fun w base ok x cs => ∃ c0 c1, cs = c0 ++ c1 ∧ a.M w base ok x.1 c0 ∧ b.M w base ok x.2 c1
 K_len:=by
   rintro w x cs ⟨c0, c1, rfl, h0, h1⟩
   rw [List.length_append, a.K_len h0, b.K_len h1]
 K_one:=by
   rintro w x cs ⟨c0, c1, rfl, h0, h1⟩ u hu
   rcases List.mem_append.1 hu with hu | hu
   · exact a.K_one h0 u hu
   · exact b.K_one h1 u hu
 K_below:=by
   rintro w w1 x cs hb ⟨c0, c1, rfl, h0, h1⟩
   exact ⟨c0, c1, rfl, a.K_below hb h0, b.K_below hb h1⟩
 K_of_M:=by
   rintro w base ok x cs ⟨c0, c1, rfl, h0, h1⟩
   exact ⟨c0, c1, rfl, a.K_of_M h0, b.K_of_M h1⟩
 M_mono:=by
   rintro w base ok ok' x cs hok ⟨c0, c1, rfl, h0, h1⟩
   exact ⟨c0, c1, rfl, a.M_mono hok h0, b.M_mono hok h1⟩
 M_bound:=by
   rintro w base ok x cs ⟨c0, c1, rfl, h0, h1⟩
   refine ⟨c0, c1, rfl, a.M_mono ?_ (a.M_bound h0), b.M_mono ?_ (b.M_bound h1)⟩
   · rintro k ⟨h2, h3, h4, q, hq, hc⟩
     exact ⟨h2, h3, h4, q, List.mem_append_left _ hq, hc⟩
   · rintro k ⟨h2, h3, h4, q, hq, hc⟩
     exact ⟨h2, h3, h4, q, List.mem_append_right _ hq, hc⟩
 M_move:=by
   rintro w w1 base ok x cs hm ⟨c0, c1, rfl, h0, h1⟩
   exact ⟨c0, c1, rfl, a.M_move hm h0, b.M_move hm h1⟩
 M_lower:=by
   rintro w base base' ok x cs hb ⟨c0, c1, rfl, h0, h1⟩
   exact ⟨c0, c1, rfl, a.M_lower hb h0, b.M_lower hb h1⟩
def bot {α : Type} (sz : Nat) (E : List Nat) : Kd α where
 sz:=sz
 E:=E
 K:=fun _ _ _ => False
 M:=fun _ _ _ _ _ => False
 K_len:=fun h => h.elim
 K_one:=fun h => h.elim
 K_below:=fun _ h => h
 K_of_M:=fun h => h
 M_mono:=fun _ h => h
 M_bound:=fun h => h
 M_move:=fun _ h => h
 M_lower:=fun _ h => h
def upto {α : Type} (F : Kd α → Kd α) (sz : Nat) (E : List Nat) : Nat → Kd α
 | 0 => bot sz E
 | n + 1 => F (upto F sz E n)
def fix {α : Type} (F : Kd α → Kd α) (sz : Nat) (E : List Nat) (hs : ∀ n, (upto F sz E n).sz = sz) (hE : ∀ n q, q ∈ (upto F sz E n).E → q ∈ E) : Kd α where
 sz:=sz
 E:=E
 K:=fun w x cs => ∃ n, (upto F sz E n).K w x cs
 M:=fun w base ok x cs => ∃ n, (upto F sz E n).M w base ok x cs
 K_len:=by
   rintro w x cs ⟨n, h⟩
   rw [(upto F sz E n).K_len h, hs n]
 K_one:=by
   rintro w x cs ⟨n, h⟩
   exact (upto F sz E n).K_one h
 K_below:=by
   rintro w w1 x cs hb ⟨n, h⟩
   exact ⟨n, (upto F sz E n).K_below hb h⟩
 K_of_M:=by
   rintro w base ok x cs ⟨n, h⟩
   exact ⟨n, (upto F sz E n).K_of_M h⟩
 M_mono:=by
   rintro w base ok ok' x cs hok ⟨n, h⟩
   exact ⟨n, (upto F sz E n).M_mono hok h⟩
 M_bound:=by
   rintro w base ok x cs ⟨n, h⟩
   refine ⟨n, (upto F sz E n).M_mono ?_ ((upto F sz E n).M_bound h)⟩
   rintro k ⟨h2, h3, h4, q, hq, hc⟩
   exact ⟨h2, h3, h4, q, hE n q hq, hc⟩
 M_move:=by
   rintro w w1 base ok x cs hm ⟨n, h⟩
   exact ⟨n, (upto F sz E n).M_move hm h⟩
 M_lower:=by
   rintro w base base' ok x cs hb ⟨n, h⟩
   exact ⟨n, (upto F sz E n).M_lower hb h⟩
section
variable {P : Program} {ops : Array Oper} {rest : List Oper} {o : Oper} {a : Act} {Q : Exit → Act → World → Prop} {α : Type}
end
section
variable {P : Program} {ops : Array Oper} {o : Oper} {a : Act} {Q : Exit → Act → World → Prop} {Kc : Act → World → Prop} {α : Type}
end
end Kd
namespace Kd
structure Mono {α β : Type} (F : Kd α → Kd β) : Prop where
 sz : ∀ d d' : Kd α, d.sz = d'.sz → (F d).sz = (F d').sz
 K : ∀ d d' : Kd α, d.sz = d'.sz → (∀ w x cs, d.K w x cs → d'.K w x cs) → ∀ w x cs, (F d).K w x cs → (F d').K w x cs
 M : ∀ d d' : Kd α, d.sz = d'.sz → (∀ w base ok x cs, d.M w base ok x cs → d'.M w base ok x cs) → ∀ w base ok x cs, (F d).M w base ok x cs → (F d').M w base ok x cs
section
variable {α : Type} {F : Kd α → Kd α} {sz : Nat} {E : List Nat} {hs : ∀ n, (upto F sz E n).sz = sz} {hE : ∀ n q, q ∈ (upto F sz E n).E → q ∈ E}
end
end Kd
namespace Kd
end Kd
namespace Kd
section
variable {α β : Type} {d : Kd α} {d' : Kd β} {e e' : Nat} {w w1 W : World} {base b b' : Nat} {ok ok' okv oku : Nat → Prop} {v u : Value} {xs : List α} {ys : List β}
theorem R_lt (h : d.R e w base ok v xs) : ∀ k, v.ownBlock = some k → k < w.heap.size:=by
 obtain ⟨inner, ho⟩:=R_own h
 exact own_lt ho
theorem fresh_ok (hu : d'.R e' W b oku u ys) : ∀ k, W.heap.size ≤ k → some k ≠ u.ownBlock:=fun k hk he => by have:=R_lt hu k he.symm; omega
end
section
variable {w W : World} {A : Option Addr} {n : Nat}
variable {α : Type} {enc : α → Value} {h1 : ∀ x, (enc x).oneCell' = true} {e base g cap : Nat} {ok : Nat → Prop} {xs : List α}
end
section
variable {P : Program} {ops : Array Oper} {rest : List Oper} {o : Oper} {a : Act} {Q : Exit → Act → World → Prop}
variable {α : Type}
end
end Kd
section
variable {P : Program}
end
def QRow (w : World) (base : Nat) (e : TypeId) (size : Nat) (v : Value) (n : Nat) (xs : List Value) : Prop :=
 xs.length = n * size ∧
 ((n = 0 ∧ ∃ A, v = .slice A 0 0 ∧ ∀ a, A = some a → base ≤ a.block ∧ ∃ cur, w.heap[a.block]? = some (.cells cur e (0, 0))) ∨
  ∃ g off cap cur, v = .slice (some ⟨g, off * size, none⟩) n cap ∧ base ≤ g ∧ w.heap[g]? = some (.cells cur e (0, 0)) ∧ n ≤ cap ∧ off + cap ≤ maxLen ∧ cur.size = (off + cap) * size ∧ (cur.toList.drop (off * size)).take (n * size) = xs)
section
variable {w w1 : World} {base n size : Nat} {e : TypeId} {v : Value} {xs : List Value}
end
section
variable {P : Program}
end
namespace Kd
def Q {α : Type} (d : Kd α) (e : Nat) (w : World) (base : Nat) (ok : Nat → Prop) (v : Value) (xs : List α) : Prop :=
 (∀ k, v.ownBlock = some k → ok k) ∧ ∃ inner, QRow w base e d.sz v xs.length inner ∧ Reps (d.M w base (fun k => ok k ∧ some k ≠ v.ownBlock)) d.sz xs inner
section
variable {α : Type} {d : Kd α} {e : Nat} {w w1 W : World} {base : Nat} {ok ok' : Nat → Prop} {v : Value} {xs : List α}
end
section
variable {P : Program} {ops : Array Oper} {rest : List Oper} {o : Oper} {a : Act} {Q' : Exit → Act → World → Prop} {Kc : Act → World → Prop} {α : Type}
end
end Kd
namespace Kd
section
variable {α : Type} {d : Kd α} {e e' : Nat} {w w1 W : World} {base : Nat} {ok : Nat → Prop} {u v : Value} {xs : List α}
end
end Kd
namespace Kd
section
variable {α : Type} {d : Kd α} {e base g n cap : Nat} {ok okp : Nat → Prop} {W : World} {xs : List α}
end
end Kd
namespace Kd
section
variable {α : Type} {F : Kd α → Kd α} {sz : Nat} {E : List Nat} {hs : ∀ n, (upto F sz E n).sz = sz} {hE : ∀ n q, q ∈ (upto F sz E n).E → q ∈ E}
end
end Kd
namespace Kd
section
variable {P : Program} {ops : Array Oper} {rest : List Oper} {o : Oper} {a : Act} {Q : Exit → Act → World → Prop} {α : Type}
end
end Kd
namespace Kd
section
variable {P : Program} {ops : Array Oper} {rest : List Oper} {o : Oper} {a : Act} {Q : Exit → Act → World → Prop} {α : Type}
end
end Kd
theorem add_add (a : Addr) (i j : Nat) : (a.add i).add j = a.add (i + j):=by
 unfold Addr.add
 by_cases h1 : i = 0 <;> by_cases h2 : j = 0 <;> simp [h1, h2, Nat.add_assoc]
namespace Kd
section
variable {α : Type} {k : Kd α} {w : World} {A : Option Addr} {xs : List α} {m c : Nat}
end
end Kd
section
variable {P : Program}
end
theorem below_step {w W w2 : World} (h : Below w.heap.size w W) (k : Below W.heap.size W w2) : Below w.heap.size w w2:=below_then h h.size k
theorem ReadsInt.nil (W : World) (k : IntKind) : ReadsInt W k none ([] : List Int).length []:=⟨rfl, by simp, fun h => absurd h (Nat.lt_irrefl 0)⟩
theorem ReadsInt.drewN {W : World} {k : IntKind} {A : Option Addr} {n : Nat} {xs : List Int} (h : ReadsInt W k A n xs) (m : Nat) : ReadsInt (W.drewN m) k A n xs:=h
theorem below_set {w W : World} {g j : Nat} {v : Value} (h : Below w.heap.size w W) (hg : w.heap.size ≤ g) : Below w.heap.size w (W.setCell ⟨g, j, none⟩ v):=h.setCell hg _
theorem keep_cell {w W : World} {g : Nat} (h : KeepBut w W g none) {a : Addr} {v : Value} (hc : w.cell? a = some v) (hne : a.block ≠ g) : W.cell? a = some v:=by
 have:=h.2 a.block (World.block_lt_of_cell? w a hc) hne (by simp)
 simpa [World.cell?, this] using hc
theorem add_block (a : Addr) (i : Nat) : (a.add i).block = a.block:=by unfold Addr.add; split <;> rfl
theorem ReadsOf.nil {α : Type} (enc : α → Value) (d : α) (W : World) : ReadsOf enc d W none ([] : List α).length []:=⟨rfl, by simp, fun h => absurd h (Nat.lt_irrefl 0)⟩
theorem ReadsOf.drewN {α : Type} {enc : α → Value} {d : α} {W : World} {A : Option Addr} {n : Nat} {xs : List α} (h : ReadsOf enc d W A n xs) (m : Nat) : ReadsOf enc d (W.drewN m) A n xs:=h
theorem ReadsInt.keep {w W : World} {k : IntKind} {A : Option Addr} {n g : Nat} {xs : List Int} (h : ReadsInt w k A n xs) (hk : KeepBut w W g none) (hf : ∀ ad, A = some ad → 0 < n → ad.block ≠ g) : ReadsInt W k A n xs :=
 ⟨h.1, h.2.1, fun hn => by
   obtain ⟨ad, e, hc⟩:=h.2.2 hn
   exact ⟨ad, e, fun j hj => keep_cell hk (hc j hj) (by rw [add_block]; exact hf ad e hn)⟩⟩
theorem ReadsOf.keep {α : Type} {enc : α → Value} {d : α} {w W : World} {A : Option Addr} {n g : Nat} {xs : List α} (h : ReadsOf enc d w A n xs) (hk : KeepBut w W g none) (hf : ∀ ad, A = some ad → 0 < n → ad.block ≠ g) : ReadsOf enc d W A n xs :=
 ⟨h.1, h.2.1, fun hn => by
   obtain ⟨ad, e, hc⟩:=h.2.2 hn
   exact ⟨ad, e, fun j hj => keep_cell hk (hc j hj) (by rw [add_block]; exact hf ad e hn)⟩⟩
theorem below_drew1 {base : Nat} {w W : World} (h : Below base w W) : Below base w W.drew:=h.drew
namespace Kd
section
variable {α β : Type} {d : Kd α} {d' : Kd β} {e e' base base' n : Nat} {ok ok' : Nat → Prop} {w W w1 W1 : World} {v u : Value} {xs : List α} {ys : List β} {A : Option Addr} {c : Nat}
end
section
variable {α : Type} {enc : α → Value} {h1 : ∀ x, (enc x).oneCell' = true} {w W : World} {A : Option Addr} {n g : Nat} {xs : List α}
end
end Kd
namespace Kd
section
variable {α : Type} {d : Kd α} {e base g : Nat} {ok : Nat → Prop} {w w1 : World} {v : Value} {xs : List α} {o : Obj}
end
end Kd
section
variable {P : Program} {ops : Array Oper} {rest : List Oper} {o : Oper} {a : Act} {Q : Exit → Act → World → Prop}
end
namespace Kd
section
variable {α : Type} {enc : α → Value} {h1 : ∀ x, (enc x).oneCell' = true} {e base g n cap : Nat} {ok : Nat → Prop} {W : World} {xs : List α}
end
end Kd
section
variable {P : Program} {ops : Array Oper} {rest : List Oper} {o : Oper} {a : Act} {Q : Exit → Act → World → Prop}
end
namespace Kd
section
variable {α : Type} {enc : α → Value} {h1 : ∀ x, (enc x).oneCell' = true} {e base g n cap : Nat} {ok : Nat → Prop} {W : World} {xs : List α}
end
end Kd
section
variable {P : Program} {ops : Array Oper} {rest : List Oper} {o : Oper} {a : Act} {Q : Exit → Act → World → Prop} {W : World}
end
section
variable {P : Program} {ops : Array Oper} {o : Oper} {a : Act} {Q : Exit → Act → World → Prop} {Kc : Act → World → Prop}
namespace Kd
variable {α : Type}
end Kd
end
inductive Vals (P : Program) (tmps : Array Value) (w : World) : List ResultVar → List Value → Prop where
 | nil : Vals P tmps w [] []
 | tmp {u : Tmp} {rs : List ResultVar} {vs : List Value} (h : Vals P tmps w rs vs) : Vals P tmps w (.tmp u :: rs) (tmps.getD u undef :: vs)
 | cell {p : Tmp} {ty : TypeId} {rs : List ResultVar} {vs : List Value} (g : Nat) (t : TypeId) (cs : Array Value) (fr : Nat × Nat) (d : TypeDesc)
     (hp : tmps.getD p undef = .pointer (some ⟨g, 0, none⟩)) (hg : w.heap[g]? = some (.cells cs t fr))
     (hu : P.underlying ty = some d) (hd : (match d with | .struct _ | .array _ _ => true | _ => false) = true) (hi : (P.info? ty).map (·.size) = some cs.size)
     (h : Vals P tmps w rs vs) : Vals P tmps w (.cell p ty :: rs) (.agg cs :: vs)
section
variable {P : Program} {tmps : Array Value} {w : World}
end
namespace Kd
section
variable {P : Program} {α : Type}
end
section
variable {P : Program} {ops : Array Oper} {rest : List Oper} {o : Oper} {a : Act} {Q : Exit → Act → World → Prop} {Kc : Act → World → Prop} {α : Type}
end
end Kd
end Go.Proofs.YtacknhbgfijkcaaGreatDoorW.PrintWords
end
section
namespace Go.Proofs.YtacknhbgfijkcaaGreatDoorW.PrintLast
section
variable {P : Program} {ops : Array Oper} {Q : Exit → Act → World → Prop} {md : Region.Mode} {S : World → Prop} {ds : List Nat}
def Region.reachB (md : Region.Mode) (ops : Array Oper) (i : Nat) : Nat → Nat → Bool
 | 0, _ => false
 | fuel + 1, d => match ops[d]? with
   | some o => o.after.any fun e => Region.binds md e && (e.on == i || Region.reachB md ops i fuel e.on)
   | none => false
def Region.closedB (md : Region.Mode) (ops : Array Oper) (listed : Array Bool) : Bool :=
 (List.range ops.size).all fun j => !listed.getD j false || match ops[j]? with
   | some o => o.after.all fun e => !Region.binds md e || listed.getD e.on false
   | none => true
def Region.lastB (md : Region.Mode) (ops : Array Oper) (listed : Array Bool) (ds : List Nat) (i : Nat) : Bool :=
 ds.all fun d => listed.getD d true || Region.reachB md ops i ops.size d
def ListedClosed (md : Region.Mode) (ops : Array Oper) (listed : Array Bool) : Prop :=
 ∀ j oj, ops[j]? = some oj → listed.getD j false = true → ∀ e ∈ oj.after, Region.binds md e = true → listed.getD e.on false = true
theorem Region.closedB_spec {listed : Array Bool} (h : Region.closedB md ops listed = true) : ListedClosed md ops listed:=by
 intro j oj hj hl e he hb
 have hlt : j < ops.size:=(Array.getElem?_eq_some_iff.1 hj).1
 have h1:=List.all_eq_true.1 h j (List.mem_range.2 hlt)
 simp only [hl, hj, Bool.not_true, Bool.false_or] at h1
 have h2:=Array.all_eq_true_iff_forall_mem.1 h1 e he
 simpa [hb] using h2
theorem ListedClosed.set {listed : Array Bool} {i : Nat} (h : ListedClosed md ops listed) (hi : i ∈ Region.ready md ops listed) : ListedClosed md ops (listed.setIfInBounds i true):=by
 obtain ⟨_, oi, hoi, hall⟩:=mem_ready.1 hi
 intro j oj hj hl e he hb
 by_cases hij : i = j
 · subst hij
   have : oj = oi:=Option.some.inj (hj.symm.trans hoi)
   subst this
   exact getD_set_true (hall e he hb)
 · rw [getD_set_ne false hij] at hl
   exact getD_set_true (h j oj hj hl e he hb)
theorem Region.reach_listed {listed : Array Bool} {i : Nat} (hc : ListedClosed md ops listed) : ∀ (fuel d : Nat), Region.reachB md ops i fuel d = true → listed.getD d false = true → listed.getD i false = true
 | 0, _, h, _ => by simp [Region.reachB] at h
 | fuel + 1, d, h, hl => by
   unfold Region.reachB at h
   cases ho : ops[d]? with
   | none => rw [ho] at h; simp at h
   | some o =>
     rw [ho] at h
     obtain ⟨e, he, h1⟩:=Array.any_eq_true'.1 h
     simp only [Bool.and_eq_true, Bool.or_eq_true, beq_iff_eq] at h1
     have hle:=hc d o ho hl e he h1.1
     rcases h1.2 with h2 | h2
     · rw [← h2]; exact hle
     · exact Region.reach_listed hc fuel e.on h2 hle
theorem Region.reach_not_ready {listed : Array Bool} {i d fuel : Nat} (hc : ListedClosed md ops listed) (hr : Region.reachB md ops i fuel d = true) (hun : listed.getD i true = false) : d ∉ Region.ready md ops listed:=by
 intro hd
 obtain ⟨_, o, ho, hall⟩:=mem_ready.1 hd
 have hi : listed.getD i false = true:=by
   cases fuel with
   | zero => simp [Region.reachB] at hr
   | succ n =>
     unfold Region.reachB at hr
     rw [ho] at hr
     obtain ⟨e, he, h1⟩:=Array.any_eq_true'.1 hr
     simp only [Bool.and_eq_true, Bool.or_eq_true, beq_iff_eq] at h1
     have hle:=hall e he h1.1
     rcases h1.2 with h2 | h2
     · rw [← h2]; exact hle
     · exact Region.reach_listed hc n e.on h2 hle
 rcases Nat.lt_or_ge i listed.size with h' | h'
 · simp [h'] at hun hi
   rw [hun] at hi
   cases hi
 · simp [Array.getElem?_eq_none h'] at hun
def wpAnyLast (P : Program) (md : Region.Mode) (ops : Array Oper) (Q : Exit → Act → World → Prop) (S : World → Prop) (ds : List Nat) : Nat → Array Bool → Act → World → Prop
 | 0, listed, a, w => Region.ready md ops listed = [] ∧ Q .normal a w
 | fuel + 1, listed, a, w =>
   (Region.ready md ops listed = [] → Q .normal a w) ∧
   ∀ i ∈ Region.ready md ops listed, wpOp P ops Q i (fun a' w' => (i ∉ ds → S w → S w') ∧ wpAnyLast P md ops Q S ds fuel (listed.setIfInBounds i true) a' w') a w
theorem wpAny_of_last : ∀ (fuel : Nat) (listed : Array Bool) (a : Act) (w : World), wpAnyLast P md ops Q S ds fuel listed a w → wpAny P md ops Q fuel listed a w
 | 0, _, _, _, h => h
 | fuel + 1, _, _, _, h => ⟨h.1, fun i hi => wpOp_mono (fun a' w' h' => wpAny_of_last fuel _ a' w' h'.2) (h.2 i hi)⟩
theorem wpAnyLast_first {i : Nat} {oi : Oper} {v : Value} (hi : ops[i]? = some oi) (hsel : ∀ (j : Nat) (o : Oper) cs b, ops[j]? = some o → o.op ≠ .select cs b)
   (hQ : ∀ c a w, Q (.panic c) (a.put oi.dst v) w → Q (.panic c) a w) (n : Nat) :
   ∀ (fuel : Nat) (listed : Array Bool) (a : Act) (w : World),
     (∀ j oj, ops[j]? = some oj → j ≠ i → listed.getD j true = false → (∀ e ∈ oj.after, Region.binds md e = true → e.on ≠ i) → oi.apart ops oj = true) →
     ListedClosed md ops listed → (∀ d ∈ ds, listed.getD d true = false → Region.reachB md ops i n d = true) →
     i ∈ Region.ready md ops listed → YieldsIf P ops S oi v a → S w →
     wpAnyLast P md ops Q S ds fuel (listed.setIfInBounds i true) (a.put oi.dst v) w → wpAnyLast P md ops Q S ds (fuel + 1) listed a w:=by
 intro fuel
 induction fuel with
 | zero =>
   intro listed a w _ _ _ hr hy hS H
   refine ⟨fun h => (by rw [h] at hr; cases hr), fun j hj => ?_⟩
   by_cases hji : j = i
   · subst hji; exact hy.wpOp hi hS ⟨fun _ h => h, H⟩
   · have:=ready_mono hj hji
     rw [H.1] at this
     cases this
 | succ fuel ih =>
   intro listed a w hfree hc hd hr hy hS H
   refine ⟨fun h => (by rw [h] at hr; cases hr), fun j hj => ?_⟩
   by_cases hji : j = i
   · subst hji; exact hy.wpOp hi hS ⟨fun _ h => h, H⟩
   · have h1:=H.2 j (ready_mono hj hji)
     obtain ⟨hjun, oj, hoj, hall⟩:=mem_ready.1 hj
     have hiun:=(mem_ready.1 hr).1
     have hnot : ∀ e ∈ oj.after, Region.binds md e = true → e.on ≠ i:=fun e he hb heq => by
       have h1:=hall e he hb
       rw [heq] at h1
       rcases Nat.lt_or_ge i listed.size with h' | h'
       · simp [h'] at hiun h1; rw [hiun] at h1; cases h1
       · simp [Array.getElem?_eq_none h'] at h1
     have hjd : j ∉ ds:=fun hm => Region.reach_not_ready hc (hd j hm hjun) hiun hj
     have h2:=wpOp_putIf hoj (hfree j oj hoj hji hjun hnot) (fun cs b => hsel i oi cs b hi) (fun cs b => hsel j oj cs b hoj) hQ hy h1
     have hfree' : ∀ k ok, ops[k]? = some ok → k ≠ i → (listed.setIfInBounds j true).getD k true = false →
         (∀ e ∈ ok.after, Region.binds md e = true → e.on ≠ i) → oi.apart ops ok = true:=fun k ok hk hki hun hno => by
       refine hfree k ok hk hki ?_ hno
       by_cases hjk : j = k
       · subst hjk; exact hjun
       · rw [getD_set_ne true hjk] at hun; exact hun
     have hd' : ∀ d ∈ ds, (listed.setIfInBounds j true).getD d true = false → Region.reachB md ops i n d = true:=fun d hm hun => by
       refine hd d hm ?_
       by_cases hjk : j = d
       · subst hjk; exact hjun
       · rw [getD_set_ne true hjk] at hun; exact hun
     refine wpOp_mono (fun a' w' h3 => ⟨h3.2.1, ih (listed.setIfInBounds j true) a' w' hfree' (hc.set hj) hd' (ready_mono hr (Ne.symm hji)) h3.1 (h3.2.1 hjd hS) ?_⟩) h2
     rw [Array.setIfInBounds_comm _ _ hji]
     exact h3.2.2
theorem wpAnyLast_any {i : Nat} {oi : Oper} {v : Value} (hi : ops[i]? = some oi) (hsel : ∀ (j : Nat) (o : Oper) cs b, ops[j]? = some o → o.op ≠ .select cs b)
   (hQ : ∀ c a w, Q (.panic c) (a.put oi.dst v) w → Q (.panic c) a w) :
   ∀ (fuel : Nat) (listed : Array Bool) (a : Act) (w : World),
     (∀ j oj, ops[j]? = some oj → j ≠ i → listed.getD j true = false → (∀ e ∈ oj.after, Region.binds md e = true → e.on ≠ i) → oi.apart ops oj = true) →
     i ∈ Region.ready md ops listed → Yields P ops oi v a →
     wpAnyLast P md ops Q S ds fuel (listed.setIfInBounds i true) (a.put oi.dst v) w → wpAnyLast P md ops Q S ds (fuel + 1) listed a w:=by
 intro fuel
 induction fuel with
 | zero =>
   intro listed a w _ hr hy H
   refine ⟨fun h => (by rw [h] at hr; cases hr), fun j hj => ?_⟩
   by_cases hji : j = i
   · subst hji; exact (hy.yieldsIf (S:=fun _ => True)).wpOp hi trivial ⟨fun _ h => h, H⟩
   · have:=ready_mono hj hji
     rw [H.1] at this
     cases this
 | succ fuel ih =>
   intro listed a w hfree hr hy H
   refine ⟨fun h => (by rw [h] at hr; cases hr), fun j hj => ?_⟩
   by_cases hji : j = i
   · subst hji; exact (hy.yieldsIf (S:=fun _ => True)).wpOp hi trivial ⟨fun _ h => h, H⟩
   · have h1:=H.2 j (ready_mono hj hji)
     obtain ⟨hjun, oj, hoj, hall⟩:=mem_ready.1 hj
     have hiun:=(mem_ready.1 hr).1
     have hnot : ∀ e ∈ oj.after, Region.binds md e = true → e.on ≠ i:=fun e he hb heq => by
       have h1:=hall e he hb
       rw [heq] at h1
       rcases Nat.lt_or_ge i listed.size with h' | h'
       · simp [h'] at hiun h1; rw [hiun] at h1; cases h1
       · simp [Array.getElem?_eq_none h'] at h1
     have h2:=wpOp_put hoj (hfree j oj hoj hji hjun hnot) (fun cs b => hsel i oi cs b hi) (fun cs b => hsel j oj cs b hoj) hQ hy h1
     have hfree' : ∀ k ok, ops[k]? = some ok → k ≠ i → (listed.setIfInBounds j true).getD k true = false →
         (∀ e ∈ ok.after, Region.binds md e = true → e.on ≠ i) → oi.apart ops ok = true:=fun k ok hk hki hun hno => by
       refine hfree k ok hk hki ?_ hno
       by_cases hjk : j = k
       · subst hjk; exact hjun
       · rw [getD_set_ne true hjk] at hun; exact hun
     refine wpOp_mono (fun a' w' h3 => ⟨h3.2.1, ih (listed.setIfInBounds j true) a' w' hfree' (ready_mono hr (Ne.symm hji)) h3.1 ?_⟩) h2
     rw [Array.setIfInBounds_comm _ _ hji]
     exact h3.2.2
theorem wpAnyLast_take {i : Nat} {oi : Oper} {v : Value} {fuel : Nat} {listed : Array Bool} {a : Act} {w : World} (hi : ops[i]? = some oi)
   (hs : Region.noSelect ops = true) (hf : Region.free md ops listed i = true) (hr : (Region.ready md ops listed).contains i = true)
   (hc : Region.closedB md ops listed = true) (hl : Region.lastB md ops listed ds i = true)
   (hQ : ∀ c a w, Q (.panic c) (a.put oi.dst v) w → Q (.panic c) a w) (hy : YieldsIf P ops S oi v a) (hS : S w)
   (h : wpAnyLast P md ops Q S ds fuel (listed.setIfInBounds i true) (a.put oi.dst v) w) : wpAnyLast P md ops Q S ds (fuel + 1) listed a w :=
 wpAnyLast_first hi (Region.noSelect_spec hs) hQ ops.size fuel listed a w (Region.free_spec hi hf) (Region.closedB_spec hc)
   (fun d hm hun => by have:=List.all_eq_true.1 hl d hm; rw [hun] at this; simpa using this) (by simpa using hr) hy hS h
theorem wpAnyLast_all {rs : List Nat} {fuel : Nat} {listed : Array Bool} {a : Act} {w : World} (hr : Region.ready md ops listed = rs) (hne : rs ≠ [])
   (h : ∀ i ∈ rs, wpOp P ops Q i (fun a' w' => (i ∉ ds → S w → S w') ∧ wpAnyLast P md ops Q S ds fuel (listed.setIfInBounds i true) a' w') a w) : wpAnyLast P md ops Q S ds (fuel + 1) listed a w :=
 ⟨fun h0 => absurd (hr ▸ h0) hne, hr ▸ h⟩
theorem wpAnyLast_done {listed : Array Bool} {a : Act} {w : World} (hr : Region.ready md ops listed = []) (h : Q .normal a w) :
   ∀ fuel, wpAnyLast P md ops Q S ds fuel listed a w
 | 0 => ⟨hr, h⟩
 | _ + 1 => ⟨fun _ => h, by rw [hr]; simp⟩
end
section
variable {P : Program} {ops : Array Oper} {Q : Exit → Act → World → Prop} {md : Region.Mode} {S : World → Prop} {ds : List Nat}
def AllReadyL (P : Program) (md : Region.Mode) (ops : Array Oper) (Q : Exit → Act → World → Prop) (S : World → Prop) (ds : List Nat) (fuel : Nat) (listed : Array Bool) (a : Act) (w : World) (rs : List Nat) : Prop :=
 ∀ i ∈ rs, wpOp P ops Q i (fun a' w' => (i ∉ ds → S w → S w') ∧ wpAnyLast P md ops Q S ds fuel (listed.setIfInBounds i true) a' w') a w
theorem AllReadyL.nil {fuel : Nat} {listed : Array Bool} {a : Act} {w : World} : AllReadyL P md ops Q S ds fuel listed a w []:=fun _ h => by cases h
theorem AllReadyL.cons {fuel : Nat} {listed : Array Bool} {a : Act} {w : World} {i : Nat} {o : Oper} {rs : List Nat} (ho : ops[i]? = some o) (hd : i ∉ ds)
   (h : ∀ K' : Act → World → Prop, Shut (∀ a w, S w → (S w → wpAnyLast P md ops Q S ds fuel (listed.setIfInBounds i true) a w) → K' a w) → if Region.wanted o (yielded ops a.tmps) = true then Oper.wp P o a w K' Q else K' (a.put o.dst undef) w)
   (hs : AllReadyL P md ops Q S ds fuel listed a w rs) : AllReadyL P md ops Q S ds fuel listed a w (i :: rs):=fun j hj => by
 rcases List.mem_cons.1 hj with rfl | hj
 · exact wpOp_step ho (fun K' hK => h K' (fun a w hS hW => hK a w ⟨fun _ _ => hS, hW hS⟩))
 · exact hs j hj
theorem AllReadyL.cons_last {fuel : Nat} {listed : Array Bool} {a : Act} {w : World} {i : Nat} {o : Oper} {rs : List Nat} (ho : ops[i]? = some o) (hd : i ∈ ds)
   (h : ∀ K' : Act → World → Prop, Shut (∀ a w, wpAnyLast P md ops Q S ds fuel (listed.setIfInBounds i true) a w → K' a w) → if Region.wanted o (yielded ops a.tmps) = true then Oper.wp P o a w K' Q else K' (a.put o.dst undef) w)
   (hs : AllReadyL P md ops Q S ds fuel listed a w rs) : AllReadyL P md ops Q S ds fuel listed a w (i :: rs):=fun j hj => by
 rcases List.mem_cons.1 hj with rfl | hj
 · exact wpOp_step ho (fun K' hK => h K' (fun a w hW => hK a w ⟨fun hn => absurd hd hn, hW⟩))
 · exact hs j hj
theorem wpAnyLast_ready {rs : List Nat} {fuel : Nat} {listed : Array Bool} {a : Act} {w : World} (hr : Region.ready md ops listed = rs) (hne : rs ≠ [])
   (h : AllReadyL P md ops Q S ds fuel listed a w rs) : wpAnyLast P md ops Q S ds (fuel + 1) listed a w:=wpAnyLast_all hr hne h
def takeB (md : Region.Mode) (ops : Array Oper) (ds : List Nat) (l l' : Array Bool) (i : Nat) : Bool :=
 Region.noSelect ops && Region.free md ops l i && (Region.ready md ops l).contains i && Region.closedB md ops l && Region.lastB md ops l ds i && (l.setIfInBounds i true == l')
theorem take_ {i : Nat} {N : Option Tmp} {oi : Oper} {v : Value} {fuel : Nat} {l : Array Bool} {a : Act} {w : World} (l' : Array Bool) (hi : ops[i]? = some oi) (hN : oi.dst = N) (hc : takeB md ops ds l l' i = true)
   (hQ : ∀ c a w, Q (.panic c) (a.put oi.dst v) w → Q (.panic c) a w) (hy : YieldsIf P ops S oi v a) (hS : S w) {a' : Act} (ha : a.put N v = a')
   (h : wpAnyLast P md ops Q S ds fuel l' a' w) : wpAnyLast P md ops Q S ds (fuel + 1) l a w:=by
 subst ha
 subst hN
 simp only [takeB, Bool.and_eq_true, beq_iff_eq] at hc
 obtain ⟨⟨⟨⟨⟨h1, h2⟩, h3⟩, h4⟩, h5⟩, h6⟩:=hc
 subst h6
 exact wpAnyLast_take hi h1 h2 h3 h4 h5 hQ hy hS h
def anyB (md : Region.Mode) (ops : Array Oper) (l l' : Array Bool) (i : Nat) : Bool :=
 Region.noSelect ops && Region.free md ops l i && (Region.ready md ops l).contains i && (l.setIfInBounds i true == l')
theorem pure_ {i : Nat} {N : Option Tmp} {oi : Oper} {v : Value} {fuel : Nat} {l : Array Bool} {a : Act} {w : World} (l' : Array Bool) (hi : ops[i]? = some oi) (hN : oi.dst = N) (hc : anyB md ops l l' i = true)
   (hQ : ∀ c a w, Q (.panic c) (a.put oi.dst v) w → Q (.panic c) a w) (hy : Yields P ops oi v a) {a' : Act} (ha : a.put N v = a')
   (h : wpAnyLast P md ops Q S ds fuel l' a' w) : wpAnyLast P md ops Q S ds (fuel + 1) l a w:=by
 subst ha
 subst hN
 simp only [anyB, Bool.and_eq_true, beq_iff_eq] at hc
 obtain ⟨⟨⟨h1, h2⟩, h3⟩, h6⟩:=hc
 subst h6
 exact wpAnyLast_any hi (Region.noSelect_spec h1) hQ fuel l a w (Region.free_spec hi h2) (by simpa using h3) hy h
def readyB (md : Region.Mode) (ops : Array Oper) (l l' : Array Bool) (i : Nat) : Bool:=(Region.ready md ops l == [i]) && (l.setIfInBounds i true == l')
theorem one_ {i : Nat} {N : Option Tmp} {oi : Oper} {fuel : Nat} {l : Array Bool} {a : Act} {w : World} (l' : Array Bool) (hi : ops[i]? = some oi) (hN : oi.dst = N) (hc : readyB md ops l l' i = true) (hd : i ∉ ds)
   (h : ∀ K : Act → World → Prop, Shut (∀ a' w', S w' → (S w' → wpAnyLast P md ops Q S ds fuel l' a' w') → K a' w') → if Region.wanted oi (yielded ops a.tmps) = true then Oper.wp P oi a w K Q else K (a.put N undef) w) :
   wpAnyLast P md ops Q S ds (fuel + 1) l a w:=by
 subst hN
 simp only [readyB, Bool.and_eq_true, beq_iff_eq] at hc
 obtain ⟨h1, h2⟩:=hc
 subst h2
 exact wpAnyLast_ready h1 (by simp) (AllReadyL.cons hi hd (fun K hK => h K hK) AllReadyL.nil)
theorem last_ {i : Nat} {N : Option Tmp} {oi : Oper} {fuel : Nat} {l : Array Bool} {a : Act} {w : World} (l' : Array Bool) (hi : ops[i]? = some oi) (hN : oi.dst = N) (hc : readyB md ops l l' i = true) (hd : i ∈ ds)
   (h : ∀ K : Act → World → Prop, Shut (∀ a' w', wpAnyLast P md ops Q S ds fuel l' a' w' → K a' w') → if Region.wanted oi (yielded ops a.tmps) = true then Oper.wp P oi a w K Q else K (a.put N undef) w) :
   wpAnyLast P md ops Q S ds (fuel + 1) l a w:=by
 subst hN
 simp only [readyB, Bool.and_eq_true, beq_iff_eq] at hc
 obtain ⟨h1, h2⟩:=hc
 subst h2
 exact wpAnyLast_ready h1 (by simp) (AllReadyL.cons_last hi hd (fun K hK => h K hK) AllReadyL.nil)
theorem done_ {l : Array Bool} {a : Act} {w : World} {n : Nat} (hr : (Region.ready md ops l == []) = true) (h : Q .normal a w) : wpAnyLast P md ops Q S ds n l a w:=wpAnyLast_done (by simpa using hr) h n
theorem norm_ {fuel : Nat} {l : Array Bool} {a a' : Act} {w : World} (ha : a = a') (h : wpAnyLast P md ops Q S ds fuel l a' w) : wpAnyLast P md ops Q S ds fuel l a w:=by
 subst ha
 exact h
theorem call_ {oi : Oper} {N : Option Tmp} {a : Act} {w : World} {K : Act → World → Prop} (f : FuncId) (args : Array Value) (hw : Region.wanted oi (yielded ops a.tmps) = true) (hN : oi.dst = N) (hrun : (execOp a.eval oi).run P w = .ok (.enter f args) w)
   (h : Calls P f args w fun e w' => ∃ v, e = .returned v ∧ K (a.put N v) w') : if Region.wanted oi (yielded ops a.tmps) = true then Oper.wp P oi a w K Q else K (a.put N undef) w:=by
 rw [if_pos hw]
 subst hN
 unfold Oper.wp
 rw [hrun, Oper.upon_enter]
 refine h.mono fun e w'' hh => ?_
 obtain ⟨v, rfl, hk⟩:=hh
 exact hk
theorem enters_ {f : FuncId} {fn : Func} (hf : P.funcs[f]? = some fn) (hname : (fn.name == "runtime.NumGoroutine") = false) (hb : fn.body.isSome = true) (args : Array Value) (w : World) : (callFunc f args).run P w = .ok (.enter f args) w := by
 have h1 : fn.name ≠ "runtime.NumGoroutine" := by simpa using hname
 obtain ⟨c, hc⟩:=Option.isSome_iff_exists.1 hb
 simp [callFunc, hf, h1, hc]
theorem goes_ {oi : Oper} {N : Option Tmp} {a : Act} {w : World} {K : Act → World → Prop} {f : FuncId} {fn : Func} {as_ : Array Operand} {ts : Array TypeId} (hf : P.funcs[f]? = some fn) (hname : (fn.name == "runtime.NumGoroutine") = false) (hb : fn.body.isSome = true) (args : Array Value)
   (hw : Region.wanted oi (yielded ops a.tmps) = true) (hN : oi.dst = N) (hop : oi.op = .call { callee:=.value (.func f), args:=as_, argTypes:=ts }) (hargs : as_.map a.eval = args)
   (h : Calls P f args w fun e w' => ∃ v, e = .returned v ∧ K (a.put N v) w') : if Region.wanted oi (yielded ops a.tmps) = true then Oper.wp P oi a w K Q else K (a.put N undef) w:=by
 refine call_ f args hw hN ?_ h
 have he:=enters_ hf hname hb args w
 unfold execOp
 simp [hop, resolve, Deferred.ofValue, invoke, Act.eval, hargs, he]
theorem goesL_ {rest : List Oper} {oi : Oper} {a : Act} {w : World} (N : Option Tmp) (hd : oi.dst = N) (hg : oi.guard = none) {f : FuncId} {fn : Func} {as_ : Array Operand} {ts : Array TypeId} (hf : P.funcs[f]? = some fn) (hname : (fn.name == "runtime.NumGoroutine") = false) (hb : fn.body.isSome = true) (args : Array Value)
   (hop : oi.op = .call { callee:=.value (.func f), args:=as_, argTypes:=ts }) (hargs : as_.map a.eval = args)
   (h : Calls P f args w fun e w' => ∃ v, e = .returned v ∧ wpList P ops Q rest (a.put N v) w') : wpList P ops Q (oi :: rest) a w:=by
 refine wpList_plain hg fun K hK => ?_
 have he:=enters_ hf hname hb args w
 have hrun : (execOp a.eval oi).run P w = .ok (.enter f args) w:=by
   unfold execOp
   simp [hop, resolve, Deferred.ofValue, invoke, Act.eval, hargs, he]
 unfold Oper.wp
 rw [hrun, Oper.upon_enter]
 refine h.mono fun e w'' hh => ?_
 obtain ⟨v, rfl, hk⟩:=hh
 subst hd
 exact hK _ _ hk
theorem i64_w (n : Int) : IntKind.i64.wrap n = Go.RowKit.wrap64 n:=by unfold Go.RowKit.wrap64; exact IntKind.wrap_i64 n
end
end Go.Proofs.YtacknhbgfijkcaaGreatDoorW.PrintLast
end
section
namespace Go.Proofs.YtacknhbgfijkcaaGreatDoorW.PrintWords
open Go.RowKit
namespace Kd
section
variable {α : Type} {d : Kd α} {e base g o n cap : Nat} {ok okp : Nat → Prop} {w W : World} {v : Value} {xs : List α}
end
section
variable {α : Type} {enc : α → Value} {h1 : ∀ x, (enc x).oneCell' = true} {e base g o n cap : Nat} {ok : Nat → Prop} {W : World} {xs : List α}
end
end Kd
end Go.Proofs.YtacknhbgfijkcaaGreatDoorW.PrintWords
end
section
namespace Go.Proofs.YtacknhbgfijkcaaGreatDoorW.PrintWords
open Go.RowKit
namespace Kd
def tag {α : Type} (f : Nat → Nat) (d : Kd α) : Kd (α × Nat) where
 sz:=d.sz
 E:=d.E
 K:=fun w x cs => d.K w x.1 cs
 M:=fun w base ok x cs => d.M w base (fun k => ok k ∧ f k = x.2) x.1 cs
 K_len:=fun h => d.K_len h
 K_one:=fun h => d.K_one h
 K_below:=fun hb h => d.K_below hb h
 K_of_M:=fun h => d.K_of_M h
 M_mono:=fun hok h => d.M_mono (fun k hk => ⟨hok k hk.1, hk.2⟩) h
 M_bound:=fun h => d.M_mono (fun _ hk => ⟨⟨hk.1.1, hk.2⟩, hk.1.2⟩) (d.M_bound h)
 M_move:=fun hm h => d.M_move (fun k hk => hm k hk.1) h
 M_lower:=fun hb h => d.M_lower hb h
def raw (sz : Nat) : Kd (List Value) where
 sz:=sz
 E:=[]
 K:=fun _ x cs => cs = x ∧ cs.length = sz ∧ ∀ u ∈ cs, u.oneCell' = true
 M:=fun _ _ _ x cs => cs = x ∧ cs.length = sz ∧ ∀ u ∈ cs, u.oneCell' = true
 K_len:=fun h => h.2.1
 K_one:=fun h => h.2.2
 K_below:=fun _ h => h
 K_of_M:=fun h => h
 M_mono:=fun _ h => h
 M_bound:=fun h => h
 M_move:=fun _ h => h
 M_lower:=fun _ h => h
def S {α : Type} (d : Kd α) (e : Nat) (w : World) (base : Nat) (ok : Nat → Prop) (v : Value) (xs : List α) : Prop:=∃ f, (tag f d).R e w base ok v xs.zipIdx
section
variable {α β : Type} {d : Kd α} {d' : Kd β} {e e' : Nat} {w w1 W : World} {base b : Nat} {ok ok' okv oku : Nat → Prop} {u v : Value} {xs : List α} {ys : List β}
end
section
variable {α β : Type} {d : Kd α} {d' : Kd β} {e e' g : Nat} {w w1 W : World} {base b : Nat} {ok ok' okv oku : Nat → Prop} {u v : Value} {xs : List α} {ys : List β}
end
section
variable {P : Program} {ops : Array Oper} {rest : List Oper} {o : Oper} {a : Act} {Q : Exit → Act → World → Prop} {Kc : Act → World → Prop} {α : Type}
end
def gap {α : Type} (f : Nat → Nat) (d : Kd α) (i : Nat) (c : List Value) : Kd (α × Nat) where
 sz:=d.sz
 E:=d.E
 K:=fun w x cs => (x.2 = i → cs = c ∧ cs.length = d.sz ∧ ∀ u ∈ cs, u.oneCell' = true) ∧ (x.2 ≠ i → d.K w x.1 cs)
 M:=fun w base ok x cs => (x.2 = i → cs = c ∧ cs.length = d.sz ∧ ∀ u ∈ cs, u.oneCell' = true) ∧ (x.2 ≠ i → d.M w base (fun k => ok k ∧ f k = x.2) x.1 cs)
 K_len:=fun {w x cs} h => by
   by_cases hx : x.2 = i
   · exact (h.1 hx).2.1
   · exact d.K_len (h.2 hx)
 K_one:=fun {w x cs} h => by
   by_cases hx : x.2 = i
   · exact (h.1 hx).2.2
   · exact d.K_one (h.2 hx)
 K_below:=fun hb h => ⟨h.1, fun hx => d.K_below hb (h.2 hx)⟩
 K_of_M:=fun h => ⟨h.1, fun hx => d.K_of_M (h.2 hx)⟩
 M_mono:=fun hok h => ⟨h.1, fun hx => d.M_mono (fun k hk => ⟨hok k hk.1, hk.2⟩) (h.2 hx)⟩
 M_bound:=fun h => ⟨h.1, fun hx => d.M_mono (fun _ hk => ⟨⟨hk.1.1, hk.2⟩, hk.1.2⟩) (d.M_bound (h.2 hx))⟩
 M_move:=fun hm h => ⟨h.1, fun hx => d.M_move (fun k hk => hm k hk.1) (h.2 hx)⟩
 M_lower:=fun hb h => ⟨h.1, fun hx => d.M_lower hb (h.2 hx)⟩
def H {α : Type} (d : Kd α) (e : Nat) (w : World) (base : Nat) (ok : Nat → Prop) (v : Value) (xs : List α) (i : Int) (oki : Nat → Prop) (c : List Value) : Prop :=
 (∀ k, oki k → ok k) ∧ ∃ f, (gap f d i.toNat c).R e w base (fun k => ok k ∧ ¬ oki k) v xs.zipIdx
section
variable {α β : Type} {d : Kd α} {e e' g n cap : Nat} {w w1 W : World} {base : Nat} {ok ok' oki okp : Nat → Prop} {u v : Value} {xs : List α} {i : Int} {c : List Value}
end
section
variable {P : Program} {ops : Array Oper} {rest : List Oper} {o : Oper} {a : Act} {Q : Exit → Act → World → Prop} {α : Type}
end
end Kd
end Go.Proofs.YtacknhbgfijkcaaGreatDoorW.PrintWords
end
section
namespace Go.Proofs.YtacknhbgfijkcaaGreatDoorW.PrintWords
open Go.RowKit
namespace Kd
theorem reps_one {α : Type} {R : α → List Value → Prop} {size : Nat} {ps : List α} {cs : List Value} (h : Reps R size ps cs) (hs0 : 0 < size) (hR : ∀ p c, R p c → ∀ u ∈ c, u.oneCell' = true) : ∀ u ∈ cs, u.oneCell' = true:=by
 intro u hu
 obtain ⟨q, hq, rfl⟩:=List.mem_iff_getElem.1 hu
 have hql : q / size < ps.length:=by
   rw [Nat.div_lt_iff_lt_mul hs0, ← h.1]
   exact hq
 refine hR _ _ (h.2 (q / size) _ (List.getElem?_eq_getElem hql)) _ ?_
 rw [List.mem_iff_getElem?]
 refine ⟨q % size, ?_⟩
 rw [List.getElem?_take, if_pos (Nat.mod_lt _ hs0), List.getElem?_drop, Nat.mul_comm, Nat.div_add_mod, List.getElem?_eq_getElem hq]
def arr {α : Type} (n : Nat) (d : Kd α) (hs : 0 < d.sz) : Kd (List α) where
 sz:=n * d.sz
 E:=d.E
 K:=fun w xs cs => xs.length = n ∧ Reps (d.K w) d.sz xs cs
 M:=fun w base ok xs cs => xs.length = n ∧ Reps (d.M w base ok) d.sz xs cs
 K_len:=fun h => by rw [← h.1]; exact h.2.1
 K_one:=fun h => reps_one h.2 hs (fun _ _ hk => d.K_one hk)
 K_below:=fun hb h => ⟨h.1, h.2.imp_ (fun _ _ hk => d.K_below hb hk)⟩
 K_of_M:=fun h => ⟨h.1, h.2.imp_ (fun _ _ hk => d.K_of_M hk)⟩
 M_mono:=fun hok h => ⟨h.1, h.2.imp_ (fun _ _ hk => d.M_mono hok hk)⟩
 M_bound:=fun h => ⟨h.1, h.2.imp_ (fun _ _ hk => d.M_bound hk)⟩
 M_move:=fun hm h => ⟨h.1, h.2.imp_ (fun _ _ hk => d.M_move hm hk)⟩
 M_lower:=fun hb h => ⟨h.1, h.2.imp_ (fun _ _ hk => d.M_lower hb hk)⟩
section
variable {α : Type} {n : Nat} {d : Kd α} {hs : 0 < d.sz} {w : World} {base : Nat} {ok : Nat → Prop} {xs : List α} {cs : List Value}
end
section
variable {α : Type} {n : Nat} {enc : α → Value} {h1 : ∀ x, (enc x).oneCell' = true} {hs : 0 < (scalar enc h1).sz} {w : World} {base : Nat} {ok : Nat → Prop} {xs : List α} {cs : List Value}
end
end Kd
end Go.Proofs.YtacknhbgfijkcaaGreatDoorW.PrintWords
end
section
namespace Go.Proofs.YtacknhbgfijkcaaGreatDoorW.PrintWords
open Go.RowKit
section
variable {P : Program}
end
namespace Kd
section
variable {P : Program} {ops : Array Oper} {rest : List Oper} {o : Oper} {a : Act} {Q : Exit → Act → World → Prop} {Kc : Act → World → Prop} {α : Type}
end
section
variable {α : Type} {d : Kd α} {e : Nat} {w : World} {base : Nat} {ok : Nat → Prop} {v : Value} {xs : List α}
end
section
variable {P : Program} {ops : Array Oper} {rest : List Oper} {o : Oper} {a : Act} {Q : Exit → Act → World → Prop} {Kc : Act → World → Prop} {α : Type}
end
end Kd
end Go.Proofs.YtacknhbgfijkcaaGreatDoorW.PrintWords
end
section
namespace Go.Proofs.YtacknhbgfijkcaaGreatDoorW.PrintWords
open Go.RowKit
namespace Kd
structure Heap {α : Type} (d : Kd α) : Prop where
 K : ∀ {w w1 : World} {x : α} {cs : List Value}, (∀ k, k < w.heap.size → w1.heap[k]? = w.heap[k]?) → d.K w x cs → d.K w1 x cs
theorem cell_heap {w w1 : World} (hb : ∀ k, k < w.heap.size → w1.heap[k]? = w.heap[k]?) {a : Addr} {v : Value} (h : w.cell? a = some v) : w1.cell? a = some v:=by
 have:=hb a.block (World.block_lt_of_cell? w a h)
 simpa [World.cell?, this] using h
theorem Heap.C {α : Type} {d : Kd α} (hd : Heap d) {w w1 : World} {A : Option Addr} {n : Nat} {xs : List α} (hb : ∀ k, k < w.heap.size → w1.heap[k]? = w.heap[k]?) (h : d.C w A n xs) : d.C w1 A n xs :=
 ⟨h.1, h.2.1, fun hn => by
   obtain ⟨ad, e, hc⟩:=h.2.2 hn
   refine ⟨ad, e, fun j p hj => ?_⟩
   obtain ⟨c, hs, hr, hcell⟩:=hc j p hj
   exact ⟨c, hs, hd.K hb hr, fun i u hu => cell_heap hb (hcell i u hu)⟩⟩
section
variable {α : Type} {d : Kd α} {e base g n c : Nat} {ok : Nat → Prop} {w w0 W : World} {A : Option Addr} {xs : List α}
end
end Kd
end Go.Proofs.YtacknhbgfijkcaaGreatDoorW.PrintWords
end
section
namespace Go.Proofs.YtacknhbgfijkcaaGreatDoorW.PrintWords
open Go.RowKit
def Kept (w W : World) (S : Nat → Prop) : Prop:=w.heap.size ≤ W.heap.size ∧ ∀ i, i < w.heap.size → ¬ S i → W.heap[i]? = w.heap[i]?
section
variable {w W W2 : World} {S S2 S' : Nat → Prop}
theorem Kept.refl (w : World) (S : Nat → Prop) : Kept w w S:=⟨Nat.le_refl _, fun _ _ _ => rfl⟩
theorem Kept.of_below (h : Below w.heap.size w W) (S : Nat → Prop) : Kept w W S:=⟨h.size, fun i hi _ => h.block i hi⟩
theorem Kept.mono (h : Kept w W S) (hs : ∀ k, S k → S' k) : Kept w W S':=⟨h.1, fun i hi hn => h.2 i hi (fun hk => hn (hs i hk))⟩
theorem Kept.then_ (h : Kept w W S) (k : Kept W W2 S2) (hs : ∀ k, S2 k → S k ∨ w.heap.size ≤ k) : Kept w W2 S :=
 ⟨Nat.le_trans h.1 k.1, fun i hi hn => (k.2 i (Nat.lt_of_lt_of_le hi h.1) (fun h2 => (hs i h2).elim hn (fun h3 => by omega))).trans (h.2 i hi hn)⟩
theorem Kept.below (h : Kept w W S) (hb : Below W.heap.size W W2) : Kept w W2 S:=h.then_ (Kept.of_below hb (fun _ => False)) (fun _ hk => hk.elim)
theorem Kept.alloc (h : Kept w W S) (o : Obj) : Kept w (W.alloc o) S:=h.below (below_alloc (Below.refl _ _) o)
theorem Kept.drew (h : Kept w W S) : Kept w W.drew S:=h
theorem Kept.drewN (h : Kept w W S) (m : Nat) : Kept w (W.drewN m) S:=h
theorem Kept.setCell (h : Kept w W S) {p : Addr} (hp : S p.block ∨ w.heap.size ≤ p.block) (u : Value) : Kept w (W.setCell p u) S :=
 h.then_ (S2:=fun k => k = p.block) ⟨by simp [World.setCell], fun i _ hn => Below.heap_setCell W p u i hn⟩ (fun k hk => by rw [hk]; exact hp)
theorem Kept.keep {g : Nat} (h : KeepBut w W g none) (k : Kept W W2 S2) (hs : ∀ k, S2 k → w.heap.size ≤ k) : KeepBut w W2 g none :=
 ⟨Nat.le_trans h.1 k.1, fun i hi hg hr => (k.2 i (Nat.lt_of_lt_of_le hi h.1) (fun h2 => by have:=hs i h2; omega)).trans (h.2 i hi hg hr)⟩
theorem cell_kept {a : Addr} {v : Value} (hc : W.cell? a = some v) (hk : Kept W W2 S) (hne : ¬ S a.block) : W2.cell? a = some v:=by
 have:=hk.2 a.block (World.block_lt_of_cell? W a hc) hne
 simpa [World.cell?, this] using hc
end
namespace Kd
section
variable {α : Type} {d : Kd α} {e base n c : Nat} {ok oki S S2 : Nat → Prop} {w w0 W W1 W2 : World} {v : Value} {A : Option Addr} {xs : List α} {i : Int} {cs : List Value}
end
end Kd
end Go.Proofs.YtacknhbgfijkcaaGreatDoorW.PrintWords
end
section
namespace Go.Proofs.YtacknhbgfijkcaaGreatDoorW.PrintWords
open Go.RowKit
def Foot (P : World → Prop) (W : World) (ok : Nat → Prop) : Prop:=∀ W' : World, (∀ k, ok k → k < W.heap.size → W'.heap[k]? = W.heap[k]?) → P W'
theorem heap_lt {W W1 : World} {k : Nat} (h : W1.heap[k]? = W.heap[k]?) (hlt : k < W.heap.size) : k < W1.heap.size:=by
 rw [Array.getElem?_eq_getElem hlt] at h
 exact (Array.getElem?_eq_some_iff.1 h).1
namespace Foot
variable {P Q : World → Prop} {W W1 : World} {ok ok' : Nat → Prop}
theorem mono (h : Foot P W ok) (hok : ∀ k, ok k → ok' k) : Foot P W ok':=fun W' hW => h W' (fun k hk hlt => hW k (hok k hk) hlt)
theorem bound (h : Foot P W ok) : Foot P W (fun k => ok k ∧ k < W.heap.size):=fun W' hW => h W' (fun k hk hlt => hW k ⟨hk, hlt⟩ hlt)
theorem step (h : Foot P W ok) (hm : ∀ k, ok k → k < W.heap.size → W1.heap[k]? = W.heap[k]?) : Foot P W1 ok:=fun W' hW => h W' (fun k hk hlt => (hW k hk (heap_lt (hm k hk hlt) hlt)).trans (hm k hk hlt))
theorem imp (h : Foot P W ok) (hi : ∀ W', P W' → Q W') : Foot Q W ok:=fun W' hW => hi W' (h W' hW)
theorem old (h : Foot P W ok) (hb : Below W.heap.size W W1) : Foot P W1 (fun k => ok k ∧ k < W.heap.size):=(h.bound).step (fun k _ hlt => hb.block k hlt)
end Foot
namespace Kd
def F {α : Type} (d : Kd α) (W : World) (ok : Nat → Prop) (A : Option Addr) (n : Nat) (xs : List α) : Prop:=Foot (fun W => d.C W A n xs) W ok
def FK {α : Type} (d : Kd α) (W : World) (ok : Nat → Prop) (x : α) (c : List Value) : Prop:=Foot (fun W => d.K W x c) W ok
section
variable {α β : Type} {d : Kd α} {e base n n' cc g N : Nat} {ok ok' okp S : Nat → Prop} {w w0 w1 W W1 : World} {A A' : Option Addr} {u v v1 : Value} {xs : List α} {xs' : List β} {d' : Kd β} {x : α} {c : List Value}
end
end Kd
end Go.Proofs.YtacknhbgfijkcaaGreatDoorW.PrintWords
end
section
namespace Go.Proofs.YtacknhbgfijkcaaGreatDoorW.PrintWords
open Go.RowKit
namespace Kd
section
variable {α : Type} {d : Kd α} {e base n cc g : Nat} {ok ok' okp S : Nat → Prop} {w w1 W W1 : World} {A : Option Addr} {u v v1 : Value} {xs : List α} {x : α} {c : List Value}
def N {α : Type} (d : Kd α) (e : Nat) (w : World) (base : Nat) (ok : Nat → Prop) (v : Value) (xs : List α) : Prop :=
 (∀ k, v.ownBlock = some k → ok k) ∧ ∃ rows : List (List Value), rows.length = xs.length ∧ (raw d.sz).R e w base (fun k => some k = v.ownBlock) v rows ∧ ∀ (j : Nat) (x : α) (c : List Value), xs[j]? = some x → rows[j]? = some c → FK d w (fun k => ok k ∧ some k ≠ v.ownBlock) x c
end
end Kd
end Go.Proofs.YtacknhbgfijkcaaGreatDoorW.PrintWords
end
section
namespace Go.Proofs.YtacknhbgfijkcaaGreatDoorW.PrintWords
open Go.RowKit
namespace Kd
section
variable {α : Type} {d : Kd α} {e base n cap g : Nat} {ok ok' okp : Nat → Prop} {w w1 W : World} {v v1 : Value} {xs ys : List α}
end
section
variable {P : Program} {ops : Array Oper} {rest : List Oper} {o : Oper} {a : Act} {Q : Exit → Act → World → Prop} {Kc : Act → World → Prop} {α : Type}
end
end Kd
end Go.Proofs.YtacknhbgfijkcaaGreatDoorW.PrintWords
end
section
namespace Go.Proofs.YtacknhbgfijkcaaGreatDoorW.PrintMore
open Go.RowKit Go.Proofs.YtacknhbgfijkcaaGreatDoorW.PrintWords
namespace Kd
open Go.Proofs.YtacknhbgfijkcaaGreatDoorW.PrintWords.Kd
end Kd
namespace Kd
open Go.Proofs.YtacknhbgfijkcaaGreatDoorW.PrintWords.Kd
section
variable {α : Type} {d : Kd α} {e base g N : Nat} {ok : Nat → Prop} {W w1 : World} {u v : Value} {xs : List α}
end
end Kd
theorem max2_int (k k' : IntKind) (x y : Int) : Builtin.max2 (.int k x) (.int k' y) = pure (.int k (if x < y then y else x)):=by simp only [Builtin.max2, gt_iff_lt]
theorem min2_int (k k' : IntKind) (x y : Int) : Builtin.min2 (.int k x) (.int k' y) = pure (.int k (if y < x then y else x)):=by simp only [Builtin.min2]
theorem max_two (ats : Array TypeId) (ty : TypeId) (a b : Value) : Builtin.max_ ats ty #[a, b] = (Builtin.max2 a b >>= fun s => pure s):=by simp only [Builtin.max_, List.foldlM_cons, List.foldlM_nil]
theorem min_two (ats : Array TypeId) (ty : TypeId) (a b : Value) : Builtin.min_ ats ty #[a, b] = (Builtin.min2 a b >>= fun s => pure s):=by simp only [Builtin.min_, List.foldlM_cons, List.foldlM_nil]
theorem max_three (ats : Array TypeId) (ty : TypeId) (a b c : Value) : Builtin.max_ ats ty #[a, b, c] = (Builtin.max2 a b >>= fun s => Builtin.max2 s c >>= fun s => pure s):=by simp only [Builtin.max_, List.foldlM_cons, List.foldlM_nil]
theorem min_three (ats : Array TypeId) (ty : TypeId) (a b c : Value) : Builtin.min_ ats ty #[a, b, c] = (Builtin.min2 a b >>= fun s => Builtin.min2 s c >>= fun s => pure s):=by simp only [Builtin.min_, List.foldlM_cons, List.foldlM_nil]
theorem max_four (ats : Array TypeId) (ty : TypeId) (a b c d : Value) : Builtin.max_ ats ty #[a, b, c, d] = (Builtin.max2 a b >>= fun s => Builtin.max2 s c >>= fun s => Builtin.max2 s d >>= fun s => pure s):=by simp only [Builtin.max_, List.foldlM_cons, List.foldlM_nil]
theorem min_four (ats : Array TypeId) (ty : TypeId) (a b c d : Value) : Builtin.min_ ats ty #[a, b, c, d] = (Builtin.min2 a b >>= fun s => Builtin.min2 s c >>= fun s => Builtin.min2 s d >>= fun s => pure s):=by simp only [Builtin.min_, List.foldlM_cons, List.foldlM_nil]
end Go.Proofs.YtacknhbgfijkcaaGreatDoorW.PrintMore
namespace Go.Proofs.YtacknhbgfijkcaaGreatDoorW.PrintWords
open Go.RowKit
section
variable {P : Program} {ops : Array Oper} {rest : List Oper} {o : Oper} {a : Act} {Q : Exit → Act → World → Prop} {W : World}
theorem gate_callee {f : FuncId} {as_ : Array Operand} {ts : Array TypeId} (_ho : o.op = .call { callee:=.value (.func f), args:=as_, argTypes:=ts }) (h : wpList P ops Q (o :: rest) a W) : wpList P ops Q (o :: rest) a W:=h
end
def mx (a b : Int) : Int:=if a < b then b else a
def shl (k : IntKind) (x y : Int) : Int:=k.wrap (x * 2 ^ min y.toNat k.bits)
def shr (k : IntKind) (x y : Int) : Int:=x / 2 ^ min y.toNat k.bits
namespace Kd
section
variable {α : Type} {d : Kd α} {e base : Nat} {ok : Nat → Prop} {W w1 : World} {v : Value} {xs : List α}
end
section
variable {α : Type} {d : Kd α} {e base g n cap : Nat} {ok oki okp : Nat → Prop} {W : World} {xs : List α} {i : Int} {c : List Value}
end
section
variable {α : Type} {d : Kd α} {e base b b' g N : Nat} {ok ok1 : Nat → Prop} {W W2 w1 : World} {u v : Value} {xs ys : List α} {S : Nat → Prop}
end
end Kd
end Go.Proofs.YtacknhbgfijkcaaGreatDoorW.PrintWords
namespace Go.Proofs.YtacknhbgfijkcaaGreatDoorW.PrintWords
open Go.RowKit
namespace Kd
def V {α : Type} (d : Kd α) (_e : Nat) (W : World) (_base : Nat) (ok : Nat → Prop) (v : Value) (xs : List α) : Prop:=∃ A c, v = .slice A xs.length c ∧ xs.length ≤ c ∧ F d W ok A xs.length xs
section
variable {α β : Type} {d : Kd α} {e base base' n m c g N' lo hi : Nat} {ok ok' S : Nat → Prop} {w W w1 : World} {A : Option Addr} {ad : Addr} {u v v1 : Value} {xs : List α}
end
end Kd
end Go.Proofs.YtacknhbgfijkcaaGreatDoorW.PrintWords
end
section
/- Contracts in the print's own form, of the library, for what the package field calls: stringslite.Index at one byte, strings.IndexByte, strings.Trim at an ASCII cutset. -/
namespace Go.Proofs.YtacknhbgfijkcaaGreatDoor
open Go Go.RowKit Go.Shelf Go.Proofs Go.Proofs.YtacknhbgfijkcaaGreatDoorW.PrintWords Go.Proofs.YtacknhbgfijkcaaGreatDoorW.PrintLast Go.Proofs.YtacknhbgfijkcaaGreatDoorW.PrintMore
theorem one_byte' (s : ByteArray) (h : s.size = 1) : s = ⟨#[s.data.toList.headD 0]⟩:=by
 obtain ⟨⟨l⟩⟩:=s
 match l, h with
 | [x], _ => rfl
def stringslite_Index.f (a0 : ByteArray) (a1 : ByteArray) : Option Int:=if a1.size = 1 then some (Lib.indexByte a0.data.toList (a1.data.toList.headD 0)) else none
theorem stringslite_Index.calls (a0 : ByteArray) (a1 : ByteArray) (r : Int) (w : World) (h : stringslite_Index.f a0 a1 = some r) :
   Calls Tryz.prog 110 #[.string a0, .string a1] w fun e w' => e = .returned (.int .i64 r) ∧ Drawn0 w w':=by
 unfold stringslite_Index.f at h
 split at h
 · rename_i h1
   obtain rfl:=Option.some.inj h
   have e:=one_byte' a1 h1
   generalize a1.data.toList.headD 0 = c at e ⊢
   subst e
   exact (Tryz.stringslite_Index_one a0 c w).mono fun e w' ⟨he, hw⟩ => ⟨he, hw ▸ Drawn0.refl w⟩
 · cases h
def strings_IndexByte.f (a0 : ByteArray) (a1 : Int) : Option Int:=some (Lib.indexByte a0.data.toList a1.toNat.toUInt8)
theorem strings_IndexByte.calls (a0 : ByteArray) (a1 : Int) (r : Int) (w : World) (h : strings_IndexByte.f a0 a1 = some r) :
   Calls Tryz.prog 208 #[.string a0, .int .u8 a1] w fun e w' => e = .returned (.int .i64 r) ∧ Drawn0 w w':=by
 obtain rfl:=Option.some.inj h
 exact (Tryz.strings_IndexByte a0 a1 w).mono fun e w' ⟨he, hw⟩ => ⟨he, hw ▸ Drawn0.refl w⟩
def trimL (l : List UInt8) : List UInt8:=Lib.trimS l [32, 9]
def strings_Trim.f (a0 : ByteArray) (a1 : ByteArray) : Option ByteArray:=if a1.data.toList = [32, 9] ∧ a0.size ≤ 140737488355328 then some ⟨(trimL a0.data.toList).toArray⟩ else none
theorem strings_Trim.calls (a0 : ByteArray) (a1 : ByteArray) (r : ByteArray) (w : World) (h : strings_Trim.f a0 a1 = some r) :
   Calls Tryz.prog 224 #[.string a0, .string a1] w fun e w' => e = .returned (.string r) ∧ Below w.heap.size w w':=by
 unfold strings_Trim.f at h
 split at h
 · rename_i h1
   obtain rfl:=Option.some.inj h
   have k:=Any.strings_Trim_laid (P:=Tryz.prog) Tryz.lays160 (by kernel_rfl) a0 a1 w (by omega) (by have:=Lib.size_eq a1; rw [h1.1] at this; simp at this; omega)
     (by rw [h1.1]; intro j b hj; rcases j with _ | _ | j <;> simp at hj <;> subst hj <;> decide)
   rw [h1.1] at k
   exact k
 · cases h
end Go.Proofs.YtacknhbgfijkcaaGreatDoor
end
section
namespace Go.Proofs.YtacknhbgfijkcaaGreatDoorW.PrintLast
open Go.Proofs.YtacknhbgfijkcaaGreatDoorW.PrintWords (Aside0)
def needsOf (md : Region.Mode) (o : Oper) : List Nat:=(o.after.toList.filter (fun e => Region.binds md e)).map (fun e => e.on)
section
variable {md : Region.Mode} {ops : Array Oper} {T : Bool × List (List Nat × List Nat)} {l l' li lj lk : Array Bool} {ds : List Nat} {i j k : Nat}
theorem gd (l : Array Bool) (j : Nat) (b : Bool) : l.getD j b = l.toList.getD j b:=by simp [Array.getD_eq_getD_getElem?, List.getD_eq_getElem?_getD]
end
def opsIn : Code → Nat → Option (Array Oper)
 | .region id ops _, k => if id == k then some ops else none
 | .seq a b, k => match opsIn a k with
   | some o => some o
   | none => opsIn b k
 | .cond _ a b, k => match opsIn a k with
   | some o => some o
   | none => opsIn b k
 | .block _ c, k => opsIn c k
 | .loop c, k => opsIn c k
 | .scope c, k => opsIn c k
 | .rangeFunc _ _ a b, k => match opsIn a k with
   | some o => some o
   | none => opsIn b k
 | _, _ => none
def opsOf (f : Func) (k : Nat) : Array Oper:=((f.body.bind fun c => opsIn c k)).getD #[]
end Go.Proofs.YtacknhbgfijkcaaGreatDoorW.PrintLast
end
section
namespace Go.Proofs.YtacknhbgfijkcaaGreatDoorW.PrintLast
section
variable {P : Program} {ops : Array Oper} {Q : Exit → Act → World → Prop} {md : Region.Mode} {S : World → Prop} {ds : List Nat} {T : Bool × List (List Nat × List Nat)}
end
end Go.Proofs.YtacknhbgfijkcaaGreatDoorW.PrintLast
end
section
namespace Go.Proofs.YtacknhbgfijkcaaGreatDoorW.PrintWords
open Go.RowKit
namespace Kd
section
variable {α : Type} {d : Kd α} {W : World} {g n : Nat} {S ok : Nat → Prop} {A : Option Addr} {ad : Addr} {xs : List α}
end
end Kd
end Go.Proofs.YtacknhbgfijkcaaGreatDoorW.PrintWords
end
section
namespace Go.Proofs.YtacknhbgfijkcaaGreatDoorW.PrintWords
open Go.RowKit
section
variable {w w' u : World} {m B g : Nat} {o : Obj} {row : Option Nat} {S : Nat → Prop} {a : Addr} {v : Value}
end
namespace Kd
section
variable {α : Type} {d : Kd α} {e base n m : Nat} {ok : Nat → Prop} {w w' : World} {v : Value} {A : Option Addr} {xs : List α}
end
end Kd
end Go.Proofs.YtacknhbgfijkcaaGreatDoorW.PrintWords
end
section
namespace Go.Proofs.YtacknhbgfijkcaaGreatDoorW.PrintWords
open Go.RowKit
section
variable {P : Program} {d : Nat} {xs ys : Array Value} {f : Field} {fs : List Field} {a b : Value} {r s : Bool} {w : World}
end
end Go.Proofs.YtacknhbgfijkcaaGreatDoorW.PrintWords
end
section
namespace Go.Proofs.YtacknhbgfijkcaaGreatDoorW.PrintWords
theorem Reps.one {α : Type} {R : α → List Value → Prop} {ps : List α} {cs : List Value} {p : α} {v : Value} (hp : R p [v]) (h : Reps R 1 ps cs) : Reps R 1 (p :: ps) (v :: cs):=by
 refine ⟨by simp [h.1], fun j q hq => ?_⟩
 cases j with
 | zero =>
   simp only [List.getElem?_cons_zero, Option.some.injEq] at hq
   subst hq
   simpa using hp
 | succ j =>
   simp only [List.getElem?_cons_succ] at hq
   have h1:=h.2 j q hq
   simpa [Nat.mul_one] using h1
theorem Reps.front {α : Type} {R : α → List Value → Prop} {size : Nat} {ps : List α} {cs c all : List Value} {p : α} (hp : R p c) (hc : c.length = size) (h : Reps R size ps cs) (ha : c ++ cs = all) : Reps R size (p :: ps) all:=by
 subst ha
 refine ⟨by rw [List.length_append, hc, h.1, List.length_cons, Nat.succ_mul, Nat.add_comm], fun j q hq => ?_⟩
 cases j with
 | zero =>
   simp only [List.getElem?_cons_zero, Option.some.injEq] at hq
   subst hq
   rw [Nat.zero_mul, List.drop_zero, List.take_append_of_le_length (by omega), List.take_of_length_le (by omega)]
   exact hp
 | succ j =>
   simp only [List.getElem?_cons_succ] at hq
   have h1:=h.2 j q hq
   rw [Nat.succ_mul, List.drop_append, List.drop_of_length_le (by rw [hc]; exact Nat.le_add_left _ _), List.nil_append, hc, Nat.add_sub_cancel]
   exact h1
theorem Reps.c2 {α : Type} {R : α → List Value → Prop} {ps : List α} {cs : List Value} {p : α} {va vb : Value} (hp : R p [va, vb]) (h : Reps R 2 ps cs) : Reps R 2 (p :: ps) (va :: vb :: cs):=Reps.front hp rfl h rfl
theorem Reps.c3 {α : Type} {R : α → List Value → Prop} {ps : List α} {cs : List Value} {p : α} {va vb vc : Value} (hp : R p [va, vb, vc]) (h : Reps R 3 ps cs) : Reps R 3 (p :: ps) (va :: vb :: vc :: cs):=Reps.front hp rfl h rfl
theorem Reps.c4 {α : Type} {R : α → List Value → Prop} {ps : List α} {cs : List Value} {p : α} {va vb vc vd : Value} (hp : R p [va, vb, vc, vd]) (h : Reps R 4 ps cs) : Reps R 4 (p :: ps) (va :: vb :: vc :: vd :: cs):=Reps.front hp rfl h rfl
theorem Reps.c5 {α : Type} {R : α → List Value → Prop} {ps : List α} {cs : List Value} {p : α} {va vb vc vd ve : Value} (hp : R p [va, vb, vc, vd, ve]) (h : Reps R 5 ps cs) : Reps R 5 (p :: ps) (va :: vb :: vc :: vd :: ve :: cs):=Reps.front hp rfl h rfl
theorem Reps.c6 {α : Type} {R : α → List Value → Prop} {ps : List α} {cs : List Value} {p : α} {va vb vc vd ve vf : Value} (hp : R p [va, vb, vc, vd, ve, vf]) (h : Reps R 6 ps cs) : Reps R 6 (p :: ps) (va :: vb :: vc :: vd :: ve :: vf :: cs):=Reps.front hp rfl h rfl
theorem Reps.c7 {α : Type} {R : α → List Value → Prop} {ps : List α} {cs : List Value} {p : α} {va vb vc vd ve vf vg : Value} (hp : R p [va, vb, vc, vd, ve, vf, vg]) (h : Reps R 7 ps cs) : Reps R 7 (p :: ps) (va :: vb :: vc :: vd :: ve :: vf :: vg :: cs):=Reps.front hp rfl h rfl
theorem Reps.c8 {α : Type} {R : α → List Value → Prop} {ps : List α} {cs : List Value} {p : α} {va vb vc vd ve vf vg vh : Value} (hp : R p [va, vb, vc, vd, ve, vf, vg, vh]) (h : Reps R 8 ps cs) : Reps R 8 (p :: ps) (va :: vb :: vc :: vd :: ve :: vf :: vg :: vh :: cs):=Reps.front hp rfl h rfl
theorem Reps.c9 {α : Type} {R : α → List Value → Prop} {ps : List α} {cs : List Value} {p : α} {va vb vc vd ve vf vg vh vi : Value} (hp : R p [va, vb, vc, vd, ve, vf, vg, vh, vi]) (h : Reps R 9 ps cs) : Reps R 9 (p :: ps) (va :: vb :: vc :: vd :: ve :: vf :: vg :: vh :: vi :: cs):=Reps.front hp rfl h rfl
theorem Reps.c10 {α : Type} {R : α → List Value → Prop} {ps : List α} {cs : List Value} {p : α} {va vb vc vd ve vf vg vh vi vj : Value} (hp : R p [va, vb, vc, vd, ve, vf, vg, vh, vi, vj]) (h : Reps R 10 ps cs) : Reps R 10 (p :: ps) (va :: vb :: vc :: vd :: ve :: vf :: vg :: vh :: vi :: vj :: cs):=Reps.front hp rfl h rfl
end Go.Proofs.YtacknhbgfijkcaaGreatDoorW.PrintWords
end
section
namespace Go.Proofs.YtacknhbgfijkcaaGreatDoorW.PrintLast
def up (b : Nat → Bool) (i : Nat) : Nat → Bool:=fun j => if j = i then true else b j
section
variable {P : Program} {ops : Array Oper} {Q : Exit → Act → World → Prop} {md : Region.Mode} {T : Bool × List (List Nat × List Nat)} {B : List Nat} {O : List Nat} {b : Nat → Bool} {i j n : Nat}
def Closed (T : List (List Nat × List Nat)) (O : List Nat) (b : Nat → Bool) : Prop:=∀ d r, T[d]? = some r → O.contains d = true → b d = true → ∀ n ∈ r.1, O.contains n = true → b n = true
end
end Go.Proofs.YtacknhbgfijkcaaGreatDoorW.PrintLast
end
section
namespace Go.Proofs.YtacknhbgfijkcaaGreatDoorW.PrintWords
open Go.RowKit
end Go.Proofs.YtacknhbgfijkcaaGreatDoorW.PrintWords
namespace Go.Proofs.YtacknhbgfijkcaaGreatDoorW.PrintLast
section
variable {ops : Array Oper} {a : Act} {o og : Oper} {g : Nat} {t : Tmp} {u : Bool}
end
end Go.Proofs.YtacknhbgfijkcaaGreatDoorW.PrintLast
end
section
namespace Go.Proofs.YtacknhbgfijkcaaGreatDoorW.PrintWords
open Go.RowKit
section
variable {P : Program} {ops : Array Oper} {rest : List Oper} {o : Oper} {a : Act} {Q : Exit → Act → World → Prop} {W : World}
end
end Go.Proofs.YtacknhbgfijkcaaGreatDoorW.PrintWords
end
section
namespace Go.Proofs.YtacknhbgfijkcaaGreatDoor.BF
open Go.RowKit Go.Proofs.YtacknhbgfijkcaaGreatDoorW.PrintWords Go.Proofs.YtacknhbgfijkcaaGreatDoorW.PrintLast Go.Proofs.YtacknhbgfijkcaaGreatDoorW.PrintMore
attribute [local go_sem] max2_int min2_int max_two min_two max_three min_three max_four min_four
def errW : Option Int → Value
 | none => .nilIface
 | some c => .iface 0 (.int .i64 c)
theorem errW_none : errW none = .nilIface:=rfl
theorem errW_some (c : Int) : errW (some c) = .iface 0 (.int .i64 c):=rfl
end Go.Proofs.YtacknhbgfijkcaaGreatDoor.BF
end
