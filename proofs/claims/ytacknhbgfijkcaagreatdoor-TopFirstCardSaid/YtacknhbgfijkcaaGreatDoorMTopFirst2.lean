/- TopFirst: part 2 of its proof: Fa3, Fa4, Fa5, Fa6, AbsW, AbsX. -/
import Derived.Test.YtacknhbgfijkcaaGreatDoorMTopFirst1
import Derived.Test.YtacknhbgfijkcaaGreatDoorMTopFirst0
set_option linter.unusedSimpArgs false
set_option linter.unusedVariables false
set_option linter.unusedSectionVars false
section
/- The quick engine, part 3: code, made into one term of operations with continuations, where its numbers of slots are gone. -/
namespace Go.Proofs.YtacknhbgfijkcaaGreatDoor.Abs
open Go Go.RowKit
def Cur (T : Type) : Nat → Type
 | 0 => T
 | n + 1 => Value → Cur T n
noncomputable def lam {T : Type} : (n : Nat) → (List Value → T) → Cur T n
 | 0, f => f []
 | n + 1, f => fun v => lam n fun vs => f (v :: vs)
noncomputable def app {T : Type} (d : T) : (n : Nat) → Cur T n → List Value → T
 | 0, F, [] => F
 | 0, _, _ :: _ => d
 | _ + 1, _, [] => d
 | n + 1, F, v :: vs => app d n (F v) vs
theorem app_lam {T : Type} (d : T) : ∀ (n : Nat) (f : List Value → T) (vs : List Value), app d n (lam n f) vs = f vs ∨ app d n (lam n f) vs = d
 | 0, f, [] => .inl rfl
 | 0, f, _ :: _ => .inr rfl
 | _ + 1, f, [] => .inr rfl
 | n + 1, f, v :: vs => app_lam d n (fun vs => f (v :: vs)) vs
abbrev FnT (n : Nat):=Cur (Hp → KVH → Bool) n
abbrev Callees:=(g n : Nat) → FnT n
noncomputable def noF : Hp → KVH → Bool:=fun _ _ => false
noncomputable def noH : Hp → Bool:=fun _ => false
noncomputable def globK (g : Nat) (h : Hp) (K : KV) : Bool :=
 Option.rec (motive:=fun _ => Bool) false (fun _ => K (.pointer (some ⟨g, 0, none⟩))) (getQ h.t g)
noncomputable def isFn (f : Fn) : Bool:=Fn.rec (motive:=fun _ => Bool) (fun _ => true) (fun _ => false) (fun _ _ => false) (fun _ _ _ _ => false) (fun _ => false) f
noncomputable def nilK (v : Value) (k : Bool) : Bool:=Value.rec (motive_1:=fun _ => Bool → Bool) (motive_2:=fun _ => Unit) (motive_3:=fun _ => Unit) (fun _ _ => false) (fun _ _ _ => false) (fun _ _ _ => false) (fun _ _ _ _ => false) (fun _ _ => false) (fun a k => Option.rec (motive:=fun _ => Bool) false (fun _ => k) a) (fun _ _ _ _ => false) (fun _ _ => false) (fun _ _ => false) (fun fn _ _ _ _ k => Bool.rec (motive:=fun _ => Bool) false k (isFn fn)) (fun _ => false) (fun _ _ _ k => k) (fun _ => false) (fun _ _ _ => false) (fun _ _ _ => false) (fun _ _ => ()) () (fun _ _ _ _ => ()) v k
theorem nilK_ok {v : Value} {k : Bool} (h : nilK v k = true) : nilOk v = true ∧ k = true:=by
 cases v with
 | pointer a => cases a with
   | none => cases h
   | some a => exact ⟨rfl, h⟩
 | func fn a b => cases fn with
   | func f => exact ⟨rfl, h⟩
   | _ => cases h
 | iface t v => exact ⟨rfl, h⟩
 | _ => cases h
noncomputable def unG (P : Program) (op : UnOp) (v : Value) (K : KV) : Bool:=okB (if scalar v = true then with1 (pureRun P (Op.unary op v)) fun r => if flat r = true then some r else none else none) K
noncomputable def convI (k : IntKind) (v : Value) (K : KV) : Bool:=intV v fun _ a => Int.rec (motive:=fun _ => Bool) (fun n => iteK (Nat.ble n (maxN k)) (K (.int k (.ofNat n))) (K (.int k (k.wrap (.ofNat n))))) (fun n => K (.int k (k.wrap (.negSucc n)))) a
noncomputable def convG (P : Program) (s d : TypeId) (h : Hp) (v : Value) (K : KVH) : Bool:=okB (aconvert P s d h v) fun p => K p.1 p.2
noncomputable def buildG (P : Program) (t : TypeId) (vs : List (Nat × Value)) (K : KV) : Bool:=okB (abuild P t vs) K
noncomputable def bslG (P : Program) (t : TypeId) (n : Nat) (vs : List (Nat × Value)) (h : Hp) (K : KVH) : Bool:=okB (abuildSlice P t n vs h) fun p => K p.1 p.2
noncomputable def mkmK (h : Hp) (K : KVH) : Bool:=Nat.rec (motive:=fun _ => Bool) false (fun p _ => setQ h.t (Nat.succ p) (some (.map [] 0 true)) fun t' => K (.map (some (Nat.succ p))) ⟨t', Nat.succ (Nat.succ p)⟩) h.n
noncomputable def mksG (P : Program) (t : TypeId) (h : Hp) (x y : Value) (K : KVH) : Bool:=okB (amakeSlice P t h x y) fun p => K p.1 p.2
noncomputable def lookG (P : Program) (t : TypeId) (h : Hp) (x k : Value) (ok : Bool) (K : KV) : Bool:=okB (alookup P t h x k ok) K
noncomputable def updG (P : Program) (t : TypeId) (h : Hp) (m k v : Value) (K : KVH) : Bool:=okB (amapUpdate P t h m k v) fun h' => K undef h'
noncomputable def entG (P : Program) (t : TypeId) (h : Hp) (m k : Value) (K : KVH) : Bool:=okB (amapEntry P t h m k) fun p => K p.1 p.2
noncomputable def estG (h : Hp) (m s v : Value) (K : KVH) : Bool:=okB (aentryStore h m s v) fun h' => K undef h'
noncomputable def bltG (P : Program) (h : Hp) (b : Builtin) (ts : Array TypeId) (vs : List Value) (K : KVH) : Bool:=okB (abuiltin P h b ts vs) fun p => K p.1 p.2
noncomputable def dynG (P : Program) (C : Callees) (f : Value) (vs : List Value) (h : Hp) (K : KVH) : Bool :=
 match f with
 | .func (.func g) first cap => bif enterOk P g then (match appL first.toList (appL vs cap.toList) with | us => app noF (lenL us) (C g (lenL us)) us h K) else false
 | _ => false
noncomputable def loopG (n : Nat) (step : Cur (Hp → Bool) n → Cur (Hp → Bool) n) (k : Nat) : Cur (Hp → Bool) n:=Nat.rec (motive:=fun _ => Cur (Hp → Bool) n) (lam n fun _ => noH) (fun _ ih => step ih) k
noncomputable def mkiG (t : TypeId) (v : Value) (K : KV) : Bool:=K (.iface t v)
noncomputable def fld1 (off : Nat) (x : Value) (K : KV) : Bool:=aggK x fun l => part1 off l K
noncomputable def fldN (off n : Nat) (x : Value) (K : KV) : Bool:=aggK x fun l => partN off n l K
noncomputable def ixA1 (len es : Nat) (x i : Value) (K : KV) : Bool:=aggK x fun l => natK i fun n => wrK (Nat.ble (Nat.succ n) len) (part1 (Nat.mul n es) l K)
noncomputable def ixAN (len es m : Nat) (x i : Value) (K : KV) : Bool:=aggK x fun l => natK i fun n => wrK (Nat.ble (Nat.succ n) len) (partN (Nat.mul n es) m l K)
noncomputable def unL (n : Nat) : Cur Bool n → List Value → Bool:=Nat.rec (motive:=fun n => Cur Bool n → List Value → Bool) (fun F l => List.rec (motive:=fun _ => Bool) F (fun _ _ _ => false) l) (fun _ ih F l => List.rec (motive:=fun _ => Bool) false (fun v t _ => ih (F v) t) l) n
theorem unL_lam : ∀ (n : Nat) (f : List Value → Bool) (l : List Value), unL n (lam n f) l = true → f l = true
 | 0, f, [], h => h
 | 0, f, _ :: _, h => by cases h
 | n + 1, f, [], h => by cases h
 | n + 1, f, v :: t, h => unL_lam n (fun vs => f (v :: vs)) t h
noncomputable def ungK (n : Nat) (v : Value) (F : Cur Bool n) : Bool:=aggK v fun l => unL n F l
theorem ungK_ok {n : Nat} {v : Value} {f : List Value → Bool} (h : ungK n v (lam n f) = true) : ∃ c, v = .agg c ∧ f c.toList = true:=by
 obtain ⟨c, hc, hk⟩:=aggK_ok h
 exact ⟨c, hc, unL_lam n f _ hk⟩
noncomputable def overQ (zs : List Value) (off : Nat) (cs : List Value) : List Value:=appL (takeL zs off) (appL cs (dropL zs (Nat.add off (lenL cs))))
theorem overQ_eq (zs : List Value) (off : Nat) (cs : List Value) : overQ zs off cs = over zs off cs:=by
 unfold overQ over
 rw [appL_eq, appL_eq, takeL_eq, dropL_eq, lenL_eq, List.append_assoc]
 rfl
noncomputable def repL (l : List Value) (n : Nat) : List Value:=Nat.rec (motive:=fun _ => List Value) [] (fun _ ih => appL l ih) n
theorem repL_len (l : List Value) : ∀ n, (repL l n).length = n * l.length
 | 0 => by rw [Nat.zero_mul]; rfl
 | n + 1 => by
   show (appL l (repL l n)).length = _
   rw [appL_eq, List.length_append, repL_len l n, Nat.add_mul, Nat.one_mul, Nat.add_comm]
theorem repL_get (l : List Value) : ∀ (n i : Nat), i < n * l.length → (repL l n)[i]? = l[i % l.length]?
 | 0, i, h => by omega
 | n + 1, i, h => by
   show (appL l (repL l n))[i]? = _
   rw [appL_eq]
   by_cases hi : i < l.length
   · rw [List.getElem?_append_left hi, Nat.mod_eq_of_lt hi]
   · rw [List.getElem?_append_right (by omega), repL_get l n (i - l.length) (by have h2:=h; rw [Nat.succ_mul] at h2; omega), Nat.mod_eq_sub_mod (show l.length ≤ i by omega)]
theorem zeros_list (z : Array Value) (n : Nat) (hz : 0 < z.size) : (zeros z (n * z.size)).toList = repL z.toList n:=by
 have hl : (repL z.toList n).length = n * z.size:=by rw [repL_len]; simp
 apply List.ext_getElem?
 intro i
 by_cases hi : i < n * z.size
 · rw [repL_get _ _ _ (by simpa using hi)]
   have hm : i % z.size < z.size:=Nat.mod_lt _ hz
   simp only [zeros, Array.toList_map, Array.toList_range, List.getElem?_map, Array.getElem?_toList, Array.length_toList]
   rw [List.getElem?_range hi, Option.map_some, Array.getElem?_eq_getElem hm, getElem!_pos z _ hm]
 · rw [List.getElem?_eq_none (by simp [zeros]; omega), List.getElem?_eq_none (by omega)]
noncomputable def row3 (e es : Nat) (fb : Bool) (K : Nat → List Value → Bool) (len off : Nat) (cs : List Value) (e' : TypeId) (_ : Bool) : Bool:=iteK (Nat.beq e' e) (subK cs off (Nat.mul len es) (K len)) fb
noncomputable def row2 (e es : Nat) (h : Hp) (fb : Bool) (K : Nat → List Value → Bool) (len : Nat) (id off : Nat) : Bool:=cellsAt h id (row3 e es fb K len off)
noncomputable def row1 (e es : Nat) (h : Hp) (fb : Bool) (K : Nat → List Value → Bool) (a : Option Addr) (len c : Nat) : Bool:=adK a (iteK (Nat.beq len 0) (iteK (Nat.beq c 0) (K 0 []) false) false) (row2 e es h fb K len)
noncomputable def rowK (e es : Nat) (h : Hp) (x : Value) (fb : Bool) (K : Nat → List Value → Bool) : Bool:=slcE x (row1 e es h fb K) fb
noncomputable def chK (n bs : Nat) (k : Bool) : Bool:=iteK (Nat.ble (Nat.mul n bs) 140737488355328) (iteK (Nat.ble n 140737488355328) k false) false
noncomputable def apZ (K : KVH) (len c : Nat) (m : Nat) (h' : Hp) : Bool:=K (.slice (some ⟨m, 0, none⟩) len c) h'
noncomputable def apA (e : Nat) (h : Hp) (K : KVH) (len c : Nat) (l : List Value) : Bool:=allocK e l h (apZ K len c)
noncomputable def apD (e : Nat) (K : KVH) (len c : Nat) (cs new : List Value) (off n m : Nat) (t' : Tr AObj) : Bool:=subAppK cs new off n (apA e ⟨t', m⟩ K len c)
noncomputable def apC (e : Nat) (K : KVH) (len c id : Nat) (cs new : List Value) (off n : Nat) (t : Tr AObj) (m : Nat) : Bool:=iteK (Nat.beq id m) false (setQ t id none (apD e K len c cs new off n m))
noncomputable def apE (e es bs : Nat) (h : Hp) (K : KVH) (new : List Value) (len sl c id off : Nat) (cs : List Value) (wr : Bool) : Bool:=chK len bs (iteK (iteK (Nat.beq c 0) false (Nat.ble c len)) (subAppK cs new off (Nat.mul sl es) (apA e h K len 0)) (wrK wr (hpK h (apC e K len c id cs new off (Nat.mul sl es)))))
noncomputable def apB (e es bs : Nat) (h : Hp) (K : KVH) (new : List Value) (len sl c id off : Nat) (cs : List Value) (e' : TypeId) (wr : Bool) : Bool:=iteK (Nat.beq e' e) (apE e es bs h K new len sl c id off cs wr) false
noncomputable def ap5 (e es bs : Nat) (h : Hp) (K : KVH) (new : List Value) (len sl c : Nat) (id off : Nat) : Bool:=cellsAt h id (apB e es bs h K new len sl c id off)
noncomputable def ap4 (e es bs : Nat) (h : Hp) (K : KVH) (new : List Value) (n : Nat) (a : Option Addr) (sl c : Nat) : Bool:=adK a (iteK (Nat.beq sl 0) (iteK (Nat.beq c 0) (chK n bs (apA e h K n 0 new)) false) false) (ap5 e es bs h K new (Nat.add sl n) sl c)
noncomputable def ap3 (e es bs : Nat) (s : Value) (h : Hp) (K : KVH) (fb : Bool) (n : Nat) (new : List Value) : Bool:=iteK (Nat.beq n 0) fb (allOneK new (slcV s (ap4 e es bs h K new n)))
noncomputable def apK (e es bs : Nat) (s x : Value) (h : Hp) (K : KVH) (fb : Bool) : Bool:=rowK e es h x fb (ap3 e es bs s h K fb)
noncomputable def sv4 (es : Nat) (K : KV) (id off c : Nat) (l r : Nat) : Bool:=K (.slice (some ⟨id, Nat.add off (Nat.mul l es), none⟩) (Nat.sub r l) (Nat.rec (motive:=fun _ => Nat) 0 (fun p _ => Nat.sub (Nat.succ p) l) c))
noncomputable def sv3 (e es : Nat) (lo hi : Option Value) (K : KV) (fb : Bool) (len c id off : Nat) (_ : List Value) (e' : TypeId) (_ : Bool) : Bool:=iteK (Nat.beq e' e) (bdK len (Nat.rec (motive:=fun _ => Nat) len (fun p _ => bif Nat.ble len p then p else len) c) lo hi (sv4 es K id off c)) fb
noncomputable def sv2 (e es : Nat) (h : Hp) (lo hi : Option Value) (K : KV) (fb : Bool) (len c : Nat) (id off : Nat) : Bool:=cellsAt h id (sv3 e es lo hi K fb len c id off)
noncomputable def sv1 (e es : Nat) (h : Hp) (lo hi : Option Value) (K : KV) (fb : Bool) (a : Option Addr) (len c : Nat) : Bool:=adK a fb (sv2 e es h lo hi K fb len c)
noncomputable def svK (e es : Nat) (h : Hp) (x : Value) (lo hi : Option Value) (K : KV) (fb : Bool) : Bool:=slcE x (sv1 e es h lo hi K fb) fb
noncomputable def s0K (x : Value) (K : KV) (fb : Bool) : Bool:=slcE x (fun a len c => adK a (iteK (Nat.beq len 0) (iteK (Nat.beq c 0) (K (.slice none 0 0)) fb) fb) fun id off => K (.slice (some ⟨id, off, none⟩) 0 1)) fb
noncomputable def csK (e : Nat) (h : Hp) (v : Value) (K : KVH) (fb : Bool) : Bool:=rowK e 1 h v fb fun _ l => bytesK l fun bs => K (.string ⟨⟨bs⟩⟩) h
noncomputable def mpK (o : Option AObj) (K : List MapEntry → Nat → Bool → Bool) (fb : Bool) : Bool:=Option.rec (motive:=fun _ => Bool) fb (fun o => AObj.rec (motive:=fun _ => Bool) (fun _ _ _ => fb) K (fun _ => fb) o) o
noncomputable def lksK (z : Value) (ok : Bool) (h : Hp) (m k : Value) (K : KV) (fb : Bool) : Bool:=strE k (fun s => mapE m (fun r => Option.rec (motive:=fun _ => Bool) (Bool.rec (motive:=fun _ => Bool) (K z) (K (.tuple ⟨[z, .bool false]⟩)) ok) (fun id => mpK (getQ h.t id) (fun es _ _ => findK s es (fun v => Bool.rec (motive:=fun _ => Bool) (K v) (K (.tuple ⟨[v, .bool true]⟩)) ok) (Bool.rec (motive:=fun _ => Bool) (K z) (K (.tuple ⟨[z, .bool false]⟩)) ok) fb) fb) r) fb) fb
noncomputable def upsK (h : Hp) (m k v : Value) (K : KVH) (fb : Bool) : Bool:=strE k (fun s => mapE m (fun r => Option.rec (motive:=fun _ => Bool) fb (fun id => hpK h fun t n => mpK (getQ t id) (fun es clock wr => Bool.rec (motive:=fun _ => Bool) fb (findK s es (fun _ => fb) (appK es [⟨k, v, clock⟩] fun es' => setQ t id (some (.map es' (Nat.succ clock) true)) fun t' => K undef ⟨t', n⟩) fb) wr) fb) r) fb) fb
noncomputable def rowN (e n : Nat) (l : List Value) (h : Hp) (K : KVH) : Bool:=allocK e l h fun m h' => K (.slice (some ⟨m, 0, none⟩) n (Nat.succ n)) h'
structure Ops where
 o1 : Value → Bool → Bool
 ns : Bool → Bool → Value → Value → KV → Bool
 s0 : TypeId → Hp → Value → Option Value → Option Value → Option Value → KV → Bool
 cs : TypeId → TypeId → TypeId → Hp → Value → KVH → Bool
 l2 : TypeId → Value → Bool → Hp → Value → Value → KV → Bool
 u2 : TypeId → Hp → Value → Value → Value → KVH → Bool
 ug : (n : Nat) → Value → Cur Bool n → Bool
 rw : TypeId → Nat → List Value → Hp → KVH → Bool
 ap : Array TypeId → TypeId → Nat → Nat → Value → Value → Hp → KVH → Bool
 sv : TypeId → TypeId → Nat → Hp → Value → Option Value → Option Value → KV → Bool
 bi : BinOp → Value → Value → KV → Bool
 bs : BinOp → Value → Value → KV → Bool
 bv : BinOp → TypeId → Operand → Operand → Value → Value → KV → Bool
 nt : Value → KV → Bool
 un : UnOp → Value → KV → Bool
 br : Value → Bool → Bool → Bool
 pk : Value → Value → Value → KV → Bool
 gd : Bool → Value → Bool → Bool → Bool
 jn : {α : Type} → (α → Bool) → α → Bool
 lp : (n : Nat) → (Cur (Hp → Bool) n → Cur (Hp → Bool) n) → Nat → Cur (Hp → Bool) n
 gl : Nat → Hp → KV → Bool
 nk : Value → Bool → Bool
 ci : IntKind → Value → KV → Bool
 cg : TypeId → TypeId → Hp → Value → KVH → Bool
 bd : TypeId → List (Nat × Value) → KV → Bool
 bl : TypeId → Nat → List (Nat × Value) → Hp → KVH → Bool
 mm : Hp → KVH → Bool
 ms : TypeId → Hp → Value → Value → KVH → Bool
 lk : TypeId → Hp → Value → Value → Bool → KV → Bool
 up : TypeId → Hp → Value → Value → Value → KVH → Bool
 en : TypeId → Hp → Value → Value → KVH → Bool
 es : Hp → Value → Value → Value → KVH → Bool
 bt : Hp → Builtin → Array TypeId → List Value → KVH → Bool
 dy : Callees → Value → List Value → Hp → KVH → Bool
 mi : TypeId → Value → KV → Bool
 f1 : Nat → Value → KV → Bool
 fn : Nat → Nat → Value → KV → Bool
 l1 : Hp → Value → KV → Bool
 ln : Nat → Hp → Value → KV → Bool
 s1 : Hp → Value → Value → KVH → Bool
 sn : Nat → Hp → Value → Value → KVH → Bool
 al : TypeId → List Value → Hp → KVH → Bool
 bx : TypeId → Hp → Value → KVH → Bool
 fa : Nat → Value → KV → Bool
 xs : Nat → Value → Value → KV → Bool
 xa : Nat → Nat → Value → Value → KV → Bool
 ix : Value → Value → KV → Bool
 a1 : Nat → Nat → Value → Value → KV → Bool
 an : Nat → Nat → Nat → Value → Value → KV → Bool
 ex : Nat → Value → KV → Bool
 ls : Value → KV → Bool
 lv : Value → KV → Bool
 lg : Hp → TypeId → Value → KV → Bool
 ss : Value → Option Value → Option Value → KV → Bool
 sg : TypeId → Hp → Value → Option Value → Option Value → Option Value → KV → Bool
 ek : Value → Value → Bool → Bool
 bo : Bool → Bool → Bool
noncomputable def bothK (b k : Bool) : Bool:=Bool.rec (motive:=fun _ => Bool) false k b
noncomputable def new1 (e : TypeId) (l : List Value) (h : Hp) (K : KVH) : Bool:=allocK e l h fun n h' => K (.pointer (some ⟨n, 0, none⟩)) h'
noncomputable def theOps (P : Program) : Ops where
 bi:=fun op => binI (selI P op)
 bs:=fun op => binS (selS op)
 bv:=binV P
 nt:=notK
 un:=unG P
 br:=brK
 pk:=pickK
 gd:=guardK
 jn:=joinK
 lp:=loopG
 gl:=globK
 nk:=nilK
 ci:=convI
 cg:=convG P
 bd:=buildG P
 bl:=bslG P
 mm:=mkmK
 ms:=mksG P
 lk:=lookG P
 up:=updG P
 en:=entG P
 es:=estG
 bt:=bltG P
 dy:=dynG P
 mi:=mkiG
 f1:=fld1
 fn:=fldN
 l1:=load1
 ln:=loadN
 s1:=store1
 sn:=storeN
 o1:=oneK
 ns:=nsK
 s0:=fun t h x lo hi mx K => s0K x K (sliceG P t h x lo hi mx K)
 cs:=fun s d e h v K => csK e h v K (convG P s d h v K)
 l2:=fun t z ok h m k K => lksK z ok h m k K (lookG P t h m k ok K)
 u2:=fun t h m k v K => upsK h m k v K (updG P t h m k v K)
 ug:=ungK
 rw:=rowN
 ap:=fun ts e es bs s x h K => apK e es bs s x h K (bltG P h .append ts [s, x] K)
 sv:=fun t e es h x lo hi K => svK e es h x lo hi K (sliceG P t h x lo hi none K)
 al:=new1
 bx:=boxK.box1
 fa:=faAt
 xs:=iaSl
 xa:=iaAr
 ix:=ixS
 a1:=ixA1
 an:=ixAN
 ex:=exK
 ls:=lnS
 lv:=lnV
 lg:=lenG P
 ss:=subS
 sg:=sliceG P
 ek:=eqK
 bo:=bothK
section
variable (P : Program) (R : Ops) (C : Callees)
abbrev SE:=Tr Value
noncomputable def evK (E : SE) (h : Hp) (x : Operand) (K : KV) : Bool :=
 match x with
 | .tmp t => okB (E.get t) K
 | .const v => match flat v with
   | true => K v
   | false => false
 | .global g => match Nat.ble (Nat.succ g) P.globals.size with
   | true => R.gl g h K
   | false => false
 | .func f => K (.func (.func f) #[] #[])
noncomputable def evsK (E : SE) (h : Hp) : List Operand → (List Value → Bool) → Bool
 | [], K => K []
 | x :: xs, K => evK P R E h x fun v => evsK E h xs fun vs => K (v :: vs)
noncomputable def evpK (E : SE) (h : Hp) : List (Nat × Operand) → (List (Nat × Value) → Bool) → Bool
 | [], K => K []
 | x :: xs, K => evK P R E h x.2 fun v => evpK E h xs fun vs => K ((x.1, v) :: vs)
noncomputable def evoK (E : SE) (h : Hp) : Option Operand → (Option Value → Bool) → Bool
 | none, K => K none
 | some x, K => evK P R E h x fun v => K (some v)
noncomputable def binC (op : BinOp) (t : TypeId) (xo yo : Operand) (a b : Value) (K : KV) : Bool :=
 match op with
 | .shl => R.bv .shl t xo yo a b K
 | .shr => R.bv .shr t xo yo a b K
 | .and => R.bv .and t xo yo a b K
 | op => match P.underlying t with
   | some (.int _) => R.bi op a b K
   | some .string => R.bs op a b K
   | some (.slice _) => match op with
     | .eql => R.ns true false a b K
     | .neq => R.ns false true a b K
     | op => R.bv op t xo yo a b K
   | _ => R.bv op t xo yo a b K
noncomputable def unC (op : UnOp) (v : Value) (K : KV) : Bool :=
 match op with
 | .not => R.nt v K
 | op => R.un op v K
noncomputable def convC (s d : TypeId) (h : Hp) (v : Value) (K : KVH) : Bool :=
 match P.underlying s, P.underlying d with
 | some (.int _), some (.int k) => R.ci k v fun v => K v h
 | some (.slice e), some .string => match P.underlying e, P.info? e with
   | some (.int .u8), some inf => match Nat.beq inf.size 1 with
     | true => R.cs s d e h v K
     | false => R.cg s d h v K
   | _, _ => R.cg s d h v K
 | _, _ => R.cg s d h v K
noncomputable def mkiC (t : TypeId) (v : Value) (K : KV) : Bool :=
 match P.underlying t with
 | some (.interface _) => false
 | some _ => R.mi t v K
 | none => false
noncomputable def newC (e : TypeId) (h : Hp) (K : KVH) : Bool :=
 match azero P e with
 | some z => R.al e z.cells.toList h K
 | none => false
noncomputable def boxC (e : TypeId) (h : Hp) (v : Value) (K : KVH) : Bool :=
 match P.info? e with
 | some _ => R.bx e h v K
 | none => false
noncomputable def loadC (t : TypeId) (h : Hp) (p : Value) (K : KV) : Bool :=
 match ldI P t with
 | .one => R.l1 h p K
 | .many n => R.ln n h p K
 | .bad => false
noncomputable def storeC (t : TypeId) (h : Hp) (p v : Value) (K : KVH) : Bool :=
 match ldI P t with
 | .one => match P.info? t with
   | some inf => match Nat.beq inf.size 1 with
     | true => R.s1 h p v K
     | false => false
   | none => false
 | .many n => R.sn n h p v K
 | .bad => false
noncomputable def faC (s : TypeId) (f : Nat) (p : Value) (K : KV) : Bool :=
 match faI P s f with
 | some o => R.fa o p K
 | none => false
noncomputable def fieldC (t : TypeId) (f : Nat) (x : Value) (K : KV) : Bool :=
 match fdI P t f with
 | some (ty, o) => match ldI P ty with
   | .one => R.f1 o x K
   | .many n => R.fn o n x K
   | .bad => false
 | none => false
noncomputable def iaC (t : TypeId) (x i : Value) (K : KV) : Bool :=
 match P.underlying t with
 | some (.slice e) => match P.info? e with
   | some inf => R.xs inf.size x i K
   | none => false
 | some (.array len e) => match P.info? e with
   | some inf => R.xa len inf.size x i K
   | none => false
 | _ => false
noncomputable def ixC (t : TypeId) (x i : Value) (K : KV) : Bool :=
 match P.underlying t with
 | some .string => R.ix x i K
 | some (.array len e) => match P.info? e with
   | some inf => match ldI P e with
     | .one => R.a1 len inf.size x i K
     | .many n => R.an len inf.size n x i K
     | .bad => false
   | none => false
 | _ => false
noncomputable def lenC (h : Hp) (t : TypeId) (x : Value) (K : KV) : Bool :=
 match P.underlying t with
 | some .string => R.ls x K
 | some (.slice _) => R.lv x K
 | some (.array n _) => K (.int .i64 (.ofNat n))
 | _ => R.lg h t x K
noncomputable def zO : Operand → Bool
 | .const (.int _ (.ofNat n)) => Nat.beq n 0
 | _ => false
noncomputable def zOps : Option Operand → Option Operand → Option Operand → Bool
 | none, some hi, some mx => match zO hi with
   | true => zO mx
   | false => false
 | _, _, _ => false
noncomputable def lookC (t : TypeId) (h : Hp) (m k : Value) (ok : Bool) (K : KV) : Bool :=
 match P.underlying t with
 | some (.map kt et) => match P.underlying kt, azero P et with
   | some .string, some z => R.l2 t z ok h m k K
   | _, _ => R.lk t h m k ok K
 | _ => R.lk t h m k ok K
noncomputable def updC (t : TypeId) (h : Hp) (m k v : Value) (K : KVH) : Bool :=
 match P.underlying t with
 | some (.map kt _) => match P.underlying kt with
   | some .string => R.u2 t h m k v K
   | _ => R.up t h m k v K
 | _ => R.up t h m k v K
noncomputable def sliceC (z : Bool) (t : TypeId) (h : Hp) (x : Value) (lo hi mx : Option Value) (K : KV) : Bool :=
 match z with
 | true => match P.underlying t with
   | some (.slice e) => match P.info? e with
     | some _ => R.s0 t h x lo hi mx K
     | none => R.sg t h x lo hi mx K
   | _ => R.sg t h x lo hi mx K
 | false => match P.underlying t, mx with
 | some .string, none => R.ss x lo hi K
 | some (.slice e), none => match P.info? e with
   | some inf => R.sv t e inf.size h x lo hi K
   | none => false
 | _, _ => R.sg t h x lo hi mx K
noncomputable def fillC (place : Nat → Option (Nat × Nat)) : List (Nat × Value) → List Value → (List Value → Bool) → Bool
 | [], zs, K => K zs
 | p :: r, zs, K => match place p.1 with
   | some q => match Nat.ble (Nat.add q.1 q.2) (lenL zs) with
     | true => match Nat.beq q.2 1 with
       | true => R.o1 p.2 (fillC place r (overQ zs q.1 [p.2]) K)
       | false => R.ug q.2 p.2 (lam q.2 fun cs => match Nat.beq (lenL cs) q.2 with
         | true => fillC place r (overQ zs q.1 cs) K
         | false => false)
     | false => false
   | none => false
noncomputable def buildC (t : TypeId) (vs : List (Nat × Value)) (K : KV) : Bool :=
 match azero P t, P.underlying t with
 | some z, some (.struct fields) => match fields.toList.all fun f => (P.info? f.type).isSome with
   | true => fillC R (places P fields) vs z.cells.toList fun cs => K (.agg ⟨cs⟩)
   | false => false
 | some z, some (.array _ e) => match P.info? e with
   | some inf => fillC R (fun i => some (i * inf.size, inf.size)) vs z.cells.toList fun cs => K (.agg ⟨cs⟩)
   | none => false
 | _, _ => false
noncomputable def bslC (t : TypeId) (n : Nat) (vs : List (Nat × Value)) (h : Hp) (K : KVH) : Bool :=
 match P.underlying t with
 | some (.slice e) => match P.info? e, azero P e with
   | some inf, some z => match Nat.ble (Nat.mul n inf.size) 16777216, Nat.beq (lenL z.cells.toList) inf.size, Nat.ble 1 inf.size with
     | true, true, true => fillC R (fun i => some (i * inf.size, inf.size)) vs (repL z.cells.toList n) fun cs => R.rw e n cs h K
     | _, _, _ => false
   | _, _ => false
 | _ => false
noncomputable def appC (ts : Array TypeId) (s x : Value) (h : Hp) (K : KVH) : Bool :=
 match ts[0]? with
 | some st => match P.underlying st, srcT P ts with
   | some (.slice e), true => match P.info? e, azero P e with
     | some inf, some z => match Nat.beq z.cells.size inf.size with
       | true => R.ap ts e inf.size inf.bytes s x h K
       | false => false
     | _, _ => false
   | _, _ => false
 | none => false
noncomputable def compCall (E : SE) (h : Hp) (c : Call) (K : KVH) : Bool :=
 match c.callee with
 | .builtin .len => match c.args.toList, c.argTypes[0]? with
   | [x], some t => evK P R E h x fun v => lenC P R h t v fun v => K v h
   | _, _ => false
 | .builtin .append => match c.args.toList with
   | [s, x] => evK P R E h s fun s => evK P R E h x fun x => appC P R c.argTypes s x h K
   | _ => false
 | .builtin b => evsK P R E h c.args.toList fun vs => R.bt h b c.argTypes vs K
 | .value (.func g) => match enterOk P g with
   | true => evsK P R E h c.args.toList fun vs => app noF vs.length (C g vs.length) vs h K
   | false => false
 | .value f => evK P R E h f fun fv => evsK P R E h c.args.toList fun vs => R.dy C fv vs h K
 | _ => false
noncomputable def compOp (E : SE) (h : Hp) (op : Op) (K : KVH) : Bool :=
 match op with
 | .move x => evK P R E h x fun v => K v h
 | .assign x => evK P R E h x fun v => K v h
 | .pick c a b => evK P R E h c fun c => evK P R E h a fun a => evK P R E h b fun b => R.pk c a b fun v => K v h
 | .alloc e => newC P R e h K
 | .box e x => evK P R E h x fun v => boxC P R e h v K
 | .build t ps => evpK P R E h ps.toList fun vs => buildC P R t vs fun v => K v h
 | .buildSlice t n ps => evpK P R E h ps.toList fun vs => bslC P R t n vs h K
 | .load t x => evK P R E h x fun p => loadC P R t h p fun v => K v h
 | .store t x y => evK P R E h x fun p => evK P R E h y fun v => storeC P R t h p v K
 | .nilCheck x => evK P R E h x fun v => R.nk v (K v h)
 | .binOp op t x y _ => evK P R E h x fun a => evK P R E h y fun b => binC P R op t x y a b fun v => K v h
 | .unOp op _ x => evK P R E h x fun v => unC R op v fun v => K v h
 | .convert s d x => evK P R E h x fun v => convC P R s d h v K
 | .makeInterface t x => evK P R E h x fun v => mkiC P R t v fun v => K v h
 | .makeFunc fn first cap => evsK P R E h first.toList fun vs => evsK P R E h cap.toList fun cs => K (.func fn ⟨vs⟩ ⟨cs⟩) h
 | .makeMap _ none => R.mm h K
 | .makeSlice t l c => evK P R E h l fun x => evK P R E h c fun y => R.ms t h x y K
 | .slice t x lo hi mx => evK P R E h x fun v => evoK P R E h lo fun a => evoK P R E h hi fun b => evoK P R E h mx fun c => sliceC P R (zOps lo hi mx) t h v a b c fun v => K v h
 | .fieldAddr s x f => evK P R E h x fun v => faC P R s f v fun v => K v h
 | .field t x f => evK P R E h x fun v => fieldC P R t f v fun v => K v h
 | .indexAddr t x i => evK P R E h x fun v => evK P R E h i fun k => iaC P R t v k fun v => K v h
 | .index t x i => evK P R E h x fun v => evK P R E h i fun k => ixC P R t v k fun v => K v h
 | .lookup t x i ok => evK P R E h x fun v => evK P R E h i fun k => lookC P R t h v k ok fun v => K v h
 | .mapUpdate t m k v => evK P R E h m fun m => evK P R E h k fun k => evK P R E h v fun v => updC P R t h m k v K
 | .insert t m k v => evK P R E h m fun m => evK P R E h k fun k => evK P R E h v fun v => updC P R t h m k v K
 | .mapEntry t m k => evK P R E h m fun m => evK P R E h k fun k => R.en t h m k K
 | .entryStore _ m s v => evK P R E h m fun m => evK P R E h s fun s => evK P R E h v fun v => R.es h m s v K
 | .extract x i => evK P R E h x fun v => R.ex i v fun v => K v h
 | .call c => compCall P R C E h c K
 | _ => false
noncomputable def bit (t : Nat) : Nat:=Nat.shiftLeft 1 t
noncomputable def minus (m d : Nat) : Nat:=Nat.sub (Nat.lor m d) d
noncomputable def maskO : List Operand → Nat
 | [] => 0
 | .tmp t :: r => Nat.lor (bit t) (maskO r)
 | _ :: r => maskO r
noncomputable def dstM (d : Option Tmp) : Nat:=match d with | some t => bit t | none => 0
noncomputable def gM (ops : Array Oper) (g : Option (Nat × Bool)) : Nat:=match g with | some (j, _) => dstM ((ops[j]?).bind (·.dst)) | none => 0
noncomputable def ueOps (ops : Array Oper) (n : Nat) : List Oper → Nat
 | [] => n
 | o :: r => Nat.lor (gM ops o.guard) (Nat.lor (maskO o.op.operands.toList) (minus (ueOps ops n r) (dstM o.dst)))
noncomputable def ueC : Code → Nat → Nat → Nat
 | .region _ ops _, n, _ => ueOps ops n ops.toList
 | .seq a b, n, x => ueC a (ueC b n x) x
 | .cond c a b, n, x => Nat.lor (maskO [c]) (Nat.lor (ueC a n x) (ueC b n x))
 | .block _ b, n, x => ueC b n (Nat.lor x n)
 | .loop b, _, x => ueC b 0 x
 | .exit _, _, x => x
 | .ret, _, x => x
 | _, n, _ => n
def asgO : List Oper → List Nat
 | [] => []
 | o :: r => match o.dst with
   | some t => t :: asgO r
   | none => asgO r
def asgL : Code → List Nat
 | .region _ ops _ => asgO ops.toList
 | .seq a b => asgL a ++ asgL b
 | .cond _ a b => asgL a ++ asgL b
 | .block _ b => asgL b
 | .loop b => asgL b
 | _ => []
noncomputable def maskL : List Nat → Nat
 | [] => 0
 | t :: r => Nat.lor (bit t) (maskL r)
noncomputable def bitsL (m : Nat) (n : Nat) : List Nat → List Nat:=Nat.rec (motive:=fun _ => List Nat → List Nat) (fun acc => acc) (fun t ih acc => ih (Bool.rec (motive:=fun _ => List Nat) acc (t :: acc) (Nat.beq (Nat.land (Nat.shiftRight m t) 1) 1))) n
noncomputable def putC (lim : Nat) (E : SE) (d : Option Tmp) (v : Value) (K : SE → Bool) : Bool :=
 match d with
 | some t => match Nat.ble (Nat.succ t) lim with
   | true => E.setK t (some v) K
   | false => false
 | none => K E
noncomputable def getsK (E : SE) : List Nat → (List Value → Bool) → Bool
 | [], K => K []
 | t :: r, K => okB (E.get t) fun v => getsK E r fun vs => K (v :: vs)
noncomputable def delK (E : SE) : List Nat → (SE → Bool) → Bool
 | [], K => K E
 | t :: r, K => delK E r fun E' => E'.setK t none K
noncomputable def setsK (E : SE) : List Nat → List Value → (SE → Bool) → Bool
 | [], _, K => K E
 | t :: r, v :: vs, K => setsK E r vs fun E' => E'.setK t (some v) K
 | _ :: _, [], _ => false
inductive AX where
 | normal
 | exit (id : Nat)
 | ret
noncomputable def opsU (lim : Nat) : List Oper → SE → Hp → (SE → Hp → Bool) → Bool
 | [], E, h, K => K E h
 | o :: rest, E, h, K => compOp P R C E h o.op fun v h' => putC lim E o.dst v fun E' => opsU lim rest E' h' K
noncomputable def gEq : Option (Nat × Bool) → Option (Nat × Bool) → Bool
 | none, none => true
 | some (i, a), some (j, b) => match Nat.beq i j with
   | true => a == b
   | false => false
 | _, _ => false
abbrev Grp:=Option (Nat × Bool) × List Oper
noncomputable def groups : List Oper → List Grp
 | [] => []
 | o :: r => match groups r with
   | [] => [(o.guard, [o])]
   | (g, l) :: t => match gEq o.guard g with
     | true => (g, o :: l) :: t
     | false => (o.guard, [o]) :: (g, l) :: t
noncomputable def flatG : List Grp → List Oper
 | [] => []
 | (_, l) :: t => l ++ flatG t
noncomputable def memL (t : Nat) : List Nat → Bool
 | [] => false
 | x :: r => match Nat.beq t x with
   | true => true
   | false => memL t r
noncomputable def undefs : List Nat → List Value
 | [] => []
 | _ :: r => undef :: undefs r
noncomputable def subL : List Nat → List Nat → Bool
 | [], _ => true
 | t :: r, l => match memL t l with
   | true => subL r l
   | false => false
noncomputable def dstsB (lim : Nat) : List Oper → Bool
 | [] => true
 | o :: r => match o.dst with
   | some t => match Nat.ble (Nat.succ t) lim with
     | true => dstsB lim r
     | false => false
   | none => dstsB lim r
noncomputable def compGs (lim : Nat) (ops : Array Oper) (n : Nat) : List Grp → SE → Hp → (SE → Hp → Bool) → Bool
 | [], E, h, K => K E h
 | (none, A) :: r, E, h, K => opsU P R C lim A E h fun E' h' => compGs lim ops n r E' h' K
 | (some (j, want), A) :: r, E, h, K => match (ops[j]?).bind (·.dst) with
   | some t => match memL t (asgO A) with
     | true => false
     | false => okB (E.get t) fun g => match bitsL (Nat.land (maskL (asgO A)) (ueOps ops n (flatG r))) lim [] with
       | js => match subL js (asgO A), dstsB lim A with
         | true, true => R.jn (fun J : Cur (Hp → Bool) js.length => R.gd want g (opsU P R C lim A E h fun E' h' => getsK E' js fun vs => app noH js.length J vs h') (app noH js.length J (undefs js) h))
             (lam js.length fun vs h' => delK E (asgO A) fun E1 => setsK E1 js vs fun E2 => compGs lim ops n r E2 h' K)
         | _, _ => false
   | none => false
structure CPd where
 i : Nat
 op : Op
 E : SE
 v : Value
 g : Option (Bool × Value)
noncomputable def recK (h : Hp) (p : CPd) (k : Bool) : Bool:=match p.g with
 | none => compOp P R C p.E h p.op fun v _ => R.ek v p.v k
 | some (want, g) => R.jn (fun J : Bool => R.gd want g (compOp P R C p.E h p.op fun v _ => R.ek v p.v J) J) k
noncomputable def recsK (h : Hp) (K : Bool) : List CPd → Bool
 | [] => K
 | p :: l => recK P R C h p (recsK h K l)
noncomputable def guardC (ops : Array Oper) (E : SE) (h : Hp) (o : Oper) (K : Option (Bool × Value) → KVH) : Bool:=match o.guard with
 | none => compOp P R C E h o.op (K none)
 | some (j, want) => match (ops[j]?).bind (·.dst) with
   | some t => okB (E.get t) fun g => R.jn (fun J : KVH => R.gd want g (compOp P R C E h o.op J) (J undef h)) (K (some (want, g)))
   | none => false
noncomputable def lookNP (op : Op) : Bool:=!(pureOp op || allocOp op)
noncomputable def compDraw (lim : Nat) (ops : Array Oper) (B : List Nat) : List Nat → SE → Hp → List CPd → (SE → Hp → Bool) → Bool
 | [], E, h, l, K => recsK P R C h (K E h) l
 | i :: r, E, h, l, K => match ops[i]? with
   | none => false
   | some o => match isCh o.op with
     | true => recsK P R C h (guardC P R C ops E h o fun _ v h' => putC lim E o.dst v fun E' => compDraw lim ops B r E' h' (l.filter fun p => !(ancOf B i p.i)) K) l
     | false => guardC P R C ops E h o fun g v h' => putC lim E o.dst v fun E' => compDraw lim ops B r E' h' (match lookNP o.op with | true => ⟨i, o.op, E, v, g⟩ :: l | false => l) K
noncomputable def fuel : Nat:=1000000
def straight : Code → Bool
 | .region _ _ _ => true
 | .skip => true
 | .label _ => true
 | .seq a b => straight a && straight b
 | _ => false
noncomputable def seqK (Kb : SE → Hp → Bool) (K : AX → SE → Hp → Bool) (e : AX) (E : SE) (h : Hp) : Bool :=
 match e with
 | .normal => Kb E h
 | e => K e E h
noncomputable def blkK (id : Nat) (Kb : SE → Hp → Bool) (K : AX → SE → Hp → Bool) (e : AX) (E : SE) (h : Hp) : Bool :=
 match e with
 | .normal => Kb E h
 | .exit id' => match Nat.beq id' id with
   | true => Kb E h
   | false => K (.exit id') E h
 | .ret => K .ret E h
noncomputable def compC (lim : Nat) : Code → Nat → Nat → SE → Hp → (AX → SE → Hp → Bool) → Bool
 | .skip, _, _, E, h, K => K .normal E h
 | .label _, _, _, E, h, K => K .normal E h
 | .region _ ops false, n, _, E, h, K => compGs P R C lim ops n (groups ops.toList) E h fun E' h' => K .normal E' h'
 | .region _ ops true, _, _, E, h, K => match planD ops ops.size 0 with
   | σ => match chkD ops lim σ with
     | true => compDraw P R C lim ops (ancL ops ops.size) σ E h [] fun E' h' => K .normal E' h'
     | false => false
 | .seq a b, n, x, E, h, K => match straight a with
   | true => compC lim a (ueC b n x) x E h (seqK (fun E' h' => compC lim b n x E' h' K) K)
   | false => match bitsL (Nat.land (maskL (asgL a)) (ueC b n x)) lim [] with
     | js => R.jn (fun J : Cur (Hp → Bool) js.length => compC lim a (ueC b n x) x E h (seqK (fun E' h' => getsK E' js fun vs => app noH js.length J vs h') K))
         (lam js.length fun vs h' => delK E (asgL a) fun E1 => setsK E1 js vs fun E2 => compC lim b n x E2 h' K)
 | .cond c a b, n, x, E, h, K => evK P R E h c fun v => R.br v (compC lim a n x E h K) (compC lim b n x E h K)
 | .block id b, n, x, E, h, K => match bitsL (Nat.land (maskL (asgL b)) n) lim [] with
   | js => R.jn (fun J : Cur (Hp → Bool) js.length => compC lim b n (Nat.lor x n) E h (blkK id (fun E' h' => getsK E' js fun vs => app noH js.length J vs h') K))
       (lam js.length fun vs h' => delK E (asgL b) fun E1 => setsK E1 js vs fun E2 => K .normal E2 h')
 | .loop b, _, x, E, h, K => match bitsL (Nat.land (maskL (asgL b)) (ueC b 0 x)) lim [] with
   | js => getsK E js fun vs => app noH js.length (R.lp js.length (fun ih => lam js.length fun vs h => delK E (asgL b) fun E1 => setsK E1 js vs fun E2 =>
       compC lim b (ueC b 0 x) x E2 h (seqK (fun E' h' => getsK E' js fun vs => app noH js.length ih vs h') K)) fuel) vs h
 | .exit id, _, _, E, h, K => K (.exit id) E h
 | .ret, _, _, E, h, K => K .ret E h
 | _, _, _, _, _, _ => false
noncomputable def resK (E : SE) (h : Hp) : List ResultVar → (List Value → Bool) → Bool
 | [], K => K []
 | .tmp t :: r, K => okB (E.get t) fun v => resK E h r fun vs => K (v :: vs)
 | .cell a t :: r, K => okB (E.get a) fun p => loadC P R t h p fun v => resK E h r fun vs => K (v :: vs)
noncomputable def tupK (vs : List Value) (K : KV) : Bool :=
 match vs with
 | [v] => K v
 | vs => K (.tuple ⟨vs⟩)
noncomputable def maskR : List ResultVar → Nat
 | [] => 0
 | .tmp t :: r => Nat.lor (bit t) (maskR r)
 | .cell t _ :: r => Nat.lor (bit t) (maskR r)
noncomputable def retK (fd : Func) (kr : KVH) (e : AX) (E : SE) (h : Hp) : Bool :=
 match e with
 | .exit _ => false
 | _ => resK P R E h fd.results.toList fun vs => tupK vs fun v => kr v h
noncomputable def argsK (E : SE) (i : Nat) : List Value → (SE → Bool) → Bool
 | [], K => K E
 | v :: vs, K => E.setK i (some v) fun E' => argsK E' (Nat.succ i) vs K
noncomputable def fnOf (n : Nat) (fd : Func) (c : Code) : FnT n:=lam n fun vs h kr => argsK (.full (Nat.succ (Nat.log2 fd.ntmps))) 0 vs fun E => compC P R C fd.ntmps c (maskR fd.results.toList) (maskR fd.results.toList) E h (retK P R fd kr)
end
end Go.Proofs.YtacknhbgfijkcaaGreatDoor.Abs
end
section
/- The quick engine, part 4: what the terms say is what the engine says. -/
namespace Go.Proofs.YtacknhbgfijkcaaGreatDoor.Abs
open Go Go.RowKit
section
variable {P : Program} {G : GivenT}
def CallsTo (P : Program) (G : GivenT) (f : FuncId) (args : List Value) (h : Hp) (v : Value) (h' : Hp) : Prop:=∃ k0, ∀ k, k0 ≤ k → call P G k f args h = some (.ret v, h')
def Runs (P : Program) (G : GivenT) (lim : Nat) (c : Code) (s : ASt) (e : AExit) (s' : ASt) : Prop:=∃ k0, ∀ k, k0 ≤ k → exec P G k lim c s = some (e, s')
def RunsOps (P : Program) (G : GivenT) (lim : Nat) (ops : Array Oper) (os : List Oper) (s s' : ASt) : Prop:=∃ k0, ∀ k, k0 ≤ k → aops P (callBy P G (exec P G k)) lim ops os s = some (.normal, s')
def SubE (E E' : Tr Value) : Prop:=∀ t v, E.get t = some v → E'.get t = some v
def COk (P : Program) (G : GivenT) (C : Callees) : Prop:=∀ g n vs h K, app noF n (C g n) vs h K = true → ∃ v h', CallsTo P G g vs h v h' ∧ K v h' = true
theorem SubE.set {E E' : Tr Value} (h : SubE E E') (t : Nat) (v : Value) : SubE (E.set t (some v)) (E'.set t (some v)):=by
 intro u w hu
 rw [Tr.get_set] at hu ⊢
 split at hu
 · rename_i e; rw [if_pos e]; exact hu
 · rename_i e; rw [if_neg e]; exact h u w hu
theorem evK_ok {E ET : Tr Value} {h : Hp} {x : Operand} {K : KV} (hs : SubE E ET) (hk : evK P (theOps P) E h x K = true) : ∃ v, aev P ET h x = some v ∧ K v = true:=by
 cases x with
 | tmp t =>
   obtain ⟨v, hv, hk⟩:=okB_ok hk
   refine ⟨v, ?_, hk⟩
   simp only [aev, hs t v hv]
 | const v =>
   have hk' : (match flat v with | true => K v | false => false) = true:=hk
   split at hk'
   · rename_i hf
     exact ⟨v, by simp only [aev, hf, if_true], hk'⟩
   · cases hk'
 | global g =>
   have hk' : (match Nat.ble (Nat.succ g) P.globals.size with | true => globK g h K | false => false) = true:=hk
   split at hk'
   · rename_i hb
     have hb:=Nat.le_of_ble_eq_true hb
     unfold globK at hk'
     rw [getQ_eq] at hk'
     cases ho : h.t.get g with
     | some o =>
       rw [ho] at hk'
       exact ⟨_, by simp only [aev]; rw [if_pos ⟨hb, by rw [ho]; rfl⟩], hk'⟩
     | none => rw [ho] at hk'; cases hk'
   · cases hk'
 | func f => exact ⟨_, rfl, hk⟩
theorem evsK_ok {E ET : Tr Value} {h : Hp} (hs : SubE E ET) : ∀ {xs : List Operand} {K : List Value → Bool}, evsK P (theOps P) E h xs K = true → ∃ vs, aevs P ET h xs = some vs ∧ K vs = true
 | [], K, hk => ⟨[], rfl, hk⟩
 | x :: xs, K, hk => by
   obtain ⟨v, hv, hk⟩:=evK_ok hs hk
   obtain ⟨vs, hvs, hk⟩:=evsK_ok hs hk
   exact ⟨v :: vs, by simp only [aevs, hv, hvs], hk⟩
theorem evpK_ok {E ET : Tr Value} {h : Hp} (hs : SubE E ET) : ∀ {xs : List (Nat × Operand)} {K : List (Nat × Value) → Bool}, evpK P (theOps P) E h xs K = true → ∃ vs, aevp P ET h xs = some vs ∧ K vs = true
 | [], K, hk => ⟨[], rfl, hk⟩
 | x :: xs, K, hk => by
   obtain ⟨v, hv, hk⟩:=evK_ok hs hk
   obtain ⟨vs, hvs, hk⟩:=evpK_ok hs hk
   exact ⟨(x.1, v) :: vs, by simp only [aevp, hv, hvs], hk⟩
theorem evoK_ok {E ET : Tr Value} {h : Hp} (hs : SubE E ET) {x : Option Operand} {K : Option Value → Bool} (hk : evoK P (theOps P) E h x K = true) : ∃ v, aevo P ET h x = some v ∧ K v = true:=by
 cases x with
 | none => exact ⟨none, rfl, hk⟩
 | some x =>
   obtain ⟨v, hv, hk⟩:=evK_ok hs hk
   exact ⟨some v, by simp only [aevo, hv], hk⟩
def OpTo (P : Program) (G : GivenT) (E : Tr Value) (h : Hp) (op : Op) (v : Value) (h' : Hp) : Prop:=aop P E h op = some (.val v h') ∨ ∃ f args, aop P E h op = some (.call f args) ∧ CallsTo P G f args.toList h v h'
theorem binC_ok {op : BinOp} {t : TypeId} {xo yo : Operand} {a b : Value} {K : KV} (hk : binC P (theOps P) op t xo yo a b K = true) : ∃ v, abin2 P op t xo yo a b = some v ∧ K v = true:=by
 unfold binC at hk
 split at hk
 · exact binV_ok hk
 · exact binV_ok hk
 · exact binV_ok hk
 · split at hk
   · exact binI_ok hk
   · exact binS_ok hk
   · rename_i e hu
     split at hk
     · exact nsK_ok hu (.inl ⟨rfl, rfl, rfl⟩) hk
     · exact nsK_ok hu (.inr ⟨rfl, rfl, rfl⟩) hk
     · exact binV_ok hk
   · exact binV_ok hk
theorem unC_ok {op : UnOp} {v : Value} {K : KV} (hk : unC (theOps P) op v K = true) : ∃ r, (if scalar v = true then with1 (pureRun P (Op.unary op v)) fun r => if flat r = true then some r else none else none) = some r ∧ K r = true:=by
 unfold unC at hk
 split at hk
 · have hk' : notK v K = true:=hk
   obtain ⟨b, hx, h1⟩:=notK_ok hk'
   subst hx
   exact ⟨_, rfl, h1⟩
 · exact okB_ok hk
theorem newC_ok {e : TypeId} {h : Hp} {K : KVH} (hk : newC P (theOps P) e h K = true) : ∃ z p h', azero P e = some z ∧ abox P e h z = some (p, h') ∧ K p h' = true:=newK_ok hk
theorem boxC_ok {e : TypeId} {h : Hp} {v : Value} {K : KVH} (hk : boxC P (theOps P) e h v K = true) : ∃ p h', abox P e h v = some (p, h') ∧ K p h' = true:=boxK_ok hk
theorem loadC_ok {t : TypeId} {h : Hp} {p : Value} {K : KV} (hk : loadC P (theOps P) t h p K = true) : ∃ v, aload P t h p = some v ∧ K v = true:=loadK_ok hk
theorem storeC_ok {t : TypeId} {h : Hp} {p v : Value} {K : KVH} (hk : storeC P (theOps P) t h p v K = true) : ∃ h', astore P t h p v = some h' ∧ K undef h' = true:=storeK_ok hk
theorem faC_ok {s : TypeId} {f : Nat} {p : Value} {K : KV} (hk : faC P (theOps P) s f p K = true) : ∃ v, afieldAddr P s f p = some v ∧ K v = true:=faK_ok hk
theorem fieldC_ok {t : TypeId} {f : Nat} {x : Value} {K : KV} (hk : fieldC P (theOps P) t f x K = true) : ∃ v, afield P t f x = some v ∧ K v = true:=by
 refine fieldK_ok ?_
 unfold fieldC at hk
 unfold fieldK
 split at hk
 · rename_i ty o hf
   try rw [hf]
   try dsimp only
   unfold partK
   split at hk
   · rename_i hl; (try rw [hl]); exact hk
   · rename_i n hl; (try rw [hl]); exact hk
   · cases hk
 · cases hk
theorem iaC_ok {t : TypeId} {x i : Value} {K : KV} (hk : iaC P (theOps P) t x i K = true) : ∃ v, aindexAddr P t x i = some v ∧ K v = true:=iaK_ok hk
theorem ixC_ok {t : TypeId} {x i : Value} {K : KV} (hk : ixC P (theOps P) t x i K = true) : ∃ v, aindex P t x i = some v ∧ K v = true:=by
 refine ixK_ok ?_
 unfold ixC at hk
 unfold ixK
 split at hk
 · rename_i hu; (try rw [hu]); exact hk
 · rename_i len e hu
   try rw [hu]
   try dsimp only
   split at hk
   · rename_i inf hi
     try rw [hi]
     try dsimp only
     unfold ixA partK
     split at hk
     · rename_i hl; (try rw [hl]); exact hk
     · rename_i n hl; (try rw [hl]); exact hk
     · cases hk
   · cases hk
 · cases hk
theorem lenC_ok {h : Hp} {t : TypeId} {x : Value} {K : KV} (hk : lenC P (theOps P) h t x K = true) : ∃ v, alen P h t x = some v ∧ K v = true:=lenK_ok hk
theorem iteK_cases {c a b : Bool} (h : iteK c a b = true) : (c = true ∧ a = true) ∨ (c = false ∧ b = true):=by
 cases c
 · exact .inr ⟨rfl, h⟩
 · exact .inl ⟨rfl, h⟩
theorem iteK_false {c a : Bool} (h : iteK c a false = true) : c = true ∧ a = true:=by
 cases c
 · cases h
 · exact ⟨rfl, h⟩
theorem rowK_ok2 {e es : Nat} (he : szD P e = es) {h : Hp} {x : Value} {fb : Bool} {K : Nat → List Value → Bool} (hk : rowK e es h x fb K = true) : fb = true ∨ ∃ n l a len c, x = .slice a len c ∧ cellsOf P h es x = some (n, l) ∧ K n l = true:=by
 rcases slcE_ok hk with h1 | ⟨a, len, c, hx, h1⟩
 · exact .inl h1
 subst hx
 rcases adK_ok h1 with ⟨ha, h2⟩ | ⟨id, off, ha, h2⟩
 · subst ha
   obtain ⟨hl, h3⟩:=iteK_false h2
   obtain ⟨hc, h4⟩:=iteK_false h3
   have hl:=Nat.eq_of_beq_eq_true hl
   have hc:=Nat.eq_of_beq_eq_true hc
   subst hl; subst hc
   exact .inr ⟨0, [], _, _, _, rfl, rfl, h4⟩
 · subst ha
   obtain ⟨cs, e', wr, hg, h3⟩:=cellsAt_ok h2
   rcases iteK_cases h3 with ⟨hb, h4⟩ | ⟨_, h4⟩
   · have hb:=Nat.eq_of_beq_eq_true hb
     subst hb
     obtain ⟨hle, h5⟩:=subK_ok _ _ _ _ h4
     refine .inr ⟨len, _, _, _, _, rfl, ?_, h5⟩
     simp only [cellsOf, hg]
     rw [if_pos ⟨he, hle⟩]
     rfl
   · exact .inl h4
theorem rowK_ok {e es : Nat} (he : szD P e = es) {h : Hp} {x : Value} {fb : Bool} {K : Nat → List Value → Bool} (hk : rowK e es h x fb K = true) : fb = true ∨ ∃ n l, cellsOf P h es x = some (n, l) ∧ K n l = true:=by
 rcases rowK_ok2 he hk with h1 | ⟨n, l, _, _, _, _, h1, h2⟩
 · exact .inl h1
 · exact .inr ⟨n, l, h1, h2⟩
theorem convC_ok {s d : TypeId} {h : Hp} {v : Value} {K : KVH} (hk : convC P (theOps P) s d h v K = true) : ∃ r h', aconvert P s d h v = some (r, h') ∧ K r h' = true:=by
 unfold convC at hk
 split at hk
 · rename_i k0 k hs hd
   have hk' : convI k v (fun v => K v h) = true:=hk
   have key : ∀ kk n, aconvert P s d h (.int kk n) = some (.int k (k.wrap n), h):=fun kk n => by simp only [aconvert, hs, hd]
   obtain ⟨kk, a, hx, h1⟩:=intV_ok hk'
   subst hx
   refine ⟨_, _, key kk _, ?_⟩
   cases a with
   | ofNat n =>
     refine iteK_ok h1 (fun hb => ?_) (fun _ => rfl)
     rw [wrap_small k n (Nat.le_of_ble_eq_true hb)]
   | negSucc n => exact h1
 · rename_i e hs hd
   split at hk
   · rename_i inf hu8 hinf
     split at hk
     · rename_i h1
       have h1 : inf.size = 1:=Nat.eq_of_beq_eq_true h1
       have he : szD P e = 1:=by unfold szD; rw [hinf]; exact h1
       have hk0 : csK e h v K (convG P s d h v K) = true:=hk
       rcases rowK_ok2 he hk0 with hk | ⟨n, l, a, len, c, hv, hc, hk9⟩
       · obtain ⟨p, hp, hk⟩:=okB_ok hk
         exact ⟨p.1, p.2, hp, hk⟩
       · subst hv
         obtain ⟨bs, hb, hk2⟩:=bytesK_ok hk9
         refine ⟨_, _, ?_, hk2⟩
         simp only [aconvert, hs, hd, hu8, hc, hb]
     · obtain ⟨p, hp, hk⟩:=okB_ok hk
       exact ⟨p.1, p.2, hp, hk⟩
   · obtain ⟨p, hp, hk⟩:=okB_ok hk
     exact ⟨p.1, p.2, hp, hk⟩
 · obtain ⟨p, hp, hk⟩:=okB_ok hk
   exact ⟨p.1, p.2, hp, hk⟩
theorem chK_ok {n bs : Nat} {k : Bool} (h : chK n bs k = true) : n * bs ≤ 140737488355328 ∧ n ≤ 140737488355328 ∧ k = true:=by
 obtain ⟨h1, h2⟩:=iteK_false h
 obtain ⟨h3, h4⟩:=iteK_false h2
 exact ⟨Nat.le_of_ble_eq_true h1, Nat.le_of_ble_eq_true h3, h4⟩
theorem apK_ok {ts : Array TypeId} {st e : TypeId} {inf : TypeInfo} {z s x : Value} {h : Hp} {K : KVH} {fb : Bool} (hst : ts[0]? = some st) (hu : P.underlying st = some (.slice e)) (hsrc : srcT P ts = true) (hinf : P.info? e = some inf) (hz : azero P e = some z) (hzs : z.cells.size = inf.size)
   (hk : apK e inf.size inf.bytes s x h K fb = true) : fb = true ∨ ∃ v h', aappend P h ts s x = some (v, h') ∧ K v h' = true:=by
 have hes : szD P e = inf.size:=by unfold szD; rw [hinf]
 unfold apK at hk
 rcases rowK_ok hes hk with hk | ⟨n, new, hcx, hk1⟩
 · exact .inl hk
 rcases iteK_cases (show iteK (Nat.beq n 0) fb (allOneK new (slcV s (ap4 e inf.size inf.bytes h K new n))) = true from hk1) with ⟨_, hk1⟩ | ⟨hn0, hk1⟩
 · exact .inl hk1
 cases n with
 | zero => cases hn0
 | succ p =>
 right
 obtain ⟨hone, hk2⟩:=allOneK_ok hk1
 obtain ⟨a, sl, c, hs, hk3⟩:=slcV_ok hk2
 clear hk hk1 hk2
 subst hs
 have hap : ∀ old, cellsOf P h inf.size (.slice a sl c) = some (sl, old) → (sl + (p + 1)) * inf.bytes ≤ 140737488355328 → sl + (p + 1) ≤ 140737488355328 → aappend P h ts (.slice a sl c) x = (match Value.slice a sl c with
               | .slice none 0 0 => if (p + 1) = 0 then some (Value.slice a sl c, h) else some (.slice (some ⟨h.n, 0, none⟩) (p + 1) 0, ⟨h.t.set h.n (some (.cells new e true)), h.n + 1⟩)
               | .slice (some ⟨id, off, none⟩) _ c' =>
                 if (p + 1) = 0 then some (Value.slice a sl c, h)
                 else if c' ≠ 0 ∧ c' - 1 < sl + (p + 1) then some (.slice (some ⟨h.n, 0, none⟩) (sl + (p + 1)) 0, ⟨h.t.set h.n (some (.cells (old ++ new) e true)), h.n + 1⟩)
                 else match h.t.get id with
                   | some (.cells _ e' true) => if id ≠ h.n ∧ e' = e then some (.slice (some ⟨h.n, 0, none⟩) (sl + (p + 1)) c', ⟨(h.t.set id none).set h.n (some (.cells (old ++ new) e true)), h.n + 1⟩) else none
                   | _ => none
               | _ => none):=by
   intro old hcs hb1 hb2
   simp only [aappend, hst, hu, hsrc, if_true, hinf, hz, hzs, hcs, hcx]
   rw [if_pos ⟨hb1, hb2, hone⟩]
   rfl
 rcases adK_ok (show adK a _ (ap5 e inf.size inf.bytes h K new (Nat.add sl (Nat.succ p)) sl c) = true from hk3) with ⟨ha, hk4⟩ | ⟨id, off, ha, hk4⟩
 · subst ha
   obtain ⟨h0, hk5⟩:=iteK_false hk4
   obtain ⟨hc0, hk6⟩:=iteK_false hk5
   have h0:=Nat.eq_of_beq_eq_true h0
   have hc0:=Nat.eq_of_beq_eq_true hc0
   subst h0; subst hc0
   obtain ⟨hb1, hb2, hk7⟩:=chK_ok hk6
   rw [hap [] rfl (by rw [Nat.zero_add]; exact hb1) (by rw [Nat.zero_add]; exact hb2)]
   exact ⟨_, _, rfl, allocK_ok hk7⟩
 · subst ha
   obtain ⟨cs, e', wr, hg, hk5⟩:=cellsAt_ok hk4
   obtain ⟨hee, hk6⟩:=iteK_false (show iteK (Nat.beq e' e) _ false = true from hk5)
   have hee:=Nat.eq_of_beq_eq_true hee
   subst hee
   obtain ⟨hb1, hb2, hk7⟩:=chK_ok (show chK (Nat.add sl (Nat.succ p)) inf.bytes _ = true from hk6)
   have hcells : off + sl * inf.size ≤ cs.length → cellsOf P h inf.size (.slice (some ⟨id, off, none⟩) sl c) = some (sl, (cs.drop off).take (sl * inf.size)):=by
     intro hle
     simp only [cellsOf, hg]
     rw [if_pos ⟨hes, hle⟩]
   rcases iteK_cases hk7 with ⟨hc, hk8⟩ | ⟨hc, hk8⟩
   · have hc' : c ≠ 0 ∧ c - 1 < sl + (p + 1):=by
       rcases iteK_cases hc with ⟨_, h1⟩ | ⟨h0, h1⟩
       · cases h1
       · have h1 : c ≤ sl + (p + 1):=Nat.le_of_ble_eq_true h1
         have h2 : c ≠ 0:=Nat.ne_of_beq_eq_false h0
         exact ⟨h2, by omega⟩
     rw [subAppK_eq] at hk8
     obtain ⟨hle, hk9⟩:=subK_ok _ _ _ _ hk8
     rw [hap _ (hcells hle) hb1 hb2]
     dsimp only
     rw [if_neg (Nat.succ_ne_zero p), if_pos hc']
     exact ⟨_, _, rfl, allocK_ok hk9⟩
   · have hc' : ¬ (c ≠ 0 ∧ c - 1 < sl + (p + 1)):=by
       rintro ⟨h2, h1⟩
       have h0 : Nat.beq c 0 = false:=by
         cases h0 : Nat.beq c 0 with
         | false => rfl
         | true => exact absurd (Nat.eq_of_beq_eq_true h0) h2
       have h3 : Nat.ble c (Nat.add sl (Nat.succ p)) = true:=Nat.ble_eq_true_of_le (show c ≤ sl + (p + 1) by omega)
       rw [h0, h3] at hc
       cases hc
     obtain ⟨hwr, hk9⟩:=wrK_ok hk8
     subst hwr
     rw [hpK_eq] at hk9
     rcases iteK_cases (show iteK (Nat.beq id h.n) false (setQ h.t id none _) = true from hk9) with ⟨_, hk10⟩ | ⟨hid, hk10⟩
     · cases hk10
     rw [setQ_eq] at hk10
     have hk10 : subAppK cs new off (Nat.mul sl inf.size) _ = true:=hk10
     rw [subAppK_eq] at hk10
     obtain ⟨hle, hk11⟩:=subK_ok _ _ _ _ hk10
     rw [hap _ (hcells hle) hb1 hb2]
     dsimp only
     rw [if_neg (Nat.succ_ne_zero p), if_neg hc', hg]
     dsimp only
     rw [if_pos ⟨Nat.ne_of_beq_eq_false hid, rfl⟩]
     exact ⟨_, _, rfl, allocK_ok hk11⟩
theorem appC_ok {ts : Array TypeId} {s x : Value} {h : Hp} {K : KVH} (hk : appC P (theOps P) ts s x h K = true) : ∃ p, abuiltin P h .append ts [s, x] = some p ∧ K p.1 p.2 = true:=by
 unfold appC at hk
 split at hk
 rotate_left
 · cases hk
 rename_i st hst
 split at hk
 rotate_left
 · cases hk
 rename_i e hu hsrc
 split at hk
 rotate_left
 · cases hk
 rename_i inf z hinf hz
 split at hk
 rotate_left
 · cases hk
 rename_i hzs
 rcases apK_ok hst hu hsrc hinf hz (Nat.eq_of_beq_eq_true hzs) hk with hk | ⟨v, h', h1, h2⟩
 · exact okB_ok hk
 · exact ⟨(v, h'), h1, h2⟩
theorem svK_ok {t e : TypeId} {inf : TypeInfo} {h : Hp} {x : Value} {lo hi : Option Value} {K : KV} {fb : Bool} (hu : P.underlying t = some (.slice e)) (hinf : P.info? e = some inf) (hk : svK e inf.size h x lo hi K fb = true) : fb = true ∨ ∃ v, aslice P t h x lo hi none = some v ∧ K v = true:=by
 rcases slcE_ok hk with h1 | ⟨a, len, c, hx, h1⟩
 · exact .inl h1
 subst hx
 rcases adK_ok h1 with ⟨_, h2⟩ | ⟨id, off, ha, h2⟩
 · exact .inl h2
 subst ha
 obtain ⟨cs, e', wr, hg, h3⟩:=cellsAt_ok h2
 clear hk
 rcases iteK_cases h3 with ⟨hb, h4⟩ | ⟨_, hk⟩
 · have hb:=Nat.eq_of_beq_eq_true hb
   subst hb
   obtain ⟨l, r, hbd, hk⟩:=bdK_ok h4
   have htop : (Nat.rec (motive:=fun _ => Nat) len (fun p _ => bif Nat.ble len p then p else len) c) = (if c = 0 then len else max len (c - 1)):=by
     cases c with
     | zero => rfl
     | succ p =>
       rw [if_neg (Nat.succ_ne_zero p)]
       show (bif Nat.ble len p then p else len) = max len p
       cases hle : Nat.ble len p with
       | true => have:=Nat.le_of_ble_eq_true hle; show p = _; omega
       | false =>
         have : ¬ len ≤ p:=fun x => by rw [Nat.ble_eq_true_of_le x] at hle; cases hle
         show len = _; omega
   have hcap : (Nat.rec (motive:=fun _ => Nat) 0 (fun p _ => Nat.sub (Nat.succ p) l) c) = (if c = 0 then 0 else c - l):=by
     cases c with
     | zero => rfl
     | succ p => rfl
   rw [htop] at hbd
   unfold sv4 at hk
   rw [hcap] at hk
   refine .inr ⟨_, ?_, hk⟩
   simp only [aslice, hu, hg, hinf, hbd, if_true]
   rfl
 · exact .inl hk
theorem s0K_ok {t e : TypeId} {inf : TypeInfo} {h : Hp} {x : Value} {lo hi : Option Value} {k : IntKind} {K : KV} {fb : Bool} (hu : P.underlying t = some (.slice e)) (hinf : P.info? e = some inf) (hlo : isZero0 lo = true) (hhi : isZero hi = true) (hk : s0K x K fb = true) : fb = true ∨ ∃ v, aslice P t h x lo hi (some (.int k 0)) = some v ∧ K v = true:=by
 rcases slcE_ok hk with h1 | ⟨a, len, c, hx, h1⟩
 · exact .inl h1
 subst hx
 rcases adK_ok h1 with ⟨ha, h2⟩ | ⟨id, off, ha, h2⟩
 · subst ha
   rcases iteK_cases h2 with ⟨hl, h3⟩ | ⟨_, h3⟩
   · rcases iteK_cases h3 with ⟨hc, h4⟩ | ⟨_, h4⟩
     · have hl:=Nat.eq_of_beq_eq_true hl
       have hc:=Nat.eq_of_beq_eq_true hc
       subst hl; subst hc
       refine .inr ⟨_, ?_, h4⟩
       simp only [aslice, hu, hinf, hlo, hhi, Bool.and_self, if_true]
     · exact .inl h4
   · exact .inl h3
 · subst ha
   refine .inr ⟨_, ?_, h2⟩
   simp only [aslice, hu, hinf, hlo, hhi, Bool.and_self, if_true]
theorem zO_ok {E : Tr Value} {h : Hp} {x : Operand} {v : Value} (hz : zO x = true) (ha : aev P E h x = some v) : ∃ k, v = .int k 0:=by
 unfold zO at hz
 split at hz
 · rename_i k n
   have hn:=Nat.eq_of_beq_eq_true hz
   subst hn
   simp only [aev] at ha
   split at ha
   · cases ha; exact ⟨k, rfl⟩
   · cases ha
 · cases hz
theorem sliceC_ok {E : Tr Value} {h : Hp} {t : TypeId} {x : Value} {lo hi mx : Option Value} {lo' hi' mx' : Option Operand} {K : KV} (h1 : aevo P E h lo' = some lo) (h2 : aevo P E h hi' = some hi) (h3 : aevo P E h mx' = some mx) (hk : sliceC P (theOps P) (zOps lo' hi' mx') t h x lo hi mx K = true) : ∃ v, aslice P t h x lo hi mx = some v ∧ K v = true:=by
 unfold sliceC at hk
 split at hk
 · rename_i hz
   split at hk
   · rename_i e hu
     split at hk
     rotate_left
     · exact okB_ok hk
     rename_i inf hinf
     unfold zOps at hz
     split at hz
     · rename_i hi2 mx2
       split at hz
       · rename_i hzh
         simp only [aevo] at h1 h2 h3
         cases h1
         split at h2
         · rename_i hv hhv
           cases h2
           split at h3
           · rename_i mv hmv
             cases h3
             obtain ⟨k1, rfl⟩:=zO_ok hzh hhv
             obtain ⟨k2, rfl⟩:=zO_ok hz hmv
             have hk' : s0K x K (sliceG P t h x none (some (.int k1 0)) (some (.int k2 0)) K) = true:=hk
             rcases s0K_ok (lo:=none) (hi:=some (.int k1 0)) (k:=k2) hu hinf rfl rfl hk' with h4 | h4
             · exact okB_ok h4
             · exact h4
           · cases h3
         · cases h2
       · cases hz
     · cases hz
   · exact okB_ok hk
 · split at hk
   · rename_i hu
     refine sliceK_ok ?_
     unfold sliceK
     rw [hu]
     exact hk
   · rename_i e hu
     split at hk
     · rename_i inf hinf
       rcases svK_ok hu hinf hk with hk | hk
       · exact okB_ok hk
       · exact hk
     · cases hk
   · exact okB_ok hk
theorem fold_over (off : Nat) : ∀ (vs : List Value) (k : Nat) (cells : Array Value), off + k + vs.length ≤ cells.size → ((vs.zipIdx k).foldl (fun cs (x : Value × Nat) => cs.setIfInBounds (off + x.2) x.1) cells).toList = over cells.toList (off + k) vs
 | [], k, cells, h => by simp [over]
 | v :: vs, k, cells, h => by
   have hl : off + k + 1 + vs.length ≤ cells.size:=by simp at h; omega
   rw [List.zipIdx_cons, List.foldl_cons, fold_over off vs (k + 1) _ (by simp; omega), Array.toList_setIfInBounds]
   apply List.ext_getElem?
   intro j
   rw [over_get _ _ _ (by simp; omega), over_get _ _ _ (by simp; omega), List.getElem?_set]
   simp only [List.length_cons, Array.length_toList]
   by_cases h1 : j = off + k
   · subst h1
     rw [if_neg (by omega), if_pos rfl, if_pos (by omega), if_pos (by omega), Nat.sub_self]
     rfl
   · by_cases h2 : off + k + 1 ≤ j ∧ j < off + k + 1 + vs.length
     · rw [if_pos (by omega), if_pos (by omega)]
       have : j - (off + k) = (j - (off + (k + 1))) + 1:=by omega
       rw [this, List.getElem?_cons_succ]
     · rw [if_neg (by omega), if_neg (by omega), if_neg (by omega)]
theorem fillC_ok {place : Nat → Option (Nat × Nat)} : ∀ {vs : List (Nat × Value)} {zs : List Value} {K : List Value → Bool}, fillC (theOps P) place vs zs K = true → ∃ cs : List Value, Instr.fill place zs.toArray vs = some cs.toArray ∧ K cs = true ∧ cs.length = zs.length
 | [], zs, K, hk => ⟨zs, rfl, hk, rfl⟩
 | (i, v) :: r, zs, K, hk => by
   unfold fillC at hk
   split at hk
   rotate_left
   · cases hk
   rename_i q hq
   obtain ⟨off, size⟩:=q
   split at hk
   rotate_left
   · cases hk
   rename_i hb
   rw [lenL_eq] at hb
   have hb : off + size ≤ zs.length:=Nat.le_of_ble_eq_true hb
   have step : ∀ cs : List Value, v.cells.toList = cs → cs.length = size → ∀ out, Instr.fill place (over zs off cs).toArray r = some out → Instr.fill place zs.toArray ((i, v) :: r) = some out:=by
     intro cs hc hl out ho
     have hsz : v.cells.size = size:=by rw [← hl, ← hc]; simp
     have hq' : place i = some (off, size):=hq
     have hfold : (v.cells.zipIdx.foldl (fun cs (x : Value × Nat) => cs.setIfInBounds (off + x.2) x.1) zs.toArray) = (over zs off cs).toArray:=by
       apply Array.toList_inj.1
       have e1 : (v.cells.zipIdx.foldl (fun cs (x : Value × Nat) => cs.setIfInBounds (off + x.2) x.1) zs.toArray) = ((v.cells.toList.zipIdx 0).foldl (fun cs (x : Value × Nat) => cs.setIfInBounds (off + x.2) x.1) zs.toArray):=by
         rw [← Array.foldl_toList, Array.toList_zipIdx]
       rw [e1, fold_over off _ 0 _ (by simp; omega), hc]
       simp
     unfold Instr.fill
     rw [hq']
     dsimp only
     rw [if_neg (by simp [hsz]; omega)]
     refine Eq.trans ?_ ho
     exact congrArg (fun a => Instr.fill place a r) hfold
   split at hk
   · rename_i h1
     have h1 : size = 1:=Nat.eq_of_beq_eq_true h1
     obtain ⟨hc, _, hk⟩:=oneK_ok hk
     rw [overQ_eq] at hk
     obtain ⟨cs, hf, hk, hl⟩:=fillC_ok hk
     refine ⟨cs, step [v] (by rw [hc]) (by simp [h1]) _ hf, hk, by rw [hl, over_length _ _ _ (by simp; omega)]⟩
   · obtain ⟨c, hc, hk1⟩:=ungK_ok hk
     have hc : v = .agg c:=hc
     split at hk1
     · rename_i hl1
       rw [lenL_eq] at hl1
       have hl1 : c.toList.length = size:=Nat.eq_of_beq_eq_true hl1
       rw [overQ_eq] at hk1
       obtain ⟨cs, hf, hk2, hl⟩:=fillC_ok hk1
       refine ⟨cs, step c.toList (by rw [hc]; rfl) hl1 _ hf, hk2, by rw [hl, over_length _ _ _ (by omega)]⟩
     · cases hk1
theorem buildC_ok {t : TypeId} {vs : List (Nat × Value)} {K : KV} (hk : buildC P (theOps P) t vs K = true) : ∃ v, abuild P t vs = some v ∧ K v = true:=by
 unfold buildC at hk
 split at hk
 · rename_i z fields hz hu
   split at hk
   · rename_i hall
     obtain ⟨cs, hf, hk, _⟩:=fillC_ok hk
     refine ⟨_, ?_, hk⟩
     simp only [abuild, hz, hu, hall, if_true]
     have hf' : Instr.fill (places P fields) z.cells vs = some cs.toArray:=hf
     rw [hf']
   · cases hk
 · rename_i z n e hz hu
   split at hk
   · rename_i inf hinf
     obtain ⟨cs, hf, hk, _⟩:=fillC_ok hk
     refine ⟨_, ?_, hk⟩
     simp only [abuild, hz, hu, hinf]
     have hf' : Instr.fill (fun i => some (i * inf.size, inf.size)) z.cells vs = some cs.toArray:=hf
     rw [hf']
   · cases hk
 · cases hk
theorem bslC_ok {t : TypeId} {n : Nat} {vs : List (Nat × Value)} {h : Hp} {K : KVH} (hk : bslC P (theOps P) t n vs h K = true) : ∃ p, abuildSlice P t n vs h = some p ∧ K p.1 p.2 = true:=by
 unfold bslC at hk
 split at hk
 rotate_left
 · cases hk
 rename_i e hu
 split at hk
 rotate_left
 · cases hk
 rename_i inf z hinf hz
 split at hk
 rotate_left
 · cases hk
 rename_i hb hl h1
 rw [lenL_eq] at hl
 have hl : z.cells.size = inf.size:=by have:=Nat.eq_of_beq_eq_true hl; simpa using this
 have hb : n * inf.size ≤ 16777216:=Nat.le_of_ble_eq_true hb
 have h1 : 1 ≤ inf.size:=Nat.le_of_ble_eq_true h1
 obtain ⟨cs, hf, hk, hlen⟩:=fillC_ok hk
 have hk' : K (.slice (some ⟨h.n, 0, none⟩) n (n + 1)) ⟨h.t.set h.n (some (.cells cs e true)), h.n + 1⟩ = true:=allocK_ok (show allocK e cs h (fun m h' => K (.slice (some ⟨m, 0, none⟩) n (Nat.succ n)) h') = true from hk)
 refine ⟨(_, _), ?_, hk'⟩
 have hzr : zeros z.cells (n * inf.size) = (repL z.cells.toList n).toArray:=by
   apply Array.toList_inj.1
   rw [← hl]
   exact zeros_list z.cells n (by omega)
 simp only [abuildSlice, hu, hinf, hz]
 rw [if_pos ⟨hb, by omega⟩, hzr, hf]
 dsimp only
 rw [if_pos (by rw [List.size_toArray, hlen, repL_len]; simp [hl])]
theorem mkmK_ok {h : Hp} {K : KVH} (hk : mkmK h K = true) : K (.map (some h.n)) ⟨h.t.set h.n (some (.map [] 0 true)), h.n + 1⟩ = true:=by
 unfold mkmK at hk
 cases hn : h.n with
 | zero => rw [hn] at hk; cases hk
 | succ p =>
   rw [hn] at hk
   dsimp only at hk
   rw [setQ_eq] at hk
   exact hk
theorem mpK_ok {o : Option AObj} {K : List MapEntry → Nat → Bool → Bool} {fb : Bool} (h : mpK o K fb = true) : fb = true ∨ ∃ es c wr, o = some (.map es c wr) ∧ K es c wr = true:=by
 cases o with
 | none => exact .inl h
 | some o => cases o with
   | cells _ _ _ => exact .inl h
   | map es c wr => exact .inr ⟨es, c, wr, rfl, h⟩
   | table _ => exact .inl h
theorem lookC_ok {t : TypeId} {h : Hp} {m k : Value} {ok : Bool} {K : KV} (hk : lookC P (theOps P) t h m k ok K = true) : ∃ v, alookup P t h m k ok = some v ∧ K v = true:=by
 unfold lookC at hk
 split at hk
 rotate_left
 · exact okB_ok hk
 rename_i kt et hu
 split at hk
 rotate_left
 · exact okB_ok hk
 rename_i z hku hz
 have hk0 : lksK z ok h m k K (lookG P t h m k ok K) = true:=hk
 clear hk
 rcases strE_ok hk0 with h1 | ⟨s, hs, h1⟩
 · exact okB_ok h1
 subst hs
 have fin : ∀ (es : List MapEntry) (r : Option Nat) (v : Value), tableAt h m = none → entries h m = some es → idxNow .string (.string s) es 0 = some r → (match r with | some i => ∃ e, es[i]? = some e ∧ v = (if ok then .tuple #[e.val, .bool true] else e.val) | none => v = (if ok then .tuple #[z, .bool false] else z)) → alookup P t h m (.string s) ok = some v:=by
   intro es r v ht he hi hv
   unfold alookup alookupM
   rw [ht]
   simp only [hu, he, hku, keyOk, aidx, hi, if_true]
   cases r with
   | none => simp only [hz]; rw [hv]
   | some i =>
     obtain ⟨e, h2, h3⟩:=hv
     simp only [h2]
     rw [h3]
 rcases mapE_ok h1 with h2 | ⟨r, hr, h2⟩
 · exact okB_ok h2
 subst hr
 cases r with
 | none =>
   refine ⟨_, fin [] none _ rfl rfl rfl rfl, ?_⟩
   cases ok <;> exact h2
 | some id =>
   rcases mpK_ok h2 with h3 | ⟨es, c, wr, hg, h3⟩
   · exact okB_ok h3
   rw [getQ_eq] at hg
   have ht : tableAt h (.map (some id)) = none:=by simp only [tableAt, hg]
   have he : entries h (.map (some id)) = some es:=by simp only [entries, hg]
   rcases findK_ok 0 h3 with h4 | ⟨i, e, h4, h5, h6⟩ | ⟨h4, h5⟩
   · exact okB_ok h4
   · rw [Nat.zero_add] at h4
     refine ⟨_, fin es (some i) _ ht he h4 ⟨e, h5, rfl⟩, ?_⟩
     cases ok <;> exact h6
   · refine ⟨_, fin es none _ ht he h4 rfl, ?_⟩
     cases ok <;> exact h5
theorem updC_ok {t : TypeId} {h : Hp} {m k v : Value} {K : KVH} (hk : updC P (theOps P) t h m k v K = true) : ∃ h', amapUpdate P t h m k v = some h' ∧ K undef h' = true:=by
 unfold updC at hk
 split at hk
 rotate_left
 · exact okB_ok hk
 rename_i kt et hu
 split at hk
 rotate_left
 · exact okB_ok hk
 rename_i hku
 have hk0 : upsK h m k v K (updG P t h m k v K) = true:=hk
 clear hk
 rcases strE_ok hk0 with h1 | ⟨s, hs, h1⟩
 · exact okB_ok h1
 subst hs
 rcases mapE_ok h1 with h2 | ⟨r, hr, h2⟩
 · exact okB_ok h2
 subst hr
 cases r with
 | none => exact okB_ok h2
 | some id =>
   have h2 : (hpK h fun t n => mpK (getQ t id) _ _) = true:=h2
   rw [hpK_eq] at h2
   rcases mpK_ok h2 with h3 | ⟨es, c, wr, hg, h3⟩
   · exact okB_ok h3
   rw [getQ_eq] at hg
   cases wr with
   | false => exact okB_ok h3
   | true =>
     rcases findK_ok 0 h3 with h4 | ⟨i, e, _, _, h6⟩ | ⟨h4, h5⟩
     · exact okB_ok h4
     · exact okB_ok h6
     · rw [appK_eq, setQ_eq] at h5
       refine ⟨_, ?_, h5⟩
       simp only [amapUpdate, hu, hg, hku, keyOk, apos, aidx, h4, if_true]
theorem compCall_ok {C : Callees} (hC : COk P G C) {E ET : Tr Value} {h : Hp} {c : Call} {K : KVH} (hs : SubE E ET) (hk : compCall P (theOps P) C E h c K = true) : ∃ v h', OpTo P G ET h (.call c) v h' ∧ K v h' = true:=by
 unfold compCall at hk
 split at hk
 · rename_i hc
   split at hk
   · rename_i x t ha ht
     obtain ⟨v, hv, hk⟩:=evK_ok hs hk
     obtain ⟨r, hr, hk⟩:=lenC_ok hk
     refine ⟨r, h, .inl ?_, hk⟩
     simp only [aop, opCall, hc, ha, aevs, hv, abuiltin, ht, hr, rvh]
   · cases hk
 · rename_i hc
   split at hk
   · rename_i s x ha
     obtain ⟨sv, hs1, hk⟩:=evK_ok hs hk
     obtain ⟨xv, hx1, hk⟩:=evK_ok hs hk
     obtain ⟨p, hp, hk⟩:=appC_ok hk
     refine ⟨p.1, p.2, .inl ?_, hk⟩
     simp only [aop, opCall, hc, ha, aevs, hs1, hx1, hp, rvh]
   · cases hk
 · rename_i b hne1 hne2 hc
   obtain ⟨vs, hvs, hk⟩:=evsK_ok hs hk
   obtain ⟨p, hp, hk⟩:=okB_ok hk
   refine ⟨p.1, p.2, .inl ?_, hk⟩
   simp only [aop, opCall, hc, hvs, hp, rvh]
 · rename_i g hc
   split at hk
   · rename_i he
     obtain ⟨vs, hvs, hk⟩:=evsK_ok hs hk
     obtain ⟨v, h', hcall, hk⟩:=hC _ _ _ _ _ hk
     refine ⟨v, h', .inr ⟨g, #[] ++ vs.toArray ++ #[], ?_, ?_⟩, hk⟩
     · simp only [aop, opCall, hc, aev, with1, he, if_true, hvs]
     · simpa using hcall
   · cases hk
 · rename_i f hne hc
   obtain ⟨fv, hf, hk⟩:=evK_ok hs hk
   obtain ⟨vs, hvs, hk⟩:=evsK_ok hs hk
   have hk' : dynG P C fv vs h K = true:=hk
   cases fv with
   | func fn first cap =>
     cases fn with
     | method _ => cases hk'
     | methodOf _ _ => cases hk'
     | via _ _ _ _ => cases hk'
     | yield _ => cases hk'
     | func g =>
     dsimp only [dynG] at hk'
     cases he : enterOk P g with
     | true =>
       rw [he] at hk'
       obtain ⟨v, h', hcall, hk⟩:=hC _ _ _ _ _ hk'
       refine ⟨v, h', .inr ⟨g, first ++ vs.toArray ++ cap, ?_, ?_⟩, hk⟩
       · simp only [aop, opCall, hc, hf, with1, he, if_true, hvs]
       · rw [appL_eq, appL_eq] at hcall
         simpa using hcall
     | false => rw [he] at hk'; cases hk'
   | _ => cases hk'
 · cases hk
theorem compOp_ok {C : Callees} (hC : COk P G C) {E ET : Tr Value} {h : Hp} {op : Op} {K : KVH} (hs : SubE E ET) (hk : compOp P (theOps P) C E h op K = true) : ∃ v h', OpTo P G ET h op v h' ∧ K v h' = true:=by
 unfold compOp at hk
 split at hk
 · obtain ⟨v, hv, hk⟩:=evK_ok hs hk
   exact ⟨v, h, .inl (by simp only [aop, opMove, hv, rv]), hk⟩
 · obtain ⟨v, hv, hk⟩:=evK_ok hs hk
   exact ⟨v, h, .inl (by simp only [aop, opAssign, hv, rv]), hk⟩
 · obtain ⟨c, hc, hk⟩:=evK_ok hs hk
   obtain ⟨a, ha, hk⟩:=evK_ok hs hk
   obtain ⟨b, hb, hk⟩:=evK_ok hs hk
   have hk' : pickK c a b (fun v => K v h) = true:=hk
   rcases pickK_ok hk' with ⟨e, hk2⟩ | ⟨e, hk2⟩
   · subst e; exact ⟨a, h, .inl (by simp only [aop, opPick, hc, with1, ha, rv]), hk2⟩
   · subst e; exact ⟨b, h, .inl (by simp only [aop, opPick, hc, with1, hb, rv]), hk2⟩
 · obtain ⟨z, p, h', hz, hp, hk⟩:=newC_ok hk
   exact ⟨p, h', .inl (by simp only [aop, opAlloc, hz, with1, hp, rvh]), hk⟩
 · obtain ⟨v, hv, hk⟩:=evK_ok hs hk
   obtain ⟨p, h', hp, hk⟩:=boxC_ok hk
   exact ⟨p, h', .inl (by simp only [aop, opBox, hv, with1, hp, rvh]), hk⟩
 · obtain ⟨vs, hvs, hk⟩:=evpK_ok hs hk
   obtain ⟨v, hv, hk⟩:=buildC_ok hk
   exact ⟨v, h, .inl (by simp only [aop, opBuild, hvs, hv, rv]), hk⟩
 · obtain ⟨vs, hvs, hk⟩:=evpK_ok hs hk
   obtain ⟨p, hp, hk⟩:=bslC_ok hk
   exact ⟨p.1, p.2, .inl (by simp only [aop, opBuildslice, hvs, hp, rvh]), hk⟩
 · obtain ⟨p, hp, hk⟩:=evK_ok hs hk
   obtain ⟨v, hv, hk⟩:=loadC_ok hk
   exact ⟨v, h, .inl (by simp only [aop, opLoad, hp, with1, hv, rv]), hk⟩
 · obtain ⟨p, hp, hk⟩:=evK_ok hs hk
   obtain ⟨v, hv, hk⟩:=evK_ok hs hk
   obtain ⟨h', hst, hk⟩:=storeC_ok hk
   exact ⟨undef, h', .inl (by simp only [aop, opStore, hp, hv, with1, hst, rh]), hk⟩
 · obtain ⟨v, hv, hk⟩:=evK_ok hs hk
   obtain ⟨hn, hk'⟩:=nilK_ok (show nilK v (K v h) = true from hk)
   exact ⟨v, h, .inl (by simp only [aop, opNilcheck, hv, with1, hn, if_true, rv]), hk'⟩
 · obtain ⟨a, ha, hk⟩:=evK_ok hs hk
   obtain ⟨b, hb, hk⟩:=evK_ok hs hk
   obtain ⟨v, hv, hk⟩:=binC_ok hk
   exact ⟨v, h, .inl (by simp only [aop, opBinop, ha, hb, with1, hv, rv]), hk⟩
 · obtain ⟨a, ha, hk⟩:=evK_ok hs hk
   obtain ⟨r, hr, hk⟩:=unC_ok hk
   refine ⟨r, h, .inl ?_, hk⟩
   simp only [aop, opUnop, ha, with1]
   split at hr
   · rename_i hsc
     rw [if_pos hsc]
     obtain ⟨u, hu, hr⟩:=with1_some hr
     rw [hu]
     split at hr
     · rename_i hfl
       cases hr
       simp only [with1, hfl, if_true, rv]
     · cases hr
   · cases hr
 · obtain ⟨a, ha, hk⟩:=evK_ok hs hk
   obtain ⟨r, h', hr, hk⟩:=convC_ok hk
   exact ⟨r, h', .inl (by simp only [aop, opConvert, ha, with1, hr, rvh]), hk⟩
 · obtain ⟨v, hv, hk⟩:=evK_ok hs hk
   unfold mkiC at hk
   split at hk
   · cases hk
   · rename_i d hd hne
     refine ⟨_, h, .inl ?_, hk⟩
     simp only [aop, opMakeinterface, hv, with1, hne]
     rfl
   · cases hk
 · obtain ⟨vs, hvs, hk⟩:=evsK_ok hs hk
   obtain ⟨cs, hcs, hk⟩:=evsK_ok hs hk
   exact ⟨_, h, .inl (by simp only [aop, opMakefunc, hvs, hcs, rv]), hk⟩
 · exact ⟨_, _, .inl rfl, mkmK_ok hk⟩
 · obtain ⟨x, hx, hk⟩:=evK_ok hs hk
   obtain ⟨y, hy, hk⟩:=evK_ok hs hk
   obtain ⟨p, hp, hk⟩:=okB_ok hk
   exact ⟨p.1, p.2, .inl (by simp only [aop, opMakeslice, hx, hy, with1, hp, rvh]), hk⟩
 · obtain ⟨x, hx, hk⟩:=evK_ok hs hk
   obtain ⟨a, ha, hk⟩:=evoK_ok hs hk
   obtain ⟨b, hb, hk⟩:=evoK_ok hs hk
   obtain ⟨c, hc, hk⟩:=evoK_ok hs hk
   obtain ⟨v, hv, hk⟩:=sliceC_ok ha hb hc hk
   exact ⟨v, h, .inl (by simp only [aop, opSlice, hx, with1, ha, hb, hc, hv, rv]), hk⟩
 · obtain ⟨x, hx, hk⟩:=evK_ok hs hk
   obtain ⟨v, hv, hk⟩:=faC_ok hk
   exact ⟨v, h, .inl (by simp only [aop, opFieldaddr, hx, with1, hv, rv]), hk⟩
 · obtain ⟨x, hx, hk⟩:=evK_ok hs hk
   obtain ⟨v, hv, hk⟩:=fieldC_ok hk
   exact ⟨v, h, .inl (by simp only [aop, opField, hx, with1, hv, rv]), hk⟩
 · obtain ⟨x, hx, hk⟩:=evK_ok hs hk
   obtain ⟨i, hi, hk⟩:=evK_ok hs hk
   obtain ⟨v, hv, hk⟩:=iaC_ok hk
   exact ⟨v, h, .inl (by simp only [aop, opIndexaddr, hx, hi, with1, hv, rv]), hk⟩
 · obtain ⟨x, hx, hk⟩:=evK_ok hs hk
   obtain ⟨i, hi, hk⟩:=evK_ok hs hk
   obtain ⟨v, hv, hk⟩:=ixC_ok hk
   exact ⟨v, h, .inl (by simp only [aop, opIndex, hx, hi, with1, hv, rv]), hk⟩
 · obtain ⟨x, hx, hk⟩:=evK_ok hs hk
   obtain ⟨i, hi, hk⟩:=evK_ok hs hk
   obtain ⟨v, hv, hk⟩:=lookC_ok hk
   exact ⟨v, h, .inl (by simp only [aop, opLookup, hx, hi, with1, hv, rv]), hk⟩
 · obtain ⟨m, hm, hk⟩:=evK_ok hs hk
   obtain ⟨x, hx, hk⟩:=evK_ok hs hk
   obtain ⟨v, hv, hk⟩:=evK_ok hs hk
   obtain ⟨h', hh, hk⟩:=updC_ok hk
   exact ⟨undef, h', .inl (by simp only [aop, opMapupdate, hm, hx, hv, with1, hh, rh]), hk⟩
 · obtain ⟨m, hm, hk⟩:=evK_ok hs hk
   obtain ⟨x, hx, hk⟩:=evK_ok hs hk
   obtain ⟨v, hv, hk⟩:=evK_ok hs hk
   obtain ⟨h', hh, hk⟩:=updC_ok hk
   exact ⟨undef, h', .inl (by simp only [aop, opInsert, hm, hx, hv, with1, hh, rh]), hk⟩
 · obtain ⟨m, hm, hk⟩:=evK_ok hs hk
   obtain ⟨x, hx, hk⟩:=evK_ok hs hk
   obtain ⟨p, hp, hk⟩:=okB_ok hk
   exact ⟨p.1, p.2, .inl (by simp only [aop, opMapentry, hm, hx, with1, hp, rvh]), hk⟩
 · obtain ⟨m, hm, hk⟩:=evK_ok hs hk
   obtain ⟨x, hx, hk⟩:=evK_ok hs hk
   obtain ⟨v, hv, hk⟩:=evK_ok hs hk
   obtain ⟨h', hh, hk⟩:=okB_ok hk
   exact ⟨undef, h', .inl (by simp only [aop, opEntrystore, hm, hx, hv, with1, hh, rh]), hk⟩
 · rename_i x i
   obtain ⟨v, hv, hk⟩:=evK_ok hs hk
   have hk' : exK i v (fun v => K v h) = true:=hk
   obtain ⟨vs, hx, h1⟩:=tupV_ok hk'
   subst hx
   have hk2 : nthK vs.toList i (fun v => K v h) = true:=h1
   rw [nthK_eq] at hk2
   obtain ⟨r, hr, hk⟩:=okB_ok hk2
   rw [nthL_eq, Array.getElem?_toList] at hr
   exact ⟨r, h, .inl (by simp only [aop, opExtract, hv, with1, hr, rv]), hk⟩
 · exact compCall_ok hC hs hk
 · cases hk
end
end Go.Proofs.YtacknhbgfijkcaaGreatDoor.Abs
end
section
/- The quick engine, part 5: operations in a row, code, functions. -/
namespace Go.Proofs.YtacknhbgfijkcaaGreatDoor.Abs
open Go Go.RowKit
section
variable {P : Program} {G : GivenT}
theorem putC_ok {lim : Nat} {E ET : Tr Value} {d : Option Tmp} {v : Value} {K : SE → Bool} (hs : SubE E ET) (hk : putC lim E d v K = true) : ∃ E' ET', aput lim ET d v = some ET' ∧ SubE E' ET' ∧ K E' = true ∧ (∀ t, d ≠ some t → ET'.get t = ET.get t) ∧ (E' = E ∨ ∃ t, d = some t ∧ E' = E.set t (some v)):=by
 unfold putC at hk
 split at hk
 · rename_i t
   split at hk
   · rename_i hb
     have hb:=Nat.le_of_ble_eq_true hb
     rw [Tr.setK_eq] at hk
     refine ⟨_, ET.set t (some v), ?_, hs.set t v, hk, fun u hu => Tr.get_set_ne _ _ _ _ (fun e => hu (by rw [e])), .inr ⟨t, rfl, rfl⟩⟩
     simp only [aput]
     rw [if_pos (show t < lim from hb)]
   · cases hk
 · exact ⟨E, ET, rfl, hs, hk, fun _ _ => rfl, .inl rfl⟩
theorem getsK_ok {E : Tr Value} : ∀ {js : List Nat} {K : List Value → Bool}, getsK E js K = true → ∃ vs, vs.length = js.length ∧ (∀ (i t : Nat) (v : Value), js[i]? = some t → vs[i]? = some v → E.get t = some v) ∧ K vs = true
 | [], K, hk => ⟨[], rfl, fun i t v h => by simp at h, hk⟩
 | t :: r, K, hk => by
   obtain ⟨v, hv, hk⟩:=okB_ok hk
   obtain ⟨vs, hl, hg, hk⟩:=getsK_ok hk
   refine ⟨v :: vs, by simp [hl], fun i u w h1 h2 => ?_, hk⟩
   cases i with
   | zero =>
     simp at h1 h2
     subst h1; subst h2
     exact hv
   | succ i =>
     rw [List.getElem?_cons_succ] at h1 h2
     exact hg i u w h1 h2
theorem delK_ok {E : Tr Value} : ∀ {ts : List Nat} {K : SE → Bool}, delK E ts K = true → ∃ E', K E' = true ∧ ∀ t, E'.get t = if t ∈ ts then none else E.get t
 | [], K, hk => ⟨E, hk, fun t => by simp⟩
 | t :: r, K, hk => by
   obtain ⟨E', hk, hg⟩:=delK_ok (ts:=r) (K:=fun E' => E'.setK t none K) hk
   rw [Tr.setK_eq] at hk
   refine ⟨_, hk, fun u => ?_⟩
   rw [Tr.get_set]
   by_cases h : u = t
   · rw [if_pos h, if_pos (by simp [h])]
   · rw [if_neg h, hg u]
     by_cases h2 : u ∈ r
     · rw [if_pos h2, if_pos (by simp [h2])]
     · rw [if_neg h2, if_neg (by simp [h, h2])]
theorem setsK_ok {E : Tr Value} : ∀ {js : List Nat} {vs : List Value} {K : SE → Bool}, setsK E js vs K = true → ∃ E', K E' = true ∧ ∀ t v, E'.get t = some v → (∃ i : Nat, js[i]? = some t ∧ vs[i]? = some v) ∨ E.get t = some v
 | [], vs, K, hk => ⟨E, hk, fun t v h => .inr h⟩
 | t :: r, [], K, hk => by cases hk
 | t :: r, v :: vs, K, hk => by
   obtain ⟨E', hk, hg⟩:=setsK_ok (js:=r) (vs:=vs) (K:=fun E' => E'.setK t (some v) K) hk
   rw [Tr.setK_eq] at hk
   refine ⟨_, hk, fun u w hu => ?_⟩
   rw [Tr.get_set] at hu
   split at hu
   · rename_i e
     cases hu
     exact .inl ⟨0, by simp [e], rfl⟩
   · rcases hg u w hu with ⟨i, h1, h2⟩ | h1
     · exact .inl ⟨i + 1, h1, h2⟩
     · exact .inr h1
theorem rebind_ok {E ET ET' : Tr Value} {asg js : List Nat} {vs : List Value} {K : SE → Bool} (hs : SubE E ET) (hf : ∀ t, t ∉ asg → ET'.get t = ET.get t) (hs' : ∀ (i t : Nat) (v : Value), js[i]? = some t → vs[i]? = some v → ET'.get t = some v)
   (hk : (delK E asg fun E1 => setsK E1 js vs K) = true) : ∃ E2, SubE E2 ET' ∧ K E2 = true:=by
 obtain ⟨E1, hk, h1⟩:=delK_ok hk
 obtain ⟨E2, hk, h2⟩:=setsK_ok hk
 refine ⟨E2, fun t v hv => ?_, hk⟩
 rcases h2 t v hv with ⟨i, a, b⟩ | h
 · exact hs' i t v a b
 · rw [h1] at h
   split at h
   · cases h
   · rename_i hn
     rw [hf t hn]
     exact hs t v h
theorem aput_get {lim : Nat} {E E' : Tr Value} {d : Option Tmp} {v : Value} (h : aput lim E d v = some E') (t : Nat) (ht : d ≠ some t) : E'.get t = E.get t:=by
 unfold aput at h
 split at h
 · rename_i u
   split at h
   · cases h
     exact Tr.get_set_ne _ _ _ _ (fun e => ht (by rw [e]))
   · cases h
 · cases h; rfl
theorem asgO_dst : ∀ {os : List Oper} {t : Nat}, t ∉ asgO os → ∀ o ∈ os, o.dst ≠ some t
 | [], t, h, o, ho => by simp at ho
 | x :: r, t, h, o, ho => by
   unfold asgO at h
   rcases List.mem_cons.1 ho with rfl | ho
   · intro e
     rw [e] at h
     simp at h
   · refine asgO_dst (os:=r) ?_ o ho
     intro hm
     apply h
     split
     · exact List.mem_cons_of_mem _ hm
     · exact hm
theorem aops_frame {cf : CallF} {lim : Nat} {ops : Array Oper} : ∀ {os : List Oper} {s s' : ASt} {e : AExit}, aops P cf lim ops os s = some (e, s') → ∀ t, t ∉ asgO os → s'.E.get t = s.E.get t
 | [], s, s', e, h, t, ht => by cases h; rfl
 | o :: os, s, s', e, h, t, ht => by
   have hd:=asgO_dst ht o List.mem_cons_self
   have hr : t ∉ asgO os:=by
     intro hm
     apply ht
     unfold asgO
     split
     · exact List.mem_cons_of_mem _ hm
     · exact hm
   unfold aops at h
   split at h
   · split at h
     · split at h
       · rename_i E hE
         rw [aops_frame h t hr]
         exact aput_get hE t hd
       · cases h
     · split at h
       · split at h
         · rename_i E hE
           rw [aops_frame h t hr]
           exact aput_get hE t hd
         · cases h
       · cases h; rfl
       · cases h
     · cases h; rfl
     · cases h
   · split at h
     · rename_i E hE
       rw [aops_frame h t hr]
       exact aput_get hE t hd
     · cases h
theorem asgO_get {os : List Oper} {i : Nat} {o : Oper} {t : Nat} (h : os[i]? = some o) (hd : o.dst = some t) : t ∈ asgO os:=by
 apply Classical.byContradiction
 intro hn
 exact asgO_dst hn o (List.mem_of_getElem? h) hd
theorem drawGo_frame {cf : CallF} {lim : Nat} {ops : Array Oper} {B : List Nat} : ∀ {σ : List Nat} {E : Tr Value} {h : Hp} {l : List Pend} {e : AExit} {s' : ASt}, drawGo P cf lim ops B σ E h l = some (e, s') → ∀ t, t ∉ asgO ops.toList → s'.E.get t = E.get t
 | [], E, h, l, e, s', hd, t, ht => by
   unfold drawGo at hd
   split at hd
   · cases hd; rfl
   · cases hd
 | i :: σ, E, h, l, e, s', hd, t, ht => by
   unfold drawGo at hd
   split at hd
   · cases hd
   rename_i o ho
   have hne : o.dst ≠ some t:=fun hdst => ht (asgO_get (by rw [Array.getElem?_toList]; exact ho) hdst)
   split at hd
   · split at hd
     rotate_left
     · cases hd
     split at hd
     rotate_left
     · cases hd
     split at hd
     rotate_left
     · cases hd
     rename_i E1 hput
     rw [drawGo_frame hd t ht]
     exact aput_get hput t hne
   · split at hd
     rotate_left
     · cases hd
     split at hd
     rotate_left
     · cases hd
     rename_i E1 hput
     rw [drawGo_frame hd t ht]
     exact aput_get hput t hne
theorem exec_frame : ∀ (k lim : Nat) (c : Code) (s s' : ASt) (e : AExit), exec P G k lim c s = some (e, s') → ∀ t, t ∉ asgL c → s'.E.get t = s.E.get t
 | 0, lim, c, s, s', e, h, t, ht => by cases h
 | k + 1, lim, c, s, s', e, h, t, ht => by
   cases c with
   | skip => cases h; rfl
   | label l => cases h; rfl
   | exit id => cases h; rfl
   | ret => cases h; rfl
   | region id ops d =>
     cases d with
     | false => exact aops_frame (show aops P (callBy P G (exec P G k)) lim ops ops.toList s = some (e, s') from h) t ht
     | true =>
       have h' : adraw P (callBy P G (exec P G k)) lim ops s = some (e, s'):=h
       unfold adraw at h'
       dsimp only at h'
       split at h'
       · exact drawGo_frame h' t ht
       · cases h'
   | seq a b =>
     have h' : (match exec P G k lim a s with | some (.normal, s') => exec P G k lim b s' | r => r) = some (e, s'):=h
     simp only [asgL, List.mem_append, not_or] at ht
     split at h'
     · rename_i s1 hx
       rw [exec_frame k lim b s1 s' e h' t ht.2]
       exact exec_frame k lim a s s1 _ hx t ht.1
     · exact exec_frame k lim a s s' e h' t ht.1
   | cond c a b =>
     have h' : (match aev P s.E s.h c with | some (.bool true) => exec P G k lim a s | some (.bool false) => exec P G k lim b s | _ => none) = some (e, s'):=h
     simp only [asgL, List.mem_append, not_or] at ht
     split at h'
     · exact exec_frame k lim a s s' e h' t ht.1
     · exact exec_frame k lim b s s' e h' t ht.2
     · cases h'
   | block id b =>
     have h' : (match exec P G k lim b s with | some (.exit id', s') => if id' = id then some (.normal, s') else some (.exit id', s') | r => r) = some (e, s'):=h
     split at h'
     · rename_i id' s1 hb
       have:=exec_frame k lim b s s1 _ hb t ht
       split at h'
       · cases h'; exact this
       · cases h'; exact this
     · exact exec_frame k lim b s s' e h' t ht
   | loop b =>
     have h' : (match exec P G k lim b s with | some (.normal, s') => exec P G k lim (.loop b) s' | r => r) = some (e, s'):=h
     split at h'
     · rename_i s1 hx
       rw [exec_frame k lim (.loop b) s1 s' e h' t ht]
       exact exec_frame k lim b s s1 _ hx t ht
     · exact exec_frame k lim b s s' e h' t ht
   | _ => cases h
theorem Runs.frame {lim : Nat} {c : Code} {s s' : ASt} {e : AExit} (h : Runs P G lim c s e s') (t : Nat) (ht : t ∉ asgL c) : s'.E.get t = s.E.get t:=by
 obtain ⟨k0, hk⟩:=h
 exact exec_frame k0 lim c s s' e (hk k0 (Nat.le_refl _)) t ht
theorem RunsOps.frame {lim : Nat} {ops : Array Oper} {os : List Oper} {s s' : ASt} (h : RunsOps P G lim ops os s s') (t : Nat) (ht : t ∉ asgO os) : s'.E.get t = s.E.get t:=by
 obtain ⟨k0, hk⟩:=h
 exact aops_frame (hk k0 (Nat.le_refl _)) t ht
theorem RunsOps.cons {lim : Nat} {ops : Array Oper} {o : Oper} {os : List Oper} {s s' : ASt} {v : Value} {h' : Hp} {E' : Tr Value} (hg : aguard s.E ops o = true) (ho : OpTo P G s.E s.h o.op v h') (hp : aput lim s.E o.dst v = some E') (hr : RunsOps P G lim ops os ⟨E', h'⟩ s') :
   RunsOps P G lim ops (o :: os) s s':=by
 obtain ⟨k1, hr⟩:=hr
 rcases ho with ho | ⟨f, args, ho, k0, hc⟩
 · refine ⟨k1, fun k hk => ?_⟩
   unfold aops
   rw [if_pos hg, ho]
   dsimp only
   rw [hp]
   exact hr k hk
 · refine ⟨max k0 k1, fun k hk => ?_⟩
   unfold aops
   rw [if_pos hg, ho]
   dsimp only
   have:=hc k (by omega)
   unfold call at this
   rw [this]
   dsimp only
   rw [hp]
   exact hr k (by omega)
theorem RunsOps.off {lim : Nat} {ops : Array Oper} {o : Oper} {os : List Oper} {s s' : ASt} {E' : Tr Value} (hg : aguard s.E ops o = false) (hp : aput lim s.E o.dst undef = some E') (hr : RunsOps P G lim ops os ⟨E', s.h⟩ s') :
   RunsOps P G lim ops (o :: os) s s':=by
 obtain ⟨k1, hr⟩:=hr
 refine ⟨k1, fun k hk => ?_⟩
 unfold aops
 rw [if_neg (by rw [hg]; decide), hp]
 exact hr k hk
theorem aops_append {cf : CallF} {lim : Nat} {ops : Array Oper} : ∀ {a b : List Oper} {s s1 : ASt}, aops P cf lim ops a s = some (.normal, s1) → aops P cf lim ops (a ++ b) s = aops P cf lim ops b s1
 | [], b, s, s1, h => by cases h; rfl
 | o :: a, b, s, s1, h => by
   rw [List.cons_append]
   unfold aops at h
   conv => lhs; unfold aops
   split at h
   · rename_i hg
     try rw [if_pos hg]
     split at h
     · rename_i v h1 hx
       try rw [hx]
       try dsimp only
       split at h
       · rename_i E hE
         try rw [hE]
         exact aops_append h
       · cases h
     · rename_i f args hx
       try rw [hx]
       try dsimp only
       split at h
       · rename_i v h1 hy
         try rw [hy]
         try dsimp only
         split at h
         · rename_i E hE
           try rw [hE]
           exact aops_append h
         · cases h
       · cases h
       · cases h
     · cases h
     · cases h
   · rename_i hg
     try rw [if_neg hg]
     split at h
     · rename_i E hE
       try rw [hE]
       exact aops_append h
     · cases h
theorem RunsOps.append {lim : Nat} {ops : Array Oper} {a b : List Oper} {s s1 s' : ASt} (h1 : RunsOps P G lim ops a s s1) (h2 : RunsOps P G lim ops b s1 s') : RunsOps P G lim ops (a ++ b) s s':=by
 obtain ⟨k1, h1⟩:=h1
 obtain ⟨k2, h2⟩:=h2
 refine ⟨max k1 k2, fun k hk => ?_⟩
 rw [aops_append (h1 k (by omega))]
 exact h2 k (by omega)
theorem RunsOps.nil {lim : Nat} {ops : Array Oper} {s : ASt} : RunsOps P G lim ops [] s s:=⟨0, fun k _ => rfl⟩
theorem gEq_ok {a b : Option (Nat × Bool)} (h : gEq a b = true) : a = b:=by
 cases a with
 | none => cases b with
   | none => rfl
   | some y => cases h
 | some x => cases b with
   | none => cases h
   | some y =>
     obtain ⟨i, p⟩:=x
     obtain ⟨j, q⟩:=y
     have h' : (match Nat.beq i j with | true => p == q | false => false) = true:=h
     split at h'
     · rename_i hb
       rw [Nat.beq_eq] at hb
       rw [beq_iff_eq] at h'
       rw [hb, h']
     · cases h'
theorem groups_ok : ∀ l : List Oper, flatG (groups l) = l ∧ ∀ g A, (g, A) ∈ groups l → ∀ o ∈ A, o.guard = g
 | [] => ⟨rfl, fun g A h => by simp [groups] at h⟩
 | o :: r => by
   obtain ⟨h1, h2⟩:=groups_ok r
   unfold groups
   split
   · rename_i hr
     rw [hr] at h1
     refine ⟨by rw [← h1]; rfl, fun g A h x hx => ?_⟩
     simp only [List.mem_singleton, Prod.mk.injEq] at h
     obtain ⟨rfl, rfl⟩:=h
     simp at hx
     rw [hx]
   · rename_i g l t hr
     rw [hr] at h1 h2
     split
     · rename_i hg
       have hg:=gEq_ok hg
       refine ⟨by rw [← h1]; rfl, fun g' A h x hx => ?_⟩
       rcases List.mem_cons.1 h with h | h
       · cases h
         rcases List.mem_cons.1 hx with rfl | hx
         · exact hg
         · exact h2 g l List.mem_cons_self x hx
       · exact h2 g' A (List.mem_cons_of_mem _ h) x hx
     · refine ⟨by rw [← h1]; rfl, fun g' A h x hx => ?_⟩
       rcases List.mem_cons.1 h with h | h
       · cases h
         simp at hx
         rw [hx]
       · exact h2 g' A h x hx
theorem opsU_ok {C : Callees} (hC : COk P G C) {lim : Nat} {ops : Array Oper} : ∀ {A : List Oper} {E ET : Tr Value} {h : Hp} {K : SE → Hp → Bool} (I : Tr Value → Prop), (∀ o ∈ A, ∀ E ET', I E → (∀ t, o.dst ≠ some t → ET'.get t = E.get t) → I ET') → (∀ o ∈ A, ∀ E, I E → aguard E ops o = true) → I ET →
   SubE E ET → opsU P (theOps P) C lim A E h K = true → ∃ E' s', RunsOps P G lim ops A ⟨ET, h⟩ s' ∧ SubE E' s'.E ∧ K E' s'.h = true
 | [], E, ET, h, K, I, hI, hg, hi, hs, hk => ⟨E, ⟨ET, h⟩, RunsOps.nil, hs, hk⟩
 | o :: A, E, ET, h, K, I, hI, hg, hi, hs, hk => by
   obtain ⟨v, h', ho, hk⟩:=compOp_ok hC hs (show compOp P (theOps P) C E h o.op (fun v h' => putC lim E o.dst v fun E' => opsU P (theOps P) C lim A E' h' K) = true from hk)
   obtain ⟨E', ET', hp, hs', hk, hf, _⟩:=putC_ok hs hk
   obtain ⟨E2, s', hr, hs2, hk⟩:=opsU_ok hC I (fun o ho => hI o (List.mem_cons_of_mem _ ho)) (fun o ho => hg o (List.mem_cons_of_mem _ ho)) (hI o List.mem_cons_self ET ET' hi hf) hs' hk
   exact ⟨E2, s', RunsOps.cons (hg o List.mem_cons_self ET hi) ho hp hr, hs2, hk⟩
theorem memL_not {t : Nat} : ∀ {l : List Nat}, memL t l = false → t ∉ l
 | [], _ => by simp
 | x :: r, h => by
   have h' : (match Nat.beq t x with | true => true | false => memL t r) = false:=h
   split at h'
   · cases h'
   · rename_i hb
     have hne : t ≠ x:=fun e => by rw [e, Nat.beq_refl] at hb; cases hb
     simp only [List.mem_cons, not_or]
     exact ⟨hne, memL_not h'⟩
theorem undefs_get : ∀ {js : List Nat} {i : Nat} {v : Value}, (undefs js)[i]? = some v → v = undef
 | [], i, v, h => by simp [undefs] at h
 | _ :: r, 0, v, h => by simp [undefs] at h; exact h.symm
 | _ :: r, i + 1, v, h => by
   rw [undefs, List.getElem?_cons_succ] at h
   exact undefs_get h
theorem asgO_mem : ∀ {os : List Oper} {t : Nat}, t ∈ asgO os → ∃ o ∈ os, o.dst = some t
 | [], t, h => by simp [asgO] at h
 | o :: r, t, h => by
   unfold asgO at h
   split at h
   · rename_i u hu
     rcases List.mem_cons.1 h with rfl | h
     · exact ⟨o, List.mem_cons_self, hu⟩
     · obtain ⟨x, hx, hd⟩:=asgO_mem h
       exact ⟨x, List.mem_cons_of_mem _ hx, hd⟩
   · obtain ⟨x, hx, hd⟩:=asgO_mem h
     exact ⟨x, List.mem_cons_of_mem _ hx, hd⟩
theorem opsOff_ok {lim : Nat} {ops : Array Oper} : ∀ {A : List Oper} {ET : Tr Value} {h : Hp} (I : Tr Value → Prop), (∀ o ∈ A, ∀ E ET', I E → (∀ t, o.dst ≠ some t → ET'.get t = E.get t) → I ET') → (∀ o ∈ A, ∀ E, I E → aguard E ops o = false) → I ET → dstsB lim A = true →
   ∃ ET', RunsOps P G lim ops A ⟨ET, h⟩ ⟨ET', h⟩ ∧ ∀ t, t ∈ asgO A → ET'.get t = some undef
 | [], ET, h, I, hI, hg, hi, hd => ⟨ET, RunsOps.nil, fun t ht => by simp [asgO] at ht⟩
 | o :: A, ET, h, I, hI, hg, hi, hd => by
   have key : ∃ E1, aput lim ET o.dst undef = some E1 ∧ (∀ t, o.dst ≠ some t → E1.get t = ET.get t) ∧ (∀ t, o.dst = some t → E1.get t = some undef) ∧ dstsB lim A = true:=by
     unfold dstsB at hd
     split at hd
     · rename_i t ht
       split at hd
       · rename_i hb
         have hb:=Nat.le_of_ble_eq_true hb
         refine ⟨ET.set t (some undef), ?_, fun u hu => Tr.get_set_ne _ _ _ _ (fun e => hu (by rw [ht, e])), fun u hu => ?_, hd⟩
         · simp only [aput, ht]
           rw [if_pos (show t < lim from hb)]
         · rw [ht] at hu
           cases hu
           exact Tr.get_set_eq _ _ _
       · cases hd
     · rename_i hn
       exact ⟨ET, by simp only [aput, hn], fun _ _ => rfl, (fun t ht => by rw [hn] at ht; cases ht), hd⟩
   obtain ⟨E1, hp, hf, hu, hd'⟩:=key
   obtain ⟨E2, hr, h2⟩:=opsOff_ok (h:=h) I (fun o ho => hI o (List.mem_cons_of_mem _ ho)) (fun o ho => hg o (List.mem_cons_of_mem _ ho)) (hI o List.mem_cons_self ET E1 hi hf) hd'
   refine ⟨E2, RunsOps.off (hg o List.mem_cons_self ET hi) hp hr, fun t ht => ?_⟩
   by_cases hm : t ∈ asgO A
   · exact h2 t hm
   · rw [show E2.get t = E1.get t from hr.frame t hm]
     refine hu t ?_
     obtain ⟨x, hx, hdx⟩:=asgO_mem ht
     rcases List.mem_cons.1 hx with hx | hx
     · rw [← hx]; exact hdx
     · exact absurd hdx (asgO_dst hm x hx)
end
end Go.Proofs.YtacknhbgfijkcaaGreatDoor.Abs
end
section
/- The quick engine, part 6: code and functions; the functions tied to one another. -/
namespace Go.Proofs.YtacknhbgfijkcaaGreatDoor.Abs
open Go Go.RowKit
section
variable {P : Program} {G : GivenT}
theorem app_lam_true {n : Nat} {f : List Value → Hp → Bool} {vs : List Value} {h : Hp} (hk : app noH n (lam n f) vs h = true) : f vs h = true:=by
 rcases app_lam noH n f vs with e | e
 · rw [e] at hk; exact hk
 · rw [e] at hk; cases hk
theorem subL_ok : ∀ {js l : List Nat}, subL js l = true → ∀ t ∈ js, t ∈ l
 | [], l, h, t, ht => by simp at ht
 | x :: r, l, h, t, ht => by
   have h' : (match memL x l with | true => subL r l | false => false) = true:=h
   split at h'
   · rename_i hm
     rcases List.mem_cons.1 ht with rfl | ht
     · apply Classical.byContradiction
       intro hn
       have key : ∀ {l : List Nat}, memL t l = true → t ∈ l:=by
         intro l
         induction l with
         | nil => intro h; cases h
         | cons y s ih =>
           intro h
           have h2 : (match Nat.beq t y with | true => true | false => memL t s) = true:=h
           split at h2
           · rename_i hb
             rw [Nat.beq_eq] at hb
             rw [hb]; exact List.mem_cons_self
           · exact List.mem_cons_of_mem _ (ih h2)
       exact hn (key hm)
     · exact subL_ok h' t ht
   · cases h'
theorem aguard_at {E : Tr Value} {ops : Array Oper} {o : Oper} {j : Nat} {want : Bool} {t : Nat} {g : Value} (ho : o.guard = some (j, want)) (ht : (ops[j]?).bind (·.dst) = some t) (hg : E.get t = some g) : aguard E ops o = guardB want g:=by
 unfold aguard guardB
 rw [ho]
 dsimp only
 rw [ht]
 dsimp only
 rw [hg]
 cases g <;> rfl
theorem compGs_ok {C : Callees} (hC : COk P G C) {lim : Nat} {ops : Array Oper} {n : Nat} : ∀ {gs : List Grp} {E ET : Tr Value} {h : Hp} {K : SE → Hp → Bool}, (∀ g A, (g, A) ∈ gs → ∀ o ∈ A, o.guard = g) → SubE E ET → compGs P (theOps P) C lim ops n gs E h K = true →
   ∃ E' s', RunsOps P G lim ops (flatG gs) ⟨ET, h⟩ s' ∧ SubE E' s'.E ∧ K E' s'.h = true
 | [], E, ET, h, K, hg, hs, hk => ⟨E, ⟨ET, h⟩, RunsOps.nil, hs, hk⟩
 | (none, A) :: r, E, ET, h, K, hg, hs, hk => by
   obtain ⟨E1, s1, hr1, hs1, hk⟩:=opsU_ok (ops:=ops) hC (fun _ => True) (fun _ _ _ _ _ _ => trivial) (fun o ho E _ => by unfold aguard; rw [hg none A List.mem_cons_self o ho]) trivial hs
     (show opsU P (theOps P) C lim A E h (fun E' h' => compGs P (theOps P) C lim ops n r E' h' K) = true from hk)
   obtain ⟨E2, s2, hr2, hs2, hk⟩:=compGs_ok hC (fun g B hB => hg g B (List.mem_cons_of_mem _ hB)) hs1 hk
   exact ⟨E2, s2, hr1.append hr2, hs2, hk⟩
 | (some (j, want), A) :: r, E, ET, h, K, hg, hs, hk => by
   unfold compGs at hk
   split at hk
   rotate_left
   · cases hk
   rename_i t ht
   split at hk
   · cases hk
   rename_i hm
   have hm:=memL_not hm
   obtain ⟨g, hgv, hk⟩:=okB_ok hk
   dsimp only at hk
   generalize bitsL (Nat.land (maskL (asgO A)) (ueOps ops n (flatG r))) lim [] = js at hk
   split at hk
   rotate_left
   · cases hk
   rename_i hsub hd
   have hsub:=subL_ok hsub
   have hgt:=hs t g hgv
   have hI : ∀ o ∈ A, ∀ E ET' : Tr Value, E.get t = some g → (∀ u, o.dst ≠ some u → ET'.get u = E.get u) → ET'.get t = some g:=fun o ho E ET' hi hf => by
     rw [hf t (asgO_dst hm o ho)]; exact hi
   have hag : ∀ o ∈ A, ∀ E : Tr Value, E.get t = some g → aguard E ops o = guardB want g:=fun o ho E hi => aguard_at (hg _ A List.mem_cons_self o ho) ht hi
   rcases guardK_ok (show guardK want g _ _ = true from hk) with ⟨hb, hk⟩ | ⟨hb, hk⟩
   · obtain ⟨E1, s1, hr1, hs1, hk⟩:=opsU_ok (ops:=ops) hC (fun E => E.get t = some g) hI (fun o ho E hi => by rw [hag o ho E hi]; exact hb) hgt hs hk
     obtain ⟨vs, hl, hgs, hk⟩:=getsK_ok hk
     have hk:=app_lam_true hk
     obtain ⟨E2, hs2, hk⟩:=rebind_ok (ET':=s1.E) hs (fun u hu => hr1.frame u hu) (fun i u v a b => hs1 u v (hgs i u v a b)) hk
     obtain ⟨E3, s3, hr3, hs3, hk⟩:=compGs_ok hC (fun g B hB => hg g B (List.mem_cons_of_mem _ hB)) hs2 hk
     exact ⟨E3, s3, hr1.append hr3, hs3, hk⟩
   · obtain ⟨ET1, hr1, hu⟩:=opsOff_ok (P:=P) (G:=G) (ops:=ops) (h:=h) (fun E => E.get t = some g) hI (fun o ho E hi => by rw [hag o ho E hi]; exact hb) hgt hd
     have hk:=app_lam_true hk
     obtain ⟨E2, hs2, hk⟩:=rebind_ok (ET':=ET1) hs (fun u hu => hr1.frame u hu) (fun i u v a b => by
       rw [undefs_get b]
       exact hu u (hsub u (List.mem_of_getElem? a))) hk
     obtain ⟨E3, s3, hr3, hs3, hk⟩:=compGs_ok hC (fun g B hB => hg g B (List.mem_cons_of_mem _ hB)) hs2 hk
     exact ⟨E3, s3, hr1.append hr3, hs3, hk⟩
def toE : AX → AExit
 | .normal => .normal
 | .exit id => .exit id
 | .ret => .ret
theorem Runs.of_next {lim : Nat} {c : Code} {s s' : ASt} {e : AExit} {k0 : Nat} (h : ∀ k, k0 ≤ k → exec P G (k + 1) lim c s = some (e, s')) : Runs P G lim c s e s' :=
 ⟨k0 + 1, fun k hk => by
   obtain ⟨m, rfl⟩ : ∃ m, k = m + 1:=⟨k - 1, by omega⟩
   exact h m (by omega)⟩
theorem Runs.region {lim : Nat} {id : Nat} {ops : Array Oper} {s s' : ASt} (h : RunsOps P G lim ops ops.toList s s') : Runs P G lim (.region id ops false) s .normal s':=by
 obtain ⟨k0, h⟩:=h
 exact Runs.of_next (k0:=k0) fun k hk => h k hk
theorem bothK_ok {b k : Bool} (h : bothK b k = true) : b = true ∧ k = true:=by
 cases b
 · cases h
 · exact ⟨rfl, h⟩
def PRel (l : List CPd) (lT : List Pend) : Prop:=∀ p ∈ lT, ∃ c ∈ l, c.i = p.i ∧ c.op = p.op ∧ c.v = p.v ∧ SubE c.E p.E ∧ isCh c.op = false ∧ ∀ want g, c.g = some (want, g) → guardB want g = true
theorem nc_of_float {E : Tr Value} {h : Hp} {op : Op} {f : FuncId} {args : Array Value} (hc : isCh op = false) (ha : aop P E h op = some (.call f args)) : False:=by
 have rv_nc : ∀ {h : Hp} {x : Option Value}, rv h x = some (.call f args) → False:=fun e => by unfold rv at e; split at e <;> cases e
 have rvh_nc : ∀ {x : Option (Value × Hp)}, rvh x = some (.call f args) → False:=fun e => by unfold rvh at e; split at e <;> cases e
 cases op <;> first | (cases hc; done) | skip
 case move x => exact rv_nc ha
 case assign x => exact rv_nc ha
 case pick c x y =>
   dsimp only [aop, opPick] at ha
   obtain ⟨_, _, ha⟩:=with1_some ha
   split at ha
   · exact rv_nc ha
   · exact rv_nc ha
   · cases ha
 case alloc e =>
   dsimp only [aop, opAlloc] at ha
   obtain ⟨_, _, ha⟩:=with1_some ha
   exact rvh_nc ha
 case makeSlice t l c =>
   dsimp only [aop, opMakeslice] at ha
   obtain ⟨_, _, ha⟩:=with1_some ha
   obtain ⟨_, _, ha⟩:=with1_some ha
   exact rvh_nc ha
 case box e x =>
   dsimp only [aop, opBox] at ha
   obtain ⟨_, _, ha⟩:=with1_some ha
   exact rvh_nc ha
 case build t ps =>
   dsimp only [aop, opBuild] at ha
   split at ha
   · exact rv_nc ha
   · cases ha
 case buildSlice t n ps =>
   dsimp only [aop, opBuildslice] at ha
   split at ha
   · exact rvh_nc ha
   · cases ha
 case load t x =>
   dsimp only [aop, opLoad] at ha
   obtain ⟨_, _, ha⟩:=with1_some ha
   exact rv_nc ha
 case nilCheck x =>
   dsimp only [aop, opNilcheck] at ha
   obtain ⟨_, _, ha⟩:=with1_some ha
   split at ha
   · exact rv_nc ha
   · cases ha
 case binOp op t x y yt =>
   dsimp only [aop, opBinop] at ha
   obtain ⟨_, _, ha⟩:=with1_some ha
   obtain ⟨_, _, ha⟩:=with1_some ha
   exact rv_nc ha
 case unOp op t x =>
   dsimp only [aop, opUnop] at ha
   obtain ⟨_, _, ha⟩:=with1_some ha
   split at ha
   · obtain ⟨_, _, ha⟩:=with1_some ha
     split at ha
     · exact rv_nc ha
     · cases ha
   · cases ha
 case makeInterface t x =>
   dsimp only [aop, opMakeinterface] at ha
   obtain ⟨_, _, ha⟩:=with1_some ha
   split at ha
   · cases ha
   · exact rv_nc ha
   · cases ha
 case slice t x lo hi mx =>
   dsimp only [aop, opSlice] at ha
   obtain ⟨_, _, ha⟩:=with1_some ha
   split at ha
   · exact rv_nc ha
   · cases ha
 case fieldAddr s x f =>
   dsimp only [aop, opFieldaddr] at ha
   obtain ⟨_, _, ha⟩:=with1_some ha
   exact rv_nc ha
 case field t x f =>
   dsimp only [aop, opField] at ha
   obtain ⟨_, _, ha⟩:=with1_some ha
   exact rv_nc ha
 case indexAddr t x i =>
   dsimp only [aop, opIndexaddr] at ha
   obtain ⟨_, _, ha⟩:=with1_some ha
   obtain ⟨_, _, ha⟩:=with1_some ha
   exact rv_nc ha
 case index t x i =>
   dsimp only [aop, opIndex] at ha
   obtain ⟨_, _, ha⟩:=with1_some ha
   obtain ⟨_, _, ha⟩:=with1_some ha
   exact rv_nc ha
 case lookup t x i c =>
   dsimp only [aop, opLookup] at ha
   obtain ⟨_, _, ha⟩:=with1_some ha
   obtain ⟨_, _, ha⟩:=with1_some ha
   exact rv_nc ha
 case extract x i =>
   dsimp only [aop, opExtract] at ha
   obtain ⟨_, _, ha⟩:=with1_some ha
   split at ha
   · exact rv_nc ha
   · cases ha
 case call c =>
   obtain ⟨callee, cargs, tys⟩:=c
   cases callee with
   | builtin b =>
     dsimp only [aop, opCall] at ha
     split at ha
     · exact rvh_nc ha
     · cases ha
   | value f => cases hc
   | invoke r m => cases hc
theorem float_val {E : Tr Value} {h h' : Hp} {op : Op} {v : Value} (hc : isCh op = false) (ho : OpTo P G E h op v h') : aop P E h op = some (.val v h'):=by
 rcases ho with ho | ⟨f, args, ho, _⟩
 · exact ho
 · exact (nc_of_float hc ho).elim
def RecOk (P : Program) (G : GivenT) (h : Hp) (c : CPd) : Prop:=(∀ want g, c.g = some (want, g) → guardB want g = true) → ∀ ET, SubE c.E ET → ∃ v h', OpTo P G ET h c.op v h' ∧ eqV v c.v = true
theorem recK_ok {C : Callees} (hC : COk P G C) {h : Hp} {c : CPd} {k : Bool} (hk : recK P (theOps P) C h c k = true) : k = true ∧ RecOk P G h c:=by
 have raw : ∀ {k : Bool}, compOp P (theOps P) C c.E h c.op (fun v _ => eqK v c.v k) = true → k = true ∧ RecOk P G h c:=by
   intro k hk
   obtain ⟨v, h', _, h2⟩:=compOp_ok hC (fun _ _ x => x : SubE c.E c.E) hk
   refine ⟨(eqK_ok h2).2, fun _ ET hs => ?_⟩
   obtain ⟨v, h', h1, h2⟩:=compOp_ok hC hs hk
   exact ⟨v, h', h1, (eqK_ok h2).1⟩
 unfold recK at hk
 split at hk
 · exact raw hk
 · rename_i want g hg
   have hk' : guardK want g (compOp P (theOps P) C c.E h c.op fun v _ => eqK v c.v k) k = true:=hk
   rcases guardK_ok hk' with ⟨_, h1⟩ | ⟨h1, h2⟩
   · exact raw h1
   · refine ⟨h2, fun hw => ?_⟩
     rw [hw want g hg] at h1
     cases h1
theorem recsK_ok {C : Callees} (hC : COk P G C) {h : Hp} {K : Bool} : ∀ {l : List CPd}, recsK P (theOps P) C h K l = true → K = true ∧ ∀ lT, PRel l lT → pendOk P h lT = true:=by
 intro l hk
 have key : K = true ∧ ∀ c ∈ l, RecOk P G h c:=by
   induction l with
   | nil => exact ⟨hk, fun c hc => by simp at hc⟩
   | cons p l ih =>
     obtain ⟨h1, h2⟩:=recK_ok hC (show recK P (theOps P) C h p (recsK P (theOps P) C h K l) = true from hk)
     obtain ⟨h3, h4⟩:=ih h1
     refine ⟨h3, fun c hc => ?_⟩
     rcases List.mem_cons.1 hc with rfl | hc
     · exact h2
     · exact h4 c hc
 refine ⟨key.1, fun lT hr => List.all_eq_true.2 fun p hp => ?_⟩
 obtain ⟨c, hc, _, e2, e3, hs, hf, hg⟩:=hr p hp
 obtain ⟨v, h', ho, hk⟩:=key.2 c hc hg _ hs
 have:=float_val hf ho
 rw [← e2, this]
 dsimp only
 rw [← e3]
 exact hk
theorem guardC_ok {C : Callees} (hC : COk P G C) {ops : Array Oper} {E ET : Tr Value} {h : Hp} {o : Oper} {K : Option (Bool × Value) → KVH} (hs : SubE E ET) (hk : guardC P (theOps P) C ops E h o K = true) : ∃ g v h', K g v h' = true ∧
   ((aguard ET ops o = true ∧ OpTo P G ET h o.op v h' ∧ ∀ want gv, g = some (want, gv) → guardB want gv = true) ∨ (aguard ET ops o = false ∧ v = undef ∧ h' = h)):=by
 unfold guardC at hk
 split at hk
 · rename_i hg
   obtain ⟨v, h', ho, hk⟩:=compOp_ok hC hs hk
   exact ⟨none, v, h', hk, .inl ⟨by unfold aguard; rw [hg], ho, fun _ _ e => by cases e⟩⟩
 · rename_i j want hg
   split at hk
   · rename_i t ht
     obtain ⟨g, hgv, hk⟩:=okB_ok hk
     have hat:=aguard_at hg ht (hs t g hgv)
     rcases guardK_ok (show guardK want g _ _ = true from hk) with ⟨h1, hk⟩ | ⟨h1, hk⟩
     · obtain ⟨v, h', ho, hk⟩:=compOp_ok hC hs hk
       exact ⟨_, v, h', hk, .inl ⟨hat.trans h1, ho, fun w gv e => by cases e; exact h1⟩⟩
     · exact ⟨_, undef, h, hk, .inr ⟨hat.trans h1, rfl, rfl⟩⟩
   · cases hk
theorem PRel.filter {l : List CPd} {lT : List Pend} (h : PRel l lT) (f : Nat → Bool) : PRel (l.filter fun p => f p.i) (lT.filter fun p => f p.i):=fun p hp => by
 obtain ⟨h1, h2⟩:=List.mem_filter.1 hp
 obtain ⟨c, hc, e1, hr⟩:=h p h1
 exact ⟨c, List.mem_filter.2 ⟨hc, by rw [e1]; exact h2⟩, e1, hr⟩
theorem compDraw_ok {C : Callees} (hC : COk P G C) {lim : Nat} {ops : Array Oper} {B : List Nat} : ∀ {σ : List Nat} {E ET : Tr Value} {h : Hp} {l : List CPd} {lT : List Pend} {K : SE → Hp → Bool}, SubE E ET → PRel l lT → compDraw P (theOps P) C lim ops B σ E h l K = true →
   ∃ E' s' k0, (∀ k, k0 ≤ k → drawGo P (callBy P G (exec P G k)) lim ops B σ ET h lT = some (.normal, s')) ∧ SubE E' s'.E ∧ K E' s'.h = true
 | [], E, ET, h, l, lT, K, hs, hr, hk => by
   obtain ⟨hk, hp⟩:=recsK_ok hC hk
   refine ⟨E, ⟨ET, h⟩, 0, fun k _ => ?_, hs, hk⟩
   unfold drawGo
   rw [if_pos (hp lT hr)]
 | i :: σ, E, ET, h, l, lT, K, hs, hr, hk => by
   unfold compDraw at hk
   split at hk
   · cases hk
   rename_i o ho
   split at hk
   · rename_i hch
     obtain ⟨hk, hp⟩:=recsK_ok hC hk
     obtain ⟨g, v, h', hk, hcase⟩:=guardC_ok hC hs hk
     obtain ⟨E', ET', hput, hs', hk, _, _⟩:=putC_ok hs hk
     obtain ⟨E2, s2, k1, hgo, hs2, hk⟩:=compDraw_ok hC (lT:=lT.filter fun p => !(ancOf B i p.i)) hs' (hr.filter fun j => !(ancOf B i j)) hk
     have hrun : ∃ k2, ∀ k, k2 ≤ k → chRun P (callBy P G (exec P G k)) ops o ET h = some (v, h'):=by
       rcases hcase with ⟨hg, hop, _⟩ | ⟨hg, rfl, rfl⟩
       · rcases hop with hop | ⟨f, args, hop, k2, hc⟩
         · exact ⟨0, fun k _ => by unfold chRun; rw [if_pos hg, hop]⟩
         · refine ⟨k2, fun k hkk => ?_⟩
           have:=hc k hkk
           unfold call at this
           unfold chRun
           rw [if_pos hg, hop]
           dsimp only
           rw [this]
       · exact ⟨0, fun k _ => by unfold chRun; rw [if_neg (by rw [hg]; decide)]⟩
     obtain ⟨k2, hrun⟩:=hrun
     refine ⟨E2, s2, max k1 k2, fun k hkk => ?_, hs2, hk⟩
     unfold drawGo
     rw [ho]
     dsimp only
     rw [hch]
     dsimp only
     rw [if_pos (hp lT hr), hrun k (by omega)]
     dsimp only
     rw [hput]
     exact hgo k (by omega)
   · rename_i hch
     obtain ⟨g, v, h', hk, hcase⟩:=guardC_ok hC hs hk
     obtain ⟨E', ET', hput, hs', hk, _, _⟩:=putC_ok hs hk
     have hrel : PRel (match lookNP o.op with | true => ⟨i, o.op, E, v, g⟩ :: l | false => l) (match isLook ops o ET with | true => ⟨i, o.op, ET, v⟩ :: lT | false => lT):=by
       intro p hp
       have old : ∀ p ∈ lT, ∃ c ∈ (match lookNP o.op with | true => (⟨i, o.op, E, v, g⟩ : CPd) :: l | false => l), c.i = p.i ∧ c.op = p.op ∧ c.v = p.v ∧ SubE c.E p.E ∧ isCh c.op = false ∧ ∀ want g, c.g = some (want, g) → guardB want g = true:=by
         intro p hp
         obtain ⟨c, hc, hrest⟩:=hr p hp
         refine ⟨c, ?_, hrest⟩
         split
         · exact List.mem_cons_of_mem _ hc
         · exact hc
       split at hp
       · rename_i hlk
         rcases List.mem_cons.1 hp with rfl | hp
         · unfold isLook at hlk
           rw [Bool.and_eq_true] at hlk
           have hnp : lookNP o.op = true:=hlk.2
           rcases hcase with ⟨hg, hop, hgg⟩ | ⟨hg, _⟩
           · refine ⟨⟨i, o.op, E, v, g⟩, ?_, rfl, rfl, rfl, hs, hch, hgg⟩
             rw [hnp]
             exact List.mem_cons_self
           · rw [hg] at hlk; cases hlk.1
         · exact old p hp
       · exact old p hp
     obtain ⟨E2, s2, k1, hgo, hs2, hk⟩:=compDraw_ok hC hs' hrel hk
     have hrun : flRun P ops o ET h = some (v, h'):=by
       unfold flRun
       rcases hcase with ⟨hg, hop, _⟩ | ⟨hg, rfl, rfl⟩
       · rw [if_pos hg, float_val hch hop]
       · rw [if_neg (by rw [hg]; decide)]
     refine ⟨E2, s2, k1, fun k hkk => ?_, hs2, hk⟩
     unfold drawGo
     rw [ho]
     dsimp only
     rw [hch]
     dsimp only
     rw [hrun]
     dsimp only
     rw [hput]
     exact hgo k hkk
theorem Runs.seq {lim : Nat} {a b : Code} {s s1 s' : ASt} {e : AExit} (h1 : Runs P G lim a s .normal s1) (h2 : Runs P G lim b s1 e s') : Runs P G lim (.seq a b) s e s':=by
 obtain ⟨k1, h1⟩:=h1
 obtain ⟨k2, h2⟩:=h2
 refine Runs.of_next (k0:=max k1 k2) fun k hk => ?_
 show (match exec P G k lim a s with | some (.normal, s') => exec P G k lim b s' | r => r) = _
 rw [h1 k (by omega)]
 exact h2 k (by omega)
theorem Runs.seq_out {lim : Nat} {a b : Code} {s s1 : ASt} {e : AExit} (he : e ≠ .normal) (h1 : Runs P G lim a s e s1) : Runs P G lim (.seq a b) s e s1:=by
 obtain ⟨k1, h1⟩:=h1
 refine Runs.of_next (k0:=k1) fun k hk => ?_
 show (match exec P G k lim a s with | some (.normal, s') => exec P G k lim b s' | r => r) = _
 rw [h1 k hk]
 cases e <;> first | rfl | exact absurd rfl he
theorem Runs.cond {lim : Nat} {c : Operand} {a b : Code} {s s' : ASt} {e : AExit} {t : Bool} (hc : aev P s.E s.h c = some (.bool t)) (h : Runs P G lim (bif t then a else b) s e s') : Runs P G lim (.cond c a b) s e s':=by
 obtain ⟨k0, h⟩:=h
 refine Runs.of_next (k0:=k0) fun k hk => ?_
 show (match aev P s.E s.h c with | some (.bool true) => exec P G k lim a s | some (.bool false) => exec P G k lim b s | _ => none) = _
 rw [hc]
 cases t
 · exact h k hk
 · exact h k hk
def inBlk (id : Nat) (e : AExit) : AExit:=match e with
 | .exit id' => if id' = id then AExit.normal else AExit.exit id'
 | e => e
theorem Runs.block {lim : Nat} {id : Nat} {b : Code} {s s' : ASt} {e : AExit} (h : Runs P G lim b s e s') : Runs P G lim (.block id b) s (inBlk id e) s':=by
 obtain ⟨k0, h⟩:=h
 refine Runs.of_next (k0:=k0) fun k hk => ?_
 show (match exec P G k lim b s with | some (.exit id', s') => if id' = id then some (AExit.normal, s') else some (AExit.exit id', s') | r => r) = _
 rw [h k hk]
 cases e with
 | exit id' =>
   dsimp only [inBlk]
   split <;> rfl
 | _ => rfl
theorem Runs.loop {lim : Nat} {b : Code} {s s1 s' : ASt} {e : AExit} (h1 : Runs P G lim b s .normal s1) (h2 : Runs P G lim (.loop b) s1 e s') : Runs P G lim (.loop b) s e s':=by
 obtain ⟨k1, h1⟩:=h1
 obtain ⟨k2, h2⟩:=h2
 refine Runs.of_next (k0:=max k1 k2) fun k hk => ?_
 show (match exec P G k lim b s with | some (.normal, s') => exec P G k lim (.loop b) s' | r => r) = _
 rw [h1 k (by omega)]
 exact h2 k (by omega)
theorem Runs.loop_out {lim : Nat} {b : Code} {s s1 : ASt} {e : AExit} (he : e ≠ .normal) (h1 : Runs P G lim b s e s1) : Runs P G lim (.loop b) s e s1:=by
 obtain ⟨k1, h1⟩:=h1
 refine Runs.of_next (k0:=k1) fun k hk => ?_
 show (match exec P G k lim b s with | some (.normal, s') => exec P G k lim (.loop b) s' | r => r) = _
 rw [h1 k hk]
 cases e <;> first | rfl | exact absurd rfl he
def Then (P : Program) (G : GivenT) (lim : Nat) (c : Code) (s : ASt) (K : AX → SE → Hp → Bool) : Prop:=∃ e s' E', Runs P G lim c s (toE e) s' ∧ SubE E' s'.E ∧ K e E' s'.h = true
theorem compC_ok {C : Callees} (hC : COk P G C) {lim : Nat} : ∀ (c : Code) {n x : Nat} {E ET : Tr Value} {h : Hp} {K : AX → SE → Hp → Bool}, SubE E ET → compC P (theOps P) C lim c n x E h K = true → Then P G lim c ⟨ET, h⟩ K
 | .skip, n, x, E, ET, h, K, hs, hk => ⟨.normal, ⟨ET, h⟩, E, Runs.of_next (k0:=0) fun _ _ => rfl, hs, hk⟩
 | .label l, n, x, E, ET, h, K, hs, hk => ⟨.normal, ⟨ET, h⟩, E, Runs.of_next (k0:=0) fun _ _ => rfl, hs, hk⟩
 | .exit id, n, x, E, ET, h, K, hs, hk => ⟨.exit id, ⟨ET, h⟩, E, Runs.of_next (k0:=0) fun _ _ => rfl, hs, hk⟩
 | .ret, n, x, E, ET, h, K, hs, hk => ⟨.ret, ⟨ET, h⟩, E, Runs.of_next (k0:=0) fun _ _ => rfl, hs, hk⟩
 | .region id ops d, n, x, E, ET, h, K, hs, hk => by
   cases d with
   | true =>
     unfold compC at hk
     dsimp only at hk
     split at hk
     · rename_i hchk
       obtain ⟨E', s', k0, hgo, hs', hk⟩:=compDraw_ok hC (lT:=[]) hs (fun p hp => by simp at hp) hk
       refine ⟨.normal, s', E', Runs.of_next (k0:=k0) fun k hkk => ?_, hs', hk⟩
       show adraw P (callBy P G (exec P G k)) lim ops ⟨ET, h⟩ = _
       unfold adraw
       dsimp only
       rw [hchk]
       exact hgo k hkk
     · cases hk
   | false =>
     obtain ⟨g1, g2⟩:=groups_ok ops.toList
     obtain ⟨E', s', hr, hs', hk⟩:=compGs_ok hC g2 hs (show compGs P (theOps P) C lim ops n (groups ops.toList) E h (fun E' h' => K .normal E' h') = true from hk)
     rw [g1] at hr
     exact ⟨.normal, s', E', Runs.region hr, hs', hk⟩
 | .seq a b, n, x, E, ET, h, K, hs, hk => by
   unfold compC at hk
   split at hk
   · obtain ⟨e, s1, E1, hr1, hs1, hk⟩:=compC_ok hC a hs hk
     cases e with
     | normal =>
       obtain ⟨e2, s2, E2, hr2, hs2, hk⟩:=compC_ok hC b hs1 (show compC P (theOps P) C lim b n x E1 s1.h K = true from hk)
       exact ⟨e2, s2, E2, Runs.seq hr1 hr2, hs2, hk⟩
     | exit id => exact ⟨_, s1, E1, Runs.seq_out (by intro e; cases e) hr1, hs1, hk⟩
     | ret => exact ⟨_, s1, E1, Runs.seq_out (by intro e; cases e) hr1, hs1, hk⟩
   · dsimp only at hk
     generalize bitsL (Nat.land (maskL (asgL a)) (ueC b n x)) lim [] = js at hk
     obtain ⟨e, s1, E1, hr1, hs1, hk⟩:=compC_ok hC a hs hk
     cases e with
     | normal =>
       obtain ⟨vs, hl, hgs, hk⟩:=getsK_ok (show getsK E1 js _ = true from hk)
       have hk:=app_lam_true hk
       obtain ⟨E2, hs2, hk⟩:=rebind_ok (ET':=s1.E) hs (fun u hu => hr1.frame u hu) (fun i u v p q => hs1 u v (hgs i u v p q)) hk
       obtain ⟨e3, s3, E3, hr3, hs3, hk⟩:=compC_ok hC b hs2 hk
       exact ⟨e3, s3, E3, Runs.seq hr1 hr3, hs3, hk⟩
     | exit id => exact ⟨_, s1, E1, Runs.seq_out (by intro e; cases e) hr1, hs1, hk⟩
     | ret => exact ⟨_, s1, E1, Runs.seq_out (by intro e; cases e) hr1, hs1, hk⟩
 | .cond c a b, n, x, E, ET, h, K, hs, hk => by
   obtain ⟨v, hv, hk⟩:=evK_ok hs (show evK P (theOps P) E h c (fun v => brK v _ _) = true from hk)
   rcases brK_ok hk with ⟨e, hk⟩ | ⟨e, hk⟩
   · subst e
     obtain ⟨e1, s1, E1, hr1, hs1, hk⟩:=compC_ok hC a hs hk
     exact ⟨e1, s1, E1, Runs.cond (t:=true) hv hr1, hs1, hk⟩
   · subst e
     obtain ⟨e1, s1, E1, hr1, hs1, hk⟩:=compC_ok hC b hs hk
     exact ⟨e1, s1, E1, Runs.cond (t:=false) hv hr1, hs1, hk⟩
 | .block id b, n, x, E, ET, h, K, hs, hk => by
   unfold compC at hk
   dsimp only at hk
   generalize bitsL (Nat.land (maskL (asgL b)) n) lim [] = js at hk
   obtain ⟨e, s1, E1, hr1, hs1, hk⟩:=compC_ok hC b hs hk
   have fin : ∀ {Kb : List Value → Bool}, getsK E1 js Kb = true → (∀ vs, Kb vs = true → app noH js.length (lam js.length fun vs h' => delK E (asgL b) fun E1 => setsK E1 js vs fun E2 => K .normal E2 h') vs s1.h = true) → Runs P G lim (.block id b) ⟨ET, h⟩ .normal s1 → Then P G lim (.block id b) ⟨ET, h⟩ K:=by
     intro Kb hg hkb hr
     obtain ⟨vs, hl, hgs, hk⟩:=getsK_ok hg
     have hk:=app_lam_true (hkb vs hk)
     obtain ⟨E2, hs2, hk⟩:=rebind_ok (ET':=s1.E) hs (fun u hu => hr1.frame u hu) (fun i u v p q => hs1 u v (hgs i u v p q)) hk
     exact ⟨.normal, s1, E2, hr, hs2, hk⟩
   have hrb:=Runs.block (id:=id) hr1
   cases e with
   | normal => exact fin (show getsK E1 js _ = true from hk) (fun vs hv => hv) hrb
   | ret => exact ⟨.ret, s1, E1, hrb, hs1, hk⟩
   | exit id' =>
     have hk' : (match Nat.beq id' id with | true => getsK E1 js _ | false => K (.exit id') E1 s1.h) = true:=hk
     split at hk'
     · rename_i hb
       rw [Nat.beq_eq] at hb
       refine fin hk' (fun vs hv => hv) ?_
       simpa only [toE, inBlk, hb, if_true] using hrb
     · rename_i hb
       have hne : id' ≠ id:=fun e => by rw [e, Nat.beq_refl] at hb; cases hb
       refine ⟨.exit id', s1, E1, ?_, hs1, hk'⟩
       simpa only [toE, inBlk, hne, if_false] using hrb
 | .loop b, n, x, E, ET, h, K, hs, hk => by
   unfold compC at hk
   dsimp only at hk
   generalize bitsL (Nat.land (maskL (asgL b)) (ueC b 0 x)) lim [] = js at hk
   obtain ⟨vs, hl, hgs, hk⟩:=getsK_ok hk
   have key : ∀ (k : Nat) (vs : List Value) (ET1 : Tr Value) (h1 : Hp), (∀ (i t : Nat) (v : Value), js[i]? = some t → vs[i]? = some v → ET1.get t = some v) → (∀ t, t ∉ asgL b → ET1.get t = ET.get t) →
       app noH js.length (loopG js.length (fun ih => lam js.length fun vs h => delK E (asgL b) fun E1 => setsK E1 js vs fun E2 => compC P (theOps P) C lim b (ueC b 0 x) x E2 h (seqK (fun E' h' => getsK E' js fun vs => app noH js.length ih vs h') K)) k) vs h1 = true →
       Then P G lim (.loop b) ⟨ET1, h1⟩ K:=by
     intro k
     induction k with
     | zero =>
       intro vs ET1 h1 hj hf hk
       have:=app_lam_true (f:=fun _ => noH) hk
       cases this
     | succ k ih =>
       intro vs ET1 h1 hj hf hk
       have hk:=app_lam_true hk
       obtain ⟨E2, hs2, hk⟩:=rebind_ok (ET':=ET1) hs hf hj hk
       obtain ⟨e, s1, E1, hr1, hs1, hk⟩:=compC_ok hC b hs2 hk
       cases e with
       | normal =>
         obtain ⟨us, hl, hgs, hk⟩:=getsK_ok (show getsK E1 js _ = true from hk)
         obtain ⟨e2, s2, E3, hr2, hs3, hk⟩:=ih us s1.E s1.h (fun i t v p q => hs1 t v (hgs i t v p q)) (fun t ht => by rw [hr1.frame t ht]; exact hf t ht) hk
         exact ⟨e2, s2, E3, Runs.loop hr1 hr2, hs3, hk⟩
       | exit id => exact ⟨_, s1, E1, Runs.loop_out (by intro e; cases e) hr1, hs1, hk⟩
       | ret => exact ⟨_, s1, E1, Runs.loop_out (by intro e; cases e) hr1, hs1, hk⟩
   exact key fuel vs ET h (fun i t v p q => hs t v (hgs i t v p q)) (fun _ _ => rfl) hk
 | .rangeFunc _ _ _ _, n, x, E, ET, h, K, hs, hk => by cases hk
 | .scope _, n, x, E, ET, h, K, hs, hk => by cases hk
 | .goto _, n, x, E, ET, h, K, hs, hk => by cases hk
 | .refuse _, n, x, E, ET, h, K, hs, hk => by cases hk
theorem argsK_eq : ∀ (vs : List Value) (E : SE) (i : Nat) (K : SE → Bool), argsK E i vs K = K (args0 vs i E)
 | [], E, i, K => rfl
 | v :: vs, E, i, K => by
   show E.setK i (some v) (fun E' => argsK E' (i + 1) vs K) = _
   rw [Tr.setK_eq, argsK_eq vs]
   rfl
theorem resK_ok {E : Tr Value} {s : ASt} (hs : SubE E s.E) : ∀ {rs : List ResultVar} {K : List Value → Bool}, resK P (theOps P) E s.h rs K = true → ∃ vs, ares P s rs = some vs ∧ K vs = true
 | [], K, hk => ⟨[], rfl, hk⟩
 | .tmp t :: r, K, hk => by
   obtain ⟨v, hv, hk⟩:=okB_ok hk
   obtain ⟨vs, hvs, hk⟩:=resK_ok hs hk
   exact ⟨v :: vs, by simp only [ares, hvs, hs t v hv], hk⟩
 | .cell a t :: r, K, hk => by
   obtain ⟨p, hp, hk⟩:=okB_ok hk
   obtain ⟨v, hv, hk⟩:=loadC_ok hk
   obtain ⟨vs, hvs, hk⟩:=resK_ok hs hk
   exact ⟨v :: vs, by simp only [ares, hvs, hs a p hp, hv], hk⟩
theorem fnOf_ok {C : Callees} (hC : COk P G C) {f n : Nat} {fd : Func} {c : Code} (hfd : P.funcs[f]? = some fd) (hb : fd.body = some c) (hG : G f = none) {args : List Value} {h : Hp} {K : KVH} (hk : app noF n (fnOf P (theOps P) C n fd c) args h K = true) :
   ∃ v h', CallsTo P G f args h v h' ∧ K v h' = true:=by
 unfold fnOf at hk
 rcases app_lam noF n (fun vs h kr => argsK (.full (Nat.succ (Nat.log2 fd.ntmps))) 0 vs fun E => compC P (theOps P) C fd.ntmps c (maskR fd.results.toList) (maskR fd.results.toList) E h (retK P (theOps P) fd kr)) args with e | e
 · rw [e] at hk
   dsimp only at hk
   rw [argsK_eq] at hk
   obtain ⟨ex, s', E', ⟨k0, hr⟩, hs', hk⟩:=compC_ok hC c (ET:=args0 args 0 (.full (Nat.succ (Nat.log2 fd.ntmps)))) (fun _ _ h => h) hk
   have fin : (resK P (theOps P) E' s'.h fd.results.toList fun vs => tupK vs fun v => K v s'.h) = true → ∃ v, aresults P fd s' = some v ∧ K v s'.h = true:=by
     intro hk
     obtain ⟨vs, hvs, hk⟩:=resK_ok hs' hk
     unfold tupK at hk
     split at hk
     · exact ⟨_, by simp only [aresults, hvs], hk⟩
     · rename_i us hne
       refine ⟨.tuple ⟨vs⟩, ?_, hk⟩
       simp only [aresults, hvs]
   have call : ∀ v, aresults P fd s' = some v → (toE ex = .normal ∨ toE ex = .ret) → CallsTo P G f args h v s'.h:=by
     intro v hv he
     refine ⟨k0, fun k hk => ?_⟩
     unfold Abs.call callBy
     rw [hG]
     dsimp only
     rw [hfd]
     dsimp only
     rw [hb]
     dsimp only
     rw [hr k hk]
     rcases he with he | he
     · rw [he]
       dsimp only
       rw [hv]
     · rw [he]
       dsimp only
       rw [hv]
   cases ex with
   | normal =>
     obtain ⟨v, hv, hk⟩:=fin hk
     exact ⟨v, s'.h, call v hv (.inl rfl), hk⟩
   | ret =>
     obtain ⟨v, hv, hk⟩:=fin hk
     exact ⟨v, s'.h, call v hv (.inr rfl), hk⟩
   | exit id => cases hk
 · rw [e] at hk; cases hk
structure Ent where
 n : Nat
 F : Callees → FnT n
def EntOk (P : Program) (G : GivenT) (g : Nat) (e : Ent) : Prop:=∀ C, COk P G C → ∀ args h K, app noF e.n (e.F C) args h K = true → ∃ v h', CallsTo P G g args h v h' ∧ K v h' = true
structure FBox (n : Nat) where
 F : FnT n
noncomputable def boxAt (T : Tr Ent) (C : Callees) (g n : Nat) : FBox n:=Option.rec (motive:=fun _ => FBox n) ⟨lam n fun _ => noF⟩ (fun e => Ent.rec (motive:=fun _ => FBox n) (fun m F => Decidable.rec (motive:=fun _ => FBox n) (fun _ => ⟨lam n fun _ => noF⟩) (fun h => Eq.rec (motive:=fun n _ => FBox n) (⟨F C⟩ : FBox m) h) (Nat.decEq m n)) e) (T.get g)
noncomputable def entAt (T : Tr Ent) (C : Callees) : Callees:=fun g n => FBox.rec (motive:=fun _ => FnT n) (fun F => F) (boxAt T C g n)
theorem boxAt_cases (T : Tr Ent) (C : Callees) (g n : Nat) : (∃ e : Ent, T.get g = some e ∧ ∃ h : e.n = n, entAt T C g n = h ▸ e.F C) ∨ entAt T C g n = lam n fun _ => noF:=by
 unfold entAt boxAt
 cases hT : T.get g with
 | none => exact .inr rfl
 | some e =>
   obtain ⟨m, F⟩:=e
   dsimp only
   cases hd : Nat.decEq m n with
   | isFalse h => exact .inr rfl
   | isTrue h =>
     subst h
     exact .inl ⟨⟨m, F⟩, rfl, rfl, rfl⟩
noncomputable def knot (T : Tr Ent) (k : Nat) : Callees:=Nat.rec (motive:=fun _ => Callees) (fun _ n => lam n fun _ => noF) (fun _ C => entAt T C) k
def TabOk (P : Program) (G : GivenT) (T : Tr Ent) : Prop:=∀ g e, T.get g = some e → EntOk P G g e
theorem TabOk.nil : TabOk P G .nil:=fun g e h => by rw [Tr.get_nil] at h; cases h
theorem TabOk.add {T : Tr Ent} (hT : TabOk P G T) {g : Nat} {e : Ent} (he : EntOk P G g e) : TabOk P G (T.set g (some e)):=by
 intro u d hu
 rw [Tr.get_set] at hu
 split at hu
 · rename_i hug
   cases hu
   rw [hug]; exact he
 · exact hT u d hu
theorem noF_not {n : Nat} {args : List Value} {h : Hp} {K : KVH} (hk : app noF n (lam n fun _ => noF) args h K = true) : False:=by
 rcases app_lam noF n (fun _ => noF) args with e | e
 · rw [e] at hk; cases hk
 · rw [e] at hk; cases hk
theorem knot_ok {T : Tr Ent} (hT : TabOk P G T) : ∀ k, COk P G (knot T k)
 | 0 => fun g n vs h K hk => (noF_not hk).elim
 | k + 1 => fun g n vs h K hk => by
   have hk' : app noF n (entAt T (knot T k) g n) vs h K = true:=hk
   rcases boxAt_cases T (knot T k) g n with ⟨e, he, hn, e1⟩ | e1
   · rw [e1] at hk'
     subst hn
     exact hT g e he _ (knot_ok hT k) vs h K hk'
   · rw [e1] at hk'
     exact (noF_not hk').elim
theorem ent_of_fn {f n : Nat} {fd : Func} {c : Code} {F : Ops → Callees → FnT n} (he : ∀ R C, F R C = fnOf P R C n fd c) (hfd : P.funcs[f]? = some fd) (hb : fd.body = some c) (hG : G f = none) : EntOk P G f ⟨n, F (theOps P)⟩ :=
 fun C hC args h K hk => fnOf_ok hC hfd hb hG (by rw [← he]; exact hk)
theorem call_of_knot {T : Tr Ent} (hT : TabOk P G T) {k f n : Nat} {args : List Value} {h : Hp} {K : KVH} (hk : app noF n (knot T k f n) args h K = true) : ∃ v h' j, call P G j f args h = some (.ret v, h') ∧ K v h' = true:=by
 obtain ⟨v, h', ⟨k0, hc⟩, hk⟩:=knot_ok hT k f n args h K hk
 exact ⟨v, h', k0, hc k0 (Nat.le_refl _), hk⟩
end
end Go.Proofs.YtacknhbgfijkcaaGreatDoor.Abs
end
section
/- The engine: back to an earlier sketch: what was made since is forgotten, what was known of the earlier blocks holds as before (for rounds of a loop that are walked from one sketch). -/
namespace Go.Proofs.YtacknhbgfijkcaaGreatDoor.Abs
open Go Go.RowKit
theorem VRel.back {ι ι' : Nat → Option Loc} (hg : Grows ι ι') {v r0 : Value} (h0 : VRel ι v r0) : ∀ {r : Value}, VRel ι' v r → VRel ι v r:=by
 induction h0 with
 | bool b => intro r h; cases h; exact .bool b
 | int k n => intro r h; cases h; exact .int k n
 | float k b => intro r h; cases h; exact .float k b
 | tok id i hi =>
   intro r h
   cases h with
   | tok _ j hj =>
     rw [hg _ _ hi] at hj
     cases hj
     exact .tok id i hi
 | bits m q z hm hz =>
   intro r h
   cases h with
   | bits _ _ z' hm' hz' => exact .bits _ _ z' hm' hz'
 | string s => intro r h; cases h; exact .string s
 | nilPtr => intro r h; cases h; exact .nilPtr
 | ptr id off i hi =>
   intro r h
   cases h with
   | ptr _ _ j hj =>
     rw [hg _ _ hi] at hj
     cases hj
     exact .ptr id off i hi
 | nilSlice => intro r h; cases h; exact .nilSlice
 | slice id off len c cap i ra hi hl hc hx =>
   intro r h
   cases h with
   | slice _ _ _ _ cap' j ra' hj hl' hc' hx' =>
     rw [hg _ _ hi] at hj
     cases hj
     exact .slice id off len c cap' i ra' hi hl' hc' hx'
 | nilMap => intro r h; cases h; exact .nilMap
 | map id i hi =>
   intro r h
   cases h with
   | map _ j hj =>
     rw [hg _ _ hi] at hj
     cases hj
     exact .map id i hi
 | nilFunc => intro r h; cases h; exact .nilFunc
 | func fn f f' c c' h1 h2 h3 h4 ih2 ih4 =>
   intro r h
   cases h with
   | func _ _ g' _ d' k1 k2 k3 k4 => exact .func fn f g' c d' k1 (fun i a b => ih2 i a (h1 ▸ a) (k2 i a b)) k3 (fun i a b => ih4 i a (h3 ▸ a) (k4 i a b))
 | nilIface => intro r h; cases h; exact .nilIface
 | iface t v v' h ih =>
   intro r h
   cases h with
   | iface _ _ w h => exact .iface t _ _ (ih h)
 | agg c c' h1 h2 ih =>
   intro r h
   cases h with
   | agg _ d' k1 k2 => exact .agg c d' k1 (fun i a b => ih i a (h1 ▸ a) (k2 i a b))
 | tuple c c' h1 h2 ih =>
   intro r h
   cases h with
   | tuple _ d' k1 k2 => exact .tuple c d' k1 (fun i a b => ih i a (h1 ▸ a) (k2 i a b))
theorem ERel.back {ι ι' : Nat → Option Loc} (hg : Grows ι ι') : ∀ {a b0 b : List MapEntry}, ERel ι a b0 → ERel ι' a b → ERel ι a b
 | [], [], [], _, _ => trivial
 | _ :: _, _ :: _, _ :: _, ⟨⟨_, _, h4⟩, h⟩, ⟨⟨k2, k3, k4⟩, k⟩ => ⟨⟨k2, k3, h4.back hg k4⟩, h.back hg k⟩
 | [], _ :: _, _, h, _ => h.elim
 | _ :: _, [], _, h, _ => h.elim
 | [], [], _ :: _, _, k => k.elim
 | _ :: _, _ :: _, [], _, k => k.elim
theorem ORel.back {P : Program} {base : Nat} {ι ι' : Nat → Option Loc} (hg : Grows ι ι') {i : Loc} {w0 w : World} : ∀ {o : AObj}, ORel P base ι i w0 o → ORel P base ι' i w o → ORel P base ι i w o
 | .cells cs e wr, ⟨_, _, _, _, _, h4, _, _⟩, ⟨arr, fz, k1, k2, k3, k4, k5⟩ => ⟨arr, fz, k1, k2, k3, fun j c hc => by
     obtain ⟨v0, _, hv0⟩:=h4 j c hc
     obtain ⟨v, hv, hr⟩:=k4 j c hc
     exact ⟨v, hv, hv0.back hg hr⟩, k5⟩
 | .map es clock wr, ⟨_, _, h2, _⟩, ⟨es', k1, k2, k3⟩ => ⟨es', k1, h2.back hg k2, k3⟩
 | .table f, _, k => k
theorem Inv.back {P : Program} {base : Nat} {w0 : Start} {ι ι' : Nat → Option Loc} {H H' : Nat → Option AObj} {w w' : World} (h : Inv P base w0 ι H w) (h' : Inv P base w0 ι' H' w') (hg : Grows ι ι') (hH : ∀ id, ι id ≠ none → H id = H' id) : Inv P base w0 ι H w' where
 below:=h'.below
 base_le:=h'.base_le
 init:=h.init
 obj:=fun id i o h1 h2 => (h.obj id i o h1 h2).back hg (h'.obj id i o (hg _ _ h1) (by rw [← hH id (by rw [h1]; simp)]; exact h2))
 inj:=h.inj
 lt:=fun id i h1 => h'.lt id i (hg _ _ h1)
 glob:=h.glob
theorem VRel.again {ι ι2 : Nat → Option Loc} (hr : ∀ id i, ι id = some i → ∃ id2, ι2 id2 = some i) {v r : Value} (h : VRel ι v r) : ∃ v2, VRel ι2 v2 r:=by
 induction h with
 | bool b => exact ⟨_, .bool b⟩
 | int k n => exact ⟨_, .int k n⟩
 | float k b => exact ⟨_, .float k b⟩
 | tok id i hi => obtain ⟨id2, h2⟩:=hr id i hi; exact ⟨_, .tok id2 i h2⟩
 | bits m q z hm hz => exact ⟨_, .bits m q z hm hz⟩
 | string s => exact ⟨_, .string s⟩
 | nilPtr => exact ⟨_, .nilPtr⟩
 | ptr id off i hi => obtain ⟨id2, h2⟩:=hr id i hi; exact ⟨_, .ptr id2 off i h2⟩
 | nilSlice => exact ⟨_, .nilSlice⟩
 | slice id off len c cap i ra hi hl hc hx => obtain ⟨id2, h2⟩:=hr id i hi; exact ⟨_, .slice id2 off len c cap i ra h2 hl hc hx⟩
 | nilMap => exact ⟨_, .nilMap⟩
 | map id i hi => obtain ⟨id2, h2⟩:=hr id i hi; exact ⟨_, .map id2 i h2⟩
 | nilFunc => exact ⟨_, .nilFunc⟩
 | func fn f f' c c' h1 h2 h3 h4 ih2 ih4 =>
   exact ⟨_, .func fn (Array.ofFn (n:=f'.size) fun i => Classical.choose (ih2 i.1 (Nat.lt_of_lt_of_eq i.2 h1.symm) i.2)) f' (Array.ofFn (n:=c'.size) fun i => Classical.choose (ih4 i.1 (Nat.lt_of_lt_of_eq i.2 h3.symm) i.2)) c' (by simp)
     (fun i a b => by rw [Array.getElem_ofFn]; exact Classical.choose_spec (ih2 i (Nat.lt_of_lt_of_eq b h1.symm) b)) (by simp) (fun i a b => by rw [Array.getElem_ofFn]; exact Classical.choose_spec (ih4 i (Nat.lt_of_lt_of_eq b h3.symm) b))⟩
 | nilIface => exact ⟨_, .nilIface⟩
 | iface t v v' h ih => obtain ⟨v2, h2⟩:=ih; exact ⟨_, .iface t v2 v' h2⟩
 | agg c c' h1 h2 ih =>
   exact ⟨_, .agg (Array.ofFn (n:=c'.size) fun i => Classical.choose (ih i.1 (Nat.lt_of_lt_of_eq i.2 h1.symm) i.2)) c' (by simp) (fun i a b => by rw [Array.getElem_ofFn]; exact Classical.choose_spec (ih i (Nat.lt_of_lt_of_eq b h1.symm) b))⟩
 | tuple c c' h1 h2 ih =>
   exact ⟨_, .tuple (Array.ofFn (n:=c'.size) fun i => Classical.choose (ih i.1 (Nat.lt_of_lt_of_eq i.2 h1.symm) i.2)) c' (by simp) (fun i a b => by rw [Array.getElem_ofFn]; exact Classical.choose_spec (ih i (Nat.lt_of_lt_of_eq b h1.symm) b))⟩
end Go.Proofs.YtacknhbgfijkcaaGreatDoor.Abs
end
section
/- The engine: pieces of code that are run one behind the other; a sketch whose blocks are only read; slots that hold whatever an earlier round left in them. -/
namespace Go.Proofs.YtacknhbgfijkcaaGreatDoor.Abs
open Go Go.RowKit
section
variable {P : Program} {G : GivenT}
theorem Runs.unique {lim : Nat} {c : Code} {s s1 s2 : ASt} {e1 e2 : AExit} (h : Runs P G lim c s e1 s1) (k : Runs P G lim c s e2 s2) : e1 = e2 ∧ s1 = s2:=by
 obtain ⟨k0, h⟩:=h
 obtain ⟨k1, k⟩:=k
 have:=(h (max k0 k1) (Nat.le_max_left _ _)).symm.trans (k (max k0 k1) (Nat.le_max_right _ _))
 simp only [Option.some.injEq, Prod.mk.injEq] at this
 exact this
theorem RunsOps.unique {lim : Nat} {ops : Array Oper} {os : List Oper} {s s1 s2 : ASt} (h : RunsOps P G lim ops os s s1) (k : RunsOps P G lim ops os s s2) : s1 = s2:=by
 obtain ⟨k0, h⟩:=h
 obtain ⟨k1, k⟩:=k
 have:=(h (max k0 k1) (Nat.le_max_left _ _)).symm.trans (k (max k0 k1) (Nat.le_max_right _ _))
 simp only [Option.some.injEq, Prod.mk.injEq, true_and] at this
 exact this
def ChainR (P : Program) (G : GivenT) (lim : Nat) : List Code → ASt → AExit → ASt → Prop
 | [], s, e, s' => e = .normal ∧ s' = s
 | c :: r, s, e, s' => (∃ s1, Runs P G lim c s .normal s1 ∧ ChainR P G lim r s1 e s') ∨ (e ≠ .normal ∧ Runs P G lim c s e s')
theorem ChainR.unique {lim : Nat} : ∀ {cs : List Code} {s s1 s2 : ASt} {e1 e2 : AExit}, ChainR P G lim cs s e1 s1 → ChainR P G lim cs s e2 s2 → e1 = e2 ∧ s1 = s2
 | [], s, s1, s2, e1, e2, ⟨h1, h2⟩, ⟨k1, k2⟩ => ⟨h1.trans k1.symm, h2.trans k2.symm⟩
 | c :: r, s, s1, s2, e1, e2, .inl ⟨t, h1, h2⟩, .inl ⟨u, k1, k2⟩ => by
   obtain ⟨_, rfl⟩:=h1.unique k1
   exact ChainR.unique h2 k2
 | c :: r, s, s1, s2, e1, e2, .inl ⟨t, h1, h2⟩, .inr ⟨hn, k⟩ => absurd (h1.unique k).1.symm hn
 | c :: r, s, s1, s2, e1, e2, .inr ⟨hn, h⟩, .inl ⟨u, k1, k2⟩ => absurd (h.unique k1).1 hn
 | c :: r, s, s1, s2, e1, e2, .inr ⟨hn, h⟩, .inr ⟨_, k⟩ => h.unique k
def nest : List Code → Code → Code
 | [], z => z
 | c :: r, z => .seq c (nest r z)
section
variable {base : Nat} {w0 : Start}
theorem Runs.ok (hP : noNG P = true) (hD : DrawOk P base w0) (hG : GivenOk P base w0 G) {lim : Nat} {c : Code} {s s' : ASt} {e : AExit} (h : Runs P G lim c s e s') : s.h.n ≤ s'.h.n ∧
   ∀ ι a w, Inv P base w0 ι s.h.t.get w → EnvRel ι s.E a.tmps → lim ≤ a.tmps.size → P.globals.size ≤ s.h.n → (∀ id, s.h.n ≤ id → ι id = none) → c.wp P (Post P base w0 ι lim s a e s') a w:=by
 obtain ⟨k, h⟩:=h
 exact (exec_ok hP hD hG k).1 _ _ _ _ _ (h k (Nat.le_refl _))
theorem ChainR.n (hP : noNG P = true) (hD : DrawOk P base w0) (hG : GivenOk P base w0 G) {lim : Nat} : ∀ {cs : List Code} {s s' : ASt} {e : AExit}, ChainR P G lim cs s e s' → s.h.n ≤ s'.h.n
 | [], s, s', e, ⟨_, h⟩ => by rw [h]; exact Nat.le_refl _
 | c :: r, s, s', e, .inl ⟨t, h1, h2⟩ => Nat.le_trans (h1.ok hP hD hG).1 (ChainR.n hP hD hG h2)
 | c :: r, s, s', e, .inr ⟨_, h⟩ => (h.ok hP hD hG).1
theorem ChainR.ok (hP : noNG P = true) (hD : DrawOk P base w0) (hG : GivenOk P base w0 G) {lim : Nat} {z : Code} {Q : Exit → Act → World → Prop} : ∀ {cs : List Code} {s s' : ASt} {e : AExit} {ι : Nat → Option Loc} {a : Act} {w : World}, ChainR P G lim cs s e s' →
   Inv P base w0 ι s.h.t.get w → EnvRel ι s.E a.tmps → lim ≤ a.tmps.size → P.globals.size ≤ s.h.n → (∀ id, s.h.n ≤ id → ι id = none) →
   (∀ e' a' w', Post P base w0 ι lim s a e s' e' a' w' → Exit.then (z.wp P Q) Q e' a' w') → (nest cs z).wp P Q a w
 | [], s, s', e, ι, a, w, ⟨he, hs⟩, hI, hE, hl, hg, hf, hq => by
   subst he hs
   exact hq .normal a w ⟨ι, Turn.refl _ _ _, hI, hE, hl, rfl, rfl⟩
 | c :: r, s, s', e, ι, a, w, .inl ⟨t, h1, h2⟩, hI, hE, hl, hg, hf, hq => by
   obtain ⟨hn, h1⟩:=h1.ok hP hD hG
   refine wp_seq (wp_mono (h1 ι a w hI hE hl hg hf) fun e1 a1 w1 hp => ?_)
   obtain ⟨ι1, t1, hI1, hE1, hl1, hd1, hx1⟩:=hp
   subst hx1
   exact ChainR.ok hP hD hG h2 hI1 hE1 hl1 (Nat.le_trans hg hn) (t1.fresh hf) fun e' a' w' hp => hq e' a' w' (Post.after t1 hd1 hp)
 | c :: r, s, s', e, ι, a, w, .inr ⟨hne, h⟩, hI, hE, hl, hg, hf, hq => by
   refine wp_seq (wp_mono ((h.ok hP hD hG).2 ι a w hI hE hl hg hf) fun e1 a1 w1 hp => ?_)
   have hk:=hq e1 a1 w1 hp
   obtain ⟨ι1, t1, hI1, hE1, hl1, hd1, hx1⟩:=hp
   cases e with
   | normal => exact absurd rfl hne
   | exit id => subst hx1; exact hk
   | ret => subst hx1; exact hk
   | pan v => obtain ⟨v', hx1, _⟩:=hx1; subst hx1; exact hk
theorem RunsOps.ok (hP : noNG P = true) (hD : DrawOk P base w0) (hG : GivenOk P base w0 G) {lim : Nat} {ops : Array Oper} {os : List Oper} {s s' : ASt} (h : RunsOps P G lim ops os s s') : s.h.n ≤ s'.h.n ∧
   ∀ {l : List Nat} {ι a w}, l.map (ops[·]?) = os.map some → Inv P base w0 ι s.h.t.get w → EnvRel ι s.E a.tmps → lim ≤ a.tmps.size → P.globals.size ≤ s.h.n → (∀ id, s.h.n ≤ id → ι id = none) → wpOps P ops (Post P base w0 ι lim s a .normal s') l a w:=by
 obtain ⟨k, h⟩:=h
 have hcf : CallOk P base w0 (callBy P G (exec P G k)):=callBy_ok hG (exec_ok hP hD hG k).1
 have h:=h k (Nat.le_refl _)
 exact ⟨aops_n hcf h, fun hl hI hE hlim hg hf => aops_ok hP hcf hl h hI hE hlim hg hf⟩
end
theorem wp_exits {o : Oper} {a : Act} {w : World} {K : Act → World → Prop} {Q Q' : Exit → Act → World → Prop} (hq : ∀ e a w, e ≠ .normal → Q' e a w → Q e a w) (h : o.wp P a w K Q') : o.wp P a w K Q:=by
 have lo : LetsOut Q' → LetsOut Q:=fun ⟨a, w, x⟩ => ⟨a, w, hq _ _ _ (fun e => by cases e) x⟩
 unfold Oper.wp at h ⊢
 generalize (execOp a.eval o).run P w = r at h ⊢
 cases r with
 | ok n w' =>
   cases n with
   | enter f args =>
     refine Calls.mono (show Calls P f args w' _ from h) fun e w2 hx => ?_
     cases e with
     | returned v => exact hx
     | panicked chain => exact hq _ _ _ (fun e => by cases e) hx
     | outgrown => exact lo hx
   | _ => exact h
 | halt hl w' =>
   cases hl with
   | panic v => exact hq _ _ _ (fun e => by cases e) h
   | _ => exact h
theorem inBlock_hit {id : Nat} {Q : Exit → Act → World → Prop} {a : Act} {w : World} (h : Q .normal a w) : Exit.inBlock id Q (.exit id) a w:=by
 simp only [Exit.inBlock, if_true]
 exact h
theorem wpOps_append {ops : Array Oper} {Q : Exit → Act → World → Prop} {r : List Nat} : ∀ (l : List Nat) (a : Act) (w : World), wpOps P ops (Exit.then (wpOps P ops Q r) Q) l a w → wpOps P ops Q (l ++ r) a w
 | [], a, w, h => h
 | i :: l, a, w, h => by
   have hq : ∀ e a w, e ≠ .normal → Exit.then (wpOps P ops Q r) Q e a w → Q e a w:=fun e a w hne hx => by
     cases e <;> first | exact hx | exact absurd rfl hne
   rw [List.cons_append]
   unfold wpOps at h ⊢
   cases ho : ops[i]? with
   | none =>
     rw [ho] at h
     exact wpOps_append l a w h
   | some o =>
     rw [ho] at h
     dsimp only at h ⊢
     split at h
     · rename_i hw
       rw [if_pos hw]
       rcases h with h | ⟨h1, a', w', h2⟩
       · exact .inl (wp_exits hq (Oper.wp_mono (fun a w h => wpOps_append l a w h) h))
       · exact .inr ⟨h1, a', w', hq _ _ _ (fun e => by cases e) h2⟩
     · rename_i hw
       rw [if_neg hw]
       exact wpOps_append l _ w h
noncomputable def chainC (P : Program) (R : Ops) (C : Callees) (lim x : Nat) : List (Code × Nat) → SE → Hp → (AX → SE → Hp → Bool) → Bool
 | [], E, h, K => K .normal E h
 | (c, n) :: r, E, h, K => compC P R C lim c n x E h (seqK (fun E' h' => chainC P R C lim x r E' h' K) K)
theorem chainC_ok {C : Callees} (hC : COk P G C) {lim x : Nat} : ∀ (cs : List (Code × Nat)) {E ET : Tr Value} {h : Hp} {K : AX → SE → Hp → Bool}, SubE E ET → chainC P (theOps P) C lim x cs E h K = true →
   ∃ e s' E', ChainR P G lim (cs.map (·.1)) ⟨ET, h⟩ (toE e) s' ∧ SubE E' s'.E ∧ K e E' s'.h = true
 | [], E, ET, h, K, hs, hk => ⟨.normal, ⟨ET, h⟩, E, ⟨rfl, rfl⟩, hs, hk⟩
 | (c, n) :: r, E, ET, h, K, hs, hk => by
   obtain ⟨e, s1, E1, hr, hs1, hk⟩:=compC_ok hC c hs (show compC P (theOps P) C lim c n x E h (seqK (fun E' h' => chainC P (theOps P) C lim x r E' h' K) K) = true from hk)
   cases e with
   | normal =>
     obtain ⟨e2, s2, E2, hr2, hs2, hk⟩:=chainC_ok hC r hs1 (show chainC P (theOps P) C lim x r E1 s1.h K = true from hk)
     exact ⟨e2, s2, E2, .inl ⟨s1, hr, hr2⟩, hs2, hk⟩
   | exit id => exact ⟨.exit id, s1, E1, .inr ⟨fun e => (by cases e), hr⟩, hs1, hk⟩
   | ret => exact ⟨.ret, s1, E1, .inr ⟨fun e => (by cases e), hr⟩, hs1, hk⟩
end
def AObj.ro : AObj → AObj
 | .cells cs e _ => .cells cs e false
 | .map es c _ => .map es c false
 | .table f => .table f
noncomputable def roV (v : Option AObj) (K : Option AObj → Bool) : Bool:=Option.rec (motive:=fun _ => Bool) (K none) (fun o => AObj.rec (motive:=fun _ => Bool) (fun cs e _ => K (some (.cells cs e false))) (fun es c _ => K (some (.map es c false))) (fun f => K (some (.table f))) o) v
theorem roV_eq (v : Option AObj) (K : Option AObj → Bool) : roV v K = K (v.map AObj.ro):=by
 cases v with
 | none => rfl
 | some o => cases o <;> rfl
noncomputable def roD (n : Nat) (k : Nat) : Nat → Nat → TD AObj k → TD AObj k:=Nat.rec (motive:=fun k => Nat → Nat → TD AObj k → TD AObj k)
 (fun _ s t => Bool.rec (motive:=fun _ => Option AObj) none (Option.map AObj.ro t) (Nat.ble (Nat.succ s) n))
 (fun k ih a s t => Bool.rec (motive:=fun _ => N8 (TD AObj k)) (empD AObj (Nat.succ k)) ⟨ih (Nat.mul 8 a) (Nat.add (Nat.mul 0 a) s) (N8.a t), ih (Nat.mul 8 a) (Nat.add (Nat.mul 1 a) s) (N8.b t), ih (Nat.mul 8 a) (Nat.add (Nat.mul 2 a) s) (N8.c t), ih (Nat.mul 8 a) (Nat.add (Nat.mul 3 a) s) (N8.d t), ih (Nat.mul 8 a) (Nat.add (Nat.mul 4 a) s) (N8.e t), ih (Nat.mul 8 a) (Nat.add (Nat.mul 5 a) s) (N8.f t), ih (Nat.mul 8 a) (Nat.add (Nat.mul 6 a) s) (N8.g t), ih (Nat.mul 8 a) (Nat.add (Nat.mul 7 a) s) (N8.h t)⟩ (Nat.ble (Nat.succ s) n)) k
noncomputable def roDK (n : Nat) (k : Nat) : Nat → Nat → TD AObj k → (TD AObj k → Bool) → Bool:=Nat.rec (motive:=fun k => Nat → Nat → TD AObj k → (TD AObj k → Bool) → Bool)
 (fun _ s t K => Bool.rec (motive:=fun _ => Bool) (K (none : Option AObj)) (roV t K) (Nat.ble (Nat.succ s) n))
 (fun k ih a s t K => Bool.rec (motive:=fun _ => Bool) (K (empD AObj (Nat.succ k))) (N8.rec (motive:=fun _ => Bool) (fun a0 b0 c0 d0 e0 f0 g0 h0 => ih (Nat.mul 8 a) (Nat.add (Nat.mul 0 a) s) a0 fun a1 => ih (Nat.mul 8 a) (Nat.add (Nat.mul 1 a) s) b0 fun b1 => ih (Nat.mul 8 a) (Nat.add (Nat.mul 2 a) s) c0 fun c1 => ih (Nat.mul 8 a) (Nat.add (Nat.mul 3 a) s) d0 fun d1 => ih (Nat.mul 8 a) (Nat.add (Nat.mul 4 a) s) e0 fun e1 => ih (Nat.mul 8 a) (Nat.add (Nat.mul 5 a) s) f0 fun f1 => ih (Nat.mul 8 a) (Nat.add (Nat.mul 6 a) s) g0 fun g1 => ih (Nat.mul 8 a) (Nat.add (Nat.mul 7 a) s) h0 fun h1 => K (⟨a1, b1, c1, d1, e1, f1, g1, h1⟩ : N8 (TD AObj k))) t) (Nat.ble (Nat.succ s) n)) k
theorem roDK_eq (n : Nat) : ∀ (k a s : Nat) (t : TD AObj k) (K : TD AObj k → Bool), roDK n k a s t K = K (roD n k a s t)
 | 0, a, s, t, K => by
   show Bool.rec (motive:=fun _ => Bool) (K (none : Option AObj)) (roV t K) (Nat.ble (Nat.succ s) n) = K (Bool.rec (motive:=fun _ => Option AObj) none (Option.map AObj.ro t) (Nat.ble (Nat.succ s) n))
   cases Nat.ble (Nat.succ s) n with
   | false => rfl
   | true => exact roV_eq t K
 | k + 1, a, s, t, K => by
   have ih:=roDK_eq n k
   obtain ⟨a0, b0, c0, d0, e0, f0, g0, h0⟩:=t
   show Bool.rec (motive:=fun _ => Bool) (K (empD AObj (Nat.succ k))) (roDK n k (Nat.mul 8 a) (Nat.add (Nat.mul 0 a) s) a0 fun a1 => roDK n k (Nat.mul 8 a) (Nat.add (Nat.mul 1 a) s) b0 fun b1 => roDK n k (Nat.mul 8 a) (Nat.add (Nat.mul 2 a) s) c0 fun c1 => roDK n k (Nat.mul 8 a) (Nat.add (Nat.mul 3 a) s) d0 fun d1 => roDK n k (Nat.mul 8 a) (Nat.add (Nat.mul 4 a) s) e0 fun e1 => roDK n k (Nat.mul 8 a) (Nat.add (Nat.mul 5 a) s) f0 fun f1 => roDK n k (Nat.mul 8 a) (Nat.add (Nat.mul 6 a) s) g0 fun g1 => roDK n k (Nat.mul 8 a) (Nat.add (Nat.mul 7 a) s) h0 fun h1 => K (⟨a1, b1, c1, d1, e1, f1, g1, h1⟩ : N8 (TD AObj k))) (Nat.ble (Nat.succ s) n) = K (Bool.rec (motive:=fun _ => N8 (TD AObj k)) (empD AObj (Nat.succ k)) ⟨roD n k (Nat.mul 8 a) (Nat.add (Nat.mul 0 a) s) a0, roD n k (Nat.mul 8 a) (Nat.add (Nat.mul 1 a) s) b0, roD n k (Nat.mul 8 a) (Nat.add (Nat.mul 2 a) s) c0, roD n k (Nat.mul 8 a) (Nat.add (Nat.mul 3 a) s) d0, roD n k (Nat.mul 8 a) (Nat.add (Nat.mul 4 a) s) e0, roD n k (Nat.mul 8 a) (Nat.add (Nat.mul 5 a) s) f0, roD n k (Nat.mul 8 a) (Nat.add (Nat.mul 6 a) s) g0, roD n k (Nat.mul 8 a) (Nat.add (Nat.mul 7 a) s) h0⟩ (Nat.ble (Nat.succ s) n))
   cases Nat.ble (Nat.succ s) n with
   | false => rfl
   | true =>
     exact (ih _ _ _ _).trans ((ih _ _ _ _).trans ((ih _ _ _ _).trans ((ih _ _ _ _).trans ((ih _ _ _ _).trans ((ih _ _ _ _).trans ((ih _ _ _ _).trans (ih _ _ _ _)))))))
theorem at8_F {B : Type} (F : Nat → B → B) (t : N8 B) {d : Nat} (hd : d < 8) : at8 (⟨F 0 t.a, F 1 t.b, F 2 t.c, F 3 t.d, F 4 t.e, F 5 t.f, F 6 t.g, F 7 t.h⟩ : N8 B) d = F d (at8 t d):=by
 rcases below8 hd with h | h | h | h | h | h | h | h <;> subst h <;> rfl
theorem roD_get (n : Nat) : ∀ (k a s m : Nat) (t : TD AObj k), m < 8 ^ k → (lensD AObj k m).get (roD n k a s t) = if a * m + s < n then ((lensD AObj k m).get t).map AObj.ro else none
 | 0, a, s, m, t, hm => by
   have h0 : m = 0:=by simpa using hm
   subst h0
   rw [Nat.mul_zero, Nat.zero_add]
   have key : ∀ t : Option AObj, Bool.rec (motive:=fun _ => Option AObj) none (Option.map AObj.ro t) (Nat.ble (Nat.succ s) n) = if s < n then Option.map AObj.ro t else none:=by
     intro t
     cases hb : Nat.ble (Nat.succ s) n with
     | false => rw [if_neg (fun h => by rw [Nat.ble_eq_true_of_le h] at hb; cases hb)]
     | true => rw [if_pos (show s < n from Nat.le_of_ble_eq_true hb)]
   exact key t
 | k + 1, a, s, m, t, hm => by
   have h8 : m % 8 < 8:=Nat.mod_lt _ (by decide)
   have hq : m = 8 * (m / 8) + m % 8:=by omega
   rw [Nat.pow_succ] at hm
   have key : ∀ (t : N8 (TD AObj k)), (lnc (lensD AObj k (m / 8)) (m % 8)).get (Bool.rec (motive:=fun _ => N8 (TD AObj k)) (empD AObj (Nat.succ k)) ⟨roD n k (Nat.mul 8 a) (Nat.add (Nat.mul 0 a) s) t.a, roD n k (Nat.mul 8 a) (Nat.add (Nat.mul 1 a) s) t.b, roD n k (Nat.mul 8 a) (Nat.add (Nat.mul 2 a) s) t.c, roD n k (Nat.mul 8 a) (Nat.add (Nat.mul 3 a) s) t.d, roD n k (Nat.mul 8 a) (Nat.add (Nat.mul 4 a) s) t.e, roD n k (Nat.mul 8 a) (Nat.add (Nat.mul 5 a) s) t.f, roD n k (Nat.mul 8 a) (Nat.add (Nat.mul 6 a) s) t.g, roD n k (Nat.mul 8 a) (Nat.add (Nat.mul 7 a) s) t.h⟩ (Nat.ble (Nat.succ s) n)) = if a * m + s < n then ((lnc (lensD AObj k (m / 8)) (m % 8)).get t).map AObj.ro else none:=by
     intro t
     cases hb : Nat.ble (Nat.succ s) n with
     | false =>
       have hn : ¬ s < n:=fun h => by rw [Nat.ble_eq_true_of_le h] at hb; cases hb
       rw [if_neg (fun h => hn (Nat.lt_of_le_of_lt (Nat.le_add_left _ _) h)), lnc_get _ h8]
       have e : at8 (empD AObj (Nat.succ k) : N8 (TD AObj k)) (m % 8) = empD AObj k:=at8_same _ h8
       exact (congrArg (lensD AObj k (m / 8)).get e).trans (empD_get AObj k _)
     | true =>
       show (lnc (lensD AObj k (m / 8)) (m % 8)).get ⟨roD n k (Nat.mul 8 a) (Nat.add (Nat.mul 0 a) s) t.a, roD n k (Nat.mul 8 a) (Nat.add (Nat.mul 1 a) s) t.b, roD n k (Nat.mul 8 a) (Nat.add (Nat.mul 2 a) s) t.c, roD n k (Nat.mul 8 a) (Nat.add (Nat.mul 3 a) s) t.d, roD n k (Nat.mul 8 a) (Nat.add (Nat.mul 4 a) s) t.e, roD n k (Nat.mul 8 a) (Nat.add (Nat.mul 5 a) s) t.f, roD n k (Nat.mul 8 a) (Nat.add (Nat.mul 6 a) s) t.g, roD n k (Nat.mul 8 a) (Nat.add (Nat.mul 7 a) s) t.h⟩ = _
       rw [lnc_get _ h8, at8_F (fun d x => roD n k (Nat.mul 8 a) (Nat.add (Nat.mul d a) s) x) t h8, roD_get n k _ _ _ _ (by omega), lnc_get _ h8]
       have e : Nat.mul 8 a * (m / 8) + Nat.add (Nat.mul (m % 8) a) s = a * m + s:=by
         show 8 * a * (m / 8) + (m % 8 * a + s) = a * m + s
         have e1 : a * m = a * (8 * (m / 8)) + a * (m % 8):=by rw [← Nat.mul_add, ← hq]
         have e2 : 8 * a * (m / 8) = a * (8 * (m / 8)):=by rw [Nat.mul_comm 8 a, Nat.mul_assoc]
         have e3 : m % 8 * a = a * (m % 8):=Nat.mul_comm _ _
         rw [e1, e2, e3, Nat.add_assoc]
       rw [e]
   rw [lensD_succ]
   exact key t
noncomputable def roT (n : Nat) (t : Tr AObj) (a s : Nat) : Tr AObj:=⟨roD n 6 a s t.s, fun m => if a * m + s < n then (t.o m).map AObj.ro else none⟩
theorem roT_get (n : Nat) (t : Tr AObj) (a s k : Nat) : (roT n t a s).get k = if a * k + s < n then (t.get k).map AObj.ro else none:=by
 unfold roT Tr.get
 cases hk : Nat.ble k 262143 with
 | false => rfl
 | true =>
   have:=Nat.le_of_ble_eq_true hk
   exact roD_get n 6 a s k t.s (by omega)
noncomputable def roK (n : Nat) (t : Tr AObj) (a s : Nat) (K : Tr AObj → Bool) : Bool:=Tr.rec (motive:=fun _ => Bool) (fun T o => roDK n 6 a s T fun T' => K ⟨T', fun m => if a * m + s < n then (o m).map AObj.ro else none⟩) t
theorem roK_eq (n : Nat) (t : Tr AObj) (a s : Nat) (K : Tr AObj → Bool) : roK n t a s K = K (roT n t a s):=by
 obtain ⟨T, o⟩:=t
 show roDK n 6 a s T (fun T' => K ⟨T', _⟩) = _
 rw [roDK_eq]
 rfl
section
variable {P : Program} {base : Nat} {w0 : Start} {ι ι' : Nat → Option Loc} {H H' : Nat → Option AObj} {w w' : World}
theorem Inv.sub (h : Inv P base w0 ι H w) (hs : ∀ id o, H' id = some o → H id = some o) : Inv P base w0 ι H' w where
 below:=h.below
 base_le:=h.base_le
 init:=h.init
 obj:=fun id i o h1 h2 => h.obj id i o h1 (hs _ _ h2)
 inj:=fun id id' i i' o o' h1 h2 h3 h4 => h.inj id id' i i' o o' h1 h2 (hs _ _ h3) (hs _ _ h4)
 lt:=h.lt
 glob:=fun g hg hi => by
   obtain ⟨o, ho⟩:=Option.isSome_iff_exists.1 hi
   exact h.glob g hg (by rw [hs _ _ ho]; rfl)
theorem Inv.wide (h : Inv P base w0 ι H w) (hg : Grows ι ι') (hn : ∀ id o, H id = some o → ι' id = ι id) (hl : ∀ id i, ι' id = some i → i.rb < w.heap.size) : Inv P base w0 ι' H w where
 below:=h.below
 base_le:=h.base_le
 init:=h.init.trans hg
 obj:=fun id i o h1 h2 => (h.obj id i o (by rw [← hn _ _ h2]; exact h1) h2).grow hg rfl
 inj:=fun id id' i i' o o' h1 h2 h3 h4 => h.inj id id' i i' o o' (by rw [← hn _ _ h3]; exact h1) (by rw [← hn _ _ h4]; exact h2) h3 h4
 lt:=hl
 glob:=fun g hg' hi => by
   obtain ⟨i, h1, h2⟩:=h.glob g hg' hi
   exact ⟨i, hg _ _ h1, h2⟩
theorem Inv.ro (h : Inv P base w0 ι H w) : Inv P w.heap.size ⟨w, ι⟩ ι (fun id => (H id).map AObj.ro) w where
 below:=Below.refl _ _
 base_le:=Nat.le_refl _
 init:=Grows.refl _
 obj:=fun id i o h1 h2 => by
   obtain ⟨o', h3, rfl⟩:=Option.map_eq_some_iff.1 h2
   have:=h.obj id i o' h1 h3
   cases o' with
   | cells cs e wr =>
     obtain ⟨arr, fz, a1, a2, a3, a4, a5, _⟩:=this
     exact ⟨arr, fz, a1, a2, a3, a4, a5, fun x => by cases x⟩
   | map es c wr =>
     obtain ⟨es', a1, a2, _⟩:=this
     exact ⟨es', a1, a2, fun x => by cases x⟩
   | table f => exact this
 inj:=fun id id' i i' o o' h1 h2 h3 h4 hne hw => by
   obtain ⟨o2, _, rfl⟩:=Option.map_eq_some_iff.1 h3
   cases o2 <;> cases hw
 lt:=h.lt
 glob:=fun g hg hi => h.glob g hg (by rw [Option.isSome_map] at hi; exact hi)
def Slots (ι : Nat → Option Loc) (tmps : Array Value) : Prop:=∀ t, ∃ v, VRel ι v (tmps.getD t undef)
theorem EnvRel.slots {E : Tr Value} {tmps : Array Value} (h : EnvRel ι E tmps) : Slots ι tmps:=fun t => ⟨_, h t⟩
theorem Slots.grow (hg : Grows ι ι') {tmps : Array Value} (h : Slots ι tmps) : Slots ι' tmps:=fun t => let ⟨v, hv⟩:=h t; ⟨v, hv.grow hg⟩
theorem Slots.set {tmps : Array Value} (h : Slots ι tmps) (t : Nat) {v r : Value} (hv : VRel ι v r) : Slots ι (tmps.setIfInBounds t r):=fun u => by
 by_cases e : u = t ∧ u < tmps.size
 · obtain ⟨rfl, hu⟩:=e
   refine ⟨v, ?_⟩
   rw [Array.getD_eq_getD_getElem?, Array.getElem?_setIfInBounds, if_pos rfl, if_pos hu]
   exact hv
 · obtain ⟨x, hx⟩:=h u
   refine ⟨x, ?_⟩
   have : (tmps.setIfInBounds t r).getD u undef = tmps.getD u undef:=by
     rw [Array.getD_eq_getD_getElem?, Array.getD_eq_getD_getElem?, Array.getElem?_setIfInBounds]
     split
     · rename_i h1
       split
       · exact absurd ⟨h1.symm, by rw [← h1]; assumption⟩ e
       · rename_i h2
         rw [Array.getElem?_eq_none (by omega)]
     · rfl
   rw [this]
   exact hx
theorem Slots.put {a : Act} (h : Slots ι a.tmps) (d : Option Tmp) {v r : Value} (hv : VRel ι v r) : Slots ι (a.put d r).tmps:=by
 cases d with
 | none => exact h
 | some t => exact h.set t hv
theorem env_exists {E : Tr Value} {tmps : Array Value} (hs : Slots ι tmps) (hE : ∀ t v, E.get t = some v → VRel ι v (tmps.getD t undef)) : ∃ ET, SubE E ET ∧ EnvRel ι ET tmps:=by
 have key : ∀ L, ∃ ET : Tr Value, SubE E ET ∧ (∀ t, t < L → ∃ v, ET.get t = some v ∧ VRel ι v (tmps.getD t undef)) ∧ ∀ t, L ≤ t → ET.get t = E.get t:=by
   intro L
   induction L with
   | zero => exact ⟨E, fun _ _ h => h, fun t h => by omega, fun _ _ => rfl⟩
   | succ L ih =>
     obtain ⟨ET, h1, h2, h3⟩:=ih
     cases hL : E.get L with
     | some v =>
       refine ⟨ET, h1, fun t ht => ?_, fun t ht => h3 t (by omega)⟩
       by_cases e : t < L
       · exact h2 t e
       · obtain rfl : t = L:=by omega
         exact ⟨v, h1 _ _ hL, hE _ _ hL⟩
     | none =>
       obtain ⟨v, hv⟩:=hs L
       refine ⟨ET.set L (some v), fun t u hu => ?_, fun t ht => ?_, fun t ht => ?_⟩
       · rw [Tr.get_set_ne _ _ _ _ (fun e => by rw [e, hL] at hu; cases hu)]
         exact h1 t u hu
       · by_cases e : t = L
         · subst e
           exact ⟨v, Tr.get_set_eq _ _ _, hv⟩
         · rw [Tr.get_set_ne _ _ _ _ e]
           exact h2 t (by omega)
       · rw [Tr.get_set_ne _ _ _ _ (by omega)]
         exact h3 t (by omega)
 obtain ⟨ET, h1, h2, h3⟩:=key tmps.size
 refine ⟨ET, h1, fun t => ?_⟩
 by_cases ht : t < tmps.size
 · obtain ⟨v, hv, hr⟩:=h2 t ht
   rw [hv]
   exact hr
 · rw [h3 t (by omega)]
   cases hg : E.get t with
   | some v => exact hE t v hg
   | none =>
     have : tmps.getD t undef = undef:=by rw [Array.getD_eq_getD_getElem?, Array.getElem?_eq_none (by omega)]; rfl
     rw [this]
     exact undef_rel
noncomputable def later (m N n' : Nat) (ι ι' : Nat → Option Loc) : Nat → Option Loc:=fun id => if id < m then ι id else if id < m + (n' - N) then ι' (id - m + N) else none
theorem later_grows {m N n' : Nat} (hm : ∀ id, m ≤ id → ι id = none) : Grows ι (later m N n' ι ι'):=fun id i h => by
 have hlt : id < m:=by
   apply Classical.byContradiction
   intro hn
   rw [hm id (by omega)] at h
   cases h
 unfold later
 rw [if_pos hlt]
 exact h
theorem later_free {m N n' : Nat} : ∀ id, m + (n' - N) ≤ id → later m N n' ι ι' id = none:=fun id h => by
 unfold later
 rw [if_neg (by omega), if_neg (by omega)]
theorem later_low {m N n' : Nat} {id : Nat} (h : id < m) : later m N n' ι ι' id = ι id:=by
 unfold later
 rw [if_pos h]
theorem later_all {m N n' : Nat} (hm : ∀ id, m ≤ id → ι id = none) (ho : ∀ id, ¬ (N ≤ id ∧ id < n') → ι' id = ι id) : ∀ id i, ι' id = some i → ∃ id2, later m N n' ι ι' id2 = some i:=fun id i h => by
 by_cases e : N ≤ id ∧ id < n'
 · refine ⟨id - N + m, ?_⟩
   unfold later
   rw [if_neg (by omega), if_pos (by omega), show id - N + m - m + N = id by omega]
   exact h
 · rw [ho id e] at h
   exact ⟨id, later_grows hm id i h⟩
theorem later_from {m N n' : Nat} : ∀ id i, later m N n' ι ι' id = some i → ι id = some i ∨ ∃ id2, ι' id2 = some i:=fun id i h => by
 unfold later at h
 split at h
 · exact .inl h
 · split at h
   · exact .inr ⟨_, h⟩
   · cases h
theorem Slots.later {m N n' : Nat} (hm : ∀ id, m ≤ id → ι id = none) (ho : ∀ id, ¬ (N ≤ id ∧ id < n') → ι' id = ι id) {tmps : Array Value} (h : Slots ι' tmps) : Slots (later m N n' ι ι') tmps:=fun t => by
 obtain ⟨v, hv⟩:=h t
 exact hv.again (later_all hm ho)
end
end Go.Proofs.YtacknhbgfijkcaaGreatDoor.Abs
end
